/- The walk of TopKill: for every input it returns true. No condition. -/
import Derived.Test.YtlhekbjidppijaaGreatMBQ
import Derived.Test.YtlhekbjidppijaaGreatLHa
import Derived.Test.YtlhekbjidppijaaGreatLHb
import Derived.Test.YtlhekbjidppijaaGreatLHc
set_option linter.unusedVariables false
set_option linter.unusedSimpArgs false
namespace Go.Proofs.Ytlhekbjidppijaa
open Go.RowKit
def xAt (a : Int) (i : Nat) : Int:=IntKind.i64.wrap (a + (i : Int))
theorem xAt_eq (a : Int) (i : Nat) : xAt a i = (a + (i : Int) + 9223372036854775808) % 18446744073709551616 - 9223372036854775808:=by unfold xAt;rw [IntKind.wrap_i64]
theorem xAt_wf (a : Int) (i : Nat) : (Lit.int .i64 (xAt a i)).wf = true:=by
 rw [xAt_eq]
 simp only [Lit.wf,IntKind.min,IntKind.max,IntKind.signed,IntKind.bits]
 simp
 omega
theorem smallF3 (x : Int) : smallF x 3 = x.natAbs % 3:=by
 unfold smallF
 rw [Int.natAbs_tmod]
 rfl
def stAt (a : Int) (i : Nat) : Nat × Nat:=(if 0 <= a then (if 0 <= xAt a i then 0 else 3) else (if xAt a i <= 0 then 1 else 2),smallF (xAt a i) 3)
theorem st_nxt (a : Int) (i : Nat) (h1 : -9223372036854775808 <= a) (h2 : a <= 9223372036854775807) (hi : i < 10) : stAt a (i + 1) ∈ nxt3 (stAt a i).1 (stAt a i).2:=by
 have e1:=xAt_eq a i
 have e2:=xAt_eq a (i + 1)
 unfold stAt
 simp only [smallF3]
 generalize xAt a i = X at *
 generalize xAt a (i + 1) = Y at *
 have hc : Y = X + 1 \/ (X = 9223372036854775807 /\ Y = -9223372036854775808 /\ 0 <= a):=by omega
 by_cases ha : 0 <= a
 ·rw [if_pos ha,if_pos ha]
  by_cases hX : 0 <= X
  ·rw [if_pos hX]
   unfold nxt3
   rw [if_pos rfl]
   rcases hc with rfl | ⟨rfl,rfl,-⟩
   ·rw [if_pos (show (0 : Int) <= X + 1 by omega)]
    have : (X + 1).natAbs % 3 = (X.natAbs % 3 + 1) % 3:=by omega
    rw [this]
    exact List.mem_cons_self
   ·decide
  ·rw [if_neg hX,if_neg (by omega)]
   have : Y.natAbs % 3 = (X.natAbs % 3 + 2) % 3:=by omega
   rw [this]
   unfold nxt3
   rw [if_neg (by decide),if_neg (by decide),if_neg (by decide)]
   exact List.mem_cons_self
 ·rw [if_neg ha,if_neg ha]
  have hY : Y = X + 1:=by omega
  subst hY
  by_cases hX : X <= 0
  ·rw [if_pos hX]
   unfold nxt3
   rw [if_neg (by decide),if_pos rfl]
   by_cases h0 : X = 0
   ·subst h0
    decide
   ·rw [if_pos (show X + 1 <= 0 by omega)]
    have : (X + 1).natAbs % 3 = (X.natAbs % 3 + 2) % 3:=by omega
    rw [this]
    exact List.mem_cons_self
  ·rw [if_neg hX,if_neg (by omega)]
   have : (X + 1).natAbs % 3 = (X.natAbs % 3 + 1) % 3:=by omega
   rw [this]
   unfold nxt3
   rw [if_neg (by decide),if_neg (by decide),if_pos rfl]
   exact List.mem_cons_self
theorem st_zero (a : Int) (h1 : -9223372036854775808 <= a) (h2 : a <= 9223372036854775807) : stAt a 0 ∈ [(0,0),(0,1),(0,2),(1,0),(1,1),(1,2)]:=by
 have e1 : xAt a 0 = a:=by rw [xAt_eq];omega
 unfold stAt
 rw [e1,smallF3]
 by_cases ha : 0 <= a
 ·rw [if_pos ha,if_pos ha]
  have : a.natAbs % 3 = 0 \/ a.natAbs % 3 = 1 \/ a.natAbs % 3 = 2:=by omega
  rcases this with h | h | h <;> rw [h] <;> decide
 ·rw [if_neg ha,if_pos (by omega)]
  have : a.natAbs % 3 = 0 \/ a.natAbs % 3 = 1 \/ a.natAbs % 3 = 2:=by omega
  rcases this with h | h | h <;> rw [h] <;> decide
theorem kill_all (p q : Nat × Nat) (hp : p ∈ [(0,0),(0,1),(0,2),(1,0),(1,1),(1,2)]) (hq : q ∈ [(0,0),(0,1),(0,2),(1,0),(1,1),(1,2)]) : killLaw 10 p q = true:=by
 simp only [List.mem_cons,List.not_mem_nil,or_false] at hp
 simp only [List.mem_cons,List.not_mem_nil,or_false] at hq
 rcases hp with rfl | rfl | rfl | rfl | rfl | rfl <;> rcases hq with rfl | rfl | rfl | rfl | rfl | rfl
 ·exact kill_p00
 ·exact kill_p01
 ·exact kill_p02
 ·exact kill_p03
 ·exact kill_p04
 ·exact kill_p05
 ·exact kill_p10
 ·exact kill_p11
 ·exact kill_p12
 ·exact kill_p13
 ·exact kill_p14
 ·exact kill_p15
 ·exact kill_p20
 ·exact kill_p21
 ·exact kill_p22
 ·exact kill_p23
 ·exact kill_p24
 ·exact kill_p25
 ·exact kill_p30
 ·exact kill_p31
 ·exact kill_p32
 ·exact kill_p33
 ·exact kill_p34
 ·exact kill_p35
 ·exact kill_p40
 ·exact kill_p41
 ·exact kill_p42
 ·exact kill_p43
 ·exact kill_p44
 ·exact kill_p45
 ·exact kill_p50
 ·exact kill_p51
 ·exact kill_p52
 ·exact kill_p53
 ·exact kill_p54
 ·exact kill_p55
theorem kill_at {f i : Nat} {s : PW} {p q : Nat × Nat} (h : killAll (f + 1) i s p q = true) : ∃ s1 s2 s3 s4 s5,s.set? (keyB i) (valB i 1) = some s1 /\ s1.get? 1 (keyB i) (valB i 1) true = some s2 /\ s2.set? (keyB i) (valB i 2) = some s3 /\ s3.kil? (1 + p.2) (keyB i) true = some s4 /\ s4.get? (1 + q.2) (keyB i) (valB i 2) true = some s5 /\ s5.right = true /\ ∀ p' q',p' ∈ nxt3 p.1 p.2 -> q' ∈ nxt3 q.1 q.2 -> killAll f (i + 1) s5 p' q' = true:=by
 unfold killAll at h
 obtain ⟨s1,e1,h⟩:=optB_ex h
 obtain ⟨s2,e2,h⟩:=optB_ex h
 obtain ⟨s3,e3,h⟩:=optB_ex h
 obtain ⟨s4,e4,h⟩:=optB_ex h
 obtain ⟨s5,e5,h⟩:=optB_ex h
 rw [Bool.and_eq_true] at h
 exact ⟨s1,s2,s3,s4,s5,e1,e2,e3,e4,e5,h.1,fun p' q' hp hq=>List.all_eq_true.1 (List.all_eq_true.1 h.2 p' hp) q' hq⟩
theorem kill_ex (a b : Int) (ha : -9223372036854775808 <= a /\ a <= 9223372036854775807) (hb : -9223372036854775808 <= b /\ b <= 9223372036854775807) : ∃ s,(PW.new 3).rounds? 3 = some s /\ killAll 10 0 s (stAt a 0) (stAt b 0) = true:=by
 have h:=kill_all _ _ (st_zero a ha.1 ha.2) (st_zero b hb.1 hb.2)
 unfold killLaw at h
 exact optB_ex h
set_option maxRecDepth 20000 in
set_option maxHeartbeats 8000000 in
theorem topKill.walk (w : World) (a : Int) (ha : (Lit.int .i64 a).wf = true) (b : Int) (hb : (Lit.int .i64 b).wf = true) (d : Int) (hd : (Lit.int .i64 d).wf = true) : Calls Tryz.prog 3 #[.int .i64 a,.int .i64 b,.int .i64 d] w fun e w'=>e = .returned (.bool true) /\ Below w.heap.size w w':=by
 obtain ⟨s0,e_s0,hk0⟩:=kill_ex b d (wf_i64 hb) (wf_i64 hd)
 have HWa:=Lib.hid ha
 have HA:=Lib.hid (And.intro e_s0 hk0)
 have HR:=Lib.hid (And.intro (wf_i64 hb) (wf_i64 hd))
 clear ha hb hd e_s0 hk0
 have HB:=Lib.hid (begun13 w)
 go_enter Tryz.func3,Tryz.ntmps3
 go_wp2_with (go_at_call 13;fail)
 refine HB.out.mono ?_
 rintro e w1 ⟨rfl,hb1⟩
 have HB1:=Lib.hid hb1
 clear hb1 HB
 have HC:=Lib.hid (tsmall w1 a 10 (by decide) (by decide) HWa.out)
 go_wp2_with (go_at_call 14;fail)
 refine HC.out.mono ?_
 rintro e w' ⟨⟨m,hm,-,rfl⟩,hw⟩
 obtain rfl:=hw
 clear HC
 have HM:=Lib.hid (tmade w w1 HB1.out 3 #[.int .i64 1,.int .i64 2,.int .i64 3] rfl (by decide) (by decide) s0 HA.out.1)
 clear HB1
 go_wp2_with (go_at_call 15;fail)
 refine HM.out.mono ?_
 rintro e w2 ⟨t,x,c,L,rfl,τ2,h2⟩
 clear HM
 have H:=Lib.hid h2
 clear h2
 have km : (m : Int) < 10:=by omega
 obtain ⟨t0,t1,q0⟩:=H.out.cells
 go_wp2_with fail
 clear t0 t1 q0
 go_loopw [9] (fun v wr=>∃ (i : Nat) (τr : Own) (sr : PW),i <= 1 + m /\ v = .int .i64 (i : Int) /\ killAll (10 - i) i sr (stAt b i) (stAt d i) = true /\ (i = 1 + m -> sr.right = true) /\ TR w wr τr t x c L sr) (fun v _=>1 + m - (intOf v).toNat)
 case atStart=>exact ⟨0,_,s0,Nat.zero_le _,rfl,HA.out.2,fun h=>by omega,H.out⟩
 case' round=>
  obtain ⟨i,τr,sr,hi,rfl,hl,he,hr⟩:=hrel
  clear H
  have H:=Lib.hid hr
  clear hr
  by_cases hik : i < 1 + m
  rotate_left
  focus (
   have k1 : ¬ ((i : Int) < 1 + (m : Int)):=by omega
   have HG:=Lib.hid (he (by omega))
   clear hl he
   obtain ⟨t0,t1,q0⟩:=H.out.cells
   have HC:=Lib.hid (tright H.out HG.out)
   go_wp2_with (go_at_call 21;fail)
   refine HC.out.mono ?_
   rintro e w3 ⟨rfl,τ3,h3⟩
   clear t0 t1 q0 HC H
   have H:=Lib.hid h3
   clear h3
   have HF:=Lib.hid H.out.below
   clear H
   go_wp2_with fail
   go_ret
   exact ⟨rfl,HF.out⟩)
  have k1 : (i : Int) < 1 + (m : Int):=by omega
  have hi40 : i < 40:=by omega
  have ki : (i : Int) <= 10:=by omega
  obtain ⟨f,hf⟩ : ∃ f,10 - i = f + 1:=⟨9 - i,by omega⟩
  rw [hf] at hl
  obtain ⟨s1,s2,s3,s4,s5,e1,e2,e3,e4,e5,e6,e7⟩:=kill_at hl
  have hnx:=e7 _ _ (st_nxt b i HR.out.1.1 HR.out.1.2 (by omega)) (st_nxt d i HR.out.2.1 HR.out.2.2 (by omega))
  have es1 : (stAt b i).2 = smallF (xAt b i) 3:=rfl
  have es2 : (stAt d i).2 = smallF (xAt d i) 3:=rfl
  rw [es1] at e4
  rw [es2] at e5
  have HX:=Lib.hid (And.intro e1 (And.intro e2 (And.intro e3 (And.intro e4 (And.intro e5 (And.intro e6 (And.intro hnx hf)))))))
  have HI:=Lib.hid hi40
  clear hl he e1 e2 e3 e4 e5 e6 e7 hnx hf hi40 es1 es2
  obtain ⟨t0,t1,q0⟩:=H.out.cells
  have HC:=Lib.hid (tkey H.out i HI.out)
  go_wp2_with (go_at_call 17;fail)
  refine HC.out.mono ?_
  rintro e w21 ⟨rfl,τ21,h21⟩
  clear t0 t1 q0 HC H
  have H:=Lib.hid h21
  clear h21
  obtain ⟨t0,t1,q0⟩:=H.out.cells
  have HC:=Lib.hid (tval H.out i 1 HI.out (by decide))
  go_wp2_with (go_at_call 18;fail)
  refine HC.out.mono ?_
  rintro e w22 ⟨rfl,τ22,h22⟩
  clear t0 t1 q0 HC H
  have H:=Lib.hid h22
  clear h22
  obtain ⟨t0,t1,q0⟩:=H.out.cells
  have HC:=Lib.hid (tset H.out (keyB i) (valB i 1) HX.out.1)
  go_wp2_with (go_at_call 16;fail)
  refine HC.out.mono ?_
  rintro e w23 ⟨⟨v0,rfl⟩,τ23,h23⟩
  clear t0 t1 q0 HC H
  have H:=Lib.hid h23
  clear h23
  obtain ⟨t0,t1,q0⟩:=H.out.cells
  have HC:=Lib.hid (tkey H.out i HI.out)
  go_wp2_with (go_at_call 17;fail)
  refine HC.out.mono ?_
  rintro e w24 ⟨rfl,τ24,h24⟩
  clear t0 t1 q0 HC H
  have H:=Lib.hid h24
  clear h24
  obtain ⟨t0,t1,q0⟩:=H.out.cells
  have HC:=Lib.hid (tval H.out i 1 HI.out (by decide))
  go_wp2_with (go_at_call 18;fail)
  refine HC.out.mono ?_
  rintro e w25 ⟨rfl,τ25,h25⟩
  clear t0 t1 q0 HC H
  have H:=Lib.hid h25
  clear h25
  obtain ⟨t0,t1,q0⟩:=H.out.cells
  have HC:=Lib.hid (tget H.out 1 (keyB i) (valB i 1) HX.out.2.1)
  go_wp2_with (go_at_call 19;fail)
  refine HC.out.mono ?_
  rintro e w26 ⟨rfl,τ26,h26⟩
  clear t0 t1 q0 HC H
  have H:=Lib.hid h26
  clear h26
  obtain ⟨t0,t1,q0⟩:=H.out.cells
  have HC:=Lib.hid (tkey H.out i HI.out)
  go_wp2_with (go_at_call 17;fail)
  refine HC.out.mono ?_
  rintro e w27 ⟨rfl,τ27,h27⟩
  clear t0 t1 q0 HC H
  have H:=Lib.hid h27
  clear h27
  obtain ⟨t0,t1,q0⟩:=H.out.cells
  have HC:=Lib.hid (tval H.out i 2 HI.out (by decide))
  go_wp2_with (go_at_call 18;fail)
  refine HC.out.mono ?_
  rintro e w28 ⟨rfl,τ28,h28⟩
  clear t0 t1 q0 HC H
  have H:=Lib.hid h28
  clear h28
  obtain ⟨t0,t1,q0⟩:=H.out.cells
  have HC:=Lib.hid (tset H.out (keyB i) (valB i 2) HX.out.2.2.1)
  go_wp2_with (go_at_call 16;fail)
  refine HC.out.mono ?_
  rintro e w29 ⟨⟨v0,rfl⟩,τ29,h29⟩
  clear t0 t1 q0 HC H
  have H:=Lib.hid h29
  clear h29
  obtain ⟨X1,hX1⟩ : ∃ X,X = xAt b i:=⟨_,rfl⟩
  have hx1 : IntKind.i64.wrap (b + (i : Int)) = X1:=by rw [hX1];rfl
  have hwf : (Lit.int .i64 X1).wf = true:=by rw [hX1];exact xAt_wf b i
  have HXX:=Lib.hid hX1
  clear hX1
  obtain ⟨t0,t1,q0⟩:=H.out.cells
  have HC:=Lib.hid (tsmall w29 X1 3 (by decide) (by decide) hwf)
  clear hwf
  go_wp2_with (go_at_call 14;fail)
  refine HC.out.mono ?_
  rintro e w' ⟨⟨j1,hj1,ej1,rfl⟩,hw⟩
  obtain rfl:=hw
  clear HC t0 t1 q0 hx1
  obtain ⟨p1,hp1⟩ : ∃ p,p = 1 + j1:=⟨_,rfl⟩
  have o1 : (1 : Int) + (j1 : Int) = (p1 : Int):=by omega
  have kj1 : (j1 : Int) < 3:=by omega
  have HP1 : Hid (p1 = 1 + smallF (xAt b i) 3):=Lib.hid (by rw [hp1,ej1,HXX.out])
  clear ej1 hp1 HXX
  obtain ⟨t0,t1,q0⟩:=H.out.cells
  have HC:=Lib.hid (tkey H.out i HI.out)
  go_wp2_with (go_at_call 17;fail)
  refine HC.out.mono ?_
  rintro e w30 ⟨rfl,τ30,h30⟩
  clear t0 t1 q0 HC H
  have H:=Lib.hid h30
  clear h30
  obtain ⟨t0,t1,q0⟩:=H.out.cells
  have HC:=Lib.hid (tkill H.out p1 (keyB i) (by rw [HP1.out];exact HX.out.2.2.2.1))
  go_wp2_with (go_at_call 20;fail)
  refine HC.out.mono ?_
  rintro e w31 ⟨rfl,τ31,h31⟩
  clear t0 t1 q0 HC H
  have H:=Lib.hid h31
  clear h31
  obtain ⟨X2,hX2⟩ : ∃ X,X = xAt d i:=⟨_,rfl⟩
  have hx2 : IntKind.i64.wrap (d + (i : Int)) = X2:=by rw [hX2];rfl
  have hwf : (Lit.int .i64 X2).wf = true:=by rw [hX2];exact xAt_wf d i
  have HXX:=Lib.hid hX2
  clear hX2
  obtain ⟨t0,t1,q0⟩:=H.out.cells
  have HC:=Lib.hid (tsmall w31 X2 3 (by decide) (by decide) hwf)
  clear hwf
  go_wp2_with (go_at_call 14;fail)
  refine HC.out.mono ?_
  rintro e w' ⟨⟨j2,hj2,ej2,rfl⟩,hw⟩
  obtain rfl:=hw
  clear HC t0 t1 q0 hx2
  obtain ⟨p2,hp2⟩ : ∃ p,p = 1 + j2:=⟨_,rfl⟩
  have o2 : (1 : Int) + (j2 : Int) = (p2 : Int):=by omega
  have kj2 : (j2 : Int) < 3:=by omega
  have HP2 : Hid (p2 = 1 + smallF (xAt d i) 3):=Lib.hid (by rw [hp2,ej2,HXX.out])
  clear ej2 hp2 HXX
  obtain ⟨t0,t1,q0⟩:=H.out.cells
  have HC:=Lib.hid (tkey H.out i HI.out)
  go_wp2_with (go_at_call 17;fail)
  refine HC.out.mono ?_
  rintro e w32 ⟨rfl,τ32,h32⟩
  clear t0 t1 q0 HC H
  have H:=Lib.hid h32
  clear h32
  obtain ⟨t0,t1,q0⟩:=H.out.cells
  have HC:=Lib.hid (tval H.out i 2 HI.out (by decide))
  go_wp2_with (go_at_call 18;fail)
  refine HC.out.mono ?_
  rintro e w33 ⟨rfl,τ33,h33⟩
  clear t0 t1 q0 HC H
  have H:=Lib.hid h33
  clear h33
  obtain ⟨t0,t1,q0⟩:=H.out.cells
  have HC:=Lib.hid (tget H.out p2 (keyB i) (valB i 2) (by rw [HP2.out];exact HX.out.2.2.2.2.1))
  go_wp2_with (go_at_call 19;fail)
  refine HC.out.mono ?_
  rintro e w34 ⟨rfl,τ34,h34⟩
  clear t0 t1 q0 HC H
  have H:=Lib.hid h34
  clear h34
  obtain ⟨t0,t1,q0⟩:=H.out.cells
  go_wp2_with fail
  go_roundw
  case rel=>exact ⟨i + 1,_,s5,by omega,by go_num,by rw [show 10 - (i + 1) = f by have:=HX.out.2.2.2.2.2.2.2;omega];exact HX.out.2.2.2.2.2.2.1,fun _=>HX.out.2.2.2.2.2.1,H.out⟩
  case measure=>simp [intOf];omega
end Go.Proofs.Ytlhekbjidppijaa
