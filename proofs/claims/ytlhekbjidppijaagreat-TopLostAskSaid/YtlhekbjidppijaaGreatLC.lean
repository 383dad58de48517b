/- The walk of TopLostAsk: for every input it returns true. No condition. -/
import Derived.Test.YtlhekbjidppijaaGreatMBQ
set_option linter.unusedVariables false
set_option linter.unusedSimpArgs false
namespace Go.Proofs.Ytlhekbjidppijaa
open Go.RowKit
set_option maxRecDepth 100000 in
theorem lost1 : lostLaw (List.range' 0 7) = true:=by decide +kernel
set_option maxRecDepth 100000 in
theorem lost2 : lostLaw (List.range' 7 7) = true:=by decide +kernel
set_option maxRecDepth 100000 in
theorem lost3 : lostLaw (List.range' 14 6) = true:=by decide +kernel
set_option maxRecDepth 100000 in
theorem lost4 : lostLaw (List.range' 20 6) = true:=by decide +kernel
theorem lost_in {l : List Nat} (h : lostLaw l = true) : ∃ s,(PW.new 2).rounds? 3 = some s /\ ∀ j,j ∈ l -> ∀ b,lostK s j b = true:=by
 obtain ⟨s,h1,h2⟩:=optB_ex h
 refine ⟨s,h1,fun j hj b=>?_⟩
 have:=List.all_eq_true.1 h2 j hj
 rw [Bool.and_eq_true] at this
 cases b
 ·exact this.2
 ·exact this.1
theorem lost_all : ∃ s,(PW.new 2).rounds? 3 = some s /\ ∀ j,j < 26 -> ∀ b,lostK s j b = true:=by
 obtain ⟨s,h1,k1⟩:=lost_in lost1
 obtain ⟨s2,h2,k2⟩:=lost_in lost2
 obtain ⟨s3,h3,k3⟩:=lost_in lost3
 obtain ⟨s4,h4,k4⟩:=lost_in lost4
 have e2 : s2 = s:=Option.some.inj (h2.symm.trans h1)
 have e3 : s3 = s:=Option.some.inj (h3.symm.trans h1)
 have e4 : s4 = s:=Option.some.inj (h4.symm.trans h1)
 rw [e2] at k2
 rw [e3] at k3
 rw [e4] at k4
 refine ⟨s,h1,fun j hj b=>?_⟩
 by_cases c1 : j < 7
 ·exact k1 j (List.mem_range'_1.2 ⟨by omega,by omega⟩) b
 by_cases c2 : j < 14
 ·exact k2 j (List.mem_range'_1.2 ⟨by omega,by omega⟩) b
 by_cases c3 : j < 20
 ·exact k3 j (List.mem_range'_1.2 ⟨by omega,by omega⟩) b
 ·exact k4 j (List.mem_range'_1.2 ⟨by omega,by omega⟩) b
set_option maxRecDepth 20000 in
set_option maxHeartbeats 2000000 in
theorem topLostAsk.walk (w : World) (a : Int) (ha : (Lit.int .i64 a).wf = true) (ans : Bool) : Calls Tryz.prog 10 #[.int .i64 a,.bool ans] w fun e w'=>e = .returned (.bool true) /\ Below w.heap.size w w':=by
 obtain ⟨s0,e_s0,hall⟩:=lost_all
 have HWa:=Lib.hid ha
 have HA:=Lib.hid (And.intro e_s0 hall)
 clear ha e_s0 hall
 have HB:=Lib.hid (begun13 w)
 go_enter Tryz.func10,Tryz.ntmps10
 go_wp2_with (go_at_call 13;fail)
 refine HB.out.mono ?_
 rintro e w1 ⟨rfl,hb1⟩
 have HB1:=Lib.hid hb1
 clear hb1 HB
 have HM:=Lib.hid (tmade w w1 HB1.out 2 #[.int .i64 1,.int .i64 2] rfl (by decide) (by decide) s0 HA.out.1)
 clear HB1
 go_wp2_with (go_at_call 15;fail)
 refine HM.out.mono ?_
 rintro e w2 ⟨t,x,c,L,rfl,τ2,h2⟩
 clear HM
 have H:=Lib.hid h2
 clear h2
 obtain ⟨t0,t1,q0⟩:=H.out.cells
 have HC:=Lib.hid (tsmall w2 a 26 (by decide) (by decide) HWa.out)
 go_wp2_with (go_at_call 14;fail)
 refine HC.out.mono ?_
 rintro e w' ⟨⟨j,hj,-,rfl⟩,hw⟩
 obtain rfl:=hw
 clear HC t0 t1 q0
 obtain ⟨t0,t1,q0⟩:=H.out.cells
 have HC:=Lib.hid (tkey H.out j (by omega))
 go_wp2_with (go_at_call 17;fail)
 refine HC.out.mono ?_
 rintro e w3 ⟨rfl,τ3,h3⟩
 clear t0 t1 q0 HC H
 have H:=Lib.hid h3
 clear h3
 have hc:=HA.out.2 j hj ans
 unfold lostK at hc
 have hown:=own2 j hj
 obtain ⟨o,ho⟩ : ∃ o,o = ownR (upto 2) (keyB j):=⟨_,rfl⟩
 rw [<- ho] at hown hc
 obtain ⟨s1,e_s1,hc⟩:=optB_ex hc
 obtain ⟨s2,e_s2,hc⟩:=optB_ex hc
 obtain ⟨s3,e_s3,hc⟩:=optB_ex hc
 obtain ⟨s4,e_s4,hc⟩:=optB_ex hc
 obtain ⟨s5,e_s5,hc⟩:=optB_ex hc
 obtain ⟨s6,e_s6,hc⟩:=optB_ex hc
 simp only [Bool.and_eq_true,decide_eq_true_eq] at hc
 obtain ⟨hlog,hc⟩:=hc
 obtain ⟨s7,e_s7,hr⟩:=optB_ex hc
 obtain ⟨z0,z,hlg,hlog⟩ : ∃ z0 z,s6.c.log = [z0,z] /\ (z.done && decide (z.reply.err = 10)) = true:=by
  split at hlog
  ·rename_i z0 z hlg
   exact ⟨z0,z,hlg,hlog⟩
  ·cases hlog
 simp only [Bool.and_eq_true,decide_eq_true_eq] at hlog
 have HX:=Lib.hid (And.intro e_s1 (And.intro e_s2 (And.intro e_s3 (And.intro e_s4 (And.intro e_s5 (And.intro e_s6 (And.intro e_s7 (And.intro hr (And.intro hlg (And.intro hlog.1 hlog.2))))))))))
 have HO:=Lib.hid ho
 have o1 : (1 : Int) <= (o : Int):=by omega
 have o2 : (o : Int) <= 2:=by omega
 obtain ⟨q,hq⟩ : ∃ q,q = 3 - o:=⟨_,rfl⟩
 have o3 : (3 : Int) - (o : Int) = (q : Int):=by omega
 rw [<- hq] at HX
 clear hc hown ho hj e_s1 e_s2 e_s3 e_s4 e_s5 e_s6 e_s7 hr hlg hlog hq
 unfold vB1 eB at HX
 obtain ⟨t0,t1,q0⟩:=H.out.cells
 have HC:=Lib.hid (tset H.out (keyB j) ⟨#[118]⟩ HX.out.1)
 go_wp2_with (go_at_call 16;fail)
 refine HC.out.mono ?_
 rintro e w4 ⟨⟨v0,rfl⟩,τ4,h4⟩
 clear t0 t1 q0 HC H
 have H:=Lib.hid h4
 clear h4
 obtain ⟨t0,t1,q0⟩:=H.out.cells
 have HC:=Lib.hid (towner H.out 2 #[.int .i64 1,.int .i64 2] rfl (by decide) (by decide) (keyB j) (by rw [keyB_size];decide))
 go_wp2_with (go_at_call 22;fail)
 refine HC.out.mono ?_
 rintro e w5 ⟨rfl,τ5,h5⟩
 clear t0 t1 q0 HC H
 have H:=Lib.hid h5
 clear h5
 rw [<- HO.out]
 obtain ⟨t0,t1,q0⟩:=H.out.cells
 have HC:=Lib.hid (tget H.out o (keyB j) ⟨#[118]⟩ HX.out.2.1)
 go_wp2_with (go_at_call 19;fail)
 refine HC.out.mono ?_
 rintro e w6 ⟨rfl,τ6,h6⟩
 clear t0 t1 q0 HC H
 have H:=Lib.hid h6
 clear h6
 obtain ⟨t0,t1,q0⟩:=H.out.cells
 have HC:=Lib.hid (tstepT H.out 7 q 0 (keyB j) ⟨#[]⟩ false HX.out.2.2.1)
 unfold stepV at HC
 go_wp2_with (go_at_call 23;fail)
 refine HC.out.mono ?_
 rintro e w7 ⟨⟨v0,rfl⟩,τ7,h7⟩
 clear t0 t1 q0 HC H
 have H:=Lib.hid h7
 clear h7
 cases ans
 focus (
  have e4 : s3 = s4:=by have:=HX.out.2.2.2.1;simpa using this
  subst e4
  go_wp2_with fail)
 rotate_left
 focus (
  obtain ⟨t0,t1,q0⟩:=H.out.cells
  have HC:=Lib.hid (tstepT H.out 2 0 0 ⟨#[]⟩ ⟨#[]⟩ false (by have:=HX.out.2.2.2.1;simpa using this))
  unfold stepV at HC
  go_wp2_with (go_at_call 23;fail)
  refine HC.out.mono ?_
  rintro e w8 ⟨⟨v0,rfl⟩,τ8,h8⟩
  clear t0 t1 q0 HC H
  have H:=Lib.hid h8
  clear h8
  go_wp2_with fail)
 all_goals (
  go_loopw [] (fun wq=>∃ (g : Nat) (τq : Own) (sq : PW),sq.drops? g = some s5 /\ TR w wq τq t x c L sq) (fun wq=>netLen L.net wq)
  case atStart=>exact ⟨60,_,_,HX.out.2.2.2.2.1,H.out⟩
  case' round=>
   obtain ⟨gq,τq,sq,hd,hq⟩:=hrel
   clear H
   obtain ⟨t0,t1,q0⟩:=hq.cells
   have HNt:=Lib.hid (tnet hq)
   have HLn:=Lib.hid (tlen hq)
   have H:=Lib.hid hq
   rcases drops_cases hd with ⟨hn0,rfl⟩ | ⟨hn0,g1,s6,h6,h7,h8⟩
   rotate_left
   focus (
    have HST:=Lib.hid (tstep hq 3 0 0 ⟨#[]⟩ ⟨#[]⟩ false h6)
    have HY:=Lib.hid (And.intro h7 (And.intro h8 hq.netLen))
    have k2 : (0 : Int) < (sq.c.net.length : Int):=by omega
    clear hd hq h6 h7 h8 hn0
    unfold stepV at HST
    go_wp2_with (first | (go_at_call 35;refine HNt.out.mono ?_;rintro e w' ⟨rfl,hw⟩;obtain rfl:=hw) | (go_at_call 36;refine HLn.out.mono ?_;rintro e w' ⟨rfl,hw⟩;obtain rfl:=hw.symm) | (go_at_call 34;fail))
    refine HST.out.mono ?_
    rintro e wz ⟨rfl,τz,hz⟩
    have HZ:=Lib.hid hz
    clear hz
    go_wp2_with fail
    go_roundw
    case rel=>exact ⟨g1,τz,s6,HY.out.1,HZ.out⟩
    case measure=>rw [HZ.out.netLen,HY.out.2.2];exact HY.out.2.1)
   rw [hn0] at HLn
   clear hd hq hn0
   go_wp2_with (first | (go_at_call 35;refine HNt.out.mono ?_;rintro e w' ⟨rfl,hw⟩;obtain rfl:=hw) | (go_at_call 36;refine HLn.out.mono ?_;rintro e w' ⟨rfl,hw⟩;obtain rfl:=hw.symm))
   have HC:=Lib.hid (trounds H.out 62 (by decide) HX.out.2.2.2.2.2.1)
   refine HC.out.mono ?_
   rintro e w9 ⟨⟨v0,rfl⟩,τ9,h9⟩
   clear t0 t1 q0 HC H
   have H:=Lib.hid h9
   clear h9
   obtain ⟨t0,t1,q0⟩:=H.out.cells
   have HC:=Lib.hid (tlog H.out)
   go_wp2_with (go_at_call 27;fail)
   refine HC.out.mono ?_
   rintro e w' ⟨rfl,hw⟩
   obtain rfl:=hw
   clear t0 t1 q0 HC
   obtain ⟨t0,t1,q0⟩:=H.out.cells
   have hc0:=tall H.out (by rw [HX.out.2.2.2.2.2.2.2.2.1];simp)
   rw [HX.out.2.2.2.2.2.2.2.2.1] at hc0
   have HC:=Lib.hid hc0
   clear hc0
   go_wp2_with (go_at_call 28;fail)
   refine HC.out.mono ?_
   rintro e w11 ⟨v0,rfl,hv,τ11,h11⟩
   obtain ⟨lg,lo,lc,rfl,hcs⟩:=hv.get (by simp)
   clear t0 t1 q0 HC H
   have H:=Lib.hid h11
   clear h11 hv
   have l0 : w11.cell? ⟨lg,lo + 19,none⟩ = some (.bool z.done):=hcs 1 z rfl 6 _ rfl
   rw [HX.out.2.2.2.2.2.2.2.2.2.1] at l0
   have l1 : w11.cell? ⟨lg,lo + 23,none⟩ = some (.int .i64 (z.reply.err : Int)):=hcs 1 z rfl 10 _ rfl
   rw [HX.out.2.2.2.2.2.2.2.2.2.2] at l1
   clear hcs
   obtain ⟨t0,t1,q0⟩:=H.out.cells
   have HC:=Lib.hid (twarm H.out q (keyB j) ⟨#[118]⟩ HX.out.2.2.2.2.2.2.1)
   go_wp2_with (go_at_call 30;fail)
   refine HC.out.mono ?_
   rintro e w12 ⟨rfl,τ12,h12⟩
   clear t0 t1 q0 HC H
   have H:=Lib.hid h12
   clear h12
   obtain ⟨t0,t1,q0⟩:=H.out.cells
   have HC:=Lib.hid (tright H.out HX.out.2.2.2.2.2.2.2.1)
   go_wp2_with (go_at_call 21;fail)
   refine HC.out.mono ?_
   rintro e w13 ⟨rfl,τ13,h13⟩
   clear t0 t1 q0 HC H
   have H:=Lib.hid h13
   clear h13
   have HF:=Lib.hid H.out.below
   clear H
   go_wp2_with fail
   go_ret
   exact ⟨rfl,HF.out⟩)
end Go.Proofs.Ytlhekbjidppijaa
