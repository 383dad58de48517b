/- The walk of TopAbsent: for every input it returns true. No condition. -/
import Derived.Test.YtlhekbjidppijaaGreatMBQ
set_option linter.unusedVariables false
set_option linter.unusedSimpArgs false
namespace Go.Proofs.Ytlhekbjidppijaa
open Go.RowKit
set_option maxRecDepth 100000 in
theorem abs_true : absLaw = true:=by decide +kernel
theorem abs_all : ∃ s,(PW.new 2).rounds? 3 = some s /\ ∀ j,j < 26 -> ∀ p,1 <= p -> p <= 2 -> absAll p (keyB j) 5 s = true:=by
 obtain ⟨s,h1,h2⟩:=optB_ex abs_true
 refine ⟨s,h1,fun j hj p hp1 hp2=>?_⟩
 have h3:=List.all_eq_true.1 h2 j (List.mem_range.2 hj)
 rw [Bool.and_eq_true] at h3
 obtain rfl | rfl : p = 1 \/ p = 2:=by omega
 ·exact h3.1
 ·exact h3.2
set_option maxRecDepth 20000 in
set_option maxHeartbeats 2000000 in
theorem topAbsent.walk (w : World) (a : Int) (ha : (Lit.int .i64 a).wf = true) (b : Int) (hb : (Lit.int .i64 b).wf = true) : Calls Tryz.prog 9 #[.int .i64 a,.int .i64 b] w fun e w'=>e = .returned (.bool true) /\ Below w.heap.size w w':=by
 obtain ⟨s0,e_s0,hall⟩:=abs_all
 have HWa:=Lib.hid ha
 have HWb:=Lib.hid hb
 have HA:=Lib.hid (And.intro e_s0 hall)
 clear ha hb e_s0 hall
 have HB:=Lib.hid (begun13 w)
 go_enter Tryz.func9,Tryz.ntmps9
 go_wp2_with (go_at_call 13;fail)
 refine HB.out.mono ?_
 rintro e w1 ⟨rfl,hb1⟩
 have HB1:=Lib.hid hb1
 clear hb1 HB
 have HC:=Lib.hid (tsmall w1 b 5 (by decide) (by decide) HWb.out)
 go_wp2_with (go_at_call 14;fail)
 refine HC.out.mono ?_
 rintro e w' ⟨⟨m,hm,-,rfl⟩,hw⟩
 obtain rfl:=hw
 clear HC
 have HM:=Lib.hid (tmade w w1 HB1.out 2 #[.int .i64 1,.int .i64 2] rfl (by decide) (by decide) s0 HA.out.1)
 clear HB1
 go_wp2_with (go_at_call 15;fail)
 refine HM.out.mono ?_
 rintro e w2 ⟨t,x,c,L,rfl,τ2,h2⟩
 clear HM
 have H:=Lib.hid h2
 clear h2
 obtain ⟨t0,t1,q0⟩:=H.out.cells
 have HC:=Lib.hid (tsmall w2 a 26 (by decide) (by decide) HWa.out)
 go_wp2_with (go_at_call 14;fail)
 refine HC.out.mono ?_
 rintro e w' ⟨⟨j,hj,-,rfl⟩,hw⟩
 obtain rfl:=hw
 clear HC t0 t1 q0
 obtain ⟨t0,t1,q0⟩:=H.out.cells
 have HC:=Lib.hid (tkey H.out j (by omega))
 go_wp2_with (go_at_call 17;fail)
 refine HC.out.mono ?_
 rintro e w3 ⟨rfl,τ3,h3⟩
 clear t0 t1 q0 HC H
 have H:=Lib.hid h3
 clear h3
 obtain ⟨t0,t1,q0⟩:=H.out.cells
 have HC:=Lib.hid (tsmall w3 a 2 (by decide) (by decide) HWa.out)
 go_wp2_with (go_at_call 14;fail)
 refine HC.out.mono ?_
 rintro e w' ⟨⟨d,hd,-,rfl⟩,hw⟩
 obtain rfl:=hw
 clear HC t0 t1 q0
 obtain ⟨p,hp⟩ : ∃ p,p = 1 + d:=⟨_,rfl⟩
 have hab:=HA.out.2 j hj p (by omega) (by omega)
 have o0 : (1 : Int) + (d : Int) = (p : Int):=by omega
 obtain ⟨q,hq⟩ : ∃ q,q = 3 - p:=⟨_,rfl⟩
 have o3 : (3 : Int) - (p : Int) = (q : Int):=by omega
 have HQ:=Lib.hid hq
 have km : (m : Int) < 5:=by omega
 have kd : (d : Int) < 2:=by omega
 have p1 : (1 : Int) <= (p : Int):=by omega
 have p2 : (p : Int) <= 2:=by omega
 have HAB:=Lib.hid hab
 clear hab hq hp hj
 obtain ⟨t0,t1,q0⟩:=H.out.cells
 go_wp2_with fail
 clear t0 t1 q0
 go_loopw [9] (fun v wr=>∃ (i : Nat) (τr : Own) (sr : PW),i <= m + 1 /\ v = .int .i64 (i : Int) /\ absAll p (keyB j) (5 - i) sr = true /\ (i = m + 1 -> absEnd sr p (keyB j) = true) /\ TR w wr τr t x c L sr) (fun v _=>m + 1 - (intOf v).toNat)
 case atStart=>exact ⟨0,_,s0,Nat.zero_le _,rfl,HAB.out,fun h=>by omega,H.out⟩
 case' round=>
  obtain ⟨i,τr,sr,hi,rfl,hl,he,hr⟩:=hrel
  clear H
  have H:=Lib.hid hr
  clear hr
  by_cases hik : i <= m
  rotate_left
  focus (
   have k1 : ¬ ((i : Int) <= (m : Int)):=by omega
   have hc:=he (by omega)
   unfold absEnd at hc
   obtain ⟨s2,e_s2,hc⟩:=optB_ex hc
   obtain ⟨s3,e_s3,hc⟩:=optB_ex hc
   obtain ⟨s4,e_s4,hr⟩:=optB_ex hc
   rw [<- HQ.out] at e_s4
   have HX:=Lib.hid (And.intro e_s2 (And.intro e_s3 (And.intro e_s4 hr)))
   unfold vB1 at HX
   clear hl he hc e_s2 e_s3 e_s4 hr
   obtain ⟨t0,t1,q0⟩:=H.out.cells
   have HC:=Lib.hid (tset H.out (keyB j) ⟨#[118]⟩ HX.out.1)
   go_wp2_with (go_at_call 16;fail)
   refine HC.out.mono ?_
   rintro e w4 ⟨⟨v0,rfl⟩,τ4,h4⟩
   clear t0 t1 q0 HC H
   have H:=Lib.hid h4
   clear h4
   obtain ⟨t0,t1,q0⟩:=H.out.cells
   have HC:=Lib.hid (tget H.out p (keyB j) ⟨#[118]⟩ HX.out.2.1)
   go_wp2_with (go_at_call 19;fail)
   refine HC.out.mono ?_
   rintro e w5 ⟨rfl,τ5,h5⟩
   clear t0 t1 q0 HC H
   have H:=Lib.hid h5
   clear h5
   obtain ⟨t0,t1,q0⟩:=H.out.cells
   have HC:=Lib.hid (twarm H.out q (keyB j) ⟨#[118]⟩ HX.out.2.2.1)
   go_wp2_with (go_at_call 30;fail)
   refine HC.out.mono ?_
   rintro e w6 ⟨rfl,τ6,h6⟩
   clear t0 t1 q0 HC H
   have H:=Lib.hid h6
   clear h6
   obtain ⟨t0,t1,q0⟩:=H.out.cells
   have HC:=Lib.hid (tright H.out HX.out.2.2.2)
   go_wp2_with (go_at_call 21;fail)
   refine HC.out.mono ?_
   rintro e w7 ⟨rfl,τ7,h7⟩
   clear t0 t1 q0 HC H
   have H:=Lib.hid h7
   clear h7
   have HF:=Lib.hid H.out.below
   clear H
   go_wp2_with fail
   go_ret
   exact ⟨rfl,HF.out⟩)
  have k1 : (i : Int) <= (m : Int):=by omega
  obtain ⟨f,hf⟩ : ∃ f,5 - i = f + 1:=⟨4 - i,by omega⟩
  rw [hf] at hl
  unfold absAll at hl
  obtain ⟨⟨s5,z⟩,e_s5,hl⟩:=optB_ex hl
  simp only [Bool.and_eq_true,decide_eq_true_eq,Bool.not_eq_true'] at hl
  obtain ⟨⟨⟨⟨⟨g1,g2⟩,g3⟩,g4⟩,g5⟩,g6⟩:=hl
  have HG:=Lib.hid (And.intro g5 (And.intro g6 hf))
  have HT:=Lib.hid (task H.out 7 p (keyB j) true e_s5)
  obtain ⟨t0,t1,q0⟩:=H.out.cells
  clear he e_s5 g5 g6 hf H
  go_wp2_with (go_at_call 31;fail)
  refine HT.out.mono ?_
  rintro e w7 ⟨rfl,τ7,h7⟩
  obtain ⟨W8,hst,hb8,hbl,-⟩:=store_fresh (P:=Tryz.prog) w7 57 z57 (encR z.reply) (fun W=>by kernel_rfl) rfl (encR_one z.reply)
  have H8:=Lib.hid (h7.keep hbl)
  have HSt:=Lib.hid hst
  have z3 : W8.cell? ⟨w7.heap.size,3,none⟩ = some (.int .i64 (z.reply.err : Int)):=hb8.cell 3
  have z4 : W8.cell? ⟨w7.heap.size,4,none⟩ = some (.string z.reply.val):=hb8.cell 4
  have z5 : W8.cell? ⟨w7.heap.size,5,none⟩ = some (.bool z.reply.has):=hb8.cell 5
  rw [g2] at z3
  rw [g4] at z4
  rw [g3] at z5
  rw [g1]
  unfold eB at z4
  clear hst hb8 hbl h7 HT g1 g2 g3 g4 t0 t1 q0
  go_wp2_with (refine wpl_sq 57 _ _ rfl rfl ?_;refine sq 57 _ _ _ _ W8 rfl rfl (by kernel_rfl) HSt.out ?_)
  go_roundw
  case rel=>exact ⟨i + 1,_,s5,by omega,by go_num,by rw [show 5 - (i + 1) = f by have:=HG.out.2.2;omega];exact HG.out.2.1,fun _=>HG.out.1,H8.out⟩
  case measure=>simp [intOf];omega
end Go.Proofs.Ytlhekbjidppijaa
