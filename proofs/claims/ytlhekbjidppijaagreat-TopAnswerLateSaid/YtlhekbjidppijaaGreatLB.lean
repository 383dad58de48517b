/- The walk of TopAnswerLate: for every input it returns true. No condition. -/
import Derived.Test.YtlhekbjidppijaaGreatMBQ
set_option linter.unusedVariables false
set_option linter.unusedSimpArgs false
namespace Go.Proofs.Ytlhekbjidppijaa
open Go.RowKit
set_option maxRecDepth 100000 in
theorem late_true : lateLaw = true:=by decide +kernel
set_option maxRecDepth 20000 in
set_option maxHeartbeats 2000000 in
theorem topAnswerLate.walk (w : World) (a : Int) (ha : (Lit.int .i64 a).wf = true) : Calls Tryz.prog 11 #[.int .i64 a] w fun e w'=>e = .returned (.bool true) /\ Below w.heap.size w w':=by
 obtain ⟨s0,e_s0,hall⟩:=optB_ex late_true
 have HW:=Lib.hid ha
 have HWa:=HW
 have HA:=Lib.hid (And.intro e_s0 hall)
 clear ha e_s0 hall
 have HB:=Lib.hid (begun13 w)
 go_enter Tryz.func11,Tryz.ntmps11
 go_wp2_with (go_at_call 13;fail)
 refine HB.out.mono ?_
 rintro e w1 ⟨rfl,hb1⟩
 have HB1:=Lib.hid hb1
 clear hb1 HB
 have HM:=Lib.hid (tmade w w1 HB1.out 2 #[.int .i64 1,.int .i64 2] rfl (by decide) (by decide) s0 HA.out.1)
 clear HB1
 go_wp2_with (go_at_call 15;fail)
 refine HM.out.mono ?_
 rintro e w2 ⟨t,x,c,L,rfl,τ2,h2⟩
 clear HM
 have H:=Lib.hid h2
 clear h2
 obtain ⟨t0,t1,q0⟩:=H.out.cells
 have HC:=Lib.hid (tsmall w2 a 26 (by decide) (by decide) HWa.out)
 go_wp2_with (go_at_call 14;fail)
 refine HC.out.mono ?_
 rintro e w' ⟨⟨j,hj,-,rfl⟩,hw⟩
 obtain rfl:=hw
 clear HC t0 t1 q0
 obtain ⟨t0,t1,q0⟩:=H.out.cells
 have HC:=Lib.hid (tkey H.out j (by omega))
 go_wp2_with (go_at_call 17;fail)
 refine HC.out.mono ?_
 rintro e w3 ⟨rfl,τ3,h3⟩
 clear t0 t1 q0 HC H
 have H:=Lib.hid h3
 clear h3
 have hj26:=hj
 have hc:=List.all_eq_true.1 HA.out.2 j (List.mem_range.2 hj)
 unfold lateK at hc
 have hown:=own2 j hj
 obtain ⟨o,ho⟩ : ∃ o,o = ownR (upto 2) (keyB j):=⟨_,rfl⟩
 rw [<- ho] at hown hc
 obtain ⟨s1,e_s1,hc⟩:=optB_ex hc
 obtain ⟨s2,e_s2,hc⟩:=optB_ex hc
 obtain ⟨s3,e_s3,hc⟩:=optB_ex hc
 obtain ⟨s4,e_s4,hc⟩:=optB_ex hc
 simp only [Bool.and_eq_true,decide_eq_true_eq] at hc
 obtain ⟨hnet,hc⟩:=hc
 obtain ⟨s5,e_s5,hc⟩:=optB_ex hc
 obtain ⟨s6,e_s6,hc⟩:=optB_ex hc
 obtain ⟨s7,e_s7,hc⟩:=optB_ex hc
 simp only [Bool.and_eq_true,decide_eq_true_eq] at hc
 obtain ⟨hlog,hc⟩:=hc
 obtain ⟨s8,e_s8,hr⟩:=optB_ex hc
 obtain ⟨z0,y,z,hlg,hlog⟩ : ∃ z0 y z,s7.c.log = [z0,y,z] /\ (y.done && decide (y.reply.val = oldB) && z.done && decide (z.reply.err = 0)) = true:=by
  split at hlog
  ·rename_i z0 y z hlg
   exact ⟨z0,y,z,hlg,hlog⟩
  ·cases hlog
 simp only [Bool.and_eq_true,decide_eq_true_eq] at hlog
 have HX:=Lib.hid (And.intro e_s1 (And.intro e_s2 (And.intro e_s3 (And.intro e_s4 (And.intro e_s5 (And.intro e_s6 (And.intro e_s7 (And.intro e_s8 (And.intro hr (And.intro hnet (And.intro hlg hlog)))))))))))
 have HO:=Lib.hid ho
 have o1 : (1 : Int) <= (o : Int):=by omega
 have o2 : (o : Int) <= 2:=by omega
 obtain ⟨q,hq⟩ : ∃ q,q = 3 - o:=⟨_,rfl⟩
 have o3 : (3 : Int) - (o : Int) = (q : Int):=by omega
 rw [<- hq] at HX
 clear hc hown ho hj hj26 e_s1 e_s2 e_s3 e_s4 e_s5 e_s6 e_s7 e_s8 hr hnet hlg hlog hq
 unfold oldB newB eB at HX
 obtain ⟨t0,t1,q0⟩:=H.out.cells
 have HC:=Lib.hid (tset H.out (keyB j) ⟨#[111,108,100]⟩ HX.out.1)
 go_wp2_with (go_at_call 16;fail)
 refine HC.out.mono ?_
 rintro e w4 ⟨⟨v0,rfl⟩,τ4,h4⟩
 clear t0 t1 q0 HC H
 have H:=Lib.hid h4
 clear h4
 obtain ⟨t0,t1,q0⟩:=H.out.cells
 have HC:=Lib.hid (towner H.out 2 #[.int .i64 1,.int .i64 2] rfl (by decide) (by decide) (keyB j) (by rw [keyB_size];decide))
 go_wp2_with (go_at_call 22;fail)
 refine HC.out.mono ?_
 rintro e w5 ⟨rfl,τ5,h5⟩
 clear t0 t1 q0 HC H
 have H:=Lib.hid h5
 clear h5
 rw [<- HO.out]
 obtain ⟨t0,t1,q0⟩:=H.out.cells
 have HC:=Lib.hid (tget H.out o (keyB j) ⟨#[111,108,100]⟩ HX.out.2.1)
 go_wp2_with (go_at_call 19;fail)
 refine HC.out.mono ?_
 rintro e w6 ⟨rfl,τ6,h6⟩
 clear t0 t1 q0 HC H
 have H:=Lib.hid h6
 clear h6
 obtain ⟨t0,t1,q0⟩:=H.out.cells
 have HC:=Lib.hid (tstepT H.out 7 q 0 (keyB j) ⟨#[]⟩ false HX.out.2.2.1)
 unfold stepV at HC
 go_wp2_with (go_at_call 23;fail)
 refine HC.out.mono ?_
 rintro e w7 ⟨⟨v0,rfl⟩,τ7,h7⟩
 clear t0 t1 q0 HC H
 have H:=Lib.hid h7
 clear h7
 obtain ⟨t0,t1,q0⟩:=H.out.cells
 have HC:=Lib.hid (tstepT H.out 2 0 0 ⟨#[]⟩ ⟨#[]⟩ false HX.out.2.2.2.1)
 unfold stepV at HC
 go_wp2_with (go_at_call 23;fail)
 refine HC.out.mono ?_
 rintro e w8 ⟨⟨v0,rfl⟩,τ8,h8⟩
 clear t0 t1 q0 HC H
 have H:=Lib.hid h8
 clear h8
 obtain ⟨t0,t1,q0⟩:=H.out.cells
 have HC:=Lib.hid (tnet H.out)
 go_wp2_with (go_at_call 35;fail)
 refine HC.out.mono ?_
 rintro e w' ⟨rfl,hw⟩
 obtain rfl:=hw
 clear t0 t1 q0 HC
 obtain ⟨t0,t1,q0⟩:=H.out.cells
 have hc0:=tlen H.out
 rw [HX.out.2.2.2.2.2.2.2.2.2.1] at hc0
 have HC:=Lib.hid hc0
 clear hc0
 go_wp2_with (go_at_call 36;fail)
 refine HC.out.mono ?_
 rintro e w' ⟨rfl,hw⟩
 obtain rfl:=hw.symm
 clear t0 t1 q0 HC
 obtain ⟨t0,t1,q0⟩:=H.out.cells
 have HC:=Lib.hid (tset H.out (keyB j) ⟨#[110,101,119]⟩ HX.out.2.2.2.2.1)
 go_wp2_with (go_at_call 16;fail)
 refine HC.out.mono ?_
 rintro e w10 ⟨⟨v0,rfl⟩,τ10,h10⟩
 clear t0 t1 q0 HC H
 have H:=Lib.hid h10
 clear h10
 obtain ⟨t0,t1,q0⟩:=H.out.cells
 have HC:=Lib.hid (tstepT H.out 8 o 0 (keyB j) ⟨#[]⟩ false HX.out.2.2.2.2.2.1)
 unfold stepV at HC
 go_wp2_with (go_at_call 23;fail)
 refine HC.out.mono ?_
 rintro e w11 ⟨⟨v0,rfl⟩,τ11,h11⟩
 clear t0 t1 q0 HC H
 have H:=Lib.hid h11
 clear h11
 obtain ⟨t0,t1,q0⟩:=H.out.cells
 have HC:=Lib.hid (tstepT H.out 2 0 0 ⟨#[]⟩ ⟨#[]⟩ false HX.out.2.2.2.2.2.2.1)
 unfold stepV at HC
 go_wp2_with (go_at_call 23;fail)
 refine HC.out.mono ?_
 rintro e w12 ⟨⟨v0,rfl⟩,τ12,h12⟩
 clear t0 t1 q0 HC H
 have H:=Lib.hid h12
 clear h12
 obtain ⟨t0,t1,q0⟩:=H.out.cells
 have HC:=Lib.hid (tlog H.out)
 go_wp2_with (go_at_call 27;fail)
 refine HC.out.mono ?_
 rintro e w' ⟨rfl,hw⟩
 obtain rfl:=hw
 clear t0 t1 q0 HC
 obtain ⟨t0,t1,q0⟩:=H.out.cells
 have hc0:=tall H.out (by rw [HX.out.2.2.2.2.2.2.2.2.2.2.1];simp)
 rw [HX.out.2.2.2.2.2.2.2.2.2.2.1] at hc0
 have HC:=Lib.hid hc0
 clear hc0
 go_wp2_with (go_at_call 28;fail)
 refine HC.out.mono ?_
 rintro e w14 ⟨v0,rfl,hv,τ14,h14⟩
 obtain ⟨lg,lo,lc,rfl,hcs⟩:=hv.get (by simp)
 clear t0 t1 q0 HC H
 have H:=Lib.hid h14
 clear h14 hv
 have l0 : w14.cell? ⟨lg,lo + 19,none⟩ = some (.bool y.done):=hcs 1 y rfl 6 _ rfl
 rw [HX.out.2.2.2.2.2.2.2.2.2.2.2.1.1.1] at l0
 have l1 : w14.cell? ⟨lg,lo + 24,none⟩ = some (.string y.reply.val):=hcs 1 y rfl 11 _ rfl
 rw [HX.out.2.2.2.2.2.2.2.2.2.2.2.1.1.2] at l1
 have l2 : w14.cell? ⟨lg,lo + 32,none⟩ = some (.bool z.done):=hcs 2 z rfl 6 _ rfl
 rw [HX.out.2.2.2.2.2.2.2.2.2.2.2.1.2] at l2
 have l3 : w14.cell? ⟨lg,lo + 36,none⟩ = some (.int .i64 (z.reply.err : Int)):=hcs 2 z rfl 10 _ rfl
 rw [HX.out.2.2.2.2.2.2.2.2.2.2.2.2] at l3
 clear hcs
 obtain ⟨t0,t1,q0⟩:=H.out.cells
 have HC:=Lib.hid (tget H.out q (keyB j) ⟨#[110,101,119]⟩ HX.out.2.2.2.2.2.2.2.1)
 go_wp2_with (go_at_call 19;fail)
 refine HC.out.mono ?_
 rintro e w15 ⟨rfl,τ15,h15⟩
 clear t0 t1 q0 HC H
 have H:=Lib.hid h15
 clear h15
 obtain ⟨t0,t1,q0⟩:=H.out.cells
 have HC:=Lib.hid (tright H.out HX.out.2.2.2.2.2.2.2.2.1)
 go_wp2_with (go_at_call 21;fail)
 refine HC.out.mono ?_
 rintro e w16 ⟨rfl,τ16,h16⟩
 clear t0 t1 q0 HC H
 have H:=Lib.hid h16
 clear h16
 have HF:=Lib.hid H.out.below
 clear H
 go_wp2_with fail
 go_ret
 exact ⟨rfl,HF.out⟩
end Go.Proofs.Ytlhekbjidppijaa
