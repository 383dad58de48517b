/- The walk of TopFill: for every input it returns true. No condition. -/
import Derived.Test.YtlhekbjidppijaaGreatMBQ
set_option linter.unusedVariables false
set_option linter.unusedSimpArgs false
namespace Go.Proofs.Ytlhekbjidppijaa
open Go.RowKit
set_option maxRecDepth 100000 in
theorem fill_true : fillLaw = true:=by decide +kernel
set_option maxRecDepth 20000 in
set_option maxHeartbeats 2000000 in
theorem topFill.walk (w : World) (a : Int) (ha : (Lit.int .i64 a).wf = true) : Calls Tryz.prog 4 #[.int .i64 a] w fun e w'=>e = .returned (.bool true) /\ Below w.heap.size w w':=by
 obtain ⟨s0,e_s0,hall⟩:=optB_ex fill_true
 have HWa:=Lib.hid ha
 have HA:=Lib.hid (And.intro e_s0 hall)
 clear ha e_s0 hall
 have HB:=Lib.hid (begun13 w)
 go_enter Tryz.func4,Tryz.ntmps4
 go_wp2_with (go_at_call 13;fail)
 refine HB.out.mono ?_
 rintro e w1 ⟨rfl,hb1⟩
 have HB1:=Lib.hid hb1
 clear hb1 HB
 have HM:=Lib.hid (tmade w w1 HB1.out 3 #[.int .i64 1,.int .i64 2,.int .i64 3] rfl (by decide) (by decide) s0 HA.out.1)
 clear HB1
 go_wp2_with (go_at_call 15;fail)
 refine HM.out.mono ?_
 rintro e w2 ⟨t,x,c,L,rfl,τ2,h2⟩
 clear HM
 have H:=Lib.hid h2
 clear h2
 obtain ⟨t0,t1,q0⟩:=H.out.cells
 have HC:=Lib.hid (tsmall w2 a 20 (by decide) (by decide) HWa.out)
 go_wp2_with (go_at_call 14;fail)
 refine HC.out.mono ?_
 rintro e w' ⟨⟨j,hj,-,rfl⟩,hw⟩
 obtain rfl:=hw
 clear HC t0 t1 q0
 obtain ⟨t0,t1,q0⟩:=H.out.cells
 have HC:=Lib.hid (tkey H.out j (by omega))
 go_wp2_with (go_at_call 17;fail)
 refine HC.out.mono ?_
 rintro e w3 ⟨rfl,τ3,h3⟩
 clear t0 t1 q0 HC H
 have H:=Lib.hid h3
 clear h3
 have hc:=List.all_eq_true.1 HA.out.2 j (List.mem_range.2 hj)
 unfold fillK at hc
 have hown:=own3 j hj
 obtain ⟨o,ho⟩ : ∃ o,o = ownR (upto 3) (keyB j):=⟨_,rfl⟩
 rw [<- ho] at hown hc
 obtain ⟨s1,e_s1,hc⟩:=optB_ex hc
 obtain ⟨s2,e_s2,hc⟩:=optB_ex hc
 obtain ⟨p,e_p,hc⟩:=optB_ex hc
 simp only [Bool.and_eq_true,decide_eq_true_eq] at hc
 obtain ⟨hrd,hc⟩:=hc
 obtain ⟨s3,e_s3,hc⟩:=optB_ex hc
 obtain ⟨s4,e_s4,hc⟩:=optB_ex hc
 simp only [Bool.and_eq_true,decide_eq_true_eq] at hc
 obtain ⟨hlog,hc⟩:=hc
 obtain ⟨s5,e_s5,hc⟩:=optB_ex hc
 obtain ⟨s6,e_s6,hr⟩:=optB_ex hc
 obtain ⟨y,z,hlg,hlog⟩ : ∃ y z,s4.c.log = [y,z] /\ (y.done && decide (y.reply.val = oldB)) = true:=by
  split at hlog
  ·rename_i y z hlg
   exact ⟨y,z,hlg,hlog⟩
  ·cases hlog
 simp only [Bool.and_eq_true,decide_eq_true_eq] at hlog
 have HX:=Lib.hid (And.intro e_s1 (And.intro e_s2 (And.intro e_p (And.intro hrd (And.intro e_s3 (And.intro e_s4 (And.intro e_s5 (And.intro e_s6 (And.intro hr (And.intro hlg (And.intro hlog.1 hlog.2)))))))))))
 have HO:=Lib.hid ho
 have o1 : (1 : Int) <= (o : Int):=by omega
 have o2 : (o : Int) <= 3:=by omega
 have HO1 : Hid (1 <= o):=Lib.hid hown.1
 clear hc hown ho hj e_s1 e_s2 e_p hrd e_s3 e_s4 e_s5 e_s6 hr hlg hlog
 unfold oldB newB eB at HX
 obtain ⟨t0,t1,q0⟩:=H.out.cells
 have HC:=Lib.hid (tset H.out (keyB j) ⟨#[111,108,100]⟩ HX.out.1)
 go_wp2_with (go_at_call 16;fail)
 refine HC.out.mono ?_
 rintro e w4 ⟨⟨v0,rfl⟩,τ4,h4⟩
 clear t0 t1 q0 HC H
 have H:=Lib.hid h4
 clear h4
 obtain ⟨t0,t1,q0⟩:=H.out.cells
 have HC:=Lib.hid (towner H.out 3 #[.int .i64 1,.int .i64 2,.int .i64 3] rfl (by decide) (by decide) (keyB j) (by rw [keyB_size];decide))
 go_wp2_with (go_at_call 22;fail)
 refine HC.out.mono ?_
 rintro e w5 ⟨rfl,τ5,h5⟩
 clear t0 t1 q0 HC H
 have H:=Lib.hid h5
 clear h5
 rw [<- HO.out]
 obtain ⟨t0,t1,q0⟩:=H.out.cells
 have HC:=Lib.hid (tstepT H.out 7 o 0 (keyB j) ⟨#[]⟩ false HX.out.2.1)
 unfold stepV at HC
 go_wp2_with (go_at_call 23;fail)
 refine HC.out.mono ?_
 rintro e w6 ⟨⟨v0,rfl⟩,τ6,h6⟩
 clear t0 t1 q0 HC H
 have H:=Lib.hid h6
 clear h6
 obtain ⟨t0,t1,q0⟩:=H.out.cells
 have HC:=Lib.hid (tnode H.out o HO1.out (by have:=(List.getElem?_eq_some_iff.1 HX.out.2.2.1).1;have:=H.out.tat.wat.clu.len;have:=HO1.out;omega))
 go_wp2_with (go_at_call 24;fail)
 refine HC.out.mono ?_
 rintro e w' ⟨rfl,hw⟩
 obtain rfl:=hw
 clear t0 t1 q0 HC
 have hc0:=treads H.out HO1.out HX.out.2.2.1 (by rw [HX.out.2.2.2.1];decide)
 rw [HX.out.2.2.2.1] at hc0
 have HR0:=Lib.hid hc0
 clear hc0
 obtain ⟨t0,t1,q0⟩:=H.out.cells
 have HC:=Lib.hid (HR0.out)
 go_wp2_with (go_at_call 25;fail)
 refine HC.out.mono ?_
 rintro e w8 ⟨⟨A0,ca0,rfl⟩,τ8,h8⟩
 clear t0 t1 q0 HC H
 have H:=Lib.hid h8
 clear h8
 obtain ⟨t0,t1,q0⟩:=H.out.cells
 have HC:=Lib.hid (tkill2 H.out o (keyB j) HX.out.2.2.2.2.1)
 go_wp2_with (go_at_call 26;fail)
 refine HC.out.mono ?_
 rintro e w9 ⟨rfl,τ9,h9⟩
 clear t0 t1 q0 HC H
 have H:=Lib.hid h9
 clear h9
 obtain ⟨t0,t1,q0⟩:=H.out.cells
 have HC:=Lib.hid (tstepT H.out 5 o 0 ⟨#[]⟩ ⟨#[]⟩ false HX.out.2.2.2.2.2.1)
 unfold stepV at HC
 go_wp2_with (go_at_call 23;fail)
 refine HC.out.mono ?_
 rintro e w10 ⟨⟨v0,rfl⟩,τ10,h10⟩
 clear t0 t1 q0 HC H
 have H:=Lib.hid h10
 clear h10
 obtain ⟨t0,t1,q0⟩:=H.out.cells
 have HC:=Lib.hid (tlog H.out)
 go_wp2_with (go_at_call 27;fail)
 refine HC.out.mono ?_
 rintro e w' ⟨rfl,hw⟩
 obtain rfl:=hw
 clear t0 t1 q0 HC
 obtain ⟨t0,t1,q0⟩:=H.out.cells
 have hc0:=tall H.out (by rw [HX.out.2.2.2.2.2.2.2.2.2.1];simp)
 rw [HX.out.2.2.2.2.2.2.2.2.2.1] at hc0
 have HC:=Lib.hid hc0
 clear hc0
 go_wp2_with (go_at_call 28;fail)
 refine HC.out.mono ?_
 rintro e w12 ⟨v0,rfl,hv,τ12,h12⟩
 obtain ⟨lg,lo,lc,rfl,hcs⟩:=hv.get (by simp)
 clear t0 t1 q0 HC H
 have H:=Lib.hid h12
 clear h12 hv
 have l0 : w12.cell? ⟨lg,lo + 6,none⟩ = some (.bool y.done):=hcs 0 y rfl 6 _ rfl
 rw [HX.out.2.2.2.2.2.2.2.2.2.2.1] at l0
 have l1 : w12.cell? ⟨lg,lo + 11,none⟩ = some (.string y.reply.val):=hcs 0 y rfl 11 _ rfl
 rw [HX.out.2.2.2.2.2.2.2.2.2.2.2] at l1
 clear hcs
 obtain ⟨t0,t1,q0⟩:=H.out.cells
 have HC:=Lib.hid (tset H.out (keyB j) ⟨#[110,101,119]⟩ HX.out.2.2.2.2.2.2.1)
 go_wp2_with (go_at_call 16;fail)
 refine HC.out.mono ?_
 rintro e w13 ⟨⟨v0,rfl⟩,τ13,h13⟩
 clear t0 t1 q0 HC H
 have H:=Lib.hid h13
 clear h13
 obtain ⟨t0,t1,q0⟩:=H.out.cells
 have HC:=Lib.hid (tget H.out o (keyB j) ⟨#[110,101,119]⟩ HX.out.2.2.2.2.2.2.2.1)
 go_wp2_with (go_at_call 19;fail)
 refine HC.out.mono ?_
 rintro e w14 ⟨rfl,τ14,h14⟩
 clear t0 t1 q0 HC H
 have H:=Lib.hid h14
 clear h14
 obtain ⟨t0,t1,q0⟩:=H.out.cells
 have HC:=Lib.hid (tright H.out HX.out.2.2.2.2.2.2.2.2.1)
 go_wp2_with (go_at_call 21;fail)
 refine HC.out.mono ?_
 rintro e w15 ⟨rfl,τ15,h15⟩
 clear t0 t1 q0 HC H
 have H:=Lib.hid h15
 clear h15
 have HF:=Lib.hid H.out.below
 clear H
 go_wp2_with fail
 go_ret
 exact ⟨rfl,HF.out⟩
end Go.Proofs.Ytlhekbjidppijaa
