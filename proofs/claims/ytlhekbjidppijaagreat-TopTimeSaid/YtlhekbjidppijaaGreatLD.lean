/- The walk of TopTime: for every input it returns true. No condition. -/
import Derived.Test.YtlhekbjidppijaaGreatMBQ
set_option linter.unusedVariables false
set_option linter.unusedSimpArgs false
namespace Go.Proofs.Ytlhekbjidppijaa
open Go.RowKit
set_option maxRecDepth 100000 in
theorem timeP0 : timeLaw (List.range' 0 9) = true:=by decide +kernel
set_option maxRecDepth 100000 in
theorem timeP1 : timeLaw (List.range' 9 9) = true:=by decide +kernel
set_option maxRecDepth 100000 in
theorem timeP2 : timeLaw (List.range' 18 8) = true:=by decide +kernel
theorem timeP_in {l : List Nat} (h : timeLaw l = true) : ∃ s,(PW.new 2).rounds? 3 = some s /\ ∀ j,j ∈ l -> timeK s j = true:=by
 obtain ⟨s,h1,h2⟩:=optB_ex h
 exact ⟨s,h1,fun j hj=>List.all_eq_true.1 h2 j hj⟩
theorem time_all : ∃ s,(PW.new 2).rounds? 3 = some s /\ ∀ j,j < 26 -> timeK s j = true:=by
 obtain ⟨s0,h0,k0⟩:=timeP_in timeP0
 obtain ⟨s1,h1,k1⟩:=timeP_in timeP1
 obtain ⟨s2,h2,k2⟩:=timeP_in timeP2
 rw [show s1 = s0 from Option.some.inj (h1.symm.trans h0)] at k1
 rw [show s2 = s0 from Option.some.inj (h2.symm.trans h0)] at k2
 refine ⟨s0,h0,fun j hj=>?_⟩
 by_cases c0 : j < 9
 ·exact k0 j (List.mem_range'_1.2 ⟨by omega,by omega⟩)
 by_cases c1 : j < 18
 ·exact k1 j (List.mem_range'_1.2 ⟨by omega,by omega⟩)
 exact k2 j (List.mem_range'_1.2 ⟨by omega,by omega⟩)
theorem time_at {f i : Nat} {s : PW} (h : timeAll (f + 1) i s = true) : (∃ z,s.c.log = [z] /\ z.done = decide (60 <= i) /\ (z.done = true -> z.reply.err = 10)) /\ ∃ s1 s2,s.step? 1 0 0 ⟨#[]⟩ ⟨#[]⟩ false = some s1 /\ s1.drops? 60 = some s2 /\ timeAll f (i + 1) s2 = true:=by
 unfold timeAll at h
 rw [Bool.and_eq_true] at h
 obtain ⟨h1,h3⟩:=h
 obtain ⟨s2,h6,h7⟩:=optB_ex h3
 unfold PW.still? at h6
 obtain ⟨s1,h8,h9⟩:=Option.bind_eq_some_iff.1 h6
 refine ⟨?_,s1,s2,h8,h9,h7⟩
 split at h1
 ·rename_i z hz
  simp only [Bool.and_eq_true,decide_eq_true_eq,Bool.or_eq_true,Bool.not_eq_true'] at h1
  exact ⟨z,hz,h1.1,fun hd=>h1.2.resolve_left (by rw [hd];decide)⟩
 ·cases h1
set_option maxRecDepth 20000 in
set_option maxHeartbeats 2000000 in
theorem topTime.walk (w : World) (a : Int) (ha : (Lit.int .i64 a).wf = true) (b : Int) (hb : (Lit.int .i64 b).wf = true) : Calls Tryz.prog 8 #[.int .i64 a,.int .i64 b] w fun e w'=>e = .returned (.bool true) /\ Below w.heap.size w w':=by
 obtain ⟨s0,e_s0,hall⟩:=time_all
 have HWa:=Lib.hid ha
 have HWb:=Lib.hid hb
 have HA:=Lib.hid (And.intro e_s0 hall)
 clear ha hb e_s0 hall
 have HB:=Lib.hid (begun13 w)
 go_enter Tryz.func8,Tryz.ntmps8
 go_wp2_with (go_at_call 13;fail)
 refine HB.out.mono ?_
 rintro e w1 ⟨rfl,hb1⟩
 have HB1:=Lib.hid hb1
 clear hb1 HB
 have HC:=Lib.hid (tsmall w1 b 80 (by decide) (by decide) HWb.out)
 go_wp2_with (go_at_call 14;fail)
 refine HC.out.mono ?_
 rintro e w' ⟨⟨m,hm,-,rfl⟩,hw⟩
 obtain rfl:=hw
 clear HC
 have HM:=Lib.hid (tmade w w1 HB1.out 2 #[.int .i64 1,.int .i64 2] rfl (by decide) (by decide) s0 HA.out.1)
 clear HB1
 go_wp2_with (go_at_call 15;fail)
 refine HM.out.mono ?_
 rintro e w2 ⟨t,x,c,L,rfl,τ2,h2⟩
 clear HM
 have H:=Lib.hid h2
 clear h2
 obtain ⟨t0,t1,q0⟩:=H.out.cells
 have HC:=Lib.hid (tsmall w2 a 26 (by decide) (by decide) HWa.out)
 go_wp2_with (go_at_call 14;fail)
 refine HC.out.mono ?_
 rintro e w' ⟨⟨j,hj,-,rfl⟩,hw⟩
 obtain rfl:=hw
 clear HC t0 t1 q0
 obtain ⟨t0,t1,q0⟩:=H.out.cells
 have HC:=Lib.hid (tkey H.out j (by omega))
 go_wp2_with (go_at_call 17;fail)
 refine HC.out.mono ?_
 rintro e w3 ⟨rfl,τ3,h3⟩
 clear t0 t1 q0 HC H
 have H:=Lib.hid h3
 clear h3
 have hc:=HA.out.2 j hj
 unfold timeK at hc
 have hown:=own2 j hj
 obtain ⟨o,ho⟩ : ∃ o,o = ownR (upto 2) (keyB j):=⟨_,rfl⟩
 rw [<- ho] at hown hc
 obtain ⟨s1,e_s1,hc⟩:=optB_ex hc
 obtain ⟨s2,e_s2,hc⟩:=optB_ex hc
 simp only [Bool.and_eq_true,decide_eq_true_eq] at hc
 obtain ⟨hnet,hc⟩:=hc
 have HX:=Lib.hid (And.intro e_s1 (And.intro e_s2 (And.intro hc hnet)))
 have HO:=Lib.hid ho
 have o1 : (1 : Int) <= (o : Int):=by omega
 have o2 : (o : Int) <= 2:=by omega
 obtain ⟨q,hq⟩ : ∃ q,q = 3 - o:=⟨_,rfl⟩
 have o3 : (3 : Int) - (o : Int) = (q : Int):=by omega
 rw [<- hq] at HX
 clear hc hown ho hj e_s1 e_s2 hnet hq
 unfold vB1 eB at HX
 obtain ⟨t0,t1,q0⟩:=H.out.cells
 have HC:=Lib.hid (towner H.out 2 #[.int .i64 1,.int .i64 2] rfl (by decide) (by decide) (keyB j) (by rw [keyB_size];decide))
 go_wp2_with (go_at_call 22;fail)
 refine HC.out.mono ?_
 rintro e w4 ⟨rfl,τ4,h4⟩
 clear t0 t1 q0 HC H
 have H:=Lib.hid h4
 clear h4
 rw [<- HO.out]
 obtain ⟨t0,t1,q0⟩:=H.out.cells
 have HC:=Lib.hid (tset H.out (keyB j) ⟨#[118]⟩ HX.out.1)
 go_wp2_with (go_at_call 16;fail)
 refine HC.out.mono ?_
 rintro e w5 ⟨⟨v0,rfl⟩,τ5,h5⟩
 clear t0 t1 q0 HC H
 have H:=Lib.hid h5
 clear h5
 obtain ⟨t0,t1,q0⟩:=H.out.cells
 have HC:=Lib.hid (tstepT H.out 7 q 0 (keyB j) ⟨#[]⟩ false HX.out.2.1)
 unfold stepV at HC
 go_wp2_with (go_at_call 23;fail)
 refine HC.out.mono ?_
 rintro e w6 ⟨⟨v0,rfl⟩,τ6,h6⟩
 clear t0 t1 q0 HC H
 have H:=Lib.hid h6
 clear h6
 obtain ⟨t0,t1,q0⟩:=H.out.cells
 have HC:=Lib.hid (tnet H.out)
 go_wp2_with (go_at_call 35;fail)
 refine HC.out.mono ?_
 rintro e w' ⟨rfl,hw⟩
 obtain rfl:=hw
 clear t0 t1 q0 HC
 have kn : ((s2.c.net.length : Int) == 0) = false:=by rw [beq_eq_false_iff_ne];have:=HX.out.2.2.2;omega
 have kn2 : ¬ ((s2.c.net.length : Int) = 0):=by have:=HX.out.2.2.2;omega
 obtain ⟨t0,t1,q0⟩:=H.out.cells
 have hc0:=tlen H.out
 have HC:=Lib.hid hc0
 clear hc0
 go_wp2_with (go_at_call 36;fail)
 refine HC.out.mono ?_
 rintro e w' ⟨rfl,hw⟩
 obtain rfl:=hw.symm
 clear t0 t1 q0 HC
 have km : (m : Int) <= 80:=by omega
 obtain ⟨t0,t1,q0⟩:=H.out.cells
 go_wp2_with fail
 clear t0 t1 q0 kn kn2 o1 o2 o3
 go_loopw [9] (fun v wr=>∃ (i : Nat) (τr : Own) (sr : PW),i <= m /\ v = .int .i64 (i : Int) /\ timeAll (80 - i) i sr = true /\ TR w wr τr t x c L sr) (fun v _=>m - (intOf v).toNat)
 case atStart=>exact ⟨0,_,s2,Nat.zero_le _,rfl,HX.out.2.2.1,H.out⟩
 case' round=>
  obtain ⟨i,τr,sr,hi,rfl,hl,hr⟩:=hrel
  clear H
  obtain ⟨f,hf⟩ : ∃ f,80 - i = f + 1:=⟨79 - i,by omega⟩
  rw [hf] at hl
  obtain ⟨⟨z,g1,g2,g3⟩,s4,s5,g4,g5,g6⟩:=time_at hl
  have HF:=Lib.hid hf
  have H:=Lib.hid hr
  by_cases hik : i < m
  focus (
   have HG:=Lib.hid (And.intro g4 (And.intro g5 g6))
   have k1 : (i : Int) < (m : Int):=by omega
   clear hl hr g1 g2 g3 g4 g5 g6 hf HX
   obtain ⟨t0,t1,q0⟩:=H.out.cells
   have HC:=Lib.hid (tstep H.out 1 0 0 ⟨#[]⟩ ⟨#[]⟩ false HG.out.1)
   unfold stepV at HC
   go_wp2_with (go_at_call 34;fail)
   refine HC.out.mono ?_
   rintro e w8 ⟨rfl,τ8,h8⟩
   clear t0 t1 q0 HC H
   have H:=Lib.hid h8
   clear h8
   go_wp2_with fail
   go_loopw [] (fun wq=>∃ (g : Nat) (τq : Own) (sq : PW),sq.drops? g = some s5 /\ TR w wq τq t x c L sq) (fun wq=>netLen L.net wq)
   case atStart=>exact ⟨60,_,_,HG.out.2.1,H.out⟩
   case' round=>
    obtain ⟨gq,τq,sq,hd,hq⟩:=hrel
    clear H
    obtain ⟨t0,t1,q0⟩:=hq.cells
    have HNt:=Lib.hid (tnet hq)
    have HLn:=Lib.hid (tlen hq)
    have H:=Lib.hid hq
    rcases drops_cases hd with ⟨hn0,rfl⟩ | ⟨hn0,g1,s6,h6,h7,h8⟩
    rotate_left
    focus (
     have HST:=Lib.hid (tstep hq 3 0 0 ⟨#[]⟩ ⟨#[]⟩ false h6)
     have HY:=Lib.hid (And.intro h7 (And.intro h8 hq.netLen))
     have k2 : (0 : Int) < (sq.c.net.length : Int):=by omega
     clear hd hq h6 h7 h8 hn0
     unfold stepV at HST
     go_wp2_with (first | (go_at_call 35;refine HNt.out.mono ?_;rintro e w' ⟨rfl,hw⟩;obtain rfl:=hw) | (go_at_call 36;refine HLn.out.mono ?_;rintro e w' ⟨rfl,hw⟩;obtain rfl:=hw.symm) | (go_at_call 34;fail))
     refine HST.out.mono ?_
     rintro e wz ⟨rfl,τz,hz⟩
     have HZ:=Lib.hid hz
     clear hz
     go_wp2_with fail
     go_roundw
     case rel=>exact ⟨g1,τz,s6,HY.out.1,HZ.out⟩
     case measure=>rw [HZ.out.netLen,HY.out.2.2];exact HY.out.2.1)
    rw [hn0] at HLn
    clear hd hq hn0
    go_wp2_with (first | (go_at_call 35;refine HNt.out.mono ?_;rintro e w' ⟨rfl,hw⟩;obtain rfl:=hw) | (go_at_call 36;refine HLn.out.mono ?_;rintro e w' ⟨rfl,hw⟩;obtain rfl:=hw.symm))
    go_roundw
    case rel=>exact ⟨i + 1,_,_,by omega,by go_num,by rw [show 80 - (i + 1) = f by have:=HF.out;omega];exact HG.out.2.2,H.out⟩
    case measure=>simp [intOf];omega)
  obtain rfl : i = m:=by omega
  have k1 : ¬ ((i : Int) < (i : Int)):=by omega
  have hcase : (i = 0 \/ (¬ i = 0 /\ ¬ 60 <= i)) \/ 60 <= i:=by omega
  have HG:=Lib.hid g1
  clear hl hr g1 g4 g5 g6 hf HX
  obtain ⟨t0,t1,q0⟩:=H.out.cells
  have HC:=Lib.hid (tlog H.out)
  go_wp2_with (go_at_call 27;fail)
  refine HC.out.mono ?_
  rintro e w' ⟨rfl,hw⟩
  obtain rfl:=hw
  clear t0 t1 q0 HC
  obtain ⟨t0,t1,q0⟩:=H.out.cells
  have hc0:=tall H.out (by rw [HG.out];simp)
  rw [HG.out] at hc0
  have HC:=Lib.hid hc0
  clear hc0
  go_wp2_with (go_at_call 28;fail)
  refine HC.out.mono ?_
  rintro e w10 ⟨v0,rfl,hv,τ10,h10⟩
  obtain ⟨lg,lo,lc,rfl,hcs⟩:=hv.get (by simp)
  clear t0 t1 q0 HC H
  have H:=Lib.hid h10
  clear h10 hv
  have l0 : w10.cell? ⟨lg,lo + 6,none⟩ = some (.bool z.done):=hcs 0 z rfl 6 _ rfl
  have l1 : w10.cell? ⟨lg,lo + 10,none⟩ = some (.int .i64 (z.reply.err : Int)):=hcs 0 z rfl 10 _ rfl
  clear hcs
  rcases hcase with (rfl | ⟨hz0,hz⟩) | hz
  focus (
   rw [decide_eq_false (by decide)] at g2
   rw [g2] at l0
   clear l1 g3)
  rotate_left
  focus (
   rw [decide_eq_false hz] at g2
   rw [g2] at l0
   clear l1 g3
   have z0 : ¬ ((i : Int) = 0):=by omega
   have z1 : ((i : Int) == 0) = false:=by rw [beq_eq_false_iff_ne];omega
   have z2 : decide ((60 : Int) <= (i : Int)) = false:=by rw [decide_eq_false_iff_not];omega)
  rotate_left
  focus (
   rw [decide_eq_true hz] at g2
   rw [g3 g2] at l1
   rw [g2] at l0
   have z0 : ¬ ((i : Int) = 0):=by omega
   have z1 : ((i : Int) == 0) = false:=by rw [beq_eq_false_iff_ne];omega
   have z2 : (60 : Int) <= (i : Int):=by omega)
  rotate_left
  all_goals (
   have HF:=Lib.hid H.out.below
   clear H
   go_wp2_with fail
   go_ret
   exact ⟨rfl,HF.out⟩)
end Go.Proofs.Ytlhekbjidppijaa
