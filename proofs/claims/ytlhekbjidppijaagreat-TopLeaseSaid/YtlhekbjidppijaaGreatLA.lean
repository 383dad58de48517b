/- The walk of TopLease: for every input it returns true. No condition. -/
import Derived.Test.YtlhekbjidppijaaGreatMBQ
set_option linter.unusedVariables false
set_option linter.unusedSimpArgs false
namespace Go.Proofs.Ytlhekbjidppijaa
open Go.RowKit
set_option maxRecDepth 100000 in
theorem lease_true : leaseLaw = true:=by decide +kernel
theorem lease_ex : ∃ s,(PW.new 1).rounds? 3 = some s /\ s.c.serves? 1 kB1 = some true /\ leaseAll 40 0 s = true:=by
 obtain ⟨s,h,hc⟩:=optB_ex lease_true
 simp only [Bool.and_eq_true,decide_eq_true_eq] at hc
 exact ⟨s,h,hc⟩
theorem lease_at {f i : Nat} {s : PW} (h : leaseAll (f + 1) i s = true) : s.c.serves? 1 kB1 = some (decide (i < 20)) /\ (∃ s',s.rounds? 2 = some s' /\ s'.c.serves? 1 kB1 = some true) /\ ∃ s1 s2,s.step? 1 0 0 ⟨#[]⟩ ⟨#[]⟩ false = some s1 /\ s1.drops? 60 = some s2 /\ leaseAll f (i + 1) s2 = true:=by
 unfold leaseAll at h
 simp only [Bool.and_eq_true,decide_eq_true_eq] at h
 obtain ⟨⟨h1,h2⟩,h3⟩:=h
 obtain ⟨s',h4,h5⟩:=optB_ex h2
 obtain ⟨s2,h6,h7⟩:=optB_ex h3
 unfold PW.still? at h6
 obtain ⟨s1,h8,h9⟩:=Option.bind_eq_some_iff.1 h6
 exact ⟨h1,⟨s',h4,by simpa using h5⟩,s1,s2,h8,h9,h7⟩
set_option maxRecDepth 20000 in
set_option maxHeartbeats 2000000 in
theorem topLease.walk (w : World) (a : Int) (ha : (Lit.int .i64 a).wf = true) : Calls Tryz.prog 7 #[.int .i64 a] w fun e w'=>e = .returned (.bool true) /\ Below w.heap.size w w':=by
 obtain ⟨s0,hs0,hv0,hl0⟩:=lease_ex
 have HL:=Lib.hid (And.intro hs0 (And.intro hv0 hl0))
 have HB:=Lib.hid (begun13 w)
 have HA:=Lib.hid ha
 clear hs0 hv0 hl0 ha
 go_enter Tryz.func7,Tryz.ntmps7
 go_wp2_with (go_at_call 13;fail)
 refine HB.out.mono ?_
 rintro e w1 ⟨rfl,hb1⟩
 have HS:=Lib.hid (tsmall w1 a 40 (by decide) (by decide) HA.out)
 have HM:=Lib.hid (tmade w w1 hb1 1 #[.int .i64 1] rfl (by decide) (by decide) s0 HL.out.1)
 clear hb1
 go_wp2_with (go_at_call 14;fail)
 refine HS.out.mono ?_
 rintro e w' ⟨⟨k,hk,-,rfl⟩,hw⟩
 obtain rfl:=hw
 clear HS
 go_wp2_with (go_at_call 15;fail)
 refine HM.out.mono ?_
 rintro e w2 ⟨t,x,c,L,rfl,τ2,h2⟩
 obtain ⟨t0,t1,q0⟩:=h2.cells
 have hn:=h2.tat.wat.clu.n1
 have HN:=Lib.hid (tnode h2 1 (by decide) hn)
 have HV:=Lib.hid (tserves h2 (by decide) (by decide) HL.out.2.1)
 have H2:=Lib.hid h2
 clear HM h2
 unfold kB1 at HV
 go_wp2_with (go_at_call 24;fail)
 refine HN.out.mono ?_
 rintro e w' ⟨rfl,hw⟩
 obtain rfl:=hw
 go_wp2_with (go_at_call 33;fail)
 refine HV.out.mono ?_
 rintro e w3 ⟨rfl,τ3,h3⟩
 have H3:=Lib.hid h3
 clear h3 t0 t1 q0 HN HV H2
 have kk : (k : Int) < 40:=by omega
 go_wp2_with fail
 go_loopw [5] (fun v wr=>∃ (i : Nat) (τr : Own) (sr : PW),i <= k /\ v = .int .i64 (i : Int) /\ leaseAll (40 - i) i sr = true /\ TR w wr τr t x c L sr) (fun v _=>k - (intOf v).toNat)
 case atStart=>exact ⟨0,τ3,s0,Nat.zero_le _,rfl,HL.out.2.2,H3.out⟩
 case' round=>
  obtain ⟨i,τr,sr,hi,rfl,hl,hr⟩:=hrel
  clear H3
  obtain ⟨f,hf⟩ : ∃ f,40 - i = f + 1:=⟨39 - i,by omega⟩
  rw [hf] at hl
  obtain ⟨g1,⟨s9,g2,g3⟩,s4,s5,g4,g5,g6⟩:=lease_at hl
  have HF:=Lib.hid hf
  obtain ⟨t0,t1,q0⟩:=hr.cells
  by_cases hik : i < k
  focus (
   have HST:=Lib.hid (tstep hr 1 0 0 ⟨#[]⟩ ⟨#[]⟩ false g4)
   have HG:=Lib.hid (And.intro g5 g6)
   have k1 : (i : Int) < (k : Int):=by omega
   clear hl hr g1 g2 g3 g4 g5 g6 hf
   unfold stepV at HST
   go_wp2_with (go_at_call 34;fail)
   refine HST.out.mono ?_
   rintro e w4 ⟨rfl,τ4,h4⟩
   have H4:=Lib.hid h4
   clear h4 t0 t1 q0 HST
   go_wp2_with fail
   go_loopw [] (fun wq=>∃ (g : Nat) (τq : Own) (sq : PW),sq.drops? g = some s5 /\ TR w wq τq t x c L sq) (fun wq=>netLen L.net wq)
   case atStart=>exact ⟨60,τ4,s4,HG.out.1,H4.out⟩
   case' round=>
    obtain ⟨g,τq,sq,hd,hq⟩:=hrel
    clear H4
    obtain ⟨t0,t1,q0⟩:=hq.cells
    have HNt:=Lib.hid (tnet hq)
    have HLn:=Lib.hid (tlen hq)
    have HQ:=Lib.hid hq
    rcases drops_cases hd with ⟨hn0,rfl⟩ | ⟨hn0,g1,s6,h6,h7,h8⟩
    focus (
     rw [hn0] at HLn
     clear hd hq hn0
     go_wp2_with (first | (go_at_call 35;refine HNt.out.mono ?_;rintro e w' ⟨rfl,hw⟩;obtain rfl:=hw) | (go_at_call 36;refine HLn.out.mono ?_;rintro e w' ⟨rfl,hw⟩;obtain rfl:=hw.symm))
     go_roundw
     case rel=>exact ⟨i + 1,τq,sq,by omega,by go_num,by rw [show 40 - (i + 1) = f by have:=HF.out;omega];exact HG.out.2,HQ.out⟩
     case measure=>simp [intOf];omega)
    focus (
     have HST:=Lib.hid (tstep hq 3 0 0 ⟨#[]⟩ ⟨#[]⟩ false h6)
     have HX:=Lib.hid (And.intro h7 (And.intro h8 hq.netLen))
     have k2 : (0 : Int) < (sq.c.net.length : Int):=by omega
     clear hd hq h6 h7 h8 hn0
     unfold stepV at HST
     go_wp2_with (first | (go_at_call 35;refine HNt.out.mono ?_;rintro e w' ⟨rfl,hw⟩;obtain rfl:=hw) | (go_at_call 36;refine HLn.out.mono ?_;rintro e w' ⟨rfl,hw⟩;obtain rfl:=hw.symm) | (go_at_call 34;fail))
     refine HST.out.mono ?_
     rintro e w6 ⟨rfl,τ6,h6⟩
     have H6:=Lib.hid h6
     clear h6
     go_wp2_with fail
     go_roundw
     case rel=>exact ⟨g1,τ6,s6,HX.out.1,H6.out⟩
     case measure=>rw [H6.out.netLen,HX.out.2.2];exact HX.out.2.1))
  obtain rfl : i = k:=by omega
  have h20 : i < 20 \/ ¬ i < 20:=by omega
  rcases h20 with h20 | h20
  focus (
   rw [decide_eq_true h20] at g1
   have k20 : (i : Int) < 20:=by omega)
  rotate_left
  focus (
   rw [decide_eq_false h20] at g1
   have k20 : ¬ ((i : Int) < 20):=by omega)
  all_goals (
   obtain hn:=hr.tat.wat.clu.n1
   have HN:=Lib.hid (tnode hr 1 (by decide) hn)
   have HV:=Lib.hid (tserves hr (by decide) (by decide) g1)
   have HG:=Lib.hid (And.intro g2 g3)
   clear hl hr g1 g2 g3 g4 g5 g6 hf
   unfold kB1 at HV
   have k1 : ¬ ((i : Int) < (i : Int)):=by omega
   go_wp2_with (go_at_call 24;fail)
   refine HN.out.mono ?_
   rintro e w' ⟨rfl,hw⟩
   obtain rfl:=hw
   go_wp2_with (go_at_call 33;fail)
   refine HV.out.mono ?_
   rintro e w3 ⟨rfl,τ3,h3⟩
   have HR:=Lib.hid (trounds h3 2 (by decide) HG.out.1)
   clear h3 t0 t1 q0 HN HV
   go_wp2_with (go_at_call 29;fail)
   refine HR.out.mono ?_
   rintro e w5 ⟨⟨v5,rfl⟩,τ5,h5⟩
   obtain ⟨t0,t1,q0⟩:=h5.cells
   obtain hn:=h5.tat.wat.clu.n1
   have HN:=Lib.hid (tnode h5 1 (by decide) hn)
   have HV:=Lib.hid (tserves h5 (by decide) (by decide) HG.out.2)
   clear h5 HR
   unfold kB1 at HV
   go_wp2_with (go_at_call 24;fail)
   refine HN.out.mono ?_
   rintro e w' ⟨rfl,hw⟩
   obtain rfl:=hw
   go_wp2_with (go_at_call 33;fail)
   refine HV.out.mono ?_
   rintro e w6 ⟨rfl,τ6,h6⟩
   have H6:=Lib.hid h6.below
   clear h6 t0 t1 q0 HN HV
   go_wp2_with fail
   go_ret
   exact ⟨rfl,H6.out⟩)
end Go.Proofs.Ytlhekbjidppijaa
