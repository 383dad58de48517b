/- The walk of TopSpread: for every input it returns true. No condition. -/
import Derived.Test.YtlhekbjidppijaaGreatMBQ
set_option linter.unusedVariables false
set_option linter.unusedSimpArgs false
namespace Go.Proofs.Ytlhekbjidppijaa
open Go.RowKit
set_option maxRecDepth 100000 in
theorem spread_true : spreadLaw = true:=by decide +kernel
theorem spread_all : ∃ s,(PW.new 5).rounds? 3 = some s /\ ∀ i,i < 40 -> ∀ a,1 <= a -> a <= 5 -> s.c.serves? a (keyB i) = some (decide (ownR (upto 5) (keyB i) = a)):=by
 obtain ⟨s,h1,h2⟩:=optB_ex spread_true
 refine ⟨s,h1,fun i hi a ha1 ha5=>?_⟩
 have h3:=List.all_eq_true.1 h2 i (List.mem_range.2 hi)
 have h4:=List.all_eq_true.1 h3 a (by simp only [List.mem_cons,List.not_mem_nil,or_false];omega)
 simpa using h4
set_option maxRecDepth 20000 in
set_option maxHeartbeats 8000000 in
theorem topSpread.walk (w : World) (a : Int) (ha : (Lit.int .i64 a).wf = true) : Calls Tryz.prog 12 #[.int .i64 a] w fun e w'=>e = .returned (.bool true) /\ Below w.heap.size w w':=by
 obtain ⟨s0,e_s0,hall⟩:=spread_all
 have HWa:=Lib.hid ha
 have HA:=Lib.hid (And.intro e_s0 hall)
 clear ha e_s0 hall
 have HB:=Lib.hid (begun13 w)
 go_enter Tryz.func12,Tryz.ntmps12
 go_wp2_with (go_at_call 13;fail)
 refine HB.out.mono ?_
 rintro e w1 ⟨rfl,hb1⟩
 have HB1:=Lib.hid hb1
 clear hb1 HB
 have HC:=Lib.hid (tsmall w1 a 40 (by decide) (by decide) HWa.out)
 go_wp2_with (go_at_call 14;fail)
 refine HC.out.mono ?_
 rintro e w' ⟨⟨k,hk,-,rfl⟩,hw⟩
 obtain rfl:=hw
 clear HC
 have HM:=Lib.hid (tmade w w1 HB1.out 5 #[.int .i64 1,.int .i64 2,.int .i64 3,.int .i64 4,.int .i64 5] rfl (by decide) (by decide) s0 HA.out.1)
 clear HB1
 go_wp2_with (go_at_call 15;fail)
 refine HM.out.mono ?_
 rintro e w2 ⟨t,x,c,L,rfl,τ2,h2⟩
 clear HM
 have H:=Lib.hid h2
 clear h2
 have kk : (k : Int) < 40:=by omega
 obtain ⟨t0,t1,q0⟩:=H.out.cells
 go_wp2_with fail
 clear t0 t1 q0
 go_loopw [5] (fun v wr=>∃ (i : Nat) (τr : Own),i <= 1 + k /\ v = .int .i64 (i : Int) /\ TR w wr τr t x c L s0) (fun v _=>1 + k - (intOf v).toNat)
 case atStart=>exact ⟨0,_,Nat.zero_le _,rfl,H.out⟩
 case' round=>
  obtain ⟨i,τr,hi,rfl,hr⟩:=hrel
  clear H
  have H:=Lib.hid hr
  clear hr
  by_cases hik : i < 1 + k
  rotate_left
  focus (
   have k1 : ¬ ((i : Int) < 1 + (k : Int)):=by omega
   have HF:=Lib.hid H.out.below
   clear H
   go_wp2_with fail
   go_ret
   exact ⟨rfl,HF.out⟩)
  have k1 : (i : Int) < 1 + (k : Int):=by omega
  have hi40 : i < 40:=by omega
  go_wp2_with fail
  go_loopw [6] (fun v wq=>∃ (a : Nat) (τq : Own),1 <= a /\ a <= 6 /\ v = .int .i64 (a : Int) /\ TR w wq τq t x c L s0) (fun v _=>6 - (intOf v).toNat)
  case atStart=>exact ⟨1,_,by decide,by decide,rfl,H.out⟩
  case' round=>
   obtain ⟨b,τq,hb1,hb6,rfl,hq⟩:=hrel
   clear H
   have H:=Lib.hid hq
   clear hq
   by_cases hb5 : b <= 5
   rotate_left
   focus (
    have k2 : ¬ ((b : Int) <= 5):=by omega
    go_wp2_with fail
    go_roundw
    case rel=>exact ⟨i + 1,_,by omega,by go_num,H.out⟩
    case measure=>simp [intOf];omega)
   have k2 : (b : Int) <= 5:=by omega
   have k3 : (1 : Int) <= (b : Int):=by omega
   obtain ⟨o,ho⟩ : ∃ o,o = ownR (upto 5) (keyB i):=⟨_,rfl⟩
   have hsv:=HA.out.2 i hi40 b hb1 hb5
   rw [<- ho] at hsv
   have HO:=Lib.hid ho
   have hn : b <= s0.c.n:=by
    have hl:=H.out.tat.wat.clu.len
    unfold PCl.serves? at hsv
    split at hsv
    ·rename_i p q hp hq
     have:=(List.getElem?_eq_some_iff.1 hp).1
     omega
    ·cases hsv
   have HN:=Lib.hid (And.intro hb1 (And.intro hn hi40))
   have hcase : o = b \/ ¬ o = b:=by omega
   clear ho hn hi40 hb1 hb6 hb5
   rcases hcase with hob | hob
   focus (
    rw [decide_eq_true hob] at hsv
    have HS:=Lib.hid hsv
    have e1 : ((o : Int) == (b : Int)) = true:=by rw [beq_iff_eq];omega
    have e2 : (o : Int) = (b : Int):=by omega
    clear hsv)
   rotate_left
   focus (
    rw [decide_eq_false hob] at hsv
    have HS:=Lib.hid hsv
    have e1 : ((o : Int) == (b : Int)) = false:=by rw [beq_eq_false_iff_ne];omega
    have e2 : ¬ ((o : Int) = (b : Int)):=by omega
    clear hsv)
   rotate_left
   all_goals (
    obtain ⟨t0,t1,q0⟩:=H.out.cells
    have HC:=Lib.hid (tnode H.out _ HN.out.1 HN.out.2.1)
    go_wp2_with (go_at_call 24;fail)
    refine HC.out.mono ?_
    rintro e w' ⟨rfl,hw⟩
    obtain rfl:=hw
    clear t0 t1 q0 HC
    obtain ⟨t0,t1,q0⟩:=H.out.cells
    have HC:=Lib.hid (tkey H.out i HN.out.2.2)
    go_wp2_with (go_at_call 17;fail)
    refine HC.out.mono ?_
    rintro e w21 ⟨rfl,τ21,h21⟩
    clear t0 t1 q0 HC H
    have H:=Lib.hid h21
    clear h21
    obtain ⟨t0,t1,q0⟩:=H.out.cells
    have HC:=Lib.hid (tserves H.out HN.out.1 (by rw [keyB_size];decide) HS.out)
    go_wp2_with (go_at_call 33;fail)
    refine HC.out.mono ?_
    rintro e w22 ⟨rfl,τ22,h22⟩
    clear t0 t1 q0 HC H
    have H:=Lib.hid h22
    clear h22
    obtain ⟨t0,t1,q0⟩:=H.out.cells
    have HC:=Lib.hid (tkey H.out i HN.out.2.2)
    go_wp2_with (go_at_call 17;fail)
    refine HC.out.mono ?_
    rintro e w23 ⟨rfl,τ23,h23⟩
    clear t0 t1 q0 HC H
    have H:=Lib.hid h23
    clear h23
    obtain ⟨t0,t1,q0⟩:=H.out.cells
    have HC:=Lib.hid (towner H.out 5 #[.int .i64 1,.int .i64 2,.int .i64 3,.int .i64 4,.int .i64 5] rfl (by decide) (by decide) (keyB i) (by rw [keyB_size];decide))
    go_wp2_with (go_at_call 22;fail)
    refine HC.out.mono ?_
    rintro e w24 ⟨rfl,τ24,h24⟩
    clear t0 t1 q0 HC H
    have H:=Lib.hid h24
    clear h24
    rw [<- HO.out]
    obtain ⟨t0,t1,q0⟩:=H.out.cells
    go_wp2_with fail
    go_roundw
    case rel=>exact ⟨b + 1,_,by omega,by omega,by go_num,H.out⟩
    case measure=>simp [intOf];omega)
end Go.Proofs.Ytlhekbjidppijaa
