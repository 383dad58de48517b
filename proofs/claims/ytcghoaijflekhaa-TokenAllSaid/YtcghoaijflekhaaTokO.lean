/- The law TokenOnce: its plain laws and its walk. No condition. -/
import Derived.Test.YtcghoaijflekhaaTokB
namespace Go.Proofs.Ytcghoaijflekhaa
open Go.RowKit
def onc (a k m : Nat) : List TkS := (List.range k).map fun i => ⟨⟨#[107]⟩, !(decide (i < a) && decide (a < k)), decide (i < m)⟩
theorem onc_length (a k m : Nat) : (onc a k m).length = k := by simp [onc]
theorem onc_get (a k m i : Nat) (h : i < (onc a k m).length) : (onc a k m)[i] = ⟨⟨#[107]⟩, !(decide (i < a) && decide (a < k)), decide (i < m)⟩ := by simp [onc]
theorem onc_give (a k : Nat) (h : k ≠ a) : onc a k 0 ++ [⟨⟨#[107]⟩, true, false⟩] = onc a (k + 1) 0 := by
  unfold onc
  rw [List.range_succ, List.map_append]
  congr 1
  · apply List.map_congr_left
    intro i hi
    have hi' : i < k := by simpa using hi
    congr 3
    rw [decide_eq_decide]
    omega
  · have : (decide (k < a) && decide (a < k + 1)) = false := by
      rw [Bool.and_eq_false_iff, decide_eq_false_iff_not, decide_eq_false_iff_not]; omega
    rw [List.map_singleton, this]
    rfl
theorem onc_kill (a : Nat) : (onc a a 0).map (hurt1 fun s => inB s [⟨#[107]⟩]) ++ [⟨⟨#[107]⟩, true, false⟩] = onc a (a + 1) 0 := by
  unfold onc
  rw [List.range_succ, List.map_append, List.map_map]
  congr 1
  · apply List.map_congr_left
    intro i hi
    have hi' : i < a := by simpa using hi
    have hin : inB ⟨#[107]⟩ [⟨#[107]⟩] = true := by rw [inB_iff]; simp
    simp [hurt1, hit, hin, hi']
  · simp
theorem onc_hits (a : Nat) : ((onc a a 0).filter (hit fun s => inB s [⟨#[107]⟩])).length = a := by
  rw [List.filter_eq_self.2, onc_length]
  intro x hx
  unfold onc at hx
  obtain ⟨i, hi, rfl⟩ := List.mem_map.1 hx
  have hin : inB ⟨#[107]⟩ [⟨#[107]⟩] = true := by rw [inB_iff]; simp
  simp [hit, hin]
theorem onc_use (a n m : Nat) (_ : m < n) : (onc a n m).set m ⟨⟨#[107]⟩, !(decide (m < a) && decide (a < n)), true⟩ = onc a n (m + 1) := by
  apply List.ext_getElem
  · simp [onc]
  · intro i h1 h2
    rw [List.getElem_set, onc_get, onc_get]
    by_cases hmi : m = i
    · subst hmi; simp
    · have : decide (i < m) = decide (i < m + 1) := by rw [decide_eq_decide]; omega
      simp [hmi, this]
theorem onc_left (a n m i : Nat) (h : i < n) : left (onc a n m) i = !decide (i < m) := by
  unfold left
  rw [List.getElem?_eq_getElem (by rw [onc_length]; exact h), onc_get]
theorem onc_none (a n : Nat) : cntLeft (onc a n n) = 0 := by
  unfold cntLeft
  rw [List.length_eq_zero_iff, List.filter_eq_nil_iff]
  intro i hi
  have hi' : i < n := by simpa [onc_length] using hi
  rw [onc_left _ _ _ _ hi']
  simp [hi']
theorem Tok.low {w : World} {base base' T M : Nat} {L : List TkS} {bl : Nat → Nat} (h : Tok w base T M L bl) (hb : base' ≤ base) : Tok w base' T M L bl :=
  ⟨Nat.le_trans hb h.hT, Nat.le_trans hb h.hM, h.blk, h.map, h.one, fun i hi => ⟨Nat.le_trans hb (h.each i hi).1, (h.each i hi).2⟩⟩
set_option maxHeartbeats 1000000 in
theorem once_out (w : World) (n at_ : Int) (hc : n < 0 ∨ 40 < n ∨ at_ < 0 ∨ n < at_) : Calls Try.prog 3 #[.int .i64 n, .int .i64 at_] w fun e w' => e = .returned (.bool true) ∧ Below w.heap.size w w' := by
  have hc2 : n < 0 ∨ (¬ n < 0 ∧ 40 < n) ∨ (¬ n < 0 ∧ ¬ 40 < n ∧ at_ < 0) ∨ (¬ n < 0 ∧ ¬ 40 < n ∧ ¬ at_ < 0 ∧ n < at_) := by omega
  clear hc
  rcases hc2 with h | ⟨h, h1⟩ | ⟨h, h1, h2⟩ | ⟨h, h1, h2, h3⟩
  all_goals
    go_enter Try.func3, Try.ntmps3
    go_wp2_with fail
    refine (begun_any w).mono ?_
    rintro e w1 ⟨rfl, hb1⟩
    have HB1 := Lib.hid hb1
    clear hb1
    go_wp2
    go_ret
    exact ⟨rfl, HB1.out⟩
set_option maxHeartbeats 2000000 in
theorem once_in (w : World) (k0 a : Nat) (h40 : k0 ≤ 40) (hak : a ≤ k0) : Calls Try.prog 3 #[.int .i64 (k0 : Int), .int .i64 (a : Int)] w fun e w' => e = .returned (.bool true) ∧ Below w.heap.size w w' := by
  have h1 : ¬ ((k0 : Int) < 0) := by omega
  have h2 : ¬ (40 < (k0 : Int)) := by omega
  have h3 : ¬ ((a : Int) < 0) := by omega
  have h4 : ¬ ((k0 : Int) < (a : Int)) := by omega
  go_enter Try.func3, Try.ntmps3
  go_wp2_with fail
  refine (begun_any w).mono ?_
  rintro e w1 ⟨rfl, hb1⟩
  have HB1 := Lib.hid hb1
  clear hb1
  go_wp2_with fail
  refine (new_any w1).mono ?_
  rintro e w2 ⟨T, M, bl0, rfl, hT2, hB2⟩
  have HT2 := Lib.hid (hT2.low HB1.out.size)
  have HB2 := Lib.hid (HB1.out.trans (hB2.mono HB1.out.size))
  clear hT2 hB2
  go_wp2
  go_loopw [7] (fun i wr => ∃ (k : Nat) (bl : Nat → Nat), k ≤ k0 ∧ i = .int .i64 k ∧ Tok wr w.heap.size T M (onc a k 0) bl ∧ Below w.heap.size w wr) (fun i _ => k0 - (intOf i).toNat)
  case atStart => exact ⟨0, bl0, Nat.zero_le _, rfl, HT2.out, HB2.out⟩
  case round =>
    obtain ⟨k, bl, hk, rfl, hT, hB⟩ := hrel
    have HT := Lib.hid hT
    have HB := Lib.hid hB
    clear hT hB
    by_cases hlt : k < k0
    · by_cases hka : k = a
      · subst hka
        go_wp2_with fail
        refine (kills_any (wr.alloc (.cells #[.string ⟨#[107]⟩] 9)) w.heap.size T M (onc k k 0) bl (HT.out.alloc _) (by rw [onc_length]; omega) _ 1 1 [⟨#[107]⟩] (Blk.new wr 9 #[.string ⟨#[107]⟩]).sl rfl (by decide) (fun a ha => by
          cases ha
          exact ⟨by simp, fun j hj e => by have := (HT.out.bl_ne.2 j hj).2.2; simp at e; omega⟩)).mono ?_
        rintro e w5 ⟨rfl, hT5, hB5⟩
        rw [onc_hits]
        have HT5 := Lib.hid hT5
        have HB5 := Lib.hid ((HB.out.alloc HT.out.above _).trans hB5)
        clear hT5 hB5
        go_wp2_with fail
        refine (give_any w5 w.heap.size T M _ bl ⟨#[107]⟩ HT5.out (by rw [List.length_map, onc_length]; omega)).mono ?_
        rintro e w6 ⟨bl6, rfl, hT6, hB6⟩
        rw [onc_kill] at hT6
        have HT6 := Lib.hid hT6
        have HB6 := Lib.hid (HB5.out.trans hB6)
        clear hT6 hB6
        go_wp2
        exact ⟨⟨k + 1, bl6, by omega, by go_num, HT6.out, HB6.out⟩, by simp [intOf]; omega⟩
      · have hne : ((k : Int) == (a : Int)) = false := by rw [beq_eq_false_iff_ne]; omega
        have HGV := Lib.hid (onc_give a k hka)
        clear hka
        go_wp2_with fail
        refine (give_any wr w.heap.size T M _ bl ⟨#[107]⟩ HT.out (by rw [onc_length]; omega)).mono ?_
        rintro e w6 ⟨bl6, rfl, hT6, hB6⟩
        rw [HGV.out] at hT6
        have HT6 := Lib.hid hT6
        have HB6 := Lib.hid (HB.out.trans hB6)
        clear hT6 hB6
        go_wp2
        exact ⟨⟨k + 1, bl6, by omega, by go_num, HT6.out, HB6.out⟩, by simp [intOf]; omega⟩
    · obtain rfl : k = k0 := by omega
      clear hlt hk
      go_wp2
      obtain ⟨wo, rfl⟩ : ∃ wo : World, wo = wr := ⟨_, rfl⟩
      go_loopw [8] (fun i wr => ∃ m : Nat, m ≤ k ∧ i = .int .i64 ((m : Int) + 1) ∧ Tok wr w.heap.size T M (onc a k m) bl ∧ Below w.heap.size w wr) (fun i _ => k + 1 - (intOf i).toNat)
      case atStart => exact ⟨0, Nat.zero_le _, rfl, HT.out, HB.out⟩
      case round =>
        obtain ⟨m, hm, rfl, hT, hB⟩ := hrel
        have HTm := Lib.hid hT
        have HBm := Lib.hid hB
        clear hT hB
        by_cases hlt : m < k
        · have hml : m < (onc a k m).length := by rw [onc_length]; exact hlt
          have hus : (onc a k m)[m].used = false := by rw [onc_get]; simp
          have U := use_yes wr w.heap.size T M (onc a k m) bl m HTm.out hml hus
          have E1 : (onc a k m)[m].key = ⟨#[107]⟩ := by rw [onc_get]
          have E2 : (onc a k m)[m].good = !(decide (m < a) && decide (a < k)) := by rw [onc_get]
          obtain ⟨gd, hgd⟩ : ∃ gd : Bool, gd = !(decide (m < a) && decide (a < k)) := ⟨_, rfl⟩
          have hcs : (k ≤ a ∧ gd = true) ∨ (¬ k ≤ a ∧ a < m + 1 ∧ gd = true) ∨ (¬ k ≤ a ∧ ¬ a < m + 1 ∧ gd = false) := by
            rw [hgd]
            by_cases c1 : k ≤ a
            · left; refine ⟨c1, ?_⟩; simp; omega
            · right
              by_cases c2 : a < m + 1
              · left; refine ⟨c1, c2, ?_⟩; simp; omega
              · right; refine ⟨c1, c2, ?_⟩; simp; omega
          rw [E1, E2, onc_use a k m hlt, ← hgd] at U
          have HU := Lib.hid U
          have HCS := Lib.hid hcs
          clear U E1 E2 hus hml hgd hcs
          go_wp2_with fail
          refine HU.out.mono ?_
          rintro e w5 ⟨rfl, hT5, hB5⟩
          have HT5 := Lib.hid hT5
          have HB5 := Lib.hid (HBm.out.trans hB5)
          have HN := Lib.hid (use_no w5 w.heap.size T M (onc a k (m + 1)) bl ((m : Int) + 1) hT5 (fun i hi hl e => by
            rw [onc_length] at hi
            rw [onc_left _ _ _ _ hi] at hl
            have : m = i := by omega
            subst this
            simp at hl))
          clear hT5 hB5
          go_wp2_with fail
          refine HN.out.mono ?_
          rintro e w6 ⟨rfl, rfl⟩
          have hcs := HCS.out
          clear HCS
          rcases hcs with ⟨c1, rfl⟩ | ⟨c1, c2, rfl⟩ | ⟨c1, c2, rfl⟩
          · have d1 : (k : Int) ≤ (a : Int) := by omega
            go_wp2
            exact ⟨⟨m + 1, by omega, by go_num, HT5.out, HB5.out⟩, by simp [intOf]; omega⟩
          · have d1 : ¬ (k : Int) ≤ (a : Int) := by omega
            have d2 : (a : Int) < (m : Int) + 1 := by omega
            go_wp2
            exact ⟨⟨m + 1, by omega, by go_num, HT5.out, HB5.out⟩, by simp [intOf]; omega⟩
          · have d1 : ¬ (k : Int) ≤ (a : Int) := by omega
            have d2 : ¬ (a : Int) < (m : Int) + 1 := by omega
            go_wp2
            exact ⟨⟨m + 1, by omega, by go_num, HT5.out, HB5.out⟩, by simp [intOf]; omega⟩
        · obtain rfl : m = k := by omega
          go_wp2_with fail
          refine (len_any _ w.heap.size T M _ bl HTm.out).mono ?_
          rintro e w5 ⟨rfl, rfl⟩
          rw [onc_none]
          go_wp2
          go_ret
          exact ⟨rfl, HBm.out⟩
theorem tokenOnce.walk (w : World) (n : Int) (_ : (Lit.int .i64 n).wf = true) (at_ : Int) (_ : (Lit.int .i64 at_).wf = true) : Calls Try.prog 3 #[.int .i64 n, .int .i64 at_] w fun e w' => e = .returned (.bool true) ∧ Below w.heap.size w w' := by
  by_cases hc : n < 0 ∨ 40 < n ∨ at_ < 0 ∨ n < at_
  · exact once_out w n at_ hc
  · obtain ⟨k0, rfl⟩ : ∃ k : Nat, n = k := ⟨n.toNat, by omega⟩
    obtain ⟨a, rfl⟩ : ∃ k : Nat, at_ = k := ⟨at_.toNat, by omega⟩
    exact once_in w k0 a (by omega) (by omega)
end Go.Proofs.Ytcghoaijflekhaa
