/- The law Names' walk. No condition. -/
import Derived.Test.YtphchccikphblaaOpen
import Derived.Test.YtphchccikphblaaProg
import Derived.Deep.QuietTactic
import Derived.BigQuiet
import Derived.Lib.Hide
namespace Go.Proofs.Ytphchccikphblaa
open Go.RowKit
def nums : List Int := [0, 1, 2, 3, 4, 5, 6, 7, 8, 9, 10, 64, 8, 2048, 40, 200, 1099511627776, 5, 8, 20, 4, 32, 300, 60, 1, 2, 3, 4, 5, 6, 7, 8, 9, 10, 11, 12, 13, 14, 1, 2, 1, 2, 3, 4, 5, 6, 7, 8, 9, 10, 11, 12, 13, 14]
def Both (g : Nat) (w : World) : Prop := ∀ k, k < 54 → w.cell? ⟨g, k, none⟩ = some (.int .i64 (nums.getD k 0)) ∧ w.cell? ⟨g + 1, k, none⟩ = some (.int .i64 (nums.getD k 0))
theorem nums_at (k : Nat) (h : k < 54) : (nums.map (Value.int .i64)).toArray[k]? = some (.int .i64 (nums.getD k 0)) := by
  have hl : nums.length = 54 := rfl
  have hk : k < nums.length := by omega
  rw [List.getElem?_toArray, List.getElem?_map, List.getElem?_eq_getElem hk, Option.map_some, List.getD_eq_getElem?_getD, List.getElem?_eq_getElem hk, Option.getD_some]
theorem both_start (w : World) : Both w.heap.size ((w.alloc (.cells (nums.map (Value.int .i64)).toArray 3)).alloc (.cells (nums.map (Value.int .i64)).toArray 3)) := by
  intro k hk
  constructor
  · rw [World.cell?_alloc_past _ _ _ (by simp), World.cell?_alloc_at _ _ _ _ rfl]
    exact nums_at k hk
  · rw [World.cell?_alloc_at _ _ _ _ (by simp)]
    exact nums_at k hk
theorem Both.drewN {g : Nat} {w : World} (h : Both g w) (n : Nat) : Both g (w.drewN n) := h
set_option maxHeartbeats 4000000 in
set_option maxRecDepth 100000 in
theorem names (w : World) : Calls Try.prog 3 #[] w fun e w' => e = .returned (.bool true) ∧ Below w.heap.size w w' := by
  go_enter Try.func3, Try.ntmps3
  go_wp2
  go_loopw [3] (fun i wr => ∃ k : Nat, k ≤ 54 ∧ i = .int .i64 k ∧ Both w.heap.size wr ∧ Below w.heap.size w wr) (fun i _ => 54 - (intOf i).toNat)
  case atStart => exact ⟨0, Nat.zero_le _, rfl, both_start w, ((Below.refl _ _).alloc (Nat.le_refl _) _).alloc (by simp) _⟩
  case round =>
    obtain ⟨k, hk, rfl, hB, hb⟩ := hrel
    have HB := Lib.hid hB
    have Hb := Lib.hid hb
    by_cases hlt : k < 54
    · obtain ⟨h1, h2⟩ := hB k hlt
      have hlt' : (k : Int) < 54 := by omega
      clear hB hb
      generalize nums.getD k 0 = x at h1 h2
      go_wp2_with fail
      go_quiet (fail)
      go_wp2
      exact ⟨⟨k + 1, by omega, by go_num, HB.out.drewN nq, ⟨Hb.out.os, Hb.out.tape, Hb.out.output, Hb.out.size, Hb.out.block⟩⟩, by simp [intOf]; omega⟩
    · clear hB hb
      go_wp2
      go_ret
      exact ⟨rfl, Hb.out⟩
theorem names.walk (w : World) : Calls Try.prog 3 #[] w fun e w' => e = .returned (.bool true) ∧ Below w.heap.size w w' := names w
end Go.Proofs.Ytphchccikphblaa
