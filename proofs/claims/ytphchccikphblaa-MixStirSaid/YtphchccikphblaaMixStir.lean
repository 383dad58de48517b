/- The law MixStir's walk. No condition. -/
import Derived.Test.YtphchccikphblaaBegun
namespace Go.Proofs.Ytphchccikphblaa
open Go.RowKit
set_option maxHeartbeats 4000000 in
theorem mixStir (x y : Nat) (hx : x < 18446744073709551616) (hy : y < 18446744073709551616) (n i : Int) (w : World) : Calls Try.prog 9 #[.int .u64 x, .int .u64 y, .int .i64 n, .int .i64 i] w fun e w' => e = .returned (.bool true) ∧ Below w.heap.size w w' := by
  have H1 : x ≠ y → ((Plain.stir x : Int) == (Plain.stir y : Int)) = false ∧ ((x : Int) == (y : Int)) = false := fun h => by
    have h1 : Plain.stir x ≠ Plain.stir y := fun e => h (Plain.stir_inj x y hx hy e)
    exact ⟨by rw [beq_eq_false_iff_ne]; omega, by rw [beq_eq_false_iff_ne]; omega⟩
  have cases : n < -1073741824 ∨ (¬ n < -1073741824 ∧ 1073741824 < n) ∨ (¬ n < -1073741824 ∧ ¬ 1073741824 < n ∧ i < -1073741824) ∨ (¬ n < -1073741824 ∧ ¬ 1073741824 < n ∧ ¬ i < -1073741824 ∧ 1073741824 < i) ∨ (¬ n < -1073741824 ∧ ¬ 1073741824 < n ∧ ¬ i < -1073741824 ∧ ¬ 1073741824 < i) := by omega
  rcases cases with c1 | ⟨c1, c2⟩ | ⟨c1, c2, c3⟩ | ⟨c1, c2, c3, c4⟩ | ⟨c1, c2, c3, c4⟩
  all_goals
    go_enter Try.func9, Try.ntmps9
    go_wp2_with fail
    refine (begun1 _).mono ?_
    rintro e w1 ⟨rfl, hb1⟩
    go_wp2_with fail
    refine (stir_any x hx _).mono ?_
    rintro e w' ⟨rfl, rfl⟩
    go_wp2_with fail
    refine (stir_any y hy _).mono ?_
    rintro e w' ⟨rfl, rfl⟩
    go_wp2_with fail
    refine (stirR_any x hx _).mono ?_
    rintro e w' ⟨rfl, rfl⟩
    by_cases hxy : x = y
    · subst hxy
      clear H1
      go_wp2_with fail
      refine (point_any _ _ _).mono ?_
      rintro e w' ⟨rfl, rfl⟩
      go_wp2_with fail
      refine (pointR_any _ _ _).mono ?_
      rintro e w' ⟨rfl, rfl⟩
      go_wp2
      go_ret
      exact ⟨rfl, hb1⟩
    · obtain ⟨h1, h2⟩ := H1 hxy
      clear H1
      go_wp2_with fail
      refine (point_any _ _ _).mono ?_
      rintro e w' ⟨rfl, rfl⟩
      go_wp2_with fail
      refine (pointR_any _ _ _).mono ?_
      rintro e w' ⟨rfl, rfl⟩
      go_wp2
      go_ret
      exact ⟨rfl, hb1⟩
theorem mixStir.walk (a : Int) (wa : (Lit.int .u64 a).wf = true) (b : Int) (wb : (Lit.int .u64 b).wf = true) (n : Int) (_ : (Lit.int .i64 n).wf = true) (i : Int) (_ : (Lit.int .i64 i).wf = true) (w : World) :
    Calls Try.prog 9 #[.int .u64 a, .int .u64 b, .int .i64 n, .int .i64 i] w fun e w' => e = .returned (.bool true) ∧ Below w.heap.size w w' := by
  have h1 := bounds_u64 wa
  have h2 := bounds_u64 wb
  obtain ⟨x, rfl⟩ := Int.eq_ofNat_of_zero_le h1.1
  obtain ⟨y, rfl⟩ := Int.eq_ofNat_of_zero_le h2.1
  exact mixStir x y (by omega) (by omega) n i w
end Go.Proofs.Ytphchccikphblaa
