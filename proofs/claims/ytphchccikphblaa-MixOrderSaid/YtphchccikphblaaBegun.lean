/- The laws' own beginning: the hash answers as it must at some texts. -/
import Derived.Test.YtphchccikphblaaOf
namespace Go.Proofs.Ytphchccikphblaa
open Go.RowKit
theorem stir0 : Plain.stir 0 = 0 := by unfold Plain.stir; decide
theorem pt10 : pt 1 0 = 1000003 := by decide +kernel
theorem mix_nil : Plain.mix [] = 11400714819323198485 := by unfold Plain.mix; rfl
set_option maxHeartbeats 1000000 in
theorem begun1 (w : World) : Calls Try.prog 16 #[] w fun e w' => e = .returned (.bool true) ∧ Below w.heap.size w w' := by
  go_enter Try.func16, Try.ntmps16
  go_wp2_with fail
  refine (of_any none 0 0 [] _ Sl.nil rfl (by decide) (by simp)).mono ?_
  rintro e w' ⟨rfl, rfl⟩
  rw [List.map_nil, mix_nil]
  go_wp2_with fail
  refine (of_any _ _ _ [ByteArray.empty] _ (Sl.one (by simp [go_sem]; rfl)) rfl (by decide) (by simp)).mono ?_
  rintro e w' ⟨rfl, rfl⟩
  go_wp2_with fail
  refine (ofR_any _ _ _ [ByteArray.empty] _ (Sl.one (by simp [go_sem]; rfl)) rfl (by decide) (by simp)).mono ?_
  rintro e w' ⟨rfl, rfl⟩
  go_wp2_with fail
  refine (stir_any 0 (by decide) _).mono ?_
  rintro e w' ⟨rfl, rfl⟩
  rw [stir0]
  go_wp2_with fail
  refine (point_any _ _ _).mono ?_
  rintro e w' ⟨rfl, rfl⟩
  rw [pt10]
  go_wp2_with fail
  refine (stirR_any 1000003 (by decide) _).mono ?_
  rintro e w' ⟨rfl, rfl⟩
  go_wp2
  go_ret
  exact ⟨rfl, ((Below.refl _ _).alloc (Nat.le_refl _) _).alloc (by simp) _⟩
end Go.Proofs.Ytphchccikphblaa
