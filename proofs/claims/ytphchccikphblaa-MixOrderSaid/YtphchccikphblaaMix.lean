/- Walks of the hash: what the program's functions of package mix, and the reference's, compute. No condition but the kinds' bounds. -/
import Derived.Test.YtphchccikphblaaProg
import Derived.Test.YtphchccikphblaaPlain
import Derived.Test.YtphchccikphblaaOpen
import Derived.WalkKit
import Derived.Lib.Hide
import Derived.Handy
namespace Go.Proofs.Ytphchccikphblaa
open Go.RowKit

theorem ret_u64 {a b : Int} (h : a = b) : Ending.returned (.int .u64 a) = .returned (.int .u64 b) := by rw [h]

theorem stir_spell (x : Nat) (hx : x < 18446744073709551616) :
    bits .xor .u64 (IntKind.u64.wrap (bits .xor .u64 (IntKind.u64.wrap (bits .xor .u64 (x : Int) ((x : Int) / 1073741824) * 13787848793156543929))
      (IntKind.u64.wrap (bits .xor .u64 (x : Int) ((x : Int) / 1073741824) * 13787848793156543929) / 134217728) * 10723151780598845931))
      (IntKind.u64.wrap (bits .xor .u64 (IntKind.u64.wrap (bits .xor .u64 (x : Int) ((x : Int) / 1073741824) * 13787848793156543929))
      (IntKind.u64.wrap (bits .xor .u64 (x : Int) ((x : Int) / 1073741824) * 13787848793156543929) / 134217728) * 10723151780598845931) / 2147483648) = (Plain.stir x : Int) := by
  have e1 := mixStep_u64 x 1073741824 13787848793156543929 hx
  have e2 := mixStep_u64 ((x ^^^ x / 1073741824) * 13787848793156543929 % 18446744073709551616) 134217728 10723151780598845931 (Nat.mod_lt _ (by decide))
  have e3 := xorShift_u64 (((x ^^^ x / 1073741824) * 13787848793156543929 % 18446744073709551616 ^^^ (x ^^^ x / 1073741824) * 13787848793156543929 % 18446744073709551616 / 134217728) * 10723151780598845931 % 18446744073709551616) 2147483648 (Nat.mod_lt _ (by decide))
  rw [← e2, ← e1] at e3
  unfold Plain.stir
  exact e3

set_option maxHeartbeats 400000 in
theorem stir_any (x : Nat) (hx : x < 18446744073709551616) (w : World) :
    Calls Try.prog 20 #[.int .u64 x] w fun e w' => e = .returned (.int .u64 (Plain.stir x)) ∧ w = w' := by
  have H := Lib.hid (stir_spell x hx)
  go_enter Try.func20, Try.ntmps20
  go_wp2
  go_ret
  exact ⟨ret_u64 H.out, rfl⟩
theorem quo_spell (z : Int) (c : Int) (hc : 0 < c) : IntKind.u64.wrap ((IntKind.u64.wrap z).tdiv c) = IntKind.u64.wrap z / c := by
  rw [IntKind.wrap_u64, IntKind.wrap_u64]
  have h0 : 0 ≤ z % 18446744073709551616 := Int.emod_nonneg _ (by decide)
  have h1 : z % 18446744073709551616 < 18446744073709551616 := Int.emod_lt_of_pos _ (by decide)
  rw [Int.tdiv_eq_ediv_of_nonneg h0]
  have h2 : 0 ≤ z % 18446744073709551616 / c := Int.ediv_nonneg h0 (by omega)
  have h3 : z % 18446744073709551616 / c ≤ z % 18446744073709551616 := Int.ediv_le_self _ h0
  exact Int.emod_eq_of_lt h2 (by omega)
set_option maxHeartbeats 400000 in
theorem stirR_any (x : Nat) (hx : x < 18446744073709551616) (w : World) :
    Calls Try.prog 21 #[.int .u64 x] w fun e w' => e = .returned (.int .u64 (Plain.stir x)) ∧ w = w' := by
  have H := Lib.hid (stir_spell x hx)
  go_enter Try.func21, Try.ntmps21
  go_wp2
  go_ret
  refine ⟨ret_u64 ?_, rfl⟩
  rw [quo_spell _ _ (by decide), quo_spell _ _ (by decide)]
  exact H.out
def pt (n i : Int) : Nat := (IntKind.u64.wrap (wrap64 (wrap64 (n * 1000003) + i))).toNat
theorem pt_eq (n i : Int) : IntKind.u64.wrap (wrap64 (wrap64 (n * 1000003) + i)) = (pt n i : Int) := by
  unfold pt; rw [IntKind.wrap_u64]; omega
theorem pt_lt (n i : Int) : pt n i < 18446744073709551616 := by
  unfold pt; rw [IntKind.wrap_u64]; omega
set_option maxHeartbeats 400000 in
theorem point_any (n i : Int) (w : World) :
    Calls Try.prog 22 #[.int .i64 n, .int .i64 i] w fun e w' => e = .returned (.int .u64 (Plain.stir (pt n i))) ∧ w = w' := by
  go_enter Try.func22, Try.ntmps22
  go_wp2_with fail
  rw [pt_eq]
  refine (stir_any _ (pt_lt n i) _).mono ?_
  rintro e w' ⟨rfl, rfl⟩
  go_wp2
  go_ret
  exact ⟨rfl, rfl⟩
set_option maxHeartbeats 400000 in
theorem pointR_any (n i : Int) (w : World) :
    Calls Try.prog 23 #[.int .i64 n, .int .i64 i] w fun e w' => e = .returned (.int .u64 (Plain.stir (pt n i))) ∧ w = w' := by
  go_enter Try.func23, Try.ntmps23
  go_wp2_with fail
  rw [pt_eq]
  refine (stirR_any _ (pt_lt n i) _).mono ?_
  rintro e w' ⟨rfl, rfl⟩
  go_wp2
  go_ret
  exact ⟨rfl, rfl⟩
end Go.Proofs.Ytphchccikphblaa
