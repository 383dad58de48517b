import Derived.Test.YtcghoaijflekhaaTokU
import Derived.Test.YtcghoaijflekhaaOpen
namespace Go.Proofs.Ytcghoaijflekhaa
open Go.RowKit
theorem bbeq (a b : ByteArray) : (a == b) = decide (a = b) := by
  cases a with | mk x => cases b with | mk y => 
    show (x == y) = _
    rw [Bool.eq_iff_iff]; simp
theorem toList_inj {a b : ByteArray} (h : a.toList = b.toList) : a = b := by
  rw [ByteArray.toList_eq, ByteArray.toList_eq] at h
  cases a; cases b
  simp at h
  exact congrArg _ h
set_option maxHeartbeats 1000000 in
theorem index_any (A : Option Addr) (n c : Nat) (ss : List ByteArray) (v : ByteArray) (w : World) (hr : Sl w A (ss.map .string)) (hn : ss.length = n) (hm : n ≤ 9223372036854775807) :
    Calls Try.prog 24 #[.slice A n c, .string v] w fun e w' => ∃ r : Int, e = .returned (.int .i64 r) ∧ (0 ≤ r ↔ v ∈ ss) ∧ w = w' := by
  have HN := Lib.hid hn; clear hn
  go_enter Try.func24, Try.ntmps24
  go_wp2
  go_loop [8] (fun i => ∃ k : Nat, k ≤ n ∧ i = .int .i64 k ∧ ∀ j (h : j < ss.length), j < k → ss[j] ≠ v) (fun i => n - (intOf i).toNat)
  case atStart => exact ⟨0, Nat.zero_le _, rfl, fun j _ h => by omega⟩
  case round =>
    obtain ⟨k, hk, rfl, hno⟩ := hrel
    have HNO := Lib.hid hno
    clear hno
    by_cases hlt : k < n
    · have hlt' : k < ss.length := by rw [HN.out]; exact hlt
      obtain ⟨b, off, rfl, hc⟩ := hr.at_ k (by rw [List.length_map]; exact hlt')
      rw [List.getElem_map] at hc
      by_cases he : v = ss[k]
      · have hin : v ∈ ss := he ▸ List.getElem_mem hlt'
        have HI := Lib.hid hin
        have he2 : (v.toList == ss[k].toList) = true := by rw [← he]; exact beq_self_eq_true _
        clear he hin
        generalize ss[k] = s at hc he2
        go_wp2
        go_ret
        exact ⟨k, rfl, ⟨fun _ => HI.out, fun _ => Int.natCast_nonneg k⟩, rfl⟩
      · have HE := Lib.hid he
        have he2 : (v.toList == ss[k].toList) = false := by rw [beq_eq_false_iff_ne]; exact fun e => he (toList_inj e)
        have HN2 : Hid (∀ j (h : j < ss.length), j < k + 1 → ss[j] ≠ v) := Lib.hid (fun j h hj => by
          by_cases hjk : j = k
          · subst hjk; exact fun e => HE.out e.symm
          · exact HNO.out j h (by omega))
        clear he
        generalize ss[k] = s at hc he2 HE
        go_wp2
        exact ⟨⟨k + 1, by omega, by go_num, HN2.out⟩, by simp [intOf]; omega⟩
    · go_wp2
      go_ret
      refine ⟨-1, rfl, ?_, rfl⟩
      constructor
      · intro h; omega
      · intro hv
        obtain ⟨j, hj, hje⟩ := List.getElem_of_mem hv
        exact absurd hje (HNO.out j hj (by have := HN.out; omega))
theorem contains_any (A : Option Addr) (n c : Nat) (ss : List ByteArray) (v : ByteArray) (w : World) (hr : Sl w A (ss.map .string)) (hn : ss.length = n) (hm : n ≤ 9223372036854775807) :
    Calls Try.prog 22 #[.slice A n c, .string v] w fun e w' => ∃ b : Bool, e = .returned (.bool b) ∧ (b = true ↔ v ∈ ss) ∧ w = w' := by
  go_enter Try.func22, Try.ntmps22
  go_wp2_with fail
  refine (index_any A n c ss v w hr hn hm).mono ?_
  rintro e w' ⟨r, rfl, hr2, rfl⟩
  have HR := Lib.hid hr2; clear hr2
  go_wp2
  go_ret
  exact ⟨decide (0 ≤ r), rfl, by rw [decide_eq_true_iff]; exact HR.out, rfl⟩
theorem killed_any (p : Addr) (A : Option Addr) (n c : Nat) (ss : List ByteArray) (v : ByteArray) (w : World) (hp : w.cell? p = some (.slice A n c)) (hr : Sl w A (ss.map .string)) (hn : ss.length = n) (hm : n ≤ 9223372036854775807) :
    Calls Try.prog 21 #[.string v, .pointer (some p)] w fun e w' => ∃ b : Bool, e = .returned (.bool b) ∧ (b = true ↔ v ∈ ss) ∧ w = w' := by
  go_enter Try.func21, Try.ntmps21
  go_wp2_with fail
  refine (contains_any A n c ss v w hr hn hm).mono ?_
  rintro e w' ⟨b, rfl, hb, rfl⟩
  have HR := Lib.hid hb; clear hb
  go_wp2
  go_ret
  exact ⟨b, rfl, HR.out, rfl⟩
theorem cleared_any (v : ByteArray) (w : World) :
    Calls Try.prog 23 #[.string v] w fun e w' => e = .returned (.bool true) ∧ w = w' := by
  go_enter Try.func23, Try.ntmps23
  go_wp2
  go_ret
  exact ⟨rfl, rfl⟩
end Go.Proofs.Ytcghoaijflekhaa
