/- The laws' own beginning: the sum answers as it must at the nine digits. -/
import Derived.Test.YtphchccikphblaaSumR
import Derived.Lib.SlBytesConst
namespace Go.Proofs.Ytphchccikphblaa
open Go.RowKit
theorem crc9 : Plain.crc [49, 50, 51, 52, 53, 54, 55, 56, 57] = 3421780262 := by decide +kernel
theorem crc0 : Plain.crc [] = 0 := by decide +kernel
theorem Sl.of_list {w : World} {g : Nat} {xs : List Value} (h : ∀ j u, xs[j]? = some u → w.cell? ⟨g, j, none⟩ = some u) : Sl w (some ⟨g, 0, none⟩) xs :=
  fun _ => ⟨g, 0, rfl, fun j u hu => by rw [Nat.zero_add]; exact h j u hu⟩
/-- a block just laid reads as its cells -/
theorem Sl.laid (w : World) (xs : List Value) (t : TypeId) (m : Nat × Nat) : Sl (w.alloc (.cells xs.toArray t m)) (some ⟨w.heap.size, 0, none⟩) xs :=
  Sl.of_list fun j u hu => by
    have h : (w.alloc (.cells xs.toArray t m)).heap[w.heap.size]? = some (.cells xs.toArray t m) := by
      show (w.heap.push _)[w.heap.size]? = _
      simp
    unfold World.cell?
    simp only [h, List.getElem?_toArray]
    exact hu
theorem Sl.alloc {w : World} {A : Option Addr} {xs : List Value} (h : Sl w A xs) (o : Obj) : Sl (w.alloc o) A xs := h.keep ((Below.refl _ _).alloc (Nat.le_refl _) o)
set_option maxHeartbeats 1000000 in
theorem begun3 (w : World) : Calls Try.prog 12 #[] w fun e w' => e = .returned (.bool true) ∧ Below w.heap.size w w' := by
  have kc := fun (w : World) (C : Array Value) (n c : Nat) => Lib.run_convert_bytes_const (P := Try.prog) w 25 5 C n c Try.underlying25 Try.underlying5
  have kc2 : ∀ (w : World) (o : Obj) (C : Array Value) (n c : Nat), (convert 25 25 (.slice (some ⟨w.heap.size + 1, 0, none⟩) n c)).run Try.prog ((w.alloc o).alloc (.cells C 5)) = .ok (.slice (some ⟨w.heap.size + 1, 0, none⟩) n c) ((w.alloc o).alloc (.cells C 5 (C.size, C.size + 1))) := fun w o C n c => by
    have h := kc (w.alloc o) C n c
    rw [World.size_alloc] at h
    exact h
  go_enter Try.func12, Try.ntmps12
  go_wp2_with fail
  have hs : ∀ w : World, (w.alloc (.cells (bv [49, 50, 51, 52]).toArray 5 (4, 5))).heap.size = w.heap.size + 1 := fun w => by simp
  refine (sum_any _ 3 3 [⟨some ⟨w.heap.size, 0, none⟩, 4, [49, 50, 51, 52]⟩, ⟨none, 0, []⟩, ⟨some ⟨w.heap.size + 1, 0, none⟩, 5, [53, 54, 55, 56, 57]⟩] _ ?hr rfl (by decide) ?hz).mono ?_
  case hr =>
    have h := Sl.laid ((w.alloc (.cells (bv [49, 50, 51, 52]).toArray 5 (4, 5))).alloc (.cells (bv [53, 54, 55, 56, 57]).toArray 5 (5, 6))) [.slice (some ⟨w.heap.size, 0, none⟩) 4 4, .slice none 0 0, .slice (some ⟨w.heap.size + 1, 0, none⟩) 5 5] 25 (0, 0)
    rw [World.size_alloc, hs] at h
    exact h
  case hz =>
    intro p hp
    simp only [List.mem_cons, List.not_mem_nil, or_false] at hp
    rcases hp with rfl | rfl | rfl
    · exact ⟨((Sl.laid w (bv [49, 50, 51, 52]) 5 (4, 5)).alloc _).alloc _, by simp, by simp⟩
    · exact ⟨Sl.nil, by decide, by decide⟩
    · have h := (Sl.laid (w.alloc (.cells (bv [49, 50, 51, 52]).toArray 5 (4, 5))) (bv [53, 54, 55, 56, 57]) 5 (5, 6)).alloc (.cells [.slice (some ⟨w.heap.size, 0, none⟩) 4 4, .slice none 0 0, .slice (some ⟨w.heap.size + 1, 0, none⟩) 5 5].toArray 25 (0, 0))
      rw [hs] at h
      exact ⟨h, by simp, by simp⟩
  rintro e w' ⟨rfl, rfl⟩
  have e9 : Plain.crc (([⟨some ⟨w.heap.size, 0, none⟩, 4, [49, 50, 51, 52]⟩, ⟨none, 0, []⟩, ⟨some ⟨w.heap.size + 1, 0, none⟩, 5, [53, 54, 55, 56, 57]⟩] : List Part).flatMap Part.l) = 3421780262 := crc9
  rw [e9]
  go_wp2_with fail
  refine (sum_any none 0 0 [] _ Sl.nil rfl (by decide) (by simp)).mono ?_
  rintro e w' ⟨rfl, rfl⟩
  have e0 : Plain.crc (([] : List Part).flatMap Part.l) = 0 := crc0
  rw [e0]
  go_wp2
  go_ret
  exact ⟨rfl, (((Below.refl _ _).alloc (Nat.le_refl _) _).alloc (by simp) _).alloc (by simp; omega) _⟩
end Go.Proofs.Ytphchccikphblaa
