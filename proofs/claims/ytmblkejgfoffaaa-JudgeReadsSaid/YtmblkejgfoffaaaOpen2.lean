/- What is read of slices of structs that came in: their elements' cells one behind the other. Over any program. -/
import Derived.Test.YtmblkejgfoffaaaOpen
import Derived.Deep.Slices
import Derived.Deep.Fields
namespace Go.Proofs.Ytmblkejgfoffaaa
open Go.RowKit Go.ChangeShapes Go.WideShapes
theorem flat_length {α : Type} {f : α → List Value} {C : Nat} (hC : ∀ o, (f o).length = C) (os : List α) : (os.flatMap f).length = os.length * C := by
  induction os with
  | nil => simp
  | cons o os ih => rw [List.flatMap_cons, List.length_append, hC, ih, List.length_cons, Nat.succ_mul]; omega
theorem flat_get {α : Type} {f : α → List Value} {C : Nat} (hC : ∀ o, (f o).length = C) (os : List α) : ∀ (i r : Nat) (h : i < os.length), r < C → (os.flatMap f)[i * C + r]? = (f os[i])[r]? := by
  induction os with
  | nil => intro i r h; simp at h
  | cons o os ih =>
    intro i r h hr
    rw [List.flatMap_cons]
    cases i with
    | zero => rw [Nat.zero_mul, Nat.zero_add, List.getElem?_append_left (by rw [hC]; exact hr)]; rfl
    | succ i =>
      rw [List.getElem?_append_right (by rw [hC, Nat.succ_mul]; omega), hC, show (i + 1) * C + r - C = i * C + r by rw [Nat.succ_mul]; omega]
      rw [ih i r (by simpa using h) hr]
      rfl
theorem Sl.flat {α : Type} {f : α → List Value} {C : Nat} (hC : ∀ o, (f o).length = C) (hC0 : 0 < C) {w : World} {A : Option Addr} {os : List α} (h : Sl w A (os.flatMap f)) (i : Nat) (hi : i < os.length) :
    ∃ b off, A = some ⟨b, off, none⟩ ∧ ∀ r v, (f os[i])[r]? = some v → w.cell? ⟨b, off + (i * C + r), none⟩ = some v := by
  have hl := flat_length hC os
  have hne : os.flatMap f ≠ [] := by
    intro e
    rw [e] at hl
    have : 0 < os.length * C := Nat.mul_pos (by omega) hC0
    simp at hl
    omega
  obtain ⟨b, off, rfl, hc⟩ := h hne
  refine ⟨b, off, rfl, fun r v hv => ?_⟩
  have hr : r < C := by
    rw [← hC os[i]]
    exact (List.getElem?_eq_some_iff.1 hv).1
  exact hc _ _ ((flat_get hC os i r hi hr).trans hv)
section
variable {H : Type} {enc : TypeId × Value → H} {P : Program} {W : World}
theorem open_slice_of {α : Type} (f : α → List Value) (ok : α → Prop) (C : Nat) (hf : ∀ o, (f o).length = C) (hC0 : 0 < C) {t e : TypeId} (ht : P.underlying t = some (.slice e)) (hC : P.cellsOf e = C)
    (hel : ∀ (n : Nat) (cs : List Value) (x : DataW H × List MemPlace), DataW.trod enc P W 0 (fun _ => true) true n e cs = some x → ∃ o : α, cs = f o ∧ ok o)
    {A : Option Addr} {len cap : Nat} {d : DataW H} {p : List MemPlace} (h : DataW.Trod enc P W 0 (fun _ => true) true t (.slice A len cap) d p) :
    ∃ os : List α, os.length = len ∧ len ≤ cap ∧ cap ≤ maxLen ∧ (∀ o ∈ os, ok o) ∧ Sl W A (os.flatMap f) := by
  obtain ⟨fuel, hf'⟩ := h
  rcases Go.Deep.open_slice ht hf' with ⟨hcs, _⟩ | ⟨a, l, c, m, n, D, Pl, hcs, _, hl, hm, hmm, _, hi⟩
  · simp [Value.cells] at hcs
    obtain ⟨rfl, rfl, rfl⟩ := hcs
    exact ⟨[], rfl, Nat.le_refl _, Nat.zero_le _, by simp, Sl.nil⟩
  · simp [Value.cells] at hcs
    obtain ⟨rfl, rfl, rfl⟩ := hcs
    have hm' : m = cap := by simpa using hmm
    subst hm'
    have key : ∀ k : Nat, k ≤ len → ∃ os : List α, os.length = k ∧ (∀ o ∈ os, ok o) ∧ ∀ (i : Nat) (h : i < os.length) (r : Nat), r < C → W.cell? (a.add (i * C + r)) = (f os[i])[r]? := by
      intro k
      induction k with
      | zero => intro _; exact ⟨[], rfl, by simp, fun i h => by simp at h⟩
      | succ k ih =>
        intro hk
        obtain ⟨os, h1, h2, h3⟩ := ih (by omega)
        obtain ⟨cs', hc, ht'⟩ := hi k (by omega)
        rw [hC] at hc
        obtain ⟨o, rfl, ho⟩ := hel _ _ _ ht'
        obtain ⟨_, _, hat⟩ := World.cells?_some hc
        refine ⟨os ++ [o], by simp [h1], ?_, fun i h r hr => ?_⟩
        · intro x hx
          rcases List.mem_append.1 hx with h | h
          · exact h2 x h
          · rw [List.mem_singleton.1 h]; exact ho
        · by_cases hik : i < os.length
          · rw [List.getElem_append_left hik]
            exact h3 i hik r hr
          · have e : i = os.length := by simp at h; omega
            subst e
            rw [List.getElem_concat_length rfl, ← Go.Deep.add_add, h1]
            exact hat r hr
    obtain ⟨os, h1, h2, h3⟩ := key len (Nat.le_refl _)
    refine ⟨os, h1, hl, hm, h2, Sl.of_cells fun j u hu => ?_⟩
    have hj : j < os.length * C := by
      rw [← flat_length hf os]
      exact (List.getElem?_eq_some_iff.1 hu).1
    have hq : j / C < os.length := (Nat.div_lt_iff_lt_mul hC0).2 hj
    have hjc : j / C * C + j % C = j := by rw [Nat.mul_comm]; exact Nat.div_add_mod j C
    have := h3 (j / C) hq (j % C) (Nat.mod_lt _ hC0)
    rw [hjc] at this
    rw [this, ← flat_get hf os _ _ hq (Nat.mod_lt _ hC0), hjc]
    exact hu
end
end Go.Proofs.Ytmblkejgfoffaaa
