/- What is read of slices that came in: their elements one behind the other. Over any program. -/
import Derived.WalkKit
import Derived.ProofKit
import Derived.OpenShut
import Derived.ShutString
import Derived.SliceStrings
import Derived.Deep.Matrix
namespace Go.Proofs.Ytmblkejgfoffaaa
open Go.RowKit Go.ChangeShapes Go.WideShapes

/-- a slice's elements, each one cell -/
def Sl (w : World) (A : Option Addr) (xs : List Value) : Prop :=
  xs ≠ [] → ∃ b off, A = some ⟨b, off, none⟩ ∧ ∀ j u, xs[j]? = some u → w.cell? ⟨b, off + j, none⟩ = some u

theorem Sl.at_ {w : World} {A : Option Addr} {xs : List Value} (h : Sl w A xs) (k : Nat) (hk : k < xs.length) :
    ∃ b off, A = some ⟨b, off, none⟩ ∧ w.cell? ⟨b, off + k, none⟩ = some xs[k] := by
  obtain ⟨b, off, rfl, hc⟩ := h (by intro e; subst e; simp at hk)
  exact ⟨b, off, rfl, hc k _ (List.getElem?_eq_getElem hk)⟩
theorem Sl.nil {w : World} {A : Option Addr} : Sl w A [] := fun h => absurd rfl h
theorem Sl.one {w : World} {b off : Nat} {v : Value} (h : w.cell? ⟨b, off, none⟩ = some v) : Sl w (some ⟨b, off, none⟩) [v] := fun _ => ⟨b, off, rfl, fun j u hu => by
  cases j with
  | zero => simp only [List.getElem?_cons_zero, Option.some.injEq] at hu; subst hu; exact h
  | succ j => simp at hu⟩

theorem spot_of {w : World} {a : Addr} {v : Value} (h : w.cell? a = some v) : a.spot = none := World.cell?_spot h
/-- cells behind an address, one by one -/
theorem Sl.of_cells {w : World} {a : Addr} {xs : List Value} (h : ∀ j u, xs[j]? = some u → w.cell? (a.add j) = some u) : Sl w (some a) xs := by
  intro hne
  obtain ⟨b, off, spot⟩ := a
  have hx : xs[0]? = some (xs[0]'(by cases xs; exact absurd rfl hne; simp)) := List.getElem?_eq_getElem _
  have h0 := h 0 _ hx
  have hs : spot = none := by
    have := spot_of h0
    simpa [Addr.add] using this
  subst hs
  refine ⟨b, off, rfl, fun j u hu => ?_⟩
  have := h j u hu
  by_cases hj : j = 0
  · subst hj; simpa [Addr.add] using this
  · simpa [Addr.add, hj] using this

theorem Sl.keep {w w' : World} {A : Option Addr} {xs : List Value} (h : Sl w A xs) (hb : Below w.heap.size w w') : Sl w' A xs := by
  intro hne
  obtain ⟨b, off, rfl, hc⟩ := h hne
  refine ⟨b, off, rfl, fun j u hu => ?_⟩
  have := hc j u hu
  rw [hb.cell (p := ⟨b, off + j, none⟩) (World.block_lt_of_cell? w _ this)]
  exact this
/-- a row of the call's own, as a slice -/
theorem Sl.of_own {w : World} {base : Nat} {e : TypeId} {v : Value} {n : Nat} {xs : List Value} (h : w.ownsRow base e 1 v n xs) : ∃ A c, v = .slice A n c ∧ n ≤ c ∧ c ≤ maxLen ∧ xs.length = n ∧ Sl w A xs := by
  have hl : xs.length = n := by have := h.1; omega
  rcases h.2 with ⟨rfl, rfl⟩ | ⟨g, cap, cur, rfl, _, _, hc, hm, _⟩
  · obtain rfl : xs = [] := List.eq_nil_of_length_eq_zero hl
    exact ⟨none, 0, rfl, Nat.le_refl _, Nat.zero_le _, rfl, Sl.nil⟩
  · exact ⟨_, cap, rfl, hc, hm, hl, Sl.of_cells (h.cells (g := g) rfl)⟩
section
variable {H : Type} {enc : TypeId × Value → H} {P : Program} {W : World}
/-- a slice of integers -/
theorem open_int_slice {t e : TypeId} {k : IntKind} (ht : P.underlying t = some (.slice e)) (he : P.underlying e = some (.int k)) (hc : P.cellsOf e = 1)
    {A : Option Addr} {len cap : Nat} {d : DataW H} {p : List MemPlace} (h : DataW.Trod enc P W 0 (fun _ => true) true t (.slice A len cap) d p) :
    ∃ zs : List Int, zs.length = len ∧ len ≤ cap ∧ cap ≤ maxLen ∧ (∀ n ∈ zs, (Lit.int k n).wf = true) ∧ Sl W A (zs.map (.int k)) := by
  obtain ⟨fuel, hf⟩ := h
  rcases open_ints ht he hc hf with ⟨hcs, _⟩ | ⟨x, l, c, zs, hcs, _, hl, hm, hz, _, hcell, hwz⟩
  · simp [Value.cells] at hcs
    obtain ⟨rfl, rfl, rfl⟩ := hcs
    exact ⟨[], rfl, Nat.le_refl _, Nat.zero_le _, by simp, Sl.nil⟩
  · simp [Value.cells] at hcs
    obtain ⟨rfl, rfl, rfl⟩ := hcs
    have hz' : zs.length = cap := by simpa using hz
    refine ⟨zs.take len, by rw [List.length_take]; omega, hl, hm, fun n hn => hwz n (List.mem_of_mem_take hn), Sl.of_cells fun j u hu => ?_⟩
    have hj : j < (zs.take len).length := by
      rcases Nat.lt_or_ge j (zs.take len).length with h | h
      · exact h
      · rw [List.getElem?_eq_none (by simpa using h)] at hu; cases hu
    rw [List.length_take] at hj
    have hj' : j < zs.length := by omega
    rw [List.getElem?_map, List.getElem?_take_of_lt (by omega), List.getElem?_eq_getElem hj', Option.map_some, Option.some.injEq] at hu
    subst hu
    rw [hcell j hj', List.getD_eq_getElem?_getD, List.getElem?_eq_getElem hj', Option.getD_some]
/-- a slice of texts -/
theorem open_text_slice {t e : TypeId} (ht : P.underlying t = some (.slice e)) (he : P.underlying e = some .string) (hc : P.cellsOf e = 1)
    {A : Option Addr} {len cap : Nat} {d : DataW H} {p : List MemPlace} (h : DataW.Trod enc P W 0 (fun _ => true) true t (.slice A len cap) d p) :
    ∃ ss : List ByteArray, ss.length = len ∧ len ≤ cap ∧ cap ≤ maxLen ∧ (∀ s ∈ ss, s.size ≤ maxLen) ∧ Sl W A (ss.map .string) := by
  obtain ⟨fuel, hf⟩ := h
  rcases open_strings ht he hc hf with ⟨hcs, _⟩ | ⟨x, l, c, zs, hcs, _, hl, hm, hz, _, hcell, hwz⟩
  · simp [Value.cells] at hcs
    obtain ⟨rfl, rfl, rfl⟩ := hcs
    exact ⟨[], rfl, Nat.le_refl _, Nat.zero_le _, by simp, Sl.nil⟩
  · simp [Value.cells] at hcs
    obtain ⟨rfl, rfl, rfl⟩ := hcs
    have hz' : zs.length = cap := by simpa using hz
    refine ⟨zs.take len, by rw [List.length_take]; omega, hl, hm, fun n hn => hwz n (List.mem_of_mem_take hn), Sl.of_cells fun j u hu => ?_⟩
    have hj : j < (zs.take len).length := by
      rcases Nat.lt_or_ge j (zs.take len).length with h | h
      · exact h
      · rw [List.getElem?_eq_none (by simpa using h)] at hu; cases hu
    rw [List.length_take] at hj
    have hj' : j < zs.length := by omega
    rw [List.getElem?_map, List.getElem?_take_of_lt (by omega), List.getElem?_eq_getElem hj', Option.map_some, Option.some.injEq] at hu
    subst hu
    rw [hcell j hj', List.getD_eq_getElem?_getD, List.getElem?_eq_getElem hj', Option.getD_some]
/-- a row of integers among others -/
structure Row where
  A : Option Addr
  len : Nat
  cap : Nat
  zs : List Int
def Row.val (r : Row) : Value := .slice r.A r.len r.cap
def Row.ok (W : World) (k : IntKind) (r : Row) : Prop := r.zs.length = r.len ∧ r.len ≤ r.cap ∧ r.cap ≤ maxLen ∧ (∀ n ∈ r.zs, (Lit.int k n).wf = true) ∧ Sl W r.A (r.zs.map (.int k))
/-- a slice of slices of integers -/
theorem open_rows {t e q : TypeId} {k : IntKind} (ht : P.underlying t = some (.slice e)) (he : P.underlying e = some (.slice q)) (hq : P.underlying q = some (.int k)) (ce : P.cellsOf e = 1) (cq : P.cellsOf q = 1)
    {A : Option Addr} {len cap : Nat} {d : DataW H} {p : List MemPlace} (h : DataW.Trod enc P W 0 (fun _ => true) true t (.slice A len cap) d p) :
    ∃ rs : List Row, rs.length = len ∧ len ≤ cap ∧ cap ≤ maxLen ∧ (∀ r ∈ rs, r.ok W k) ∧ Sl W A (rs.map Row.val) := by
  obtain ⟨fuel, hf⟩ := h
  rcases Go.Deep.open_int_rows ht he hq ce cq hf with ⟨hcs, _⟩ | ⟨x, l, c, B, L, C, Z, hcs, _, hl, hm, _, hr⟩
  · simp [Value.cells] at hcs
    obtain ⟨rfl, rfl, rfl⟩ := hcs
    exact ⟨[], rfl, Nat.le_refl _, Nat.zero_le _, by simp, Sl.nil⟩
  · simp [Value.cells] at hcs
    obtain ⟨rfl, rfl, rfl⟩ := hcs
    refine ⟨(List.range len).map fun r => ⟨B r, L r, C r, (Z r).take (L r)⟩, by simp, hl, hm, ?_, Sl.of_cells fun j u hu => ?_⟩
    · intro r hr'
      simp only [List.mem_map, List.mem_range] at hr'
      obtain ⟨i, hi, rfl⟩ := hr'
      obtain ⟨h1, h2, h3, h4, h5, h6, h7⟩ := hr i (by omega)
      refine ⟨by simp only [List.length_take]; omega, h2, h3, fun n hn => h5 n (List.mem_of_mem_take hn), ?_⟩
      show Sl W (B i) _
      cases hB : B i with
      | none =>
        have := h6 hB
        have e : (Z i).take (L i) = [] := by rw [List.take_eq_nil_iff]; omega
        simp only [e]
        exact Sl.nil
      | some a =>
        refine Sl.of_cells fun j u hu => ?_
        have hj : j < ((Z i).take (L i)).length := by
          rcases Nat.lt_or_ge j ((Z i).take (L i)).length with h | h
          · exact h
          · rw [List.getElem?_eq_none (by simpa using h)] at hu; cases hu
        rw [List.length_take] at hj
        have hj' : j < (Z i).length := by omega
        rw [List.getElem?_map, List.getElem?_take_of_lt (by omega), List.getElem?_eq_getElem hj', Option.map_some, Option.some.injEq] at hu
        subst hu
        rw [(h7 a hB).2 j (by omega), List.getD_eq_getElem?_getD, List.getElem?_eq_getElem hj', Option.getD_some]
    · have hj : j < len := by
        rcases Nat.lt_or_ge j len with h | h
        · exact h
        · rw [List.getElem?_eq_none (by simpa using h)] at hu; cases hu
      rw [List.getElem?_map, List.getElem?_map, List.getElem?_range hj, Option.map_some, Option.map_some, Option.some.injEq] at hu
      subst hu
      exact (hr j (by omega)).1
end
end Go.Proofs.Ytmblkejgfoffaaa
