/- The rights' table: its entries as a list of numbers that are left. Plain laws over the maps' laws; no walk. -/
import Derived.Test.YtcghoaijflekhaaMaps
import Derived.Test.YtcghoaijflekhaaBlk
namespace Go.Proofs.Ytcghoaijflekhaa
open Go.RowKit
def mkI (x : Int) : Value := .int .i64 x
/-- those of the first n that are left, each with its block -/
def entsF (p : Nat → Bool) (n : Nat) (bl : Nat → Nat) : List (Ent Int) := ((List.range n).filter p).map fun i => (((i : Nat) : Int) + 1, .pointer (some ⟨bl i, 0, none⟩), i)
theorem entsF_succ (p : Nat → Bool) (n : Nat) (bl : Nat → Nat) : entsF p (n + 1) bl = entsF p n bl ++ if p n then [((n : Int) + 1, .pointer (some ⟨bl n, 0, none⟩), n)] else [] := by
  unfold entsF
  rw [List.range_succ, List.filter_append, List.map_append]
  congr 1
  by_cases h : p n <;> simp [h]
theorem entsF_congr {p q : Nat → Bool} {n : Nat} {bl bl' : Nat → Nat} (h : ∀ i, i < n → p i = q i) (hb : ∀ i, i < n → bl i = bl' i) : entsF p n bl = entsF q n bl' := by
  induction n with
  | zero => rfl
  | succ n ih =>
    rw [entsF_succ, entsF_succ, ih (fun i hi => h i (by omega)) (fun i hi => hb i (by omega)), h n (by omega), hb n (by omega)]
theorem posOf_cons {κ : Type} [DecidableEq κ] (k : κ) (q : Ent κ) (l : List (Ent κ)) (i : Nat) : posOf k (q :: l) i = if k = q.1 then some (i, q.2.1) else posOf k l (i + 1) := rfl
theorem posOf_append {κ : Type} [DecidableEq κ] (k : κ) : ∀ (l m : List (Ent κ)) (i : Nat), posOf k (l ++ m) i = match posOf k l i with | some r => some r | none => posOf k m (i + l.length) := by
  intro l
  induction l with
  | nil => intro m i; simp [posOf]
  | cons q l ih =>
    intro m i
    rw [List.cons_append, posOf_cons, posOf_cons]
    by_cases h : k = q.1
    · simp [h]
    · rw [if_neg h, if_neg h, ih, List.length_cons, show i + 1 + l.length = i + (l.length + 1) by omega]
theorem posOf_entsF_out (p : Nat → Bool) (n : Nat) (bl : Nat → Nat) (k : Int) (h : ∀ i, i < n → p i = true → k ≠ (i : Int) + 1) : ∀ j, posOf k (entsF p n bl) j = none := by
  intro j
  rw [posOf_none]
  intro q hq
  unfold entsF at hq
  obtain ⟨i, hi, rfl⟩ := List.mem_map.1 hq
  obtain ⟨h1, h2⟩ := List.mem_filter.1 hi
  exact h i (by simpa using h1) h2
theorem posOf_entsF_in (p : Nat → Bool) (n : Nat) (bl : Nat → Nat) (i : Nat) (hi : i < n) (hp : p i = true) : ∀ j, ∃ m, posOf ((i : Int) + 1) (entsF p n bl) j = some (m, .pointer (some ⟨bl i, 0, none⟩)) := by
  induction n with
  | zero => omega
  | succ n ih =>
    intro j
    rw [entsF_succ, posOf_append]
    by_cases h : i < n
    · obtain ⟨m, hm⟩ := ih h j
      rw [hm]
      exact ⟨m, rfl⟩
    · obtain rfl : i = n := by omega
      rw [posOf_entsF_out p i bl _ (fun a ha _ => by omega) j]
      simp [hp, posOf]
theorem delEnt_append {κ : Type} [DecidableEq κ] (k : κ) (l m : List (Ent κ)) (h : ∀ q ∈ l, k ≠ q.1) : delEnt k (l ++ m) = l ++ delEnt k m := by
  induction l with
  | nil => rfl
  | cons q l ih =>
    rw [List.cons_append]
    unfold delEnt
    rw [if_neg (h q (by simp)), ih (fun r hr => h r (by simp [hr]))]
    cases m <;> rfl
theorem delEnt_append_left {κ : Type} [DecidableEq κ] (k : κ) (l m : List (Ent κ)) (h : ∃ q ∈ l, k = q.1) : delEnt k (l ++ m) = delEnt k l ++ m := by
  induction l with
  | nil => obtain ⟨q, hq, _⟩ := h; cases hq
  | cons q l ih =>
    rw [List.cons_append]
    unfold delEnt
    by_cases hk : k = q.1
    · rw [if_pos hk, if_pos hk]
    · rw [if_neg hk, if_neg hk, List.cons_append, ih ?_]
      obtain ⟨r, hr, hkr⟩ := h
      rcases List.mem_cons.1 hr with rfl | hr'
      · exact absurd hkr hk
      · exact ⟨r, hr', hkr⟩
theorem del_entsF (p : Nat → Bool) (n : Nat) (bl : Nat → Nat) (i : Nat) (hi : i < n) (hp : p i = true) : delEnt ((i : Int) + 1) (entsF p n bl) = entsF (fun j => p j && j != i) n bl := by
  induction n with
  | zero => omega
  | succ n ih =>
    rw [entsF_succ, entsF_succ]
    by_cases h : i < n
    · rw [delEnt_append_left _ _ _ ⟨((i : Int) + 1, .pointer (some ⟨bl i, 0, none⟩), i), ?_, rfl⟩, ih h]
      · have e : (n != i) = true := by rw [bne_iff_ne]; omega
        simp [e]
      · unfold entsF
        exact List.mem_map.2 ⟨i, List.mem_filter.2 ⟨by simpa using h, hp⟩, rfl⟩
    · obtain rfl : i = n := by omega
      rw [delEnt_append]
      · rw [entsF_congr (p := fun j => p j && j != i) (q := p) (bl' := bl) (fun a ha => by have : (a != i) = true := by rw [bne_iff_ne]; omega
                                                                                           simp [this]) (fun _ _ => rfl)]
        simp [hp, delEnt]
      · intro q hq
        unfold entsF at hq
        obtain ⟨a, ha, rfl⟩ := List.mem_map.1 hq
        have := (List.mem_filter.1 ha).1
        simp at this
        simp
        omega
theorem stamped_entsF (p : Nat → Bool) (n : Nat) (bl : Nat → Nat) : Stamped (entsF p n bl) n := by
  constructor
  · intro q hq
    unfold entsF at hq
    obtain ⟨a, ha, rfl⟩ := List.mem_map.1 hq
    have := (List.mem_filter.1 ha).1
    simpa using this
  · unfold entsF
    rw [List.map_map]
    have e : ((fun q : Ent Int => q.2.2) ∘ fun i : Nat => (((i : Nat) : Int) + 1, Value.pointer (some ⟨bl i, 0, none⟩), i)) = id := rfl
    rw [e, List.map_id]
    exact List.Nodup.sublist List.filter_sublist List.nodup_range
theorem put_entsF (p : Nat → Bool) (n : Nat) (bl : Nat → Nat) (g : Nat) : putEnt ((n : Int) + 1) (.pointer (some ⟨g, 0, none⟩)) n (entsF p n bl) = entsF (fun j => if j = n then true else p j) (n + 1) (fun j => if j = n then g else bl j) ∧ putClock ((n : Int) + 1) (entsF p n bl) n = n + 1 := by
  have hn := posOf_entsF_out p n bl ((n : Int) + 1) (fun a ha _ => by omega) 0
  constructor
  · rw [putEnt_none _ _ _ _ 0 hn, entsF_succ]
    simp only [if_true]
    rw [entsF_congr (p := p) (q := fun j => if j = n then true else p j) (bl := bl) (bl' := fun j => if j = n then g else bl j) (fun a ha => by rw [if_neg (by omega)]) (fun a ha => by rw [if_neg (by omega)])]
  · unfold putClock
    rw [hn]
end Go.Proofs.Ytcghoaijflekhaa
