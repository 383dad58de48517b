/- What an origin was told, at each position: plain laws. No walk, no memory. -/
namespace Go.Proofs.Ytmblkejgfoffaaa
/-- one that was told -/
structure St where
  key : ByteArray
  val : ByteArray
  has : Bool
/-- what a key had from a position on -/
structure Rw where
  pos : Nat
  val : ByteArray
  has : Bool
def norm (s : St) : St := ⟨s.key, if s.has then s.val else ⟨#[]⟩, s.has⟩
/-- what a key had behind the first p of them -/
def atS (L : List St) : Nat → ByteArray → ByteArray × Bool
  | 0, _ => (ByteArray.empty, false)
  | p + 1, k => match L[p]? with
    | some s => if s.key = k then (s.val, s.has) else atS L p k
    | none => atS L p k
def rowsFrom (k : ByteArray) : Nat → List St → List Rw
  | _, [] => []
  | n, s :: L => (if s.key = k then [⟨n + 1, s.val, s.has⟩] else []) ++ rowsFrom k (n + 1) L
def rowsOf (k : ByteArray) (L : List St) : List Rw := rowsFrom k 0 L
theorem rowsFrom_snoc (k : ByteArray) (s : St) : ∀ (L : List St) (n : Nat), rowsFrom k n (L ++ [s]) = rowsFrom k n L ++ if s.key = k then [⟨n + L.length + 1, s.val, s.has⟩] else [] := by
  intro L
  induction L with
  | nil => intro n; simp [rowsFrom]
  | cons x L ih =>
    intro n
    rw [List.cons_append]
    unfold rowsFrom
    rw [ih (n + 1), List.append_assoc, List.length_cons, show n + 1 + L.length + 1 = n + (L.length + 1) + 1 by omega]
theorem rowsOf_snoc (k : ByteArray) (s : St) (L : List St) : rowsOf k (L ++ [s]) = rowsOf k L ++ if s.key = k then [⟨L.length + 1, s.val, s.has⟩] else [] := by
  unfold rowsOf
  rw [rowsFrom_snoc, Nat.zero_add]
/-- the last row that lies not behind a position -/
def lastLe (p : Nat) (rs : List Rw) : ByteArray × Bool := rs.foldl (fun acc r => if r.pos ≤ p then (r.val, r.has) else acc) (ByteArray.empty, false)
theorem lastLe_snoc (p : Nat) (rs : List Rw) (r : Rw) : lastLe p (rs ++ [r]) = if r.pos ≤ p then (r.val, r.has) else lastLe p rs := by
  unfold lastLe
  rw [List.foldl_append]; rfl
theorem lastLe_nil (p : Nat) : lastLe p [] = (ByteArray.empty, false) := rfl
theorem atS_snoc_le (L : List St) (s : St) (k : ByteArray) : ∀ p, p ≤ L.length → atS (L ++ [s]) p k = atS L p k := by
  intro p
  induction p with
  | zero => intro _; rfl
  | succ p ih =>
    intro h
    unfold atS
    rw [List.getElem?_append_left (by omega), ih (by omega)]
theorem atS_append_le (L K : List St) (k : ByteArray) : ∀ p, p ≤ L.length → atS (L ++ K) p k = atS L p k := by
  intro p
  induction p with
  | zero => intro _; rfl
  | succ p ih =>
    intro h
    unfold atS
    rw [List.getElem?_append_left (by omega), ih (by omega)]
theorem atS_big (L : List St) (k : ByteArray) : ∀ p, L.length ≤ p → atS L p k = atS L L.length k := by
  intro p h
  induction p with
  | zero => rw [show L.length = 0 by omega]
  | succ p ih =>
    rcases Nat.lt_or_ge p L.length with h1 | h1
    · rw [show L.length = p + 1 by omega]
    · rw [← ih h1]
      conv => lhs; unfold atS
      rw [List.getElem?_eq_none h1]
theorem rows_pos (k : ByteArray) : ∀ (L : List St) (n : Nat) (r : Rw), r ∈ rowsFrom k n L → n < r.pos ∧ r.pos ≤ n + L.length := by
  intro L
  induction L with
  | nil => intro n r h; simp [rowsFrom] at h
  | cons s L ih =>
    intro n r h
    unfold rowsFrom at h
    rcases List.mem_append.1 h with h1 | h1
    · split at h1
      · rw [List.mem_singleton.1 h1]; simp
      · cases h1
    · have := ih (n + 1) r h1
      simp; omega
theorem rowsOf_pos (k : ByteArray) (L : List St) (r : Rw) (h : r ∈ rowsOf k L) : 0 < r.pos ∧ r.pos ≤ L.length := by
  have := rows_pos k L 0 r h
  omega
theorem rowsOf_le (k : ByteArray) (L : List St) : (rowsOf k L).length ≤ L.length := by
  unfold rowsOf
  have : ∀ (L : List St) (n : Nat), (rowsFrom k n L).length ≤ L.length := by
    intro L
    induction L with
    | nil => intro n; simp [rowsFrom]
    | cons s L ih =>
      intro n
      unfold rowsFrom
      have := ih (n + 1)
      rw [List.length_append, List.length_cons]
      split <;> simp <;> omega
  exact this L 0
theorem snoc_ind {α : Type} {P : List α → Prop} (h0 : P []) (h1 : ∀ l x, P l → P (l ++ [x])) (l : List α) : P l := by
  have : ∀ (n : Nat) (l : List α), l.length = n → P l := by
    intro n
    induction n with
    | zero => intro l h; rw [List.eq_nil_of_length_eq_zero h]; exact h0
    | succ n ih =>
      intro l h
      have hne : l ≠ [] := by intro e; subst e; simp at h
      rw [← List.dropLast_concat_getLast hne]
      exact h1 _ _ (ih _ (by rw [List.length_dropLast]; omega))
  exact this _ l rfl
theorem lastLe_big (k : ByteArray) (L : List St) : ∀ p, L.length ≤ p → lastLe p (rowsOf k L) = lastLe L.length (rowsOf k L) := by
  intro p hp
  have : ∀ (rs : List Rw), (∀ r ∈ rs, r.pos ≤ L.length) → lastLe p rs = lastLe L.length rs := by
    intro rs
    refine snoc_ind (P := fun rs => (∀ r ∈ rs, r.pos ≤ L.length) → lastLe p rs = lastLe L.length rs) (fun _ => rfl) (fun l x ih h => ?_) rs
    have hx := h x (by simp)
    rw [lastLe_snoc, lastLe_snoc, if_pos hx, if_pos (by omega)]
  exact this _ (fun r hr => (rowsOf_pos k L r hr).2)
theorem lastLe_at (k : ByteArray) (L : List St) : ∀ p, lastLe p (rowsOf k L) = atS L p k := by
  refine snoc_ind (P := fun L => ∀ p, lastLe p (rowsOf k L) = atS L p k) (fun p => ?_) (fun L s ih p => ?_) L
  · rw [show rowsOf k [] = [] from rfl, lastLe_nil]
    induction p with
    | zero => rfl
    | succ p ih => unfold atS; simpa using ih
  · rw [rowsOf_snoc]
    rcases Nat.lt_or_ge L.length p with h | h
    · have hb : atS (L ++ [s]) p k = atS (L ++ [s]) (L.length + 1) k := by
        have := atS_big (L ++ [s]) k p (by simp; omega)
        rw [this]; simp
      rw [hb]
      conv => rhs; unfold atS
      rw [List.getElem?_concat_length, atS_snoc_le L s k _ (Nat.le_refl _), ← ih]
      by_cases hk : s.key = k
      · simp only [hk, if_true]
        rw [lastLe_snoc, if_pos (by simp; omega)]
      · simp only [hk, if_false, List.append_nil]
        exact lastLe_big k L p (by omega)
    · rw [atS_snoc_le L s k p h, ← ih]
      by_cases hk : s.key = k
      · rw [if_pos hk, lastLe_snoc, if_neg (by simp; omega)]
      · rw [if_neg hk, List.append_nil]
theorem rows_mem (k : ByteArray) : ∀ (L : List St) (n : Nat) (r : Rw), r ∈ rowsFrom k n L ↔ ∃ i, ∃ h : i < L.length, r.pos = n + i + 1 ∧ L[i].key = k ∧ r.val = L[i].val ∧ r.has = L[i].has := by
  intro L
  induction L with
  | nil => intro n r; simp [rowsFrom]
  | cons s L ih =>
    intro n r
    unfold rowsFrom
    rw [List.mem_append, ih (n + 1)]
    constructor
    · rintro (h | ⟨i, hi, h1, h2, h3, h4⟩)
      · split at h
        · rename_i hk
          rw [List.mem_singleton.1 h]
          exact ⟨0, by simp, rfl, hk, rfl, rfl⟩
        · cases h
      · exact ⟨i + 1, by simpa using hi, by omega, h2, h3, h4⟩
    · rintro ⟨i, hi, h1, h2, h3, h4⟩
      cases i with
      | zero =>
        left
        have hk : s.key = k := h2
        rw [if_pos hk]
        obtain ⟨p, v, h⟩ := r
        simp at h1 h3 h4
        simp [h1, h3, h4]
      | succ i => exact .inr ⟨i, by simpa using hi, by omega, h2, h3, h4⟩
/-- what the key held at one of some positions -/
def heldS (L : List St) (k v : ByteArray) (h : Bool) (a b : Nat) : Prop := ∃ p, a ≤ p ∧ p ≤ b ∧ atS L p k = (v, h)
theorem atS_row (L : List St) (k : ByteArray) (p : Nat) (r : Rw) (hr : r ∈ rowsOf k L) (hp : r.pos = p) : atS L p k = (r.val, r.has) := by
  obtain ⟨i, hi, h1, h2, h3, h4⟩ := (rows_mem k L 0 r).1 hr
  have : p = i + 1 := by omega
  subst this
  unfold atS
  rw [List.getElem?_eq_getElem hi]
  simp only [h2, if_true, h3, h4]
theorem held_rows (L : List St) (k v : ByteArray) (h : Bool) (a b : Nat) (hab : a ≤ b) : heldS L k v h a b ↔ atS L a k = (v, h) ∨ ∃ r ∈ rowsOf k L, a < r.pos ∧ r.pos ≤ b ∧ r.val = v ∧ r.has = h := by
  constructor
  · rintro ⟨p, h1, h2, h3⟩
    have key : ∀ d : Nat, a + d ≤ b → atS L (a + d) k = (v, h) → atS L a k = (v, h) ∨ ∃ r ∈ rowsOf k L, a < r.pos ∧ r.pos ≤ b ∧ r.val = v ∧ r.has = h := by
      intro d
      induction d with
      | zero => intro _ h; exact .inl h
      | succ d ih =>
        intro hd he
        have he' := he
        rw [show a + (d + 1) = (a + d) + 1 by omega] at he
        unfold atS at he
        cases hx : L[a + d]? with
        | none =>
          rw [hx] at he
          exact ih (by omega) he
        | some s =>
          rw [hx] at he
          simp only at he
          by_cases hk : s.key = k
          · rw [if_pos hk] at he
            obtain ⟨hi, hs⟩ := List.getElem?_eq_some_iff.1 hx
            refine .inr ⟨⟨a + d + 1, s.val, s.has⟩, (rows_mem k L 0 _).2 ⟨a + d, hi, by simp, ?_, ?_, ?_⟩, by simp; omega, by simp; omega, ?_, ?_⟩
            · rw [hs]; exact hk
            · rw [hs]
            · rw [hs]
            · exact congrArg Prod.fst he
            · exact congrArg Prod.snd he
          · rw [if_neg hk] at he
            exact ih (by omega) he
    exact key (p - a) (by omega) (by rw [show a + (p - a) = p by omega]; exact h3)
  · rintro (h1 | ⟨r, hr, h1, h2, h3, h4⟩)
    · exact ⟨a, Nat.le_refl _, hab, h1⟩
    · exact ⟨r.pos, by omega, h2, by rw [atS_row L k r.pos r hr rfl, h3, h4]⟩
end Go.Proofs.Ytmblkejgfoffaaa
