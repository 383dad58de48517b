/- Maps whose keys are of one make: lookup, store, delete, len, over the entries in their order. Over any program. -/
import Derived.WalkKit
namespace Go.Proofs.Ytmblkejgfoffaaa
open Go.RowKit
section
variable {κ : Type} [DecidableEq κ] {P : Program}
/-- keys of one make -/
structure Keys (P : Program) (kt : TypeId) (mk : κ → Value) (d : TypeDesc) : Prop where
  desc : P.underlying kt = some d
  same : ∀ a b, Instr.sameNow d (mk a) (mk b) = some (decide (a = b))
  check : ∀ (empty : Bool) (a : κ) (w : World), (Instr.checkKey empty 10000 kt (mk a)).run P w = .ok () w
  bits : ∀ a, Instr.sameBits 10000 (mk a) (mk a) = true
/-- an entry: its key, its value, its birth -/
abbrev Ent (κ : Type) : Type := κ × Value × Nat
def ents (mk : κ → Value) (l : List (Ent κ)) : List MapEntry := l.map fun p => ⟨mk p.1, p.2.1, p.2.2⟩
/-- block b is a map with these entries -/
def MapAt (w : World) (b : Nat) (mk : κ → Value) (l : List (Ent κ)) (clock : Nat) : Prop := w.heap[b]? = some (.map (ents mk l).toArray clock)
def posOf (k : κ) : List (Ent κ) → Nat → Option (Nat × Value)
  | [], _ => none
  | p :: l, i => if k = p.1 then some (i, p.2.1) else posOf k l (i + 1)
theorem findNow_ents {kt : TypeId} {mk : κ → Value} {d : TypeDesc} (K : Keys P kt mk d) (k : κ) : ∀ (l : List (Ent κ)) (i : Nat), Instr.findNow d (mk k) (ents mk l) i = some (posOf k l i) := by
  intro l
  induction l with
  | nil => intro i; rfl
  | cons p l ih =>
    intro i
    unfold ents
    rw [List.map_cons]
    unfold Instr.findNow posOf
    rw [K.same]
    by_cases h : k = p.1
    · simp [h]
    · simp only [h, decide_false, if_false]
      exact ih (i + 1)
theorem run_findKey {kt : TypeId} {mk : κ → Value} {d : TypeDesc} (K : Keys P kt mk d) (k : κ) (l : List (Ent κ)) (w : World) : (Instr.findKey kt (mk k) (ents mk l)).run P w = .ok (posOf k l 0) w := by
  unfold Instr.findKey
  simp only [Sem.run_bind, run_underlying K.desc, Result.andThen_ok, findNow_ents K k l 0, Sem.run_pure]
theorem run_getMap {w : World} {b : Nat} {es : Array MapEntry} {c : Nat} (h : w.heap[b]? = some (.map es c)) : (getObj b).run P w = .ok (.map es c) w := by
  unfold getObj
  simp [Sem.run, h]
theorem run_lookup_at {t kt e : TypeId} {mk : κ → Value} {d : TypeDesc} (K : Keys P kt mk d) (ht : P.underlying t = some (.map kt e)) {w : World} {b : Nat} {l : List (Ent κ)} {c : Nat} (h : MapAt w b mk l c) (k : κ) (z : Value) (hz : (zeroValue e).run P w = .ok z w) (ok : Bool) :
    (Instr.lookup t (.map (some b)) (mk k) ok).run P w = .ok (let r := match posOf k l 0 with | some (_, v) => (v, true) | none => (z, false); if ok then .tuple #[r.1, .bool r.2] else r.1) w := by
  unfold Instr.lookup
  simp only [Sem.run_bind, run_underlying ht, Result.andThen_ok, run_getMap h, Sem.run_pure, K.check, run_findKey K]
  cases posOf k l 0 with
  | none => simp [hz]
  | some p => simp [Sem.run_pure]
/-- the map's block with other entries -/
def setMap (w : World) (b : Nat) (es : Array MapEntry) (c : Nat) : World := { w with heap := w.heap.setIfInBounds b (.map es c) }
theorem setMap_grown (w : World) (b : Nat) (es : Array MapEntry) (c : Nat) : w.grownBy (setMap w b es c) (some b) :=
  ⟨rfl, rfl, rfl, by simp [setMap], fun k _ hk => by
    show (w.heap.setIfInBounds b _)[k]? = _
    rw [Array.getElem?_setIfInBounds_ne (fun e => hk (by rw [e]))]⟩
theorem setMap_size (w : World) (b : Nat) (es : Array MapEntry) (c : Nat) : (setMap w b es c).heap.size = w.heap.size := by simp [setMap]
theorem setMap_at {w : World} {b : Nat} {o : Obj} (h : w.heap[b]? = some o) (es : Array MapEntry) (c : Nat) : (setMap w b es c).heap[b]? = some (.map es c) := by
  have hlt : b < w.heap.size := (Array.getElem?_eq_some_iff.1 h).1
  show (w.heap.setIfInBounds b _)[b]? = _
  simp [hlt]
theorem run_setMap {w : World} {b : Nat} {es0 : Array MapEntry} {c0 : Nat} (h : w.heap[b]? = some (.map es0 c0)) (es : Array MapEntry) (c : Nat) : (setObj b (.map es c)).run P w = .ok () (setMap w b es c) := by
  unfold setObj
  simp [Sem.run, h, setMap]
def putEnt (k : κ) (v : Value) (c : Nat) : List (Ent κ) → List (Ent κ)
  | [] => [(k, v, c)]
  | p :: l => if k = p.1 then (p.1, v, p.2.2) :: l else p :: putEnt k v c l
def delEnt (k : κ) : List (Ent κ) → List (Ent κ)
  | [] => []
  | p :: l => if k = p.1 then l else p :: delEnt k l
theorem posOf_none (k : κ) : ∀ (l : List (Ent κ)) (i : Nat), posOf k l i = none ↔ ∀ p ∈ l, k ≠ p.1 := by
  intro l
  induction l with
  | nil => intro i; simp [posOf]
  | cons p l ih =>
    intro i
    unfold posOf
    by_cases h : k = p.1
    · simp [h]
    · rw [if_neg h, ih]; simp [h]
theorem putEnt_none (k : κ) (v : Value) (c : Nat) : ∀ (l : List (Ent κ)) (i : Nat), posOf k l i = none → putEnt k v c l = l ++ [(k, v, c)] := by
  intro l
  induction l with
  | nil => intro i _; rfl
  | cons p l ih =>
    intro i h
    unfold posOf at h
    by_cases hk : k = p.1
    · simp [hk] at h
    · rw [if_neg hk] at h
      unfold putEnt
      rw [if_neg hk, ih _ h]; rfl
theorem posOf_get {mk : κ → Value} (k : κ) : ∀ (l : List (Ent κ)) (i j : Nat) (v : Value), posOf k l i = some (j, v) → ∃ n, j = i + n ∧ n < l.length ∧ ((ents mk l)[n]?).map (·.key) = some (mk k) := by
  intro l
  induction l with
  | nil => intro i j v h; simp [posOf] at h
  | cons p l ih =>
    intro i j v h
    unfold posOf at h
    by_cases hk : k = p.1
    · rw [if_pos hk] at h
      simp only [Option.some.injEq, Prod.mk.injEq] at h
      refine ⟨0, by omega, by simp, ?_⟩
      unfold ents
      simp [hk]
    · rw [if_neg hk] at h
      obtain ⟨n, h1, h2, h3⟩ := ih _ _ _ h
      refine ⟨n + 1, by omega, by simp; omega, ?_⟩
      unfold ents at h3 ⊢
      simpa using h3
theorem putEnt_some {mk : κ → Value} (k : κ) (v : Value) (c : Nat) : ∀ (l : List (Ent κ)) (i n : Nat) (u : Value), posOf k l i = some (i + n, u) → (ents mk l).modify n (fun e => { e with key := mk k, val := v }) = ents mk (putEnt k v c l) := by
  intro l
  induction l with
  | nil => intro i n u h; simp [posOf] at h
  | cons p l ih =>
    intro i n u h
    unfold posOf at h
    unfold putEnt
    by_cases hk : k = p.1
    · rw [if_pos hk] at h
      simp only [Option.some.injEq, Prod.mk.injEq] at h
      obtain rfl : n = 0 := by omega
      rw [if_pos hk]
      unfold ents
      simp [hk]
    · rw [if_neg hk] at h
      rw [if_neg hk]
      cases n with
      | zero =>
        obtain ⟨m, hm, _⟩ := posOf_get (mk := mk) k l _ _ _ h
        omega
      | succ n =>
        have := ih (i + 1) n u (by rw [show i + 1 + n = i + (n + 1) by omega]; exact h)
        unfold ents at this ⊢
        simp only [List.map_cons, List.modify_succ_cons]
        rw [this]
theorem delEnt_some {mk : κ → Value} (k : κ) : ∀ (l : List (Ent κ)) (i n : Nat) (u : Value), posOf k l i = some (i + n, u) → (ents mk l).eraseIdx n = ents mk (delEnt k l) := by
  intro l
  induction l with
  | nil => intro i n u h; simp [posOf] at h
  | cons p l ih =>
    intro i n u h
    unfold posOf at h
    unfold delEnt
    by_cases hk : k = p.1
    · rw [if_pos hk] at h
      simp only [Option.some.injEq, Prod.mk.injEq] at h
      obtain rfl : n = 0 := by omega
      rw [if_pos hk]
      unfold ents
      simp
    · rw [if_neg hk] at h
      rw [if_neg hk]
      cases n with
      | zero =>
        obtain ⟨m, hm, _⟩ := posOf_get (mk := mk) k l _ _ _ h
        omega
      | succ n =>
        have := ih (i + 1) n u (by rw [show i + 1 + n = i + (n + 1) by omega]; exact h)
        unfold ents at this ⊢
        simp only [List.map_cons, List.eraseIdx_cons_succ]
        rw [this]
theorem delEnt_none (k : κ) : ∀ (l : List (Ent κ)) (i : Nat), posOf k l i = none → delEnt k l = l := by
  intro l
  induction l with
  | nil => intro i _; rfl
  | cons p l ih =>
    intro i h
    unfold posOf at h
    by_cases hk : k = p.1
    · simp [hk] at h
    · rw [if_neg hk] at h
      unfold delEnt
      rw [if_neg hk, ih _ h]
/-- the clock behind a store -/
def putClock (k : κ) (l : List (Ent κ)) (c : Nat) : Nat := match posOf k l 0 with
  | some _ => c
  | none => c + 1
theorem run_put_at {t kt e : TypeId} {mk : κ → Value} {d : TypeDesc} (K : Keys P kt mk d) (ht : P.underlying t = some (.map kt e)) {w : World} {b : Nat} {l : List (Ent κ)} {c : Nat} (h : MapAt w b mk l c) (k : κ) (v : Value) :
    ∃ w', (Instr.mapUpdate t (.map (some b)) (mk k) v).run P w = .ok () w' ∧ MapAt w' b mk (putEnt k v c l) (putClock k l c) ∧ w.grownBy w' (some b) ∧ w'.heap.size = w.heap.size := by
  unfold Instr.mapUpdate
  simp only [Sem.run_bind, run_underlying ht, Result.andThen_ok, run_getMap h, K.check, run_findKey K]
  unfold putClock
  cases hp : posOf k l 0 with
  | none =>
    refine ⟨_, run_setMap h _ _, ?_, setMap_grown _ _ _ _, setMap_size _ _ _ _⟩
    unfold MapAt
    rw [setMap_at h, putEnt_none k v c l 0 hp]
    unfold ents
    simp
  | some q =>
    obtain ⟨j, u⟩ := q
    obtain ⟨n, hj, hn, hkey⟩ := posOf_get (mk := mk) k l 0 j u hp
    rw [Nat.zero_add] at hj
    subst hj
    have hk2 : (((ents mk l).toArray[j]?).map (·.key)).getD (mk k) = mk k := by
      rw [List.getElem?_toArray, hkey]; rfl
    simp only [hk2]
    unfold Instr.keyThatStays
    simp only [K.bits, if_true, Sem.run_bind, Sem.run_pure, Result.andThen_ok]
    refine ⟨_, run_setMap h _ _, ?_, setMap_grown _ _ _ _, setMap_size _ _ _ _⟩
    unfold MapAt
    rw [setMap_at h]
    rw [← putEnt_some (mk := mk) k v c l 0 j u (by rw [Nat.zero_add]; exact hp)]
    simp
theorem run_del_at {t kt e : TypeId} {mk : κ → Value} {d : TypeDesc} (K : Keys P kt mk d) (ht : P.underlying t = some (.map kt e)) {w : World} {b : Nat} {l : List (Ent κ)} {c : Nat} (h : MapAt w b mk l c) (k : κ) (ty : TypeId) :
    ∃ w', (Builtin.delete_ #[t, kt] ty #[.map (some b), mk k]).run P w = .ok (.tuple #[]) w' ∧ MapAt w' b mk (delEnt k l) c ∧ w.grownBy w' (some b) ∧ w'.heap.size = w.heap.size := by
  unfold Builtin.delete_
  simp only [List.getElem?_toArray, List.getElem?_cons_zero, List.getElem?_cons_succ, Sem.run_bind, run_underlying ht, Result.andThen_ok, run_getMap h, K.check, run_findKey K]
  cases hp : posOf k l 0 with
  | none =>
    refine ⟨setMap w b (ents mk l).toArray c, by simp only [Sem.run_bind, run_setMap h, Result.andThen_ok, Sem.run_pure], ?_, setMap_grown _ _ _ _, setMap_size _ _ _ _⟩
    unfold MapAt
    rw [setMap_at h, delEnt_none k l 0 hp]
  | some q =>
    obtain ⟨j, u⟩ := q
    refine ⟨setMap w b ((ents mk l).toArray.eraseIdxIfInBounds j) c, by simp only [Sem.run_bind, run_setMap h, Result.andThen_ok, Sem.run_pure], ?_, setMap_grown _ _ _ _, setMap_size _ _ _ _⟩
    unfold MapAt
    rw [setMap_at h, ← delEnt_some (mk := mk) k l 0 j u (by rw [Nat.zero_add]; exact hp)]
    obtain ⟨n, hj, hn, _⟩ := posOf_get (mk := mk) k l 0 j u hp
    have hj' : j < (ents mk l).length := by unfold ents; rw [List.length_map]; omega
    simp [Array.eraseIdxIfInBounds, hj']
end
section
variable {κ : Type} {P : Program}
theorem run_len_at {t ty kt e : TypeId} {mk : κ → Value} (ht : P.underlying t = some (.map kt e)) {w : World} {b : Nat} {l : List (Ent κ)} {c : Nat} (h : MapAt w b mk l c) :
    (Builtin.len_ #[t] ty #[.map (some b)]).run P w = .ok (.int .i64 (l.length : Int)) w := by
  unfold Builtin.len_
  simp [Sem.run_bind, run_underlying ht, run_getMap h, Sem.run_pure, ents]
  rfl
/-- births: below the clock, each its own -/
def Stamped (l : List (Ent κ)) (c : Nat) : Prop := (∀ p ∈ l, p.2.2 < c) ∧ (l.map (·.2.2)).Nodup
/-- block r is an iterator over map b that began at clock c and has given the births 'seen' -/
def IterAt (w : World) (r b c : Nat) (seen : List Nat) : Prop := w.heap[r]? = some (.mapIter (some b) c seen.toArray c)
theorem run_range_at {t kt e : TypeId} {mk : κ → Value} (ht : P.underlying t = some (.map kt e)) {w : World} {b : Nat} {l : List (Ent κ)} {c : Nat} (h : MapAt w b mk l c) :
    (Instr.range t (.map (some b))).run P w = .ok (.pointer (some ⟨w.heap.size, 0, none⟩)) (w.alloc (.mapIter (some b) c #[] c)) := by
  unfold Instr.range
  simp [Sem.run_bind, run_underlying ht, run_getMap h]
theorem run_getIter {w : World} {r b c : Nat} {seen : List Nat} (h : IterAt w r b c seen) : (getObj r).run P w = .ok (.mapIter (some b) c seen.toArray c) w := by
  unfold getObj
  simp [Sem.run, IterAt] at h ⊢
  rw [h]
/-- the iterator's block with other contents -/
def setIter (w : World) (r : Nat) (o : Obj) : World := { w with heap := w.heap.setIfInBounds r o }
theorem run_setIter {w : World} {r b c : Nat} {seen : List Nat} (h : IterAt w r b c seen) (o : Obj) : (setObj r o).run P w = .ok () (setIter w r o) := by
  unfold setObj
  unfold IterAt at h
  simp [Sem.run, h, setIter]
theorem left_filter (L : List MapEntry) (c : Nat) (h : ∀ e ∈ L, e.born < c) : (L.toArray.filter fun e => decide (e.born < c)) = L.toArray ∧ (L.toArray.filter fun e => decide (e.born ≥ c)) = #[] := by
  constructor
  · rw [List.filter_toArray, List.filter_eq_self.2 (fun e he => by simpa using h e he)]
  · rw [List.filter_toArray, List.filter_eq_nil_iff.2 (fun e he => by have := h e he; simp; omega)]
theorem find_ents (mk : κ → Value) : ∀ (l : List (Ent κ)), (l.map (·.2.2)).Nodup → ∀ p ∈ l, (ents mk l).find? (fun e => e.born == p.2.2) = some ⟨mk p.1, p.2.1, p.2.2⟩ := by
  intro l
  induction l with
  | nil => intro _ p hp; cases hp
  | cons q l ih =>
    intro hn p hp
    rw [List.map_cons, List.nodup_cons] at hn
    unfold ents
    rw [List.map_cons, List.find?_cons]
    rcases List.mem_cons.1 hp with rfl | hp'
    · simp
    · have hne : (q.2.2 == p.2.2) = false := by
        rw [beq_eq_false_iff_ne]
        intro e
        exact hn.1 (e ▸ List.mem_map.2 ⟨p, hp', rfl⟩)
      rw [hne]
      exact ih hn.2 p hp'
theorem run_pick (w : World) (n : Nat) (hn : 0 < n) : ∃ i w1, i < n ∧ (choose (.mapNext n)).run P w = .ok i w1 ∧ (w1 = w ∨ w1 = w.drew) := by
  by_cases h : n ≤ 1
  · refine ⟨0, w, hn, ?_, .inl rfl⟩
    simp [choose, Sem.run, Question.forced, h]
  · refine ⟨(w.tape w.drawn (.mapNext n)) % n, w.drew, Nat.mod_lt _ hn, ?_, .inr rfl⟩
    simp [choose, Sem.run, Question.forced, Question.cut, h]
theorem run_next_at {mk : κ → Value} {w : World} {r b c : Nat} {l : List (Ent κ)} {seen : List Nat} (h : MapAt w b mk l c) (hs : Stamped l c) (hi : IterAt w r b c seen) (ty : TypeId) :
    ((∀ p ∈ l, p.2.2 ∈ seen) ∧ (Instr.next (.pointer (some ⟨r, 0, none⟩)) false ty).run P w = .ok (.tuple #[.bool false]) w) ∨
    ∃ p ∈ l, p.2.2 ∉ seen ∧ ∃ w', (Instr.next (.pointer (some ⟨r, 0, none⟩)) false ty).run P w = .ok (.tuple #[.bool true, mk p.1, p.2.1]) w' ∧ IterAt w' r b c (seen ++ [p.2.2]) ∧ w.grownBy w' (some r) ∧ w'.heap.size = w.heap.size ∧
      (b ≠ r → (Instr.entry (.pointer (some ⟨r, 0, none⟩))).run P w' = .ok (.tuple #[mk p.1, p.2.1]) w') := by
  have hall : (!seen.toArray.isEmpty && !(ents mk l).toArray.isEmpty && (ents mk l).toArray.all fun e => decide (e.born ≥ c)) = false := by
    cases l with
    | nil => simp [ents]
    | cons p l =>
      have := hs.1 p (by simp)
      simp [ents]
      intro _ h0
      omega
  generalize hL : (ents mk l).filter (fun e => !seen.toArray.contains e.born) = L
  have hmem : ∀ e ∈ L, ∃ p ∈ l, e = ⟨mk p.1, p.2.1, p.2.2⟩ ∧ p.2.2 ∉ seen := by
    intro e he
    rw [← hL] at he
    obtain ⟨h1, h2⟩ := List.mem_filter.1 he
    unfold ents at h1
    obtain ⟨p, hp, rfl⟩ := List.mem_map.1 h1
    exact ⟨p, hp, rfl, by simpa using h2⟩
  have hborn : ∀ e ∈ L, e.born < c := by
    intro e he
    obtain ⟨p, hp, rfl, _⟩ := hmem e he
    exact hs.1 p hp
  have hf := left_filter L c hborn
  have hfl : ((ents mk l).toArray.filter fun e => !seen.toArray.contains e.born) = L.toArray := by rw [List.filter_toArray, hL]
  have hrun : (Instr.next (.pointer (some ⟨r, 0, none⟩)) false ty).run P w = (do
      let candidates : Array (Option MapEntry) := (if L.toArray.isEmpty then #[none] else #[]) ++ (L.toArray ++ #[]).map some
      match candidates[← choose (.mapNext candidates.size)]? with
      | some (some e) => do
        setObj r (.mapIter (some b) c (seen.toArray.push e.born) c)
        pure (.tuple #[.bool true, e.key, e.val])
      | some none => pure (.tuple #[.bool false])
      | none => stuck "Next: no such candidate" : Sem Value).run P w := by
    unfold Instr.next
    simp only [Sem.run_bind, run_getIter hi, run_getMap h, Result.andThen_ok, hall, Bool.false_eq_true, if_false, hfl, hf.1, hf.2]
    rfl
  rw [hrun]
  clear hrun
  cases L with
  | nil =>
    left
    refine ⟨fun p hp => ?_, ?_⟩
    · have h0 := List.filter_eq_nil_iff.1 hL ⟨mk p.1, p.2.1, p.2.2⟩ (by unfold ents; exact List.mem_map.2 ⟨p, hp, rfl⟩)
      simpa using h0
    · simp [choose, Sem.run, Question.forced, Sem.bind, bind, pure]
  | cons e L' =>
    right
    have hcand : (if (e :: L').toArray.isEmpty = true then #[none] else #[]) ++ Array.map some ((e :: L').toArray ++ #[]) = ((e :: L').map some).toArray := by simp
    simp only [hcand, Sem.run_bind]
    obtain ⟨i, w1, hi', hpick, hw1⟩ := run_pick (P := P) w ((e :: L').map some).toArray.size (by simp)
    rw [hpick]
    simp only [Result.andThen_ok]
    have hlt : i < (e :: L').length := by simpa using hi'
    have hget : ((e :: L').map some).toArray[i]? = some (some (e :: L')[i]) := by
      rw [List.getElem?_toArray, List.getElem?_map, List.getElem?_eq_getElem hlt]; rfl
    rw [hget]
    obtain ⟨p, hp, hpe, hns⟩ := hmem _ (List.getElem_mem hlt)
    rw [hpe]
    have hi1 : IterAt w1 r b c seen := by rcases hw1 with rfl | rfl <;> exact hi
    refine ⟨p, hp, hns, setIter w1 r (.mapIter (some b) c (seen.toArray.push p.2.2) c), ?_, ?_, ?_, ?_, ?_⟩
    · simp only [Sem.run_bind, run_setIter hi1, Result.andThen_ok, Sem.run_pure]
    · have hlt : r < w1.heap.size := (Array.getElem?_eq_some_iff.1 hi1).1
      unfold IterAt
      show (w1.heap.setIfInBounds r _)[r]? = _
      simp [hlt]
    · have hg : w1.grownBy (setIter w1 r (.mapIter (some b) c (seen.toArray.push p.2.2) c)) (some r) := ⟨rfl, rfl, rfl, by simp [setIter], fun k _ hk => by
        show (w1.heap.setIfInBounds r _)[k]? = _
        rw [Array.getElem?_setIfInBounds_ne (fun e => hk (by rw [e]))]⟩
      rcases hw1 with rfl | rfl
      · exact hg
      · exact ⟨hg.os, hg.tape, hg.output, hg.size, hg.block⟩
    · rcases hw1 with rfl | rfl <;> simp [setIter] <;> rfl
    · intro hbr
      have hlt : r < w1.heap.size := (Array.getElem?_eq_some_iff.1 hi1).1
      have hm : (setIter w1 r (.mapIter (some b) c (seen.toArray.push p.2.2) c)).heap[b]? = some (.map (ents mk l).toArray c) := by
        show (w1.heap.setIfInBounds r _)[b]? = _
        rw [Array.getElem?_setIfInBounds_ne (Ne.symm hbr)]
        rcases hw1 with rfl | rfl <;> exact h
      have hit : (getObj r).run P (setIter w1 r (.mapIter (some b) c (seen.toArray.push p.2.2) c)) = .ok (.mapIter (some b) c (seen.toArray.push p.2.2) c) (setIter w1 r (.mapIter (some b) c (seen.toArray.push p.2.2) c)) := by
        unfold getObj
        have : (setIter w1 r (.mapIter (some b) c (seen.toArray.push p.2.2) c)).heap[r]? = some (.mapIter (some b) c (seen.toArray.push p.2.2) c) := by
          show (w1.heap.setIfInBounds r _)[r]? = _
          simp [hlt]
        simp only [Sem.run, this]
      have hfind : (ents mk l).toArray.find? (fun e => e.born == p.2.2) = some ⟨mk p.1, p.2.1, p.2.2⟩ := by
        rw [List.find?_toArray]
        exact find_ents mk l hs.2 p hp
      unfold Instr.entry
      simp only [Sem.run_bind, hit, Result.andThen_ok]
      have hback : (seen.toArray.push p.2.2).back? = some p.2.2 := by simp
      simp only [hback, Sem.run_bind, run_getMap hm, Result.andThen_ok, bne_self_eq_false, Bool.false_eq_true, if_false, hfind, Sem.run_pure]
section
variable {ops : Array Oper} {rest : List Oper} {o : Oper} {a : Act} {K : Act → World → Prop} {Q : Exit → Act → World → Prop} {w : World}
theorem wp_next_at {mk : κ → Value} {r b c : Nat} {l : List (Ent κ)} {seen : List Nat} (it : Operand) (hop : o.op = Op.next it false) (hit : a.eval it = .pointer (some ⟨r, 0, none⟩)) (h : MapAt w b mk l c) (hs : Stamped l c) (hi : IterAt w r b c seen)
    (hDone : (∀ p ∈ l, p.2.2 ∈ seen) → K (a.put o.dst (.tuple #[.bool false])) w)
    (hMore : ∀ p ∈ l, p.2.2 ∉ seen → ∀ w', IterAt w' r b c (seen ++ [p.2.2]) → w.grownBy w' (some r) → w'.heap.size = w.heap.size → (b ≠ r → (Instr.entry (.pointer (some ⟨r, 0, none⟩))).run P w' = .ok (.tuple #[mk p.1, p.2.1]) w') → K (a.put o.dst (.tuple #[.bool true, mk p.1, p.2.1])) w') : o.wp P a w K Q := by
  unfold Oper.wp
  rcases run_next_at (P := P) h hs hi o.type with ⟨h1, hrun⟩ | ⟨p, hp, hn, w', hrun, h2, h3, h4, h5⟩
  · simp [execOp, hop, hit, hrun, Result.andThen, Oper.upon]
    exact hDone h1
  · simp [execOp, hop, hit, hrun, Result.andThen, Oper.upon]
    exact hMore p hp hn w' h2 h3 h4 h5
theorem wpList_next_at {mk : κ → Value} {r b c : Nat} {l : List (Ent κ)} {seen : List Nat} (hg : o.guard = none) (it : Operand) (hop : o.op = Op.next it false) (hit : a.eval it = .pointer (some ⟨r, 0, none⟩)) (h : MapAt w b mk l c) (hs : Stamped l c) (hi : IterAt w r b c seen)
    (hDone : (∀ p ∈ l, p.2.2 ∈ seen) → wpList P ops Q rest (a.put o.dst (.tuple #[.bool false])) w)
    (hMore : ∀ p ∈ l, p.2.2 ∉ seen → ∀ w', IterAt w' r b c (seen ++ [p.2.2]) → w.grownBy w' (some r) → w'.heap.size = w.heap.size → (b ≠ r → (Instr.entry (.pointer (some ⟨r, 0, none⟩))).run P w' = .ok (.tuple #[mk p.1, p.2.1]) w') → wpList P ops Q rest (a.put o.dst (.tuple #[.bool true, mk p.1, p.2.1])) w') : wpList P ops Q (o :: rest) a w :=
  wpList_plain hg fun _ hK => wp_next_at it hop hit h hs hi (fun h1 => hK _ _ (hDone h1)) (fun p hp hn w' h2 h3 h4 h5 => hK _ _ (hMore p hp hn w' h2 h3 h4 h5))
end
end
end Go.Proofs.Ytmblkejgfoffaaa
