/- Calls that came in; the judge's plain laws. No walk. -/
import Derived.Test.YtmblkejgfoffaaaCutC
namespace Go.Proofs.Ytmblkejgfoffaaa
open Go.RowKit Go.ChangeShapes Go.WideShapes
section
variable {H : Type} {enc : TypeId × Value → H} {W : World}
theorem calls_each (n : Nat) (cs : List Value) (x : DataW H × List MemPlace) (h : DataW.trod enc Try.prog W 0 (fun _ => true) true n 45 cs = some x) : ∃ o : Cl, cs = o.cells ∧ (o.key.size ≤ maxLen ∧ o.val.size ≤ maxLen) := by
  obtain ⟨xs, m, _, _, hl, hxl, hg⟩ := DataW.trod_struct Try.underlying45 h
  have hl13 : cs.length = 13 := hl.trans (by kernel_rfl)
  obtain ⟨v0, e0, g0⟩ := one_of hl13 (show 0 < 13 by decide)
  obtain ⟨v1, e1, g1⟩ := one_of hl13 (show 1 < 13 by decide)
  obtain ⟨v2, e2, g2⟩ := one_of hl13 (show 2 < 13 by decide)
  obtain ⟨v3, e3, g3⟩ := one_of hl13 (show 3 < 13 by decide)
  obtain ⟨v4, e4, g4⟩ := one_of hl13 (show 4 < 13 by decide)
  obtain ⟨v5, e5, g5⟩ := one_of hl13 (show 5 < 13 by decide)
  obtain ⟨v6, e6, g6⟩ := one_of hl13 (show 6 < 13 by decide)
  have h0 : DataW.trod enc Try.prog W 0 (fun _ => true) true m 2 ((cs.drop 0).take (Try.prog.cellsOf 2)) = xs[0]? := hg 0 _ rfl
  have h1 : DataW.trod enc Try.prog W 0 (fun _ => true) true m 3 ((cs.drop 1).take (Try.prog.cellsOf 3)) = xs[1]? := hg 1 _ rfl
  have h2 : DataW.trod enc Try.prog W 0 (fun _ => true) true m 9 ((cs.drop 2).take (Try.prog.cellsOf 9)) = xs[2]? := hg 2 _ rfl
  have h3 : DataW.trod enc Try.prog W 0 (fun _ => true) true m 3 ((cs.drop 3).take (Try.prog.cellsOf 3)) = xs[3]? := hg 3 _ rfl
  have h4 : DataW.trod enc Try.prog W 0 (fun _ => true) true m 3 ((cs.drop 4).take (Try.prog.cellsOf 3)) = xs[4]? := hg 4 _ rfl
  have h5 : DataW.trod enc Try.prog W 0 (fun _ => true) true m 3 ((cs.drop 5).take (Try.prog.cellsOf 3)) = xs[5]? := hg 5 _ rfl
  have h6 : DataW.trod enc Try.prog W 0 (fun _ => true) true m 4 ((cs.drop 6).take (Try.prog.cellsOf 4)) = xs[6]? := hg 6 _ rfl
  have h7 : DataW.trod enc Try.prog W 0 (fun _ => true) true m 43 ((cs.drop 7).take (Try.prog.cellsOf 43)) = xs[7]? := hg 7 _ rfl
  have c2 : Try.prog.cellsOf 2 = 1 := by kernel_rfl
  have c3 : Try.prog.cellsOf 3 = 1 := by kernel_rfl
  have c9 : Try.prog.cellsOf 9 = 1 := by kernel_rfl
  have c4 : Try.prog.cellsOf 4 = 1 := by kernel_rfl
  have c41 : Try.prog.cellsOf 41 = 1 := by kernel_rfl
  have c43 : Try.prog.cellsOf 43 = 6 := by kernel_rfl
  have hx : xs.length = 8 := hxl
  rw [c2, e0, List.getElem?_eq_getElem (by omega)] at h0
  obtain ⟨a0, q0, _, w0⟩ := DataW.trod_int Try.underlying2 h0
  cases q0
  rw [c3, e1, List.getElem?_eq_getElem (by omega)] at h1
  obtain ⟨a1, q1, _, w1⟩ := DataW.trod_int Try.underlying3 h1
  cases q1
  rw [c9, e2, List.getElem?_eq_getElem (by omega)] at h2
  obtain ⟨a2, q2, _, w2⟩ := DataW.trod_string Try.underlying9 h2
  cases q2
  rw [c3, e3, List.getElem?_eq_getElem (by omega)] at h3
  obtain ⟨a3, q3, _, w3⟩ := DataW.trod_int Try.underlying3 h3
  cases q3
  rw [c3, e4, List.getElem?_eq_getElem (by omega)] at h4
  obtain ⟨a4, q4, _, w4⟩ := DataW.trod_int Try.underlying3 h4
  cases q4
  rw [c3, e5, List.getElem?_eq_getElem (by omega)] at h5
  obtain ⟨a5, q5, _, w5⟩ := DataW.trod_int Try.underlying3 h5
  cases q5
  rw [c4, e6, List.getElem?_eq_getElem (by omega)] at h6
  obtain ⟨a6, q6, _⟩ := DataW.trod_bool Try.underlying4 h6
  cases q6
  rw [c43, List.getElem?_eq_getElem (by omega)] at h7
  obtain ⟨ys, m', _, _, hl', hyl, hg'⟩ := DataW.trod_struct Try.underlying43 h7
  have hy : ys.length = 6 := hyl
  have hl6 : ((cs.drop 7).take 6).length = 6 := by rw [List.length_take, List.length_drop]; omega
  obtain ⟨v7, e7, g7⟩ := one_of hl6 (show 0 < 6 by decide)
  obtain ⟨v8, e8, g8⟩ := one_of hl6 (show 1 < 6 by decide)
  obtain ⟨v9, e9, g9⟩ := one_of hl6 (show 2 < 6 by decide)
  obtain ⟨v10, e10, g10⟩ := one_of hl6 (show 3 < 6 by decide)
  obtain ⟨v11, e11, g11⟩ := one_of hl6 (show 4 < 6 by decide)
  obtain ⟨v12, e12, g12⟩ := one_of hl6 (show 5 < 6 by decide)
  have k0 : DataW.trod enc Try.prog W 0 (fun _ => true) true m' 2 ((((cs.drop 7).take 6).drop 0).take (Try.prog.cellsOf 2)) = ys[0]? := hg' 0 _ rfl
  have k1 : DataW.trod enc Try.prog W 0 (fun _ => true) true m' 3 ((((cs.drop 7).take 6).drop 1).take (Try.prog.cellsOf 3)) = ys[1]? := hg' 1 _ rfl
  have k2 : DataW.trod enc Try.prog W 0 (fun _ => true) true m' 9 ((((cs.drop 7).take 6).drop 2).take (Try.prog.cellsOf 9)) = ys[2]? := hg' 2 _ rfl
  have k3 : DataW.trod enc Try.prog W 0 (fun _ => true) true m' 41 ((((cs.drop 7).take 6).drop 3).take (Try.prog.cellsOf 41)) = ys[3]? := hg' 3 _ rfl
  have k4 : DataW.trod enc Try.prog W 0 (fun _ => true) true m' 9 ((((cs.drop 7).take 6).drop 4).take (Try.prog.cellsOf 9)) = ys[4]? := hg' 4 _ rfl
  have k5 : DataW.trod enc Try.prog W 0 (fun _ => true) true m' 4 ((((cs.drop 7).take 6).drop 5).take (Try.prog.cellsOf 4)) = ys[5]? := hg' 5 _ rfl
  rw [c2, e7, List.getElem?_eq_getElem (by omega)] at k0
  obtain ⟨a7, q7, _, w7⟩ := DataW.trod_int Try.underlying2 k0
  cases q7
  rw [List.getElem?_take_of_lt (by decide), List.getElem?_drop] at g7
  rw [c3, e8, List.getElem?_eq_getElem (by omega)] at k1
  obtain ⟨a8, q8, _, w8⟩ := DataW.trod_int Try.underlying3 k1
  cases q8
  rw [List.getElem?_take_of_lt (by decide), List.getElem?_drop] at g8
  rw [c9, e9, List.getElem?_eq_getElem (by omega)] at k2
  obtain ⟨a9, q9, _, w9⟩ := DataW.trod_string Try.underlying9 k2
  cases q9
  rw [List.getElem?_take_of_lt (by decide), List.getElem?_drop] at g9
  rw [c41, e10, List.getElem?_eq_getElem (by omega)] at k3
  obtain ⟨a10, q10, _, w10⟩ := DataW.trod_int Try.underlying41 k3
  cases q10
  rw [List.getElem?_take_of_lt (by decide), List.getElem?_drop] at g10
  rw [c9, e11, List.getElem?_eq_getElem (by omega)] at k4
  obtain ⟨a11, q11, _, w11⟩ := DataW.trod_string Try.underlying9 k4
  cases q11
  rw [List.getElem?_take_of_lt (by decide), List.getElem?_drop] at g11
  rw [c4, e12, List.getElem?_eq_getElem (by omega)] at k5
  obtain ⟨a12, q12, _⟩ := DataW.trod_bool Try.underlying4 k5
  cases q12
  rw [List.getElem?_take_of_lt (by decide), List.getElem?_drop] at g12
  refine ⟨⟨a0, a1, a2, a3, a4, a5, a6, a7, a8, a9, a10, a11, a12⟩, ?_, w2, w11⟩
  apply List.ext_getElem?
  intro i
  match i with
  | 0 => exact g0
  | 1 => exact g1
  | 2 => exact g2
  | 3 => exact g3
  | 4 => exact g4
  | 5 => exact g5
  | 6 => exact g6
  | 7 => exact g7
  | 8 => exact g8
  | 9 => exact g9
  | 10 => exact g10
  | 11 => exact g11
  | 12 => exact g12
  | i + 13 => rw [List.getElem?_eq_none (by omega), List.getElem?_eq_none (by show 13 ≤ _; omega)]
theorem open_callsR (A : Option Addr) (len cap : Nat) {d : DataW H} {p : List MemPlace} (h : DataW.Trod enc Try.prog W 0 (fun _ => true) true 40 (.slice A len cap) d p) :
    ∃ os : List Cl, os.length = len ∧ len ≤ cap ∧ cap ≤ maxLen ∧ (∀ o ∈ os, o.key.size ≤ maxLen ∧ o.val.size ≤ maxLen) ∧ Sl W A (os.flatMap Cl.cells) :=
  open_slice_of Cl.cells (fun o => o.key.size ≤ maxLen ∧ o.val.size ≤ maxLen) 13 (fun _ => rfl) (by decide) Try.underlying40 (by kernel_rfl) calls_each h
end
theorem cutc_sl (w : World) (A : Option Addr) (n c : Nat) (L : List Cl) (hn : L.length = n) (hm : n ≤ 9223372036854775807) (hs : Sl w A (L.flatMap Cl.cells)) (hz : ∀ s ∈ L, s.key.size ≤ maxLen ∧ s.val.size ≤ maxLen) :
    Calls Try.prog 24 #[.slice A n c] w fun e w' => ∃ A' c', e = .returned (.slice A' (cutC (min n 12) L).length c') ∧ (cutC (min n 12) L).length ≤ c' ∧ c' ≤ maxLen ∧ Sl w' A' ((cutC (min n 12) L).flatMap Cl.cells) ∧ Below w.heap.size w w' :=
  (cutc_any w A n c L hn hm hs hz).mono (by
    rintro e w' ⟨v, rfl, ho, hb⟩
    obtain ⟨A', c', rfl, h1, h2, hs', _⟩ := own_flat (C := 13) ho
    exact ⟨A', c', rfl, h1, h2, hs', hb⟩)
theorem cutC_len (n : Nat) (L : List Cl) : (cutC n L).length ≤ n := by
  unfold cutC
  rw [List.length_map, List.length_take]; omega
def sameK (x c : Cl) : Bool := c.key.toList == x.key.toList
theorem stepN_other (x c : Cl) (n : Int) (h : sameK x c = false) : stepN x n c = n := by
  unfold stepN killed
  unfold sameK at h
  rw [h]
  simp
theorem sinceN_filter (x : Cl) : ∀ (l : List Cl) (n : Int), (l.filter (sameK x)).foldl (stepN x) n = l.foldl (stepN x) n := by
  intro l
  induction l with
  | nil => intro n; rfl
  | cons c l ih =>
    intro n
    rw [List.filter_cons]
    cases h : sameK x c with
    | true => simp only [if_true, List.foldl_cons]; exact ih _
    | false =>
      rw [if_neg (by simp), List.foldl_cons, stepN_other x c n h]
      exact ih _
/-- those of x's key among the first k -/
def ownTo (x : Cl) (l : List Cl) (k : Nat) : List Cl := (l.take k).filter (sameK x)
theorem ownTo_succ (x : Cl) (l : List Cl) (k : Nat) (h : k < l.length) : ownTo x l (k + 1) = ownTo x l k ++ if sameK x l[k] then [l[k]] else [] := by
  unfold ownTo
  rw [List.take_succ_eq_append_getElem h, List.filter_append]
  cases hx : sameK x l[k] <;> simp [hx]
theorem ownTo_len (x : Cl) (l : List Cl) (k : Nat) : (ownTo x l k).length ≤ k := by
  unfold ownTo
  have := List.length_filter_le (sameK x) (l.take k)
  rw [List.length_take] at this
  omega
theorem since_own (l : List Cl) (i : Nat) (h : i < l.length) : ∃ j, (ownTo l[i] l (i + 1)).length = j + 1 ∧ sinceF (ownTo l[i] l (i + 1)) j = sinceF l i := by
  have hs : sameK l[i] l[i] = true := beq_self_eq_true _
  rw [ownTo_succ _ l i h, hs, if_pos rfl]
  refine ⟨(ownTo l[i] l i).length, by simp, ?_⟩
  unfold sinceF
  rw [List.getElem?_concat_length, List.getElem?_eq_getElem h]
  simp only
  rw [List.take_left]
  unfold sinceN ownTo
  exact sinceN_filter l[i] (l.take i) 0
theorem since_take (l : List Cl) (i k : Nat) (h : i < k) : sinceF (l.take k) i = sinceF l i := by
  unfold sinceF
  rw [List.getElem?_take_of_lt h]
  cases l[i]? with
  | none => rfl
  | some x =>
    simp only
    rw [List.take_take, Nat.min_eq_left (by omega)]
theorem badTo_take (Q : List St) (l : List Cl) (k : Nat) : ∀ j, j ≤ k → badTo Q (l.take k) j = badTo Q l j := by
  intro j
  induction j with
  | zero => intro _; rfl
  | succ j ih =>
    intro h
    unfold badTo
    rw [ih (by omega), List.getElem?_take_of_lt (by omega), since_take l j k (by omega)]
theorem badTo_prefix (Q : List St) (l : List Cl) (a : Nat) : ∀ b, a ≤ b → ∃ r, badTo Q l b = badTo Q l a ++ r := by
  intro b
  induction b with
  | zero => intro h; exact ⟨[], by rw [show a = 0 by omega]; simp⟩
  | succ b ih =>
    intro h
    rcases Nat.lt_or_ge b a with h1 | h1
    · exact ⟨[], by rw [show a = b + 1 by omega]; simp⟩
    · obtain ⟨r, hr⟩ := ih h1
      refine ⟨r ++ (match l[b]? with
        | some c => if bad1 Q (sinceF l b) c then [c.id] else []
        | none => []), ?_⟩
      conv => lhs; unfold badTo
      rw [hr, List.append_assoc]
      rfl
/-- a cut slice reads as its beginning -/
theorem Sl.cut {α : Type} {f : α → List Value} {w : World} {A : Option Addr} {l : List α} (h : Sl w A (l.flatMap f)) (k : Nat) : Sl w A ((l.take k).flatMap f) := by
  intro hne
  have hne2 : l.flatMap f ≠ [] := by
    intro e
    apply hne
    rw [List.flatMap_eq_nil_iff] at e ⊢
    exact fun x hx => e x (List.mem_of_mem_take hx)
  obtain ⟨b, off, rfl, hc⟩ := h hne2
  refine ⟨b, off, rfl, fun j u hu => hc j u ?_⟩
  have e : l.flatMap f = (l.take k).flatMap f ++ (l.drop k).flatMap f := by
    rw [← List.flatMap_append, List.take_append_drop]
  rw [e, List.getElem?_append_left (List.getElem?_eq_some_iff.1 hu).1]
  exact hu
end Go.Proofs.Ytmblkejgfoffaaa
