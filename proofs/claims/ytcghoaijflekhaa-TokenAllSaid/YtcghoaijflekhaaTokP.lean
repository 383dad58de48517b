/- Some rights are made bad: plain laws. No walk. -/
import Derived.Test.YtcghoaijflekhaaTokU
namespace Go.Proofs.Ytcghoaijflekhaa
open Go.RowKit
def hit (f : ByteArray → Bool) (t : TkS) : Bool := !t.used && t.good && f t.key
def hurt1 (f : ByteArray → Bool) (t : TkS) : TkS := if hit f t then ⟨t.key, false, t.used⟩ else t
def hurtIn (f : ByteArray → Bool) (S : List Nat) (L : List TkS) : List TkS := L.mapIdx fun i t => if i ∈ S then hurt1 f t else t
def hitAt (f : ByteArray → Bool) (L : List TkS) (i : Nat) : Bool := match L[i]? with
  | some t => hit f t
  | none => false
theorem hurtIn_length (f : ByteArray → Bool) (S : List Nat) (L : List TkS) : (hurtIn f S L).length = L.length := by simp [hurtIn]
theorem hurtIn_get (f : ByteArray → Bool) (S : List Nat) (L : List TkS) (i : Nat) (h : i < (hurtIn f S L).length) : (hurtIn f S L)[i] = if i ∈ S then hurt1 f (L[i]'(by rw [hurtIn_length] at h; exact h)) else L[i]'(by rw [hurtIn_length] at h; exact h) := by simp [hurtIn]
theorem hurt1_used (f : ByteArray → Bool) (t : TkS) : (hurt1 f t).used = t.used := by unfold hurt1; split <;> rfl
theorem hurt1_key (f : ByteArray → Bool) (t : TkS) : (hurt1 f t).key = t.key := by unfold hurt1; split <;> rfl
theorem left_hurtIn (f : ByteArray → Bool) (S : List Nat) (L : List TkS) (i : Nat) : left (hurtIn f S L) i = left L i := by
  unfold left hurtIn
  rw [List.getElem?_mapIdx]
  cases L[i]? with
  | none => rfl
  | some t =>
    simp only [Option.map_some]
    split
    · rw [hurt1_used]
    · rfl
theorem hurtIn_nil (f : ByteArray → Bool) (L : List TkS) : hurtIn f [] L = L := by
  apply List.ext_getElem
  · simp [hurtIn]
  · intro i h1 h2
    rw [hurtIn_get]; simp
theorem hurtIn_miss (f : ByteArray → Bool) (S : List Nat) (L : List TkS) (i : Nat) (h : hitAt f L i = false) : hurtIn f (S ++ [i]) L = hurtIn f S L := by
  apply List.ext_getElem
  · simp [hurtIn]
  · intro j h1 h2
    rw [hurtIn_get, hurtIn_get]
    have hj : j < L.length := by rw [hurtIn_length] at h2; exact h2
    by_cases hji : j = i
    · subst hji
      unfold hitAt at h
      rw [List.getElem?_eq_getElem hj] at h
      simp only at h
      have : hurt1 f L[j] = L[j] := by unfold hurt1; rw [h]; rfl
      simp [this]
    · simp [hji]
theorem hurtIn_hit (f : ByteArray → Bool) (S : List Nat) (L : List TkS) (i : Nat) (hi : i < L.length) (h : hit f L[i] = true) : hurtIn f (S ++ [i]) L = (hurtIn f S L).set i ⟨L[i].key, false, L[i].used⟩ := by
  apply List.ext_getElem
  · simp [hurtIn]
  · intro j h1 h2
    rw [hurtIn_get, List.getElem_set, hurtIn_get]
    by_cases hji : j = i
    · subst hji
      have : hurt1 f L[j] = ⟨L[j].key, false, L[j].used⟩ := by unfold hurt1; rw [h]; rfl
      simp [this]
    · simp [hji, Ne.symm hji]
theorem hits_all (f : ByteArray → Bool) (L : List TkS) : ((List.range L.length).filter (hitAt f L)).length = (L.filter (hit f)).length := by
  induction L with
  | nil => rfl
  | cons t L ih =>
    rw [List.length_cons, List.range_succ_eq_map, List.filter_cons, List.filter_map, List.filter_cons]
    have e : (hitAt f (t :: L) ∘ Nat.succ) = hitAt f L := by
      funext i
      unfold hitAt
      simp
    have e0 : hitAt f (t :: L) 0 = hit f t := by unfold hitAt; simp
    rw [e, e0]
    split <;> simp [ih]
theorem hurtIn_all (f : ByteArray → Bool) (S : List Nat) (L : List TkS) (h : ∀ i, i < L.length → left L i = true → i ∈ S) : hurtIn f S L = L.map (hurt1 f) := by
  apply List.ext_getElem
  · simp [hurtIn]
  · intro j h1 h2
    rw [hurtIn_get, List.getElem_map]
    have hj : j < L.length := by rw [hurtIn_length] at h1; exact h1
    by_cases hs : j ∈ S
    · simp [hs]
    · rw [if_neg hs]
      have hl : left L j = false := by
        cases hx : left L j
        · rfl
        · exact absurd (h j hj hx) hs
      unfold left at hl
      rw [List.getElem?_eq_getElem hj] at hl
      unfold hurt1 hit
      simp only [Bool.not_eq_false'] at hl
      simp [hl]
theorem hits_end (f : ByteArray → Bool) (S : List Nat) (L : List TkS) (hn : S.Nodup) (hb : ∀ i ∈ S, i < L.length) (h : ∀ i, i < L.length → left L i = true → i ∈ S) : (S.filter (hitAt f L)).length = (L.filter (hit f)).length := by
  rw [← hits_all]
  apply List.Perm.length_eq
  rw [List.perm_ext_iff_of_nodup (hn.sublist List.filter_sublist) (List.nodup_range.sublist List.filter_sublist)]
  intro a
  rw [List.mem_filter, List.mem_filter]
  constructor
  · rintro ⟨h1, h2⟩; exact ⟨by simpa using hb a h1, h2⟩
  · rintro ⟨h1, h2⟩
    have ha : a < L.length := by simpa using h1
    refine ⟨h a ha ?_, h2⟩
    unfold hitAt hit at h2
    unfold left
    rw [List.getElem?_eq_getElem ha] at h2 ⊢
    simp at h2 ⊢
    exact h2.1.1
end Go.Proofs.Ytcghoaijflekhaa
