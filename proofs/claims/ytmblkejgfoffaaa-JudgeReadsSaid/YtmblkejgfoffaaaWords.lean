/- Words for memory: what is kept; rows; texts. Over any program. -/
import Derived.Test.YtmblkejgfoffaaaOpen2
import Derived.Test.YtmblkejgfoffaaaBlk
import Derived.Test.YtmblkejgfoffaaaMaps
import Derived.Test.YtmblkejgfoffaaaRegion
import Derived.Test.YtmblkejgfoffaaaAppend
import Derived.Lib.Hide
import Derived.Maps.AppendAt
import Derived.Deep.AppendLies
import Derived.Deep.QuietTactic
import Derived.BigQuiet
namespace Go.Proofs.Ytmblkejgfoffaaa
open Go.RowKit
theorem Done.ne {L : Nat → Bool} {i j : Nat} (h : j ≠ i) : Done L i j = L j := by unfold Done; rw [if_neg h]
theorem Done.le {L : Nat → Bool} {i j : Nat} (h : L j = true) : Done L i j = true := by
  unfold Done; split <;> first | rfl | exact h
theorem below_drewN {B : Nat} {w w' : World} (h : Below B w w') (n : Nat) : Below B w (w'.drewN n) := ⟨h.os, h.tape, h.output, h.size, h.block⟩
theorem grown_drewN {w w' : World} {row : Option Nat} (h : w.grownBy w' row) (n : Nat) : w.grownBy (w'.drewN n) row := ⟨h.os, h.tape, h.output, h.size, h.block⟩
theorem set_grown (w : World) (p : Addr) (u : Value) : w.grownBy (w.setCell p u) (some p.block) :=
  ⟨rfl, rfl, rfl, by simp [World.setCell], fun i _ hne => Below.heap_setCell w p u i (by rintro rfl; exact hne rfl)⟩
theorem own_far {w : World} {base : Nat} {e : TypeId} {size : Nat} {v : Value} {n : Nat} {xs : List Value} (h : w.ownsRow base e size v n xs) (p : Addr) (hp : v.ownBlock ≠ some p.block) (u : Value) : (w.setCell p u).ownsRow base e size v n xs :=
  h.kept (set_grown w p u) (.inr hp)
theorem setCell_size (w : World) (p : Addr) (u : Value) : (w.setCell p u).heap.size = w.heap.size := by simp [World.setCell]
theorem own_below {w w' : World} {base : Nat} {e : TypeId} {size : Nat} {v : Value} {n : Nat} {xs : List Value} (h : w.ownsRow base e size v n xs) (hb : Below w.heap.size w w') : w'.ownsRow base e size v n xs := by
  refine ⟨h.1, ?_⟩
  rcases h.2 with h1 | ⟨g, cap, cur, h1, h2, h3, h4⟩
  · exact .inl h1
  · exact .inr ⟨g, cap, cur, h1, h2, (hb.block g (Array.getElem?_eq_some_iff.1 h3).1).trans h3, h4⟩
theorem bbeq (a b : ByteArray) : (a == b) = decide (a = b) := by
  cases a with | mk x => cases b with | mk y => 
    show (x == y) = _
    rw [Bool.eq_iff_iff]; simp
theorem toList_inj {a b : ByteArray} (h : a.toList = b.toList) : a = b := by
  rw [ByteArray.toList_eq, ByteArray.toList_eq] at h
  cases a; cases b
  simp at h
  exact congrArg _ h
theorem one_of {cs : List Value} {k C : Nat} (hl : cs.length = C) (hk : k < C) : ∃ v, (cs.drop k).take 1 = [v] ∧ cs[k]? = some v := by
  refine ⟨cs[k]'(by omega), ?_, List.getElem?_eq_getElem (by omega)⟩
  rw [List.drop_eq_getElem_cons (by omega)]
  rfl
/-- a row of the call's own, its elements' cells one behind the other -/
theorem own_flat {α : Type} {f : α → List Value} {C : Nat} {w : World} {base : Nat} {e : TypeId} {v : Value} {os : List α} (h : w.ownsRow base e C v os.length (os.flatMap f)) :
    ∃ A c, v = .slice A os.length c ∧ os.length ≤ c ∧ c ≤ maxLen ∧ Sl w A (os.flatMap f) ∧ (∀ a, A = some a → base ≤ a.block ∧ a.block < w.heap.size) := by
  rcases h.2 with ⟨h1, h2⟩ | ⟨g, cap, cur, h1, h2, h3, h4, h5, _⟩
  · obtain rfl : os = [] := List.eq_nil_of_length_eq_zero h2
    subst h1
    exact ⟨none, 0, rfl, Nat.le_refl _, Nat.zero_le _, Sl.nil, fun a e => by cases e⟩
  · refine ⟨_, cap, h1, h4, h5, Sl.of_cells (h.cells (g := g) (by rw [h1]; rfl)), fun a e => ?_⟩
    cases e
    exact ⟨h2, (Array.getElem?_eq_some_iff.1 h3).1⟩
end Go.Proofs.Ytmblkejgfoffaaa
