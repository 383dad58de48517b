/- A law on regions that draw their order: what each operation keeps of one condition on the set of operations that are done, whatever the order. No condition on the program but that its orders are mixed. -/
import Derived.WalkKit
namespace Go.Proofs.Ytmblkejgfoffaaa
open Go.RowKit
section
variable {P : Program} {ops : Array Oper} {Q : Exit → Act → World → Prop}

/-- L with i -/
def Done (L : Nat → Bool) (i : Nat) : Nat → Bool := fun j => if j = i then true else L j

/-- what one operation owes -/
def StepOk (P : Program) (ops : Array Oper) (Q : Exit → Act → World → Prop) (G : (Nat → Bool) → Act → World → Prop) (i : Nat) (o : Oper) : Prop :=
  ∀ (L : Nat → Bool) (a : Act) (w : World), L i = false → (∀ e ∈ o.after.toList, Region.binds .any e = true → L e.on = true) → G L a w →
    ∀ K : Act → World → Prop, (∀ a w, G (Done L i) a w → K a w) → if Region.wanted o (yielded ops a.tmps) then o.wp P a w K Q else K (a.put o.dst undef) w

def StepAll (P : Program) (ops : Array Oper) (Q : Exit → Act → World → Prop) (G : (Nat → Bool) → Act → World → Prop) : Nat → List Oper → Prop
  | _, [] => True
  | i, o :: l => StepOk P ops Q G i o ∧ StepAll P ops Q G (i + 1) l

theorem StepAll.at_ {G : (Nat → Bool) → Act → World → Prop} : ∀ (l : List Oper) (k : Nat), StepAll P ops Q G k l → ∀ i o, l[i]? = some o → StepOk P ops Q G (k + i) o := by
  intro l
  induction l with
  | nil => intro k _ i o h; simp at h
  | cons x l ih =>
    intro k h i o hi
    cases i with
    | zero => simp only [List.getElem?_cons_zero, Option.some.injEq] at hi; subst hi; exact h.1
    | succ i =>
      have := ih (k + 1) h.2 i o (by simpa using hi)
      rwa [show k + 1 + i = k + (i + 1) by omega] at this

/-- each operation waits for earlier ones alone -/
def edgesOk (ops : Array Oper) : Bool := (List.range ops.size).all fun i => match ops[i]? with
  | none => true
  | some o => o.after.toList.all fun e => decide (e.on < i) || !Region.binds .any e

theorem wpAny_inv (G : (Nat → Bool) → Act → World → Prop) (he : edgesOk ops = true) (hs : StepAll P ops Q G 0 ops.toList) (hq : ∀ L a w, (∀ i, i < ops.size → L i = true) → G L a w → Q .normal a w) :
    ∀ (fuel : Nat) (listed : Array Bool) (a : Act) (w : World), listed.size = ops.size → (List.range ops.size).countP (fun i => !listed.getD i false) ≤ fuel → G (fun i => listed.getD i false) a w → wpAny P .any ops Q fuel listed a w := by
  have edge : ∀ i o, ops[i]? = some o → ∀ e ∈ o.after.toList, Region.binds .any e = true → e.on < i := by
    intro i o hi e hm hb
    have hlt : i < ops.size := (Array.getElem?_eq_some_iff.1 hi).1
    unfold edgesOk at he
    rw [List.all_eq_true] at he
    have := he i (List.mem_range.2 hlt)
    rw [hi] at this
    simp only [List.all_eq_true, Bool.or_eq_true, Bool.not_eq_true', decide_eq_true_eq] at this
    exact (this e hm).resolve_right (by simp [hb])
  have none_left : ∀ listed : Array Bool, listed.size = ops.size → Region.ready .any ops listed = [] → ∀ i, i < ops.size → listed.getD i false = true := by
    intro listed hsz hr i
    induction i using Nat.strongRecOn with
    | _ i ih =>
      intro hi
      cases hl : listed.getD i false with
      | true => rfl
      | false =>
        exfalso
        have hm : i ∈ Region.ready .any ops listed := by
          refine mem_ready.2 ⟨?_, ops[i], Array.getElem?_eq_getElem hi, ?_⟩
          · have hi' : i < listed.size := by omega
            simp only [Array.getD_eq_getD_getElem?, Array.getElem?_eq_getElem hi', Option.getD_some] at hl ⊢
            exact hl
          · intro e hm hb
            have := edge i ops[i] (Array.getElem?_eq_getElem hi) e (by simpa using hm) hb
            exact ih e.on this (by omega)
        rw [hr] at hm
        cases hm
  intro fuel
  induction fuel with
  | zero =>
    intro listed a w hsz hc hG
    have all : ∀ i, i < ops.size → listed.getD i false = true := by
      intro i hi
      have h0 := List.countP_eq_zero.1 (Nat.le_zero.1 hc) i (List.mem_range.2 hi)
      simpa using h0
    refine ⟨?_, hq _ a w all hG⟩
    cases hr : Region.ready .any ops listed with
    | nil => rfl
    | cons x l =>
      exfalso
      have hm : x ∈ Region.ready .any ops listed := by rw [hr]; simp
      obtain ⟨h1, o, ho, _⟩ := mem_ready.1 hm
      have hlt : x < ops.size := (Array.getElem?_eq_some_iff.1 ho).1
      have h2 := all x hlt
      have hi' : x < listed.size := by omega
      simp only [Array.getD_eq_getD_getElem?, Array.getElem?_eq_getElem hi', Option.getD_some] at h1 h2
      rw [h1] at h2; cases h2
  | succ fuel ih =>
    intro listed a w hsz hc hG
    refine ⟨fun hr => hq _ a w (none_left listed hsz hr) hG, fun i hi => ?_⟩
    obtain ⟨h1, o, ho, hall⟩ := mem_ready.1 hi
    have hlt : i < ops.size := (Array.getElem?_eq_some_iff.1 ho).1
    have hi' : i < listed.size := by omega
    have h1' : listed.getD i false = false := by
      simp only [Array.getD_eq_getD_getElem?, Array.getElem?_eq_getElem hi', Option.getD_some] at h1 ⊢
      exact h1
    have hstep := StepAll.at_ ops.toList 0 hs i o (by simpa using ho)
    rw [Nat.zero_add] at hstep
    have hd : ∀ e ∈ o.after.toList, Region.binds .any e = true → (fun j => listed.getD j false) e.on = true := fun e hm hb => hall e (by simpa using hm) hb
    have hnew : (fun j => (listed.setIfInBounds i true).getD j false) = Done (fun j => listed.getD j false) i := by
      funext j
      unfold Done
      by_cases hj : j = i
      · subst hj
        simp [hi']
      · simp only [hj, if_false]
        exact getD_set_ne false (Ne.symm hj)
    have hcount : (List.range ops.size).countP (fun j => !(listed.setIfInBounds i true).getD j false) ≤ fuel := by
      have key : ∀ l : List Nat, l.Nodup → i ∈ l → l.countP (fun j => !(listed.setIfInBounds i true).getD j false) + 1 ≤ l.countP (fun j => !listed.getD j false) := by
        intro l
        induction l with
        | nil => intro _ h; cases h
        | cons x l ihl =>
          intro hn hm
          rw [List.nodup_cons] at hn
          by_cases hx : x = i
          · subst hx
            have e : l.countP (fun j => !(listed.setIfInBounds x true).getD j false) = l.countP (fun j => !listed.getD j false) := by
              apply List.countP_congr
              intro j hj
              have : x ≠ j := fun h => hn.1 (h ▸ hj)
              rw [getD_set_ne false this]
            rw [List.countP_cons, List.countP_cons, e]
            have e1 : (listed.setIfInBounds x true).getD x false = true := by simp [hi']
            simp [e1, h1']
          · have := ihl hn.2 ((List.mem_cons.1 hm).resolve_left (Ne.symm hx))
            rw [List.countP_cons, List.countP_cons, getD_set_ne false (Ne.symm hx)]
            omega
      have := key (List.range ops.size) List.nodup_range (List.mem_range.2 hlt)
      omega
    have := hstep (fun j => listed.getD j false) a w h1' hd hG (wpAny P .any ops Q fuel (listed.setIfInBounds i true)) (fun a' w' hG' => ih _ a' w' (by simp [hsz]) hcount (by rw [hnew]; exact hG'))
    unfold wpOp
    simp only [ho]
    split
    · rename_i hw; rw [if_pos hw] at this; exact .inl this
    · rename_i hw; rw [if_neg hw] at this; exact this

theorem wp_region_inv {id : Nat} {l : List Oper} {a : Act} {w : World} (G : (Nat → Bool) → Act → World → Prop) (hm : P.follows .mixedOrders = true) (he : edgesOk l.toArray = true)
    (h0 : G (fun _ => false) a w.drew) (hs : StepAll P l.toArray Q G 0 l) (hq : ∀ L a w, (∀ i, i < l.length → L i = true) → G L a w → Q .normal a w) : (Code.region id l.toArray true).wp P Q a w := by
  refine wp_region_any hm ?_
  refine wpAny_inv G he (by simpa using hs) (by simpa using hq) _ _ a _ (by simp) ?_ ?_
  · exact Nat.le_trans List.countP_le_length (by simp)
  · have e : (fun i => (Array.replicate l.toArray.size false).getD i false) = fun _ => false := by
      funext i
      rw [Array.getD_eq_getD_getElem?]
      cases h : (Array.replicate l.toArray.size false)[i]? with
      | none => rfl
      | some b =>
        have := Array.getElem?_eq_some_iff.1 h
        obtain ⟨h1, h2⟩ := this
        rw [Array.getElem_replicate] at h2
        exact h2.symm
    rw [e]
    exact h0
end
end Go.Proofs.Ytmblkejgfoffaaa
