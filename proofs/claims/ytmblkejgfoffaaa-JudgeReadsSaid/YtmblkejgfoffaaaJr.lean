/- The law JudgeReads: its plain laws. No walk. -/
import Derived.Test.YtmblkejgfoffaaaJp
namespace Go.Proofs.Ytmblkejgfoffaaa
open Go.RowKit
/-- the value that the statement alone gives -/
def spec : ByteArray := ⟨#[97, 32, 118, 97, 108, 117, 101, 32, 111, 102, 32, 116, 104, 105, 115, 32, 115, 116, 97, 116, 101, 109, 101, 110, 116, 32, 97, 108, 111, 110, 101]⟩
/-- a read at a position -/
def rd (Q : List St) (key : ByteArray) (t : Nat) (p : Nat) : Cl := ⟨(t : Int) + 1, 1, key, 0, p, p, true, 0, 0, ⟨#[]⟩, 0, (atS Q p key).1, (atS Q p key).2⟩
/-- the position that a number means -/
def pz (m : Nat) (z : Int) : Nat := ((z.tmod ((m : Int) + 1) + (m : Int) + 1) % ((m : Int) + 1)).toNat
theorem tmB (m : Nat) (z : Int) : -((m : Int) + 1) < z.tmod ((m : Int) + 1) ∧ z.tmod ((m : Int) + 1) < (m : Int) + 1 := by
  have h1 := Int.tmod_lt_of_pos z (b := (m : Int) + 1) (by omega)
  have h2 := Int.lt_tmod_of_pos z (b := (m : Int) + 1) (by omega)
  omega
theorem pz_le (m : Nat) (z : Int) : pz m z ≤ m := by
  unfold pz
  have h1 := Int.emod_lt_of_pos (z.tmod ((m : Int) + 1) + (m : Int) + 1) (b := (m : Int) + 1) (by omega)
  have h2 := Int.emod_nonneg (z.tmod ((m : Int) + 1) + (m : Int) + 1) (b := (m : Int) + 1) (by omega)
  omega
theorem pz_eq (m : Nat) (z : Int) : (z.tmod ((m : Int) + 1) + (m : Int) + 1) % ((m : Int) + 1) = (pz m z : Int) := by
  unfold pz
  have h2 := Int.emod_nonneg (z.tmod ((m : Int) + 1) + (m : Int) + 1) (b := (m : Int) + 1) (by omega)
  omega
def rds (Q : List St) (key : ByteArray) (m : Nat) (zs : List Int) (j : Nat) : List Cl := (zs.take j).mapIdx fun t z => rd Q key t (pz m z)
theorem rds_succ (Q : List St) (key : ByteArray) (m : Nat) (zs : List Int) (j : Nat) (h : j < zs.length) : rds Q key m zs (j + 1) = rds Q key m zs j ++ [rd Q key j (pz m zs[j])] := by
  unfold rds
  rw [List.take_succ_eq_append_getElem h, List.mapIdx_append]
  simp only [List.mapIdx_singleton, List.length_take]
  rw [Nat.min_eq_left (by omega)]
  simp
theorem rds_length (Q : List St) (key : ByteArray) (m : Nat) (zs : List Int) (j : Nat) (h : j ≤ zs.length) : (rds Q key m zs j).length = j := by
  unfold rds
  rw [List.length_mapIdx, List.length_take]; omega
theorem since_none (x : Cl) : ∀ (l : List Cl) (n : Int), (∀ c ∈ l, c.op = 1) → l.foldl (stepN x) n = n := by
  intro l
  induction l with
  | nil => intro n _; rfl
  | cons c l ih =>
    intro n h
    rw [List.foldl_cons]
    have h1 : stepN x n c = n := by
      unfold stepN killed
      rw [h c (by simp)]
      rfl
    rw [h1]
    exact ih n (fun c' hc => h c' (by simp [hc]))
theorem atS_norm (Q : List St) (h : ∀ s ∈ Q, norm s = s) (k : ByteArray) : ∀ p, (atS Q p k).2 = false → (atS Q p k).1 = ⟨#[]⟩ := by
  intro p
  induction p with
  | zero => intro _; rfl
  | succ p ih =>
    unfold atS
    cases hx : Q[p]? with
    | none => exact ih
    | some s =>
      simp only
      split
      · intro h2
        have hs := h s (List.mem_of_getElem? hx)
        simp only at h2 ⊢
        rw [← hs]
        unfold norm
        simp only [h2]
        rfl
      · exact ih
theorem val_rd (Q : List St) (h : ∀ s ∈ Q, norm s = s) (key : ByteArray) (t p : Nat) : val1 (rd Q key t p) = (atS Q p key).1 := by
  unfold val1 rd
  simp only
  cases hh : (atS Q p key).2 with
  | true => rfl
  | false => rw [atS_norm Q h key p hh]; rfl
theorem rds_right (Q : List St) (h : ∀ s ∈ Q, norm s = s) (key : ByteArray) (zs : List Int) (j : Nat) (hj : j ≤ zs.length) : ∀ k, k ≤ j → badTo Q (rds Q key Q.length zs j) k = [] := by
  intro k
  induction k with
  | zero => intro _; rfl
  | succ k ih =>
    intro hk
    have hl := rds_length Q key Q.length zs j hj
    rw [badTo_succ _ _ _ (by omega), ih (by omega), List.nil_append, if_neg]
    have hc : ∃ p, p ≤ Q.length ∧ (rds Q key Q.length zs j)[k]'(by omega) = rd Q key k p := by
      unfold rds
      rw [List.getElem_mapIdx]
      exact ⟨_, pz_le _ _, rfl⟩
    obtain ⟨p, hp, hc⟩ := hc
    rw [hc]
    have hs : sinceF (rds Q key Q.length zs j) k = 0 := by
      unfold sinceF
      rw [List.getElem?_eq_getElem (by omega)]
      refine since_none _ _ 0 (fun c hc => ?_)
      have := List.mem_of_mem_take hc
      unfold rds at this
      obtain ⟨i, hi, he⟩ := List.mem_mapIdx.1 this
      rw [← he]
      rfl
    rw [hs]
    have hh : heldB Q (rd Q key k p).key (val1 (rd Q key k p)) (rd Q key k p).has 0 (rd Q key k p).to = true := by
      rw [heldB_iff, val_rd Q h]
      exact ⟨p, by omega, by omega, by show (p : Int) ≤ (p : Int); omega, hp, rfl⟩
    unfold bad1
    rw [hh]
    simp
def killC (key : ByteArray) (n : Int) : Cl := ⟨50, 2, key, 0, n, n, true, 0, 0, ⟨#[]⟩, 0, ⟨#[]⟩, false⟩
def getC (key : ByteArray) (n : Int) (v : ByteArray) (ok : Bool) : Cl := ⟨51, 1, key, 0, n, n, true, 0, 0, ⟨#[]⟩, 0, v, ok⟩
theorem since_kill (key : ByteArray) (m : Nat) (v : ByteArray) (ok : Bool) : sinceF [killC key ((m : Int) + 1), getC key ((m : Int) + 1) v ok] 1 = (m : Int) + 1 := by
  unfold sinceF
  simp only [List.getElem?_cons_succ, List.getElem?_cons_zero]
  show sinceN [killC key ((m : Int) + 1)] (getC key ((m : Int) + 1) v ok) = _
  unfold sinceN
  rw [List.foldl_cons, List.foldl_nil]
  have hk : killed (killC key ((m : Int) + 1)) (getC key ((m : Int) + 1) v ok) = true := by
    unfold killed killC getC
    simp
  unfold stepN
  rw [hk, if_pos rfl]
  show max 0 ((m : Int) + 1) = _
  omega
theorem get_right (Q : List St) (h : ∀ s ∈ Q, norm s = s) (key sp : ByteArray) : badTo (Q ++ [⟨key, sp, true⟩]) [getC key ((Q.length : Int) + 1) (atS Q Q.length key).1 (atS Q Q.length key).2] 1 = [] := by
  rw [badTo_succ _ _ _ (by simp)]
  show [] ++ _ = []
  rw [List.nil_append, if_neg]
  have hv : val1 (getC key ((Q.length : Int) + 1) (atS Q Q.length key).1 (atS Q Q.length key).2) = (atS Q Q.length key).1 := by
    unfold val1 getC
    simp only
    cases hh : (atS Q Q.length key).2 with
    | true => rfl
    | false => rw [atS_norm Q h key _ hh]; rfl
  have hs : sinceF [getC key ((Q.length : Int) + 1) (atS Q Q.length key).1 (atS Q Q.length key).2] 0 = 0 := rfl
  rw [hs]
  simp only [List.getElem_cons_zero]
  unfold bad1
  have hh : heldB (Q ++ [⟨key, sp, true⟩]) (getC key ((Q.length : Int) + 1) (atS Q Q.length key).1 (atS Q Q.length key).2).key (val1 (getC key ((Q.length : Int) + 1) (atS Q Q.length key).1 (atS Q Q.length key).2)) (getC key ((Q.length : Int) + 1) (atS Q Q.length key).1 (atS Q Q.length key).2).has 0 (getC key ((Q.length : Int) + 1) (atS Q Q.length key).1 (atS Q Q.length key).2).to = true := by
    rw [heldB_iff, hv]
    refine ⟨Q.length, by omega, by omega, by show (Q.length : Int) ≤ (Q.length : Int) + 1; omega, by simp, ?_⟩
    show atS (Q ++ [⟨key, sp, true⟩]) Q.length key = ((atS Q Q.length key).1, (atS Q Q.length key).2)
    rw [atS_snoc_le Q _ key _ (Nat.le_refl _)]
  rw [hh]
  simp
theorem kill_wrong (Q : List St) (key sp : ByteArray) (hne : (atS Q Q.length key).1 ≠ sp) : badTo (Q ++ [⟨key, sp, true⟩]) [killC key ((Q.length : Int) + 1), getC key ((Q.length : Int) + 1) (atS Q Q.length key).1 (atS Q Q.length key).2] 2 ≠ [] := by
  rw [badTo_succ _ _ _ (by simp), since_kill]
  have hg : ([killC key ((Q.length : Int) + 1), getC key ((Q.length : Int) + 1) (atS Q Q.length key).1 (atS Q Q.length key).2])[1]'(by simp) = getC key ((Q.length : Int) + 1) (atS Q Q.length key).1 (atS Q Q.length key).2 := rfl
  rw [hg]
  have hb : bad1 (Q ++ [⟨key, sp, true⟩]) ((Q.length : Int) + 1) (getC key ((Q.length : Int) + 1) (atS Q Q.length key).1 (atS Q Q.length key).2) = true := by
    unfold bad1
    have hh : heldB (Q ++ [⟨key, sp, true⟩]) (getC key ((Q.length : Int) + 1) (atS Q Q.length key).1 (atS Q Q.length key).2).key (val1 (getC key ((Q.length : Int) + 1) (atS Q Q.length key).1 (atS Q Q.length key).2)) (getC key ((Q.length : Int) + 1) (atS Q Q.length key).1 (atS Q Q.length key).2).has ((Q.length : Int) + 1) (getC key ((Q.length : Int) + 1) (atS Q Q.length key).1 (atS Q Q.length key).2).to = false := by
      cases hx : heldB (Q ++ [⟨key, sp, true⟩]) (getC key ((Q.length : Int) + 1) (atS Q Q.length key).1 (atS Q Q.length key).2).key (val1 (getC key ((Q.length : Int) + 1) (atS Q Q.length key).1 (atS Q Q.length key).2)) (getC key ((Q.length : Int) + 1) (atS Q Q.length key).1 (atS Q Q.length key).2).has ((Q.length : Int) + 1) (getC key ((Q.length : Int) + 1) (atS Q Q.length key).1 (atS Q Q.length key).2).to with
      | false => rfl
      | true =>
        exfalso
        rw [heldB_iff] at hx
        obtain ⟨p, h0, h1, h2, h3, h4⟩ := hx
        have h2' : (p : Int) ≤ (Q.length : Int) + 1 := h2
        obtain rfl : p = Q.length + 1 := by omega
        have h4' : atS (Q ++ [⟨key, sp, true⟩]) (Q.length + 1) key = (val1 (getC key ((Q.length : Int) + 1) (atS Q Q.length key).1 (atS Q Q.length key).2), (atS Q Q.length key).2) := h4
        rw [atS_snoc, if_pos rfl] at h4'
        have e1 := congrArg Prod.fst h4'
        have e2 := congrArg Prod.snd h4'
        simp only at e1 e2
        unfold val1 getC at e1
        simp only [← e2] at e1
        exact hne e1.symm
    rw [hh]
    rfl
  rw [hb, if_pos rfl]
  simp
end Go.Proofs.Ytmblkejgfoffaaa
