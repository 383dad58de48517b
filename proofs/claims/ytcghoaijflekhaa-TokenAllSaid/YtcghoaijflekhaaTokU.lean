/- Walks of the rights' table, second part: len, use. Conditions: lengths. -/
import Derived.Test.YtcghoaijflekhaaTokW
namespace Go.Proofs.Ytcghoaijflekhaa
open Go.RowKit
theorem Tok.drewN {w : World} {base T M : Nat} {L : List TkS} {bl : Nat → Nat} (h : Tok w base T M L bl) (n : Nat) : Tok (w.drewN n) base T M L bl := ⟨h.hT, h.hM, h.blk, h.map, h.one, h.each⟩
theorem below_drewN' {B : Nat} {w w' : World} (h : Below B w w') (n : Nat) : Below B w (w'.drewN n) := ⟨h.os, h.tape, h.output, h.size, h.block⟩
def cntLeft (L : List TkS) : Nat := ((List.range L.length).filter (left L)).length
set_option maxHeartbeats 1000000 in
theorem len_any (w : World) (base T M : Nat) (L : List TkS) (bl : Nat → Nat) (h : Tok w base T M L bl) :
    Calls Try.prog 12 #[.pointer (some ⟨T, 0, none⟩)] w fun e w' => e = .returned (.int .i64 (cntLeft L : Int)) ∧ w = w' := by
  have c1 : w.cell? ⟨T, 1, none⟩ = some (.map (some M)) := h.blk.cell 1
  have hlen := fun ty => run_len_at (P := Try.prog) (ty := ty) Try.underlying47 h.map
  have e : (entsF (left L) L.length bl).length = cntLeft L := by unfold entsF cntLeft; rw [List.length_map]
  rw [e] at hlen
  clear e
  go_enter Try.func12, Try.ntmps12
  go_wp2
  go_ret
  exact ⟨rfl, rfl⟩
theorem zero53 (w : World) : (zeroValue 53).run Try.prog w = .ok (.pointer none) w := by kernel_rfl
set_option maxHeartbeats 1000000 in
theorem use_no (w : World) (base T M : Nat) (L : List TkS) (bl : Nat → Nat) (id : Int) (h : Tok w base T M L bl) (hno : ∀ i, i < L.length → left L i = true → id ≠ (i : Int) + 1) :
    Calls Try.prog 11 #[.pointer (some ⟨T, 0, none⟩), .int .i64 id] w fun e w' => e = .returned (.tuple #[.string ByteArray.empty, .bool false]) ∧ w = w' := by
  have c1 : w.cell? ⟨T, 1, none⟩ = some (.map (some M)) := h.blk.cell 1
  have hlk := run_lookup_at (P := Try.prog) keysI Try.underlying47 h.map id (.pointer none) (zero53 w) false
  rw [posOf_entsF_out _ _ _ _ hno] at hlk
  unfold mkI at hlk
  simp only [Bool.false_eq_true, if_false] at hlk
  go_enter Try.func11, Try.ntmps11
  go_wp2
  go_ret2
  exact ⟨rfl, rfl⟩
set_option maxHeartbeats 1000000 in
theorem use_yes (w : World) (base T M : Nat) (L : List TkS) (bl : Nat → Nat) (i : Nat) (h : Tok w base T M L bl) (hi : i < L.length) (hu : L[i].used = false) :
    Calls Try.prog 11 #[.pointer (some ⟨T, 0, none⟩), .int .i64 ((i : Int) + 1)] w fun e w' => e = .returned (.tuple #[.string L[i].key, .bool L[i].good]) ∧ Tok w' base T M (L.set i ⟨L[i].key, L[i].good, true⟩) bl ∧ Below base w w' := by
  have c1 : w.cell? ⟨T, 1, none⟩ = some (.map (some M)) := h.blk.cell 1
  have hl : left L i = true := by unfold left; rw [List.getElem?_eq_getElem hi]; simp [hu]
  obtain ⟨m, hpos⟩ := posOf_entsF_in (left L) L.length bl i hi hl 0
  have hlk := run_lookup_at (P := Try.prog) keysI Try.underlying47 h.map ((i : Int) + 1) (.pointer none) (zero53 w) false
  rw [hpos] at hlk
  unfold mkI at hlk
  simp only [Bool.false_eq_true, if_false] at hlk
  obtain ⟨w4, hdel, hmap4, hgr4, hsz4⟩ := run_del_at (P := Try.prog) keysI Try.underlying47 h.map ((i : Int) + 1) 0
  unfold mkI at hdel
  obtain ⟨hbase, hb⟩ := h.each i hi
  have hneM : ∀ j, (hj : j < L.length) → bl j ≠ M := fun j hj e => by
    have h1 := h.map
    have h3 := (h.each j hj).2
    unfold MapAt at h1
    unfold Blk at h3
    rw [e, h1] at h3
    cases h3
  have hTM : T ≠ M := fun e => by
    have h1 := h.map
    have h3 := h.blk
    unfold MapAt at h1
    unfold Blk at h3
    rw [e, h1] at h3
    cases h3
  have hb4 := hb.grown hgr4 (by simp; exact hneM i hi)
  have hk : w4.cell? ⟨bl i, 0, none⟩ = some (.string L[i].key) := hb4.cell 0
  have hg : w4.cell? ⟨bl i, 1, none⟩ = some (.bool L[i].good) := hb4.cell 1
  have HT4 : Hid (Tok w4 base T M (L.set i ⟨L[i].key, L[i].good, true⟩) bl) := by
    refine Lib.hid ⟨h.hT, h.hM, ?_, ?_, ?_, ?_⟩
    · rw [List.length_set]
      exact h.blk.grown hgr4 (by simp; exact hTM)
    · rw [del_entsF _ _ _ _ hi hl] at hmap4
      rw [List.length_set]
      have he : entsF (left (L.set i ⟨L[i].key, L[i].good, true⟩)) L.length bl = entsF (fun j => left L j && j != i) L.length bl := entsF_congr (fun j hj => by
        unfold left
        rw [List.getElem?_set]
        by_cases hij : i = j
        · subst hij; simp [hi]
        · have hne : (j != i) = true := by rw [bne_iff_ne]; omega
          simp [hij, hne]) (fun _ _ => rfl)
      rw [he]
      exact hmap4
    · intro a b ha hb' hab
      rw [List.length_set] at ha hb'
      exact h.one a b ha hb' hab
    · intro a ha
      rw [List.length_set] at ha
      obtain ⟨h2, h3⟩ := h.each a ha
      refine ⟨h2, ?_⟩
      have h5 := h3.grown hgr4 (by simp; exact hneM a ha)
      rw [List.getElem_set]
      split
      · rename_i hia; subst hia; exact h5
      · exact h5
  have HB4 : Hid (Below base w w4) := Lib.hid ((Below.refl base w).grown hgr4 (by have := h.hT; have := h.blk.lt; omega) (fun g hg => by cases hg; exact h.hM))
  clear hmap4 hgr4 hsz4 hb4 hb h
  generalize L[i].key = ky at hk HT4
  generalize L[i].good = gd at hg HT4
  go_enter Try.func11, Try.ntmps11
  go_wp2_with fail
  go_quiet (fail)
  go_wp2
  go_ret2
  exact ⟨rfl, HT4.out.drewN _, below_drewN' HB4.out _⟩
end Go.Proofs.Ytcghoaijflekhaa
