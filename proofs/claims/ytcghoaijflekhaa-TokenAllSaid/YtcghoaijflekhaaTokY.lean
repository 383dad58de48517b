/- Walks of the rights' table, fifth part: Use and Kill with what they leave alone. Conditions: lengths. -/
import Derived.Test.YtcghoaijflekhaaTokO
namespace Go.Proofs.Ytcghoaijflekhaa
open Go.RowKit
theorem grown_drewN {w w' : World} {row : Option Nat} (h : w.grownBy w' row) (n : Nat) : w.grownBy (w'.drewN n) row := ⟨h.os, h.tape, h.output, h.size, h.block⟩
set_option maxHeartbeats 1000000 in
theorem use_yes_g (w : World) (base T M : Nat) (L : List TkS) (bl : Nat → Nat) (i : Nat) (h : Tok w base T M L bl) (hi : i < L.length) (hu : L[i].used = false) :
    Calls Try.prog 11 #[.pointer (some ⟨T, 0, none⟩), .int .i64 ((i : Int) + 1)] w fun e w' => e = .returned (.tuple #[.string L[i].key, .bool L[i].good]) ∧ Tok w' base T M (L.set i ⟨L[i].key, L[i].good, true⟩) bl ∧ Below base w w' ∧ w.grownBy w' (some M) := by
  have c1 : w.cell? ⟨T, 1, none⟩ = some (.map (some M)) := h.blk.cell 1
  have hl : left L i = true := by unfold left; rw [List.getElem?_eq_getElem hi]; simp [hu]
  obtain ⟨m, hpos⟩ := posOf_entsF_in (left L) L.length bl i hi hl 0
  have hlk := run_lookup_at (P := Try.prog) keysI Try.underlying47 h.map ((i : Int) + 1) (.pointer none) (zero53 w) false
  rw [hpos] at hlk
  unfold mkI at hlk
  simp only [Bool.false_eq_true, if_false] at hlk
  obtain ⟨w4, hdel, hmap4, hgr4, hsz4⟩ := run_del_at (P := Try.prog) keysI Try.underlying47 h.map ((i : Int) + 1) 0
  unfold mkI at hdel
  obtain ⟨hbase, hb⟩ := h.each i hi
  have hneM : ∀ j, (hj : j < L.length) → bl j ≠ M := fun j hj e => by
    have h1 := h.map
    have h3 := (h.each j hj).2
    unfold MapAt at h1
    unfold Blk at h3
    rw [e, h1] at h3
    cases h3
  have hTM : T ≠ M := fun e => by
    have h1 := h.map
    have h3 := h.blk
    unfold MapAt at h1
    unfold Blk at h3
    rw [e, h1] at h3
    cases h3
  have hb4 := hb.grown hgr4 (by simp; exact hneM i hi)
  have hk : w4.cell? ⟨bl i, 0, none⟩ = some (.string L[i].key) := hb4.cell 0
  have hg : w4.cell? ⟨bl i, 1, none⟩ = some (.bool L[i].good) := hb4.cell 1
  have HT4 : Hid (Tok w4 base T M (L.set i ⟨L[i].key, L[i].good, true⟩) bl) := by
    refine Lib.hid ⟨h.hT, h.hM, ?_, ?_, ?_, ?_⟩
    · rw [List.length_set]
      exact h.blk.grown hgr4 (by simp; exact hTM)
    · rw [del_entsF _ _ _ _ hi hl] at hmap4
      rw [List.length_set]
      have he : entsF (left (L.set i ⟨L[i].key, L[i].good, true⟩)) L.length bl = entsF (fun j => left L j && j != i) L.length bl := entsF_congr (fun j hj => by
        unfold left
        rw [List.getElem?_set]
        by_cases hij : i = j
        · subst hij; simp [hi]
        · have hne : (j != i) = true := by rw [bne_iff_ne]; omega
          simp [hij, hne]) (fun _ _ => rfl)
      rw [he]
      exact hmap4
    · intro a b ha hb' hab
      rw [List.length_set] at ha hb'
      exact h.one a b ha hb' hab
    · intro a ha
      rw [List.length_set] at ha
      obtain ⟨h2, h3⟩ := h.each a ha
      refine ⟨h2, ?_⟩
      have h5 := h3.grown hgr4 (by simp; exact hneM a ha)
      rw [List.getElem_set]
      split
      · rename_i hia; subst hia; exact h5
      · exact h5
  have HB4 : Hid (Below base w w4) := Lib.hid ((Below.refl base w).grown hgr4 (by have := h.hT; have := h.blk.lt; omega) (fun g hg => by cases hg; exact h.hM))
  have HG4 := Lib.hid hgr4
  clear hmap4 hgr4 hsz4 hb4 hb h
  generalize L[i].key = ky at hk HT4
  generalize L[i].good = gd at hg HT4
  go_enter Try.func11, Try.ntmps11
  go_wp2_with fail
  go_quiet (fail)
  go_wp2
  go_ret2
  exact ⟨rfl, HT4.out.drewN _, below_drewN' HB4.out _, grown_drewN HG4.out _⟩
set_option maxHeartbeats 1000000 in
theorem kills_ap (w : World) (base T M : Nat) (L : List TkS) (bl : Nat → Nat) (h : Tok w base T M L bl) (hlen : L.length < 1099511627776) (A : Option Addr) (n c : Nat) (ss : List ByteArray) (hr : Sl w A (ss.map .string)) (hn : ss.length = n) (hm : n ≤ 9223372036854775807)
    (hA : ∀ a, A = some a → a.block < w.heap.size ∧ ∀ j, j < L.length → bl j ≠ a.block) :
    Calls Try.prog 9 #[.pointer (some ⟨T, 0, none⟩), .slice A n c] w fun e w' => e = .returned (.int .i64 ((L.filter (hit fun s => inB s ss)).length : Int)) ∧ Tok w' base T M (L.map (hurt1 fun s => inB s ss)) bl ∧ Below base w w' ∧ Apart bl L.length w w' := by
  have hb := h.bl_ne
  have hcell : (w.alloc (.cells #[.slice A n c] 34)).cell? ⟨w.heap.size, 0, none⟩ = some (.slice A n c) := (Blk.new w 34 #[.slice A n c]).cell 0
  have HX := Lib.hid (kill_any (w.alloc (.cells #[.slice A n c] 34)) base T M L bl (h.alloc _) hlen (fun s => inB s ss) ⟨w.heap.size, 0, none⟩ (fun wr s ha => by
    have hc : wr.cell? ⟨w.heap.size, 0, none⟩ = some (.slice A n c) := by
      have := ha w.heap.size (by simp) (fun j hj e => by have := (hb.2 j hj).2.2; omega)
      unfold World.cell?
      unfold World.cell? at hcell
      rw [this]
      exact hcell
    have hs : Sl wr A (ss.map .string) := by
      intro hne
      obtain ⟨b, off, rfl, hcs⟩ := hr hne
      refine ⟨b, off, rfl, fun j u hu => ?_⟩
      obtain ⟨h1, h2⟩ := hA _ rfl
      have := ha b (by simp; exact Nat.lt_succ_of_lt h1) (fun j hj => h2 j hj)
      have h0 := hcs j u hu
      unfold World.cell? at h0 ⊢
      rw [this, Below.heap_alloc _ _ _ h1]
      exact h0
    exact (killed_any ⟨w.heap.size, 0, none⟩ A n c ss s wr hc hs hn hm).mono (by
      rintro e w' ⟨b, rfl, hb2, rfl⟩
      refine ⟨?_, rfl⟩
      congr 2
      rw [Bool.eq_iff_iff, hb2, inB_iff])))
  have hbase := h.above
  clear h hr hb hA
  go_enter Try.func9, Try.ntmps9
  go_wp2_with fail
  refine HX.out.mono ?_
  rintro e w' ⟨rfl, h1, h2, h3⟩
  have H1 := Lib.hid h1
  have H2 := Lib.hid (((Below.refl base w).alloc hbase (.cells #[.slice A n c] 34)).trans h2)
  have H3 : Hid (Apart bl L.length w w') := Lib.hid (fun g hg hne => (h3 g (by simp; omega) hne).trans (Below.heap_alloc _ _ _ hg))
  clear h1
  go_wp2
  go_ret
  exact ⟨rfl, H1.out, H2.out, H3.out⟩
end Go.Proofs.Ytcghoaijflekhaa
