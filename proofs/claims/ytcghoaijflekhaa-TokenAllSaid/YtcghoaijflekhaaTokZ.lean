/- The rights' table's contracts with what they keep. Conditions: lengths. -/
import Derived.Test.YtcghoaijflekhaaTokT
namespace Go.Proofs.Ytcghoaijflekhaa
open Go.RowKit
theorem keeps_of_apart {w w' : World} {base T M : Nat} {L : List TkS} {bl : Nat → Nat} (h : Tok w base T M L bl) (ha : Apart bl L.length w w') : Keeps notT w w' := fun g o h1 h2 => by
  refine (ha g (Array.getElem?_eq_some_iff.1 h1).1 (fun j hj e => ?_)).trans h1
  have := (h.each j hj).2
  unfold Blk at this
  rw [e, h1] at this
  cases this
  cases h2
theorem use_k (w : World) (base T M : Nat) (L : List TkS) (bl : Nat → Nat) (i : Nat) (h : Tok w base T M L bl) (hi : i < L.length) (hu : L[i].used = false) :
    Calls Try.prog 11 #[.pointer (some ⟨T, 0, none⟩), .int .i64 ((i : Int) + 1)] w fun e w' => e = .returned (.tuple #[.string L[i].key, .bool L[i].good]) ∧ Tok w' base T M (L.set i ⟨L[i].key, L[i].good, true⟩) bl ∧ Below base w w' ∧ Keeps notT w w' :=
  (use_yes_g w base T M L bl i h hi hu).mono fun _ _ ⟨h1, h2, h3, h4⟩ => ⟨h1, h2, h3, (Keeps.refl notT w).grown h4 (fun r o e ho => by
    cases e
    have hm := h.map
    unfold MapAt at hm
    rw [hm] at ho
    cases ho
    rfl)⟩
theorem kills_k (w : World) (base T M : Nat) (L : List TkS) (bl : Nat → Nat) (h : Tok w base T M L bl) (hlen : L.length < 1099511627776) (A : Option Addr) (n c : Nat) (ss : List ByteArray) (hr : Sl w A (ss.map .string)) (hn : ss.length = n) (hm : n ≤ 9223372036854775807)
    (hA : ∀ a, A = some a → ∃ cur, w.heap[a.block]? = some (.cells cur 9 (0, 0))) :
    Calls Try.prog 9 #[.pointer (some ⟨T, 0, none⟩), .slice A n c] w fun e w' => e = .returned (.int .i64 ((L.filter (hit fun s => inB s ss)).length : Int)) ∧ Tok w' base T M (L.map (hurt1 fun s => inB s ss)) bl ∧ Below base w w' ∧ Keeps notT w w' :=
  (kills_ap w base T M L bl h hlen A n c ss hr hn hm (fun a ha => by
    obtain ⟨cur, hc⟩ := hA a ha
    refine ⟨(Array.getElem?_eq_some_iff.1 hc).1, fun j hj e => ?_⟩
    have := (h.each j hj).2
    unfold Blk at this
    rw [e, hc] at this
    cases this)).mono fun _ _ ⟨h1, h2, h3, h4⟩ => ⟨h1, h2, h3, keeps_of_apart h h4⟩
set_option maxHeartbeats 1000000 in
theorem give_k (w : World) (base T M : Nat) (L : List TkS) (bl : Nat → Nat) (key : ByteArray) (h : Tok w base T M L bl) (hl : L.length < 1099511627776) :
    Calls Try.prog 10 #[.pointer (some ⟨T, 0, none⟩), .string key] w fun e w' => ∃ bl', e = .returned (.int .i64 ((L.length : Int) + 1)) ∧ Tok w' base T M (L ++ [⟨key, true, false⟩]) bl' ∧ Below base w w' ∧ Keeps notT w w' := by
  have c0 : w.cell? ⟨T, 0, none⟩ = some (.int .i64 (L.length : Int)) := h.blk.cell 0
  have c1 : w.cell? ⟨T, 1, none⟩ = some (.map (some M)) := h.blk.cell 1
  have f0 := h.blk.frozen 0
  have hl' : ¬ (1099511627776 : Int) ≤ (L.length : Int) := by omega
  go_enter Try.func10, Try.ntmps10
  have hTlt := h.blk.lt
  have hMT : M ≠ T := by
    intro e
    have h1 := h.blk
    have h2 := h.map
    unfold Blk at h1
    unfold MapAt at h2
    rw [e, h1] at h2
    cases h2
  have hm3 : MapAt ((w.setCell ⟨T, 0, none⟩ (.int .i64 ((L.length : Int) + 1))).alloc (.cells #[.string key, .bool true] 55)).drew M mkI (entsF (left L) L.length bl) L.length := by
    unfold MapAt
    show ((w.setCell ⟨T, 0, none⟩ _).alloc _).heap[M]? = _
    have hlt : M < w.heap.size := (Array.getElem?_eq_some_iff.1 h.map).1
    rw [Below.heap_alloc _ _ _ (by simpa [World.setCell] using hlt), Below.heap_setCell _ _ _ _ hMT]
    exact h.map
  obtain ⟨w4, hput, hmap4, hgr4, hsz4⟩ := run_put_at (P := Try.prog) keysI Try.underlying47 hm3 ((L.length : Int) + 1) (.pointer (some ⟨w.heap.size, 0, none⟩))
  unfold mkI at hput
  have hMlt : M < w.heap.size := (Array.getElem?_eq_some_iff.1 h.map).1
  have hblk3 : Blk ((w.setCell ⟨T, 0, none⟩ (.int .i64 ((L.length : Int) + 1))).alloc (.cells #[.string key, .bool true] 55)).drew T 49 #[.int .i64 ((L.length : Int) + 1), .map (some M)] := ((h.blk.set_ 0 _).alloc _).drew
  have hblk4 := hblk3.grown hgr4 (by simp; exact Ne.symm hMT)
  have hc4 : w4.cell? ⟨T, 0, none⟩ = some (.int .i64 ((L.length : Int) + 1)) := hblk4.cell 0
  have HT4 : Hid (Tok w4 base T M (L ++ [⟨key, true, false⟩]) (fun j => if j = L.length then w.heap.size else bl j)) := by
    have hlen : (L ++ [(⟨key, true, false⟩ : TkS)]).length = L.length + 1 := by simp
    have hnb : ∀ i, i < L.length → bl i < w.heap.size := fun i hi => (h.each i hi).2.lt
    refine Lib.hid ⟨h.hT, h.hM, ?_, ?_, ?_, ?_⟩
    · rw [hlen]
      have e : (((L.length + 1 : Nat)) : Int) = (L.length : Int) + 1 := by omega
      rw [e]
      exact hblk4
    · rw [(put_entsF (left L) L.length bl w.heap.size).1, (put_entsF (left L) L.length bl w.heap.size).2] at hmap4
      rw [hlen]
      have he : entsF (left (L ++ [⟨key, true, false⟩])) (L.length + 1) (fun j => if j = L.length then w.heap.size else bl j) = entsF (fun j => if j = L.length then true else left L j) (L.length + 1) (fun j => if j = L.length then w.heap.size else bl j) := entsF_congr (fun i hi => by
        unfold left
        by_cases he : i = L.length
        · subst he; simp
        · rw [if_neg he, List.getElem?_append_left (by omega)]) (fun _ _ => rfl)
      rw [he]
      exact hmap4
    · intro i j hi hj hij
      rw [hlen] at hi hj
      by_cases h1 : i = L.length <;> by_cases h2 : j = L.length
      · omega
      · have := hnb j (by omega)
        simp only [h1, if_true, h2, if_false] at hij
        omega
      · have := hnb i (by omega)
        simp only [h1, if_false, h2, if_true] at hij
        omega
      · simp only [h1, if_false, h2] at hij
        exact h.one i j (by omega) (by omega) hij
    · intro i hi
      rw [hlen] at hi
      by_cases h1 : i = L.length
      · subst h1
        simp only [if_true, List.getElem_concat_length]
        refine ⟨by have := h.hT; omega, ?_⟩
        have hb := (Blk.new (w.setCell ⟨T, 0, none⟩ (.int .i64 ((L.length : Int) + 1))) 55 #[.string key, .bool true]).drew.grown hgr4 (by simp [World.setCell]; omega)
        have hsz : (w.setCell ⟨T, 0, none⟩ (.int .i64 ((L.length : Int) + 1))).heap.size = w.heap.size := by simp [World.setCell]
        rw [hsz] at hb
        exact hb
      · simp only [h1, if_false]
        have hi' : i < L.length := by omega
        rw [List.getElem_append_left hi']
        obtain ⟨h2, h3⟩ := h.each i hi'
        refine ⟨h2, ?_⟩
        have hne : bl i ≠ T := fun e => by
          have := h.blk
          unfold Blk at this h3
          rw [e, this] at h3
          cases h3
        have hneM : bl i ≠ M := fun e => by
          have := h.map
          unfold MapAt at this
          unfold Blk at h3
          rw [e, this] at h3
          cases h3
        exact ((h3.far (p := ⟨T, 0, none⟩) hne _).alloc _).drew.grown hgr4 (by simp; exact hneM)
  have HB4 : Hid (Below base w w4) := Lib.hid ((((Below.refl base w).setCell (p := ⟨T, 0, none⟩) h.hT _).alloc (by have := h.hT; simp [World.setCell]; omega) (.cells #[.string key, .bool true] 55)).drew.grown hgr4 (by have := h.hT; simp [World.setCell]; omega) (fun g hg => by cases hg; exact h.hM))
  have HK4 : Hid (Keeps notT w w4) := Lib.hid (((((Keeps.refl notT w).setCell ⟨T, 0, none⟩ _ (fun o ho => by
    have hb := h.blk
    unfold Blk at hb
    have h' : w.heap[T]? = some o := ho
    rw [hb] at h'
    cases h'
    rfl)).alloc (.cells #[.string key, .bool true] 55)).drewN 1).grown hgr4 (fun r o e ho => by
      cases e
      have h1 := hm3
      unfold MapAt at h1
      have h' : (((w.setCell ⟨T, 0, none⟩ (.int .i64 ((L.length : Int) + 1))).alloc (.cells #[.string key, .bool true] 55)).drew).heap[M]? = some o := ho
      rw [h1] at h'
      cases h'
      rfl))
  clear hmap4 hgr4 hsz4 hm3 hblk3 hblk4 h
  go_wp2_with fail
  go_region
  go_wp2
  go_ret
  exact ⟨_, rfl, HT4.out, HB4.out, HK4.out⟩
set_option maxHeartbeats 1000000 in
theorem clear_k (w : World) (base T M : Nat) (L : List TkS) (bl : Nat → Nat) (h : Tok w base T M L bl) (hlen : L.length < 1099511627776) :
    Calls Try.prog 18 #[.pointer (some ⟨T, 0, none⟩)] w fun e w' => e = .returned (.int .i64 ((L.filter (hit fun _ => true)).length : Int)) ∧ Tok w' base T M (L.map (hurt1 fun _ => true)) bl ∧ Below base w w' ∧ Keeps notT w w' := by
  have HX := Lib.hid (killc_any w base T M L bl h hlen (fun _ => true) (fun wr s _ => cleared_any s wr))
  have HKA := Lib.hid (fun w' (ha : Apart bl L.length w w') => keeps_of_apart h ha)
  clear h
  go_enter Try.func18, Try.ntmps18
  go_wp2_with fail
  refine HX.out.mono ?_
  rintro e w' ⟨rfl, h1, h2, h3⟩
  have H1 := Lib.hid h1
  have H3 := Lib.hid (HKA.out w' h3)
  clear h1 h3
  go_wp2
  go_ret
  exact ⟨rfl, H1.out, h2, H3.out⟩
end Go.Proofs.Ytcghoaijflekhaa
