/- Walks of the rights' table. Conditions: lengths. -/
import Derived.Test.YtcghoaijflekhaaProg
import Derived.Test.YtcghoaijflekhaaTok
import Derived.Lib.Hide
import Derived.Deep.QuietTactic
import Derived.BigQuiet
namespace Go.Proofs.Ytcghoaijflekhaa
open Go.RowKit
structure TkS where
  key : ByteArray
  good : Bool
  used : Bool
/-- is the i-th right left? -/
def left (L : List TkS) (i : Nat) : Bool := match L[i]? with
  | some t => !t.used
  | none => false
structure Tok (w : World) (base T M : Nat) (L : List TkS) (bl : Nat → Nat) : Prop where
  hT : base ≤ T
  hM : base ≤ M
  blk : Blk w T 49 #[.int .i64 (L.length : Int), .map (some M)]
  map : MapAt w M mkI (entsF (left L) L.length bl) L.length
  one : ∀ i j, i < L.length → j < L.length → bl i = bl j → i = j
  each : ∀ i (h : i < L.length), base ≤ bl i ∧ Blk w (bl i) 55 #[.string L[i].key, .bool L[i].good]
theorem keysI : Keys Try.prog 2 mkI (.int .i64) where
  desc := Try.underlying2
  same := fun a b => by unfold mkI Instr.sameNow; simp; rfl
  check := fun empty a w => Go.MapKept.run_checkKey Try.underlying2 (by unfold mkI; simp [MapKept.IsKey]) empty 9999
  bits := fun a => by unfold mkI; unfold Instr.sameBits; simp
set_option maxHeartbeats 1000000 in
theorem new_any (w : World) : Calls Try.prog 8 #[] w fun e w' => ∃ T M bl, e = .returned (.pointer (some ⟨T, 0, none⟩)) ∧ Tok w' w.heap.size T M [] bl ∧ Below w.heap.size w w' := by
  have hmm := @run_makeMap Try.prog
  go_enter Try.func8, Try.ntmps8
  go_wp2
  go_ret
  refine ⟨w.heap.size + 1, w.heap.size, fun _ => 0, rfl, ?_, ((Below.refl _ _).alloc (Nat.le_refl _) _).alloc (by simp) _⟩
  refine ⟨by omega, Nat.le_refl _, ?_, ?_, fun i j h => by simp at h, fun i h => by simp at h⟩
  · have h := Blk.new (w.alloc (.map #[] 0)) 49 #[.int .i64 0, .map (some w.heap.size)]
    rw [World.size_alloc] at h
    exact h
  · unfold MapAt
    rw [Below.heap_alloc _ _ _ (by simp)]
    exact heap_alloc_new w _
set_option maxHeartbeats 1000000 in
theorem give_any (w : World) (base T M : Nat) (L : List TkS) (bl : Nat → Nat) (key : ByteArray) (h : Tok w base T M L bl) (hl : L.length < 1099511627776) :
    Calls Try.prog 10 #[.pointer (some ⟨T, 0, none⟩), .string key] w fun e w' => ∃ bl', e = .returned (.int .i64 ((L.length : Int) + 1)) ∧ Tok w' base T M (L ++ [⟨key, true, false⟩]) bl' ∧ Below base w w' := by
  have c0 : w.cell? ⟨T, 0, none⟩ = some (.int .i64 (L.length : Int)) := h.blk.cell 0
  have c1 : w.cell? ⟨T, 1, none⟩ = some (.map (some M)) := h.blk.cell 1
  have f0 := h.blk.frozen 0
  have hl' : ¬ (1099511627776 : Int) ≤ (L.length : Int) := by omega
  go_enter Try.func10, Try.ntmps10
  have hTlt := h.blk.lt
  have hMT : M ≠ T := by
    intro e
    have h1 := h.blk
    have h2 := h.map
    unfold Blk at h1
    unfold MapAt at h2
    rw [e, h1] at h2
    cases h2
  have hm3 : MapAt ((w.setCell ⟨T, 0, none⟩ (.int .i64 ((L.length : Int) + 1))).alloc (.cells #[.string key, .bool true] 55)).drew M mkI (entsF (left L) L.length bl) L.length := by
    unfold MapAt
    show ((w.setCell ⟨T, 0, none⟩ _).alloc _).heap[M]? = _
    have hlt : M < w.heap.size := (Array.getElem?_eq_some_iff.1 h.map).1
    rw [Below.heap_alloc _ _ _ (by simpa [World.setCell] using hlt), Below.heap_setCell _ _ _ _ hMT]
    exact h.map
  obtain ⟨w4, hput, hmap4, hgr4, hsz4⟩ := run_put_at (P := Try.prog) keysI Try.underlying47 hm3 ((L.length : Int) + 1) (.pointer (some ⟨w.heap.size, 0, none⟩))
  unfold mkI at hput
  have hMlt : M < w.heap.size := (Array.getElem?_eq_some_iff.1 h.map).1
  have hblk3 : Blk ((w.setCell ⟨T, 0, none⟩ (.int .i64 ((L.length : Int) + 1))).alloc (.cells #[.string key, .bool true] 55)).drew T 49 #[.int .i64 ((L.length : Int) + 1), .map (some M)] := ((h.blk.set_ 0 _).alloc _).drew
  have hblk4 := hblk3.grown hgr4 (by simp; exact Ne.symm hMT)
  have hc4 : w4.cell? ⟨T, 0, none⟩ = some (.int .i64 ((L.length : Int) + 1)) := hblk4.cell 0
  have HT4 : Hid (Tok w4 base T M (L ++ [⟨key, true, false⟩]) (fun j => if j = L.length then w.heap.size else bl j)) := by
    have hlen : (L ++ [(⟨key, true, false⟩ : TkS)]).length = L.length + 1 := by simp
    have hnb : ∀ i, i < L.length → bl i < w.heap.size := fun i hi => (h.each i hi).2.lt
    refine Lib.hid ⟨h.hT, h.hM, ?_, ?_, ?_, ?_⟩
    · rw [hlen]
      have e : (((L.length + 1 : Nat)) : Int) = (L.length : Int) + 1 := by omega
      rw [e]
      exact hblk4
    · rw [(put_entsF (left L) L.length bl w.heap.size).1, (put_entsF (left L) L.length bl w.heap.size).2] at hmap4
      rw [hlen]
      have he : entsF (left (L ++ [⟨key, true, false⟩])) (L.length + 1) (fun j => if j = L.length then w.heap.size else bl j) = entsF (fun j => if j = L.length then true else left L j) (L.length + 1) (fun j => if j = L.length then w.heap.size else bl j) := entsF_congr (fun i hi => by
        unfold left
        by_cases he : i = L.length
        · subst he; simp
        · rw [if_neg he, List.getElem?_append_left (by omega)]) (fun _ _ => rfl)
      rw [he]
      exact hmap4
    · intro i j hi hj hij
      rw [hlen] at hi hj
      by_cases h1 : i = L.length <;> by_cases h2 : j = L.length
      · omega
      · have := hnb j (by omega)
        simp only [h1, if_true, h2, if_false] at hij
        omega
      · have := hnb i (by omega)
        simp only [h1, if_false, h2, if_true] at hij
        omega
      · simp only [h1, if_false, h2] at hij
        exact h.one i j (by omega) (by omega) hij
    · intro i hi
      rw [hlen] at hi
      by_cases h1 : i = L.length
      · subst h1
        simp only [if_true, List.getElem_concat_length]
        refine ⟨by have := h.hT; omega, ?_⟩
        have hb := (Blk.new (w.setCell ⟨T, 0, none⟩ (.int .i64 ((L.length : Int) + 1))) 55 #[.string key, .bool true]).drew.grown hgr4 (by simp [World.setCell]; omega)
        have hsz : (w.setCell ⟨T, 0, none⟩ (.int .i64 ((L.length : Int) + 1))).heap.size = w.heap.size := by simp [World.setCell]
        rw [hsz] at hb
        exact hb
      · simp only [h1, if_false]
        have hi' : i < L.length := by omega
        rw [List.getElem_append_left hi']
        obtain ⟨h2, h3⟩ := h.each i hi'
        refine ⟨h2, ?_⟩
        have hne : bl i ≠ T := fun e => by
          have := h.blk
          unfold Blk at this h3
          rw [e, this] at h3
          cases h3
        have hneM : bl i ≠ M := fun e => by
          have := h.map
          unfold MapAt at this
          unfold Blk at h3
          rw [e, this] at h3
          cases h3
        exact ((h3.far (p := ⟨T, 0, none⟩) hne _).alloc _).drew.grown hgr4 (by simp; exact hneM)
  have HB4 : Hid (Below base w w4) := Lib.hid ((((Below.refl base w).setCell (p := ⟨T, 0, none⟩) h.hT _).alloc (by have := h.hT; simp [World.setCell]; omega) (.cells #[.string key, .bool true] 55)).drew.grown hgr4 (by have := h.hT; simp [World.setCell]; omega) (fun g hg => by cases hg; exact h.hM))
  clear hmap4 hgr4 hsz4 hm3 hblk3 hblk4 h
  go_wp2_with fail
  go_region
  go_wp2
  go_ret
  exact ⟨_, rfl, HT4.out, HB4.out⟩
end Go.Proofs.Ytcghoaijflekhaa
