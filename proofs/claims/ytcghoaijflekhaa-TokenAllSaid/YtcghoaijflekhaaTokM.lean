/- What memory holds while an operation's texts are cut, in whatever order. No walk. -/
import Derived.Test.YtcghoaijflekhaaTokS
import Derived.Test.YtcghoaijflekhaaRegion
namespace Go.Proofs.Ytcghoaijflekhaa
open Go.RowKit
/-- the texts that an operation is left with -/
abbrev keysTo (ss : List ByteArray) (nk : Nat) : List ByteArray := textsTo ss 30 (min nk 4)
/-- a slice of texts of the call's own -/
def OwnTexts (lo : Nat) (w : World) (u : Value) (ss : List ByteArray) : Prop := ∃ A c, u = .slice A ss.length c ∧ Sl w A (ss.map .string) ∧ ∀ a, A = some a → lo ≤ a.block ∧ ∃ cur, w.heap[a.block]? = some (.cells cur 9 (0, 0))
structure MA (W0 : World) (D : Nat) (kind id : Int) (key : ByteArray) (Ak : Option Addr) (nk ck : Nat) (ss : List ByteArray) (L : Nat → Bool) (u37 : Value) (wx : World) : Prop where
  lt : D < W0.heap.size
  grown : W0.grownBy wx (some D)
  blk : ∃ x2 x3, Blk wx D 42 #[.int .i64 kind, .int .i64 id, x2, x3] ∧ (L 7 = false → x2 = .string key) ∧ (L 7 = true → L 1 = true ∧ x2 = .string (cutS key 30)) ∧ (L 9 = false → x3 = .slice Ak nk ck) ∧ (L 9 = true → (L 4 = true ∧ L 5 = true) ∧ x3 = u37)
  own : L 5 = true → OwnTexts W0.heap.size wx u37 (keysTo ss nk)
section
variable {W0 : World} {D : Nat} {kind id : Int} {ky : ByteArray} {Ak : Option Addr} {nk ck : Nat} {ss : List ByteArray} {L : Nat → Bool} {u37 : Value} {wx : World}
theorem Done.ne {L : Nat → Bool} {i j : Nat} (h : j ≠ i) : Done L i j = L j := by unfold Done; rw [if_neg h]
theorem Done.le {L : Nat → Bool} {i j : Nat} (h : L j = true) : Done L i j = true := by
  unfold Done; split <;> first | rfl | exact h
theorem MA.same (h : MA W0 D kind id ky Ak nk ck ss L u37 wx) {i : Nat} (h5 : 5 ≠ i) (h7 : 7 ≠ i) (h9 : 9 ≠ i) : MA W0 D kind id ky Ak nk ck ss (Done L i) u37 wx := by
  obtain ⟨h0, h1, ⟨x2, x3, hb, b1, b2, b3, b4⟩, h4⟩ := h
  refine ⟨h0, h1, ⟨x2, x3, hb, fun h => b1 ((Done.ne h7).symm.trans h), fun h => ?_, fun h => b3 ((Done.ne h9).symm.trans h), fun h => ?_⟩, fun h => h4 ((Done.ne h5).symm.trans h)⟩
  · obtain ⟨c1, c2⟩ := b2 ((Done.ne h7).symm.trans h); exact ⟨Done.le c1, c2⟩
  · obtain ⟨⟨c1, c3⟩, c2⟩ := b4 ((Done.ne h9).symm.trans h); exact ⟨⟨Done.le c1, Done.le c3⟩, c2⟩
theorem MA.key (h : MA W0 D kind id ky Ak nk ck ss L u37 wx) (hl : L 1 = false) : wx.cell? ⟨D, 2, none⟩ = some (.string ky) := by
  obtain ⟨x2, x3, hb, b1, b2, b3, b4⟩ := h.blk
  have : L 7 = false := by
    cases h7 : L 7 with
    | false => rfl
    | true => rw [(b2 h7).1] at hl; cases hl
  rw [← b1 this]
  exact hb.cell 2
theorem MA.keys (h : MA W0 D kind id ky Ak nk ck ss L u37 wx) (hl : L 4 = false) : wx.cell? ⟨D, 3, none⟩ = some (.slice Ak nk ck) := by
  obtain ⟨x2, x3, hb, b1, b2, b3, b4⟩ := h.blk
  have : L 9 = false := by
    cases h7 : L 9 with
    | false => rfl
    | true => rw [(b4 h7).1.1] at hl; cases hl
  rw [← b3 this]
  exact hb.cell 3
theorem MA.two (h : MA W0 D kind id ky Ak nk ck ss L u37 wx) : ∃ x, wx.cell? ⟨D, 2, none⟩ = some x := by
  obtain ⟨x2, x3, hb, _⟩ := h.blk
  exact ⟨_, hb.cell 2⟩
theorem MA.three (h : MA W0 D kind id ky Ak nk ck ss L u37 wx) : ∃ x, wx.cell? ⟨D, 3, none⟩ = some x := by
  obtain ⟨x2, x3, hb, _⟩ := h.blk
  exact ⟨_, hb.cell 3⟩
theorem MA.frz (h : MA W0 D kind id ky Ak nk ck ss L u37 wx) (i : Nat) : wx.frozen? ⟨D, i, none⟩ = false := by
  obtain ⟨x2, x3, hb, _⟩ := h.blk
  exact hb.frozen i
theorem MA.call (h : MA W0 D kind id ky Ak nk ck ss L u37 wx) (hl : L 5 = false) {w5 : World} {A5 : Option Addr} {c5 : Nat} (hs : Sl w5 A5 ((keysTo ss nk).map .string)) (ha : ∀ a, A5 = some a → wx.heap.size ≤ a.block ∧ ∃ cur, w5.heap[a.block]? = some (.cells cur 9 (0, 0))) (hb5 : Below wx.heap.size wx w5) :
    MA W0 D kind id ky Ak nk ck ss (Done L 5) (.slice A5 (keysTo ss nk).length c5) w5 := by
  obtain ⟨h0, h1, ⟨x2, x3, hb, b1, b2, b3, b4⟩, h4⟩ := h
  have hlt := hb.lt
  refine ⟨h0, ⟨hb5.os.trans h1.os, hb5.tape.trans h1.tape, hb5.output.trans h1.output, Nat.le_trans h1.size hb5.size, fun g hg hne => (hb5.block g (Nat.lt_of_lt_of_le hg h1.size)).trans (h1.block g hg hne)⟩, ⟨x2, x3, hb.below hb5 hlt, fun h => b1 ((Done.ne (by decide)).symm.trans h), fun h => ?_, fun h => b3 ((Done.ne (by decide)).symm.trans h), fun h => ?_⟩, fun _ => ⟨A5, c5, rfl, hs, fun a e => ⟨Nat.le_trans h1.size (ha a e).1, (ha a e).2⟩⟩⟩
  · obtain ⟨c1, c2⟩ := b2 ((Done.ne (by decide)).symm.trans h); exact ⟨Done.le c1, c2⟩
  · obtain ⟨⟨c1, c3⟩, c2⟩ := b4 ((Done.ne (by decide)).symm.trans h)
    rw [c3] at hl
    cases hl
theorem MA.put2 (h : MA W0 D kind id ky Ak nk ck ss L u37 wx) (h1' : L 1 = true) : MA W0 D kind id ky Ak nk ck ss (Done L 7) u37 (wx.setCell ⟨D, 2, none⟩ (.string (cutS ky 30))) := by
  obtain ⟨h0, h1, ⟨x2, x3, hb, b1, b2, b3, b4⟩, h4⟩ := h
  refine ⟨h0, ?_, ⟨_, x3, hb.set_ 2 (.string (cutS ky 30)), fun h => ?_, fun _ => ⟨Done.le h1', rfl⟩, fun h => b3 ((Done.ne (by decide)).symm.trans h), fun h => ?_⟩, fun h => ?_⟩
  · exact ⟨h1.os, h1.tape, h1.output, by simpa [World.setCell] using h1.size, fun g hg hne => (Below.heap_setCell _ _ _ _ (by rintro rfl; exact hne rfl)).trans (h1.block g hg hne)⟩
  · unfold Done at h; rw [if_pos rfl] at h; cases h
  · obtain ⟨⟨c1, c3⟩, c2⟩ := b4 ((Done.ne (by decide)).symm.trans h); exact ⟨⟨Done.le c1, Done.le c3⟩, c2⟩
  · obtain ⟨A, c, e, hs, ha⟩ := h4 ((Done.ne (by decide)).symm.trans h)
    refine ⟨A, c, e, fun hne => ?_, fun a e' => ⟨(ha a e').1, ?_⟩⟩
    · obtain ⟨b, off, rfl, hc⟩ := hs hne
      refine ⟨b, off, rfl, fun j u hu => ?_⟩
      have : W0.heap.size ≤ b := (ha _ rfl).1
      rw [World.cell?_setCell_other _ _ _ _ (fun e => by have := congrArg Addr.block e; simp at this; omega)]
      exact hc j u hu
    · have := (ha a e').1
      obtain ⟨cur, hc⟩ := (ha a e').2
      exact ⟨cur, (Below.heap_setCell _ _ _ _ (by simp; omega)).trans hc⟩
theorem MA.put3 (h : MA W0 D kind id ky Ak nk ck ss L u37 wx) (h4' : L 4 = true) (h5' : L 5 = true) : MA W0 D kind id ky Ak nk ck ss (Done L 9) u37 (wx.setCell ⟨D, 3, none⟩ u37) := by
  obtain ⟨h0, h1, ⟨x2, x3, hb, b1, b2, b3, b4⟩, h4⟩ := h
  refine ⟨h0, ?_, ⟨x2, _, hb.set_ 3 u37, fun h => b1 ((Done.ne (by decide)).symm.trans h), fun h => ?_, fun h => ?_, fun _ => ⟨⟨Done.le h4', Done.le h5'⟩, rfl⟩⟩, fun h => ?_⟩
  · exact ⟨h1.os, h1.tape, h1.output, by simpa [World.setCell] using h1.size, fun g hg hne => (Below.heap_setCell _ _ _ _ (by rintro rfl; exact hne rfl)).trans (h1.block g hg hne)⟩
  · obtain ⟨c1, c2⟩ := b2 ((Done.ne (by decide)).symm.trans h); exact ⟨Done.le c1, c2⟩
  · unfold Done at h; rw [if_pos rfl] at h; cases h
  · obtain ⟨A, c, e, hs, ha⟩ := h4 ((Done.ne (by decide)).symm.trans h)
    refine ⟨A, c, e, fun hne => ?_, fun a e' => ⟨(ha a e').1, ?_⟩⟩
    · obtain ⟨b, off, rfl, hc⟩ := hs hne
      refine ⟨b, off, rfl, fun j u hu => ?_⟩
      have : W0.heap.size ≤ b := (ha _ rfl).1
      rw [World.cell?_setCell_other _ _ _ _ (fun e => by have := congrArg Addr.block e; simp at this; omega)]
      exact hc j u hu
    · have := (ha a e').1
      obtain ⟨cur, hc⟩ := (ha a e').2
      exact ⟨cur, (Below.heap_setCell _ _ _ _ (by simp; omega)).trans hc⟩
theorem MA.slx (h : MA W0 D kind id ky Ak nk ck ss L u37 wx) {lo : World} (hlo : lo.heap.size ≤ D) (hb : Below lo.heap.size lo W0) (hs : Sl lo Ak (ss.map .string)) : Sl wx Ak (ss.map .string) := by
  refine hs.keep ⟨h.grown.os.trans hb.os, h.grown.tape.trans hb.tape, h.grown.output.trans hb.output, Nat.le_trans hb.size h.grown.size, fun g hg => (h.grown.block g (Nat.lt_of_lt_of_le hg hb.size) (fun e => ?_)).trans (hb.block g hg)⟩
  injection e with e
  omega
theorem MA.start (h0 : D < W0.heap.size) (hb : Blk W0 D 42 #[.int .i64 kind, .int .i64 id, .string ky, .slice Ak nk ck]) (u : Value) : MA W0 D kind id ky Ak nk ck ss (fun _ => false) u W0.drew := by
  refine ⟨h0, ⟨rfl, rfl, rfl, Nat.le_refl _, fun _ _ _ => rfl⟩, ⟨_, _, hb, fun _ => rfl, ?_, fun _ => rfl, ?_⟩, ?_⟩
  · intro h; cases h
  · intro h; cases h
  · intro h; cases h
end
end Go.Proofs.Ytcghoaijflekhaa
