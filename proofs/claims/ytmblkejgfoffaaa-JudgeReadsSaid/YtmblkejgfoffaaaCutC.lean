/- The judge's cut walked. Conditions: lengths. -/
import Derived.Test.YtmblkejgfoffaaaJc
namespace Go.Proofs.Ytmblkejgfoffaaa
open Go.RowKit
structure MK (W0 : World) (D : Nat) (cid cop : Int) (ckey : ByteArray) (cnode cfrm cto : Int) (cdone : Bool) (crid crop : Int) (crkey : ByteArray) (cerr : Int) (cval : ByteArray) (chas : Bool) (L : Nat → Bool) (wx : World) : Prop where
  grown : W0.grownBy wx (some D)
  blk : ∃ x0 x1, Blk wx D 45 #[.int .i64 cid, .int .i64 cop, x0, .int .i64 cnode, .int .i64 cfrm, .int .i64 cto, .bool cdone, .int .i64 crid, .int .i64 crop, .string crkey, .int .i64 cerr, x1, .bool chas] ∧ (L 8 = false → x0 = .string ckey) ∧ (L 8 = true → L 1 = true ∧ x0 = .string (cutS ckey 20)) ∧ (L 11 = false → x1 = .string cval) ∧ (L 11 = true → L 5 = true ∧ x1 = .string (cutS cval 20))
section
variable {W0 : World} {D : Nat} {cid cop : Int} {ckey : ByteArray} {cnode cfrm cto : Int} {cdone : Bool} {crid crop : Int} {crkey : ByteArray} {cerr : Int} {cval : ByteArray} {chas : Bool} {L : Nat → Bool} {wx : World}
theorem MK.same (h : MK W0 D cid cop ckey cnode cfrm cto cdone crid crop crkey cerr cval chas L wx) {i : Nat} (h7 : 8 ≠ i) (h9 : 11 ≠ i) : MK W0 D cid cop ckey cnode cfrm cto cdone crid crop crkey cerr cval chas (Done L i) wx := by
  obtain ⟨h1, x2, x3, hb, b1, b2, b3, b4⟩ := h
  refine ⟨h1, x2, x3, hb, ?_, ?_, ?_, ?_⟩
  · rw [Done.ne h7]; exact b1
  · rw [Done.ne h7]; intro h; exact ⟨Done.le (b2 h).1, (b2 h).2⟩
  · rw [Done.ne h9]; exact b3
  · rw [Done.ne h9]; intro h; exact ⟨Done.le (b4 h).1, (b4 h).2⟩
theorem MK.key (h : MK W0 D cid cop ckey cnode cfrm cto cdone crid crop crkey cerr cval chas L wx) (hl : L 1 = false) : wx.cell? ⟨D, 2, none⟩ = some (.string ckey) := by
  obtain ⟨h1, x2, x3, hb, b1, b2, b3, b4⟩ := h
  have : L 8 = false := by
    cases h7 : L 8 with
    | false => rfl
    | true => rw [(b2 h7).1] at hl; cases hl
  rw [← b1 this]
  exact hb.cell 2
theorem MK.val (h : MK W0 D cid cop ckey cnode cfrm cto cdone crid crop crkey cerr cval chas L wx) (hl : L 5 = false) : wx.cell? ⟨D, 11, none⟩ = some (.string cval) := by
  obtain ⟨h1, x2, x3, hb, b1, b2, b3, b4⟩ := h
  have : L 11 = false := by
    cases h7 : L 11 with
    | false => rfl
    | true => rw [(b4 h7).1] at hl; cases hl
  rw [← b3 this]
  exact hb.cell 11
theorem MK.c2 (h : MK W0 D cid cop ckey cnode cfrm cto cdone crid crop crkey cerr cval chas L wx) : ∃ x, wx.cell? ⟨D, 2, none⟩ = some x := by
  obtain ⟨_, x2, x3, hb, _⟩ := h
  exact ⟨_, hb.cell 2⟩
theorem MK.c11 (h : MK W0 D cid cop ckey cnode cfrm cto cdone crid crop crkey cerr cval chas L wx) : ∃ x, wx.cell? ⟨D, 11, none⟩ = some x := by
  obtain ⟨_, x2, x3, hb, _⟩ := h
  exact ⟨_, hb.cell 11⟩
theorem MK.frz (h : MK W0 D cid cop ckey cnode cfrm cto cdone crid crop crkey cerr cval chas L wx) (i : Nat) : wx.frozen? ⟨D, i, none⟩ = false := by
  obtain ⟨_, x2, x3, hb, _⟩ := h
  exact hb.frozen i
theorem MK.put0 (h : MK W0 D cid cop ckey cnode cfrm cto cdone crid crop crkey cerr cval chas L wx) (h1' : L 1 = true) : MK W0 D cid cop ckey cnode cfrm cto cdone crid crop crkey cerr cval chas (Done L 8) (wx.setCell ⟨D, 2, none⟩ (.string (cutS ckey 20))) := by
  obtain ⟨h1, x2, x3, hb, b1, b2, b3, b4⟩ := h
  refine ⟨⟨h1.os, h1.tape, h1.output, by simpa [World.setCell] using h1.size, fun g hg hne => (Below.heap_setCell _ _ _ _ (by rintro rfl; exact hne rfl)).trans (h1.block g hg hne)⟩, _, x3, hb.set_ 2 (.string (cutS ckey 20)), ?_, ?_, ?_, ?_⟩
  · intro h; unfold Done at h; rw [if_pos rfl] at h; cases h
  · intro _; exact ⟨Done.le h1', rfl⟩
  · rw [Done.ne (by decide)]; exact b3
  · rw [Done.ne (by decide)]; intro h; exact ⟨Done.le (b4 h).1, (b4 h).2⟩
theorem MK.put1 (h : MK W0 D cid cop ckey cnode cfrm cto cdone crid crop crkey cerr cval chas L wx) (h1' : L 5 = true) : MK W0 D cid cop ckey cnode cfrm cto cdone crid crop crkey cerr cval chas (Done L 11) (wx.setCell ⟨D, 11, none⟩ (.string (cutS cval 20))) := by
  obtain ⟨h1, x2, x3, hb, b1, b2, b3, b4⟩ := h
  refine ⟨⟨h1.os, h1.tape, h1.output, by simpa [World.setCell] using h1.size, fun g hg hne => (Below.heap_setCell _ _ _ _ (by rintro rfl; exact hne rfl)).trans (h1.block g hg hne)⟩, x2, _, hb.set_ 11 (.string (cutS cval 20)), ?_, ?_, ?_, ?_⟩
  · rw [Done.ne (by decide)]; exact b1
  · rw [Done.ne (by decide)]; intro h; exact ⟨Done.le (b2 h).1, (b2 h).2⟩
  · intro h; unfold Done at h; rw [if_pos rfl] at h; cases h
  · intro _; exact ⟨Done.le h1', rfl⟩
theorem MK.start (hb : Blk W0 D 45 #[.int .i64 cid, .int .i64 cop, .string ckey, .int .i64 cnode, .int .i64 cfrm, .int .i64 cto, .bool cdone, .int .i64 crid, .int .i64 crop, .string crkey, .int .i64 cerr, .string cval, .bool chas]) : MK W0 D cid cop ckey cnode cfrm cto cdone crid crop crkey cerr cval chas (fun _ => false) W0.drew := by
  refine ⟨⟨rfl, rfl, rfl, Nat.le_refl _, fun _ _ _ => rfl⟩, _, _, hb, fun _ => rfl, ?_, fun _ => rfl, ?_⟩
  · intro h; cases h
  · intro h; cases h
end
theorem info45 : (Try.prog.info? 45).map (fun i => (i.zero, i.size, i.bytes)) = some (some (.agg #[.int .i64 0, .int .i64 0, .string ByteArray.empty, .int .i64 0, .int .i64 0, .int .i64 0, .bool false, .int .i64 0, .int .i64 0, .string ByteArray.empty, .int .i64 0, .string ByteArray.empty, .bool false]), 13, 128) := by kernel_rfl
/-- a call, cut -/
def cut1C (c : Cl) : Cl := if c.to < -100 ∨ 100 < c.to ∨ c.frm < -100 ∨ 100 < c.frm then ⟨c.id, c.op, cutS c.key 20, c.node, 0, 3, c.done, c.rid, c.rop, c.rkey, c.err, cutS c.val 20, c.has⟩ else ⟨c.id, c.op, cutS c.key 20, c.node, c.frm, c.to, c.done, c.rid, c.rop, c.rkey, c.err, cutS c.val 20, c.has⟩
def cutC (n : Nat) (L : List Cl) : List Cl := (L.take n).map cut1C
theorem cutC_succ (n : Nat) (L : List Cl) (h : n < L.length) : cutC (n + 1) L = cutC n L ++ [cut1C L[n]] := by
  unfold cutC
  rw [List.take_succ_eq_append_getElem h, List.map_append]; rfl
theorem cutC_length (n : Nat) (L : List Cl) (h : n ≤ L.length) : (cutC n L).length = n := by
  unfold cutC
  rw [List.length_map, List.length_take]; omega
def GK (W0 : World) (D : Nat) (cid cop : Int) (ckey : ByteArray) (cnode cfrm cto : Int) (cdone : Bool) (crid crop : Int) (crkey : ByteArray) (cerr : Int) (cval : ByteArray) (chas : Bool) (c0 c1 c2 c3 c4 c5 c6 c7 c8 c9 c10 c11 c12 c13 c14 c15 c16 c17 c18 c19 c30 c31 c32 c33 c34 c35 c36 c37 c38 c39 c40 c41 c42 c43 c44 c45 c46 c47 c48 c49 c50 c51 c52 c53 c54 : Value) (L : Nat → Bool) (a' : Act) (wx : World) : Prop :=
  ∃ u20 u21 u22 u23 u24 u25 u26 u27 u28 u29 : Value, a' = ⟨List.toArray (c0 :: c1 :: c2 :: c3 :: c4 :: c5 :: c6 :: c7 :: c8 :: c9 :: c10 :: c11 :: c12 :: c13 :: c14 :: c15 :: c16 :: c17 :: c18 :: c19 :: u20 :: u21 :: u22 :: u23 :: u24 :: u25 :: u26 :: u27 :: u28 :: u29 :: c30 :: c31 :: c32 :: c33 :: c34 :: c35 :: c36 :: c37 :: c38 :: c39 :: c40 :: c41 :: c42 :: c43 :: c44 :: c45 :: c46 :: c47 :: c48 :: c49 :: c50 :: c51 :: c52 :: c53 :: c54 :: []), []⟩ ∧ MK W0 D cid cop ckey cnode cfrm cto cdone crid crop crkey cerr cval chas L wx ∧ (L 0 = true → u20 = .pointer (some ⟨D, 2, none⟩)) ∧ (L 1 = true → u21 = .string ckey) ∧ (L 2 = true → u22 = .string (cutS ckey 20)) ∧ (L 3 = true → u23 = .pointer (some ⟨D, 7, none⟩)) ∧ (L 4 = true → u24 = .pointer (some ⟨D, 11, none⟩)) ∧ (L 5 = true → u25 = .string cval) ∧ (L 6 = true → u26 = .string (cutS cval 20)) ∧ (L 7 = true → u27 = .pointer (some ⟨D, 2, none⟩)) ∧ (L 9 = true → u28 = .pointer (some ⟨D, 7, none⟩)) ∧ (L 10 = true → u29 = .pointer (some ⟨D, 11, none⟩))
set_option maxRecDepth 100000 in
set_option maxHeartbeats 16000000 in
theorem cutc_any (w : World) (A : Option Addr) (n c : Nat) (Ls : List Cl) (hn : Ls.length = n) (hm : n ≤ 9223372036854775807) (hs : Sl w A (Ls.flatMap Cl.cells)) (hz : ∀ s ∈ Ls, s.key.size ≤ maxLen ∧ s.val.size ≤ maxLen) :
    Calls Try.prog 24 #[.slice A n c] w fun e w' => ∃ v, e = .returned v ∧ w'.ownsRow w.heap.size 45 13 v (cutC (min n 12) Ls).length ((cutC (min n 12) Ls).flatMap Cl.cells) ∧ Below w.heap.size w w' := by
  subst hn
  obtain ⟨i0, hi, hz0, hz1, hz2⟩ := info_parts info45
  have HI0 := Lib.hid (And.intro hi (And.intro hz0 (And.intro hz1 hz2)))
  clear hi hz0 hz1 hz2
  have HS := Lib.hid hs
  have HZ := Lib.hid hz
  clear hs hz
  go_enter Try.func24, Try.ntmps24
  go_wp2
  go_loopw [3, 4] (fun v i wr => ∃ k : Nat, k ≤ Ls.length ∧ k ≤ 12 ∧ i = .int .i64 k ∧ wr.ownsRow w.heap.size 45 13 v k ((cutC k Ls).flatMap Cl.cells) ∧ Below w.heap.size w wr) (fun _ i _ => Ls.length - (intOf i).toNat)
  case atStart => exact ⟨0, Nat.zero_le _, Nat.zero_le _, rfl, World.ownsRow_nil _ _ _ _, Below.refl _ _⟩
  case round =>
    obtain ⟨k, hk, hkm, rfl, hown, hb⟩ := hrel
    have HOWN := Lib.hid hown
    have HB := Lib.hid hb
    clear hown hb
    by_cases hgo : k < Ls.length ∧ k < 12
    · obtain ⟨hlt, hlm⟩ := hgo
      obtain ⟨b, off, rfl, hcs⟩ := (HS.out.keep HB.out).flat (C := 13) (fun _ => rfl) (by decide) k hlt
      have hcs' : ∀ r v, Ls[k].cells[r]? = some v → wr.cell? ⟨b, off + k * 13 + r, none⟩ = some v := fun r v h => by rw [Nat.add_assoc]; exact hcs r v h
      have hkz := (HZ.out _ (List.getElem_mem hlt)).1
      have hvz := (HZ.out _ (List.getElem_mem hlt)).2
      have HCS := Lib.hid (cutC_succ k Ls hlt)
      clear hcs
      generalize Ls[k] = c at *
      obtain ⟨cid, cop, ckey, cnode, cfrm, cto, cdone, crid, crop, crkey, cerr, cval, chas⟩ := c
      have HKZ : Hid (ckey.size ≤ maxLen) := Lib.hid hkz
      have HVZ : Hid (cval.size ≤ maxLen) := Lib.hid hvz
      clear hkz hvz
      have g0 : wr.cell? ⟨b, off + k * 13, none⟩ = some (.int .i64 cid) := hcs' 0 _ rfl
      have g1 : wr.cell? ⟨b, off + k * 13 + 1, none⟩ = some (.int .i64 cop) := hcs' 1 _ rfl
      have g2 : wr.cell? ⟨b, off + k * 13 + 2, none⟩ = some (.string ckey) := hcs' 2 _ rfl
      have g3 : wr.cell? ⟨b, off + k * 13 + 3, none⟩ = some (.int .i64 cnode) := hcs' 3 _ rfl
      have g4 : wr.cell? ⟨b, off + k * 13 + 4, none⟩ = some (.int .i64 cfrm) := hcs' 4 _ rfl
      have g5 : wr.cell? ⟨b, off + k * 13 + 5, none⟩ = some (.int .i64 cto) := hcs' 5 _ rfl
      have g6 : wr.cell? ⟨b, off + k * 13 + 6, none⟩ = some (.bool cdone) := hcs' 6 _ rfl
      have g7 : wr.cell? ⟨b, off + k * 13 + 7, none⟩ = some (.int .i64 crid) := hcs' 7 _ rfl
      have g8 : wr.cell? ⟨b, off + k * 13 + 8, none⟩ = some (.int .i64 crop) := hcs' 8 _ rfl
      have g9 : wr.cell? ⟨b, off + k * 13 + 9, none⟩ = some (.string crkey) := hcs' 9 _ rfl
      have g10 : wr.cell? ⟨b, off + k * 13 + 10, none⟩ = some (.int .i64 cerr) := hcs' 10 _ rfl
      have g11 : wr.cell? ⟨b, off + k * 13 + 11, none⟩ = some (.string cval) := hcs' 11 _ rfl
      have g12 : wr.cell? ⟨b, off + k * 13 + 12, none⟩ = some (.bool chas) := hcs' 12 _ rfl
      clear hcs'
      have k1 : (0 : Int) ≤ (k : Int) := by omega
      have k2 : (k : Int) < (Ls.length : Int) := by omega
      have k3 : decide ((k : Int) < 12) = true := decide_eq_true (by omega)
      go_wp2
      clear k3
      have HD0 := Lib.hid (Blk.new wr 45 #[.int .i64 cid, .int .i64 cop, .string ckey, .int .i64 cnode, .int .i64 cfrm, .int .i64 cto, .bool cdone, .int .i64 crid, .int .i64 crop, .string crkey, .int .i64 cerr, .string cval, .bool chas])
      have HO0 := Lib.hid (HOWN.out.alloc (.cells #[.int .i64 cid, .int .i64 cop, .string ckey, .int .i64 cnode, .int .i64 cfrm, .int .i64 cto, .bool cdone, .int .i64 crid, .int .i64 crop, .string crkey, .int .i64 cerr, .string cval, .bool chas] 45))
      have hsz := HB.out.size
      have HB0 := Lib.hid (HB.out.alloc hsz (.cells #[.int .i64 cid, .int .i64 cop, .string ckey, .int .i64 cnode, .int .i64 cfrm, .int .i64 cto, .bool cdone, .int .i64 crid, .int .i64 crop, .string crkey, .int .i64 cerr, .string cval, .bool chas] 45))
      have HNE : Hid (u3.ownBlock ≠ some wr.heap.size) := Lib.hid (fun e => by have := (HOWN.out.lt _ e).2; omega)
      generalize wr.alloc (.cells #[.int .i64 cid, .int .i64 cop, .string ckey, .int .i64 cnode, .int .i64 cfrm, .int .i64 cto, .bool cdone, .int .i64 crid, .int .i64 crop, .string crkey, .int .i64 cerr, .string cval, .bool chas] 45) = W0 at *
      clear g0 g1 g2 g3 g4 g5 g6 g7 g8 g9 g10 g11 g12 HOWN HB
      generalize wr.heap.size = D at *
      clear wr
      refine wp_region_inv (GK W0 D cid cop ckey cnode cfrm cto cdone crid crop crkey cerr cval chas _ _ _ _ _ _ _ _ _ _ _ _ _ _ _ _ _ _ _ _ _ _ _ _ _ _ _ _ _ _ _ _ _ _ _ _ _ _ _ _ _ _ _ _ _) (by kernel_rfl) (by kernel_rfl) ⟨_, _, _, _, _, _, _, _, _, _, rfl, MK.start HD0.out, by simp⟩ ⟨?_, ?_, ?_, ?_, ?_, ?_, ?_, ?_, ?_, ?_, ?_, ?_, trivial⟩ ?_
      · intro L a' wx hLi hd hG K hK
        refine Exists.elim hG ?_; clear hG; intro u20 hG
        refine Exists.elim hG ?_; clear hG; intro u21 hG
        refine Exists.elim hG ?_; clear hG; intro u22 hG
        refine Exists.elim hG ?_; clear hG; intro u23 hG
        refine Exists.elim hG ?_; clear hG; intro u24 hG
        refine Exists.elim hG ?_; clear hG; intro u25 hG
        refine Exists.elim hG ?_; clear hG; intro u26 hG
        refine Exists.elim hG ?_; clear hG; intro u27 hG
        refine Exists.elim hG ?_; clear hG; intro u28 hG
        refine Exists.elim hG ?_; clear hG; intro u29 hG
        refine And.elim ?_ hG; clear hG; intro ha hG
        refine And.elim ?_ hG; clear hG; intro hM hG
        refine And.elim ?_ hG; clear hG; intro f0 hG
        refine And.elim ?_ hG; clear hG; intro f1 hG
        refine And.elim ?_ hG; clear hG; intro f2 hG
        refine And.elim ?_ hG; clear hG; intro f3 hG
        refine And.elim ?_ hG; clear hG; intro f4 hG
        refine And.elim ?_ hG; clear hG; intro f5 hG
        refine And.elim ?_ hG; clear hG; intro f6 hG
        refine And.elim ?_ hG; clear hG; intro f7 hG
        refine And.elim ?_ hG; clear hG; intro f8 hG
        have f9 := hG; clear hG
        subst ha
        have HM := Lib.hid hM
        clear hM hd
        have F0 := Lib.hid f0; clear f0
        have F1 := Lib.hid f1; clear f1
        have F2 := Lib.hid f2; clear f2
        have F3 := Lib.hid f3; clear f3
        have F4 := Lib.hid f4; clear f4
        have F5 := Lib.hid f5; clear f5
        have F6 := Lib.hid f6; clear f6
        have F7 := Lib.hid f7; clear f7
        have F8 := Lib.hid f8; clear f8
        have F9 := Lib.hid f9; clear f9
        go_simp
        go_wp2
        exact ⟨_, _, _, _, _, _, _, _, _, _, rfl, HM.out.same (i := 0) (by decide) (by decide), fun _ => rfl, F1.out, F2.out, F3.out, F4.out, F5.out, F6.out, F7.out, F8.out, F9.out⟩
      · intro L a' wx hLi hd hG K hK
        refine Exists.elim hG ?_; clear hG; intro u20 hG
        refine Exists.elim hG ?_; clear hG; intro u21 hG
        refine Exists.elim hG ?_; clear hG; intro u22 hG
        refine Exists.elim hG ?_; clear hG; intro u23 hG
        refine Exists.elim hG ?_; clear hG; intro u24 hG
        refine Exists.elim hG ?_; clear hG; intro u25 hG
        refine Exists.elim hG ?_; clear hG; intro u26 hG
        refine Exists.elim hG ?_; clear hG; intro u27 hG
        refine Exists.elim hG ?_; clear hG; intro u28 hG
        refine Exists.elim hG ?_; clear hG; intro u29 hG
        refine And.elim ?_ hG; clear hG; intro ha hG
        refine And.elim ?_ hG; clear hG; intro hM hG
        refine And.elim ?_ hG; clear hG; intro f0 hG
        refine And.elim ?_ hG; clear hG; intro f1 hG
        refine And.elim ?_ hG; clear hG; intro f2 hG
        refine And.elim ?_ hG; clear hG; intro f3 hG
        refine And.elim ?_ hG; clear hG; intro f4 hG
        refine And.elim ?_ hG; clear hG; intro f5 hG
        refine And.elim ?_ hG; clear hG; intro f6 hG
        refine And.elim ?_ hG; clear hG; intro f7 hG
        refine And.elim ?_ hG; clear hG; intro f8 hG
        have f9 := hG; clear hG
        subst ha
        obtain rfl := f0 (hd ⟨0, .data⟩ (by simp) rfl)
        have hcell := hM.key hLi
        have HM := Lib.hid hM
        clear hM hd
        have F0 := Lib.hid f0; clear f0
        have F1 := Lib.hid f1; clear f1
        have F2 := Lib.hid f2; clear f2
        have F3 := Lib.hid f3; clear f3
        have F4 := Lib.hid f4; clear f4
        have F5 := Lib.hid f5; clear f5
        have F6 := Lib.hid f6; clear f6
        have F7 := Lib.hid f7; clear f7
        have F8 := Lib.hid f8; clear f8
        have F9 := Lib.hid f9; clear f9
        go_simp
        go_wp2
        exact ⟨_, _, _, _, _, _, _, _, _, _, rfl, HM.out.same (i := 1) (by decide) (by decide), fun _ => rfl, fun _ => rfl, F2.out, F3.out, F4.out, F5.out, F6.out, F7.out, F8.out, F9.out⟩
      · intro L a' wx hLi hd hG K hK
        refine Exists.elim hG ?_; clear hG; intro u20 hG
        refine Exists.elim hG ?_; clear hG; intro u21 hG
        refine Exists.elim hG ?_; clear hG; intro u22 hG
        refine Exists.elim hG ?_; clear hG; intro u23 hG
        refine Exists.elim hG ?_; clear hG; intro u24 hG
        refine Exists.elim hG ?_; clear hG; intro u25 hG
        refine Exists.elim hG ?_; clear hG; intro u26 hG
        refine Exists.elim hG ?_; clear hG; intro u27 hG
        refine Exists.elim hG ?_; clear hG; intro u28 hG
        refine Exists.elim hG ?_; clear hG; intro u29 hG
        refine And.elim ?_ hG; clear hG; intro ha hG
        refine And.elim ?_ hG; clear hG; intro hM hG
        refine And.elim ?_ hG; clear hG; intro f0 hG
        refine And.elim ?_ hG; clear hG; intro f1 hG
        refine And.elim ?_ hG; clear hG; intro f2 hG
        refine And.elim ?_ hG; clear hG; intro f3 hG
        refine And.elim ?_ hG; clear hG; intro f4 hG
        refine And.elim ?_ hG; clear hG; intro f5 hG
        refine And.elim ?_ hG; clear hG; intro f6 hG
        refine And.elim ?_ hG; clear hG; intro f7 hG
        refine And.elim ?_ hG; clear hG; intro f8 hG
        have f9 := hG; clear hG
        subst ha
        obtain rfl := f1 (hd ⟨1, .data⟩ (by simp) rfl)
        have HM := Lib.hid hM
        clear hM hd
        have F0 := Lib.hid f0; clear f0
        have F1 := Lib.hid f1; clear f1
        have F2 := Lib.hid f2; clear f2
        have F3 := Lib.hid f3; clear f3
        have F4 := Lib.hid f4; clear f4
        have F5 := Lib.hid f5; clear f5
        have F6 := Lib.hid f6; clear f6
        have F7 := Lib.hid f7; clear f7
        have F8 := Lib.hid f8; clear f8
        have F9 := Lib.hid f9; clear f9
        go_simp
        refine (cut_any ckey 20 (by omega) _ HKZ.out).mono ?_
        rintro e w' ⟨rfl, rfl⟩
        go_wp2
        exact ⟨_, _, _, _, _, _, _, _, _, _, rfl, HM.out.same (i := 2) (by decide) (by decide), F0.out, fun _ => rfl, fun _ => rfl, F3.out, F4.out, F5.out, F6.out, F7.out, F8.out, F9.out⟩
      · intro L a' wx hLi hd hG K hK
        refine Exists.elim hG ?_; clear hG; intro u20 hG
        refine Exists.elim hG ?_; clear hG; intro u21 hG
        refine Exists.elim hG ?_; clear hG; intro u22 hG
        refine Exists.elim hG ?_; clear hG; intro u23 hG
        refine Exists.elim hG ?_; clear hG; intro u24 hG
        refine Exists.elim hG ?_; clear hG; intro u25 hG
        refine Exists.elim hG ?_; clear hG; intro u26 hG
        refine Exists.elim hG ?_; clear hG; intro u27 hG
        refine Exists.elim hG ?_; clear hG; intro u28 hG
        refine Exists.elim hG ?_; clear hG; intro u29 hG
        refine And.elim ?_ hG; clear hG; intro ha hG
        refine And.elim ?_ hG; clear hG; intro hM hG
        refine And.elim ?_ hG; clear hG; intro f0 hG
        refine And.elim ?_ hG; clear hG; intro f1 hG
        refine And.elim ?_ hG; clear hG; intro f2 hG
        refine And.elim ?_ hG; clear hG; intro f3 hG
        refine And.elim ?_ hG; clear hG; intro f4 hG
        refine And.elim ?_ hG; clear hG; intro f5 hG
        refine And.elim ?_ hG; clear hG; intro f6 hG
        refine And.elim ?_ hG; clear hG; intro f7 hG
        refine And.elim ?_ hG; clear hG; intro f8 hG
        have f9 := hG; clear hG
        subst ha
        have HM := Lib.hid hM
        clear hM hd
        have F0 := Lib.hid f0; clear f0
        have F1 := Lib.hid f1; clear f1
        have F2 := Lib.hid f2; clear f2
        have F3 := Lib.hid f3; clear f3
        have F4 := Lib.hid f4; clear f4
        have F5 := Lib.hid f5; clear f5
        have F6 := Lib.hid f6; clear f6
        have F7 := Lib.hid f7; clear f7
        have F8 := Lib.hid f8; clear f8
        have F9 := Lib.hid f9; clear f9
        go_simp
        go_wp2
        exact ⟨_, _, _, _, _, _, _, _, _, _, rfl, HM.out.same (i := 3) (by decide) (by decide), F0.out, F1.out, F2.out, fun _ => rfl, F4.out, F5.out, F6.out, F7.out, F8.out, F9.out⟩
      · intro L a' wx hLi hd hG K hK
        refine Exists.elim hG ?_; clear hG; intro u20 hG
        refine Exists.elim hG ?_; clear hG; intro u21 hG
        refine Exists.elim hG ?_; clear hG; intro u22 hG
        refine Exists.elim hG ?_; clear hG; intro u23 hG
        refine Exists.elim hG ?_; clear hG; intro u24 hG
        refine Exists.elim hG ?_; clear hG; intro u25 hG
        refine Exists.elim hG ?_; clear hG; intro u26 hG
        refine Exists.elim hG ?_; clear hG; intro u27 hG
        refine Exists.elim hG ?_; clear hG; intro u28 hG
        refine Exists.elim hG ?_; clear hG; intro u29 hG
        refine And.elim ?_ hG; clear hG; intro ha hG
        refine And.elim ?_ hG; clear hG; intro hM hG
        refine And.elim ?_ hG; clear hG; intro f0 hG
        refine And.elim ?_ hG; clear hG; intro f1 hG
        refine And.elim ?_ hG; clear hG; intro f2 hG
        refine And.elim ?_ hG; clear hG; intro f3 hG
        refine And.elim ?_ hG; clear hG; intro f4 hG
        refine And.elim ?_ hG; clear hG; intro f5 hG
        refine And.elim ?_ hG; clear hG; intro f6 hG
        refine And.elim ?_ hG; clear hG; intro f7 hG
        refine And.elim ?_ hG; clear hG; intro f8 hG
        have f9 := hG; clear hG
        subst ha
        obtain rfl := f3 (hd ⟨3, .data⟩ (by simp) rfl)
        have HM := Lib.hid hM
        clear hM hd
        have F0 := Lib.hid f0; clear f0
        have F1 := Lib.hid f1; clear f1
        have F2 := Lib.hid f2; clear f2
        have F3 := Lib.hid f3; clear f3
        have F4 := Lib.hid f4; clear f4
        have F5 := Lib.hid f5; clear f5
        have F6 := Lib.hid f6; clear f6
        have F7 := Lib.hid f7; clear f7
        have F8 := Lib.hid f8; clear f8
        have F9 := Lib.hid f9; clear f9
        go_simp
        go_wp2
        exact ⟨_, _, _, _, _, _, _, _, _, _, rfl, HM.out.same (i := 4) (by decide) (by decide), F0.out, F1.out, F2.out, fun _ => rfl, fun _ => rfl, F5.out, F6.out, F7.out, F8.out, F9.out⟩
      · intro L a' wx hLi hd hG K hK
        refine Exists.elim hG ?_; clear hG; intro u20 hG
        refine Exists.elim hG ?_; clear hG; intro u21 hG
        refine Exists.elim hG ?_; clear hG; intro u22 hG
        refine Exists.elim hG ?_; clear hG; intro u23 hG
        refine Exists.elim hG ?_; clear hG; intro u24 hG
        refine Exists.elim hG ?_; clear hG; intro u25 hG
        refine Exists.elim hG ?_; clear hG; intro u26 hG
        refine Exists.elim hG ?_; clear hG; intro u27 hG
        refine Exists.elim hG ?_; clear hG; intro u28 hG
        refine Exists.elim hG ?_; clear hG; intro u29 hG
        refine And.elim ?_ hG; clear hG; intro ha hG
        refine And.elim ?_ hG; clear hG; intro hM hG
        refine And.elim ?_ hG; clear hG; intro f0 hG
        refine And.elim ?_ hG; clear hG; intro f1 hG
        refine And.elim ?_ hG; clear hG; intro f2 hG
        refine And.elim ?_ hG; clear hG; intro f3 hG
        refine And.elim ?_ hG; clear hG; intro f4 hG
        refine And.elim ?_ hG; clear hG; intro f5 hG
        refine And.elim ?_ hG; clear hG; intro f6 hG
        refine And.elim ?_ hG; clear hG; intro f7 hG
        refine And.elim ?_ hG; clear hG; intro f8 hG
        have f9 := hG; clear hG
        subst ha
        obtain rfl := f4 (hd ⟨4, .data⟩ (by simp) rfl)
        have hcell := hM.val hLi
        have HM := Lib.hid hM
        clear hM hd
        have F0 := Lib.hid f0; clear f0
        have F1 := Lib.hid f1; clear f1
        have F2 := Lib.hid f2; clear f2
        have F3 := Lib.hid f3; clear f3
        have F4 := Lib.hid f4; clear f4
        have F5 := Lib.hid f5; clear f5
        have F6 := Lib.hid f6; clear f6
        have F7 := Lib.hid f7; clear f7
        have F8 := Lib.hid f8; clear f8
        have F9 := Lib.hid f9; clear f9
        go_simp
        go_wp2
        exact ⟨_, _, _, _, _, _, _, _, _, _, rfl, HM.out.same (i := 5) (by decide) (by decide), F0.out, F1.out, F2.out, F3.out, fun _ => rfl, fun _ => rfl, F6.out, F7.out, F8.out, F9.out⟩
      · intro L a' wx hLi hd hG K hK
        refine Exists.elim hG ?_; clear hG; intro u20 hG
        refine Exists.elim hG ?_; clear hG; intro u21 hG
        refine Exists.elim hG ?_; clear hG; intro u22 hG
        refine Exists.elim hG ?_; clear hG; intro u23 hG
        refine Exists.elim hG ?_; clear hG; intro u24 hG
        refine Exists.elim hG ?_; clear hG; intro u25 hG
        refine Exists.elim hG ?_; clear hG; intro u26 hG
        refine Exists.elim hG ?_; clear hG; intro u27 hG
        refine Exists.elim hG ?_; clear hG; intro u28 hG
        refine Exists.elim hG ?_; clear hG; intro u29 hG
        refine And.elim ?_ hG; clear hG; intro ha hG
        refine And.elim ?_ hG; clear hG; intro hM hG
        refine And.elim ?_ hG; clear hG; intro f0 hG
        refine And.elim ?_ hG; clear hG; intro f1 hG
        refine And.elim ?_ hG; clear hG; intro f2 hG
        refine And.elim ?_ hG; clear hG; intro f3 hG
        refine And.elim ?_ hG; clear hG; intro f4 hG
        refine And.elim ?_ hG; clear hG; intro f5 hG
        refine And.elim ?_ hG; clear hG; intro f6 hG
        refine And.elim ?_ hG; clear hG; intro f7 hG
        refine And.elim ?_ hG; clear hG; intro f8 hG
        have f9 := hG; clear hG
        subst ha
        obtain rfl := f5 (hd ⟨5, .data⟩ (by simp) rfl)
        have HM := Lib.hid hM
        clear hM hd
        have F0 := Lib.hid f0; clear f0
        have F1 := Lib.hid f1; clear f1
        have F2 := Lib.hid f2; clear f2
        have F3 := Lib.hid f3; clear f3
        have F4 := Lib.hid f4; clear f4
        have F5 := Lib.hid f5; clear f5
        have F6 := Lib.hid f6; clear f6
        have F7 := Lib.hid f7; clear f7
        have F8 := Lib.hid f8; clear f8
        have F9 := Lib.hid f9; clear f9
        go_simp
        refine (cut_any cval 20 (by omega) _ HVZ.out).mono ?_
        rintro e w' ⟨rfl, rfl⟩
        go_wp2
        exact ⟨_, _, _, _, _, _, _, _, _, _, rfl, HM.out.same (i := 6) (by decide) (by decide), F0.out, F1.out, F2.out, F3.out, F4.out, fun _ => rfl, fun _ => rfl, F7.out, F8.out, F9.out⟩
      · intro L a' wx hLi hd hG K hK
        refine Exists.elim hG ?_; clear hG; intro u20 hG
        refine Exists.elim hG ?_; clear hG; intro u21 hG
        refine Exists.elim hG ?_; clear hG; intro u22 hG
        refine Exists.elim hG ?_; clear hG; intro u23 hG
        refine Exists.elim hG ?_; clear hG; intro u24 hG
        refine Exists.elim hG ?_; clear hG; intro u25 hG
        refine Exists.elim hG ?_; clear hG; intro u26 hG
        refine Exists.elim hG ?_; clear hG; intro u27 hG
        refine Exists.elim hG ?_; clear hG; intro u28 hG
        refine Exists.elim hG ?_; clear hG; intro u29 hG
        refine And.elim ?_ hG; clear hG; intro ha hG
        refine And.elim ?_ hG; clear hG; intro hM hG
        refine And.elim ?_ hG; clear hG; intro f0 hG
        refine And.elim ?_ hG; clear hG; intro f1 hG
        refine And.elim ?_ hG; clear hG; intro f2 hG
        refine And.elim ?_ hG; clear hG; intro f3 hG
        refine And.elim ?_ hG; clear hG; intro f4 hG
        refine And.elim ?_ hG; clear hG; intro f5 hG
        refine And.elim ?_ hG; clear hG; intro f6 hG
        refine And.elim ?_ hG; clear hG; intro f7 hG
        refine And.elim ?_ hG; clear hG; intro f8 hG
        have f9 := hG; clear hG
        subst ha
        have HM := Lib.hid hM
        clear hM hd
        have F0 := Lib.hid f0; clear f0
        have F1 := Lib.hid f1; clear f1
        have F2 := Lib.hid f2; clear f2
        have F3 := Lib.hid f3; clear f3
        have F4 := Lib.hid f4; clear f4
        have F5 := Lib.hid f5; clear f5
        have F6 := Lib.hid f6; clear f6
        have F7 := Lib.hid f7; clear f7
        have F8 := Lib.hid f8; clear f8
        have F9 := Lib.hid f9; clear f9
        go_simp
        go_wp2
        exact ⟨_, _, _, _, _, _, _, _, _, _, rfl, HM.out.same (i := 7) (by decide) (by decide), F0.out, F1.out, F2.out, F3.out, F4.out, F5.out, F6.out, fun _ => rfl, F8.out, F9.out⟩
      · intro L a' wx hLi hd hG K hK
        refine Exists.elim hG ?_; clear hG; intro u20 hG
        refine Exists.elim hG ?_; clear hG; intro u21 hG
        refine Exists.elim hG ?_; clear hG; intro u22 hG
        refine Exists.elim hG ?_; clear hG; intro u23 hG
        refine Exists.elim hG ?_; clear hG; intro u24 hG
        refine Exists.elim hG ?_; clear hG; intro u25 hG
        refine Exists.elim hG ?_; clear hG; intro u26 hG
        refine Exists.elim hG ?_; clear hG; intro u27 hG
        refine Exists.elim hG ?_; clear hG; intro u28 hG
        refine Exists.elim hG ?_; clear hG; intro u29 hG
        refine And.elim ?_ hG; clear hG; intro ha hG
        refine And.elim ?_ hG; clear hG; intro hM hG
        refine And.elim ?_ hG; clear hG; intro f0 hG
        refine And.elim ?_ hG; clear hG; intro f1 hG
        refine And.elim ?_ hG; clear hG; intro f2 hG
        refine And.elim ?_ hG; clear hG; intro f3 hG
        refine And.elim ?_ hG; clear hG; intro f4 hG
        refine And.elim ?_ hG; clear hG; intro f5 hG
        refine And.elim ?_ hG; clear hG; intro f6 hG
        refine And.elim ?_ hG; clear hG; intro f7 hG
        refine And.elim ?_ hG; clear hG; intro f8 hG
        have f9 := hG; clear hG
        subst ha
        obtain rfl := f7 (hd ⟨7, .data⟩ (by simp) rfl)
        obtain rfl := f2 (hd ⟨2, .data⟩ (by simp) rfl)
        have h1 : L 1 = true := hd ⟨1, .phase⟩ (by simp) rfl
        have HM7 := Lib.hid (hM.put0 h1)
        obtain ⟨xd, hdc⟩ := hM.c2
        have hdf := hM.frz 2
        have HM := Lib.hid hM
        clear hM hd
        have F0 := Lib.hid f0; clear f0
        have F1 := Lib.hid f1; clear f1
        have F2 := Lib.hid f2; clear f2
        have F3 := Lib.hid f3; clear f3
        have F4 := Lib.hid f4; clear f4
        have F5 := Lib.hid f5; clear f5
        have F6 := Lib.hid f6; clear f6
        have F7 := Lib.hid f7; clear f7
        have F8 := Lib.hid f8; clear f8
        have F9 := Lib.hid f9; clear f9
        go_simp
        go_wp2
        exact ⟨_, _, _, _, _, _, _, _, _, _, rfl, HM7.out, F0.out, F1.out, fun _ => rfl, F3.out, F4.out, F5.out, F6.out, fun _ => rfl, F8.out, F9.out⟩
      · intro L a' wx hLi hd hG K hK
        refine Exists.elim hG ?_; clear hG; intro u20 hG
        refine Exists.elim hG ?_; clear hG; intro u21 hG
        refine Exists.elim hG ?_; clear hG; intro u22 hG
        refine Exists.elim hG ?_; clear hG; intro u23 hG
        refine Exists.elim hG ?_; clear hG; intro u24 hG
        refine Exists.elim hG ?_; clear hG; intro u25 hG
        refine Exists.elim hG ?_; clear hG; intro u26 hG
        refine Exists.elim hG ?_; clear hG; intro u27 hG
        refine Exists.elim hG ?_; clear hG; intro u28 hG
        refine Exists.elim hG ?_; clear hG; intro u29 hG
        refine And.elim ?_ hG; clear hG; intro ha hG
        refine And.elim ?_ hG; clear hG; intro hM hG
        refine And.elim ?_ hG; clear hG; intro f0 hG
        refine And.elim ?_ hG; clear hG; intro f1 hG
        refine And.elim ?_ hG; clear hG; intro f2 hG
        refine And.elim ?_ hG; clear hG; intro f3 hG
        refine And.elim ?_ hG; clear hG; intro f4 hG
        refine And.elim ?_ hG; clear hG; intro f5 hG
        refine And.elim ?_ hG; clear hG; intro f6 hG
        refine And.elim ?_ hG; clear hG; intro f7 hG
        refine And.elim ?_ hG; clear hG; intro f8 hG
        have f9 := hG; clear hG
        subst ha
        have HM := Lib.hid hM
        clear hM hd
        have F0 := Lib.hid f0; clear f0
        have F1 := Lib.hid f1; clear f1
        have F2 := Lib.hid f2; clear f2
        have F3 := Lib.hid f3; clear f3
        have F4 := Lib.hid f4; clear f4
        have F5 := Lib.hid f5; clear f5
        have F6 := Lib.hid f6; clear f6
        have F7 := Lib.hid f7; clear f7
        have F8 := Lib.hid f8; clear f8
        have F9 := Lib.hid f9; clear f9
        go_simp
        go_wp2
        exact ⟨_, _, _, _, _, _, _, _, _, _, rfl, HM.out.same (i := 9) (by decide) (by decide), F0.out, F1.out, F2.out, F3.out, F4.out, F5.out, F6.out, F7.out, fun _ => rfl, F9.out⟩
      · intro L a' wx hLi hd hG K hK
        refine Exists.elim hG ?_; clear hG; intro u20 hG
        refine Exists.elim hG ?_; clear hG; intro u21 hG
        refine Exists.elim hG ?_; clear hG; intro u22 hG
        refine Exists.elim hG ?_; clear hG; intro u23 hG
        refine Exists.elim hG ?_; clear hG; intro u24 hG
        refine Exists.elim hG ?_; clear hG; intro u25 hG
        refine Exists.elim hG ?_; clear hG; intro u26 hG
        refine Exists.elim hG ?_; clear hG; intro u27 hG
        refine Exists.elim hG ?_; clear hG; intro u28 hG
        refine Exists.elim hG ?_; clear hG; intro u29 hG
        refine And.elim ?_ hG; clear hG; intro ha hG
        refine And.elim ?_ hG; clear hG; intro hM hG
        refine And.elim ?_ hG; clear hG; intro f0 hG
        refine And.elim ?_ hG; clear hG; intro f1 hG
        refine And.elim ?_ hG; clear hG; intro f2 hG
        refine And.elim ?_ hG; clear hG; intro f3 hG
        refine And.elim ?_ hG; clear hG; intro f4 hG
        refine And.elim ?_ hG; clear hG; intro f5 hG
        refine And.elim ?_ hG; clear hG; intro f6 hG
        refine And.elim ?_ hG; clear hG; intro f7 hG
        refine And.elim ?_ hG; clear hG; intro f8 hG
        have f9 := hG; clear hG
        subst ha
        obtain rfl := f8 (hd ⟨9, .data⟩ (by simp) rfl)
        have HM := Lib.hid hM
        clear hM hd
        have F0 := Lib.hid f0; clear f0
        have F1 := Lib.hid f1; clear f1
        have F2 := Lib.hid f2; clear f2
        have F3 := Lib.hid f3; clear f3
        have F4 := Lib.hid f4; clear f4
        have F5 := Lib.hid f5; clear f5
        have F6 := Lib.hid f6; clear f6
        have F7 := Lib.hid f7; clear f7
        have F8 := Lib.hid f8; clear f8
        have F9 := Lib.hid f9; clear f9
        go_simp
        go_wp2
        exact ⟨_, _, _, _, _, _, _, _, _, _, rfl, HM.out.same (i := 10) (by decide) (by decide), F0.out, F1.out, F2.out, F3.out, F4.out, F5.out, F6.out, F7.out, fun _ => rfl, fun _ => rfl⟩
      · intro L a' wx hLi hd hG K hK
        refine Exists.elim hG ?_; clear hG; intro u20 hG
        refine Exists.elim hG ?_; clear hG; intro u21 hG
        refine Exists.elim hG ?_; clear hG; intro u22 hG
        refine Exists.elim hG ?_; clear hG; intro u23 hG
        refine Exists.elim hG ?_; clear hG; intro u24 hG
        refine Exists.elim hG ?_; clear hG; intro u25 hG
        refine Exists.elim hG ?_; clear hG; intro u26 hG
        refine Exists.elim hG ?_; clear hG; intro u27 hG
        refine Exists.elim hG ?_; clear hG; intro u28 hG
        refine Exists.elim hG ?_; clear hG; intro u29 hG
        refine And.elim ?_ hG; clear hG; intro ha hG
        refine And.elim ?_ hG; clear hG; intro hM hG
        refine And.elim ?_ hG; clear hG; intro f0 hG
        refine And.elim ?_ hG; clear hG; intro f1 hG
        refine And.elim ?_ hG; clear hG; intro f2 hG
        refine And.elim ?_ hG; clear hG; intro f3 hG
        refine And.elim ?_ hG; clear hG; intro f4 hG
        refine And.elim ?_ hG; clear hG; intro f5 hG
        refine And.elim ?_ hG; clear hG; intro f6 hG
        refine And.elim ?_ hG; clear hG; intro f7 hG
        refine And.elim ?_ hG; clear hG; intro f8 hG
        have f9 := hG; clear hG
        subst ha
        obtain rfl := f9 (hd ⟨10, .data⟩ (by simp) rfl)
        obtain rfl := f6 (hd ⟨6, .data⟩ (by simp) rfl)
        have h4 : L 5 = true := hd ⟨5, .phase⟩ (by simp) rfl
        have HM9 := Lib.hid (hM.put1 h4)
        obtain ⟨xd, hdc⟩ := hM.c11
        have hdf := hM.frz 11
        have HM := Lib.hid hM
        clear hM hd
        have F0 := Lib.hid f0; clear f0
        have F1 := Lib.hid f1; clear f1
        have F2 := Lib.hid f2; clear f2
        have F3 := Lib.hid f3; clear f3
        have F4 := Lib.hid f4; clear f4
        have F5 := Lib.hid f5; clear f5
        have F6 := Lib.hid f6; clear f6
        have F7 := Lib.hid f7; clear f7
        have F8 := Lib.hid f8; clear f8
        have F9 := Lib.hid f9; clear f9
        go_simp
        go_wp2
        exact ⟨_, _, _, _, _, _, _, _, _, _, rfl, HM9.out, F0.out, F1.out, F2.out, F3.out, F4.out, F5.out, fun _ => rfl, F7.out, F8.out, fun _ => rfl⟩
      · intro L a' wx hL hG
        obtain ⟨u20, u21, u22, u23, u24, u25, u26, u27, u28, u29, rfl, hM, f0, f1, f2, f3, f4, f5, f6, f7, f8, f9⟩ := hG
        have h7 := hL 8 (by simp)
        have h9 := hL 11 (by simp)
        obtain ⟨hgrow, x0, x1, hbx, _, b2, _, b4⟩ := hM
        obtain rfl := (b2 h7).2
        obtain rfl := (b4 h9).2
        have HOX := Lib.hid (HO0.out.kept hgrow (.inr HNE.out))
        have HBB := Lib.hid (HB0.out.grown hgrow HB0.out.size (fun g hg => by cases hg; exact hsz))
        have hszx : w.heap.size ≤ wx.heap.size := HBB.out.size
        clear b2 b4 h7 h9 hL f0 f1 f2 f3 f4 f5 f6 f7 f8 f9 HO0 HB0 HD0 hgrow HKZ HVZ
        obtain ⟨kk, hkk⟩ : ∃ kk, cutS ckey 20 = kk := ⟨_, rfl⟩
        obtain ⟨vv, hvv⟩ : ∃ vv, cutS cval 20 = vv := ⟨_, rfl⟩
        rw [hkk, hvv] at hbx
        have HKK := Lib.hid hkk
        have HVV := Lib.hid hvv
        clear hkk hvv
        have x0 : wx.cell? ⟨D, 0, none⟩ = some (.int .i64 cid) := hbx.cell 0
        have x1 : wx.cell? ⟨D, 1, none⟩ = some (.int .i64 cop) := hbx.cell 1
        have x2 : wx.cell? ⟨D, 2, none⟩ = some (.string kk) := hbx.cell 2
        have x3 : wx.cell? ⟨D, 3, none⟩ = some (.int .i64 cnode) := hbx.cell 3
        have x4 : wx.cell? ⟨D, 4, none⟩ = some (.int .i64 cfrm) := hbx.cell 4
        have x5 : wx.cell? ⟨D, 5, none⟩ = some (.int .i64 cto) := hbx.cell 5
        have x6 : wx.cell? ⟨D, 6, none⟩ = some (.bool cdone) := hbx.cell 6
        have x7 : wx.cell? ⟨D, 7, none⟩ = some (.int .i64 crid) := hbx.cell 7
        have x8 : wx.cell? ⟨D, 8, none⟩ = some (.int .i64 crop) := hbx.cell 8
        have x9 : wx.cell? ⟨D, 9, none⟩ = some (.string crkey) := hbx.cell 9
        have x10 : wx.cell? ⟨D, 10, none⟩ = some (.int .i64 cerr) := hbx.cell 10
        have x11 : wx.cell? ⟨D, 11, none⟩ = some (.string vv) := hbx.cell 11
        have x12 : wx.cell? ⟨D, 12, none⟩ = some (.bool chas) := hbx.cell 12
        have gf4 := hbx.frozen 4
        have gf5 := hbx.frozen 5
        clear hbx
        have hcs : (cto < -100 ∨ (¬ cto < -100 ∧ 100 < cto) ∨ (¬ cto < -100 ∧ ¬ 100 < cto ∧ cfrm < -100) ∨ (¬ cto < -100 ∧ ¬ 100 < cto ∧ ¬ cfrm < -100 ∧ 100 < cfrm)) ∨ (¬ cto < -100 ∧ ¬ 100 < cto ∧ ¬ cfrm < -100 ∧ ¬ 100 < cfrm) := by omega
        rcases hcs with (h1 | ⟨h1, h2⟩ | ⟨h1, h2, h3⟩ | ⟨h1, h2, h3, h4⟩) | ⟨h1, h2, h3, h4⟩
        · have HZX : Hid (((wx.setCell ⟨D, 4, none⟩ (.int .i64 0)).setCell ⟨D, 5, none⟩ (.int .i64 3)).heap.size = wx.heap.size) := Lib.hid (by rw [setCell_size, setCell_size])
          have HE : Hid (cut1C ⟨cid, cop, ckey, cnode, cfrm, cto, cdone, crid, crop, crkey, cerr, cval, chas⟩ = ⟨cid, cop, kk, cnode, 0, 3, cdone, crid, crop, crkey, cerr, vv, chas⟩) := Lib.hid (by
            unfold cut1C
            simp only
            rw [if_pos (by omega), HKK.out, HVV.out])
          have HOA := Lib.hid ((own_far (own_far HOX.out ⟨D, 4, none⟩ HNE.out (.int .i64 0)) ⟨D, 5, none⟩ HNE.out (.int .i64 3)).alloc (.cells #[.int .i64 cid, .int .i64 cop, .string kk, .int .i64 cnode, .int .i64 0, .int .i64 3, .bool cdone, .int .i64 crid, .int .i64 crop, .string crkey, .int .i64 cerr, .string vv, .bool chas] 45))
          have HN1 := Lib.hid (World.news_of_block (heap_alloc_new (((wx.setCell ⟨D, 4, none⟩ (.int .i64 0)).setCell ⟨D, 5, none⟩ (.int .i64 3))) (.cells #[.int .i64 cid, .int .i64 cop, .string kk, .int .i64 cnode, .int .i64 0, .int .i64 3, .bool cdone, .int .i64 crid, .int .i64 crop, .string crkey, .int .i64 cerr, .string vv, .bool chas] 45)))
          rw [HZX.out] at HN1
          have HN2 : Hid (∀ u ∈ ([.int .i64 cid, .int .i64 cop, .string kk, .int .i64 cnode, .int .i64 0, .int .i64 3, .bool cdone, .int .i64 crid, .int .i64 crop, .string crkey, .int .i64 cerr, .string vv, .bool chas] : List Value), u.oneCell' = true) := Lib.hid (by simp [Value.oneCell'])
          have HN3 : Hid (k + 1 ≤ maxLen ∧ (k + 1) * 128 ≤ 140737488355328) := Lib.hid (by unfold maxLen; omega)
          have HN4 : Hid (w.heap.size ≤ ((((wx.setCell ⟨D, 4, none⟩ (.int .i64 0)).setCell ⟨D, 5, none⟩ (.int .i64 3))).alloc (.cells #[.int .i64 cid, .int .i64 cop, .string kk, .int .i64 cnode, .int .i64 0, .int .i64 3, .bool cdone, .int .i64 crid, .int .i64 crop, .string crkey, .int .i64 cerr, .string vv, .bool chas] 45)).heap.size) := Lib.hid (by have := HZX.out; rw [World.size_alloc]; omega)
          go_wp2_with (at_builtin; refine wpList_append_own _ rfl (.tmp 50) (.tmp 52) 40 rfl w.heap.size 45 i0 _ 13 128 Try.underlying40 HI0.out.1 HI0.out.2.1 HI0.out.2.2.1 HI0.out.2.2.2 rfl (by decide) _ _ _ rfl HOA.out ⟨wx.heap.size, 0, none⟩ 1 1 [.int .i64 cid, .int .i64 cop, .string kk, .int .i64 cnode, .int .i64 0, .int .i64 3, .bool cdone, .int .i64 crid, .int .i64 crop, .string crkey, .int .i64 cerr, .string vv, .bool chas] rfl rfl HN1.out HN2.out HN3.out.1 HN3.out.2 HN4.out ?_)
          intro v' w' hown' hg _
          have HO9 : Hid (w'.ownsRow w.heap.size 45 13 v' (k + 1) ((cutC (k + 1) Ls).flatMap Cl.cells)) := Lib.hid (by
            rw [HCS.out, HE.out, List.flatMap_append]
            exact hown')
          have HB9 : Hid (Below w.heap.size w w') := Lib.hid (((((HBB.out.setCell (p := ⟨D, 4, none⟩) hsz (.int .i64 0)).setCell (p := ⟨D, 5, none⟩) hsz (.int .i64 3))).alloc (by have := HZX.out; omega) (.cells #[.int .i64 cid, .int .i64 cop, .string kk, .int .i64 cnode, .int .i64 0, .int .i64 3, .bool cdone, .int .i64 crid, .int .i64 crop, .string crkey, .int .i64 cerr, .string vv, .bool chas] 45)).grown hg (by have := HZX.out; rw [World.size_alloc]; omega) (fun g hg' => (HOX.out.lt g hg').1))
          clear hown' hg
          go_wp2
          go_roundw
          case rel => exact ⟨k + 1, by omega, by omega, by go_num, HO9.out, HB9.out⟩
          case measure => simp [intOf]; omega
        · have HZX : Hid (((wx.setCell ⟨D, 4, none⟩ (.int .i64 0)).setCell ⟨D, 5, none⟩ (.int .i64 3)).heap.size = wx.heap.size) := Lib.hid (by rw [setCell_size, setCell_size])
          have HE : Hid (cut1C ⟨cid, cop, ckey, cnode, cfrm, cto, cdone, crid, crop, crkey, cerr, cval, chas⟩ = ⟨cid, cop, kk, cnode, 0, 3, cdone, crid, crop, crkey, cerr, vv, chas⟩) := Lib.hid (by
            unfold cut1C
            simp only
            rw [if_pos (by omega), HKK.out, HVV.out])
          have HOA := Lib.hid ((own_far (own_far HOX.out ⟨D, 4, none⟩ HNE.out (.int .i64 0)) ⟨D, 5, none⟩ HNE.out (.int .i64 3)).alloc (.cells #[.int .i64 cid, .int .i64 cop, .string kk, .int .i64 cnode, .int .i64 0, .int .i64 3, .bool cdone, .int .i64 crid, .int .i64 crop, .string crkey, .int .i64 cerr, .string vv, .bool chas] 45))
          have HN1 := Lib.hid (World.news_of_block (heap_alloc_new (((wx.setCell ⟨D, 4, none⟩ (.int .i64 0)).setCell ⟨D, 5, none⟩ (.int .i64 3))) (.cells #[.int .i64 cid, .int .i64 cop, .string kk, .int .i64 cnode, .int .i64 0, .int .i64 3, .bool cdone, .int .i64 crid, .int .i64 crop, .string crkey, .int .i64 cerr, .string vv, .bool chas] 45)))
          rw [HZX.out] at HN1
          have HN2 : Hid (∀ u ∈ ([.int .i64 cid, .int .i64 cop, .string kk, .int .i64 cnode, .int .i64 0, .int .i64 3, .bool cdone, .int .i64 crid, .int .i64 crop, .string crkey, .int .i64 cerr, .string vv, .bool chas] : List Value), u.oneCell' = true) := Lib.hid (by simp [Value.oneCell'])
          have HN3 : Hid (k + 1 ≤ maxLen ∧ (k + 1) * 128 ≤ 140737488355328) := Lib.hid (by unfold maxLen; omega)
          have HN4 : Hid (w.heap.size ≤ ((((wx.setCell ⟨D, 4, none⟩ (.int .i64 0)).setCell ⟨D, 5, none⟩ (.int .i64 3))).alloc (.cells #[.int .i64 cid, .int .i64 cop, .string kk, .int .i64 cnode, .int .i64 0, .int .i64 3, .bool cdone, .int .i64 crid, .int .i64 crop, .string crkey, .int .i64 cerr, .string vv, .bool chas] 45)).heap.size) := Lib.hid (by have := HZX.out; rw [World.size_alloc]; omega)
          go_wp2_with (at_builtin; refine wpList_append_own _ rfl (.tmp 50) (.tmp 52) 40 rfl w.heap.size 45 i0 _ 13 128 Try.underlying40 HI0.out.1 HI0.out.2.1 HI0.out.2.2.1 HI0.out.2.2.2 rfl (by decide) _ _ _ rfl HOA.out ⟨wx.heap.size, 0, none⟩ 1 1 [.int .i64 cid, .int .i64 cop, .string kk, .int .i64 cnode, .int .i64 0, .int .i64 3, .bool cdone, .int .i64 crid, .int .i64 crop, .string crkey, .int .i64 cerr, .string vv, .bool chas] rfl rfl HN1.out HN2.out HN3.out.1 HN3.out.2 HN4.out ?_)
          intro v' w' hown' hg _
          have HO9 : Hid (w'.ownsRow w.heap.size 45 13 v' (k + 1) ((cutC (k + 1) Ls).flatMap Cl.cells)) := Lib.hid (by
            rw [HCS.out, HE.out, List.flatMap_append]
            exact hown')
          have HB9 : Hid (Below w.heap.size w w') := Lib.hid (((((HBB.out.setCell (p := ⟨D, 4, none⟩) hsz (.int .i64 0)).setCell (p := ⟨D, 5, none⟩) hsz (.int .i64 3))).alloc (by have := HZX.out; omega) (.cells #[.int .i64 cid, .int .i64 cop, .string kk, .int .i64 cnode, .int .i64 0, .int .i64 3, .bool cdone, .int .i64 crid, .int .i64 crop, .string crkey, .int .i64 cerr, .string vv, .bool chas] 45)).grown hg (by have := HZX.out; rw [World.size_alloc]; omega) (fun g hg' => (HOX.out.lt g hg').1))
          clear hown' hg
          go_wp2
          go_roundw
          case rel => exact ⟨k + 1, by omega, by omega, by go_num, HO9.out, HB9.out⟩
          case measure => simp [intOf]; omega
        · have HZX : Hid (((wx.setCell ⟨D, 4, none⟩ (.int .i64 0)).setCell ⟨D, 5, none⟩ (.int .i64 3)).heap.size = wx.heap.size) := Lib.hid (by rw [setCell_size, setCell_size])
          have HE : Hid (cut1C ⟨cid, cop, ckey, cnode, cfrm, cto, cdone, crid, crop, crkey, cerr, cval, chas⟩ = ⟨cid, cop, kk, cnode, 0, 3, cdone, crid, crop, crkey, cerr, vv, chas⟩) := Lib.hid (by
            unfold cut1C
            simp only
            rw [if_pos (by omega), HKK.out, HVV.out])
          have HOA := Lib.hid ((own_far (own_far HOX.out ⟨D, 4, none⟩ HNE.out (.int .i64 0)) ⟨D, 5, none⟩ HNE.out (.int .i64 3)).alloc (.cells #[.int .i64 cid, .int .i64 cop, .string kk, .int .i64 cnode, .int .i64 0, .int .i64 3, .bool cdone, .int .i64 crid, .int .i64 crop, .string crkey, .int .i64 cerr, .string vv, .bool chas] 45))
          have HN1 := Lib.hid (World.news_of_block (heap_alloc_new (((wx.setCell ⟨D, 4, none⟩ (.int .i64 0)).setCell ⟨D, 5, none⟩ (.int .i64 3))) (.cells #[.int .i64 cid, .int .i64 cop, .string kk, .int .i64 cnode, .int .i64 0, .int .i64 3, .bool cdone, .int .i64 crid, .int .i64 crop, .string crkey, .int .i64 cerr, .string vv, .bool chas] 45)))
          rw [HZX.out] at HN1
          have HN2 : Hid (∀ u ∈ ([.int .i64 cid, .int .i64 cop, .string kk, .int .i64 cnode, .int .i64 0, .int .i64 3, .bool cdone, .int .i64 crid, .int .i64 crop, .string crkey, .int .i64 cerr, .string vv, .bool chas] : List Value), u.oneCell' = true) := Lib.hid (by simp [Value.oneCell'])
          have HN3 : Hid (k + 1 ≤ maxLen ∧ (k + 1) * 128 ≤ 140737488355328) := Lib.hid (by unfold maxLen; omega)
          have HN4 : Hid (w.heap.size ≤ ((((wx.setCell ⟨D, 4, none⟩ (.int .i64 0)).setCell ⟨D, 5, none⟩ (.int .i64 3))).alloc (.cells #[.int .i64 cid, .int .i64 cop, .string kk, .int .i64 cnode, .int .i64 0, .int .i64 3, .bool cdone, .int .i64 crid, .int .i64 crop, .string crkey, .int .i64 cerr, .string vv, .bool chas] 45)).heap.size) := Lib.hid (by have := HZX.out; rw [World.size_alloc]; omega)
          go_wp2_with (at_builtin; refine wpList_append_own _ rfl (.tmp 50) (.tmp 52) 40 rfl w.heap.size 45 i0 _ 13 128 Try.underlying40 HI0.out.1 HI0.out.2.1 HI0.out.2.2.1 HI0.out.2.2.2 rfl (by decide) _ _ _ rfl HOA.out ⟨wx.heap.size, 0, none⟩ 1 1 [.int .i64 cid, .int .i64 cop, .string kk, .int .i64 cnode, .int .i64 0, .int .i64 3, .bool cdone, .int .i64 crid, .int .i64 crop, .string crkey, .int .i64 cerr, .string vv, .bool chas] rfl rfl HN1.out HN2.out HN3.out.1 HN3.out.2 HN4.out ?_)
          intro v' w' hown' hg _
          have HO9 : Hid (w'.ownsRow w.heap.size 45 13 v' (k + 1) ((cutC (k + 1) Ls).flatMap Cl.cells)) := Lib.hid (by
            rw [HCS.out, HE.out, List.flatMap_append]
            exact hown')
          have HB9 : Hid (Below w.heap.size w w') := Lib.hid (((((HBB.out.setCell (p := ⟨D, 4, none⟩) hsz (.int .i64 0)).setCell (p := ⟨D, 5, none⟩) hsz (.int .i64 3))).alloc (by have := HZX.out; omega) (.cells #[.int .i64 cid, .int .i64 cop, .string kk, .int .i64 cnode, .int .i64 0, .int .i64 3, .bool cdone, .int .i64 crid, .int .i64 crop, .string crkey, .int .i64 cerr, .string vv, .bool chas] 45)).grown hg (by have := HZX.out; rw [World.size_alloc]; omega) (fun g hg' => (HOX.out.lt g hg').1))
          clear hown' hg
          go_wp2
          go_roundw
          case rel => exact ⟨k + 1, by omega, by omega, by go_num, HO9.out, HB9.out⟩
          case measure => simp [intOf]; omega
        · have HZX : Hid (((wx.setCell ⟨D, 4, none⟩ (.int .i64 0)).setCell ⟨D, 5, none⟩ (.int .i64 3)).heap.size = wx.heap.size) := Lib.hid (by rw [setCell_size, setCell_size])
          have HE : Hid (cut1C ⟨cid, cop, ckey, cnode, cfrm, cto, cdone, crid, crop, crkey, cerr, cval, chas⟩ = ⟨cid, cop, kk, cnode, 0, 3, cdone, crid, crop, crkey, cerr, vv, chas⟩) := Lib.hid (by
            unfold cut1C
            simp only
            rw [if_pos (by omega), HKK.out, HVV.out])
          have HOA := Lib.hid ((own_far (own_far HOX.out ⟨D, 4, none⟩ HNE.out (.int .i64 0)) ⟨D, 5, none⟩ HNE.out (.int .i64 3)).alloc (.cells #[.int .i64 cid, .int .i64 cop, .string kk, .int .i64 cnode, .int .i64 0, .int .i64 3, .bool cdone, .int .i64 crid, .int .i64 crop, .string crkey, .int .i64 cerr, .string vv, .bool chas] 45))
          have HN1 := Lib.hid (World.news_of_block (heap_alloc_new (((wx.setCell ⟨D, 4, none⟩ (.int .i64 0)).setCell ⟨D, 5, none⟩ (.int .i64 3))) (.cells #[.int .i64 cid, .int .i64 cop, .string kk, .int .i64 cnode, .int .i64 0, .int .i64 3, .bool cdone, .int .i64 crid, .int .i64 crop, .string crkey, .int .i64 cerr, .string vv, .bool chas] 45)))
          rw [HZX.out] at HN1
          have HN2 : Hid (∀ u ∈ ([.int .i64 cid, .int .i64 cop, .string kk, .int .i64 cnode, .int .i64 0, .int .i64 3, .bool cdone, .int .i64 crid, .int .i64 crop, .string crkey, .int .i64 cerr, .string vv, .bool chas] : List Value), u.oneCell' = true) := Lib.hid (by simp [Value.oneCell'])
          have HN3 : Hid (k + 1 ≤ maxLen ∧ (k + 1) * 128 ≤ 140737488355328) := Lib.hid (by unfold maxLen; omega)
          have HN4 : Hid (w.heap.size ≤ ((((wx.setCell ⟨D, 4, none⟩ (.int .i64 0)).setCell ⟨D, 5, none⟩ (.int .i64 3))).alloc (.cells #[.int .i64 cid, .int .i64 cop, .string kk, .int .i64 cnode, .int .i64 0, .int .i64 3, .bool cdone, .int .i64 crid, .int .i64 crop, .string crkey, .int .i64 cerr, .string vv, .bool chas] 45)).heap.size) := Lib.hid (by have := HZX.out; rw [World.size_alloc]; omega)
          go_wp2_with (at_builtin; refine wpList_append_own _ rfl (.tmp 50) (.tmp 52) 40 rfl w.heap.size 45 i0 _ 13 128 Try.underlying40 HI0.out.1 HI0.out.2.1 HI0.out.2.2.1 HI0.out.2.2.2 rfl (by decide) _ _ _ rfl HOA.out ⟨wx.heap.size, 0, none⟩ 1 1 [.int .i64 cid, .int .i64 cop, .string kk, .int .i64 cnode, .int .i64 0, .int .i64 3, .bool cdone, .int .i64 crid, .int .i64 crop, .string crkey, .int .i64 cerr, .string vv, .bool chas] rfl rfl HN1.out HN2.out HN3.out.1 HN3.out.2 HN4.out ?_)
          intro v' w' hown' hg _
          have HO9 : Hid (w'.ownsRow w.heap.size 45 13 v' (k + 1) ((cutC (k + 1) Ls).flatMap Cl.cells)) := Lib.hid (by
            rw [HCS.out, HE.out, List.flatMap_append]
            exact hown')
          have HB9 : Hid (Below w.heap.size w w') := Lib.hid (((((HBB.out.setCell (p := ⟨D, 4, none⟩) hsz (.int .i64 0)).setCell (p := ⟨D, 5, none⟩) hsz (.int .i64 3))).alloc (by have := HZX.out; omega) (.cells #[.int .i64 cid, .int .i64 cop, .string kk, .int .i64 cnode, .int .i64 0, .int .i64 3, .bool cdone, .int .i64 crid, .int .i64 crop, .string crkey, .int .i64 cerr, .string vv, .bool chas] 45)).grown hg (by have := HZX.out; rw [World.size_alloc]; omega) (fun g hg' => (HOX.out.lt g hg').1))
          clear hown' hg
          go_wp2
          go_roundw
          case rel => exact ⟨k + 1, by omega, by omega, by go_num, HO9.out, HB9.out⟩
          case measure => simp [intOf]; omega
        · have HZX : Hid (wx.heap.size = wx.heap.size) := Lib.hid rfl
          have HE : Hid (cut1C ⟨cid, cop, ckey, cnode, cfrm, cto, cdone, crid, crop, crkey, cerr, cval, chas⟩ = ⟨cid, cop, kk, cnode, cfrm, cto, cdone, crid, crop, crkey, cerr, vv, chas⟩) := Lib.hid (by
            unfold cut1C
            simp only
            rw [if_neg (by omega), HKK.out, HVV.out])
          have HOA := Lib.hid ((HOX.out).alloc (.cells #[.int .i64 cid, .int .i64 cop, .string kk, .int .i64 cnode, .int .i64 cfrm, .int .i64 cto, .bool cdone, .int .i64 crid, .int .i64 crop, .string crkey, .int .i64 cerr, .string vv, .bool chas] 45))
          have HN1 := Lib.hid (World.news_of_block (heap_alloc_new (wx) (.cells #[.int .i64 cid, .int .i64 cop, .string kk, .int .i64 cnode, .int .i64 cfrm, .int .i64 cto, .bool cdone, .int .i64 crid, .int .i64 crop, .string crkey, .int .i64 cerr, .string vv, .bool chas] 45)))
          rw [HZX.out] at HN1
          have HN2 : Hid (∀ u ∈ ([.int .i64 cid, .int .i64 cop, .string kk, .int .i64 cnode, .int .i64 cfrm, .int .i64 cto, .bool cdone, .int .i64 crid, .int .i64 crop, .string crkey, .int .i64 cerr, .string vv, .bool chas] : List Value), u.oneCell' = true) := Lib.hid (by simp [Value.oneCell'])
          have HN3 : Hid (k + 1 ≤ maxLen ∧ (k + 1) * 128 ≤ 140737488355328) := Lib.hid (by unfold maxLen; omega)
          have HN4 : Hid (w.heap.size ≤ ((wx).alloc (.cells #[.int .i64 cid, .int .i64 cop, .string kk, .int .i64 cnode, .int .i64 cfrm, .int .i64 cto, .bool cdone, .int .i64 crid, .int .i64 crop, .string crkey, .int .i64 cerr, .string vv, .bool chas] 45)).heap.size) := Lib.hid (by have := HZX.out; rw [World.size_alloc]; omega)
          go_wp2_with (at_builtin; refine wpList_append_own _ rfl (.tmp 50) (.tmp 52) 40 rfl w.heap.size 45 i0 _ 13 128 Try.underlying40 HI0.out.1 HI0.out.2.1 HI0.out.2.2.1 HI0.out.2.2.2 rfl (by decide) _ _ _ rfl HOA.out ⟨wx.heap.size, 0, none⟩ 1 1 [.int .i64 cid, .int .i64 cop, .string kk, .int .i64 cnode, .int .i64 cfrm, .int .i64 cto, .bool cdone, .int .i64 crid, .int .i64 crop, .string crkey, .int .i64 cerr, .string vv, .bool chas] rfl rfl HN1.out HN2.out HN3.out.1 HN3.out.2 HN4.out ?_)
          intro v' w' hown' hg _
          have HO9 : Hid (w'.ownsRow w.heap.size 45 13 v' (k + 1) ((cutC (k + 1) Ls).flatMap Cl.cells)) := Lib.hid (by
            rw [HCS.out, HE.out, List.flatMap_append]
            exact hown')
          have HB9 : Hid (Below w.heap.size w w') := Lib.hid (((HBB.out).alloc (by have := HZX.out; omega) (.cells #[.int .i64 cid, .int .i64 cop, .string kk, .int .i64 cnode, .int .i64 cfrm, .int .i64 cto, .bool cdone, .int .i64 crid, .int .i64 crop, .string crkey, .int .i64 cerr, .string vv, .bool chas] 45)).grown hg (by have := HZX.out; rw [World.size_alloc]; omega) (fun g hg' => (HOX.out.lt g hg').1))
          clear hown' hg
          go_wp2
          go_roundw
          case rel => exact ⟨k + 1, by omega, by omega, by go_num, HO9.out, HB9.out⟩
          case measure => simp [intOf]; omega
    · have hcs : ¬ k < Ls.length ∨ (k < Ls.length ∧ ¬ k < 12) := by omega
      have e : min Ls.length 12 = k := by omega
      have HE := Lib.hid e
      clear hgo e
      rcases hcs with h3 | ⟨h3, h4⟩
      all_goals
        go_wp2
        go_ret
        rw [HE.out, cutC_length _ _ hk]
        exact ⟨_, rfl, HOWN.out, HB.out⟩
end Go.Proofs.Ytmblkejgfoffaaa
