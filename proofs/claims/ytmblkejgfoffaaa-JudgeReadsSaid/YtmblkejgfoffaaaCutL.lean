/- Cut walked: what an origin is told, not too long. Conditions: lengths. -/
import Derived.Test.YtmblkejgfoffaaaRef
namespace Go.Proofs.Ytmblkejgfoffaaa
open Go.RowKit
structure MC (W0 : World) (D : Nat) (ky vl : ByteArray) (hs : Bool) (L : Nat → Bool) (wx : World) : Prop where
  grown : W0.grownBy wx (some D)
  blk : ∃ x0 x1, Blk wx D 55 #[x0, x1, .bool hs] ∧ (L 7 = false → x0 = .string ky) ∧ (L 7 = true → L 1 = true ∧ x0 = .string (cutS ky 20)) ∧ (L 9 = false → x1 = .string vl) ∧ (L 9 = true → L 4 = true ∧ x1 = .string (cutS vl 30))
section
variable {W0 : World} {D : Nat} {ky vl : ByteArray} {hs : Bool} {L : Nat → Bool} {wx : World}
theorem MC.same (h : MC W0 D ky vl hs L wx) {i : Nat} (h7 : 7 ≠ i) (h9 : 9 ≠ i) : MC W0 D ky vl hs (Done L i) wx := by
  obtain ⟨h1, x2, x3, hb, b1, b2, b3, b4⟩ := h
  refine ⟨h1, x2, x3, hb, ?_, ?_, ?_, ?_⟩
  · rw [Done.ne h7]; exact b1
  · rw [Done.ne h7]; intro h; exact ⟨Done.le (b2 h).1, (b2 h).2⟩
  · rw [Done.ne h9]; exact b3
  · rw [Done.ne h9]; intro h; exact ⟨Done.le (b4 h).1, (b4 h).2⟩
theorem MC.key (h : MC W0 D ky vl hs L wx) (hl : L 1 = false) : wx.cell? ⟨D, 0, none⟩ = some (.string ky) := by
  obtain ⟨h1, x2, x3, hb, b1, b2, b3, b4⟩ := h
  have : L 7 = false := by
    cases h7 : L 7 with
    | false => rfl
    | true => rw [(b2 h7).1] at hl; cases hl
  rw [← b1 this]
  exact hb.cell 0
theorem MC.val (h : MC W0 D ky vl hs L wx) (hl : L 4 = false) : wx.cell? ⟨D, 1, none⟩ = some (.string vl) := by
  obtain ⟨h1, x2, x3, hb, b1, b2, b3, b4⟩ := h
  have : L 9 = false := by
    cases h7 : L 9 with
    | false => rfl
    | true => rw [(b4 h7).1] at hl; cases hl
  rw [← b3 this]
  exact hb.cell 1
theorem MC.c0 (h : MC W0 D ky vl hs L wx) : ∃ x, wx.cell? ⟨D, 0, none⟩ = some x := by
  obtain ⟨_, x2, x3, hb, _⟩ := h
  exact ⟨_, hb.cell 0⟩
theorem MC.c1 (h : MC W0 D ky vl hs L wx) : ∃ x, wx.cell? ⟨D, 1, none⟩ = some x := by
  obtain ⟨_, x2, x3, hb, _⟩ := h
  exact ⟨_, hb.cell 1⟩
theorem MC.frz (h : MC W0 D ky vl hs L wx) (i : Nat) : wx.frozen? ⟨D, i, none⟩ = false := by
  obtain ⟨_, x2, x3, hb, _⟩ := h
  exact hb.frozen i
theorem MC.put0 (h : MC W0 D ky vl hs L wx) (h1' : L 1 = true) : MC W0 D ky vl hs (Done L 7) (wx.setCell ⟨D, 0, none⟩ (.string (cutS ky 20))) := by
  obtain ⟨h1, x2, x3, hb, b1, b2, b3, b4⟩ := h
  refine ⟨⟨h1.os, h1.tape, h1.output, by simpa [World.setCell] using h1.size, fun g hg hne => (Below.heap_setCell _ _ _ _ (by rintro rfl; exact hne rfl)).trans (h1.block g hg hne)⟩, _, x3, hb.set_ 0 (.string (cutS ky 20)), ?_, ?_, ?_, ?_⟩
  · intro h; unfold Done at h; rw [if_pos rfl] at h; cases h
  · intro _; exact ⟨Done.le h1', rfl⟩
  · rw [Done.ne (by decide)]; exact b3
  · rw [Done.ne (by decide)]; intro h; exact ⟨Done.le (b4 h).1, (b4 h).2⟩
theorem MC.put1 (h : MC W0 D ky vl hs L wx) (h1' : L 4 = true) : MC W0 D ky vl hs (Done L 9) (wx.setCell ⟨D, 1, none⟩ (.string (cutS vl 30))) := by
  obtain ⟨h1, x2, x3, hb, b1, b2, b3, b4⟩ := h
  refine ⟨⟨h1.os, h1.tape, h1.output, by simpa [World.setCell] using h1.size, fun g hg hne => (Below.heap_setCell _ _ _ _ (by rintro rfl; exact hne rfl)).trans (h1.block g hg hne)⟩, x2, _, hb.set_ 1 (.string (cutS vl 30)), ?_, ?_, ?_, ?_⟩
  · rw [Done.ne (by decide)]; exact b1
  · rw [Done.ne (by decide)]; intro h; exact ⟨Done.le (b2 h).1, (b2 h).2⟩
  · intro h; unfold Done at h; rw [if_pos rfl] at h; cases h
  · intro _; exact ⟨Done.le h1', rfl⟩
theorem MC.start (hb : Blk W0 D 55 #[.string ky, .string vl, .bool hs]) : MC W0 D ky vl hs (fun _ => false) W0.drew := by
  refine ⟨⟨rfl, rfl, rfl, Nat.le_refl _, fun _ _ _ => rfl⟩, _, _, hb, fun _ => rfl, ?_, fun _ => rfl, ?_⟩
  · intro h; cases h
  · intro h; cases h
end
theorem info55 : (Try.prog.info? 55).map (fun i => (i.zero, i.size, i.bytes)) = some (some (.agg #[.string ByteArray.empty, .string ByteArray.empty, .bool false]), 3, 40) := by kernel_rfl
/-- one that is told, cut -/
def cut1 (s : St) : St := norm ⟨cutS s.key 20, cutS s.val 30, s.has⟩
def cutL (n : Nat) (L : List St) : List St := (L.take n).map cut1
theorem cutL_norm (n : Nat) (L : List St) : (cutL n L).map norm = cutL n L := by
  unfold cutL
  rw [List.map_map]
  apply List.map_congr_left
  intro s _
  show norm (cut1 s) = cut1 s
  unfold cut1 norm
  cases s.has <;> rfl
theorem cutL_succ (n : Nat) (L : List St) (h : n < L.length) : cutL (n + 1) L = cutL n L ++ [cut1 L[n]] := by
  unfold cutL
  rw [List.take_succ_eq_append_getElem h, List.map_append]; rfl
theorem cutL_length (n : Nat) (L : List St) (h : n ≤ L.length) : (cutL n L).length = n := by
  unfold cutL
  rw [List.length_map, List.length_take]; omega
def GC (W0 : World) (D : Nat) (ky vl : ByteArray) (hs : Bool) (c0 c1 c2 c3 c4 c5 c6 c7 c8 c9 c10 c11 c12 c13 c14 c15 c16 c17 c18 c19 c20 c21 c22 c31 c32 c33 c34 c35 c36 c37 c38 c39 : Value) (L : Nat → Bool) (a' : Act) (wx : World) : Prop :=
  ∃ u23 u24 u25 u26 u27 u28 u29 u30 : Value, a' = ⟨List.toArray (c0 :: c1 :: c2 :: c3 :: c4 :: c5 :: c6 :: c7 :: c8 :: c9 :: c10 :: c11 :: c12 :: c13 :: c14 :: c15 :: c16 :: c17 :: c18 :: c19 :: c20 :: c21 :: c22 :: u23 :: u24 :: u25 :: u26 :: u27 :: u28 :: u29 :: u30 :: c31 :: c32 :: c33 :: c34 :: c35 :: c36 :: c37 :: c38 :: c39 :: []), []⟩ ∧ MC W0 D ky vl hs L wx ∧ (L 0 = true → u23 = .pointer (some ⟨D, 0, none⟩)) ∧ (L 1 = true → u24 = .string ky) ∧ (L 2 = true → u25 = .string (cutS ky 20)) ∧ (L 3 = true → u26 = .pointer (some ⟨D, 1, none⟩)) ∧ (L 4 = true → u27 = .string vl) ∧ (L 5 = true → u28 = .string (cutS vl 30)) ∧ (L 6 = true → u29 = .pointer (some ⟨D, 0, none⟩)) ∧ (L 8 = true → u30 = .pointer (some ⟨D, 1, none⟩))
set_option maxRecDepth 100000 in
set_option maxHeartbeats 8000000 in
theorem cutl_any (w : World) (A : Option Addr) (n c m : Nat) (Ls : List St) (hn : Ls.length = n) (hm : n ≤ 9223372036854775807) (hm2 : m ≤ 1000) (hs : Sl w A (Ls.flatMap St.cells)) (hz : ∀ s ∈ Ls, s.key.size ≤ maxLen ∧ s.val.size ≤ maxLen) :
    Calls Try.prog 11 #[.slice A n c, .int .i64 m] w fun e w' => ∃ v, e = .returned v ∧ w'.ownsRow w.heap.size 55 3 v (cutL (min n m) Ls).length ((cutL (min n m) Ls).flatMap St.cells) ∧ Below w.heap.size w w' := by
  subst hn
  obtain ⟨i0, hi, hz0, hz1, hz2⟩ := info_parts info55
  have HI0 := Lib.hid (And.intro hi (And.intro hz0 (And.intro hz1 hz2)))
  clear hi hz0 hz1 hz2
  have HS := Lib.hid hs
  have HZ := Lib.hid hz
  clear hs hz
  go_enter Try.func11, Try.ntmps11
  go_wp2
  go_loopw [5, 6] (fun v i wr => ∃ k : Nat, k ≤ Ls.length ∧ k ≤ m ∧ i = .int .i64 k ∧ wr.ownsRow w.heap.size 55 3 v k ((cutL k Ls).flatMap St.cells) ∧ Below w.heap.size w wr) (fun _ i _ => Ls.length - (intOf i).toNat)
  case atStart => exact ⟨0, Nat.zero_le _, Nat.zero_le _, rfl, World.ownsRow_nil _ _ _ _, Below.refl _ _⟩
  case round =>
    obtain ⟨k, hk, hkm, rfl, hown, hb⟩ := hrel
    have HOWN := Lib.hid hown
    have HB := Lib.hid hb
    clear hown hb
    by_cases hgo : k < Ls.length ∧ k < m
    · obtain ⟨hlt, hlm⟩ := hgo
      obtain ⟨b, off, rfl, hcs⟩ := (HS.out.keep HB.out).flat (C := 3) (fun _ => rfl) (by decide) k hlt
      have g0 : wr.cell? ⟨b, off + k * 3, none⟩ = some (.string Ls[k].key) := hcs 0 _ rfl
      have g1 : wr.cell? ⟨b, off + k * 3 + 1, none⟩ = some (.string Ls[k].val) := hcs 1 _ rfl
      have g2 : wr.cell? ⟨b, off + k * 3 + 2, none⟩ = some (.bool Ls[k].has) := hcs 2 _ rfl
      have HKZ := Lib.hid (HZ.out _ (List.getElem_mem hlt)).1
      have HVZ := Lib.hid (HZ.out _ (List.getElem_mem hlt)).2
      have HCS : Hid (cutL (k + 1) Ls = cutL k Ls ++ [norm ⟨cutS Ls[k].key 20, cutS Ls[k].val 30, Ls[k].has⟩]) := Lib.hid (cutL_succ k Ls hlt)
      clear hcs
      generalize Ls[k].key = ky at *
      generalize Ls[k].val = vl at *
      generalize Ls[k].has = hs at *
      have k1 : (0 : Int) ≤ (k : Int) := by omega
      have k2 : (k : Int) < (Ls.length : Int) := by omega
      go_wp2
      have HD0 := Lib.hid (Blk.new wr 55 #[.string ky, .string vl, .bool hs])
      have HO0 := Lib.hid (HOWN.out.alloc (.cells #[.string ky, .string vl, .bool hs] 55))
      have hsz := HB.out.size
      have HB0 := Lib.hid (HB.out.alloc hsz (.cells #[.string ky, .string vl, .bool hs] 55))
      have HNE : Hid (u5.ownBlock ≠ some wr.heap.size) := Lib.hid (fun e => by have := (HOWN.out.lt _ e).2; omega)
      generalize wr.alloc (.cells #[.string ky, .string vl, .bool hs] 55) = W0 at *
      clear g0 g1 g2 HOWN HB
      generalize wr.heap.size = D at *
      clear wr
      refine wp_region_inv (GC W0 D ky vl hs _ _ _ _ _ _ _ _ _ _ _ _ _ _ _ _ _ _ _ _ _ _ _ _ _ _ _ _ _ _ _ _) (by kernel_rfl) (by kernel_rfl) ⟨_, _, _, _, _, _, _, _, rfl, MC.start HD0.out, by simp⟩ ⟨?_, ?_, ?_, ?_, ?_, ?_, ?_, ?_, ?_, ?_, trivial⟩ ?_
      · intro L a' wx hLi hd hG K hK
        refine Exists.elim hG ?_; clear hG; intro u23 hG
        refine Exists.elim hG ?_; clear hG; intro u24 hG
        refine Exists.elim hG ?_; clear hG; intro u25 hG
        refine Exists.elim hG ?_; clear hG; intro u26 hG
        refine Exists.elim hG ?_; clear hG; intro u27 hG
        refine Exists.elim hG ?_; clear hG; intro u28 hG
        refine Exists.elim hG ?_; clear hG; intro u29 hG
        refine Exists.elim hG ?_; clear hG; intro u30 hG
        refine And.elim ?_ hG; clear hG; intro ha hG
        refine And.elim ?_ hG; clear hG; intro hM hG
        refine And.elim ?_ hG; clear hG; intro f0 hG
        refine And.elim ?_ hG; clear hG; intro f1 hG
        refine And.elim ?_ hG; clear hG; intro f2 hG
        refine And.elim ?_ hG; clear hG; intro f3 hG
        refine And.elim ?_ hG; clear hG; intro f4 hG
        refine And.elim ?_ hG; clear hG; intro f5 hG
        refine And.elim ?_ hG; clear hG; intro f6 hG
        have f7 := hG; clear hG
        subst ha
        have HM := Lib.hid hM
        clear hM hd
        have F0 := Lib.hid f0; clear f0
        have F1 := Lib.hid f1; clear f1
        have F2 := Lib.hid f2; clear f2
        have F3 := Lib.hid f3; clear f3
        have F4 := Lib.hid f4; clear f4
        have F5 := Lib.hid f5; clear f5
        have F6 := Lib.hid f6; clear f6
        have F7 := Lib.hid f7; clear f7
        go_simp
        go_wp2
        exact ⟨_, _, _, _, _, _, _, _, rfl, HM.out.same (i := 0) (by decide) (by decide), fun _ => rfl, F1.out, F2.out, F3.out, F4.out, F5.out, F6.out, F7.out⟩
      · intro L a' wx hLi hd hG K hK
        refine Exists.elim hG ?_; clear hG; intro u23 hG
        refine Exists.elim hG ?_; clear hG; intro u24 hG
        refine Exists.elim hG ?_; clear hG; intro u25 hG
        refine Exists.elim hG ?_; clear hG; intro u26 hG
        refine Exists.elim hG ?_; clear hG; intro u27 hG
        refine Exists.elim hG ?_; clear hG; intro u28 hG
        refine Exists.elim hG ?_; clear hG; intro u29 hG
        refine Exists.elim hG ?_; clear hG; intro u30 hG
        refine And.elim ?_ hG; clear hG; intro ha hG
        refine And.elim ?_ hG; clear hG; intro hM hG
        refine And.elim ?_ hG; clear hG; intro f0 hG
        refine And.elim ?_ hG; clear hG; intro f1 hG
        refine And.elim ?_ hG; clear hG; intro f2 hG
        refine And.elim ?_ hG; clear hG; intro f3 hG
        refine And.elim ?_ hG; clear hG; intro f4 hG
        refine And.elim ?_ hG; clear hG; intro f5 hG
        refine And.elim ?_ hG; clear hG; intro f6 hG
        have f7 := hG; clear hG
        subst ha
        obtain rfl := f0 (hd ⟨0, .data⟩ (by simp) rfl)
        have hcell := hM.key hLi
        have HM := Lib.hid hM
        clear hM hd
        have F0 := Lib.hid f0; clear f0
        have F1 := Lib.hid f1; clear f1
        have F2 := Lib.hid f2; clear f2
        have F3 := Lib.hid f3; clear f3
        have F4 := Lib.hid f4; clear f4
        have F5 := Lib.hid f5; clear f5
        have F6 := Lib.hid f6; clear f6
        have F7 := Lib.hid f7; clear f7
        go_simp
        go_wp2
        exact ⟨_, _, _, _, _, _, _, _, rfl, HM.out.same (i := 1) (by decide) (by decide), fun _ => rfl, fun _ => rfl, F2.out, F3.out, F4.out, F5.out, F6.out, F7.out⟩
      · intro L a' wx hLi hd hG K hK
        refine Exists.elim hG ?_; clear hG; intro u23 hG
        refine Exists.elim hG ?_; clear hG; intro u24 hG
        refine Exists.elim hG ?_; clear hG; intro u25 hG
        refine Exists.elim hG ?_; clear hG; intro u26 hG
        refine Exists.elim hG ?_; clear hG; intro u27 hG
        refine Exists.elim hG ?_; clear hG; intro u28 hG
        refine Exists.elim hG ?_; clear hG; intro u29 hG
        refine Exists.elim hG ?_; clear hG; intro u30 hG
        refine And.elim ?_ hG; clear hG; intro ha hG
        refine And.elim ?_ hG; clear hG; intro hM hG
        refine And.elim ?_ hG; clear hG; intro f0 hG
        refine And.elim ?_ hG; clear hG; intro f1 hG
        refine And.elim ?_ hG; clear hG; intro f2 hG
        refine And.elim ?_ hG; clear hG; intro f3 hG
        refine And.elim ?_ hG; clear hG; intro f4 hG
        refine And.elim ?_ hG; clear hG; intro f5 hG
        refine And.elim ?_ hG; clear hG; intro f6 hG
        have f7 := hG; clear hG
        subst ha
        obtain rfl := f1 (hd ⟨1, .data⟩ (by simp) rfl)
        have HM := Lib.hid hM
        clear hM hd
        have F0 := Lib.hid f0; clear f0
        have F1 := Lib.hid f1; clear f1
        have F2 := Lib.hid f2; clear f2
        have F3 := Lib.hid f3; clear f3
        have F4 := Lib.hid f4; clear f4
        have F5 := Lib.hid f5; clear f5
        have F6 := Lib.hid f6; clear f6
        have F7 := Lib.hid f7; clear f7
        go_simp
        refine (cut_any ky 20 (by omega) _ HKZ.out).mono ?_
        rintro e w' ⟨rfl, rfl⟩
        go_wp2
        exact ⟨_, _, _, _, _, _, _, _, rfl, HM.out.same (i := 2) (by decide) (by decide), F0.out, fun _ => rfl, fun _ => rfl, F3.out, F4.out, F5.out, F6.out, F7.out⟩
      · intro L a' wx hLi hd hG K hK
        refine Exists.elim hG ?_; clear hG; intro u23 hG
        refine Exists.elim hG ?_; clear hG; intro u24 hG
        refine Exists.elim hG ?_; clear hG; intro u25 hG
        refine Exists.elim hG ?_; clear hG; intro u26 hG
        refine Exists.elim hG ?_; clear hG; intro u27 hG
        refine Exists.elim hG ?_; clear hG; intro u28 hG
        refine Exists.elim hG ?_; clear hG; intro u29 hG
        refine Exists.elim hG ?_; clear hG; intro u30 hG
        refine And.elim ?_ hG; clear hG; intro ha hG
        refine And.elim ?_ hG; clear hG; intro hM hG
        refine And.elim ?_ hG; clear hG; intro f0 hG
        refine And.elim ?_ hG; clear hG; intro f1 hG
        refine And.elim ?_ hG; clear hG; intro f2 hG
        refine And.elim ?_ hG; clear hG; intro f3 hG
        refine And.elim ?_ hG; clear hG; intro f4 hG
        refine And.elim ?_ hG; clear hG; intro f5 hG
        refine And.elim ?_ hG; clear hG; intro f6 hG
        have f7 := hG; clear hG
        subst ha
        have HM := Lib.hid hM
        clear hM hd
        have F0 := Lib.hid f0; clear f0
        have F1 := Lib.hid f1; clear f1
        have F2 := Lib.hid f2; clear f2
        have F3 := Lib.hid f3; clear f3
        have F4 := Lib.hid f4; clear f4
        have F5 := Lib.hid f5; clear f5
        have F6 := Lib.hid f6; clear f6
        have F7 := Lib.hid f7; clear f7
        go_simp
        go_wp2
        exact ⟨_, _, _, _, _, _, _, _, rfl, HM.out.same (i := 3) (by decide) (by decide), F0.out, F1.out, F2.out, fun _ => rfl, F4.out, F5.out, F6.out, F7.out⟩
      · intro L a' wx hLi hd hG K hK
        refine Exists.elim hG ?_; clear hG; intro u23 hG
        refine Exists.elim hG ?_; clear hG; intro u24 hG
        refine Exists.elim hG ?_; clear hG; intro u25 hG
        refine Exists.elim hG ?_; clear hG; intro u26 hG
        refine Exists.elim hG ?_; clear hG; intro u27 hG
        refine Exists.elim hG ?_; clear hG; intro u28 hG
        refine Exists.elim hG ?_; clear hG; intro u29 hG
        refine Exists.elim hG ?_; clear hG; intro u30 hG
        refine And.elim ?_ hG; clear hG; intro ha hG
        refine And.elim ?_ hG; clear hG; intro hM hG
        refine And.elim ?_ hG; clear hG; intro f0 hG
        refine And.elim ?_ hG; clear hG; intro f1 hG
        refine And.elim ?_ hG; clear hG; intro f2 hG
        refine And.elim ?_ hG; clear hG; intro f3 hG
        refine And.elim ?_ hG; clear hG; intro f4 hG
        refine And.elim ?_ hG; clear hG; intro f5 hG
        refine And.elim ?_ hG; clear hG; intro f6 hG
        have f7 := hG; clear hG
        subst ha
        obtain rfl := f3 (hd ⟨3, .data⟩ (by simp) rfl)
        have hcell := hM.val hLi
        have HM := Lib.hid hM
        clear hM hd
        have F0 := Lib.hid f0; clear f0
        have F1 := Lib.hid f1; clear f1
        have F2 := Lib.hid f2; clear f2
        have F3 := Lib.hid f3; clear f3
        have F4 := Lib.hid f4; clear f4
        have F5 := Lib.hid f5; clear f5
        have F6 := Lib.hid f6; clear f6
        have F7 := Lib.hid f7; clear f7
        go_simp
        go_wp2
        exact ⟨_, _, _, _, _, _, _, _, rfl, HM.out.same (i := 4) (by decide) (by decide), F0.out, F1.out, F2.out, fun _ => rfl, fun _ => rfl, F5.out, F6.out, F7.out⟩
      · intro L a' wx hLi hd hG K hK
        refine Exists.elim hG ?_; clear hG; intro u23 hG
        refine Exists.elim hG ?_; clear hG; intro u24 hG
        refine Exists.elim hG ?_; clear hG; intro u25 hG
        refine Exists.elim hG ?_; clear hG; intro u26 hG
        refine Exists.elim hG ?_; clear hG; intro u27 hG
        refine Exists.elim hG ?_; clear hG; intro u28 hG
        refine Exists.elim hG ?_; clear hG; intro u29 hG
        refine Exists.elim hG ?_; clear hG; intro u30 hG
        refine And.elim ?_ hG; clear hG; intro ha hG
        refine And.elim ?_ hG; clear hG; intro hM hG
        refine And.elim ?_ hG; clear hG; intro f0 hG
        refine And.elim ?_ hG; clear hG; intro f1 hG
        refine And.elim ?_ hG; clear hG; intro f2 hG
        refine And.elim ?_ hG; clear hG; intro f3 hG
        refine And.elim ?_ hG; clear hG; intro f4 hG
        refine And.elim ?_ hG; clear hG; intro f5 hG
        refine And.elim ?_ hG; clear hG; intro f6 hG
        have f7 := hG; clear hG
        subst ha
        obtain rfl := f4 (hd ⟨4, .data⟩ (by simp) rfl)
        have HM := Lib.hid hM
        clear hM hd
        have F0 := Lib.hid f0; clear f0
        have F1 := Lib.hid f1; clear f1
        have F2 := Lib.hid f2; clear f2
        have F3 := Lib.hid f3; clear f3
        have F4 := Lib.hid f4; clear f4
        have F5 := Lib.hid f5; clear f5
        have F6 := Lib.hid f6; clear f6
        have F7 := Lib.hid f7; clear f7
        go_simp
        refine (cut_any vl 30 (by omega) _ HVZ.out).mono ?_
        rintro e w' ⟨rfl, rfl⟩
        go_wp2
        exact ⟨_, _, _, _, _, _, _, _, rfl, HM.out.same (i := 5) (by decide) (by decide), F0.out, F1.out, F2.out, F3.out, fun _ => rfl, fun _ => rfl, F6.out, F7.out⟩
      · intro L a' wx hLi hd hG K hK
        refine Exists.elim hG ?_; clear hG; intro u23 hG
        refine Exists.elim hG ?_; clear hG; intro u24 hG
        refine Exists.elim hG ?_; clear hG; intro u25 hG
        refine Exists.elim hG ?_; clear hG; intro u26 hG
        refine Exists.elim hG ?_; clear hG; intro u27 hG
        refine Exists.elim hG ?_; clear hG; intro u28 hG
        refine Exists.elim hG ?_; clear hG; intro u29 hG
        refine Exists.elim hG ?_; clear hG; intro u30 hG
        refine And.elim ?_ hG; clear hG; intro ha hG
        refine And.elim ?_ hG; clear hG; intro hM hG
        refine And.elim ?_ hG; clear hG; intro f0 hG
        refine And.elim ?_ hG; clear hG; intro f1 hG
        refine And.elim ?_ hG; clear hG; intro f2 hG
        refine And.elim ?_ hG; clear hG; intro f3 hG
        refine And.elim ?_ hG; clear hG; intro f4 hG
        refine And.elim ?_ hG; clear hG; intro f5 hG
        refine And.elim ?_ hG; clear hG; intro f6 hG
        have f7 := hG; clear hG
        subst ha
        have HM := Lib.hid hM
        clear hM hd
        have F0 := Lib.hid f0; clear f0
        have F1 := Lib.hid f1; clear f1
        have F2 := Lib.hid f2; clear f2
        have F3 := Lib.hid f3; clear f3
        have F4 := Lib.hid f4; clear f4
        have F5 := Lib.hid f5; clear f5
        have F6 := Lib.hid f6; clear f6
        have F7 := Lib.hid f7; clear f7
        go_simp
        go_wp2
        exact ⟨_, _, _, _, _, _, _, _, rfl, HM.out.same (i := 6) (by decide) (by decide), F0.out, F1.out, F2.out, F3.out, F4.out, F5.out, fun _ => rfl, F7.out⟩
      · intro L a' wx hLi hd hG K hK
        refine Exists.elim hG ?_; clear hG; intro u23 hG
        refine Exists.elim hG ?_; clear hG; intro u24 hG
        refine Exists.elim hG ?_; clear hG; intro u25 hG
        refine Exists.elim hG ?_; clear hG; intro u26 hG
        refine Exists.elim hG ?_; clear hG; intro u27 hG
        refine Exists.elim hG ?_; clear hG; intro u28 hG
        refine Exists.elim hG ?_; clear hG; intro u29 hG
        refine Exists.elim hG ?_; clear hG; intro u30 hG
        refine And.elim ?_ hG; clear hG; intro ha hG
        refine And.elim ?_ hG; clear hG; intro hM hG
        refine And.elim ?_ hG; clear hG; intro f0 hG
        refine And.elim ?_ hG; clear hG; intro f1 hG
        refine And.elim ?_ hG; clear hG; intro f2 hG
        refine And.elim ?_ hG; clear hG; intro f3 hG
        refine And.elim ?_ hG; clear hG; intro f4 hG
        refine And.elim ?_ hG; clear hG; intro f5 hG
        refine And.elim ?_ hG; clear hG; intro f6 hG
        have f7 := hG; clear hG
        subst ha
        obtain rfl := f6 (hd ⟨6, .data⟩ (by simp) rfl)
        obtain rfl := f2 (hd ⟨2, .data⟩ (by simp) rfl)
        have h1 : L 1 = true := hd ⟨1, .phase⟩ (by simp) rfl
        have HM7 := Lib.hid (hM.put0 h1)
        obtain ⟨xd, hdc⟩ := hM.c0
        have hdf := hM.frz 0
        have HM := Lib.hid hM
        clear hM hd
        have F0 := Lib.hid f0; clear f0
        have F1 := Lib.hid f1; clear f1
        have F2 := Lib.hid f2; clear f2
        have F3 := Lib.hid f3; clear f3
        have F4 := Lib.hid f4; clear f4
        have F5 := Lib.hid f5; clear f5
        have F6 := Lib.hid f6; clear f6
        have F7 := Lib.hid f7; clear f7
        go_simp
        go_wp2
        exact ⟨_, _, _, _, _, _, _, _, rfl, HM7.out, F0.out, F1.out, fun _ => rfl, F3.out, F4.out, F5.out, fun _ => rfl, F7.out⟩
      · intro L a' wx hLi hd hG K hK
        refine Exists.elim hG ?_; clear hG; intro u23 hG
        refine Exists.elim hG ?_; clear hG; intro u24 hG
        refine Exists.elim hG ?_; clear hG; intro u25 hG
        refine Exists.elim hG ?_; clear hG; intro u26 hG
        refine Exists.elim hG ?_; clear hG; intro u27 hG
        refine Exists.elim hG ?_; clear hG; intro u28 hG
        refine Exists.elim hG ?_; clear hG; intro u29 hG
        refine Exists.elim hG ?_; clear hG; intro u30 hG
        refine And.elim ?_ hG; clear hG; intro ha hG
        refine And.elim ?_ hG; clear hG; intro hM hG
        refine And.elim ?_ hG; clear hG; intro f0 hG
        refine And.elim ?_ hG; clear hG; intro f1 hG
        refine And.elim ?_ hG; clear hG; intro f2 hG
        refine And.elim ?_ hG; clear hG; intro f3 hG
        refine And.elim ?_ hG; clear hG; intro f4 hG
        refine And.elim ?_ hG; clear hG; intro f5 hG
        refine And.elim ?_ hG; clear hG; intro f6 hG
        have f7 := hG; clear hG
        subst ha
        have HM := Lib.hid hM
        clear hM hd
        have F0 := Lib.hid f0; clear f0
        have F1 := Lib.hid f1; clear f1
        have F2 := Lib.hid f2; clear f2
        have F3 := Lib.hid f3; clear f3
        have F4 := Lib.hid f4; clear f4
        have F5 := Lib.hid f5; clear f5
        have F6 := Lib.hid f6; clear f6
        have F7 := Lib.hid f7; clear f7
        go_simp
        go_wp2
        exact ⟨_, _, _, _, _, _, _, _, rfl, HM.out.same (i := 8) (by decide) (by decide), F0.out, F1.out, F2.out, F3.out, F4.out, F5.out, F6.out, fun _ => rfl⟩
      · intro L a' wx hLi hd hG K hK
        refine Exists.elim hG ?_; clear hG; intro u23 hG
        refine Exists.elim hG ?_; clear hG; intro u24 hG
        refine Exists.elim hG ?_; clear hG; intro u25 hG
        refine Exists.elim hG ?_; clear hG; intro u26 hG
        refine Exists.elim hG ?_; clear hG; intro u27 hG
        refine Exists.elim hG ?_; clear hG; intro u28 hG
        refine Exists.elim hG ?_; clear hG; intro u29 hG
        refine Exists.elim hG ?_; clear hG; intro u30 hG
        refine And.elim ?_ hG; clear hG; intro ha hG
        refine And.elim ?_ hG; clear hG; intro hM hG
        refine And.elim ?_ hG; clear hG; intro f0 hG
        refine And.elim ?_ hG; clear hG; intro f1 hG
        refine And.elim ?_ hG; clear hG; intro f2 hG
        refine And.elim ?_ hG; clear hG; intro f3 hG
        refine And.elim ?_ hG; clear hG; intro f4 hG
        refine And.elim ?_ hG; clear hG; intro f5 hG
        refine And.elim ?_ hG; clear hG; intro f6 hG
        have f7 := hG; clear hG
        subst ha
        obtain rfl := f7 (hd ⟨8, .data⟩ (by simp) rfl)
        obtain rfl := f5 (hd ⟨5, .data⟩ (by simp) rfl)
        have h4 : L 4 = true := hd ⟨4, .phase⟩ (by simp) rfl
        have HM9 := Lib.hid (hM.put1 h4)
        obtain ⟨xd, hdc⟩ := hM.c1
        have hdf := hM.frz 1
        have HM := Lib.hid hM
        clear hM hd
        have F0 := Lib.hid f0; clear f0
        have F1 := Lib.hid f1; clear f1
        have F2 := Lib.hid f2; clear f2
        have F3 := Lib.hid f3; clear f3
        have F4 := Lib.hid f4; clear f4
        have F5 := Lib.hid f5; clear f5
        have F6 := Lib.hid f6; clear f6
        have F7 := Lib.hid f7; clear f7
        go_simp
        go_wp2
        exact ⟨_, _, _, _, _, _, _, _, rfl, HM9.out, F0.out, F1.out, F2.out, F3.out, F4.out, fun _ => rfl, F6.out, fun _ => rfl⟩
      · intro L a' wx hL hG
        obtain ⟨u23, u24, u25, u26, u27, u28, u29, u30, rfl, hM, f0, f1, f2, f3, f4, f5, f6, f7⟩ := hG
        have h7 := hL 7 (by simp)
        have h9 := hL 9 (by simp)
        obtain ⟨hgrow, x0, x1, hbx, _, b2, _, b4⟩ := hM
        obtain rfl := (b2 h7).2
        obtain rfl := (b4 h9).2
        have hox := HO0.out.kept hgrow (.inr HNE.out)
        have hbb := HB0.out.grown hgrow HB0.out.size (fun g hg => by cases hg; exact hsz)
        have HBX := Lib.hid hbx
        have HOX := Lib.hid hox
        have HBB := Lib.hid hbb
        have g0 : wx.cell? ⟨D, 0, none⟩ = some (.string (cutS ky 20)) := hbx.cell 0
        have g1 : wx.cell? ⟨D, 1, none⟩ = some (.string (cutS vl 30)) := hbx.cell 1
        have g2 : wx.cell? ⟨D, 2, none⟩ = some (.bool hs) := hbx.cell 2
        have gf := hbx.frozen 1
        clear b2 b4 h7 h9 hL f0 f1 f2 f3 f4 f5 f6 f7 hbx hox hbb HO0 HB0 HD0 hgrow HKZ HVZ
        generalize cutS ky 20 = k2y at *
        generalize cutS vl 30 = v2l at *
        cases hs with
        | true =>
          have hoa := (HOX.out).alloc (.cells #[.string k2y, .string v2l, .bool true] 55)
          have HOA := Lib.hid hoa
          have hszx : w.heap.size ≤ wx.heap.size := HBB.out.size
          clear hoa
          go_wp2_with (at_builtin; refine wpList_append_own _ rfl (.tmp 35) (.tmp 37) 22 rfl w.heap.size 55 i0 _ 3 40 Try.underlying22 HI0.out.1 HI0.out.2.1 HI0.out.2.2.1 HI0.out.2.2.2 rfl (by decide) _ _ _ rfl HOA.out ⟨wx.heap.size, 0, none⟩ 1 1 [.string k2y, .string v2l, .bool true] rfl rfl ?c1 ?c2 ?c3 ?c4 ?c5 ?_)
          case c1 => exact World.news_of_block (cs := #[.string k2y, .string v2l, .bool true]) (by have := heap_alloc_new (wx) (.cells #[.string k2y, .string v2l, .bool true] 55); simpa using this)
          case c2 => simp [Value.oneCell']
          case c3 => unfold maxLen; omega
          case c4 => omega
          case c5 => simp; omega
          intro v' w' hown' hg _
          have HO9 : Hid (w'.ownsRow w.heap.size 55 3 v' (k + 1) ((cutL (k + 1) Ls).flatMap St.cells)) := Lib.hid (by
            rw [HCS.out, List.flatMap_append]
            exact hown')
          have HB9 : Hid (Below w.heap.size w w') := Lib.hid (((HBB.out).alloc (by omega) (.cells #[.string k2y, .string v2l, .bool true] 55)).grown hg (by simp; omega) (fun g hg' => (HOX.out.lt g hg').1))
          clear hown' hg
          go_wp2
          go_roundw
          case rel => exact ⟨k + 1, by omega, by omega, by go_num, HO9.out, HB9.out⟩
          case measure => simp [intOf]; omega
        | false =>
          have hoa := (own_far HOX.out ⟨D, 1, none⟩ HNE.out (.string ⟨#[]⟩)).alloc (.cells #[.string k2y, .string ⟨#[]⟩, .bool false] 55)
          have HOA := Lib.hid hoa
          have hszx : w.heap.size ≤ wx.heap.size := HBB.out.size
          clear hoa
          go_wp2_with (at_builtin; refine wpList_append_own _ rfl (.tmp 35) (.tmp 37) 22 rfl w.heap.size 55 i0 _ 3 40 Try.underlying22 HI0.out.1 HI0.out.2.1 HI0.out.2.2.1 HI0.out.2.2.2 rfl (by decide) _ _ _ rfl HOA.out ⟨wx.heap.size, 0, none⟩ 1 1 [.string k2y, .string ⟨#[]⟩, .bool false] rfl rfl ?c1 ?c2 ?c3 ?c4 ?c5 ?_)
          case c1 => exact World.news_of_block (cs := #[.string k2y, .string ⟨#[]⟩, .bool false]) (by have := heap_alloc_new (wx.setCell ⟨D, 1, none⟩ (.string ⟨#[]⟩)) (.cells #[.string k2y, .string ⟨#[]⟩, .bool false] 55); simpa [World.setCell] using this)
          case c2 => simp [Value.oneCell']
          case c3 => unfold maxLen; omega
          case c4 => omega
          case c5 => simp [World.setCell]; omega
          intro v' w' hown' hg _
          have HO9 : Hid (w'.ownsRow w.heap.size 55 3 v' (k + 1) ((cutL (k + 1) Ls).flatMap St.cells)) := Lib.hid (by
            rw [HCS.out, List.flatMap_append]
            exact hown')
          have HB9 : Hid (Below w.heap.size w w') := Lib.hid (((HBB.out.setCell (p := ⟨D, 1, none⟩) hsz (.string ⟨#[]⟩)).alloc (by simp [World.setCell]; omega) (.cells #[.string k2y, .string ⟨#[]⟩, .bool false] 55)).grown hg (by simp [World.setCell]; omega) (fun g hg' => (HOX.out.lt g hg').1))
          clear hown' hg
          go_wp2
          go_roundw
          case rel => exact ⟨k + 1, by omega, by omega, by go_num, HO9.out, HB9.out⟩
          case measure => simp [intOf]; omega
    · have hcs : ¬ k < Ls.length ∨ (k < Ls.length ∧ ¬ k < m) := by omega
      have e : min Ls.length m = k := by omega
      have HE := Lib.hid e
      clear hgo e
      rcases hcs with h3 | ⟨h3, h4⟩
      all_goals
        go_wp2
        go_ret
        rw [HE.out, cutL_length _ _ hk]
        exact ⟨_, rfl, HOWN.out, HB.out⟩
end Go.Proofs.Ytmblkejgfoffaaa
