/- Set walked: an origin is told something. Conditions: lengths. -/
import Derived.Test.YtmblkejgfoffaaaOrgS
namespace Go.Proofs.Ytmblkejgfoffaaa
open Go.RowKit
theorem info61 : (Try.prog.info? 61).map (fun i => (i.zero, i.size, i.bytes)) = some (some (.agg #[.int .i64 0, .string ByteArray.empty, .bool false]), 3, 32) := by kernel_rfl
theorem MS.notM {W0 : World} {base O M n : Nat} {v0 : Value} {xs : List Value} {l : List (Ent ByteArray)} {c : Nat} {k : ByteArray} {p : Int} {vv : ByteArray} {hb : Bool} {L : Nat → Bool} {u38 u39 : Value} {wx : World} (h : MS W0 base O M n v0 xs l c k p vv hb L u38 u39 wx) (h19 : L 19 = true) (hm : MapAt wx M mkS l c) : u39.ownBlock ≠ some M := fun e => by
  obtain ⟨_, g, cap, hu, ho, _⟩ := h.own1 h19
  rw [hu] at e
  rcases ho.2 with ⟨h3, _⟩ | ⟨g', cap', cur, h3, _, h5, _⟩
  · rw [hu] at h3; cases h3
  · rw [hu] at h3
    have e1 : g = M := by injection e
    have e2 : g = g' := by injection h3 with h3; injection h3 with h3; injection h3
    unfold MapAt at hm
    rw [← e2, e1, hm] at h5
    cases h5
def GS (W0 : World) (base O M n : Nat) (v0 : Value) (xs : List Value) (l : List (Ent ByteArray)) (c : Nat) (k : ByteArray) (p : Int) (vv : ByteArray) (hb : Bool) (c0 c1 c2 c3 c4 c5 c6 c7 c8 c9 c10 c11 c12 c13 c14 c15 c16 c17 c18 c19 c40 c41 c42 c43 : Value) (L : Nat → Bool) (a' : Act) (wx : World) : Prop :=
  ∃ u20 u21 u22 u23 u24 u25 u26 u27 u28 u29 u30 u31 u32 u33 u34 u35 u36 u37 u38 u39 : Value, a' = ⟨List.toArray (c0 :: c1 :: c2 :: c3 :: c4 :: c5 :: c6 :: c7 :: c8 :: c9 :: c10 :: c11 :: c12 :: c13 :: c14 :: c15 :: c16 :: c17 :: c18 :: c19 :: u20 :: u21 :: u22 :: u23 :: u24 :: u25 :: u26 :: u27 :: u28 :: u29 :: u30 :: u31 :: u32 :: u33 :: u34 :: u35 :: u36 :: u37 :: u38 :: u39 :: c40 :: c41 :: c42 :: c43 :: []), []⟩ ∧ MS W0 base O M n v0 xs l c k p vv hb L u38 u39 wx ∧ (L 0 = true → u20 = .pointer (some ⟨O, 0, none⟩)) ∧ (L 1 = true → u21 = .pointer (some ⟨O, 0, none⟩)) ∧ (L 2 = true → u22 = .pointer (some ⟨O, 1, none⟩)) ∧ (L 3 = true → u23 = .map (some M)) ∧ (L 4 = true → u24 = .string k) ∧ (L 5 = true → u25 = .pointer (some ⟨O, 0, none⟩)) ∧ (L 6 = true → u26 = .pointer (some ⟨O, 0, none⟩)) ∧ (L 7 = true → u27 = .pointer (some ⟨O, 1, none⟩)) ∧ (L 8 = true → u28 = .map (some M)) ∧ (L 9 = true → u29 = .string k) ∧ (L 10 = true → v0 = u30) ∧ (L 11 = true → u31 = .pointer (some ⟨O, 0, none⟩)) ∧ (L 12 = true → u32 = .pointer (some ⟨O, 0, none⟩)) ∧ (L 13 = true → u33 = .pointer (some ⟨O, 0, none⟩)) ∧ (L 14 = true → u34 = .int .i64 p) ∧ (L 15 = true → u35 = .string vv) ∧ (L 16 = true → u36 = .bool hb) ∧ (L 17 = true → u37 = .agg #[.int .i64 p, .string vv, .bool hb]) ∧ (L 18 = true → True) ∧ (L 19 = true → True)
set_option maxRecDepth 100000 in
set_option maxHeartbeats 8000000 in
theorem set_any (w : World) (base O M : Nat) (T : List St) (h : Org w base O M T) (hl : T.length < 1099511627) (k v : ByteArray) (b : Bool) :
    Calls Try.prog 20 #[.pointer (some ⟨O, 0, none⟩), .string k, .string v, .bool b] w fun e w' => e = .returned (.int .i64 ((T.length : Int) + 1)) ∧ Org w' base O M (T ++ [norm ⟨k, v, b⟩]) ∧ Below base w w' := by
  obtain ⟨i0, hi, hz0, hz1, hz2⟩ := info_parts info61
  have HI0 := Lib.hid (And.intro hi (And.intro hz0 (And.intro hz1 hz2)))
  clear hi hz0 hz1 hz2
  have c0 : w.cell? ⟨O, 0, none⟩ = some (.int .i64 (T.length : Int)) := h.blk.cell 0
  have c1 : w.cell? ⟨O, 1, none⟩ = some (.map (some M)) := h.blk.cell 1
  have f0 := h.blk.frozen 0
  obtain ⟨l, c, hmap, hents⟩ := h.ex
  cases b with
  | false =>
    rw [show norm ⟨k, v, false⟩ = ⟨k, ⟨#[]⟩, false⟩ from rfl]
    go_enter Try.func20, Try.ntmps20
    go_wp2
    clear c0 c1 f0
    obtain ⟨W0, hW0⟩ : ∃ W, W = w.setCell ⟨O, 0, none⟩ (.int .i64 ((T.length : Int) + 1)) := ⟨_, rfl⟩
    rw [← hW0]
    have hb0 : Blk W0 O 58 #[.int .i64 ((T.length : Int) + 1), .map (some M)] := by rw [hW0]; exact h.blk.set_ 0 _
    have HSZ : Hid (W0.heap.size = w.heap.size) := Lib.hid (by rw [hW0, setCell_size])
    have HOS : Hid (W0.os = w.os ∧ W0.tape = w.tape ∧ W0.output = w.output) := Lib.hid (by rw [hW0]; exact ⟨rfl, rfl, rfl⟩)
    have HK0 : Hid (∀ g, g ≠ O → W0.heap[g]? = w.heap[g]?) := Lib.hid (fun g hg => by rw [hW0]; exact Below.heap_setCell _ _ _ _ hg)
    have hOM : O ≠ M := fun e => by
      have h1 := h.blk
      have h2 := hmap
      unfold Blk at h1
      unfold MapAt at h2
      rw [e, h2] at h1
      cases h1
    have HMAP : Hid (MapAt W0 M mkS l c) := Lib.hid ((HK0.out M (Ne.symm hOM)).trans hmap)
    have hkO : ∀ (u : Value) (m : Nat) (ys : List Value), w.ownsRow base 61 3 u m ys → u.ownBlock ≠ some O ∧ u.ownBlock ≠ some M := fun u m ys ho => by
      have h1 := h.blk
      unfold Blk at h1
      unfold MapAt at hmap
      rcases ho.2 with ⟨h3, _⟩ | ⟨g', cap', cur, h3, _, h5, _⟩
      · rw [h3]; simp [Value.ownBlock]
      · rw [h3]
        constructor
        · intro e
          have : g' = O := by injection e
          rw [this, h1] at h5
          cases h5
        · intro e
          have : g' = M := by injection e
          rw [this, hmap] at h5
          cases h5
    have hmv : ∀ (u : Value) (m : Nat) (ys : List Value), w.ownsRow base 61 3 u m ys → W0.ownsRow base 61 3 u m ys := fun u m ys ho => by
      rw [hW0]; exact own_far ho _ (hkO u m ys ho).1 _
    have HE : Hid (Ents W0 base M T l) := Lib.hid ⟨hents.nodup, fun q hq => hmv _ _ _ (hents.each q hq), hents.miss, hents.apart⟩
    have hown0 := hmv _ _ _ (hents.look k)
    have HLT := Lib.hid (hents.look k).lt
    have hne := hkO _ _ _ (hents.look k)
    have hOb := h.hO
    have hMb := h.hM
    obtain ⟨v0, hv⟩ : ∃ v0, lookV k l = v0 := ⟨_, rfl⟩
    rw [hv] at hown0 HLT hne
    obtain ⟨n, hn⟩ : ∃ n, n = (rowsOf k T).length := ⟨_, rfl⟩
    obtain ⟨xs, hx⟩ : ∃ xs, xs = (rowsOf k T).flatMap Rw.cells := ⟨_, rfl⟩
    rw [← hn, ← hx] at hown0
    have hnl : n < 1099511627 := by have := rowsOf_le k T; omega
    have hbase : base ≤ W0.heap.size := by have := hb0.lt; omega
    obtain ⟨p, hpq⟩ : ∃ p : Int, p = (T.length : Int) + 1 := ⟨_, rfl⟩
    rw [← hpq] at hb0 ⊢
    have HV := Lib.hid hv
    have HN := Lib.hid hn
    have HX := Lib.hid hx
    have HPQ := Lib.hid hpq
    have HOM := Lib.hid hOM
    have HO : Hid (some O ≠ v0.ownBlock) := Lib.hid (Ne.symm hne.1)
    have HMV : Hid (some M ≠ v0.ownBlock) := Lib.hid (Ne.symm hne.2)
    have HB0 := Lib.hid hb0
    have HOW := Lib.hid hown0
    clear hW0 h hmap hents hkO hmv hv hn hx hpq hOM hne hb0 hown0
    refine wp_region_inv (GS W0 base O M n v0 xs l c k p ⟨#[]⟩ false _ _ _ _ _ _ _ _ _ _ _ _ _ _ _ _ _ _ _ _ _ _ _ _) (by kernel_rfl) (by kernel_rfl) ⟨_, _, _, _, _, _, _, _, _, _, _, _, _, _, _, _, _, _, _, _, rfl, MS.start HB0.out HMAP.out HOW.out _ _, by simp⟩ ⟨?_, ?_, ?_, ?_, ?_, ?_, ?_, ?_, ?_, ?_, ?_, ?_, ?_, ?_, ?_, ?_, ?_, ?_, ?_, ?_, ?_, trivial⟩ ?_
    · intro L a' wx hLi hd hG K hK
      refine Exists.elim hG ?_; clear hG; intro u20 hG
      refine Exists.elim hG ?_; clear hG; intro u21 hG
      refine Exists.elim hG ?_; clear hG; intro u22 hG
      refine Exists.elim hG ?_; clear hG; intro u23 hG
      refine Exists.elim hG ?_; clear hG; intro u24 hG
      refine Exists.elim hG ?_; clear hG; intro u25 hG
      refine Exists.elim hG ?_; clear hG; intro u26 hG
      refine Exists.elim hG ?_; clear hG; intro u27 hG
      refine Exists.elim hG ?_; clear hG; intro u28 hG
      refine Exists.elim hG ?_; clear hG; intro u29 hG
      refine Exists.elim hG ?_; clear hG; intro u30 hG
      refine Exists.elim hG ?_; clear hG; intro u31 hG
      refine Exists.elim hG ?_; clear hG; intro u32 hG
      refine Exists.elim hG ?_; clear hG; intro u33 hG
      refine Exists.elim hG ?_; clear hG; intro u34 hG
      refine Exists.elim hG ?_; clear hG; intro u35 hG
      refine Exists.elim hG ?_; clear hG; intro u36 hG
      refine Exists.elim hG ?_; clear hG; intro u37 hG
      refine Exists.elim hG ?_; clear hG; intro u38 hG
      refine Exists.elim hG ?_; clear hG; intro u39 hG
      refine And.elim ?_ hG; clear hG; intro ha hG
      refine And.elim ?_ hG; clear hG; intro hM hG
      refine And.elim ?_ hG; clear hG; intro f0 hG
      refine And.elim ?_ hG; clear hG; intro f1 hG
      refine And.elim ?_ hG; clear hG; intro f2 hG
      refine And.elim ?_ hG; clear hG; intro f3 hG
      refine And.elim ?_ hG; clear hG; intro f4 hG
      refine And.elim ?_ hG; clear hG; intro f5 hG
      refine And.elim ?_ hG; clear hG; intro f6 hG
      refine And.elim ?_ hG; clear hG; intro f7 hG
      refine And.elim ?_ hG; clear hG; intro f8 hG
      refine And.elim ?_ hG; clear hG; intro f9 hG
      refine And.elim ?_ hG; clear hG; intro f10 hG
      refine And.elim ?_ hG; clear hG; intro f11 hG
      refine And.elim ?_ hG; clear hG; intro f12 hG
      refine And.elim ?_ hG; clear hG; intro f13 hG
      refine And.elim ?_ hG; clear hG; intro f14 hG
      refine And.elim ?_ hG; clear hG; intro f15 hG
      refine And.elim ?_ hG; clear hG; intro f16 hG
      refine And.elim ?_ hG; clear hG; intro f17 hG
      refine And.elim ?_ hG; clear hG; intro f18 hG
      have f19 := hG; clear hG
      subst ha
      have HM := Lib.hid hM
      clear hM hd
      have F0 := Lib.hid f0; clear f0
      have F1 := Lib.hid f1; clear f1
      have F2 := Lib.hid f2; clear f2
      have F3 := Lib.hid f3; clear f3
      have F4 := Lib.hid f4; clear f4
      have F5 := Lib.hid f5; clear f5
      have F6 := Lib.hid f6; clear f6
      have F7 := Lib.hid f7; clear f7
      have F8 := Lib.hid f8; clear f8
      have F9 := Lib.hid f9; clear f9
      have F10 := Lib.hid f10; clear f10
      have F11 := Lib.hid f11; clear f11
      have F12 := Lib.hid f12; clear f12
      have F13 := Lib.hid f13; clear f13
      have F14 := Lib.hid f14; clear f14
      have F15 := Lib.hid f15; clear f15
      have F16 := Lib.hid f16; clear f16
      have F17 := Lib.hid f17; clear f17
      have F18 := Lib.hid f18; clear f18
      have F19 := Lib.hid f19; clear f19
      go_simp
      go_wp2
      exact ⟨_, _, _, _, _, _, _, _, _, _, _, _, _, _, _, _, _, _, _, _, rfl, HM.out.same (i := 0) (by decide) (by decide) (by decide), fun _ => rfl, F1.out, F2.out, F3.out, F4.out, F5.out, F6.out, F7.out, F8.out, F9.out, F10.out, F11.out, F12.out, F13.out, F14.out, F15.out, F16.out, F17.out, F18.out, F19.out⟩
    · intro L a' wx hLi hd hG K hK
      refine Exists.elim hG ?_; clear hG; intro u20 hG
      refine Exists.elim hG ?_; clear hG; intro u21 hG
      refine Exists.elim hG ?_; clear hG; intro u22 hG
      refine Exists.elim hG ?_; clear hG; intro u23 hG
      refine Exists.elim hG ?_; clear hG; intro u24 hG
      refine Exists.elim hG ?_; clear hG; intro u25 hG
      refine Exists.elim hG ?_; clear hG; intro u26 hG
      refine Exists.elim hG ?_; clear hG; intro u27 hG
      refine Exists.elim hG ?_; clear hG; intro u28 hG
      refine Exists.elim hG ?_; clear hG; intro u29 hG
      refine Exists.elim hG ?_; clear hG; intro u30 hG
      refine Exists.elim hG ?_; clear hG; intro u31 hG
      refine Exists.elim hG ?_; clear hG; intro u32 hG
      refine Exists.elim hG ?_; clear hG; intro u33 hG
      refine Exists.elim hG ?_; clear hG; intro u34 hG
      refine Exists.elim hG ?_; clear hG; intro u35 hG
      refine Exists.elim hG ?_; clear hG; intro u36 hG
      refine Exists.elim hG ?_; clear hG; intro u37 hG
      refine Exists.elim hG ?_; clear hG; intro u38 hG
      refine Exists.elim hG ?_; clear hG; intro u39 hG
      refine And.elim ?_ hG; clear hG; intro ha hG
      refine And.elim ?_ hG; clear hG; intro hM hG
      refine And.elim ?_ hG; clear hG; intro f0 hG
      refine And.elim ?_ hG; clear hG; intro f1 hG
      refine And.elim ?_ hG; clear hG; intro f2 hG
      refine And.elim ?_ hG; clear hG; intro f3 hG
      refine And.elim ?_ hG; clear hG; intro f4 hG
      refine And.elim ?_ hG; clear hG; intro f5 hG
      refine And.elim ?_ hG; clear hG; intro f6 hG
      refine And.elim ?_ hG; clear hG; intro f7 hG
      refine And.elim ?_ hG; clear hG; intro f8 hG
      refine And.elim ?_ hG; clear hG; intro f9 hG
      refine And.elim ?_ hG; clear hG; intro f10 hG
      refine And.elim ?_ hG; clear hG; intro f11 hG
      refine And.elim ?_ hG; clear hG; intro f12 hG
      refine And.elim ?_ hG; clear hG; intro f13 hG
      refine And.elim ?_ hG; clear hG; intro f14 hG
      refine And.elim ?_ hG; clear hG; intro f15 hG
      refine And.elim ?_ hG; clear hG; intro f16 hG
      refine And.elim ?_ hG; clear hG; intro f17 hG
      refine And.elim ?_ hG; clear hG; intro f18 hG
      have f19 := hG; clear hG
      subst ha
      obtain rfl := f0 (hd ⟨0, .data⟩ (by simp) rfl)
      have HM := Lib.hid hM
      clear hM hd
      have F0 := Lib.hid f0; clear f0
      have F1 := Lib.hid f1; clear f1
      have F2 := Lib.hid f2; clear f2
      have F3 := Lib.hid f3; clear f3
      have F4 := Lib.hid f4; clear f4
      have F5 := Lib.hid f5; clear f5
      have F6 := Lib.hid f6; clear f6
      have F7 := Lib.hid f7; clear f7
      have F8 := Lib.hid f8; clear f8
      have F9 := Lib.hid f9; clear f9
      have F10 := Lib.hid f10; clear f10
      have F11 := Lib.hid f11; clear f11
      have F12 := Lib.hid f12; clear f12
      have F13 := Lib.hid f13; clear f13
      have F14 := Lib.hid f14; clear f14
      have F15 := Lib.hid f15; clear f15
      have F16 := Lib.hid f16; clear f16
      have F17 := Lib.hid f17; clear f17
      have F18 := Lib.hid f18; clear f18
      have F19 := Lib.hid f19; clear f19
      go_simp
      go_wp2
      exact ⟨_, _, _, _, _, _, _, _, _, _, _, _, _, _, _, _, _, _, _, _, rfl, HM.out.same (i := 1) (by decide) (by decide) (by decide), fun _ => rfl, fun _ => rfl, F2.out, F3.out, F4.out, F5.out, F6.out, F7.out, F8.out, F9.out, F10.out, F11.out, F12.out, F13.out, F14.out, F15.out, F16.out, F17.out, F18.out, F19.out⟩
    · intro L a' wx hLi hd hG K hK
      refine Exists.elim hG ?_; clear hG; intro u20 hG
      refine Exists.elim hG ?_; clear hG; intro u21 hG
      refine Exists.elim hG ?_; clear hG; intro u22 hG
      refine Exists.elim hG ?_; clear hG; intro u23 hG
      refine Exists.elim hG ?_; clear hG; intro u24 hG
      refine Exists.elim hG ?_; clear hG; intro u25 hG
      refine Exists.elim hG ?_; clear hG; intro u26 hG
      refine Exists.elim hG ?_; clear hG; intro u27 hG
      refine Exists.elim hG ?_; clear hG; intro u28 hG
      refine Exists.elim hG ?_; clear hG; intro u29 hG
      refine Exists.elim hG ?_; clear hG; intro u30 hG
      refine Exists.elim hG ?_; clear hG; intro u31 hG
      refine Exists.elim hG ?_; clear hG; intro u32 hG
      refine Exists.elim hG ?_; clear hG; intro u33 hG
      refine Exists.elim hG ?_; clear hG; intro u34 hG
      refine Exists.elim hG ?_; clear hG; intro u35 hG
      refine Exists.elim hG ?_; clear hG; intro u36 hG
      refine Exists.elim hG ?_; clear hG; intro u37 hG
      refine Exists.elim hG ?_; clear hG; intro u38 hG
      refine Exists.elim hG ?_; clear hG; intro u39 hG
      refine And.elim ?_ hG; clear hG; intro ha hG
      refine And.elim ?_ hG; clear hG; intro hM hG
      refine And.elim ?_ hG; clear hG; intro f0 hG
      refine And.elim ?_ hG; clear hG; intro f1 hG
      refine And.elim ?_ hG; clear hG; intro f2 hG
      refine And.elim ?_ hG; clear hG; intro f3 hG
      refine And.elim ?_ hG; clear hG; intro f4 hG
      refine And.elim ?_ hG; clear hG; intro f5 hG
      refine And.elim ?_ hG; clear hG; intro f6 hG
      refine And.elim ?_ hG; clear hG; intro f7 hG
      refine And.elim ?_ hG; clear hG; intro f8 hG
      refine And.elim ?_ hG; clear hG; intro f9 hG
      refine And.elim ?_ hG; clear hG; intro f10 hG
      refine And.elim ?_ hG; clear hG; intro f11 hG
      refine And.elim ?_ hG; clear hG; intro f12 hG
      refine And.elim ?_ hG; clear hG; intro f13 hG
      refine And.elim ?_ hG; clear hG; intro f14 hG
      refine And.elim ?_ hG; clear hG; intro f15 hG
      refine And.elim ?_ hG; clear hG; intro f16 hG
      refine And.elim ?_ hG; clear hG; intro f17 hG
      refine And.elim ?_ hG; clear hG; intro f18 hG
      have f19 := hG; clear hG
      subst ha
      obtain rfl := f1 (hd ⟨1, .data⟩ (by simp) rfl)
      have HM := Lib.hid hM
      clear hM hd
      have F0 := Lib.hid f0; clear f0
      have F1 := Lib.hid f1; clear f1
      have F2 := Lib.hid f2; clear f2
      have F3 := Lib.hid f3; clear f3
      have F4 := Lib.hid f4; clear f4
      have F5 := Lib.hid f5; clear f5
      have F6 := Lib.hid f6; clear f6
      have F7 := Lib.hid f7; clear f7
      have F8 := Lib.hid f8; clear f8
      have F9 := Lib.hid f9; clear f9
      have F10 := Lib.hid f10; clear f10
      have F11 := Lib.hid f11; clear f11
      have F12 := Lib.hid f12; clear f12
      have F13 := Lib.hid f13; clear f13
      have F14 := Lib.hid f14; clear f14
      have F15 := Lib.hid f15; clear f15
      have F16 := Lib.hid f16; clear f16
      have F17 := Lib.hid f17; clear f17
      have F18 := Lib.hid f18; clear f18
      have F19 := Lib.hid f19; clear f19
      go_simp
      go_wp2
      exact ⟨_, _, _, _, _, _, _, _, _, _, _, _, _, _, _, _, _, _, _, _, rfl, HM.out.same (i := 2) (by decide) (by decide) (by decide), F0.out, fun _ => rfl, fun _ => rfl, F3.out, F4.out, F5.out, F6.out, F7.out, F8.out, F9.out, F10.out, F11.out, F12.out, F13.out, F14.out, F15.out, F16.out, F17.out, F18.out, F19.out⟩
    · intro L a' wx hLi hd hG K hK
      refine Exists.elim hG ?_; clear hG; intro u20 hG
      refine Exists.elim hG ?_; clear hG; intro u21 hG
      refine Exists.elim hG ?_; clear hG; intro u22 hG
      refine Exists.elim hG ?_; clear hG; intro u23 hG
      refine Exists.elim hG ?_; clear hG; intro u24 hG
      refine Exists.elim hG ?_; clear hG; intro u25 hG
      refine Exists.elim hG ?_; clear hG; intro u26 hG
      refine Exists.elim hG ?_; clear hG; intro u27 hG
      refine Exists.elim hG ?_; clear hG; intro u28 hG
      refine Exists.elim hG ?_; clear hG; intro u29 hG
      refine Exists.elim hG ?_; clear hG; intro u30 hG
      refine Exists.elim hG ?_; clear hG; intro u31 hG
      refine Exists.elim hG ?_; clear hG; intro u32 hG
      refine Exists.elim hG ?_; clear hG; intro u33 hG
      refine Exists.elim hG ?_; clear hG; intro u34 hG
      refine Exists.elim hG ?_; clear hG; intro u35 hG
      refine Exists.elim hG ?_; clear hG; intro u36 hG
      refine Exists.elim hG ?_; clear hG; intro u37 hG
      refine Exists.elim hG ?_; clear hG; intro u38 hG
      refine Exists.elim hG ?_; clear hG; intro u39 hG
      refine And.elim ?_ hG; clear hG; intro ha hG
      refine And.elim ?_ hG; clear hG; intro hM hG
      refine And.elim ?_ hG; clear hG; intro f0 hG
      refine And.elim ?_ hG; clear hG; intro f1 hG
      refine And.elim ?_ hG; clear hG; intro f2 hG
      refine And.elim ?_ hG; clear hG; intro f3 hG
      refine And.elim ?_ hG; clear hG; intro f4 hG
      refine And.elim ?_ hG; clear hG; intro f5 hG
      refine And.elim ?_ hG; clear hG; intro f6 hG
      refine And.elim ?_ hG; clear hG; intro f7 hG
      refine And.elim ?_ hG; clear hG; intro f8 hG
      refine And.elim ?_ hG; clear hG; intro f9 hG
      refine And.elim ?_ hG; clear hG; intro f10 hG
      refine And.elim ?_ hG; clear hG; intro f11 hG
      refine And.elim ?_ hG; clear hG; intro f12 hG
      refine And.elim ?_ hG; clear hG; intro f13 hG
      refine And.elim ?_ hG; clear hG; intro f14 hG
      refine And.elim ?_ hG; clear hG; intro f15 hG
      refine And.elim ?_ hG; clear hG; intro f16 hG
      refine And.elim ?_ hG; clear hG; intro f17 hG
      refine And.elim ?_ hG; clear hG; intro f18 hG
      have f19 := hG; clear hG
      subst ha
      obtain rfl := f2 (hd ⟨2, .data⟩ (by simp) rfl)
      have hc1 := hM.c1
      have HM := Lib.hid hM
      clear hM hd
      have F0 := Lib.hid f0; clear f0
      have F1 := Lib.hid f1; clear f1
      have F2 := Lib.hid f2; clear f2
      have F3 := Lib.hid f3; clear f3
      have F4 := Lib.hid f4; clear f4
      have F5 := Lib.hid f5; clear f5
      have F6 := Lib.hid f6; clear f6
      have F7 := Lib.hid f7; clear f7
      have F8 := Lib.hid f8; clear f8
      have F9 := Lib.hid f9; clear f9
      have F10 := Lib.hid f10; clear f10
      have F11 := Lib.hid f11; clear f11
      have F12 := Lib.hid f12; clear f12
      have F13 := Lib.hid f13; clear f13
      have F14 := Lib.hid f14; clear f14
      have F15 := Lib.hid f15; clear f15
      have F16 := Lib.hid f16; clear f16
      have F17 := Lib.hid f17; clear f17
      have F18 := Lib.hid f18; clear f18
      have F19 := Lib.hid f19; clear f19
      go_simp
      go_wp2
      exact ⟨_, _, _, _, _, _, _, _, _, _, _, _, _, _, _, _, _, _, _, _, rfl, HM.out.same (i := 3) (by decide) (by decide) (by decide), F0.out, F1.out, fun _ => rfl, fun _ => rfl, F4.out, F5.out, F6.out, F7.out, F8.out, F9.out, F10.out, F11.out, F12.out, F13.out, F14.out, F15.out, F16.out, F17.out, F18.out, F19.out⟩
    · intro L a' wx hLi hd hG K hK
      refine Exists.elim hG ?_; clear hG; intro u20 hG
      refine Exists.elim hG ?_; clear hG; intro u21 hG
      refine Exists.elim hG ?_; clear hG; intro u22 hG
      refine Exists.elim hG ?_; clear hG; intro u23 hG
      refine Exists.elim hG ?_; clear hG; intro u24 hG
      refine Exists.elim hG ?_; clear hG; intro u25 hG
      refine Exists.elim hG ?_; clear hG; intro u26 hG
      refine Exists.elim hG ?_; clear hG; intro u27 hG
      refine Exists.elim hG ?_; clear hG; intro u28 hG
      refine Exists.elim hG ?_; clear hG; intro u29 hG
      refine Exists.elim hG ?_; clear hG; intro u30 hG
      refine Exists.elim hG ?_; clear hG; intro u31 hG
      refine Exists.elim hG ?_; clear hG; intro u32 hG
      refine Exists.elim hG ?_; clear hG; intro u33 hG
      refine Exists.elim hG ?_; clear hG; intro u34 hG
      refine Exists.elim hG ?_; clear hG; intro u35 hG
      refine Exists.elim hG ?_; clear hG; intro u36 hG
      refine Exists.elim hG ?_; clear hG; intro u37 hG
      refine Exists.elim hG ?_; clear hG; intro u38 hG
      refine Exists.elim hG ?_; clear hG; intro u39 hG
      refine And.elim ?_ hG; clear hG; intro ha hG
      refine And.elim ?_ hG; clear hG; intro hM hG
      refine And.elim ?_ hG; clear hG; intro f0 hG
      refine And.elim ?_ hG; clear hG; intro f1 hG
      refine And.elim ?_ hG; clear hG; intro f2 hG
      refine And.elim ?_ hG; clear hG; intro f3 hG
      refine And.elim ?_ hG; clear hG; intro f4 hG
      refine And.elim ?_ hG; clear hG; intro f5 hG
      refine And.elim ?_ hG; clear hG; intro f6 hG
      refine And.elim ?_ hG; clear hG; intro f7 hG
      refine And.elim ?_ hG; clear hG; intro f8 hG
      refine And.elim ?_ hG; clear hG; intro f9 hG
      refine And.elim ?_ hG; clear hG; intro f10 hG
      refine And.elim ?_ hG; clear hG; intro f11 hG
      refine And.elim ?_ hG; clear hG; intro f12 hG
      refine And.elim ?_ hG; clear hG; intro f13 hG
      refine And.elim ?_ hG; clear hG; intro f14 hG
      refine And.elim ?_ hG; clear hG; intro f15 hG
      refine And.elim ?_ hG; clear hG; intro f16 hG
      refine And.elim ?_ hG; clear hG; intro f17 hG
      refine And.elim ?_ hG; clear hG; intro f18 hG
      have f19 := hG; clear hG
      subst ha
      have HM := Lib.hid hM
      clear hM hd
      have F0 := Lib.hid f0; clear f0
      have F1 := Lib.hid f1; clear f1
      have F2 := Lib.hid f2; clear f2
      have F3 := Lib.hid f3; clear f3
      have F4 := Lib.hid f4; clear f4
      have F5 := Lib.hid f5; clear f5
      have F6 := Lib.hid f6; clear f6
      have F7 := Lib.hid f7; clear f7
      have F8 := Lib.hid f8; clear f8
      have F9 := Lib.hid f9; clear f9
      have F10 := Lib.hid f10; clear f10
      have F11 := Lib.hid f11; clear f11
      have F12 := Lib.hid f12; clear f12
      have F13 := Lib.hid f13; clear f13
      have F14 := Lib.hid f14; clear f14
      have F15 := Lib.hid f15; clear f15
      have F16 := Lib.hid f16; clear f16
      have F17 := Lib.hid f17; clear f17
      have F18 := Lib.hid f18; clear f18
      have F19 := Lib.hid f19; clear f19
      go_simp
      go_wp2
      exact ⟨_, _, _, _, _, _, _, _, _, _, _, _, _, _, _, _, _, _, _, _, rfl, HM.out.same (i := 4) (by decide) (by decide) (by decide), F0.out, F1.out, F2.out, F3.out, fun _ => rfl, F5.out, F6.out, F7.out, F8.out, F9.out, F10.out, F11.out, F12.out, F13.out, F14.out, F15.out, F16.out, F17.out, F18.out, F19.out⟩
    · intro L a' wx hLi hd hG K hK
      refine Exists.elim hG ?_; clear hG; intro u20 hG
      refine Exists.elim hG ?_; clear hG; intro u21 hG
      refine Exists.elim hG ?_; clear hG; intro u22 hG
      refine Exists.elim hG ?_; clear hG; intro u23 hG
      refine Exists.elim hG ?_; clear hG; intro u24 hG
      refine Exists.elim hG ?_; clear hG; intro u25 hG
      refine Exists.elim hG ?_; clear hG; intro u26 hG
      refine Exists.elim hG ?_; clear hG; intro u27 hG
      refine Exists.elim hG ?_; clear hG; intro u28 hG
      refine Exists.elim hG ?_; clear hG; intro u29 hG
      refine Exists.elim hG ?_; clear hG; intro u30 hG
      refine Exists.elim hG ?_; clear hG; intro u31 hG
      refine Exists.elim hG ?_; clear hG; intro u32 hG
      refine Exists.elim hG ?_; clear hG; intro u33 hG
      refine Exists.elim hG ?_; clear hG; intro u34 hG
      refine Exists.elim hG ?_; clear hG; intro u35 hG
      refine Exists.elim hG ?_; clear hG; intro u36 hG
      refine Exists.elim hG ?_; clear hG; intro u37 hG
      refine Exists.elim hG ?_; clear hG; intro u38 hG
      refine Exists.elim hG ?_; clear hG; intro u39 hG
      refine And.elim ?_ hG; clear hG; intro ha hG
      refine And.elim ?_ hG; clear hG; intro hM hG
      refine And.elim ?_ hG; clear hG; intro f0 hG
      refine And.elim ?_ hG; clear hG; intro f1 hG
      refine And.elim ?_ hG; clear hG; intro f2 hG
      refine And.elim ?_ hG; clear hG; intro f3 hG
      refine And.elim ?_ hG; clear hG; intro f4 hG
      refine And.elim ?_ hG; clear hG; intro f5 hG
      refine And.elim ?_ hG; clear hG; intro f6 hG
      refine And.elim ?_ hG; clear hG; intro f7 hG
      refine And.elim ?_ hG; clear hG; intro f8 hG
      refine And.elim ?_ hG; clear hG; intro f9 hG
      refine And.elim ?_ hG; clear hG; intro f10 hG
      refine And.elim ?_ hG; clear hG; intro f11 hG
      refine And.elim ?_ hG; clear hG; intro f12 hG
      refine And.elim ?_ hG; clear hG; intro f13 hG
      refine And.elim ?_ hG; clear hG; intro f14 hG
      refine And.elim ?_ hG; clear hG; intro f15 hG
      refine And.elim ?_ hG; clear hG; intro f16 hG
      refine And.elim ?_ hG; clear hG; intro f17 hG
      refine And.elim ?_ hG; clear hG; intro f18 hG
      have f19 := hG; clear hG
      subst ha
      have HM := Lib.hid hM
      clear hM hd
      have F0 := Lib.hid f0; clear f0
      have F1 := Lib.hid f1; clear f1
      have F2 := Lib.hid f2; clear f2
      have F3 := Lib.hid f3; clear f3
      have F4 := Lib.hid f4; clear f4
      have F5 := Lib.hid f5; clear f5
      have F6 := Lib.hid f6; clear f6
      have F7 := Lib.hid f7; clear f7
      have F8 := Lib.hid f8; clear f8
      have F9 := Lib.hid f9; clear f9
      have F10 := Lib.hid f10; clear f10
      have F11 := Lib.hid f11; clear f11
      have F12 := Lib.hid f12; clear f12
      have F13 := Lib.hid f13; clear f13
      have F14 := Lib.hid f14; clear f14
      have F15 := Lib.hid f15; clear f15
      have F16 := Lib.hid f16; clear f16
      have F17 := Lib.hid f17; clear f17
      have F18 := Lib.hid f18; clear f18
      have F19 := Lib.hid f19; clear f19
      go_simp
      go_wp2
      exact ⟨_, _, _, _, _, _, _, _, _, _, _, _, _, _, _, _, _, _, _, _, rfl, HM.out.same (i := 5) (by decide) (by decide) (by decide), F0.out, F1.out, F2.out, F3.out, F4.out, fun _ => rfl, F6.out, F7.out, F8.out, F9.out, F10.out, F11.out, F12.out, F13.out, F14.out, F15.out, F16.out, F17.out, F18.out, F19.out⟩
    · intro L a' wx hLi hd hG K hK
      refine Exists.elim hG ?_; clear hG; intro u20 hG
      refine Exists.elim hG ?_; clear hG; intro u21 hG
      refine Exists.elim hG ?_; clear hG; intro u22 hG
      refine Exists.elim hG ?_; clear hG; intro u23 hG
      refine Exists.elim hG ?_; clear hG; intro u24 hG
      refine Exists.elim hG ?_; clear hG; intro u25 hG
      refine Exists.elim hG ?_; clear hG; intro u26 hG
      refine Exists.elim hG ?_; clear hG; intro u27 hG
      refine Exists.elim hG ?_; clear hG; intro u28 hG
      refine Exists.elim hG ?_; clear hG; intro u29 hG
      refine Exists.elim hG ?_; clear hG; intro u30 hG
      refine Exists.elim hG ?_; clear hG; intro u31 hG
      refine Exists.elim hG ?_; clear hG; intro u32 hG
      refine Exists.elim hG ?_; clear hG; intro u33 hG
      refine Exists.elim hG ?_; clear hG; intro u34 hG
      refine Exists.elim hG ?_; clear hG; intro u35 hG
      refine Exists.elim hG ?_; clear hG; intro u36 hG
      refine Exists.elim hG ?_; clear hG; intro u37 hG
      refine Exists.elim hG ?_; clear hG; intro u38 hG
      refine Exists.elim hG ?_; clear hG; intro u39 hG
      refine And.elim ?_ hG; clear hG; intro ha hG
      refine And.elim ?_ hG; clear hG; intro hM hG
      refine And.elim ?_ hG; clear hG; intro f0 hG
      refine And.elim ?_ hG; clear hG; intro f1 hG
      refine And.elim ?_ hG; clear hG; intro f2 hG
      refine And.elim ?_ hG; clear hG; intro f3 hG
      refine And.elim ?_ hG; clear hG; intro f4 hG
      refine And.elim ?_ hG; clear hG; intro f5 hG
      refine And.elim ?_ hG; clear hG; intro f6 hG
      refine And.elim ?_ hG; clear hG; intro f7 hG
      refine And.elim ?_ hG; clear hG; intro f8 hG
      refine And.elim ?_ hG; clear hG; intro f9 hG
      refine And.elim ?_ hG; clear hG; intro f10 hG
      refine And.elim ?_ hG; clear hG; intro f11 hG
      refine And.elim ?_ hG; clear hG; intro f12 hG
      refine And.elim ?_ hG; clear hG; intro f13 hG
      refine And.elim ?_ hG; clear hG; intro f14 hG
      refine And.elim ?_ hG; clear hG; intro f15 hG
      refine And.elim ?_ hG; clear hG; intro f16 hG
      refine And.elim ?_ hG; clear hG; intro f17 hG
      refine And.elim ?_ hG; clear hG; intro f18 hG
      have f19 := hG; clear hG
      subst ha
      obtain rfl := f5 (hd ⟨5, .data⟩ (by simp) rfl)
      have HM := Lib.hid hM
      clear hM hd
      have F0 := Lib.hid f0; clear f0
      have F1 := Lib.hid f1; clear f1
      have F2 := Lib.hid f2; clear f2
      have F3 := Lib.hid f3; clear f3
      have F4 := Lib.hid f4; clear f4
      have F5 := Lib.hid f5; clear f5
      have F6 := Lib.hid f6; clear f6
      have F7 := Lib.hid f7; clear f7
      have F8 := Lib.hid f8; clear f8
      have F9 := Lib.hid f9; clear f9
      have F10 := Lib.hid f10; clear f10
      have F11 := Lib.hid f11; clear f11
      have F12 := Lib.hid f12; clear f12
      have F13 := Lib.hid f13; clear f13
      have F14 := Lib.hid f14; clear f14
      have F15 := Lib.hid f15; clear f15
      have F16 := Lib.hid f16; clear f16
      have F17 := Lib.hid f17; clear f17
      have F18 := Lib.hid f18; clear f18
      have F19 := Lib.hid f19; clear f19
      go_simp
      go_wp2
      exact ⟨_, _, _, _, _, _, _, _, _, _, _, _, _, _, _, _, _, _, _, _, rfl, HM.out.same (i := 6) (by decide) (by decide) (by decide), F0.out, F1.out, F2.out, F3.out, F4.out, fun _ => rfl, fun _ => rfl, F7.out, F8.out, F9.out, F10.out, F11.out, F12.out, F13.out, F14.out, F15.out, F16.out, F17.out, F18.out, F19.out⟩
    · intro L a' wx hLi hd hG K hK
      refine Exists.elim hG ?_; clear hG; intro u20 hG
      refine Exists.elim hG ?_; clear hG; intro u21 hG
      refine Exists.elim hG ?_; clear hG; intro u22 hG
      refine Exists.elim hG ?_; clear hG; intro u23 hG
      refine Exists.elim hG ?_; clear hG; intro u24 hG
      refine Exists.elim hG ?_; clear hG; intro u25 hG
      refine Exists.elim hG ?_; clear hG; intro u26 hG
      refine Exists.elim hG ?_; clear hG; intro u27 hG
      refine Exists.elim hG ?_; clear hG; intro u28 hG
      refine Exists.elim hG ?_; clear hG; intro u29 hG
      refine Exists.elim hG ?_; clear hG; intro u30 hG
      refine Exists.elim hG ?_; clear hG; intro u31 hG
      refine Exists.elim hG ?_; clear hG; intro u32 hG
      refine Exists.elim hG ?_; clear hG; intro u33 hG
      refine Exists.elim hG ?_; clear hG; intro u34 hG
      refine Exists.elim hG ?_; clear hG; intro u35 hG
      refine Exists.elim hG ?_; clear hG; intro u36 hG
      refine Exists.elim hG ?_; clear hG; intro u37 hG
      refine Exists.elim hG ?_; clear hG; intro u38 hG
      refine Exists.elim hG ?_; clear hG; intro u39 hG
      refine And.elim ?_ hG; clear hG; intro ha hG
      refine And.elim ?_ hG; clear hG; intro hM hG
      refine And.elim ?_ hG; clear hG; intro f0 hG
      refine And.elim ?_ hG; clear hG; intro f1 hG
      refine And.elim ?_ hG; clear hG; intro f2 hG
      refine And.elim ?_ hG; clear hG; intro f3 hG
      refine And.elim ?_ hG; clear hG; intro f4 hG
      refine And.elim ?_ hG; clear hG; intro f5 hG
      refine And.elim ?_ hG; clear hG; intro f6 hG
      refine And.elim ?_ hG; clear hG; intro f7 hG
      refine And.elim ?_ hG; clear hG; intro f8 hG
      refine And.elim ?_ hG; clear hG; intro f9 hG
      refine And.elim ?_ hG; clear hG; intro f10 hG
      refine And.elim ?_ hG; clear hG; intro f11 hG
      refine And.elim ?_ hG; clear hG; intro f12 hG
      refine And.elim ?_ hG; clear hG; intro f13 hG
      refine And.elim ?_ hG; clear hG; intro f14 hG
      refine And.elim ?_ hG; clear hG; intro f15 hG
      refine And.elim ?_ hG; clear hG; intro f16 hG
      refine And.elim ?_ hG; clear hG; intro f17 hG
      refine And.elim ?_ hG; clear hG; intro f18 hG
      have f19 := hG; clear hG
      subst ha
      obtain rfl := f6 (hd ⟨6, .data⟩ (by simp) rfl)
      have HM := Lib.hid hM
      clear hM hd
      have F0 := Lib.hid f0; clear f0
      have F1 := Lib.hid f1; clear f1
      have F2 := Lib.hid f2; clear f2
      have F3 := Lib.hid f3; clear f3
      have F4 := Lib.hid f4; clear f4
      have F5 := Lib.hid f5; clear f5
      have F6 := Lib.hid f6; clear f6
      have F7 := Lib.hid f7; clear f7
      have F8 := Lib.hid f8; clear f8
      have F9 := Lib.hid f9; clear f9
      have F10 := Lib.hid f10; clear f10
      have F11 := Lib.hid f11; clear f11
      have F12 := Lib.hid f12; clear f12
      have F13 := Lib.hid f13; clear f13
      have F14 := Lib.hid f14; clear f14
      have F15 := Lib.hid f15; clear f15
      have F16 := Lib.hid f16; clear f16
      have F17 := Lib.hid f17; clear f17
      have F18 := Lib.hid f18; clear f18
      have F19 := Lib.hid f19; clear f19
      go_simp
      go_wp2
      exact ⟨_, _, _, _, _, _, _, _, _, _, _, _, _, _, _, _, _, _, _, _, rfl, HM.out.same (i := 7) (by decide) (by decide) (by decide), F0.out, F1.out, F2.out, F3.out, F4.out, F5.out, fun _ => rfl, fun _ => rfl, F8.out, F9.out, F10.out, F11.out, F12.out, F13.out, F14.out, F15.out, F16.out, F17.out, F18.out, F19.out⟩
    · intro L a' wx hLi hd hG K hK
      refine Exists.elim hG ?_; clear hG; intro u20 hG
      refine Exists.elim hG ?_; clear hG; intro u21 hG
      refine Exists.elim hG ?_; clear hG; intro u22 hG
      refine Exists.elim hG ?_; clear hG; intro u23 hG
      refine Exists.elim hG ?_; clear hG; intro u24 hG
      refine Exists.elim hG ?_; clear hG; intro u25 hG
      refine Exists.elim hG ?_; clear hG; intro u26 hG
      refine Exists.elim hG ?_; clear hG; intro u27 hG
      refine Exists.elim hG ?_; clear hG; intro u28 hG
      refine Exists.elim hG ?_; clear hG; intro u29 hG
      refine Exists.elim hG ?_; clear hG; intro u30 hG
      refine Exists.elim hG ?_; clear hG; intro u31 hG
      refine Exists.elim hG ?_; clear hG; intro u32 hG
      refine Exists.elim hG ?_; clear hG; intro u33 hG
      refine Exists.elim hG ?_; clear hG; intro u34 hG
      refine Exists.elim hG ?_; clear hG; intro u35 hG
      refine Exists.elim hG ?_; clear hG; intro u36 hG
      refine Exists.elim hG ?_; clear hG; intro u37 hG
      refine Exists.elim hG ?_; clear hG; intro u38 hG
      refine Exists.elim hG ?_; clear hG; intro u39 hG
      refine And.elim ?_ hG; clear hG; intro ha hG
      refine And.elim ?_ hG; clear hG; intro hM hG
      refine And.elim ?_ hG; clear hG; intro f0 hG
      refine And.elim ?_ hG; clear hG; intro f1 hG
      refine And.elim ?_ hG; clear hG; intro f2 hG
      refine And.elim ?_ hG; clear hG; intro f3 hG
      refine And.elim ?_ hG; clear hG; intro f4 hG
      refine And.elim ?_ hG; clear hG; intro f5 hG
      refine And.elim ?_ hG; clear hG; intro f6 hG
      refine And.elim ?_ hG; clear hG; intro f7 hG
      refine And.elim ?_ hG; clear hG; intro f8 hG
      refine And.elim ?_ hG; clear hG; intro f9 hG
      refine And.elim ?_ hG; clear hG; intro f10 hG
      refine And.elim ?_ hG; clear hG; intro f11 hG
      refine And.elim ?_ hG; clear hG; intro f12 hG
      refine And.elim ?_ hG; clear hG; intro f13 hG
      refine And.elim ?_ hG; clear hG; intro f14 hG
      refine And.elim ?_ hG; clear hG; intro f15 hG
      refine And.elim ?_ hG; clear hG; intro f16 hG
      refine And.elim ?_ hG; clear hG; intro f17 hG
      refine And.elim ?_ hG; clear hG; intro f18 hG
      have f19 := hG; clear hG
      subst ha
      obtain rfl := f7 (hd ⟨7, .data⟩ (by simp) rfl)
      have hc1 := hM.c1
      have HM := Lib.hid hM
      clear hM hd
      have F0 := Lib.hid f0; clear f0
      have F1 := Lib.hid f1; clear f1
      have F2 := Lib.hid f2; clear f2
      have F3 := Lib.hid f3; clear f3
      have F4 := Lib.hid f4; clear f4
      have F5 := Lib.hid f5; clear f5
      have F6 := Lib.hid f6; clear f6
      have F7 := Lib.hid f7; clear f7
      have F8 := Lib.hid f8; clear f8
      have F9 := Lib.hid f9; clear f9
      have F10 := Lib.hid f10; clear f10
      have F11 := Lib.hid f11; clear f11
      have F12 := Lib.hid f12; clear f12
      have F13 := Lib.hid f13; clear f13
      have F14 := Lib.hid f14; clear f14
      have F15 := Lib.hid f15; clear f15
      have F16 := Lib.hid f16; clear f16
      have F17 := Lib.hid f17; clear f17
      have F18 := Lib.hid f18; clear f18
      have F19 := Lib.hid f19; clear f19
      go_simp
      go_wp2
      exact ⟨_, _, _, _, _, _, _, _, _, _, _, _, _, _, _, _, _, _, _, _, rfl, HM.out.same (i := 8) (by decide) (by decide) (by decide), F0.out, F1.out, F2.out, F3.out, F4.out, F5.out, F6.out, fun _ => rfl, fun _ => rfl, F9.out, F10.out, F11.out, F12.out, F13.out, F14.out, F15.out, F16.out, F17.out, F18.out, F19.out⟩
    · intro L a' wx hLi hd hG K hK
      refine Exists.elim hG ?_; clear hG; intro u20 hG
      refine Exists.elim hG ?_; clear hG; intro u21 hG
      refine Exists.elim hG ?_; clear hG; intro u22 hG
      refine Exists.elim hG ?_; clear hG; intro u23 hG
      refine Exists.elim hG ?_; clear hG; intro u24 hG
      refine Exists.elim hG ?_; clear hG; intro u25 hG
      refine Exists.elim hG ?_; clear hG; intro u26 hG
      refine Exists.elim hG ?_; clear hG; intro u27 hG
      refine Exists.elim hG ?_; clear hG; intro u28 hG
      refine Exists.elim hG ?_; clear hG; intro u29 hG
      refine Exists.elim hG ?_; clear hG; intro u30 hG
      refine Exists.elim hG ?_; clear hG; intro u31 hG
      refine Exists.elim hG ?_; clear hG; intro u32 hG
      refine Exists.elim hG ?_; clear hG; intro u33 hG
      refine Exists.elim hG ?_; clear hG; intro u34 hG
      refine Exists.elim hG ?_; clear hG; intro u35 hG
      refine Exists.elim hG ?_; clear hG; intro u36 hG
      refine Exists.elim hG ?_; clear hG; intro u37 hG
      refine Exists.elim hG ?_; clear hG; intro u38 hG
      refine Exists.elim hG ?_; clear hG; intro u39 hG
      refine And.elim ?_ hG; clear hG; intro ha hG
      refine And.elim ?_ hG; clear hG; intro hM hG
      refine And.elim ?_ hG; clear hG; intro f0 hG
      refine And.elim ?_ hG; clear hG; intro f1 hG
      refine And.elim ?_ hG; clear hG; intro f2 hG
      refine And.elim ?_ hG; clear hG; intro f3 hG
      refine And.elim ?_ hG; clear hG; intro f4 hG
      refine And.elim ?_ hG; clear hG; intro f5 hG
      refine And.elim ?_ hG; clear hG; intro f6 hG
      refine And.elim ?_ hG; clear hG; intro f7 hG
      refine And.elim ?_ hG; clear hG; intro f8 hG
      refine And.elim ?_ hG; clear hG; intro f9 hG
      refine And.elim ?_ hG; clear hG; intro f10 hG
      refine And.elim ?_ hG; clear hG; intro f11 hG
      refine And.elim ?_ hG; clear hG; intro f12 hG
      refine And.elim ?_ hG; clear hG; intro f13 hG
      refine And.elim ?_ hG; clear hG; intro f14 hG
      refine And.elim ?_ hG; clear hG; intro f15 hG
      refine And.elim ?_ hG; clear hG; intro f16 hG
      refine And.elim ?_ hG; clear hG; intro f17 hG
      refine And.elim ?_ hG; clear hG; intro f18 hG
      have f19 := hG; clear hG
      subst ha
      have HM := Lib.hid hM
      clear hM hd
      have F0 := Lib.hid f0; clear f0
      have F1 := Lib.hid f1; clear f1
      have F2 := Lib.hid f2; clear f2
      have F3 := Lib.hid f3; clear f3
      have F4 := Lib.hid f4; clear f4
      have F5 := Lib.hid f5; clear f5
      have F6 := Lib.hid f6; clear f6
      have F7 := Lib.hid f7; clear f7
      have F8 := Lib.hid f8; clear f8
      have F9 := Lib.hid f9; clear f9
      have F10 := Lib.hid f10; clear f10
      have F11 := Lib.hid f11; clear f11
      have F12 := Lib.hid f12; clear f12
      have F13 := Lib.hid f13; clear f13
      have F14 := Lib.hid f14; clear f14
      have F15 := Lib.hid f15; clear f15
      have F16 := Lib.hid f16; clear f16
      have F17 := Lib.hid f17; clear f17
      have F18 := Lib.hid f18; clear f18
      have F19 := Lib.hid f19; clear f19
      go_simp
      go_wp2
      exact ⟨_, _, _, _, _, _, _, _, _, _, _, _, _, _, _, _, _, _, _, _, rfl, HM.out.same (i := 9) (by decide) (by decide) (by decide), F0.out, F1.out, F2.out, F3.out, F4.out, F5.out, F6.out, F7.out, F8.out, fun _ => rfl, F10.out, F11.out, F12.out, F13.out, F14.out, F15.out, F16.out, F17.out, F18.out, F19.out⟩
    · intro L a' wx hLi hd hG K hK
      refine Exists.elim hG ?_; clear hG; intro u20 hG
      refine Exists.elim hG ?_; clear hG; intro u21 hG
      refine Exists.elim hG ?_; clear hG; intro u22 hG
      refine Exists.elim hG ?_; clear hG; intro u23 hG
      refine Exists.elim hG ?_; clear hG; intro u24 hG
      refine Exists.elim hG ?_; clear hG; intro u25 hG
      refine Exists.elim hG ?_; clear hG; intro u26 hG
      refine Exists.elim hG ?_; clear hG; intro u27 hG
      refine Exists.elim hG ?_; clear hG; intro u28 hG
      refine Exists.elim hG ?_; clear hG; intro u29 hG
      refine Exists.elim hG ?_; clear hG; intro u30 hG
      refine Exists.elim hG ?_; clear hG; intro u31 hG
      refine Exists.elim hG ?_; clear hG; intro u32 hG
      refine Exists.elim hG ?_; clear hG; intro u33 hG
      refine Exists.elim hG ?_; clear hG; intro u34 hG
      refine Exists.elim hG ?_; clear hG; intro u35 hG
      refine Exists.elim hG ?_; clear hG; intro u36 hG
      refine Exists.elim hG ?_; clear hG; intro u37 hG
      refine Exists.elim hG ?_; clear hG; intro u38 hG
      refine Exists.elim hG ?_; clear hG; intro u39 hG
      refine And.elim ?_ hG; clear hG; intro ha hG
      refine And.elim ?_ hG; clear hG; intro hM hG
      refine And.elim ?_ hG; clear hG; intro f0 hG
      refine And.elim ?_ hG; clear hG; intro f1 hG
      refine And.elim ?_ hG; clear hG; intro f2 hG
      refine And.elim ?_ hG; clear hG; intro f3 hG
      refine And.elim ?_ hG; clear hG; intro f4 hG
      refine And.elim ?_ hG; clear hG; intro f5 hG
      refine And.elim ?_ hG; clear hG; intro f6 hG
      refine And.elim ?_ hG; clear hG; intro f7 hG
      refine And.elim ?_ hG; clear hG; intro f8 hG
      refine And.elim ?_ hG; clear hG; intro f9 hG
      refine And.elim ?_ hG; clear hG; intro f10 hG
      refine And.elim ?_ hG; clear hG; intro f11 hG
      refine And.elim ?_ hG; clear hG; intro f12 hG
      refine And.elim ?_ hG; clear hG; intro f13 hG
      refine And.elim ?_ hG; clear hG; intro f14 hG
      refine And.elim ?_ hG; clear hG; intro f15 hG
      refine And.elim ?_ hG; clear hG; intro f16 hG
      refine And.elim ?_ hG; clear hG; intro f17 hG
      refine And.elim ?_ hG; clear hG; intro f18 hG
      have f19 := hG; clear hG
      subst ha
      obtain rfl := f8 (hd ⟨8, .data⟩ (by simp) rfl)
      obtain rfl := f9 (hd ⟨9, .data⟩ (by simp) rfl)
      have hlk := hM.look HV.out hLi
      have HM := Lib.hid hM
      clear hM hd
      have F0 := Lib.hid f0; clear f0
      have F1 := Lib.hid f1; clear f1
      have F2 := Lib.hid f2; clear f2
      have F3 := Lib.hid f3; clear f3
      have F4 := Lib.hid f4; clear f4
      have F5 := Lib.hid f5; clear f5
      have F6 := Lib.hid f6; clear f6
      have F7 := Lib.hid f7; clear f7
      have F8 := Lib.hid f8; clear f8
      have F9 := Lib.hid f9; clear f9
      have F10 := Lib.hid f10; clear f10
      have F11 := Lib.hid f11; clear f11
      have F12 := Lib.hid f12; clear f12
      have F13 := Lib.hid f13; clear f13
      have F14 := Lib.hid f14; clear f14
      have F15 := Lib.hid f15; clear f15
      have F16 := Lib.hid f16; clear f16
      have F17 := Lib.hid f17; clear f17
      have F18 := Lib.hid f18; clear f18
      have F19 := Lib.hid f19; clear f19
      go_simp
      go_wp2
      exact ⟨_, _, _, _, _, _, _, _, _, _, _, _, _, _, _, _, _, _, _, _, rfl, HM.out.same (i := 10) (by decide) (by decide) (by decide), F0.out, F1.out, F2.out, F3.out, F4.out, F5.out, F6.out, F7.out, fun _ => rfl, fun _ => rfl, fun _ => rfl, F11.out, F12.out, F13.out, F14.out, F15.out, F16.out, F17.out, F18.out, F19.out⟩
    · intro L a' wx hLi hd hG K hK
      refine Exists.elim hG ?_; clear hG; intro u20 hG
      refine Exists.elim hG ?_; clear hG; intro u21 hG
      refine Exists.elim hG ?_; clear hG; intro u22 hG
      refine Exists.elim hG ?_; clear hG; intro u23 hG
      refine Exists.elim hG ?_; clear hG; intro u24 hG
      refine Exists.elim hG ?_; clear hG; intro u25 hG
      refine Exists.elim hG ?_; clear hG; intro u26 hG
      refine Exists.elim hG ?_; clear hG; intro u27 hG
      refine Exists.elim hG ?_; clear hG; intro u28 hG
      refine Exists.elim hG ?_; clear hG; intro u29 hG
      refine Exists.elim hG ?_; clear hG; intro u30 hG
      refine Exists.elim hG ?_; clear hG; intro u31 hG
      refine Exists.elim hG ?_; clear hG; intro u32 hG
      refine Exists.elim hG ?_; clear hG; intro u33 hG
      refine Exists.elim hG ?_; clear hG; intro u34 hG
      refine Exists.elim hG ?_; clear hG; intro u35 hG
      refine Exists.elim hG ?_; clear hG; intro u36 hG
      refine Exists.elim hG ?_; clear hG; intro u37 hG
      refine Exists.elim hG ?_; clear hG; intro u38 hG
      refine Exists.elim hG ?_; clear hG; intro u39 hG
      refine And.elim ?_ hG; clear hG; intro ha hG
      refine And.elim ?_ hG; clear hG; intro hM hG
      refine And.elim ?_ hG; clear hG; intro f0 hG
      refine And.elim ?_ hG; clear hG; intro f1 hG
      refine And.elim ?_ hG; clear hG; intro f2 hG
      refine And.elim ?_ hG; clear hG; intro f3 hG
      refine And.elim ?_ hG; clear hG; intro f4 hG
      refine And.elim ?_ hG; clear hG; intro f5 hG
      refine And.elim ?_ hG; clear hG; intro f6 hG
      refine And.elim ?_ hG; clear hG; intro f7 hG
      refine And.elim ?_ hG; clear hG; intro f8 hG
      refine And.elim ?_ hG; clear hG; intro f9 hG
      refine And.elim ?_ hG; clear hG; intro f10 hG
      refine And.elim ?_ hG; clear hG; intro f11 hG
      refine And.elim ?_ hG; clear hG; intro f12 hG
      refine And.elim ?_ hG; clear hG; intro f13 hG
      refine And.elim ?_ hG; clear hG; intro f14 hG
      refine And.elim ?_ hG; clear hG; intro f15 hG
      refine And.elim ?_ hG; clear hG; intro f16 hG
      refine And.elim ?_ hG; clear hG; intro f17 hG
      refine And.elim ?_ hG; clear hG; intro f18 hG
      have f19 := hG; clear hG
      subst ha
      have HM := Lib.hid hM
      clear hM hd
      have F0 := Lib.hid f0; clear f0
      have F1 := Lib.hid f1; clear f1
      have F2 := Lib.hid f2; clear f2
      have F3 := Lib.hid f3; clear f3
      have F4 := Lib.hid f4; clear f4
      have F5 := Lib.hid f5; clear f5
      have F6 := Lib.hid f6; clear f6
      have F7 := Lib.hid f7; clear f7
      have F8 := Lib.hid f8; clear f8
      have F9 := Lib.hid f9; clear f9
      have F10 := Lib.hid f10; clear f10
      have F11 := Lib.hid f11; clear f11
      have F12 := Lib.hid f12; clear f12
      have F13 := Lib.hid f13; clear f13
      have F14 := Lib.hid f14; clear f14
      have F15 := Lib.hid f15; clear f15
      have F16 := Lib.hid f16; clear f16
      have F17 := Lib.hid f17; clear f17
      have F18 := Lib.hid f18; clear f18
      have F19 := Lib.hid f19; clear f19
      go_simp
      go_wp2
      exact ⟨_, _, _, _, _, _, _, _, _, _, _, _, _, _, _, _, _, _, _, _, rfl, HM.out.same (i := 11) (by decide) (by decide) (by decide), F0.out, F1.out, F2.out, F3.out, F4.out, F5.out, F6.out, F7.out, F8.out, F9.out, F10.out, fun _ => rfl, F12.out, F13.out, F14.out, F15.out, F16.out, F17.out, F18.out, F19.out⟩
    · intro L a' wx hLi hd hG K hK
      refine Exists.elim hG ?_; clear hG; intro u20 hG
      refine Exists.elim hG ?_; clear hG; intro u21 hG
      refine Exists.elim hG ?_; clear hG; intro u22 hG
      refine Exists.elim hG ?_; clear hG; intro u23 hG
      refine Exists.elim hG ?_; clear hG; intro u24 hG
      refine Exists.elim hG ?_; clear hG; intro u25 hG
      refine Exists.elim hG ?_; clear hG; intro u26 hG
      refine Exists.elim hG ?_; clear hG; intro u27 hG
      refine Exists.elim hG ?_; clear hG; intro u28 hG
      refine Exists.elim hG ?_; clear hG; intro u29 hG
      refine Exists.elim hG ?_; clear hG; intro u30 hG
      refine Exists.elim hG ?_; clear hG; intro u31 hG
      refine Exists.elim hG ?_; clear hG; intro u32 hG
      refine Exists.elim hG ?_; clear hG; intro u33 hG
      refine Exists.elim hG ?_; clear hG; intro u34 hG
      refine Exists.elim hG ?_; clear hG; intro u35 hG
      refine Exists.elim hG ?_; clear hG; intro u36 hG
      refine Exists.elim hG ?_; clear hG; intro u37 hG
      refine Exists.elim hG ?_; clear hG; intro u38 hG
      refine Exists.elim hG ?_; clear hG; intro u39 hG
      refine And.elim ?_ hG; clear hG; intro ha hG
      refine And.elim ?_ hG; clear hG; intro hM hG
      refine And.elim ?_ hG; clear hG; intro f0 hG
      refine And.elim ?_ hG; clear hG; intro f1 hG
      refine And.elim ?_ hG; clear hG; intro f2 hG
      refine And.elim ?_ hG; clear hG; intro f3 hG
      refine And.elim ?_ hG; clear hG; intro f4 hG
      refine And.elim ?_ hG; clear hG; intro f5 hG
      refine And.elim ?_ hG; clear hG; intro f6 hG
      refine And.elim ?_ hG; clear hG; intro f7 hG
      refine And.elim ?_ hG; clear hG; intro f8 hG
      refine And.elim ?_ hG; clear hG; intro f9 hG
      refine And.elim ?_ hG; clear hG; intro f10 hG
      refine And.elim ?_ hG; clear hG; intro f11 hG
      refine And.elim ?_ hG; clear hG; intro f12 hG
      refine And.elim ?_ hG; clear hG; intro f13 hG
      refine And.elim ?_ hG; clear hG; intro f14 hG
      refine And.elim ?_ hG; clear hG; intro f15 hG
      refine And.elim ?_ hG; clear hG; intro f16 hG
      refine And.elim ?_ hG; clear hG; intro f17 hG
      refine And.elim ?_ hG; clear hG; intro f18 hG
      have f19 := hG; clear hG
      subst ha
      obtain rfl := f11 (hd ⟨11, .data⟩ (by simp) rfl)
      have HM := Lib.hid hM
      clear hM hd
      have F0 := Lib.hid f0; clear f0
      have F1 := Lib.hid f1; clear f1
      have F2 := Lib.hid f2; clear f2
      have F3 := Lib.hid f3; clear f3
      have F4 := Lib.hid f4; clear f4
      have F5 := Lib.hid f5; clear f5
      have F6 := Lib.hid f6; clear f6
      have F7 := Lib.hid f7; clear f7
      have F8 := Lib.hid f8; clear f8
      have F9 := Lib.hid f9; clear f9
      have F10 := Lib.hid f10; clear f10
      have F11 := Lib.hid f11; clear f11
      have F12 := Lib.hid f12; clear f12
      have F13 := Lib.hid f13; clear f13
      have F14 := Lib.hid f14; clear f14
      have F15 := Lib.hid f15; clear f15
      have F16 := Lib.hid f16; clear f16
      have F17 := Lib.hid f17; clear f17
      have F18 := Lib.hid f18; clear f18
      have F19 := Lib.hid f19; clear f19
      go_simp
      go_wp2
      exact ⟨_, _, _, _, _, _, _, _, _, _, _, _, _, _, _, _, _, _, _, _, rfl, HM.out.same (i := 12) (by decide) (by decide) (by decide), F0.out, F1.out, F2.out, F3.out, F4.out, F5.out, F6.out, F7.out, F8.out, F9.out, F10.out, fun _ => rfl, fun _ => rfl, F13.out, F14.out, F15.out, F16.out, F17.out, F18.out, F19.out⟩
    · intro L a' wx hLi hd hG K hK
      refine Exists.elim hG ?_; clear hG; intro u20 hG
      refine Exists.elim hG ?_; clear hG; intro u21 hG
      refine Exists.elim hG ?_; clear hG; intro u22 hG
      refine Exists.elim hG ?_; clear hG; intro u23 hG
      refine Exists.elim hG ?_; clear hG; intro u24 hG
      refine Exists.elim hG ?_; clear hG; intro u25 hG
      refine Exists.elim hG ?_; clear hG; intro u26 hG
      refine Exists.elim hG ?_; clear hG; intro u27 hG
      refine Exists.elim hG ?_; clear hG; intro u28 hG
      refine Exists.elim hG ?_; clear hG; intro u29 hG
      refine Exists.elim hG ?_; clear hG; intro u30 hG
      refine Exists.elim hG ?_; clear hG; intro u31 hG
      refine Exists.elim hG ?_; clear hG; intro u32 hG
      refine Exists.elim hG ?_; clear hG; intro u33 hG
      refine Exists.elim hG ?_; clear hG; intro u34 hG
      refine Exists.elim hG ?_; clear hG; intro u35 hG
      refine Exists.elim hG ?_; clear hG; intro u36 hG
      refine Exists.elim hG ?_; clear hG; intro u37 hG
      refine Exists.elim hG ?_; clear hG; intro u38 hG
      refine Exists.elim hG ?_; clear hG; intro u39 hG
      refine And.elim ?_ hG; clear hG; intro ha hG
      refine And.elim ?_ hG; clear hG; intro hM hG
      refine And.elim ?_ hG; clear hG; intro f0 hG
      refine And.elim ?_ hG; clear hG; intro f1 hG
      refine And.elim ?_ hG; clear hG; intro f2 hG
      refine And.elim ?_ hG; clear hG; intro f3 hG
      refine And.elim ?_ hG; clear hG; intro f4 hG
      refine And.elim ?_ hG; clear hG; intro f5 hG
      refine And.elim ?_ hG; clear hG; intro f6 hG
      refine And.elim ?_ hG; clear hG; intro f7 hG
      refine And.elim ?_ hG; clear hG; intro f8 hG
      refine And.elim ?_ hG; clear hG; intro f9 hG
      refine And.elim ?_ hG; clear hG; intro f10 hG
      refine And.elim ?_ hG; clear hG; intro f11 hG
      refine And.elim ?_ hG; clear hG; intro f12 hG
      refine And.elim ?_ hG; clear hG; intro f13 hG
      refine And.elim ?_ hG; clear hG; intro f14 hG
      refine And.elim ?_ hG; clear hG; intro f15 hG
      refine And.elim ?_ hG; clear hG; intro f16 hG
      refine And.elim ?_ hG; clear hG; intro f17 hG
      refine And.elim ?_ hG; clear hG; intro f18 hG
      have f19 := hG; clear hG
      subst ha
      obtain rfl := f12 (hd ⟨12, .data⟩ (by simp) rfl)
      have HM := Lib.hid hM
      clear hM hd
      have F0 := Lib.hid f0; clear f0
      have F1 := Lib.hid f1; clear f1
      have F2 := Lib.hid f2; clear f2
      have F3 := Lib.hid f3; clear f3
      have F4 := Lib.hid f4; clear f4
      have F5 := Lib.hid f5; clear f5
      have F6 := Lib.hid f6; clear f6
      have F7 := Lib.hid f7; clear f7
      have F8 := Lib.hid f8; clear f8
      have F9 := Lib.hid f9; clear f9
      have F10 := Lib.hid f10; clear f10
      have F11 := Lib.hid f11; clear f11
      have F12 := Lib.hid f12; clear f12
      have F13 := Lib.hid f13; clear f13
      have F14 := Lib.hid f14; clear f14
      have F15 := Lib.hid f15; clear f15
      have F16 := Lib.hid f16; clear f16
      have F17 := Lib.hid f17; clear f17
      have F18 := Lib.hid f18; clear f18
      have F19 := Lib.hid f19; clear f19
      go_simp
      go_wp2
      exact ⟨_, _, _, _, _, _, _, _, _, _, _, _, _, _, _, _, _, _, _, _, rfl, HM.out.same (i := 13) (by decide) (by decide) (by decide), F0.out, F1.out, F2.out, F3.out, F4.out, F5.out, F6.out, F7.out, F8.out, F9.out, F10.out, F11.out, fun _ => rfl, fun _ => rfl, F14.out, F15.out, F16.out, F17.out, F18.out, F19.out⟩
    · intro L a' wx hLi hd hG K hK
      refine Exists.elim hG ?_; clear hG; intro u20 hG
      refine Exists.elim hG ?_; clear hG; intro u21 hG
      refine Exists.elim hG ?_; clear hG; intro u22 hG
      refine Exists.elim hG ?_; clear hG; intro u23 hG
      refine Exists.elim hG ?_; clear hG; intro u24 hG
      refine Exists.elim hG ?_; clear hG; intro u25 hG
      refine Exists.elim hG ?_; clear hG; intro u26 hG
      refine Exists.elim hG ?_; clear hG; intro u27 hG
      refine Exists.elim hG ?_; clear hG; intro u28 hG
      refine Exists.elim hG ?_; clear hG; intro u29 hG
      refine Exists.elim hG ?_; clear hG; intro u30 hG
      refine Exists.elim hG ?_; clear hG; intro u31 hG
      refine Exists.elim hG ?_; clear hG; intro u32 hG
      refine Exists.elim hG ?_; clear hG; intro u33 hG
      refine Exists.elim hG ?_; clear hG; intro u34 hG
      refine Exists.elim hG ?_; clear hG; intro u35 hG
      refine Exists.elim hG ?_; clear hG; intro u36 hG
      refine Exists.elim hG ?_; clear hG; intro u37 hG
      refine Exists.elim hG ?_; clear hG; intro u38 hG
      refine Exists.elim hG ?_; clear hG; intro u39 hG
      refine And.elim ?_ hG; clear hG; intro ha hG
      refine And.elim ?_ hG; clear hG; intro hM hG
      refine And.elim ?_ hG; clear hG; intro f0 hG
      refine And.elim ?_ hG; clear hG; intro f1 hG
      refine And.elim ?_ hG; clear hG; intro f2 hG
      refine And.elim ?_ hG; clear hG; intro f3 hG
      refine And.elim ?_ hG; clear hG; intro f4 hG
      refine And.elim ?_ hG; clear hG; intro f5 hG
      refine And.elim ?_ hG; clear hG; intro f6 hG
      refine And.elim ?_ hG; clear hG; intro f7 hG
      refine And.elim ?_ hG; clear hG; intro f8 hG
      refine And.elim ?_ hG; clear hG; intro f9 hG
      refine And.elim ?_ hG; clear hG; intro f10 hG
      refine And.elim ?_ hG; clear hG; intro f11 hG
      refine And.elim ?_ hG; clear hG; intro f12 hG
      refine And.elim ?_ hG; clear hG; intro f13 hG
      refine And.elim ?_ hG; clear hG; intro f14 hG
      refine And.elim ?_ hG; clear hG; intro f15 hG
      refine And.elim ?_ hG; clear hG; intro f16 hG
      refine And.elim ?_ hG; clear hG; intro f17 hG
      refine And.elim ?_ hG; clear hG; intro f18 hG
      have f19 := hG; clear hG
      subst ha
      obtain rfl := f13 (hd ⟨13, .data⟩ (by simp) rfl)
      have hc0 := hM.c0
      have HM := Lib.hid hM
      clear hM hd
      have F0 := Lib.hid f0; clear f0
      have F1 := Lib.hid f1; clear f1
      have F2 := Lib.hid f2; clear f2
      have F3 := Lib.hid f3; clear f3
      have F4 := Lib.hid f4; clear f4
      have F5 := Lib.hid f5; clear f5
      have F6 := Lib.hid f6; clear f6
      have F7 := Lib.hid f7; clear f7
      have F8 := Lib.hid f8; clear f8
      have F9 := Lib.hid f9; clear f9
      have F10 := Lib.hid f10; clear f10
      have F11 := Lib.hid f11; clear f11
      have F12 := Lib.hid f12; clear f12
      have F13 := Lib.hid f13; clear f13
      have F14 := Lib.hid f14; clear f14
      have F15 := Lib.hid f15; clear f15
      have F16 := Lib.hid f16; clear f16
      have F17 := Lib.hid f17; clear f17
      have F18 := Lib.hid f18; clear f18
      have F19 := Lib.hid f19; clear f19
      go_simp
      go_wp2
      exact ⟨_, _, _, _, _, _, _, _, _, _, _, _, _, _, _, _, _, _, _, _, rfl, HM.out.same (i := 14) (by decide) (by decide) (by decide), F0.out, F1.out, F2.out, F3.out, F4.out, F5.out, F6.out, F7.out, F8.out, F9.out, F10.out, F11.out, F12.out, fun _ => rfl, fun _ => rfl, F15.out, F16.out, F17.out, F18.out, F19.out⟩
    · intro L a' wx hLi hd hG K hK
      refine Exists.elim hG ?_; clear hG; intro u20 hG
      refine Exists.elim hG ?_; clear hG; intro u21 hG
      refine Exists.elim hG ?_; clear hG; intro u22 hG
      refine Exists.elim hG ?_; clear hG; intro u23 hG
      refine Exists.elim hG ?_; clear hG; intro u24 hG
      refine Exists.elim hG ?_; clear hG; intro u25 hG
      refine Exists.elim hG ?_; clear hG; intro u26 hG
      refine Exists.elim hG ?_; clear hG; intro u27 hG
      refine Exists.elim hG ?_; clear hG; intro u28 hG
      refine Exists.elim hG ?_; clear hG; intro u29 hG
      refine Exists.elim hG ?_; clear hG; intro u30 hG
      refine Exists.elim hG ?_; clear hG; intro u31 hG
      refine Exists.elim hG ?_; clear hG; intro u32 hG
      refine Exists.elim hG ?_; clear hG; intro u33 hG
      refine Exists.elim hG ?_; clear hG; intro u34 hG
      refine Exists.elim hG ?_; clear hG; intro u35 hG
      refine Exists.elim hG ?_; clear hG; intro u36 hG
      refine Exists.elim hG ?_; clear hG; intro u37 hG
      refine Exists.elim hG ?_; clear hG; intro u38 hG
      refine Exists.elim hG ?_; clear hG; intro u39 hG
      refine And.elim ?_ hG; clear hG; intro ha hG
      refine And.elim ?_ hG; clear hG; intro hM hG
      refine And.elim ?_ hG; clear hG; intro f0 hG
      refine And.elim ?_ hG; clear hG; intro f1 hG
      refine And.elim ?_ hG; clear hG; intro f2 hG
      refine And.elim ?_ hG; clear hG; intro f3 hG
      refine And.elim ?_ hG; clear hG; intro f4 hG
      refine And.elim ?_ hG; clear hG; intro f5 hG
      refine And.elim ?_ hG; clear hG; intro f6 hG
      refine And.elim ?_ hG; clear hG; intro f7 hG
      refine And.elim ?_ hG; clear hG; intro f8 hG
      refine And.elim ?_ hG; clear hG; intro f9 hG
      refine And.elim ?_ hG; clear hG; intro f10 hG
      refine And.elim ?_ hG; clear hG; intro f11 hG
      refine And.elim ?_ hG; clear hG; intro f12 hG
      refine And.elim ?_ hG; clear hG; intro f13 hG
      refine And.elim ?_ hG; clear hG; intro f14 hG
      refine And.elim ?_ hG; clear hG; intro f15 hG
      refine And.elim ?_ hG; clear hG; intro f16 hG
      refine And.elim ?_ hG; clear hG; intro f17 hG
      refine And.elim ?_ hG; clear hG; intro f18 hG
      have f19 := hG; clear hG
      subst ha
      have HM := Lib.hid hM
      clear hM hd
      have F0 := Lib.hid f0; clear f0
      have F1 := Lib.hid f1; clear f1
      have F2 := Lib.hid f2; clear f2
      have F3 := Lib.hid f3; clear f3
      have F4 := Lib.hid f4; clear f4
      have F5 := Lib.hid f5; clear f5
      have F6 := Lib.hid f6; clear f6
      have F7 := Lib.hid f7; clear f7
      have F8 := Lib.hid f8; clear f8
      have F9 := Lib.hid f9; clear f9
      have F10 := Lib.hid f10; clear f10
      have F11 := Lib.hid f11; clear f11
      have F12 := Lib.hid f12; clear f12
      have F13 := Lib.hid f13; clear f13
      have F14 := Lib.hid f14; clear f14
      have F15 := Lib.hid f15; clear f15
      have F16 := Lib.hid f16; clear f16
      have F17 := Lib.hid f17; clear f17
      have F18 := Lib.hid f18; clear f18
      have F19 := Lib.hid f19; clear f19
      go_simp
      go_wp2
      exact ⟨_, _, _, _, _, _, _, _, _, _, _, _, _, _, _, _, _, _, _, _, rfl, HM.out.same (i := 15) (by decide) (by decide) (by decide), F0.out, F1.out, F2.out, F3.out, F4.out, F5.out, F6.out, F7.out, F8.out, F9.out, F10.out, F11.out, F12.out, F13.out, F14.out, fun _ => rfl, F16.out, F17.out, F18.out, F19.out⟩
    · intro L a' wx hLi hd hG K hK
      refine Exists.elim hG ?_; clear hG; intro u20 hG
      refine Exists.elim hG ?_; clear hG; intro u21 hG
      refine Exists.elim hG ?_; clear hG; intro u22 hG
      refine Exists.elim hG ?_; clear hG; intro u23 hG
      refine Exists.elim hG ?_; clear hG; intro u24 hG
      refine Exists.elim hG ?_; clear hG; intro u25 hG
      refine Exists.elim hG ?_; clear hG; intro u26 hG
      refine Exists.elim hG ?_; clear hG; intro u27 hG
      refine Exists.elim hG ?_; clear hG; intro u28 hG
      refine Exists.elim hG ?_; clear hG; intro u29 hG
      refine Exists.elim hG ?_; clear hG; intro u30 hG
      refine Exists.elim hG ?_; clear hG; intro u31 hG
      refine Exists.elim hG ?_; clear hG; intro u32 hG
      refine Exists.elim hG ?_; clear hG; intro u33 hG
      refine Exists.elim hG ?_; clear hG; intro u34 hG
      refine Exists.elim hG ?_; clear hG; intro u35 hG
      refine Exists.elim hG ?_; clear hG; intro u36 hG
      refine Exists.elim hG ?_; clear hG; intro u37 hG
      refine Exists.elim hG ?_; clear hG; intro u38 hG
      refine Exists.elim hG ?_; clear hG; intro u39 hG
      refine And.elim ?_ hG; clear hG; intro ha hG
      refine And.elim ?_ hG; clear hG; intro hM hG
      refine And.elim ?_ hG; clear hG; intro f0 hG
      refine And.elim ?_ hG; clear hG; intro f1 hG
      refine And.elim ?_ hG; clear hG; intro f2 hG
      refine And.elim ?_ hG; clear hG; intro f3 hG
      refine And.elim ?_ hG; clear hG; intro f4 hG
      refine And.elim ?_ hG; clear hG; intro f5 hG
      refine And.elim ?_ hG; clear hG; intro f6 hG
      refine And.elim ?_ hG; clear hG; intro f7 hG
      refine And.elim ?_ hG; clear hG; intro f8 hG
      refine And.elim ?_ hG; clear hG; intro f9 hG
      refine And.elim ?_ hG; clear hG; intro f10 hG
      refine And.elim ?_ hG; clear hG; intro f11 hG
      refine And.elim ?_ hG; clear hG; intro f12 hG
      refine And.elim ?_ hG; clear hG; intro f13 hG
      refine And.elim ?_ hG; clear hG; intro f14 hG
      refine And.elim ?_ hG; clear hG; intro f15 hG
      refine And.elim ?_ hG; clear hG; intro f16 hG
      refine And.elim ?_ hG; clear hG; intro f17 hG
      refine And.elim ?_ hG; clear hG; intro f18 hG
      have f19 := hG; clear hG
      subst ha
      have HM := Lib.hid hM
      clear hM hd
      have F0 := Lib.hid f0; clear f0
      have F1 := Lib.hid f1; clear f1
      have F2 := Lib.hid f2; clear f2
      have F3 := Lib.hid f3; clear f3
      have F4 := Lib.hid f4; clear f4
      have F5 := Lib.hid f5; clear f5
      have F6 := Lib.hid f6; clear f6
      have F7 := Lib.hid f7; clear f7
      have F8 := Lib.hid f8; clear f8
      have F9 := Lib.hid f9; clear f9
      have F10 := Lib.hid f10; clear f10
      have F11 := Lib.hid f11; clear f11
      have F12 := Lib.hid f12; clear f12
      have F13 := Lib.hid f13; clear f13
      have F14 := Lib.hid f14; clear f14
      have F15 := Lib.hid f15; clear f15
      have F16 := Lib.hid f16; clear f16
      have F17 := Lib.hid f17; clear f17
      have F18 := Lib.hid f18; clear f18
      have F19 := Lib.hid f19; clear f19
      go_simp
      go_wp2
      exact ⟨_, _, _, _, _, _, _, _, _, _, _, _, _, _, _, _, _, _, _, _, rfl, HM.out.same (i := 16) (by decide) (by decide) (by decide), F0.out, F1.out, F2.out, F3.out, F4.out, F5.out, F6.out, F7.out, F8.out, F9.out, F10.out, F11.out, F12.out, F13.out, F14.out, F15.out, fun _ => rfl, F17.out, F18.out, F19.out⟩
    · intro L a' wx hLi hd hG K hK
      refine Exists.elim hG ?_; clear hG; intro u20 hG
      refine Exists.elim hG ?_; clear hG; intro u21 hG
      refine Exists.elim hG ?_; clear hG; intro u22 hG
      refine Exists.elim hG ?_; clear hG; intro u23 hG
      refine Exists.elim hG ?_; clear hG; intro u24 hG
      refine Exists.elim hG ?_; clear hG; intro u25 hG
      refine Exists.elim hG ?_; clear hG; intro u26 hG
      refine Exists.elim hG ?_; clear hG; intro u27 hG
      refine Exists.elim hG ?_; clear hG; intro u28 hG
      refine Exists.elim hG ?_; clear hG; intro u29 hG
      refine Exists.elim hG ?_; clear hG; intro u30 hG
      refine Exists.elim hG ?_; clear hG; intro u31 hG
      refine Exists.elim hG ?_; clear hG; intro u32 hG
      refine Exists.elim hG ?_; clear hG; intro u33 hG
      refine Exists.elim hG ?_; clear hG; intro u34 hG
      refine Exists.elim hG ?_; clear hG; intro u35 hG
      refine Exists.elim hG ?_; clear hG; intro u36 hG
      refine Exists.elim hG ?_; clear hG; intro u37 hG
      refine Exists.elim hG ?_; clear hG; intro u38 hG
      refine Exists.elim hG ?_; clear hG; intro u39 hG
      refine And.elim ?_ hG; clear hG; intro ha hG
      refine And.elim ?_ hG; clear hG; intro hM hG
      refine And.elim ?_ hG; clear hG; intro f0 hG
      refine And.elim ?_ hG; clear hG; intro f1 hG
      refine And.elim ?_ hG; clear hG; intro f2 hG
      refine And.elim ?_ hG; clear hG; intro f3 hG
      refine And.elim ?_ hG; clear hG; intro f4 hG
      refine And.elim ?_ hG; clear hG; intro f5 hG
      refine And.elim ?_ hG; clear hG; intro f6 hG
      refine And.elim ?_ hG; clear hG; intro f7 hG
      refine And.elim ?_ hG; clear hG; intro f8 hG
      refine And.elim ?_ hG; clear hG; intro f9 hG
      refine And.elim ?_ hG; clear hG; intro f10 hG
      refine And.elim ?_ hG; clear hG; intro f11 hG
      refine And.elim ?_ hG; clear hG; intro f12 hG
      refine And.elim ?_ hG; clear hG; intro f13 hG
      refine And.elim ?_ hG; clear hG; intro f14 hG
      refine And.elim ?_ hG; clear hG; intro f15 hG
      refine And.elim ?_ hG; clear hG; intro f16 hG
      refine And.elim ?_ hG; clear hG; intro f17 hG
      refine And.elim ?_ hG; clear hG; intro f18 hG
      have f19 := hG; clear hG
      subst ha
      obtain rfl := f14 (hd ⟨14, .data⟩ (by simp) rfl)
      obtain rfl := f15 (hd ⟨15, .data⟩ (by simp) rfl)
      obtain rfl := f16 (hd ⟨16, .data⟩ (by simp) rfl)
      have HM := Lib.hid hM
      clear hM hd
      have F0 := Lib.hid f0; clear f0
      have F1 := Lib.hid f1; clear f1
      have F2 := Lib.hid f2; clear f2
      have F3 := Lib.hid f3; clear f3
      have F4 := Lib.hid f4; clear f4
      have F5 := Lib.hid f5; clear f5
      have F6 := Lib.hid f6; clear f6
      have F7 := Lib.hid f7; clear f7
      have F8 := Lib.hid f8; clear f8
      have F9 := Lib.hid f9; clear f9
      have F10 := Lib.hid f10; clear f10
      have F11 := Lib.hid f11; clear f11
      have F12 := Lib.hid f12; clear f12
      have F13 := Lib.hid f13; clear f13
      have F14 := Lib.hid f14; clear f14
      have F15 := Lib.hid f15; clear f15
      have F16 := Lib.hid f16; clear f16
      have F17 := Lib.hid f17; clear f17
      have F18 := Lib.hid f18; clear f18
      have F19 := Lib.hid f19; clear f19
      go_simp
      go_wp2
      exact ⟨_, _, _, _, _, _, _, _, _, _, _, _, _, _, _, _, _, _, _, _, rfl, HM.out.same (i := 17) (by decide) (by decide) (by decide), F0.out, F1.out, F2.out, F3.out, F4.out, F5.out, F6.out, F7.out, F8.out, F9.out, F10.out, F11.out, F12.out, F13.out, fun _ => rfl, fun _ => rfl, fun _ => rfl, fun _ => rfl, F18.out, F19.out⟩
    · intro L a' wx hLi hd hG K hK
      refine Exists.elim hG ?_; clear hG; intro u20 hG
      refine Exists.elim hG ?_; clear hG; intro u21 hG
      refine Exists.elim hG ?_; clear hG; intro u22 hG
      refine Exists.elim hG ?_; clear hG; intro u23 hG
      refine Exists.elim hG ?_; clear hG; intro u24 hG
      refine Exists.elim hG ?_; clear hG; intro u25 hG
      refine Exists.elim hG ?_; clear hG; intro u26 hG
      refine Exists.elim hG ?_; clear hG; intro u27 hG
      refine Exists.elim hG ?_; clear hG; intro u28 hG
      refine Exists.elim hG ?_; clear hG; intro u29 hG
      refine Exists.elim hG ?_; clear hG; intro u30 hG
      refine Exists.elim hG ?_; clear hG; intro u31 hG
      refine Exists.elim hG ?_; clear hG; intro u32 hG
      refine Exists.elim hG ?_; clear hG; intro u33 hG
      refine Exists.elim hG ?_; clear hG; intro u34 hG
      refine Exists.elim hG ?_; clear hG; intro u35 hG
      refine Exists.elim hG ?_; clear hG; intro u36 hG
      refine Exists.elim hG ?_; clear hG; intro u37 hG
      refine Exists.elim hG ?_; clear hG; intro u38 hG
      refine Exists.elim hG ?_; clear hG; intro u39 hG
      refine And.elim ?_ hG; clear hG; intro ha hG
      refine And.elim ?_ hG; clear hG; intro hM hG
      refine And.elim ?_ hG; clear hG; intro f0 hG
      refine And.elim ?_ hG; clear hG; intro f1 hG
      refine And.elim ?_ hG; clear hG; intro f2 hG
      refine And.elim ?_ hG; clear hG; intro f3 hG
      refine And.elim ?_ hG; clear hG; intro f4 hG
      refine And.elim ?_ hG; clear hG; intro f5 hG
      refine And.elim ?_ hG; clear hG; intro f6 hG
      refine And.elim ?_ hG; clear hG; intro f7 hG
      refine And.elim ?_ hG; clear hG; intro f8 hG
      refine And.elim ?_ hG; clear hG; intro f9 hG
      refine And.elim ?_ hG; clear hG; intro f10 hG
      refine And.elim ?_ hG; clear hG; intro f11 hG
      refine And.elim ?_ hG; clear hG; intro f12 hG
      refine And.elim ?_ hG; clear hG; intro f13 hG
      refine And.elim ?_ hG; clear hG; intro f14 hG
      refine And.elim ?_ hG; clear hG; intro f15 hG
      refine And.elim ?_ hG; clear hG; intro f16 hG
      refine And.elim ?_ hG; clear hG; intro f17 hG
      refine And.elim ?_ hG; clear hG; intro f18 hG
      have f19 := hG; clear hG
      subst ha
      obtain rfl := f17 (hd ⟨17, .data⟩ (by simp) rfl)
      have HM2 := Lib.hid (hM.build hLi)
      have HM := Lib.hid hM
      clear hM hd
      have F0 := Lib.hid f0; clear f0
      have F1 := Lib.hid f1; clear f1
      have F2 := Lib.hid f2; clear f2
      have F3 := Lib.hid f3; clear f3
      have F4 := Lib.hid f4; clear f4
      have F5 := Lib.hid f5; clear f5
      have F6 := Lib.hid f6; clear f6
      have F7 := Lib.hid f7; clear f7
      have F8 := Lib.hid f8; clear f8
      have F9 := Lib.hid f9; clear f9
      have F10 := Lib.hid f10; clear f10
      have F11 := Lib.hid f11; clear f11
      have F12 := Lib.hid f12; clear f12
      have F13 := Lib.hid f13; clear f13
      have F14 := Lib.hid f14; clear f14
      have F15 := Lib.hid f15; clear f15
      have F16 := Lib.hid f16; clear f16
      have F17 := Lib.hid f17; clear f17
      have F18 := Lib.hid f18; clear f18
      have F19 := Lib.hid f19; clear f19
      go_simp
      go_wp2
      exact ⟨_, _, _, _, _, _, _, _, _, _, _, _, _, _, _, _, _, _, _, _, rfl, HM2.out, F0.out, F1.out, F2.out, F3.out, F4.out, F5.out, F6.out, F7.out, F8.out, F9.out, F10.out, F11.out, F12.out, F13.out, F14.out, F15.out, F16.out, fun _ => rfl, fun _ => trivial, F19.out⟩
    · intro L a' wx hLi hd hG K hK
      refine Exists.elim hG ?_; clear hG; intro u20 hG
      refine Exists.elim hG ?_; clear hG; intro u21 hG
      refine Exists.elim hG ?_; clear hG; intro u22 hG
      refine Exists.elim hG ?_; clear hG; intro u23 hG
      refine Exists.elim hG ?_; clear hG; intro u24 hG
      refine Exists.elim hG ?_; clear hG; intro u25 hG
      refine Exists.elim hG ?_; clear hG; intro u26 hG
      refine Exists.elim hG ?_; clear hG; intro u27 hG
      refine Exists.elim hG ?_; clear hG; intro u28 hG
      refine Exists.elim hG ?_; clear hG; intro u29 hG
      refine Exists.elim hG ?_; clear hG; intro u30 hG
      refine Exists.elim hG ?_; clear hG; intro u31 hG
      refine Exists.elim hG ?_; clear hG; intro u32 hG
      refine Exists.elim hG ?_; clear hG; intro u33 hG
      refine Exists.elim hG ?_; clear hG; intro u34 hG
      refine Exists.elim hG ?_; clear hG; intro u35 hG
      refine Exists.elim hG ?_; clear hG; intro u36 hG
      refine Exists.elim hG ?_; clear hG; intro u37 hG
      refine Exists.elim hG ?_; clear hG; intro u38 hG
      refine Exists.elim hG ?_; clear hG; intro u39 hG
      refine And.elim ?_ hG; clear hG; intro ha hG
      refine And.elim ?_ hG; clear hG; intro hM hG
      refine And.elim ?_ hG; clear hG; intro f0 hG
      refine And.elim ?_ hG; clear hG; intro f1 hG
      refine And.elim ?_ hG; clear hG; intro f2 hG
      refine And.elim ?_ hG; clear hG; intro f3 hG
      refine And.elim ?_ hG; clear hG; intro f4 hG
      refine And.elim ?_ hG; clear hG; intro f5 hG
      refine And.elim ?_ hG; clear hG; intro f6 hG
      refine And.elim ?_ hG; clear hG; intro f7 hG
      refine And.elim ?_ hG; clear hG; intro f8 hG
      refine And.elim ?_ hG; clear hG; intro f9 hG
      refine And.elim ?_ hG; clear hG; intro f10 hG
      refine And.elim ?_ hG; clear hG; intro f11 hG
      refine And.elim ?_ hG; clear hG; intro f12 hG
      refine And.elim ?_ hG; clear hG; intro f13 hG
      refine And.elim ?_ hG; clear hG; intro f14 hG
      refine And.elim ?_ hG; clear hG; intro f15 hG
      refine And.elim ?_ hG; clear hG; intro f16 hG
      refine And.elim ?_ hG; clear hG; intro f17 hG
      refine And.elim ?_ hG; clear hG; intro f18 hG
      have f19 := hG; clear hG
      subst ha
      obtain rfl := f10 (hd ⟨10, .data⟩ (by simp) rfl)
      have h18 : L 18 = true := hd ⟨18, .data⟩ (by simp) rfl
      obtain ⟨g, hug, hcg⟩ := hM.new0 h18
      subst hug
      have hon := hM.own0 hLi
      have hsz := hM.size
      have HM := Lib.hid hM
      clear hM hd
      have F0 := Lib.hid f0; clear f0
      have F1 := Lib.hid f1; clear f1
      have F2 := Lib.hid f2; clear f2
      have F3 := Lib.hid f3; clear f3
      have F4 := Lib.hid f4; clear f4
      have F5 := Lib.hid f5; clear f5
      have F6 := Lib.hid f6; clear f6
      have F7 := Lib.hid f7; clear f7
      have F8 := Lib.hid f8; clear f8
      have F9 := Lib.hid f9; clear f9
      have F10 := Lib.hid f10; clear f10
      have F11 := Lib.hid f11; clear f11
      have F12 := Lib.hid f12; clear f12
      have F13 := Lib.hid f13; clear f13
      have F14 := Lib.hid f14; clear f14
      have F15 := Lib.hid f15; clear f15
      have F16 := Lib.hid f16; clear f16
      have F17 := Lib.hid f17; clear f17
      have F18 := Lib.hid f18; clear f18
      have F19 := Lib.hid f19; clear f19
      refine step_append_lies _ rfl (.tmp 30) (.tmp 38) 59 rfl base 61 i0 _ 3 32 Try.underlying59 HI0.out.1 HI0.out.2.1 HI0.out.2.2.1 HI0.out.2.2.2 rfl (by decide) v0 n xs (by rfl) hon ⟨g, 0, none⟩ 1 1 [.int .i64 p, .string ⟨#[]⟩, .bool false] (by rfl) rfl (World.news_of_block (hcg hLi)) (by simp [Value.oneCell']) (by decide) (by unfold maxLen; omega) (by omega) (by omega) wx.heap.size rfl ?_
      intro g2 cap2 wy ho2 hg2 hat2 _
      have HM2 := Lib.hid (HM.out.app HO.out HMV.out hLi h18 ho2 hg2 hat2)
      clear ho2 hg2 hat2
      apply hK
      exact ⟨_, _, _, _, _, _, _, _, _, _, _, _, _, _, _, _, _, _, _, _, rfl, HM2.out, F0.out, F1.out, F2.out, F3.out, F4.out, F5.out, F6.out, F7.out, F8.out, F9.out, fun _ => rfl, F11.out, F12.out, F13.out, F14.out, F15.out, F16.out, F17.out, F18.out, fun _ => trivial⟩
    · intro L a' wx hLi hd hG K hK
      refine Exists.elim hG ?_; clear hG; intro u20 hG
      refine Exists.elim hG ?_; clear hG; intro u21 hG
      refine Exists.elim hG ?_; clear hG; intro u22 hG
      refine Exists.elim hG ?_; clear hG; intro u23 hG
      refine Exists.elim hG ?_; clear hG; intro u24 hG
      refine Exists.elim hG ?_; clear hG; intro u25 hG
      refine Exists.elim hG ?_; clear hG; intro u26 hG
      refine Exists.elim hG ?_; clear hG; intro u27 hG
      refine Exists.elim hG ?_; clear hG; intro u28 hG
      refine Exists.elim hG ?_; clear hG; intro u29 hG
      refine Exists.elim hG ?_; clear hG; intro u30 hG
      refine Exists.elim hG ?_; clear hG; intro u31 hG
      refine Exists.elim hG ?_; clear hG; intro u32 hG
      refine Exists.elim hG ?_; clear hG; intro u33 hG
      refine Exists.elim hG ?_; clear hG; intro u34 hG
      refine Exists.elim hG ?_; clear hG; intro u35 hG
      refine Exists.elim hG ?_; clear hG; intro u36 hG
      refine Exists.elim hG ?_; clear hG; intro u37 hG
      refine Exists.elim hG ?_; clear hG; intro u38 hG
      refine Exists.elim hG ?_; clear hG; intro u39 hG
      refine And.elim ?_ hG; clear hG; intro ha hG
      refine And.elim ?_ hG; clear hG; intro hM hG
      refine And.elim ?_ hG; clear hG; intro f0 hG
      refine And.elim ?_ hG; clear hG; intro f1 hG
      refine And.elim ?_ hG; clear hG; intro f2 hG
      refine And.elim ?_ hG; clear hG; intro f3 hG
      refine And.elim ?_ hG; clear hG; intro f4 hG
      refine And.elim ?_ hG; clear hG; intro f5 hG
      refine And.elim ?_ hG; clear hG; intro f6 hG
      refine And.elim ?_ hG; clear hG; intro f7 hG
      refine And.elim ?_ hG; clear hG; intro f8 hG
      refine And.elim ?_ hG; clear hG; intro f9 hG
      refine And.elim ?_ hG; clear hG; intro f10 hG
      refine And.elim ?_ hG; clear hG; intro f11 hG
      refine And.elim ?_ hG; clear hG; intro f12 hG
      refine And.elim ?_ hG; clear hG; intro f13 hG
      refine And.elim ?_ hG; clear hG; intro f14 hG
      refine And.elim ?_ hG; clear hG; intro f15 hG
      refine And.elim ?_ hG; clear hG; intro f16 hG
      refine And.elim ?_ hG; clear hG; intro f17 hG
      refine And.elim ?_ hG; clear hG; intro f18 hG
      have f19 := hG; clear hG
      subst ha
      obtain rfl := f3 (hd ⟨3, .data⟩ (by simp) rfl)
      obtain rfl := f4 (hd ⟨4, .data⟩ (by simp) rfl)
      have h10 : L 10 = true := hd ⟨10, .phase⟩ (by simp) rfl
      have h18 : L 18 = true := hd ⟨18, .phase⟩ (by simp) rfl
      have h19 : L 19 = true := hd ⟨19, .data⟩ (by simp) rfl
      have hnm : u39.ownBlock ≠ some M := hM.notM h19 (hM.map0 hLi)
      obtain ⟨wy, hput, hmp, hgr, _⟩ := run_put_at (P := Try.prog) keysS Try.underlying56 (hM.map0 hLi) k u39
      have HM2 := Lib.hid (hM.put HOM.out h10 h18 h19 hmp hgr hnm)
      unfold mkS at hput
      clear hmp hgr hnm
      have HM := Lib.hid hM
      clear hM hd
      have F0 := Lib.hid f0; clear f0
      have F1 := Lib.hid f1; clear f1
      have F2 := Lib.hid f2; clear f2
      have F3 := Lib.hid f3; clear f3
      have F4 := Lib.hid f4; clear f4
      have F5 := Lib.hid f5; clear f5
      have F6 := Lib.hid f6; clear f6
      have F7 := Lib.hid f7; clear f7
      have F8 := Lib.hid f8; clear f8
      have F9 := Lib.hid f9; clear f9
      have F10 := Lib.hid f10; clear f10
      have F11 := Lib.hid f11; clear f11
      have F12 := Lib.hid f12; clear f12
      have F13 := Lib.hid f13; clear f13
      have F14 := Lib.hid f14; clear f14
      have F15 := Lib.hid f15; clear f15
      have F16 := Lib.hid f16; clear f16
      have F17 := Lib.hid f17; clear f17
      have F18 := Lib.hid f18; clear f18
      have F19 := Lib.hid f19; clear f19
      go_simp
      go_wp2
      exact ⟨_, _, _, _, _, _, _, _, _, _, _, _, _, _, _, _, _, _, _, _, rfl, HM2.out, F0.out, F1.out, F2.out, fun _ => rfl, fun _ => rfl, F5.out, F6.out, F7.out, F8.out, F9.out, F10.out, F11.out, F12.out, F13.out, F14.out, F15.out, F16.out, F17.out, F18.out, F19.out⟩
    · intro L a' wx hL hG
      obtain ⟨u20, u21, u22, u23, u24, u25, u26, u27, u28, u29, u30, u31, u32, u33, u34, u35, u36, u37, u38, u39, rfl, hM, f0, f1, f2, f3, f4, f5, f6, f7, f8, f9, f10, f11, f12, f13, f14, f15, f16, f17, f18, f19⟩ := hG
      have h19 := hL 19 (by simp)
      have h20 := hL 20 (by simp)
      have HORG := Lib.hid (hM.done (T := T) hOb hMb HE.out HMAP.out HV.out HN.out HX.out HPQ.out h19 h20)
      have HBEL : Hid (Below base w wx) := Lib.hid ⟨hM.os.trans HOS.out.1, hM.tape.trans HOS.out.2.1, hM.output.trans HOS.out.2.2, Nat.le_trans (by show w.heap.size ≤ W0.heap.size; exact Nat.le_of_eq (HSZ.out).symm) hM.size, fun g hg => (hM.keep g (by omega) (by omega) (fun e => by have := (HLT.out g e.symm).1; omega)).trans (HK0.out g (by omega))⟩
      have hc0 := hM.c0
      clear f0 f1 f2 f3 f4 f5 f6 f7 f8 f9 f10 f11 f12 f13 f14 f15 f16 f17 f18 f19 hL hM h19 h20
      go_wp2
      go_ret
      exact ⟨by rw [HPQ.out]; rfl, HORG.out, HBEL.out⟩
  | true =>
    rw [show norm ⟨k, v, true⟩ = ⟨k, v, true⟩ from rfl]
    go_enter Try.func20, Try.ntmps20
    go_wp2
    clear c0 c1 f0
    obtain ⟨W0, hW0⟩ : ∃ W, W = w.setCell ⟨O, 0, none⟩ (.int .i64 ((T.length : Int) + 1)) := ⟨_, rfl⟩
    rw [← hW0]
    have hb0 : Blk W0 O 58 #[.int .i64 ((T.length : Int) + 1), .map (some M)] := by rw [hW0]; exact h.blk.set_ 0 _
    have HSZ : Hid (W0.heap.size = w.heap.size) := Lib.hid (by rw [hW0, setCell_size])
    have HOS : Hid (W0.os = w.os ∧ W0.tape = w.tape ∧ W0.output = w.output) := Lib.hid (by rw [hW0]; exact ⟨rfl, rfl, rfl⟩)
    have HK0 : Hid (∀ g, g ≠ O → W0.heap[g]? = w.heap[g]?) := Lib.hid (fun g hg => by rw [hW0]; exact Below.heap_setCell _ _ _ _ hg)
    have hOM : O ≠ M := fun e => by
      have h1 := h.blk
      have h2 := hmap
      unfold Blk at h1
      unfold MapAt at h2
      rw [e, h2] at h1
      cases h1
    have HMAP : Hid (MapAt W0 M mkS l c) := Lib.hid ((HK0.out M (Ne.symm hOM)).trans hmap)
    have hkO : ∀ (u : Value) (m : Nat) (ys : List Value), w.ownsRow base 61 3 u m ys → u.ownBlock ≠ some O ∧ u.ownBlock ≠ some M := fun u m ys ho => by
      have h1 := h.blk
      unfold Blk at h1
      unfold MapAt at hmap
      rcases ho.2 with ⟨h3, _⟩ | ⟨g', cap', cur, h3, _, h5, _⟩
      · rw [h3]; simp [Value.ownBlock]
      · rw [h3]
        constructor
        · intro e
          have : g' = O := by injection e
          rw [this, h1] at h5
          cases h5
        · intro e
          have : g' = M := by injection e
          rw [this, hmap] at h5
          cases h5
    have hmv : ∀ (u : Value) (m : Nat) (ys : List Value), w.ownsRow base 61 3 u m ys → W0.ownsRow base 61 3 u m ys := fun u m ys ho => by
      rw [hW0]; exact own_far ho _ (hkO u m ys ho).1 _
    have HE : Hid (Ents W0 base M T l) := Lib.hid ⟨hents.nodup, fun q hq => hmv _ _ _ (hents.each q hq), hents.miss, hents.apart⟩
    have hown0 := hmv _ _ _ (hents.look k)
    have HLT := Lib.hid (hents.look k).lt
    have hne := hkO _ _ _ (hents.look k)
    have hOb := h.hO
    have hMb := h.hM
    obtain ⟨v0, hv⟩ : ∃ v0, lookV k l = v0 := ⟨_, rfl⟩
    rw [hv] at hown0 HLT hne
    obtain ⟨n, hn⟩ : ∃ n, n = (rowsOf k T).length := ⟨_, rfl⟩
    obtain ⟨xs, hx⟩ : ∃ xs, xs = (rowsOf k T).flatMap Rw.cells := ⟨_, rfl⟩
    rw [← hn, ← hx] at hown0
    have hnl : n < 1099511627 := by have := rowsOf_le k T; omega
    have hbase : base ≤ W0.heap.size := by have := hb0.lt; omega
    obtain ⟨p, hpq⟩ : ∃ p : Int, p = (T.length : Int) + 1 := ⟨_, rfl⟩
    rw [← hpq] at hb0 ⊢
    have HV := Lib.hid hv
    have HN := Lib.hid hn
    have HX := Lib.hid hx
    have HPQ := Lib.hid hpq
    have HOM := Lib.hid hOM
    have HO : Hid (some O ≠ v0.ownBlock) := Lib.hid (Ne.symm hne.1)
    have HMV : Hid (some M ≠ v0.ownBlock) := Lib.hid (Ne.symm hne.2)
    have HB0 := Lib.hid hb0
    have HOW := Lib.hid hown0
    clear hW0 h hmap hents hkO hmv hv hn hx hpq hOM hne hb0 hown0
    refine wp_region_inv (GS W0 base O M n v0 xs l c k p v true _ _ _ _ _ _ _ _ _ _ _ _ _ _ _ _ _ _ _ _ _ _ _ _) (by kernel_rfl) (by kernel_rfl) ⟨_, _, _, _, _, _, _, _, _, _, _, _, _, _, _, _, _, _, _, _, rfl, MS.start HB0.out HMAP.out HOW.out _ _, by simp⟩ ⟨?_, ?_, ?_, ?_, ?_, ?_, ?_, ?_, ?_, ?_, ?_, ?_, ?_, ?_, ?_, ?_, ?_, ?_, ?_, ?_, ?_, trivial⟩ ?_
    · intro L a' wx hLi hd hG K hK
      refine Exists.elim hG ?_; clear hG; intro u20 hG
      refine Exists.elim hG ?_; clear hG; intro u21 hG
      refine Exists.elim hG ?_; clear hG; intro u22 hG
      refine Exists.elim hG ?_; clear hG; intro u23 hG
      refine Exists.elim hG ?_; clear hG; intro u24 hG
      refine Exists.elim hG ?_; clear hG; intro u25 hG
      refine Exists.elim hG ?_; clear hG; intro u26 hG
      refine Exists.elim hG ?_; clear hG; intro u27 hG
      refine Exists.elim hG ?_; clear hG; intro u28 hG
      refine Exists.elim hG ?_; clear hG; intro u29 hG
      refine Exists.elim hG ?_; clear hG; intro u30 hG
      refine Exists.elim hG ?_; clear hG; intro u31 hG
      refine Exists.elim hG ?_; clear hG; intro u32 hG
      refine Exists.elim hG ?_; clear hG; intro u33 hG
      refine Exists.elim hG ?_; clear hG; intro u34 hG
      refine Exists.elim hG ?_; clear hG; intro u35 hG
      refine Exists.elim hG ?_; clear hG; intro u36 hG
      refine Exists.elim hG ?_; clear hG; intro u37 hG
      refine Exists.elim hG ?_; clear hG; intro u38 hG
      refine Exists.elim hG ?_; clear hG; intro u39 hG
      refine And.elim ?_ hG; clear hG; intro ha hG
      refine And.elim ?_ hG; clear hG; intro hM hG
      refine And.elim ?_ hG; clear hG; intro f0 hG
      refine And.elim ?_ hG; clear hG; intro f1 hG
      refine And.elim ?_ hG; clear hG; intro f2 hG
      refine And.elim ?_ hG; clear hG; intro f3 hG
      refine And.elim ?_ hG; clear hG; intro f4 hG
      refine And.elim ?_ hG; clear hG; intro f5 hG
      refine And.elim ?_ hG; clear hG; intro f6 hG
      refine And.elim ?_ hG; clear hG; intro f7 hG
      refine And.elim ?_ hG; clear hG; intro f8 hG
      refine And.elim ?_ hG; clear hG; intro f9 hG
      refine And.elim ?_ hG; clear hG; intro f10 hG
      refine And.elim ?_ hG; clear hG; intro f11 hG
      refine And.elim ?_ hG; clear hG; intro f12 hG
      refine And.elim ?_ hG; clear hG; intro f13 hG
      refine And.elim ?_ hG; clear hG; intro f14 hG
      refine And.elim ?_ hG; clear hG; intro f15 hG
      refine And.elim ?_ hG; clear hG; intro f16 hG
      refine And.elim ?_ hG; clear hG; intro f17 hG
      refine And.elim ?_ hG; clear hG; intro f18 hG
      have f19 := hG; clear hG
      subst ha
      have HM := Lib.hid hM
      clear hM hd
      have F0 := Lib.hid f0; clear f0
      have F1 := Lib.hid f1; clear f1
      have F2 := Lib.hid f2; clear f2
      have F3 := Lib.hid f3; clear f3
      have F4 := Lib.hid f4; clear f4
      have F5 := Lib.hid f5; clear f5
      have F6 := Lib.hid f6; clear f6
      have F7 := Lib.hid f7; clear f7
      have F8 := Lib.hid f8; clear f8
      have F9 := Lib.hid f9; clear f9
      have F10 := Lib.hid f10; clear f10
      have F11 := Lib.hid f11; clear f11
      have F12 := Lib.hid f12; clear f12
      have F13 := Lib.hid f13; clear f13
      have F14 := Lib.hid f14; clear f14
      have F15 := Lib.hid f15; clear f15
      have F16 := Lib.hid f16; clear f16
      have F17 := Lib.hid f17; clear f17
      have F18 := Lib.hid f18; clear f18
      have F19 := Lib.hid f19; clear f19
      go_simp
      go_wp2
      exact ⟨_, _, _, _, _, _, _, _, _, _, _, _, _, _, _, _, _, _, _, _, rfl, HM.out.same (i := 0) (by decide) (by decide) (by decide), fun _ => rfl, F1.out, F2.out, F3.out, F4.out, F5.out, F6.out, F7.out, F8.out, F9.out, F10.out, F11.out, F12.out, F13.out, F14.out, F15.out, F16.out, F17.out, F18.out, F19.out⟩
    · intro L a' wx hLi hd hG K hK
      refine Exists.elim hG ?_; clear hG; intro u20 hG
      refine Exists.elim hG ?_; clear hG; intro u21 hG
      refine Exists.elim hG ?_; clear hG; intro u22 hG
      refine Exists.elim hG ?_; clear hG; intro u23 hG
      refine Exists.elim hG ?_; clear hG; intro u24 hG
      refine Exists.elim hG ?_; clear hG; intro u25 hG
      refine Exists.elim hG ?_; clear hG; intro u26 hG
      refine Exists.elim hG ?_; clear hG; intro u27 hG
      refine Exists.elim hG ?_; clear hG; intro u28 hG
      refine Exists.elim hG ?_; clear hG; intro u29 hG
      refine Exists.elim hG ?_; clear hG; intro u30 hG
      refine Exists.elim hG ?_; clear hG; intro u31 hG
      refine Exists.elim hG ?_; clear hG; intro u32 hG
      refine Exists.elim hG ?_; clear hG; intro u33 hG
      refine Exists.elim hG ?_; clear hG; intro u34 hG
      refine Exists.elim hG ?_; clear hG; intro u35 hG
      refine Exists.elim hG ?_; clear hG; intro u36 hG
      refine Exists.elim hG ?_; clear hG; intro u37 hG
      refine Exists.elim hG ?_; clear hG; intro u38 hG
      refine Exists.elim hG ?_; clear hG; intro u39 hG
      refine And.elim ?_ hG; clear hG; intro ha hG
      refine And.elim ?_ hG; clear hG; intro hM hG
      refine And.elim ?_ hG; clear hG; intro f0 hG
      refine And.elim ?_ hG; clear hG; intro f1 hG
      refine And.elim ?_ hG; clear hG; intro f2 hG
      refine And.elim ?_ hG; clear hG; intro f3 hG
      refine And.elim ?_ hG; clear hG; intro f4 hG
      refine And.elim ?_ hG; clear hG; intro f5 hG
      refine And.elim ?_ hG; clear hG; intro f6 hG
      refine And.elim ?_ hG; clear hG; intro f7 hG
      refine And.elim ?_ hG; clear hG; intro f8 hG
      refine And.elim ?_ hG; clear hG; intro f9 hG
      refine And.elim ?_ hG; clear hG; intro f10 hG
      refine And.elim ?_ hG; clear hG; intro f11 hG
      refine And.elim ?_ hG; clear hG; intro f12 hG
      refine And.elim ?_ hG; clear hG; intro f13 hG
      refine And.elim ?_ hG; clear hG; intro f14 hG
      refine And.elim ?_ hG; clear hG; intro f15 hG
      refine And.elim ?_ hG; clear hG; intro f16 hG
      refine And.elim ?_ hG; clear hG; intro f17 hG
      refine And.elim ?_ hG; clear hG; intro f18 hG
      have f19 := hG; clear hG
      subst ha
      obtain rfl := f0 (hd ⟨0, .data⟩ (by simp) rfl)
      have HM := Lib.hid hM
      clear hM hd
      have F0 := Lib.hid f0; clear f0
      have F1 := Lib.hid f1; clear f1
      have F2 := Lib.hid f2; clear f2
      have F3 := Lib.hid f3; clear f3
      have F4 := Lib.hid f4; clear f4
      have F5 := Lib.hid f5; clear f5
      have F6 := Lib.hid f6; clear f6
      have F7 := Lib.hid f7; clear f7
      have F8 := Lib.hid f8; clear f8
      have F9 := Lib.hid f9; clear f9
      have F10 := Lib.hid f10; clear f10
      have F11 := Lib.hid f11; clear f11
      have F12 := Lib.hid f12; clear f12
      have F13 := Lib.hid f13; clear f13
      have F14 := Lib.hid f14; clear f14
      have F15 := Lib.hid f15; clear f15
      have F16 := Lib.hid f16; clear f16
      have F17 := Lib.hid f17; clear f17
      have F18 := Lib.hid f18; clear f18
      have F19 := Lib.hid f19; clear f19
      go_simp
      go_wp2
      exact ⟨_, _, _, _, _, _, _, _, _, _, _, _, _, _, _, _, _, _, _, _, rfl, HM.out.same (i := 1) (by decide) (by decide) (by decide), fun _ => rfl, fun _ => rfl, F2.out, F3.out, F4.out, F5.out, F6.out, F7.out, F8.out, F9.out, F10.out, F11.out, F12.out, F13.out, F14.out, F15.out, F16.out, F17.out, F18.out, F19.out⟩
    · intro L a' wx hLi hd hG K hK
      refine Exists.elim hG ?_; clear hG; intro u20 hG
      refine Exists.elim hG ?_; clear hG; intro u21 hG
      refine Exists.elim hG ?_; clear hG; intro u22 hG
      refine Exists.elim hG ?_; clear hG; intro u23 hG
      refine Exists.elim hG ?_; clear hG; intro u24 hG
      refine Exists.elim hG ?_; clear hG; intro u25 hG
      refine Exists.elim hG ?_; clear hG; intro u26 hG
      refine Exists.elim hG ?_; clear hG; intro u27 hG
      refine Exists.elim hG ?_; clear hG; intro u28 hG
      refine Exists.elim hG ?_; clear hG; intro u29 hG
      refine Exists.elim hG ?_; clear hG; intro u30 hG
      refine Exists.elim hG ?_; clear hG; intro u31 hG
      refine Exists.elim hG ?_; clear hG; intro u32 hG
      refine Exists.elim hG ?_; clear hG; intro u33 hG
      refine Exists.elim hG ?_; clear hG; intro u34 hG
      refine Exists.elim hG ?_; clear hG; intro u35 hG
      refine Exists.elim hG ?_; clear hG; intro u36 hG
      refine Exists.elim hG ?_; clear hG; intro u37 hG
      refine Exists.elim hG ?_; clear hG; intro u38 hG
      refine Exists.elim hG ?_; clear hG; intro u39 hG
      refine And.elim ?_ hG; clear hG; intro ha hG
      refine And.elim ?_ hG; clear hG; intro hM hG
      refine And.elim ?_ hG; clear hG; intro f0 hG
      refine And.elim ?_ hG; clear hG; intro f1 hG
      refine And.elim ?_ hG; clear hG; intro f2 hG
      refine And.elim ?_ hG; clear hG; intro f3 hG
      refine And.elim ?_ hG; clear hG; intro f4 hG
      refine And.elim ?_ hG; clear hG; intro f5 hG
      refine And.elim ?_ hG; clear hG; intro f6 hG
      refine And.elim ?_ hG; clear hG; intro f7 hG
      refine And.elim ?_ hG; clear hG; intro f8 hG
      refine And.elim ?_ hG; clear hG; intro f9 hG
      refine And.elim ?_ hG; clear hG; intro f10 hG
      refine And.elim ?_ hG; clear hG; intro f11 hG
      refine And.elim ?_ hG; clear hG; intro f12 hG
      refine And.elim ?_ hG; clear hG; intro f13 hG
      refine And.elim ?_ hG; clear hG; intro f14 hG
      refine And.elim ?_ hG; clear hG; intro f15 hG
      refine And.elim ?_ hG; clear hG; intro f16 hG
      refine And.elim ?_ hG; clear hG; intro f17 hG
      refine And.elim ?_ hG; clear hG; intro f18 hG
      have f19 := hG; clear hG
      subst ha
      obtain rfl := f1 (hd ⟨1, .data⟩ (by simp) rfl)
      have HM := Lib.hid hM
      clear hM hd
      have F0 := Lib.hid f0; clear f0
      have F1 := Lib.hid f1; clear f1
      have F2 := Lib.hid f2; clear f2
      have F3 := Lib.hid f3; clear f3
      have F4 := Lib.hid f4; clear f4
      have F5 := Lib.hid f5; clear f5
      have F6 := Lib.hid f6; clear f6
      have F7 := Lib.hid f7; clear f7
      have F8 := Lib.hid f8; clear f8
      have F9 := Lib.hid f9; clear f9
      have F10 := Lib.hid f10; clear f10
      have F11 := Lib.hid f11; clear f11
      have F12 := Lib.hid f12; clear f12
      have F13 := Lib.hid f13; clear f13
      have F14 := Lib.hid f14; clear f14
      have F15 := Lib.hid f15; clear f15
      have F16 := Lib.hid f16; clear f16
      have F17 := Lib.hid f17; clear f17
      have F18 := Lib.hid f18; clear f18
      have F19 := Lib.hid f19; clear f19
      go_simp
      go_wp2
      exact ⟨_, _, _, _, _, _, _, _, _, _, _, _, _, _, _, _, _, _, _, _, rfl, HM.out.same (i := 2) (by decide) (by decide) (by decide), F0.out, fun _ => rfl, fun _ => rfl, F3.out, F4.out, F5.out, F6.out, F7.out, F8.out, F9.out, F10.out, F11.out, F12.out, F13.out, F14.out, F15.out, F16.out, F17.out, F18.out, F19.out⟩
    · intro L a' wx hLi hd hG K hK
      refine Exists.elim hG ?_; clear hG; intro u20 hG
      refine Exists.elim hG ?_; clear hG; intro u21 hG
      refine Exists.elim hG ?_; clear hG; intro u22 hG
      refine Exists.elim hG ?_; clear hG; intro u23 hG
      refine Exists.elim hG ?_; clear hG; intro u24 hG
      refine Exists.elim hG ?_; clear hG; intro u25 hG
      refine Exists.elim hG ?_; clear hG; intro u26 hG
      refine Exists.elim hG ?_; clear hG; intro u27 hG
      refine Exists.elim hG ?_; clear hG; intro u28 hG
      refine Exists.elim hG ?_; clear hG; intro u29 hG
      refine Exists.elim hG ?_; clear hG; intro u30 hG
      refine Exists.elim hG ?_; clear hG; intro u31 hG
      refine Exists.elim hG ?_; clear hG; intro u32 hG
      refine Exists.elim hG ?_; clear hG; intro u33 hG
      refine Exists.elim hG ?_; clear hG; intro u34 hG
      refine Exists.elim hG ?_; clear hG; intro u35 hG
      refine Exists.elim hG ?_; clear hG; intro u36 hG
      refine Exists.elim hG ?_; clear hG; intro u37 hG
      refine Exists.elim hG ?_; clear hG; intro u38 hG
      refine Exists.elim hG ?_; clear hG; intro u39 hG
      refine And.elim ?_ hG; clear hG; intro ha hG
      refine And.elim ?_ hG; clear hG; intro hM hG
      refine And.elim ?_ hG; clear hG; intro f0 hG
      refine And.elim ?_ hG; clear hG; intro f1 hG
      refine And.elim ?_ hG; clear hG; intro f2 hG
      refine And.elim ?_ hG; clear hG; intro f3 hG
      refine And.elim ?_ hG; clear hG; intro f4 hG
      refine And.elim ?_ hG; clear hG; intro f5 hG
      refine And.elim ?_ hG; clear hG; intro f6 hG
      refine And.elim ?_ hG; clear hG; intro f7 hG
      refine And.elim ?_ hG; clear hG; intro f8 hG
      refine And.elim ?_ hG; clear hG; intro f9 hG
      refine And.elim ?_ hG; clear hG; intro f10 hG
      refine And.elim ?_ hG; clear hG; intro f11 hG
      refine And.elim ?_ hG; clear hG; intro f12 hG
      refine And.elim ?_ hG; clear hG; intro f13 hG
      refine And.elim ?_ hG; clear hG; intro f14 hG
      refine And.elim ?_ hG; clear hG; intro f15 hG
      refine And.elim ?_ hG; clear hG; intro f16 hG
      refine And.elim ?_ hG; clear hG; intro f17 hG
      refine And.elim ?_ hG; clear hG; intro f18 hG
      have f19 := hG; clear hG
      subst ha
      obtain rfl := f2 (hd ⟨2, .data⟩ (by simp) rfl)
      have hc1 := hM.c1
      have HM := Lib.hid hM
      clear hM hd
      have F0 := Lib.hid f0; clear f0
      have F1 := Lib.hid f1; clear f1
      have F2 := Lib.hid f2; clear f2
      have F3 := Lib.hid f3; clear f3
      have F4 := Lib.hid f4; clear f4
      have F5 := Lib.hid f5; clear f5
      have F6 := Lib.hid f6; clear f6
      have F7 := Lib.hid f7; clear f7
      have F8 := Lib.hid f8; clear f8
      have F9 := Lib.hid f9; clear f9
      have F10 := Lib.hid f10; clear f10
      have F11 := Lib.hid f11; clear f11
      have F12 := Lib.hid f12; clear f12
      have F13 := Lib.hid f13; clear f13
      have F14 := Lib.hid f14; clear f14
      have F15 := Lib.hid f15; clear f15
      have F16 := Lib.hid f16; clear f16
      have F17 := Lib.hid f17; clear f17
      have F18 := Lib.hid f18; clear f18
      have F19 := Lib.hid f19; clear f19
      go_simp
      go_wp2
      exact ⟨_, _, _, _, _, _, _, _, _, _, _, _, _, _, _, _, _, _, _, _, rfl, HM.out.same (i := 3) (by decide) (by decide) (by decide), F0.out, F1.out, fun _ => rfl, fun _ => rfl, F4.out, F5.out, F6.out, F7.out, F8.out, F9.out, F10.out, F11.out, F12.out, F13.out, F14.out, F15.out, F16.out, F17.out, F18.out, F19.out⟩
    · intro L a' wx hLi hd hG K hK
      refine Exists.elim hG ?_; clear hG; intro u20 hG
      refine Exists.elim hG ?_; clear hG; intro u21 hG
      refine Exists.elim hG ?_; clear hG; intro u22 hG
      refine Exists.elim hG ?_; clear hG; intro u23 hG
      refine Exists.elim hG ?_; clear hG; intro u24 hG
      refine Exists.elim hG ?_; clear hG; intro u25 hG
      refine Exists.elim hG ?_; clear hG; intro u26 hG
      refine Exists.elim hG ?_; clear hG; intro u27 hG
      refine Exists.elim hG ?_; clear hG; intro u28 hG
      refine Exists.elim hG ?_; clear hG; intro u29 hG
      refine Exists.elim hG ?_; clear hG; intro u30 hG
      refine Exists.elim hG ?_; clear hG; intro u31 hG
      refine Exists.elim hG ?_; clear hG; intro u32 hG
      refine Exists.elim hG ?_; clear hG; intro u33 hG
      refine Exists.elim hG ?_; clear hG; intro u34 hG
      refine Exists.elim hG ?_; clear hG; intro u35 hG
      refine Exists.elim hG ?_; clear hG; intro u36 hG
      refine Exists.elim hG ?_; clear hG; intro u37 hG
      refine Exists.elim hG ?_; clear hG; intro u38 hG
      refine Exists.elim hG ?_; clear hG; intro u39 hG
      refine And.elim ?_ hG; clear hG; intro ha hG
      refine And.elim ?_ hG; clear hG; intro hM hG
      refine And.elim ?_ hG; clear hG; intro f0 hG
      refine And.elim ?_ hG; clear hG; intro f1 hG
      refine And.elim ?_ hG; clear hG; intro f2 hG
      refine And.elim ?_ hG; clear hG; intro f3 hG
      refine And.elim ?_ hG; clear hG; intro f4 hG
      refine And.elim ?_ hG; clear hG; intro f5 hG
      refine And.elim ?_ hG; clear hG; intro f6 hG
      refine And.elim ?_ hG; clear hG; intro f7 hG
      refine And.elim ?_ hG; clear hG; intro f8 hG
      refine And.elim ?_ hG; clear hG; intro f9 hG
      refine And.elim ?_ hG; clear hG; intro f10 hG
      refine And.elim ?_ hG; clear hG; intro f11 hG
      refine And.elim ?_ hG; clear hG; intro f12 hG
      refine And.elim ?_ hG; clear hG; intro f13 hG
      refine And.elim ?_ hG; clear hG; intro f14 hG
      refine And.elim ?_ hG; clear hG; intro f15 hG
      refine And.elim ?_ hG; clear hG; intro f16 hG
      refine And.elim ?_ hG; clear hG; intro f17 hG
      refine And.elim ?_ hG; clear hG; intro f18 hG
      have f19 := hG; clear hG
      subst ha
      have HM := Lib.hid hM
      clear hM hd
      have F0 := Lib.hid f0; clear f0
      have F1 := Lib.hid f1; clear f1
      have F2 := Lib.hid f2; clear f2
      have F3 := Lib.hid f3; clear f3
      have F4 := Lib.hid f4; clear f4
      have F5 := Lib.hid f5; clear f5
      have F6 := Lib.hid f6; clear f6
      have F7 := Lib.hid f7; clear f7
      have F8 := Lib.hid f8; clear f8
      have F9 := Lib.hid f9; clear f9
      have F10 := Lib.hid f10; clear f10
      have F11 := Lib.hid f11; clear f11
      have F12 := Lib.hid f12; clear f12
      have F13 := Lib.hid f13; clear f13
      have F14 := Lib.hid f14; clear f14
      have F15 := Lib.hid f15; clear f15
      have F16 := Lib.hid f16; clear f16
      have F17 := Lib.hid f17; clear f17
      have F18 := Lib.hid f18; clear f18
      have F19 := Lib.hid f19; clear f19
      go_simp
      go_wp2
      exact ⟨_, _, _, _, _, _, _, _, _, _, _, _, _, _, _, _, _, _, _, _, rfl, HM.out.same (i := 4) (by decide) (by decide) (by decide), F0.out, F1.out, F2.out, F3.out, fun _ => rfl, F5.out, F6.out, F7.out, F8.out, F9.out, F10.out, F11.out, F12.out, F13.out, F14.out, F15.out, F16.out, F17.out, F18.out, F19.out⟩
    · intro L a' wx hLi hd hG K hK
      refine Exists.elim hG ?_; clear hG; intro u20 hG
      refine Exists.elim hG ?_; clear hG; intro u21 hG
      refine Exists.elim hG ?_; clear hG; intro u22 hG
      refine Exists.elim hG ?_; clear hG; intro u23 hG
      refine Exists.elim hG ?_; clear hG; intro u24 hG
      refine Exists.elim hG ?_; clear hG; intro u25 hG
      refine Exists.elim hG ?_; clear hG; intro u26 hG
      refine Exists.elim hG ?_; clear hG; intro u27 hG
      refine Exists.elim hG ?_; clear hG; intro u28 hG
      refine Exists.elim hG ?_; clear hG; intro u29 hG
      refine Exists.elim hG ?_; clear hG; intro u30 hG
      refine Exists.elim hG ?_; clear hG; intro u31 hG
      refine Exists.elim hG ?_; clear hG; intro u32 hG
      refine Exists.elim hG ?_; clear hG; intro u33 hG
      refine Exists.elim hG ?_; clear hG; intro u34 hG
      refine Exists.elim hG ?_; clear hG; intro u35 hG
      refine Exists.elim hG ?_; clear hG; intro u36 hG
      refine Exists.elim hG ?_; clear hG; intro u37 hG
      refine Exists.elim hG ?_; clear hG; intro u38 hG
      refine Exists.elim hG ?_; clear hG; intro u39 hG
      refine And.elim ?_ hG; clear hG; intro ha hG
      refine And.elim ?_ hG; clear hG; intro hM hG
      refine And.elim ?_ hG; clear hG; intro f0 hG
      refine And.elim ?_ hG; clear hG; intro f1 hG
      refine And.elim ?_ hG; clear hG; intro f2 hG
      refine And.elim ?_ hG; clear hG; intro f3 hG
      refine And.elim ?_ hG; clear hG; intro f4 hG
      refine And.elim ?_ hG; clear hG; intro f5 hG
      refine And.elim ?_ hG; clear hG; intro f6 hG
      refine And.elim ?_ hG; clear hG; intro f7 hG
      refine And.elim ?_ hG; clear hG; intro f8 hG
      refine And.elim ?_ hG; clear hG; intro f9 hG
      refine And.elim ?_ hG; clear hG; intro f10 hG
      refine And.elim ?_ hG; clear hG; intro f11 hG
      refine And.elim ?_ hG; clear hG; intro f12 hG
      refine And.elim ?_ hG; clear hG; intro f13 hG
      refine And.elim ?_ hG; clear hG; intro f14 hG
      refine And.elim ?_ hG; clear hG; intro f15 hG
      refine And.elim ?_ hG; clear hG; intro f16 hG
      refine And.elim ?_ hG; clear hG; intro f17 hG
      refine And.elim ?_ hG; clear hG; intro f18 hG
      have f19 := hG; clear hG
      subst ha
      have HM := Lib.hid hM
      clear hM hd
      have F0 := Lib.hid f0; clear f0
      have F1 := Lib.hid f1; clear f1
      have F2 := Lib.hid f2; clear f2
      have F3 := Lib.hid f3; clear f3
      have F4 := Lib.hid f4; clear f4
      have F5 := Lib.hid f5; clear f5
      have F6 := Lib.hid f6; clear f6
      have F7 := Lib.hid f7; clear f7
      have F8 := Lib.hid f8; clear f8
      have F9 := Lib.hid f9; clear f9
      have F10 := Lib.hid f10; clear f10
      have F11 := Lib.hid f11; clear f11
      have F12 := Lib.hid f12; clear f12
      have F13 := Lib.hid f13; clear f13
      have F14 := Lib.hid f14; clear f14
      have F15 := Lib.hid f15; clear f15
      have F16 := Lib.hid f16; clear f16
      have F17 := Lib.hid f17; clear f17
      have F18 := Lib.hid f18; clear f18
      have F19 := Lib.hid f19; clear f19
      go_simp
      go_wp2
      exact ⟨_, _, _, _, _, _, _, _, _, _, _, _, _, _, _, _, _, _, _, _, rfl, HM.out.same (i := 5) (by decide) (by decide) (by decide), F0.out, F1.out, F2.out, F3.out, F4.out, fun _ => rfl, F6.out, F7.out, F8.out, F9.out, F10.out, F11.out, F12.out, F13.out, F14.out, F15.out, F16.out, F17.out, F18.out, F19.out⟩
    · intro L a' wx hLi hd hG K hK
      refine Exists.elim hG ?_; clear hG; intro u20 hG
      refine Exists.elim hG ?_; clear hG; intro u21 hG
      refine Exists.elim hG ?_; clear hG; intro u22 hG
      refine Exists.elim hG ?_; clear hG; intro u23 hG
      refine Exists.elim hG ?_; clear hG; intro u24 hG
      refine Exists.elim hG ?_; clear hG; intro u25 hG
      refine Exists.elim hG ?_; clear hG; intro u26 hG
      refine Exists.elim hG ?_; clear hG; intro u27 hG
      refine Exists.elim hG ?_; clear hG; intro u28 hG
      refine Exists.elim hG ?_; clear hG; intro u29 hG
      refine Exists.elim hG ?_; clear hG; intro u30 hG
      refine Exists.elim hG ?_; clear hG; intro u31 hG
      refine Exists.elim hG ?_; clear hG; intro u32 hG
      refine Exists.elim hG ?_; clear hG; intro u33 hG
      refine Exists.elim hG ?_; clear hG; intro u34 hG
      refine Exists.elim hG ?_; clear hG; intro u35 hG
      refine Exists.elim hG ?_; clear hG; intro u36 hG
      refine Exists.elim hG ?_; clear hG; intro u37 hG
      refine Exists.elim hG ?_; clear hG; intro u38 hG
      refine Exists.elim hG ?_; clear hG; intro u39 hG
      refine And.elim ?_ hG; clear hG; intro ha hG
      refine And.elim ?_ hG; clear hG; intro hM hG
      refine And.elim ?_ hG; clear hG; intro f0 hG
      refine And.elim ?_ hG; clear hG; intro f1 hG
      refine And.elim ?_ hG; clear hG; intro f2 hG
      refine And.elim ?_ hG; clear hG; intro f3 hG
      refine And.elim ?_ hG; clear hG; intro f4 hG
      refine And.elim ?_ hG; clear hG; intro f5 hG
      refine And.elim ?_ hG; clear hG; intro f6 hG
      refine And.elim ?_ hG; clear hG; intro f7 hG
      refine And.elim ?_ hG; clear hG; intro f8 hG
      refine And.elim ?_ hG; clear hG; intro f9 hG
      refine And.elim ?_ hG; clear hG; intro f10 hG
      refine And.elim ?_ hG; clear hG; intro f11 hG
      refine And.elim ?_ hG; clear hG; intro f12 hG
      refine And.elim ?_ hG; clear hG; intro f13 hG
      refine And.elim ?_ hG; clear hG; intro f14 hG
      refine And.elim ?_ hG; clear hG; intro f15 hG
      refine And.elim ?_ hG; clear hG; intro f16 hG
      refine And.elim ?_ hG; clear hG; intro f17 hG
      refine And.elim ?_ hG; clear hG; intro f18 hG
      have f19 := hG; clear hG
      subst ha
      obtain rfl := f5 (hd ⟨5, .data⟩ (by simp) rfl)
      have HM := Lib.hid hM
      clear hM hd
      have F0 := Lib.hid f0; clear f0
      have F1 := Lib.hid f1; clear f1
      have F2 := Lib.hid f2; clear f2
      have F3 := Lib.hid f3; clear f3
      have F4 := Lib.hid f4; clear f4
      have F5 := Lib.hid f5; clear f5
      have F6 := Lib.hid f6; clear f6
      have F7 := Lib.hid f7; clear f7
      have F8 := Lib.hid f8; clear f8
      have F9 := Lib.hid f9; clear f9
      have F10 := Lib.hid f10; clear f10
      have F11 := Lib.hid f11; clear f11
      have F12 := Lib.hid f12; clear f12
      have F13 := Lib.hid f13; clear f13
      have F14 := Lib.hid f14; clear f14
      have F15 := Lib.hid f15; clear f15
      have F16 := Lib.hid f16; clear f16
      have F17 := Lib.hid f17; clear f17
      have F18 := Lib.hid f18; clear f18
      have F19 := Lib.hid f19; clear f19
      go_simp
      go_wp2
      exact ⟨_, _, _, _, _, _, _, _, _, _, _, _, _, _, _, _, _, _, _, _, rfl, HM.out.same (i := 6) (by decide) (by decide) (by decide), F0.out, F1.out, F2.out, F3.out, F4.out, fun _ => rfl, fun _ => rfl, F7.out, F8.out, F9.out, F10.out, F11.out, F12.out, F13.out, F14.out, F15.out, F16.out, F17.out, F18.out, F19.out⟩
    · intro L a' wx hLi hd hG K hK
      refine Exists.elim hG ?_; clear hG; intro u20 hG
      refine Exists.elim hG ?_; clear hG; intro u21 hG
      refine Exists.elim hG ?_; clear hG; intro u22 hG
      refine Exists.elim hG ?_; clear hG; intro u23 hG
      refine Exists.elim hG ?_; clear hG; intro u24 hG
      refine Exists.elim hG ?_; clear hG; intro u25 hG
      refine Exists.elim hG ?_; clear hG; intro u26 hG
      refine Exists.elim hG ?_; clear hG; intro u27 hG
      refine Exists.elim hG ?_; clear hG; intro u28 hG
      refine Exists.elim hG ?_; clear hG; intro u29 hG
      refine Exists.elim hG ?_; clear hG; intro u30 hG
      refine Exists.elim hG ?_; clear hG; intro u31 hG
      refine Exists.elim hG ?_; clear hG; intro u32 hG
      refine Exists.elim hG ?_; clear hG; intro u33 hG
      refine Exists.elim hG ?_; clear hG; intro u34 hG
      refine Exists.elim hG ?_; clear hG; intro u35 hG
      refine Exists.elim hG ?_; clear hG; intro u36 hG
      refine Exists.elim hG ?_; clear hG; intro u37 hG
      refine Exists.elim hG ?_; clear hG; intro u38 hG
      refine Exists.elim hG ?_; clear hG; intro u39 hG
      refine And.elim ?_ hG; clear hG; intro ha hG
      refine And.elim ?_ hG; clear hG; intro hM hG
      refine And.elim ?_ hG; clear hG; intro f0 hG
      refine And.elim ?_ hG; clear hG; intro f1 hG
      refine And.elim ?_ hG; clear hG; intro f2 hG
      refine And.elim ?_ hG; clear hG; intro f3 hG
      refine And.elim ?_ hG; clear hG; intro f4 hG
      refine And.elim ?_ hG; clear hG; intro f5 hG
      refine And.elim ?_ hG; clear hG; intro f6 hG
      refine And.elim ?_ hG; clear hG; intro f7 hG
      refine And.elim ?_ hG; clear hG; intro f8 hG
      refine And.elim ?_ hG; clear hG; intro f9 hG
      refine And.elim ?_ hG; clear hG; intro f10 hG
      refine And.elim ?_ hG; clear hG; intro f11 hG
      refine And.elim ?_ hG; clear hG; intro f12 hG
      refine And.elim ?_ hG; clear hG; intro f13 hG
      refine And.elim ?_ hG; clear hG; intro f14 hG
      refine And.elim ?_ hG; clear hG; intro f15 hG
      refine And.elim ?_ hG; clear hG; intro f16 hG
      refine And.elim ?_ hG; clear hG; intro f17 hG
      refine And.elim ?_ hG; clear hG; intro f18 hG
      have f19 := hG; clear hG
      subst ha
      obtain rfl := f6 (hd ⟨6, .data⟩ (by simp) rfl)
      have HM := Lib.hid hM
      clear hM hd
      have F0 := Lib.hid f0; clear f0
      have F1 := Lib.hid f1; clear f1
      have F2 := Lib.hid f2; clear f2
      have F3 := Lib.hid f3; clear f3
      have F4 := Lib.hid f4; clear f4
      have F5 := Lib.hid f5; clear f5
      have F6 := Lib.hid f6; clear f6
      have F7 := Lib.hid f7; clear f7
      have F8 := Lib.hid f8; clear f8
      have F9 := Lib.hid f9; clear f9
      have F10 := Lib.hid f10; clear f10
      have F11 := Lib.hid f11; clear f11
      have F12 := Lib.hid f12; clear f12
      have F13 := Lib.hid f13; clear f13
      have F14 := Lib.hid f14; clear f14
      have F15 := Lib.hid f15; clear f15
      have F16 := Lib.hid f16; clear f16
      have F17 := Lib.hid f17; clear f17
      have F18 := Lib.hid f18; clear f18
      have F19 := Lib.hid f19; clear f19
      go_simp
      go_wp2
      exact ⟨_, _, _, _, _, _, _, _, _, _, _, _, _, _, _, _, _, _, _, _, rfl, HM.out.same (i := 7) (by decide) (by decide) (by decide), F0.out, F1.out, F2.out, F3.out, F4.out, F5.out, fun _ => rfl, fun _ => rfl, F8.out, F9.out, F10.out, F11.out, F12.out, F13.out, F14.out, F15.out, F16.out, F17.out, F18.out, F19.out⟩
    · intro L a' wx hLi hd hG K hK
      refine Exists.elim hG ?_; clear hG; intro u20 hG
      refine Exists.elim hG ?_; clear hG; intro u21 hG
      refine Exists.elim hG ?_; clear hG; intro u22 hG
      refine Exists.elim hG ?_; clear hG; intro u23 hG
      refine Exists.elim hG ?_; clear hG; intro u24 hG
      refine Exists.elim hG ?_; clear hG; intro u25 hG
      refine Exists.elim hG ?_; clear hG; intro u26 hG
      refine Exists.elim hG ?_; clear hG; intro u27 hG
      refine Exists.elim hG ?_; clear hG; intro u28 hG
      refine Exists.elim hG ?_; clear hG; intro u29 hG
      refine Exists.elim hG ?_; clear hG; intro u30 hG
      refine Exists.elim hG ?_; clear hG; intro u31 hG
      refine Exists.elim hG ?_; clear hG; intro u32 hG
      refine Exists.elim hG ?_; clear hG; intro u33 hG
      refine Exists.elim hG ?_; clear hG; intro u34 hG
      refine Exists.elim hG ?_; clear hG; intro u35 hG
      refine Exists.elim hG ?_; clear hG; intro u36 hG
      refine Exists.elim hG ?_; clear hG; intro u37 hG
      refine Exists.elim hG ?_; clear hG; intro u38 hG
      refine Exists.elim hG ?_; clear hG; intro u39 hG
      refine And.elim ?_ hG; clear hG; intro ha hG
      refine And.elim ?_ hG; clear hG; intro hM hG
      refine And.elim ?_ hG; clear hG; intro f0 hG
      refine And.elim ?_ hG; clear hG; intro f1 hG
      refine And.elim ?_ hG; clear hG; intro f2 hG
      refine And.elim ?_ hG; clear hG; intro f3 hG
      refine And.elim ?_ hG; clear hG; intro f4 hG
      refine And.elim ?_ hG; clear hG; intro f5 hG
      refine And.elim ?_ hG; clear hG; intro f6 hG
      refine And.elim ?_ hG; clear hG; intro f7 hG
      refine And.elim ?_ hG; clear hG; intro f8 hG
      refine And.elim ?_ hG; clear hG; intro f9 hG
      refine And.elim ?_ hG; clear hG; intro f10 hG
      refine And.elim ?_ hG; clear hG; intro f11 hG
      refine And.elim ?_ hG; clear hG; intro f12 hG
      refine And.elim ?_ hG; clear hG; intro f13 hG
      refine And.elim ?_ hG; clear hG; intro f14 hG
      refine And.elim ?_ hG; clear hG; intro f15 hG
      refine And.elim ?_ hG; clear hG; intro f16 hG
      refine And.elim ?_ hG; clear hG; intro f17 hG
      refine And.elim ?_ hG; clear hG; intro f18 hG
      have f19 := hG; clear hG
      subst ha
      obtain rfl := f7 (hd ⟨7, .data⟩ (by simp) rfl)
      have hc1 := hM.c1
      have HM := Lib.hid hM
      clear hM hd
      have F0 := Lib.hid f0; clear f0
      have F1 := Lib.hid f1; clear f1
      have F2 := Lib.hid f2; clear f2
      have F3 := Lib.hid f3; clear f3
      have F4 := Lib.hid f4; clear f4
      have F5 := Lib.hid f5; clear f5
      have F6 := Lib.hid f6; clear f6
      have F7 := Lib.hid f7; clear f7
      have F8 := Lib.hid f8; clear f8
      have F9 := Lib.hid f9; clear f9
      have F10 := Lib.hid f10; clear f10
      have F11 := Lib.hid f11; clear f11
      have F12 := Lib.hid f12; clear f12
      have F13 := Lib.hid f13; clear f13
      have F14 := Lib.hid f14; clear f14
      have F15 := Lib.hid f15; clear f15
      have F16 := Lib.hid f16; clear f16
      have F17 := Lib.hid f17; clear f17
      have F18 := Lib.hid f18; clear f18
      have F19 := Lib.hid f19; clear f19
      go_simp
      go_wp2
      exact ⟨_, _, _, _, _, _, _, _, _, _, _, _, _, _, _, _, _, _, _, _, rfl, HM.out.same (i := 8) (by decide) (by decide) (by decide), F0.out, F1.out, F2.out, F3.out, F4.out, F5.out, F6.out, fun _ => rfl, fun _ => rfl, F9.out, F10.out, F11.out, F12.out, F13.out, F14.out, F15.out, F16.out, F17.out, F18.out, F19.out⟩
    · intro L a' wx hLi hd hG K hK
      refine Exists.elim hG ?_; clear hG; intro u20 hG
      refine Exists.elim hG ?_; clear hG; intro u21 hG
      refine Exists.elim hG ?_; clear hG; intro u22 hG
      refine Exists.elim hG ?_; clear hG; intro u23 hG
      refine Exists.elim hG ?_; clear hG; intro u24 hG
      refine Exists.elim hG ?_; clear hG; intro u25 hG
      refine Exists.elim hG ?_; clear hG; intro u26 hG
      refine Exists.elim hG ?_; clear hG; intro u27 hG
      refine Exists.elim hG ?_; clear hG; intro u28 hG
      refine Exists.elim hG ?_; clear hG; intro u29 hG
      refine Exists.elim hG ?_; clear hG; intro u30 hG
      refine Exists.elim hG ?_; clear hG; intro u31 hG
      refine Exists.elim hG ?_; clear hG; intro u32 hG
      refine Exists.elim hG ?_; clear hG; intro u33 hG
      refine Exists.elim hG ?_; clear hG; intro u34 hG
      refine Exists.elim hG ?_; clear hG; intro u35 hG
      refine Exists.elim hG ?_; clear hG; intro u36 hG
      refine Exists.elim hG ?_; clear hG; intro u37 hG
      refine Exists.elim hG ?_; clear hG; intro u38 hG
      refine Exists.elim hG ?_; clear hG; intro u39 hG
      refine And.elim ?_ hG; clear hG; intro ha hG
      refine And.elim ?_ hG; clear hG; intro hM hG
      refine And.elim ?_ hG; clear hG; intro f0 hG
      refine And.elim ?_ hG; clear hG; intro f1 hG
      refine And.elim ?_ hG; clear hG; intro f2 hG
      refine And.elim ?_ hG; clear hG; intro f3 hG
      refine And.elim ?_ hG; clear hG; intro f4 hG
      refine And.elim ?_ hG; clear hG; intro f5 hG
      refine And.elim ?_ hG; clear hG; intro f6 hG
      refine And.elim ?_ hG; clear hG; intro f7 hG
      refine And.elim ?_ hG; clear hG; intro f8 hG
      refine And.elim ?_ hG; clear hG; intro f9 hG
      refine And.elim ?_ hG; clear hG; intro f10 hG
      refine And.elim ?_ hG; clear hG; intro f11 hG
      refine And.elim ?_ hG; clear hG; intro f12 hG
      refine And.elim ?_ hG; clear hG; intro f13 hG
      refine And.elim ?_ hG; clear hG; intro f14 hG
      refine And.elim ?_ hG; clear hG; intro f15 hG
      refine And.elim ?_ hG; clear hG; intro f16 hG
      refine And.elim ?_ hG; clear hG; intro f17 hG
      refine And.elim ?_ hG; clear hG; intro f18 hG
      have f19 := hG; clear hG
      subst ha
      have HM := Lib.hid hM
      clear hM hd
      have F0 := Lib.hid f0; clear f0
      have F1 := Lib.hid f1; clear f1
      have F2 := Lib.hid f2; clear f2
      have F3 := Lib.hid f3; clear f3
      have F4 := Lib.hid f4; clear f4
      have F5 := Lib.hid f5; clear f5
      have F6 := Lib.hid f6; clear f6
      have F7 := Lib.hid f7; clear f7
      have F8 := Lib.hid f8; clear f8
      have F9 := Lib.hid f9; clear f9
      have F10 := Lib.hid f10; clear f10
      have F11 := Lib.hid f11; clear f11
      have F12 := Lib.hid f12; clear f12
      have F13 := Lib.hid f13; clear f13
      have F14 := Lib.hid f14; clear f14
      have F15 := Lib.hid f15; clear f15
      have F16 := Lib.hid f16; clear f16
      have F17 := Lib.hid f17; clear f17
      have F18 := Lib.hid f18; clear f18
      have F19 := Lib.hid f19; clear f19
      go_simp
      go_wp2
      exact ⟨_, _, _, _, _, _, _, _, _, _, _, _, _, _, _, _, _, _, _, _, rfl, HM.out.same (i := 9) (by decide) (by decide) (by decide), F0.out, F1.out, F2.out, F3.out, F4.out, F5.out, F6.out, F7.out, F8.out, fun _ => rfl, F10.out, F11.out, F12.out, F13.out, F14.out, F15.out, F16.out, F17.out, F18.out, F19.out⟩
    · intro L a' wx hLi hd hG K hK
      refine Exists.elim hG ?_; clear hG; intro u20 hG
      refine Exists.elim hG ?_; clear hG; intro u21 hG
      refine Exists.elim hG ?_; clear hG; intro u22 hG
      refine Exists.elim hG ?_; clear hG; intro u23 hG
      refine Exists.elim hG ?_; clear hG; intro u24 hG
      refine Exists.elim hG ?_; clear hG; intro u25 hG
      refine Exists.elim hG ?_; clear hG; intro u26 hG
      refine Exists.elim hG ?_; clear hG; intro u27 hG
      refine Exists.elim hG ?_; clear hG; intro u28 hG
      refine Exists.elim hG ?_; clear hG; intro u29 hG
      refine Exists.elim hG ?_; clear hG; intro u30 hG
      refine Exists.elim hG ?_; clear hG; intro u31 hG
      refine Exists.elim hG ?_; clear hG; intro u32 hG
      refine Exists.elim hG ?_; clear hG; intro u33 hG
      refine Exists.elim hG ?_; clear hG; intro u34 hG
      refine Exists.elim hG ?_; clear hG; intro u35 hG
      refine Exists.elim hG ?_; clear hG; intro u36 hG
      refine Exists.elim hG ?_; clear hG; intro u37 hG
      refine Exists.elim hG ?_; clear hG; intro u38 hG
      refine Exists.elim hG ?_; clear hG; intro u39 hG
      refine And.elim ?_ hG; clear hG; intro ha hG
      refine And.elim ?_ hG; clear hG; intro hM hG
      refine And.elim ?_ hG; clear hG; intro f0 hG
      refine And.elim ?_ hG; clear hG; intro f1 hG
      refine And.elim ?_ hG; clear hG; intro f2 hG
      refine And.elim ?_ hG; clear hG; intro f3 hG
      refine And.elim ?_ hG; clear hG; intro f4 hG
      refine And.elim ?_ hG; clear hG; intro f5 hG
      refine And.elim ?_ hG; clear hG; intro f6 hG
      refine And.elim ?_ hG; clear hG; intro f7 hG
      refine And.elim ?_ hG; clear hG; intro f8 hG
      refine And.elim ?_ hG; clear hG; intro f9 hG
      refine And.elim ?_ hG; clear hG; intro f10 hG
      refine And.elim ?_ hG; clear hG; intro f11 hG
      refine And.elim ?_ hG; clear hG; intro f12 hG
      refine And.elim ?_ hG; clear hG; intro f13 hG
      refine And.elim ?_ hG; clear hG; intro f14 hG
      refine And.elim ?_ hG; clear hG; intro f15 hG
      refine And.elim ?_ hG; clear hG; intro f16 hG
      refine And.elim ?_ hG; clear hG; intro f17 hG
      refine And.elim ?_ hG; clear hG; intro f18 hG
      have f19 := hG; clear hG
      subst ha
      obtain rfl := f8 (hd ⟨8, .data⟩ (by simp) rfl)
      obtain rfl := f9 (hd ⟨9, .data⟩ (by simp) rfl)
      have hlk := hM.look HV.out hLi
      have HM := Lib.hid hM
      clear hM hd
      have F0 := Lib.hid f0; clear f0
      have F1 := Lib.hid f1; clear f1
      have F2 := Lib.hid f2; clear f2
      have F3 := Lib.hid f3; clear f3
      have F4 := Lib.hid f4; clear f4
      have F5 := Lib.hid f5; clear f5
      have F6 := Lib.hid f6; clear f6
      have F7 := Lib.hid f7; clear f7
      have F8 := Lib.hid f8; clear f8
      have F9 := Lib.hid f9; clear f9
      have F10 := Lib.hid f10; clear f10
      have F11 := Lib.hid f11; clear f11
      have F12 := Lib.hid f12; clear f12
      have F13 := Lib.hid f13; clear f13
      have F14 := Lib.hid f14; clear f14
      have F15 := Lib.hid f15; clear f15
      have F16 := Lib.hid f16; clear f16
      have F17 := Lib.hid f17; clear f17
      have F18 := Lib.hid f18; clear f18
      have F19 := Lib.hid f19; clear f19
      go_simp
      go_wp2
      exact ⟨_, _, _, _, _, _, _, _, _, _, _, _, _, _, _, _, _, _, _, _, rfl, HM.out.same (i := 10) (by decide) (by decide) (by decide), F0.out, F1.out, F2.out, F3.out, F4.out, F5.out, F6.out, F7.out, fun _ => rfl, fun _ => rfl, fun _ => rfl, F11.out, F12.out, F13.out, F14.out, F15.out, F16.out, F17.out, F18.out, F19.out⟩
    · intro L a' wx hLi hd hG K hK
      refine Exists.elim hG ?_; clear hG; intro u20 hG
      refine Exists.elim hG ?_; clear hG; intro u21 hG
      refine Exists.elim hG ?_; clear hG; intro u22 hG
      refine Exists.elim hG ?_; clear hG; intro u23 hG
      refine Exists.elim hG ?_; clear hG; intro u24 hG
      refine Exists.elim hG ?_; clear hG; intro u25 hG
      refine Exists.elim hG ?_; clear hG; intro u26 hG
      refine Exists.elim hG ?_; clear hG; intro u27 hG
      refine Exists.elim hG ?_; clear hG; intro u28 hG
      refine Exists.elim hG ?_; clear hG; intro u29 hG
      refine Exists.elim hG ?_; clear hG; intro u30 hG
      refine Exists.elim hG ?_; clear hG; intro u31 hG
      refine Exists.elim hG ?_; clear hG; intro u32 hG
      refine Exists.elim hG ?_; clear hG; intro u33 hG
      refine Exists.elim hG ?_; clear hG; intro u34 hG
      refine Exists.elim hG ?_; clear hG; intro u35 hG
      refine Exists.elim hG ?_; clear hG; intro u36 hG
      refine Exists.elim hG ?_; clear hG; intro u37 hG
      refine Exists.elim hG ?_; clear hG; intro u38 hG
      refine Exists.elim hG ?_; clear hG; intro u39 hG
      refine And.elim ?_ hG; clear hG; intro ha hG
      refine And.elim ?_ hG; clear hG; intro hM hG
      refine And.elim ?_ hG; clear hG; intro f0 hG
      refine And.elim ?_ hG; clear hG; intro f1 hG
      refine And.elim ?_ hG; clear hG; intro f2 hG
      refine And.elim ?_ hG; clear hG; intro f3 hG
      refine And.elim ?_ hG; clear hG; intro f4 hG
      refine And.elim ?_ hG; clear hG; intro f5 hG
      refine And.elim ?_ hG; clear hG; intro f6 hG
      refine And.elim ?_ hG; clear hG; intro f7 hG
      refine And.elim ?_ hG; clear hG; intro f8 hG
      refine And.elim ?_ hG; clear hG; intro f9 hG
      refine And.elim ?_ hG; clear hG; intro f10 hG
      refine And.elim ?_ hG; clear hG; intro f11 hG
      refine And.elim ?_ hG; clear hG; intro f12 hG
      refine And.elim ?_ hG; clear hG; intro f13 hG
      refine And.elim ?_ hG; clear hG; intro f14 hG
      refine And.elim ?_ hG; clear hG; intro f15 hG
      refine And.elim ?_ hG; clear hG; intro f16 hG
      refine And.elim ?_ hG; clear hG; intro f17 hG
      refine And.elim ?_ hG; clear hG; intro f18 hG
      have f19 := hG; clear hG
      subst ha
      have HM := Lib.hid hM
      clear hM hd
      have F0 := Lib.hid f0; clear f0
      have F1 := Lib.hid f1; clear f1
      have F2 := Lib.hid f2; clear f2
      have F3 := Lib.hid f3; clear f3
      have F4 := Lib.hid f4; clear f4
      have F5 := Lib.hid f5; clear f5
      have F6 := Lib.hid f6; clear f6
      have F7 := Lib.hid f7; clear f7
      have F8 := Lib.hid f8; clear f8
      have F9 := Lib.hid f9; clear f9
      have F10 := Lib.hid f10; clear f10
      have F11 := Lib.hid f11; clear f11
      have F12 := Lib.hid f12; clear f12
      have F13 := Lib.hid f13; clear f13
      have F14 := Lib.hid f14; clear f14
      have F15 := Lib.hid f15; clear f15
      have F16 := Lib.hid f16; clear f16
      have F17 := Lib.hid f17; clear f17
      have F18 := Lib.hid f18; clear f18
      have F19 := Lib.hid f19; clear f19
      go_simp
      go_wp2
      exact ⟨_, _, _, _, _, _, _, _, _, _, _, _, _, _, _, _, _, _, _, _, rfl, HM.out.same (i := 11) (by decide) (by decide) (by decide), F0.out, F1.out, F2.out, F3.out, F4.out, F5.out, F6.out, F7.out, F8.out, F9.out, F10.out, fun _ => rfl, F12.out, F13.out, F14.out, F15.out, F16.out, F17.out, F18.out, F19.out⟩
    · intro L a' wx hLi hd hG K hK
      refine Exists.elim hG ?_; clear hG; intro u20 hG
      refine Exists.elim hG ?_; clear hG; intro u21 hG
      refine Exists.elim hG ?_; clear hG; intro u22 hG
      refine Exists.elim hG ?_; clear hG; intro u23 hG
      refine Exists.elim hG ?_; clear hG; intro u24 hG
      refine Exists.elim hG ?_; clear hG; intro u25 hG
      refine Exists.elim hG ?_; clear hG; intro u26 hG
      refine Exists.elim hG ?_; clear hG; intro u27 hG
      refine Exists.elim hG ?_; clear hG; intro u28 hG
      refine Exists.elim hG ?_; clear hG; intro u29 hG
      refine Exists.elim hG ?_; clear hG; intro u30 hG
      refine Exists.elim hG ?_; clear hG; intro u31 hG
      refine Exists.elim hG ?_; clear hG; intro u32 hG
      refine Exists.elim hG ?_; clear hG; intro u33 hG
      refine Exists.elim hG ?_; clear hG; intro u34 hG
      refine Exists.elim hG ?_; clear hG; intro u35 hG
      refine Exists.elim hG ?_; clear hG; intro u36 hG
      refine Exists.elim hG ?_; clear hG; intro u37 hG
      refine Exists.elim hG ?_; clear hG; intro u38 hG
      refine Exists.elim hG ?_; clear hG; intro u39 hG
      refine And.elim ?_ hG; clear hG; intro ha hG
      refine And.elim ?_ hG; clear hG; intro hM hG
      refine And.elim ?_ hG; clear hG; intro f0 hG
      refine And.elim ?_ hG; clear hG; intro f1 hG
      refine And.elim ?_ hG; clear hG; intro f2 hG
      refine And.elim ?_ hG; clear hG; intro f3 hG
      refine And.elim ?_ hG; clear hG; intro f4 hG
      refine And.elim ?_ hG; clear hG; intro f5 hG
      refine And.elim ?_ hG; clear hG; intro f6 hG
      refine And.elim ?_ hG; clear hG; intro f7 hG
      refine And.elim ?_ hG; clear hG; intro f8 hG
      refine And.elim ?_ hG; clear hG; intro f9 hG
      refine And.elim ?_ hG; clear hG; intro f10 hG
      refine And.elim ?_ hG; clear hG; intro f11 hG
      refine And.elim ?_ hG; clear hG; intro f12 hG
      refine And.elim ?_ hG; clear hG; intro f13 hG
      refine And.elim ?_ hG; clear hG; intro f14 hG
      refine And.elim ?_ hG; clear hG; intro f15 hG
      refine And.elim ?_ hG; clear hG; intro f16 hG
      refine And.elim ?_ hG; clear hG; intro f17 hG
      refine And.elim ?_ hG; clear hG; intro f18 hG
      have f19 := hG; clear hG
      subst ha
      obtain rfl := f11 (hd ⟨11, .data⟩ (by simp) rfl)
      have HM := Lib.hid hM
      clear hM hd
      have F0 := Lib.hid f0; clear f0
      have F1 := Lib.hid f1; clear f1
      have F2 := Lib.hid f2; clear f2
      have F3 := Lib.hid f3; clear f3
      have F4 := Lib.hid f4; clear f4
      have F5 := Lib.hid f5; clear f5
      have F6 := Lib.hid f6; clear f6
      have F7 := Lib.hid f7; clear f7
      have F8 := Lib.hid f8; clear f8
      have F9 := Lib.hid f9; clear f9
      have F10 := Lib.hid f10; clear f10
      have F11 := Lib.hid f11; clear f11
      have F12 := Lib.hid f12; clear f12
      have F13 := Lib.hid f13; clear f13
      have F14 := Lib.hid f14; clear f14
      have F15 := Lib.hid f15; clear f15
      have F16 := Lib.hid f16; clear f16
      have F17 := Lib.hid f17; clear f17
      have F18 := Lib.hid f18; clear f18
      have F19 := Lib.hid f19; clear f19
      go_simp
      go_wp2
      exact ⟨_, _, _, _, _, _, _, _, _, _, _, _, _, _, _, _, _, _, _, _, rfl, HM.out.same (i := 12) (by decide) (by decide) (by decide), F0.out, F1.out, F2.out, F3.out, F4.out, F5.out, F6.out, F7.out, F8.out, F9.out, F10.out, fun _ => rfl, fun _ => rfl, F13.out, F14.out, F15.out, F16.out, F17.out, F18.out, F19.out⟩
    · intro L a' wx hLi hd hG K hK
      refine Exists.elim hG ?_; clear hG; intro u20 hG
      refine Exists.elim hG ?_; clear hG; intro u21 hG
      refine Exists.elim hG ?_; clear hG; intro u22 hG
      refine Exists.elim hG ?_; clear hG; intro u23 hG
      refine Exists.elim hG ?_; clear hG; intro u24 hG
      refine Exists.elim hG ?_; clear hG; intro u25 hG
      refine Exists.elim hG ?_; clear hG; intro u26 hG
      refine Exists.elim hG ?_; clear hG; intro u27 hG
      refine Exists.elim hG ?_; clear hG; intro u28 hG
      refine Exists.elim hG ?_; clear hG; intro u29 hG
      refine Exists.elim hG ?_; clear hG; intro u30 hG
      refine Exists.elim hG ?_; clear hG; intro u31 hG
      refine Exists.elim hG ?_; clear hG; intro u32 hG
      refine Exists.elim hG ?_; clear hG; intro u33 hG
      refine Exists.elim hG ?_; clear hG; intro u34 hG
      refine Exists.elim hG ?_; clear hG; intro u35 hG
      refine Exists.elim hG ?_; clear hG; intro u36 hG
      refine Exists.elim hG ?_; clear hG; intro u37 hG
      refine Exists.elim hG ?_; clear hG; intro u38 hG
      refine Exists.elim hG ?_; clear hG; intro u39 hG
      refine And.elim ?_ hG; clear hG; intro ha hG
      refine And.elim ?_ hG; clear hG; intro hM hG
      refine And.elim ?_ hG; clear hG; intro f0 hG
      refine And.elim ?_ hG; clear hG; intro f1 hG
      refine And.elim ?_ hG; clear hG; intro f2 hG
      refine And.elim ?_ hG; clear hG; intro f3 hG
      refine And.elim ?_ hG; clear hG; intro f4 hG
      refine And.elim ?_ hG; clear hG; intro f5 hG
      refine And.elim ?_ hG; clear hG; intro f6 hG
      refine And.elim ?_ hG; clear hG; intro f7 hG
      refine And.elim ?_ hG; clear hG; intro f8 hG
      refine And.elim ?_ hG; clear hG; intro f9 hG
      refine And.elim ?_ hG; clear hG; intro f10 hG
      refine And.elim ?_ hG; clear hG; intro f11 hG
      refine And.elim ?_ hG; clear hG; intro f12 hG
      refine And.elim ?_ hG; clear hG; intro f13 hG
      refine And.elim ?_ hG; clear hG; intro f14 hG
      refine And.elim ?_ hG; clear hG; intro f15 hG
      refine And.elim ?_ hG; clear hG; intro f16 hG
      refine And.elim ?_ hG; clear hG; intro f17 hG
      refine And.elim ?_ hG; clear hG; intro f18 hG
      have f19 := hG; clear hG
      subst ha
      obtain rfl := f12 (hd ⟨12, .data⟩ (by simp) rfl)
      have HM := Lib.hid hM
      clear hM hd
      have F0 := Lib.hid f0; clear f0
      have F1 := Lib.hid f1; clear f1
      have F2 := Lib.hid f2; clear f2
      have F3 := Lib.hid f3; clear f3
      have F4 := Lib.hid f4; clear f4
      have F5 := Lib.hid f5; clear f5
      have F6 := Lib.hid f6; clear f6
      have F7 := Lib.hid f7; clear f7
      have F8 := Lib.hid f8; clear f8
      have F9 := Lib.hid f9; clear f9
      have F10 := Lib.hid f10; clear f10
      have F11 := Lib.hid f11; clear f11
      have F12 := Lib.hid f12; clear f12
      have F13 := Lib.hid f13; clear f13
      have F14 := Lib.hid f14; clear f14
      have F15 := Lib.hid f15; clear f15
      have F16 := Lib.hid f16; clear f16
      have F17 := Lib.hid f17; clear f17
      have F18 := Lib.hid f18; clear f18
      have F19 := Lib.hid f19; clear f19
      go_simp
      go_wp2
      exact ⟨_, _, _, _, _, _, _, _, _, _, _, _, _, _, _, _, _, _, _, _, rfl, HM.out.same (i := 13) (by decide) (by decide) (by decide), F0.out, F1.out, F2.out, F3.out, F4.out, F5.out, F6.out, F7.out, F8.out, F9.out, F10.out, F11.out, fun _ => rfl, fun _ => rfl, F14.out, F15.out, F16.out, F17.out, F18.out, F19.out⟩
    · intro L a' wx hLi hd hG K hK
      refine Exists.elim hG ?_; clear hG; intro u20 hG
      refine Exists.elim hG ?_; clear hG; intro u21 hG
      refine Exists.elim hG ?_; clear hG; intro u22 hG
      refine Exists.elim hG ?_; clear hG; intro u23 hG
      refine Exists.elim hG ?_; clear hG; intro u24 hG
      refine Exists.elim hG ?_; clear hG; intro u25 hG
      refine Exists.elim hG ?_; clear hG; intro u26 hG
      refine Exists.elim hG ?_; clear hG; intro u27 hG
      refine Exists.elim hG ?_; clear hG; intro u28 hG
      refine Exists.elim hG ?_; clear hG; intro u29 hG
      refine Exists.elim hG ?_; clear hG; intro u30 hG
      refine Exists.elim hG ?_; clear hG; intro u31 hG
      refine Exists.elim hG ?_; clear hG; intro u32 hG
      refine Exists.elim hG ?_; clear hG; intro u33 hG
      refine Exists.elim hG ?_; clear hG; intro u34 hG
      refine Exists.elim hG ?_; clear hG; intro u35 hG
      refine Exists.elim hG ?_; clear hG; intro u36 hG
      refine Exists.elim hG ?_; clear hG; intro u37 hG
      refine Exists.elim hG ?_; clear hG; intro u38 hG
      refine Exists.elim hG ?_; clear hG; intro u39 hG
      refine And.elim ?_ hG; clear hG; intro ha hG
      refine And.elim ?_ hG; clear hG; intro hM hG
      refine And.elim ?_ hG; clear hG; intro f0 hG
      refine And.elim ?_ hG; clear hG; intro f1 hG
      refine And.elim ?_ hG; clear hG; intro f2 hG
      refine And.elim ?_ hG; clear hG; intro f3 hG
      refine And.elim ?_ hG; clear hG; intro f4 hG
      refine And.elim ?_ hG; clear hG; intro f5 hG
      refine And.elim ?_ hG; clear hG; intro f6 hG
      refine And.elim ?_ hG; clear hG; intro f7 hG
      refine And.elim ?_ hG; clear hG; intro f8 hG
      refine And.elim ?_ hG; clear hG; intro f9 hG
      refine And.elim ?_ hG; clear hG; intro f10 hG
      refine And.elim ?_ hG; clear hG; intro f11 hG
      refine And.elim ?_ hG; clear hG; intro f12 hG
      refine And.elim ?_ hG; clear hG; intro f13 hG
      refine And.elim ?_ hG; clear hG; intro f14 hG
      refine And.elim ?_ hG; clear hG; intro f15 hG
      refine And.elim ?_ hG; clear hG; intro f16 hG
      refine And.elim ?_ hG; clear hG; intro f17 hG
      refine And.elim ?_ hG; clear hG; intro f18 hG
      have f19 := hG; clear hG
      subst ha
      obtain rfl := f13 (hd ⟨13, .data⟩ (by simp) rfl)
      have hc0 := hM.c0
      have HM := Lib.hid hM
      clear hM hd
      have F0 := Lib.hid f0; clear f0
      have F1 := Lib.hid f1; clear f1
      have F2 := Lib.hid f2; clear f2
      have F3 := Lib.hid f3; clear f3
      have F4 := Lib.hid f4; clear f4
      have F5 := Lib.hid f5; clear f5
      have F6 := Lib.hid f6; clear f6
      have F7 := Lib.hid f7; clear f7
      have F8 := Lib.hid f8; clear f8
      have F9 := Lib.hid f9; clear f9
      have F10 := Lib.hid f10; clear f10
      have F11 := Lib.hid f11; clear f11
      have F12 := Lib.hid f12; clear f12
      have F13 := Lib.hid f13; clear f13
      have F14 := Lib.hid f14; clear f14
      have F15 := Lib.hid f15; clear f15
      have F16 := Lib.hid f16; clear f16
      have F17 := Lib.hid f17; clear f17
      have F18 := Lib.hid f18; clear f18
      have F19 := Lib.hid f19; clear f19
      go_simp
      go_wp2
      exact ⟨_, _, _, _, _, _, _, _, _, _, _, _, _, _, _, _, _, _, _, _, rfl, HM.out.same (i := 14) (by decide) (by decide) (by decide), F0.out, F1.out, F2.out, F3.out, F4.out, F5.out, F6.out, F7.out, F8.out, F9.out, F10.out, F11.out, F12.out, fun _ => rfl, fun _ => rfl, F15.out, F16.out, F17.out, F18.out, F19.out⟩
    · intro L a' wx hLi hd hG K hK
      refine Exists.elim hG ?_; clear hG; intro u20 hG
      refine Exists.elim hG ?_; clear hG; intro u21 hG
      refine Exists.elim hG ?_; clear hG; intro u22 hG
      refine Exists.elim hG ?_; clear hG; intro u23 hG
      refine Exists.elim hG ?_; clear hG; intro u24 hG
      refine Exists.elim hG ?_; clear hG; intro u25 hG
      refine Exists.elim hG ?_; clear hG; intro u26 hG
      refine Exists.elim hG ?_; clear hG; intro u27 hG
      refine Exists.elim hG ?_; clear hG; intro u28 hG
      refine Exists.elim hG ?_; clear hG; intro u29 hG
      refine Exists.elim hG ?_; clear hG; intro u30 hG
      refine Exists.elim hG ?_; clear hG; intro u31 hG
      refine Exists.elim hG ?_; clear hG; intro u32 hG
      refine Exists.elim hG ?_; clear hG; intro u33 hG
      refine Exists.elim hG ?_; clear hG; intro u34 hG
      refine Exists.elim hG ?_; clear hG; intro u35 hG
      refine Exists.elim hG ?_; clear hG; intro u36 hG
      refine Exists.elim hG ?_; clear hG; intro u37 hG
      refine Exists.elim hG ?_; clear hG; intro u38 hG
      refine Exists.elim hG ?_; clear hG; intro u39 hG
      refine And.elim ?_ hG; clear hG; intro ha hG
      refine And.elim ?_ hG; clear hG; intro hM hG
      refine And.elim ?_ hG; clear hG; intro f0 hG
      refine And.elim ?_ hG; clear hG; intro f1 hG
      refine And.elim ?_ hG; clear hG; intro f2 hG
      refine And.elim ?_ hG; clear hG; intro f3 hG
      refine And.elim ?_ hG; clear hG; intro f4 hG
      refine And.elim ?_ hG; clear hG; intro f5 hG
      refine And.elim ?_ hG; clear hG; intro f6 hG
      refine And.elim ?_ hG; clear hG; intro f7 hG
      refine And.elim ?_ hG; clear hG; intro f8 hG
      refine And.elim ?_ hG; clear hG; intro f9 hG
      refine And.elim ?_ hG; clear hG; intro f10 hG
      refine And.elim ?_ hG; clear hG; intro f11 hG
      refine And.elim ?_ hG; clear hG; intro f12 hG
      refine And.elim ?_ hG; clear hG; intro f13 hG
      refine And.elim ?_ hG; clear hG; intro f14 hG
      refine And.elim ?_ hG; clear hG; intro f15 hG
      refine And.elim ?_ hG; clear hG; intro f16 hG
      refine And.elim ?_ hG; clear hG; intro f17 hG
      refine And.elim ?_ hG; clear hG; intro f18 hG
      have f19 := hG; clear hG
      subst ha
      have HM := Lib.hid hM
      clear hM hd
      have F0 := Lib.hid f0; clear f0
      have F1 := Lib.hid f1; clear f1
      have F2 := Lib.hid f2; clear f2
      have F3 := Lib.hid f3; clear f3
      have F4 := Lib.hid f4; clear f4
      have F5 := Lib.hid f5; clear f5
      have F6 := Lib.hid f6; clear f6
      have F7 := Lib.hid f7; clear f7
      have F8 := Lib.hid f8; clear f8
      have F9 := Lib.hid f9; clear f9
      have F10 := Lib.hid f10; clear f10
      have F11 := Lib.hid f11; clear f11
      have F12 := Lib.hid f12; clear f12
      have F13 := Lib.hid f13; clear f13
      have F14 := Lib.hid f14; clear f14
      have F15 := Lib.hid f15; clear f15
      have F16 := Lib.hid f16; clear f16
      have F17 := Lib.hid f17; clear f17
      have F18 := Lib.hid f18; clear f18
      have F19 := Lib.hid f19; clear f19
      go_simp
      go_wp2
      exact ⟨_, _, _, _, _, _, _, _, _, _, _, _, _, _, _, _, _, _, _, _, rfl, HM.out.same (i := 15) (by decide) (by decide) (by decide), F0.out, F1.out, F2.out, F3.out, F4.out, F5.out, F6.out, F7.out, F8.out, F9.out, F10.out, F11.out, F12.out, F13.out, F14.out, fun _ => rfl, F16.out, F17.out, F18.out, F19.out⟩
    · intro L a' wx hLi hd hG K hK
      refine Exists.elim hG ?_; clear hG; intro u20 hG
      refine Exists.elim hG ?_; clear hG; intro u21 hG
      refine Exists.elim hG ?_; clear hG; intro u22 hG
      refine Exists.elim hG ?_; clear hG; intro u23 hG
      refine Exists.elim hG ?_; clear hG; intro u24 hG
      refine Exists.elim hG ?_; clear hG; intro u25 hG
      refine Exists.elim hG ?_; clear hG; intro u26 hG
      refine Exists.elim hG ?_; clear hG; intro u27 hG
      refine Exists.elim hG ?_; clear hG; intro u28 hG
      refine Exists.elim hG ?_; clear hG; intro u29 hG
      refine Exists.elim hG ?_; clear hG; intro u30 hG
      refine Exists.elim hG ?_; clear hG; intro u31 hG
      refine Exists.elim hG ?_; clear hG; intro u32 hG
      refine Exists.elim hG ?_; clear hG; intro u33 hG
      refine Exists.elim hG ?_; clear hG; intro u34 hG
      refine Exists.elim hG ?_; clear hG; intro u35 hG
      refine Exists.elim hG ?_; clear hG; intro u36 hG
      refine Exists.elim hG ?_; clear hG; intro u37 hG
      refine Exists.elim hG ?_; clear hG; intro u38 hG
      refine Exists.elim hG ?_; clear hG; intro u39 hG
      refine And.elim ?_ hG; clear hG; intro ha hG
      refine And.elim ?_ hG; clear hG; intro hM hG
      refine And.elim ?_ hG; clear hG; intro f0 hG
      refine And.elim ?_ hG; clear hG; intro f1 hG
      refine And.elim ?_ hG; clear hG; intro f2 hG
      refine And.elim ?_ hG; clear hG; intro f3 hG
      refine And.elim ?_ hG; clear hG; intro f4 hG
      refine And.elim ?_ hG; clear hG; intro f5 hG
      refine And.elim ?_ hG; clear hG; intro f6 hG
      refine And.elim ?_ hG; clear hG; intro f7 hG
      refine And.elim ?_ hG; clear hG; intro f8 hG
      refine And.elim ?_ hG; clear hG; intro f9 hG
      refine And.elim ?_ hG; clear hG; intro f10 hG
      refine And.elim ?_ hG; clear hG; intro f11 hG
      refine And.elim ?_ hG; clear hG; intro f12 hG
      refine And.elim ?_ hG; clear hG; intro f13 hG
      refine And.elim ?_ hG; clear hG; intro f14 hG
      refine And.elim ?_ hG; clear hG; intro f15 hG
      refine And.elim ?_ hG; clear hG; intro f16 hG
      refine And.elim ?_ hG; clear hG; intro f17 hG
      refine And.elim ?_ hG; clear hG; intro f18 hG
      have f19 := hG; clear hG
      subst ha
      have HM := Lib.hid hM
      clear hM hd
      have F0 := Lib.hid f0; clear f0
      have F1 := Lib.hid f1; clear f1
      have F2 := Lib.hid f2; clear f2
      have F3 := Lib.hid f3; clear f3
      have F4 := Lib.hid f4; clear f4
      have F5 := Lib.hid f5; clear f5
      have F6 := Lib.hid f6; clear f6
      have F7 := Lib.hid f7; clear f7
      have F8 := Lib.hid f8; clear f8
      have F9 := Lib.hid f9; clear f9
      have F10 := Lib.hid f10; clear f10
      have F11 := Lib.hid f11; clear f11
      have F12 := Lib.hid f12; clear f12
      have F13 := Lib.hid f13; clear f13
      have F14 := Lib.hid f14; clear f14
      have F15 := Lib.hid f15; clear f15
      have F16 := Lib.hid f16; clear f16
      have F17 := Lib.hid f17; clear f17
      have F18 := Lib.hid f18; clear f18
      have F19 := Lib.hid f19; clear f19
      go_simp
      go_wp2
      exact ⟨_, _, _, _, _, _, _, _, _, _, _, _, _, _, _, _, _, _, _, _, rfl, HM.out.same (i := 16) (by decide) (by decide) (by decide), F0.out, F1.out, F2.out, F3.out, F4.out, F5.out, F6.out, F7.out, F8.out, F9.out, F10.out, F11.out, F12.out, F13.out, F14.out, F15.out, fun _ => rfl, F17.out, F18.out, F19.out⟩
    · intro L a' wx hLi hd hG K hK
      refine Exists.elim hG ?_; clear hG; intro u20 hG
      refine Exists.elim hG ?_; clear hG; intro u21 hG
      refine Exists.elim hG ?_; clear hG; intro u22 hG
      refine Exists.elim hG ?_; clear hG; intro u23 hG
      refine Exists.elim hG ?_; clear hG; intro u24 hG
      refine Exists.elim hG ?_; clear hG; intro u25 hG
      refine Exists.elim hG ?_; clear hG; intro u26 hG
      refine Exists.elim hG ?_; clear hG; intro u27 hG
      refine Exists.elim hG ?_; clear hG; intro u28 hG
      refine Exists.elim hG ?_; clear hG; intro u29 hG
      refine Exists.elim hG ?_; clear hG; intro u30 hG
      refine Exists.elim hG ?_; clear hG; intro u31 hG
      refine Exists.elim hG ?_; clear hG; intro u32 hG
      refine Exists.elim hG ?_; clear hG; intro u33 hG
      refine Exists.elim hG ?_; clear hG; intro u34 hG
      refine Exists.elim hG ?_; clear hG; intro u35 hG
      refine Exists.elim hG ?_; clear hG; intro u36 hG
      refine Exists.elim hG ?_; clear hG; intro u37 hG
      refine Exists.elim hG ?_; clear hG; intro u38 hG
      refine Exists.elim hG ?_; clear hG; intro u39 hG
      refine And.elim ?_ hG; clear hG; intro ha hG
      refine And.elim ?_ hG; clear hG; intro hM hG
      refine And.elim ?_ hG; clear hG; intro f0 hG
      refine And.elim ?_ hG; clear hG; intro f1 hG
      refine And.elim ?_ hG; clear hG; intro f2 hG
      refine And.elim ?_ hG; clear hG; intro f3 hG
      refine And.elim ?_ hG; clear hG; intro f4 hG
      refine And.elim ?_ hG; clear hG; intro f5 hG
      refine And.elim ?_ hG; clear hG; intro f6 hG
      refine And.elim ?_ hG; clear hG; intro f7 hG
      refine And.elim ?_ hG; clear hG; intro f8 hG
      refine And.elim ?_ hG; clear hG; intro f9 hG
      refine And.elim ?_ hG; clear hG; intro f10 hG
      refine And.elim ?_ hG; clear hG; intro f11 hG
      refine And.elim ?_ hG; clear hG; intro f12 hG
      refine And.elim ?_ hG; clear hG; intro f13 hG
      refine And.elim ?_ hG; clear hG; intro f14 hG
      refine And.elim ?_ hG; clear hG; intro f15 hG
      refine And.elim ?_ hG; clear hG; intro f16 hG
      refine And.elim ?_ hG; clear hG; intro f17 hG
      refine And.elim ?_ hG; clear hG; intro f18 hG
      have f19 := hG; clear hG
      subst ha
      obtain rfl := f14 (hd ⟨14, .data⟩ (by simp) rfl)
      obtain rfl := f15 (hd ⟨15, .data⟩ (by simp) rfl)
      obtain rfl := f16 (hd ⟨16, .data⟩ (by simp) rfl)
      have HM := Lib.hid hM
      clear hM hd
      have F0 := Lib.hid f0; clear f0
      have F1 := Lib.hid f1; clear f1
      have F2 := Lib.hid f2; clear f2
      have F3 := Lib.hid f3; clear f3
      have F4 := Lib.hid f4; clear f4
      have F5 := Lib.hid f5; clear f5
      have F6 := Lib.hid f6; clear f6
      have F7 := Lib.hid f7; clear f7
      have F8 := Lib.hid f8; clear f8
      have F9 := Lib.hid f9; clear f9
      have F10 := Lib.hid f10; clear f10
      have F11 := Lib.hid f11; clear f11
      have F12 := Lib.hid f12; clear f12
      have F13 := Lib.hid f13; clear f13
      have F14 := Lib.hid f14; clear f14
      have F15 := Lib.hid f15; clear f15
      have F16 := Lib.hid f16; clear f16
      have F17 := Lib.hid f17; clear f17
      have F18 := Lib.hid f18; clear f18
      have F19 := Lib.hid f19; clear f19
      go_simp
      go_wp2
      exact ⟨_, _, _, _, _, _, _, _, _, _, _, _, _, _, _, _, _, _, _, _, rfl, HM.out.same (i := 17) (by decide) (by decide) (by decide), F0.out, F1.out, F2.out, F3.out, F4.out, F5.out, F6.out, F7.out, F8.out, F9.out, F10.out, F11.out, F12.out, F13.out, fun _ => rfl, fun _ => rfl, fun _ => rfl, fun _ => rfl, F18.out, F19.out⟩
    · intro L a' wx hLi hd hG K hK
      refine Exists.elim hG ?_; clear hG; intro u20 hG
      refine Exists.elim hG ?_; clear hG; intro u21 hG
      refine Exists.elim hG ?_; clear hG; intro u22 hG
      refine Exists.elim hG ?_; clear hG; intro u23 hG
      refine Exists.elim hG ?_; clear hG; intro u24 hG
      refine Exists.elim hG ?_; clear hG; intro u25 hG
      refine Exists.elim hG ?_; clear hG; intro u26 hG
      refine Exists.elim hG ?_; clear hG; intro u27 hG
      refine Exists.elim hG ?_; clear hG; intro u28 hG
      refine Exists.elim hG ?_; clear hG; intro u29 hG
      refine Exists.elim hG ?_; clear hG; intro u30 hG
      refine Exists.elim hG ?_; clear hG; intro u31 hG
      refine Exists.elim hG ?_; clear hG; intro u32 hG
      refine Exists.elim hG ?_; clear hG; intro u33 hG
      refine Exists.elim hG ?_; clear hG; intro u34 hG
      refine Exists.elim hG ?_; clear hG; intro u35 hG
      refine Exists.elim hG ?_; clear hG; intro u36 hG
      refine Exists.elim hG ?_; clear hG; intro u37 hG
      refine Exists.elim hG ?_; clear hG; intro u38 hG
      refine Exists.elim hG ?_; clear hG; intro u39 hG
      refine And.elim ?_ hG; clear hG; intro ha hG
      refine And.elim ?_ hG; clear hG; intro hM hG
      refine And.elim ?_ hG; clear hG; intro f0 hG
      refine And.elim ?_ hG; clear hG; intro f1 hG
      refine And.elim ?_ hG; clear hG; intro f2 hG
      refine And.elim ?_ hG; clear hG; intro f3 hG
      refine And.elim ?_ hG; clear hG; intro f4 hG
      refine And.elim ?_ hG; clear hG; intro f5 hG
      refine And.elim ?_ hG; clear hG; intro f6 hG
      refine And.elim ?_ hG; clear hG; intro f7 hG
      refine And.elim ?_ hG; clear hG; intro f8 hG
      refine And.elim ?_ hG; clear hG; intro f9 hG
      refine And.elim ?_ hG; clear hG; intro f10 hG
      refine And.elim ?_ hG; clear hG; intro f11 hG
      refine And.elim ?_ hG; clear hG; intro f12 hG
      refine And.elim ?_ hG; clear hG; intro f13 hG
      refine And.elim ?_ hG; clear hG; intro f14 hG
      refine And.elim ?_ hG; clear hG; intro f15 hG
      refine And.elim ?_ hG; clear hG; intro f16 hG
      refine And.elim ?_ hG; clear hG; intro f17 hG
      refine And.elim ?_ hG; clear hG; intro f18 hG
      have f19 := hG; clear hG
      subst ha
      obtain rfl := f17 (hd ⟨17, .data⟩ (by simp) rfl)
      have HM2 := Lib.hid (hM.build hLi)
      have HM := Lib.hid hM
      clear hM hd
      have F0 := Lib.hid f0; clear f0
      have F1 := Lib.hid f1; clear f1
      have F2 := Lib.hid f2; clear f2
      have F3 := Lib.hid f3; clear f3
      have F4 := Lib.hid f4; clear f4
      have F5 := Lib.hid f5; clear f5
      have F6 := Lib.hid f6; clear f6
      have F7 := Lib.hid f7; clear f7
      have F8 := Lib.hid f8; clear f8
      have F9 := Lib.hid f9; clear f9
      have F10 := Lib.hid f10; clear f10
      have F11 := Lib.hid f11; clear f11
      have F12 := Lib.hid f12; clear f12
      have F13 := Lib.hid f13; clear f13
      have F14 := Lib.hid f14; clear f14
      have F15 := Lib.hid f15; clear f15
      have F16 := Lib.hid f16; clear f16
      have F17 := Lib.hid f17; clear f17
      have F18 := Lib.hid f18; clear f18
      have F19 := Lib.hid f19; clear f19
      go_simp
      go_wp2
      exact ⟨_, _, _, _, _, _, _, _, _, _, _, _, _, _, _, _, _, _, _, _, rfl, HM2.out, F0.out, F1.out, F2.out, F3.out, F4.out, F5.out, F6.out, F7.out, F8.out, F9.out, F10.out, F11.out, F12.out, F13.out, F14.out, F15.out, F16.out, fun _ => rfl, fun _ => trivial, F19.out⟩
    · intro L a' wx hLi hd hG K hK
      refine Exists.elim hG ?_; clear hG; intro u20 hG
      refine Exists.elim hG ?_; clear hG; intro u21 hG
      refine Exists.elim hG ?_; clear hG; intro u22 hG
      refine Exists.elim hG ?_; clear hG; intro u23 hG
      refine Exists.elim hG ?_; clear hG; intro u24 hG
      refine Exists.elim hG ?_; clear hG; intro u25 hG
      refine Exists.elim hG ?_; clear hG; intro u26 hG
      refine Exists.elim hG ?_; clear hG; intro u27 hG
      refine Exists.elim hG ?_; clear hG; intro u28 hG
      refine Exists.elim hG ?_; clear hG; intro u29 hG
      refine Exists.elim hG ?_; clear hG; intro u30 hG
      refine Exists.elim hG ?_; clear hG; intro u31 hG
      refine Exists.elim hG ?_; clear hG; intro u32 hG
      refine Exists.elim hG ?_; clear hG; intro u33 hG
      refine Exists.elim hG ?_; clear hG; intro u34 hG
      refine Exists.elim hG ?_; clear hG; intro u35 hG
      refine Exists.elim hG ?_; clear hG; intro u36 hG
      refine Exists.elim hG ?_; clear hG; intro u37 hG
      refine Exists.elim hG ?_; clear hG; intro u38 hG
      refine Exists.elim hG ?_; clear hG; intro u39 hG
      refine And.elim ?_ hG; clear hG; intro ha hG
      refine And.elim ?_ hG; clear hG; intro hM hG
      refine And.elim ?_ hG; clear hG; intro f0 hG
      refine And.elim ?_ hG; clear hG; intro f1 hG
      refine And.elim ?_ hG; clear hG; intro f2 hG
      refine And.elim ?_ hG; clear hG; intro f3 hG
      refine And.elim ?_ hG; clear hG; intro f4 hG
      refine And.elim ?_ hG; clear hG; intro f5 hG
      refine And.elim ?_ hG; clear hG; intro f6 hG
      refine And.elim ?_ hG; clear hG; intro f7 hG
      refine And.elim ?_ hG; clear hG; intro f8 hG
      refine And.elim ?_ hG; clear hG; intro f9 hG
      refine And.elim ?_ hG; clear hG; intro f10 hG
      refine And.elim ?_ hG; clear hG; intro f11 hG
      refine And.elim ?_ hG; clear hG; intro f12 hG
      refine And.elim ?_ hG; clear hG; intro f13 hG
      refine And.elim ?_ hG; clear hG; intro f14 hG
      refine And.elim ?_ hG; clear hG; intro f15 hG
      refine And.elim ?_ hG; clear hG; intro f16 hG
      refine And.elim ?_ hG; clear hG; intro f17 hG
      refine And.elim ?_ hG; clear hG; intro f18 hG
      have f19 := hG; clear hG
      subst ha
      obtain rfl := f10 (hd ⟨10, .data⟩ (by simp) rfl)
      have h18 : L 18 = true := hd ⟨18, .data⟩ (by simp) rfl
      obtain ⟨g, hug, hcg⟩ := hM.new0 h18
      subst hug
      have hon := hM.own0 hLi
      have hsz := hM.size
      have HM := Lib.hid hM
      clear hM hd
      have F0 := Lib.hid f0; clear f0
      have F1 := Lib.hid f1; clear f1
      have F2 := Lib.hid f2; clear f2
      have F3 := Lib.hid f3; clear f3
      have F4 := Lib.hid f4; clear f4
      have F5 := Lib.hid f5; clear f5
      have F6 := Lib.hid f6; clear f6
      have F7 := Lib.hid f7; clear f7
      have F8 := Lib.hid f8; clear f8
      have F9 := Lib.hid f9; clear f9
      have F10 := Lib.hid f10; clear f10
      have F11 := Lib.hid f11; clear f11
      have F12 := Lib.hid f12; clear f12
      have F13 := Lib.hid f13; clear f13
      have F14 := Lib.hid f14; clear f14
      have F15 := Lib.hid f15; clear f15
      have F16 := Lib.hid f16; clear f16
      have F17 := Lib.hid f17; clear f17
      have F18 := Lib.hid f18; clear f18
      have F19 := Lib.hid f19; clear f19
      refine step_append_lies _ rfl (.tmp 30) (.tmp 38) 59 rfl base 61 i0 _ 3 32 Try.underlying59 HI0.out.1 HI0.out.2.1 HI0.out.2.2.1 HI0.out.2.2.2 rfl (by decide) v0 n xs (by rfl) hon ⟨g, 0, none⟩ 1 1 [.int .i64 p, .string v, .bool true] (by rfl) rfl (World.news_of_block (hcg hLi)) (by simp [Value.oneCell']) (by decide) (by unfold maxLen; omega) (by omega) (by omega) wx.heap.size rfl ?_
      intro g2 cap2 wy ho2 hg2 hat2 _
      have HM2 := Lib.hid (HM.out.app HO.out HMV.out hLi h18 ho2 hg2 hat2)
      clear ho2 hg2 hat2
      apply hK
      exact ⟨_, _, _, _, _, _, _, _, _, _, _, _, _, _, _, _, _, _, _, _, rfl, HM2.out, F0.out, F1.out, F2.out, F3.out, F4.out, F5.out, F6.out, F7.out, F8.out, F9.out, fun _ => rfl, F11.out, F12.out, F13.out, F14.out, F15.out, F16.out, F17.out, F18.out, fun _ => trivial⟩
    · intro L a' wx hLi hd hG K hK
      refine Exists.elim hG ?_; clear hG; intro u20 hG
      refine Exists.elim hG ?_; clear hG; intro u21 hG
      refine Exists.elim hG ?_; clear hG; intro u22 hG
      refine Exists.elim hG ?_; clear hG; intro u23 hG
      refine Exists.elim hG ?_; clear hG; intro u24 hG
      refine Exists.elim hG ?_; clear hG; intro u25 hG
      refine Exists.elim hG ?_; clear hG; intro u26 hG
      refine Exists.elim hG ?_; clear hG; intro u27 hG
      refine Exists.elim hG ?_; clear hG; intro u28 hG
      refine Exists.elim hG ?_; clear hG; intro u29 hG
      refine Exists.elim hG ?_; clear hG; intro u30 hG
      refine Exists.elim hG ?_; clear hG; intro u31 hG
      refine Exists.elim hG ?_; clear hG; intro u32 hG
      refine Exists.elim hG ?_; clear hG; intro u33 hG
      refine Exists.elim hG ?_; clear hG; intro u34 hG
      refine Exists.elim hG ?_; clear hG; intro u35 hG
      refine Exists.elim hG ?_; clear hG; intro u36 hG
      refine Exists.elim hG ?_; clear hG; intro u37 hG
      refine Exists.elim hG ?_; clear hG; intro u38 hG
      refine Exists.elim hG ?_; clear hG; intro u39 hG
      refine And.elim ?_ hG; clear hG; intro ha hG
      refine And.elim ?_ hG; clear hG; intro hM hG
      refine And.elim ?_ hG; clear hG; intro f0 hG
      refine And.elim ?_ hG; clear hG; intro f1 hG
      refine And.elim ?_ hG; clear hG; intro f2 hG
      refine And.elim ?_ hG; clear hG; intro f3 hG
      refine And.elim ?_ hG; clear hG; intro f4 hG
      refine And.elim ?_ hG; clear hG; intro f5 hG
      refine And.elim ?_ hG; clear hG; intro f6 hG
      refine And.elim ?_ hG; clear hG; intro f7 hG
      refine And.elim ?_ hG; clear hG; intro f8 hG
      refine And.elim ?_ hG; clear hG; intro f9 hG
      refine And.elim ?_ hG; clear hG; intro f10 hG
      refine And.elim ?_ hG; clear hG; intro f11 hG
      refine And.elim ?_ hG; clear hG; intro f12 hG
      refine And.elim ?_ hG; clear hG; intro f13 hG
      refine And.elim ?_ hG; clear hG; intro f14 hG
      refine And.elim ?_ hG; clear hG; intro f15 hG
      refine And.elim ?_ hG; clear hG; intro f16 hG
      refine And.elim ?_ hG; clear hG; intro f17 hG
      refine And.elim ?_ hG; clear hG; intro f18 hG
      have f19 := hG; clear hG
      subst ha
      obtain rfl := f3 (hd ⟨3, .data⟩ (by simp) rfl)
      obtain rfl := f4 (hd ⟨4, .data⟩ (by simp) rfl)
      have h10 : L 10 = true := hd ⟨10, .phase⟩ (by simp) rfl
      have h18 : L 18 = true := hd ⟨18, .phase⟩ (by simp) rfl
      have h19 : L 19 = true := hd ⟨19, .data⟩ (by simp) rfl
      have hnm : u39.ownBlock ≠ some M := hM.notM h19 (hM.map0 hLi)
      obtain ⟨wy, hput, hmp, hgr, _⟩ := run_put_at (P := Try.prog) keysS Try.underlying56 (hM.map0 hLi) k u39
      have HM2 := Lib.hid (hM.put HOM.out h10 h18 h19 hmp hgr hnm)
      unfold mkS at hput
      clear hmp hgr hnm
      have HM := Lib.hid hM
      clear hM hd
      have F0 := Lib.hid f0; clear f0
      have F1 := Lib.hid f1; clear f1
      have F2 := Lib.hid f2; clear f2
      have F3 := Lib.hid f3; clear f3
      have F4 := Lib.hid f4; clear f4
      have F5 := Lib.hid f5; clear f5
      have F6 := Lib.hid f6; clear f6
      have F7 := Lib.hid f7; clear f7
      have F8 := Lib.hid f8; clear f8
      have F9 := Lib.hid f9; clear f9
      have F10 := Lib.hid f10; clear f10
      have F11 := Lib.hid f11; clear f11
      have F12 := Lib.hid f12; clear f12
      have F13 := Lib.hid f13; clear f13
      have F14 := Lib.hid f14; clear f14
      have F15 := Lib.hid f15; clear f15
      have F16 := Lib.hid f16; clear f16
      have F17 := Lib.hid f17; clear f17
      have F18 := Lib.hid f18; clear f18
      have F19 := Lib.hid f19; clear f19
      go_simp
      go_wp2
      exact ⟨_, _, _, _, _, _, _, _, _, _, _, _, _, _, _, _, _, _, _, _, rfl, HM2.out, F0.out, F1.out, F2.out, fun _ => rfl, fun _ => rfl, F5.out, F6.out, F7.out, F8.out, F9.out, F10.out, F11.out, F12.out, F13.out, F14.out, F15.out, F16.out, F17.out, F18.out, F19.out⟩
    · intro L a' wx hL hG
      obtain ⟨u20, u21, u22, u23, u24, u25, u26, u27, u28, u29, u30, u31, u32, u33, u34, u35, u36, u37, u38, u39, rfl, hM, f0, f1, f2, f3, f4, f5, f6, f7, f8, f9, f10, f11, f12, f13, f14, f15, f16, f17, f18, f19⟩ := hG
      have h19 := hL 19 (by simp)
      have h20 := hL 20 (by simp)
      have HORG := Lib.hid (hM.done (T := T) hOb hMb HE.out HMAP.out HV.out HN.out HX.out HPQ.out h19 h20)
      have HBEL : Hid (Below base w wx) := Lib.hid ⟨hM.os.trans HOS.out.1, hM.tape.trans HOS.out.2.1, hM.output.trans HOS.out.2.2, Nat.le_trans (by show w.heap.size ≤ W0.heap.size; exact Nat.le_of_eq (HSZ.out).symm) hM.size, fun g hg => (hM.keep g (by omega) (by omega) (fun e => by have := (HLT.out g e.symm).1; omega)).trans (HK0.out g (by omega))⟩
      have hc0 := hM.c0
      clear f0 f1 f2 f3 f4 f5 f6 f7 f8 f9 f10 f11 f12 f13 f14 f15 f16 f17 f18 f19 hL hM h19 h20
      go_wp2
      go_ret
      exact ⟨by rw [HPQ.out]; rfl, HORG.out, HBEL.out⟩
end Go.Proofs.Ytmblkejgfoffaaa
