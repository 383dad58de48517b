/- What memory holds while an origin is told something, in whatever order. No walk. -/
import Derived.Test.YtmblkejgfoffaaaOrg
namespace Go.Proofs.Ytmblkejgfoffaaa
open Go.RowKit
theorem mem_putEnt {κ : Type} [DecidableEq κ] (k : κ) (v : Value) (c : Nat) : ∀ (l : List (Ent κ)), (l.map (·.1)).Nodup → ∀ p ∈ putEnt k v c l, (p.1 = k ∧ p.2.1 = v) ∨ (p ∈ l ∧ p.1 ≠ k) := by
  intro l
  induction l with
  | nil =>
    intro _ p hp
    unfold putEnt at hp
    rw [List.mem_singleton.1 hp]
    exact .inl ⟨rfl, rfl⟩
  | cons q l ih =>
    intro hn p hp
    rw [List.map_cons, List.nodup_cons] at hn
    unfold putEnt at hp
    by_cases hk : k = q.1
    · rw [if_pos hk] at hp
      rcases List.mem_cons.1 hp with rfl | hp'
      · exact .inl ⟨hk.symm, rfl⟩
      · refine .inr ⟨by simp [hp'], fun e => hn.1 ?_⟩
        rw [← hk, ← e]
        exact List.mem_map.2 ⟨p, hp', rfl⟩
    · rw [if_neg hk] at hp
      rcases List.mem_cons.1 hp with rfl | hp'
      · exact .inr ⟨by simp, Ne.symm hk⟩
      · rcases ih hn.2 p hp' with h | ⟨h1, h2⟩
        · exact .inl h
        · exact .inr ⟨by simp [h1], h2⟩
theorem keys_putEnt {κ : Type} [DecidableEq κ] (k : κ) (v : Value) (c : Nat) : ∀ (l : List (Ent κ)), (putEnt k v c l).map (·.1) = if k ∈ l.map (·.1) then l.map (·.1) else l.map (·.1) ++ [k] := by
  intro l
  induction l with
  | nil => rfl
  | cons q l ih =>
    unfold putEnt
    by_cases hk : k = q.1
    · rw [if_pos hk, if_pos (by rw [hk]; simp)]
      rfl
    · rw [if_neg hk, List.map_cons, ih, List.map_cons]
      by_cases hm : k ∈ l.map (·.1)
      · rw [if_pos hm, if_pos (by simp; right; simpa using hm)]
      · rw [if_neg hm, if_neg (by rw [List.mem_cons]; rintro (h | h); exact hk h; exact hm h)]
        rfl
theorem Ents.unique {w : World} {base M : Nat} {L : List St} {l : List (Ent ByteArray)} (h : Ents w base M L l) {k : ByteArray} {v : Value} {c : Nat} (hm : (k, v, c) ∈ l) : ∃ i, posOf k l 0 = some (i, v) := by
  have key : ∀ (l : List (Ent ByteArray)) (j : Nat), (l.map (·.1)).Nodup → (k, v, c) ∈ l → ∃ i, posOf k l j = some (i, v) := by
    intro l
    induction l with
    | nil => intro j _ h; cases h
    | cons q l ih =>
      intro j hn hm
      rw [List.map_cons, List.nodup_cons] at hn
      unfold posOf
      rcases List.mem_cons.1 hm with rfl | hm'
      · exact ⟨j, by simp⟩
      · have hne : k ≠ q.1 := fun e => hn.1 (by rw [← e]; exact List.mem_map.2 ⟨_, hm', rfl⟩)
        rw [if_neg hne]
        exact ih (j + 1) hn.2 hm'
  exact key l 0 h.nodup hm
/-- the value that a lookup gives -/
def lookV (k : ByteArray) (l : List (Ent ByteArray)) : Value := match posOf k l 0 with
  | some (_, v) => v
  | none => .slice none 0 0
theorem Ents.look {w : World} {base M : Nat} {L : List St} {l : List (Ent ByteArray)} (h : Ents w base M L l) (k : ByteArray) : w.ownsRow base 61 3 (lookV k l) (rowsOf k L).length ((rowsOf k L).flatMap Rw.cells) := by
  unfold lookV
  cases hp : posOf k l 0 with
  | none =>
    have hmiss := h.miss k (fun p hp' e => ((posOf_none k l 0).1 hp p hp') e.symm)
    rw [hmiss]
    exact World.ownsRow_nil _ _ _ _
  | some q =>
    obtain ⟨j, v⟩ := q
    obtain ⟨b, hb⟩ := posOf_mem k l 0 j v hp
    exact h.each _ hb
structure MS (W0 : World) (base O M n : Nat) (v0 : Value) (xs : List Value) (l : List (Ent ByteArray)) (c : Nat) (k : ByteArray) (p : Int) (vv : ByteArray) (hb : Bool) (L : Nat → Bool) (u38 u39 : Value) (wx : World) : Prop where
  cO : Blk wx O 58 #[.int .i64 p, .map (some M)]
  os : wx.os = W0.os
  tape : wx.tape = W0.tape
  output : wx.output = W0.output
  size : W0.heap.size ≤ wx.heap.size
  keep : ∀ g, g < W0.heap.size → g ≠ M → some g ≠ v0.ownBlock → wx.heap[g]? = W0.heap[g]?
  map0 : L 20 = false → MapAt wx M mkS l c
  map1 : L 20 = true → (L 10 = true ∧ L 18 = true ∧ L 19 = true) ∧ MapAt wx M mkS (putEnt k u39 c l) (putClock k l c)
  own0 : L 19 = false → wx.ownsRow base 61 3 v0 n xs
  new0 : L 18 = true → ∃ g, u38 = .slice (some ⟨g, 0, none⟩) 1 1 ∧ (L 19 = false → wx.heap[g]? = some (.cells #[.int .i64 p, .string vv, .bool hb] 61 (0, 0)))
  own1 : L 19 = true → L 18 = true ∧ ∃ g cap, u39 = .slice (some ⟨g, 0, none⟩) (n + 1) cap ∧ wx.ownsRow base 61 3 u39 (n + 1) (xs ++ [.int .i64 p, .string vv, .bool hb]) ∧ (v0.ownBlock = some g ∨ W0.heap.size ≤ g)
section
variable {W0 : World} {base O M n : Nat} {v0 : Value} {xs : List Value} {l : List (Ent ByteArray)} {c : Nat} {k : ByteArray} {p : Int} {vv : ByteArray} {hb : Bool} {L : Nat → Bool} {u38 u39 : Value} {wx : World}
theorem MS.same (h : MS W0 base O M n v0 xs l c k p vv hb L u38 u39 wx) {i : Nat} (h8 : 18 ≠ i) (h9 : 19 ≠ i) (h10 : 20 ≠ i) : MS W0 base O M n v0 xs l c k p vv hb (Done L i) u38 u39 wx := by
  obtain ⟨a1, a2, a3, a4, a5, a6, b1, b2, b3, b4, b5⟩ := h
  refine ⟨a1, a2, a3, a4, a5, a6, ?_, ?_, ?_, ?_, ?_⟩
  · rw [Done.ne h10]; exact b1
  · rw [Done.ne h10]
    intro h
    obtain ⟨⟨c1, c2, c3⟩, c4⟩ := b2 h
    exact ⟨⟨Done.le c1, Done.le c2, Done.le c3⟩, c4⟩
  · rw [Done.ne h9]; exact b3
  · rw [Done.ne h8, Done.ne h9]; exact b4
  · rw [Done.ne h8, Done.ne h9]; exact b5
theorem MS.no20 (h : MS W0 base O M n v0 xs l c k p vv hb L u38 u39 wx) (hi : L 10 = false ∨ L 18 = false ∨ L 19 = false) : L 20 = false := by
  cases h20 : L 20 with
  | false => rfl
  | true =>
    obtain ⟨⟨c1, c2, c3⟩, _⟩ := h.map1 h20
    rcases hi with h | h | h
    · rw [c1] at h; cases h
    · rw [c2] at h; cases h
    · rw [c3] at h; cases h
theorem MS.look (h : MS W0 base O M n v0 xs l c k p vv hb L u38 u39 wx) (hv : lookV k l = v0) (hi : L 10 = false) : (Instr.lookup 56 (.map (some M)) (.string k) false).run Try.prog wx = .ok v0 wx := by
  have hm := h.map0 (h.no20 (.inl hi))
  have := run_lookup_at (P := Try.prog) keysS Try.underlying56 hm k (.slice none 0 0) (zero59 wx) false
  rw [show (Value.string k) = mkS k from rfl, this]
  rw [← hv]
  unfold lookV
  cases posOf k l 0 <;> rfl
theorem MS.c0 (h : MS W0 base O M n v0 xs l c k p vv hb L u38 u39 wx) : wx.cell? ⟨O, 0, none⟩ = some (.int .i64 p) := h.cO.cell 0
theorem MS.c1 (h : MS W0 base O M n v0 xs l c k p vv hb L u38 u39 wx) : wx.cell? ⟨O, 1, none⟩ = some (.map (some M)) := h.cO.cell 1
theorem MS.build (h : MS W0 base O M n v0 xs l c k p vv hb L u38 u39 wx) (hi : L 18 = false) : MS W0 base O M n v0 xs l c k p vv hb (Done L 18) (.slice (some ⟨wx.heap.size, 0, none⟩) 1 1) u39 (wx.alloc (.cells #[.int .i64 p, .string vv, .bool hb] 61)) := by
  have h20 := h.no20 (.inr (.inl hi))
  have h19 : L 19 = false := by
    cases hx : L 19 with
    | false => rfl
    | true => rw [(h.own1 hx).1] at hi; cases hi
  obtain ⟨a1, a2, a3, a4, a5, a6, b1, b2, b3, b4, b5⟩ := h
  have hml : M < wx.heap.size := (Array.getElem?_eq_some_iff.1 (b1 h20)).1
  refine ⟨a1.alloc _, a2, a3, a4, by rw [World.size_alloc]; omega, fun g hg h1 h2 => (Below.heap_alloc _ _ _ (by omega)).trans (a6 g hg h1 h2), ?_, ?_, ?_, ?_, ?_⟩
  · intro _
    exact (Below.heap_alloc _ _ _ hml).trans (b1 h20)
  · rw [Done.ne (by decide), h20]; intro h; cases h
  · intro _
    exact (b3 h19).alloc _
  · intro _
    exact ⟨_, rfl, fun _ => heap_alloc_new wx _⟩
  · rw [Done.ne (by decide), h19]; intro h; cases h
theorem MS.app (h : MS W0 base O M n v0 xs l c k p vv hb L u38 u39 wx) (hO : some O ≠ v0.ownBlock) (hMv : some M ≠ v0.ownBlock) (hi : L 19 = false) (h18 : L 18 = true) {wy : World} {g cap : Nat} (ho : wy.ownsRow base 61 3 (.slice (some ⟨g, 0, none⟩) (n + 1) cap) (n + 1) (xs ++ [.int .i64 p, .string vv, .bool hb])) (hg : wx.grownBy wy v0.ownBlock) (hat : v0.ownBlock = some g ∨ g = wx.heap.size) :
    MS W0 base O M n v0 xs l c k p vv hb (Done L 19) u38 (.slice (some ⟨g, 0, none⟩) (n + 1) cap) wy := by
  have h20 := h.no20 (.inr (.inr hi))
  obtain ⟨a1, a2, a3, a4, a5, a6, b1, b2, b3, b4, b5⟩ := h
  have hml : M < wx.heap.size := (Array.getElem?_eq_some_iff.1 (b1 h20)).1
  refine ⟨a1.grown hg hO, hg.os.trans a2, hg.tape.trans a3, hg.output.trans a4, Nat.le_trans a5 hg.size, fun q hq h1 h2 => (hg.block q (by omega) h2).trans (a6 q hq h1 h2), ?_, ?_, ?_, ?_, ?_⟩
  · intro _
    exact (hg.block M hml hMv).trans (b1 h20)
  · rw [Done.ne (by decide), h20]; intro h; cases h
  · intro h; unfold Done at h; rw [if_pos rfl] at h; cases h
  · intro _
    obtain ⟨q, e, _⟩ := b4 h18
    refine ⟨q, e, fun h => ?_⟩
    unfold Done at h; rw [if_pos rfl] at h; cases h
  · intro _
    refine ⟨Done.le h18, g, cap, rfl, ho, ?_⟩
    rcases hat with h | h
    · exact .inl h
    · exact .inr (by omega)
theorem MS.put (h : MS W0 base O M n v0 xs l c k p vv hb L u38 u39 wx) (hO : O ≠ M) (h10 : L 10 = true) (h18 : L 18 = true) (h19 : L 19 = true) {wy : World} (hm : MapAt wy M mkS (putEnt k u39 c l) (putClock k l c)) (hg : wx.grownBy wy (some M)) (hu : u39.ownBlock ≠ some M) :
    MS W0 base O M n v0 xs l c k p vv hb (Done L 20) u38 u39 wy := by
  obtain ⟨a1, a2, a3, a4, a5, a6, b1, b2, b3, b4, b5⟩ := h
  refine ⟨a1.grown hg (by simpa using hO), hg.os.trans a2, hg.tape.trans a3, hg.output.trans a4, Nat.le_trans a5 hg.size, fun q hq h1 h2 => (hg.block q (by omega) (by simpa using h1)).trans (a6 q hq h1 h2), ?_, ?_, ?_, ?_, ?_⟩
  · intro h; unfold Done at h; rw [if_pos rfl] at h; cases h
  · intro _; exact ⟨⟨Done.le h10, Done.le h18, Done.le h19⟩, hm⟩
  · rw [Done.ne (by decide), h19]; intro h; cases h
  · intro _
    obtain ⟨q, e, _⟩ := b4 h18
    exact ⟨q, e, by rw [Done.ne (by decide), h19]; intro h; cases h⟩
  · intro _
    obtain ⟨_, g, cap, e, ho, hat⟩ := b5 h19
    exact ⟨Done.le h18, g, cap, e, ho.kept hg (.inr hu), hat⟩
theorem MS.start (h0 : Blk W0 O 58 #[.int .i64 p, .map (some M)]) (hm : MapAt W0 M mkS l c) (ho : W0.ownsRow base 61 3 v0 n xs) (u38 u39 : Value) : MS W0 base O M n v0 xs l c k p vv hb (fun _ => false) u38 u39 W0.drew := by
  refine ⟨h0, rfl, rfl, rfl, Nat.le_refl _, fun _ _ _ _ => rfl, fun _ => hm, ?_, fun _ => ho, ?_, ?_⟩
  · intro h; cases h
  · intro h; cases h
  · intro h; cases h
/-- the origin behind it -/
theorem MS.done (h : MS W0 base O M n v0 xs l c k p vv hb L u38 u39 wx) {T : List St} (hOb : base ≤ O) (hMb : base ≤ M) (hents : Ents W0 base M T l) (hmap : MapAt W0 M mkS l c) (hv : lookV k l = v0) (hn : n = (rowsOf k T).length) (hx : xs = (rowsOf k T).flatMap Rw.cells) (hp : p = (T.length : Int) + 1) (h19 : L 19 = true) (h20 : L 20 = true) : Org wx base O M (T ++ [⟨k, vv, hb⟩]) := by
  obtain ⟨_, g, cap, e, ho, hat⟩ := h.own1 h19
  have hlen : (T ++ [(⟨k, vv, hb⟩ : St)]).length = T.length + 1 := by simp
  refine ⟨hOb, hMb, ?_, _, _, (h.map1 h20).2, ?_⟩
  · rw [hlen]
    have := h.cO
    rw [hp] at this
    exact this
  · have hrk : rowsOf k (T ++ [⟨k, vv, hb⟩]) = rowsOf k T ++ [⟨T.length + 1, vv, hb⟩] := by rw [rowsOf_snoc, if_pos rfl]
    have hro : ∀ k', k' ≠ k → rowsOf k' (T ++ [⟨k, vv, hb⟩]) = rowsOf k' T := fun k' hk => by rw [rowsOf_snoc, if_neg (fun e => hk e.symm), List.append_nil]
    have hmem := mem_putEnt k u39 c l hents.nodup
    have hv0 : v0.ownBlock = none ∨ ∃ b, (k, v0, b) ∈ l := by
      unfold lookV at hv
      cases hp : posOf k l 0 with
      | none => rw [hp] at hv; rw [← hv]; exact .inl rfl
      | some q =>
        obtain ⟨j, v⟩ := q
        rw [hp] at hv
        simp only at hv
        subst hv
        obtain ⟨b, hb⟩ := posOf_mem k l 0 j v hp
        exact .inr ⟨b, hb⟩
    have hcellM : ∀ (v : Value) (m : Nat) (ys : List Value), W0.ownsRow base 61 3 v m ys → v.ownBlock ≠ some M := fun v m ys ho e => by
      rcases ho.2 with ⟨h1, _⟩ | ⟨g', cap', cur, h1, _, h3, _⟩
      · rw [h1] at e; cases e
      · rw [h1] at e
        have : g' = M := by injection e
        subst this
        unfold MapAt at hmap
        rw [hmap] at h3
        cases h3
    refine ⟨?_, ?_, ?_, ?_⟩
    · rw [keys_putEnt]
      split
      · exact hents.nodup
      · rename_i hk
        rw [List.nodup_append]
        exact ⟨hents.nodup, by simp, by simp only [List.mem_singleton]; rintro a ha b rfl e; exact hk (e ▸ ha)⟩
    · intro q hq
      rcases hmem q hq with ⟨h1, h2⟩ | ⟨h1, h2⟩
      · rw [h1, h2, hrk, List.length_append, List.length_singleton, List.flatMap_append, ← hn, ← hx]
        have : ([(⟨T.length + 1, vv, hb⟩ : Rw)] : List Rw).flatMap Rw.cells = [.int .i64 p, .string vv, .bool hb] := by
          rw [hp]; rfl
        rw [this]
        exact ho
      · rw [hro _ h2]
        have hq0 := hents.each q h1
        refine ⟨hq0.1, ?_⟩
        rcases hq0.2 with h3 | ⟨g', cap', cur, h3, h4, h5, h6⟩
        · exact .inl h3
        · refine .inr ⟨g', cap', cur, h3, h4, (h.keep g' (Array.getElem?_eq_some_iff.1 h5).1 (fun e' => ?_) (fun e' => ?_)).trans h5, h6⟩
          · exact hcellM _ _ _ hq0 (by rw [h3, e']; rfl)
          · rcases hv0 with h7 | ⟨b, h7⟩
            · rw [h7] at e'; cases e'
            · refine hents.apart q h1 _ h7 h2 ?_
              rw [h3]
              exact e'
    · intro k' hk'
      have hne : k' ≠ k := fun e => by
        have : k ∈ (putEnt k u39 c l).map (·.1) := by
          rw [keys_putEnt]
          split
          · assumption
          · simp
        obtain ⟨q, hq, he⟩ := List.mem_map.1 this
        exact hk' q hq (he.trans e.symm)
      rw [hro _ hne]
      refine hents.miss k' (fun q hq e => ?_)
      have : k' ∈ (putEnt k u39 c l).map (·.1) := by
        rw [keys_putEnt]
        have : k' ∈ l.map (·.1) := List.mem_map.2 ⟨q, hq, e⟩
        split
        · exact this
        · simp only [List.mem_append]; exact .inl this
      obtain ⟨q', hq', he⟩ := List.mem_map.1 this
      exact hk' q' hq' he
    · have key : ∀ q ∈ l, q.1 ≠ k → u39.ownBlock ≠ q.2.1.ownBlock := by
        intro q hq hk e'
        rw [e] at e'
        have e2 : q.2.1.ownBlock = some g := e'.symm
        rcases hat with h7 | h7
        · rcases hv0 with h8 | ⟨b, h8⟩
          · rw [h8] at h7; cases h7
          · exact hents.apart q hq _ h8 hk (e2.trans h7.symm)
        · have := ((hents.each q hq).lt g e2).2
          omega
      intro a ha b hb' hab
      rcases hmem a ha with ⟨h1, h2⟩ | ⟨h1, h2⟩ <;> rcases hmem b hb' with ⟨h3, h4⟩ | ⟨h3, h4⟩
      · exact absurd (h1.trans h3.symm) hab
      · rw [h2]; exact key b h3 h4
      · rw [h4]; exact Ne.symm (key a h1 h2)
      · exact hents.apart a h1 b h3 hab
end
end Go.Proofs.Ytmblkejgfoffaaa
