/- The origin in memory; New, Now, At, Get walked. Conditions: lengths. -/
import Derived.Test.YtmblkejgfoffaaaProg
import Derived.Test.YtmblkejgfoffaaaWords
import Derived.Test.YtmblkejgfoffaaaPlain
namespace Go.Proofs.Ytmblkejgfoffaaa
open Go.RowKit
def mkS (s : ByteArray) : Value := .string s
theorem keysS : Keys Try.prog 9 mkS .string where
  desc := Try.underlying9
  same := fun a b => by
    show some (a == b) = some (decide (a = b))
    rw [bbeq]
  check := fun empty a w => Go.MapKept.run_checkKey Try.underlying9 (show MapKept.IsKey .string (.string a) from trivial) empty 9999
  bits := fun a => by
    unfold mkS
    unfold Instr.sameBits
    show (a == a) = true
    rw [bbeq]
    simp
def Rw.cells (r : Rw) : List Value := [.int .i64 (r.pos : Int), .string r.val, .bool r.has]
/-- what the map holds -/
structure Ents (w : World) (base M : Nat) (L : List St) (l : List (Ent ByteArray)) : Prop where
  nodup : (l.map (·.1)).Nodup
  each : ∀ p ∈ l, w.ownsRow base 61 3 p.2.1 (rowsOf p.1 L).length ((rowsOf p.1 L).flatMap Rw.cells)
  miss : ∀ k, (∀ p ∈ l, p.1 ≠ k) → rowsOf k L = []
  apart : ∀ p ∈ l, ∀ q ∈ l, p.1 ≠ q.1 → p.2.1.ownBlock ≠ q.2.1.ownBlock
structure Org (w : World) (base O M : Nat) (L : List St) : Prop where
  hO : base ≤ O
  hM : base ≤ M
  blk : Blk w O 58 #[.int .i64 (L.length : Int), .map (some M)]
  ex : ∃ l c, MapAt w M mkS l c ∧ Ents w base M L l
theorem posOf_mem {κ : Type} [DecidableEq κ] (k : κ) : ∀ (l : List (Ent κ)) (i j : Nat) (v : Value), posOf k l i = some (j, v) → ∃ c, (k, v, c) ∈ l := by
  intro l
  induction l with
  | nil => intro i j v h; simp [posOf] at h
  | cons p l ih =>
    intro i j v h
    unfold posOf at h
    by_cases hk : k = p.1
    · rw [if_pos hk] at h
      simp only [Option.some.injEq, Prod.mk.injEq] at h
      obtain ⟨a, b, c⟩ := p
      simp at hk h
      exact ⟨c, by rw [hk, h.2]; simp⟩
    · rw [if_neg hk] at h
      obtain ⟨c, hc⟩ := ih _ _ _ h
      exact ⟨c, by simp [hc]⟩
theorem own_rw {w : World} {base : Nat} {v : Value} {rs : List Rw} (h : w.ownsRow base 61 3 v rs.length (rs.flatMap Rw.cells)) :
    ∃ A c, v = .slice A rs.length c ∧ rs.length ≤ c ∧ c ≤ maxLen ∧ Sl w A (rs.flatMap Rw.cells) ∧ (∀ a, A = some a → base ≤ a.block ∧ a.block < w.heap.size) := own_flat (C := 3) h
/-- a lookup gives the key's row -/
theorem Org.look {w : World} {base O M : Nat} {L : List St} (h : Org w base O M L) (k : ByteArray) (hz : (zeroValue 59).run Try.prog w = .ok (.slice none 0 0) w) :
    ∃ A c, (Instr.lookup 56 (.map (some M)) (.string k) false).run Try.prog w = .ok (.slice A (rowsOf k L).length c) w ∧ (rowsOf k L).length ≤ c ∧ Sl w A ((rowsOf k L).flatMap Rw.cells) := by
  obtain ⟨l, c, hm, he⟩ := h.ex
  have hr := run_lookup_at (P := Try.prog) keysS Try.underlying56 hm k (.slice none 0 0) hz false
  cases hp : posOf k l 0 with
  | none =>
    have hmiss := he.miss k (fun p hp' e => ((posOf_none k l 0).1 hp p hp') e.symm)
    rw [hp] at hr
    rw [hmiss]
    exact ⟨none, 0, hr, Nat.le_refl _, Sl.nil⟩
  | some q =>
    obtain ⟨j, v⟩ := q
    obtain ⟨b, hb⟩ := posOf_mem k l 0 j v hp
    have ho : w.ownsRow base 61 3 v (rowsOf k L).length ((rowsOf k L).flatMap Rw.cells) := he.each _ hb
    obtain ⟨A, c', rfl, h1, _, h2, _⟩ := own_rw ho
    rw [hp] at hr
    exact ⟨A, c', hr, h1, h2⟩
theorem zero59 (w : World) : (zeroValue 59).run Try.prog w = .ok (.slice none 0 0) w := by kernel_rfl
set_option maxHeartbeats 1000000 in
theorem new_any (w : World) : Calls Try.prog 26 #[] w fun e w' => ∃ O M, e = .returned (.pointer (some ⟨O, 0, none⟩)) ∧ Org w' w.heap.size O M [] ∧ Below w.heap.size w w' := by
  have hmm := @run_makeMap Try.prog
  go_enter Try.func26, Try.ntmps26
  go_wp2
  go_ret
  refine ⟨w.heap.size + 1, w.heap.size, rfl, ?_, ((Below.refl _ _).alloc (Nat.le_refl _) _).alloc (by simp) _⟩
  refine ⟨by omega, Nat.le_refl _, ?_, [], 0, ?_, ⟨by simp, (by intro p h; cases h), fun _ _ => rfl, (by intro p h; cases h)⟩⟩
  · have h := Blk.new (w.alloc (.map #[] 0)) 58 #[.int .i64 0, .map (some w.heap.size)]
    rw [World.size_alloc] at h
    exact h
  · unfold MapAt
    rw [Below.heap_alloc _ _ _ (by simp)]
    exact heap_alloc_new w _
theorem now_any (w : World) (base O M : Nat) (L : List St) (h : Org w base O M L) :
    Calls Try.prog 14 #[.pointer (some ⟨O, 0, none⟩)] w fun e w' => e = .returned (.int .i64 (L.length : Int)) ∧ w = w' := by
  have c0 : w.cell? ⟨O, 0, none⟩ = some (.int .i64 (L.length : Int)) := h.blk.cell 0
  clear h
  go_enter Try.func14, Try.ntmps14
  go_wp2
  go_ret
  exact ⟨rfl, rfl⟩
/-- what At says -/
def atF (L : List St) (pos : Int) (k : ByteArray) : ByteArray × Bool := if pos < 0 ∨ (L.length : Int) < pos then (ByteArray.empty, false) else atS L pos.toNat k
set_option maxHeartbeats 2000000 in
theorem at_any (w : World) (base O M : Nat) (L : List St) (h : Org w base O M L) (hl : L.length < 1099511627776) (pos : Int) (k : ByteArray) :
    Calls Try.prog 15 #[.pointer (some ⟨O, 0, none⟩), .int .i64 pos, .string k] w fun e w' => e = .returned (.tuple #[.string (atF L pos k).1, .bool (atF L pos k).2]) ∧ ∃ n, w' = w.drewN n := by
  have c0 : w.cell? ⟨O, 0, none⟩ = some (.int .i64 (L.length : Int)) := h.blk.cell 0
  have c1 : w.cell? ⟨O, 1, none⟩ = some (.map (some M)) := h.blk.cell 1
  by_cases h1 : pos < 0
  · have HF : Hid (atF L pos k = (ByteArray.empty, false)) := Lib.hid (by unfold atF; rw [if_pos (.inl h1)])
    clear h
    go_enter Try.func15, Try.ntmps15
    go_wp2
    go_ret2
    exact ⟨by rw [HF.out]; rfl, 0, rfl⟩
  · by_cases h2 : (L.length : Int) < pos
    · have HF : Hid (atF L pos k = (ByteArray.empty, false)) := Lib.hid (by unfold atF; rw [if_pos (.inr h2)])
      clear h
      go_enter Try.func15, Try.ntmps15
      go_wp2
      go_ret2
      exact ⟨by rw [HF.out]; rfl, 0, rfl⟩
    · obtain ⟨p, rfl⟩ : ∃ p : Nat, pos = p := ⟨pos.toNat, by omega⟩
      have HF : Hid (atF L (p : Int) k = lastLe p (rowsOf k L)) := Lib.hid (by unfold atF; rw [if_neg (by omega), lastLe_at]; rfl)
      obtain ⟨A, c, hrun, hc, hs⟩ := h.look k (zero59 w)
      have HP := Lib.hid (rowsOf_pos k L)
      have hle := rowsOf_le k L
      generalize rowsOf k L = rs at *
      have HS := Lib.hid hs
      clear h hs
      have hn : (0 : Int) ≤ (rs.length : Int) := by omega
      go_enter Try.func15, Try.ntmps15
      go_wp2
      clear hrun
      go_loop [9] (fun i => ∃ m : Nat, m ≤ rs.length ∧ i = .int .i64 ((m : Int) - 1) ∧ lastLe p rs = lastLe p (rs.take m)) (fun i => (intOf i + 1).toNat)
      case atStart => exact ⟨rs.length, Nat.le_refl _, rfl, by rw [List.take_length]⟩
      case round =>
        obtain ⟨m, hm, rfl, hlast⟩ := hrel
        have HL := Lib.hid hlast
        clear hlast
        cases m with
        | zero =>
          have HZ : Hid (lastLe p rs = (ByteArray.empty, false)) := Lib.hid (by rw [HL.out, List.take_zero]; rfl)
          rw [show (((0 : Nat) : Int) - 1) = -1 from rfl]
          go_wp2
          go_ret2
          exact ⟨by rw [HF.out, HZ.out]; rfl, 0, rfl⟩
        | succ m =>
          have hm' : m < rs.length := by omega
          obtain ⟨b, off, rfl, hcs⟩ := HS.out.flat (C := 3) (fun _ => rfl) (by decide) m hm'
          have HT := Lib.hid (lastLe_snoc p (rs.take m) rs[m])
          rw [← List.take_succ_eq_append_getElem hm'] at HT
          have hc0' : w.cell? ⟨b, off + m * 3, none⟩ = some (.int .i64 (rs[m].pos : Int)) := hcs 0 _ rfl
          have hc1' : w.cell? ⟨b, off + m * 3 + 1, none⟩ = some (.string rs[m].val) := hcs 1 _ rfl
          have hc2' : w.cell? ⟨b, off + m * 3 + 2, none⟩ = some (.bool rs[m].has) := hcs 2 _ rfl
          generalize rs[m] = r at *
          obtain ⟨rp, rv, rh⟩ := r
          simp only at hc0' hc1' hc2'
          clear hcs
          rw [show (((m + 1 : Nat) : Int) - 1) = (m : Int) from by omega]
          have k1 : (0 : Int) ≤ (m : Int) := by omega
          have k2 : (m : Int) < (rs.length : Int) := by omega
          by_cases hle2 : rp ≤ p
          · have HE : Hid (lastLe p rs = (rv, rh)) := Lib.hid (by rw [HL.out, HT.out, if_pos hle2])
            go_wp2
            go_quiet (fail)
            go_wp2
            go_ret2
            exact ⟨by rw [HF.out, HE.out]; rfl, _, rfl⟩
          · have HE : Hid (lastLe p rs = lastLe p (rs.take m)) := Lib.hid (by rw [HL.out, HT.out, if_neg hle2])
            go_wp2
            exact ⟨⟨m, by omega, by go_num, HE.out⟩, by simp [intOf]⟩
end Go.Proofs.Ytmblkejgfoffaaa
