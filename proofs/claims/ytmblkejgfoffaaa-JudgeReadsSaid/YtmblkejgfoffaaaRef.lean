/- The reference's At; the text's Cut; Get. Conditions: lengths. -/
import Derived.Test.YtmblkejgfoffaaaSet
namespace Go.Proofs.Ytmblkejgfoffaaa
open Go.RowKit
def St.cells (s : St) : List Value := [.string s.key, .string s.val, .bool s.has]
/-- a text, cut -/
def cutS (s : ByteArray) (n : Nat) : ByteArray := if n < s.size then s.extract 0 n else s
theorem cutS_size (s : ByteArray) (n : Nat) : (cutS s n).size ≤ n := by
  unfold cutS; split
  · simp; omega
  · omega
set_option maxHeartbeats 400000 in
theorem cut_any (s : ByteArray) (n : Nat) (hn : n ≤ 1000) (w : World) (_hs : s.size ≤ 9223372036854775807) : Calls Try.prog 12 #[.string s, .int .i64 n] w fun e w' => e = .returned (.string (cutS s n)) ∧ w = w' := by
  by_cases h : n < s.size
  · have H : Hid (cutS s n = s.extract 0 n) := Lib.hid (by unfold cutS; rw [if_pos h])
    go_enter Try.func12, Try.ntmps12
    go_wp2
    go_ret
    rw [H.out]
    exact ⟨rfl, rfl⟩
  · have H : Hid (cutS s n = s) := Lib.hid (by unfold cutS; rw [if_neg h])
    go_enter Try.func12, Try.ntmps12
    go_wp2
    go_ret
    rw [H.out]
    exact ⟨rfl, rfl⟩
theorem get_any (w : World) (base O M : Nat) (L : List St) (h : Org w base O M L) (hl : L.length < 1099511627776) (k : ByteArray) :
    Calls Try.prog 17 #[.pointer (some ⟨O, 0, none⟩), .string k] w fun e w' => e = .returned (.tuple #[.string (atS L L.length k).1, .bool (atS L L.length k).2]) ∧ ∃ n, w' = w.drewN n := by
  have HA : Hid (atF L (L.length : Int) k = atS L L.length k) := Lib.hid (by unfold atF; rw [if_neg (by omega)]; rfl)
  go_enter Try.func17, Try.ntmps17
  go_wp2_with fail
  refine (now_any w base O M L h).mono ?_
  rintro e w1 ⟨rfl, rfl⟩
  go_wp2_with fail
  refine (at_any w base O M L h hl (L.length : Int) k).mono ?_
  rw [HA.out]
  rintro e w2 ⟨rfl, n, rfl⟩
  go_wp2
  go_ret2
  exact ⟨rfl, _, rfl⟩
set_option maxHeartbeats 2000000 in
theorem rat_any (w : World) (A : Option Addr) (n c : Nat) (L : List St) (hn : L.length = n) (hm : n ≤ 9223372036854775807) (hs : Sl w A (L.flatMap St.cells)) (pos : Int) (k : ByteArray) :
    Calls Try.prog 16 #[.slice A n c, .int .i64 pos, .string k] w fun e w' => e = .returned (.tuple #[.string (atF L pos k).1, .bool (atF L pos k).2]) ∧ ∃ q, w' = w.drewN q := by
  subst hn
  by_cases h1 : pos < 0
  · have HF : Hid (atF L pos k = (ByteArray.empty, false)) := Lib.hid (by unfold atF; rw [if_pos (.inl h1)])
    go_enter Try.func16, Try.ntmps16
    go_wp2
    go_ret2
    exact ⟨by rw [HF.out]; rfl, 0, rfl⟩
  · by_cases h2 : (L.length : Int) < pos
    · have HF : Hid (atF L pos k = (ByteArray.empty, false)) := Lib.hid (by unfold atF; rw [if_pos (.inr h2)])
      go_enter Try.func16, Try.ntmps16
      go_wp2
      go_ret2
      exact ⟨by rw [HF.out]; rfl, 0, rfl⟩
    · obtain ⟨p, rfl⟩ : ∃ p : Nat, pos = p := ⟨pos.toNat, by omega⟩
      have HF : Hid (atF L (p : Int) k = atS L p k) := Lib.hid (by unfold atF; rw [if_neg (by omega)]; rfl)
      have HS := Lib.hid hs
      clear hs
      have hp : p ≤ L.length := by omega
      have hn : (0 : Int) ≤ (L.length : Int) := by omega
      go_enter Try.func16, Try.ntmps16
      go_wp2
      go_loop [8] (fun i => ∃ m : Nat, m ≤ p ∧ i = .int .i64 ((m : Int) - 1) ∧ atS L p k = atS L m k) (fun i => (intOf i + 1).toNat)
      case atStart => exact ⟨p, Nat.le_refl _, rfl, rfl⟩
      case round =>
        obtain ⟨m, hmp, rfl, hlast⟩ := hrel
        have HL := Lib.hid hlast
        clear hlast
        cases m with
        | zero =>
          have HZ : Hid (atS L p k = (ByteArray.empty, false)) := Lib.hid (by rw [HL.out]; rfl)
          rw [show (((0 : Nat) : Int) - 1) = -1 from rfl]
          go_wp2
          go_ret2
          exact ⟨by rw [HF.out, HZ.out]; rfl, 0, rfl⟩
        | succ m =>
          have hm' : m < L.length := by omega
          obtain ⟨b, off, rfl, hcs⟩ := HS.out.flat (C := 3) (fun _ => rfl) (by decide) m hm'
          have HT : Hid (atS L (m + 1) k = if L[m].key = k then (L[m].val, L[m].has) else atS L m k) := Lib.hid (by
            conv => lhs; unfold atS
            rw [List.getElem?_eq_getElem hm'])
          have hc0' : w.cell? ⟨b, off + m * 3, none⟩ = some (.string L[m].key) := hcs 0 _ rfl
          have hc1' : w.cell? ⟨b, off + m * 3 + 1, none⟩ = some (.string L[m].val) := hcs 1 _ rfl
          have hc2' : w.cell? ⟨b, off + m * 3 + 2, none⟩ = some (.bool L[m].has) := hcs 2 _ rfl
          generalize L[m] = r at *
          obtain ⟨rk, rv, rh⟩ := r
          simp only at hc0' hc1' hc2'
          clear hcs
          rw [show (((m + 1 : Nat) : Int) - 1) = (m : Int) from by omega]
          have k1 : (0 : Int) ≤ (m : Int) := by omega
          have k2 : (m : Int) < (L.length : Int) := by omega
          by_cases hle2 : rk = k
          · have HE : Hid (atS L p k = (rv, rh)) := Lib.hid (by rw [HL.out, HT.out, if_pos hle2])
            have he : (rk.toList == k.toList) = true := by rw [hle2]; exact beq_self_eq_true _
            clear hle2
            go_wp2
            go_quiet (fail)
            go_wp2
            go_ret2
            exact ⟨by rw [HF.out, HE.out]; rfl, _, rfl⟩
          · have HE : Hid (atS L p k = atS L m k) := Lib.hid (by rw [HL.out, HT.out, if_neg hle2])
            have he : (rk.toList == k.toList) = false := by rw [beq_eq_false_iff_ne]; exact fun e => hle2 (toList_inj e)
            clear hle2
            go_wp2
            exact ⟨⟨m, by omega, by go_num, HE.out⟩, by simp [intOf]⟩
end Go.Proofs.Ytmblkejgfoffaaa
