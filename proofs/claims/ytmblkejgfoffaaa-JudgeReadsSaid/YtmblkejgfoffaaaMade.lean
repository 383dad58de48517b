/- Made walked. Conditions: lengths. -/
import Derived.Test.YtmblkejgfoffaaaRef
import Derived.Deep.RegionHeld3
import Derived.IntWalk
namespace Go.Proofs.Ytmblkejgfoffaaa
open Go.RowKit
set_option maxHeartbeats 4000000 in
theorem made_any (w : World) (A : Option Addr) (n c : Nat) (L : List St) (hn : L.length = n) (hm : n ≤ 1000) (hs : Sl w A (L.flatMap St.cells)) :
    Calls Try.prog 13 #[.slice A n c] w fun e w' => ∃ O M, e = .returned (.pointer (some ⟨O, 0, none⟩)) ∧ Org w' w.heap.size O M (L.map norm) ∧ Below w.heap.size w w' := by
  subst hn
  have HS := Lib.hid hs
  clear hs
  go_enter Try.func13, Try.ntmps13
  go_wp2_with fail
  refine (new_any w).mono ?_
  rintro e w1 ⟨O, M, rfl, ho, hb⟩
  have HO := Lib.hid ho
  have HB := Lib.hid hb
  clear ho hb
  go_wp2
  go_loopw [4] (fun i wr => ∃ k : Nat, k ≤ L.length ∧ i = .int .i64 k ∧ Org wr w.heap.size O M ((L.take k).map norm) ∧ Below w.heap.size w wr) (fun i _ => L.length - (intOf i).toNat)
  case atStart => exact ⟨0, Nat.zero_le _, rfl, HO.out, HB.out⟩
  case round =>
    obtain ⟨k, hk, rfl, ho, hb⟩ := hrel
    have HOk := Lib.hid ho
    have HBk := Lib.hid hb
    clear ho hb
    by_cases hlt : k < L.length
    · obtain ⟨b, off, rfl, hcs⟩ := HS.out.flat (C := 3) (fun _ => rfl) (by decide) k hlt
      have g0 : w.cell? ⟨b, off + k * 3, none⟩ = some (.string L[k].key) := hcs 0 _ rfl
      have hbl : b < w.heap.size := World.block_lt_of_cell? w _ g0
      have e0 : wr.cell? ⟨b, off + k * 3, none⟩ = some (.string L[k].key) := (HBk.out.cell (p := ⟨b, off + k * 3, none⟩) hbl).trans g0
      have e1 : wr.cell? ⟨b, off + k * 3 + 1, none⟩ = some (.string L[k].val) := (HBk.out.cell (p := ⟨b, off + k * 3 + 1, none⟩) hbl).trans (hcs 1 _ rfl)
      have e2 : wr.cell? ⟨b, off + k * 3 + 2, none⟩ = some (.bool L[k].has) := (HBk.out.cell (p := ⟨b, off + k * 3 + 2, none⟩) hbl).trans (hcs 2 _ rfl)
      have HTK : Hid ((L.take k).map norm ++ [norm ⟨L[k].key, L[k].val, L[k].has⟩] = (L.take (k + 1)).map norm) := Lib.hid (by
        rw [List.take_succ_eq_append_getElem hlt, List.map_append]; rfl)
      have HLN : Hid (((L.take k).map norm).length = k) := Lib.hid (by rw [List.length_map, List.length_take]; omega)
      clear hcs g0
      generalize L[k].key = rk at *
      generalize L[k].val = rv at *
      generalize L[k].has = rh at *
      have k1 : (0 : Int) ≤ (k : Int) := by omega
      have k2 : (k : Int) < (L.length : Int) := by omega
      have HSET : Hid (∀ q, Calls Try.prog 20 #[.pointer (some ⟨O, 0, none⟩), .string rk, .string rv, .bool rh] (wr.drewN q) fun e w' => e = .returned (.int .i64 ((k : Int) + 1)) ∧ Org w' w.heap.size O M ((L.take (k + 1)).map norm) ∧ Below w.heap.size w w' ∧ Below w.heap.size wr w') := Lib.hid (fun q => by
        have h := set_any (wr.drewN q) w.heap.size O M ((L.take k).map norm) ⟨HOk.out.hO, HOk.out.hM, HOk.out.blk, by
          obtain ⟨l, c, h4, h5⟩ := HOk.out.ex
          exact ⟨l, c, h4, h5.nodup, h5.each, h5.miss, h5.apart⟩⟩ (by rw [HLN.out]; omega) rk rv rh
        rw [HTK.out, HLN.out] at h
        exact h.mono fun e w' ⟨h1, h2, h3⟩ => ⟨h1, h2, HBk.out.trans ⟨h3.os, h3.tape, h3.output, h3.size, h3.block⟩, ⟨h3.os, h3.tape, h3.output, h3.size, h3.block⟩⟩)
      have hwr : IntKind.i64.wrap ((k : Int) + 1) = (k : Int) + 1 := IntWalk.i64_in _ (by omega)
      go_wp2
      go_region_held3 (fun w' => w'.cell? ⟨b, off + k * 3, none⟩ = some (.string rk) ∧ w'.cell? ⟨b, off + k * 3 + 1, none⟩ = some (.string rv) ∧ w'.cell? ⟨b, off + k * 3 + 2, none⟩ = some (.bool rh)) (first
        | go_keep
        | exact ⟨(hb5.cell (p := ⟨b, off + k * 3, none⟩) hbl).trans e0, (hb5.cell (p := ⟨b, off + k * 3 + 1, none⟩) hbl).trans e1, (hb5.cell (p := ⟨b, off + k * 3 + 2, none⟩) hbl).trans e2⟩) (first
        | (go_at_call 20; refine (HSET.out _).mono ?_; rintro e w5 ⟨rfl, ho5, hw5, hb5⟩))
      have HO5 := Lib.hid ho5
      have HW5 := Lib.hid hw5
      clear ho5 hw5 hb5 hwr
      go_wp2
      go_roundw
      case rel => exact ⟨k + 1, by omega, by go_num, HO5.out, HW5.out⟩
      case measure => simp [intOf]; omega
    · obtain rfl : k = L.length := by omega
      have HE : Hid (Org wr w.heap.size O M (L.map norm)) := Lib.hid (by have := HOk.out; rw [List.take_length] at this; exact this)
      go_wp2
      go_ret
      exact ⟨O, M, rfl, HE.out, HBk.out⟩
end Go.Proofs.Ytmblkejgfoffaaa
