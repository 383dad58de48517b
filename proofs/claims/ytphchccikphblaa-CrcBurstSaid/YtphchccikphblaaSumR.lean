/- Walks of the sum: the reference's, and the helper that shortens. Conditions: lengths within an int. -/
import Derived.Test.YtphchccikphblaaSum
namespace Go.Proofs.Ytphchccikphblaa
open Go.RowKit
theorem stpR1 (z : Nat) (hz : z < 4294967296) (h : z % 2 = 1) : bits .xor .u32 ((z : Int) / 2) 3988292384 = (Plain.stp z : Int) := by
  rw [half]
  have := u32_xor_nat (z / 2) 3988292384 (by omega) (by decide)
  unfold Plain.stp
  rw [if_pos h]
  exact this
theorem stpR0 (z : Nat) (h : ¬ z % 2 = 1) : ((z : Int) / 2) = (Plain.stp z : Int) := by
  unfold Plain.stp
  rw [if_neg h, Nat.xor_zero, half]
set_option maxHeartbeats 2000000 in
theorem sumR_any (p : Part) (w : World) (hp : p.ok w) :
    Calls Try.prog 15 #[p.val] w fun e w' => e = .returned (.int .u32 (Plain.crc p.l)) ∧ w = w' := by
  obtain ⟨A, cap, l⟩ := p
  obtain ⟨hr, hm, hz⟩ := hp
  unfold Part.val
  dsimp only at hr hm hz ⊢
  go_enter Try.func15, Try.ntmps15
  go_wp2
  go_loop [3, 4] (fun h i => ∃ j : Nat, j ≤ l.length ∧ i = .int .i64 j ∧ h = .int .u32 (Plain.run 4294967295 (l.take j))) (fun _ i => l.length - (intOf i).toNat)
  case atStart => exact ⟨0, Nat.zero_le _, rfl, by unfold Plain.run; rfl⟩
  case round =>
    obtain ⟨j, hj, rfl, rfl⟩ := hrel
    by_cases hjl : j < l.length
    · obtain ⟨b2, off2, rfl, hc2⟩ := hr.at_ j (by unfold bv; rw [List.length_map]; exact hjl)
      unfold bv at hc2
      rw [List.getElem_map] at hc2
      have hx := hz _ (List.getElem_mem hjl)
      have HT := Lib.hid (run_take_succ 4294967295 l j hjl)
      have hY : Plain.run 4294967295 (l.take j) < 4294967296 := Plain.run_lt _ _ init_lt (fun c hc => hz c (List.mem_of_mem_take hc))
      generalize l[j] = y at hc2 hx HT
      generalize Plain.run 4294967295 (l.take j) = Y at hY HT
      have hxor := u32_xor_nat Y y hY (by omega)
      have hYy : Y ^^^ y < 4294967296 := Nat.xor_lt_two_pow (n := 32) hY (by omega)
      go_wp2_with fail
      clear hxor
      go_loop [3, 5] (fun h i => ∃ i' : Nat, i' ≤ 8 ∧ i = .int .i64 i' ∧ h = .int .u32 (Plain.it i' (Y ^^^ y))) (fun _ i => 8 - (intOf i).toNat)
      case atStart => exact ⟨0, Nat.zero_le _, rfl, by unfold Plain.it; rfl⟩
      case round =>
        obtain ⟨i', hi', rfl, rfl⟩ := hrel
        by_cases hil : i' < 8
        · have hil' : (i' : Int) < 8 := by omega
          have hZ : Plain.it i' (Y ^^^ y) < 4294967296 := Plain.it_lt _ _ hYy
          have HS := Lib.hid (it_succ i' (Y ^^^ y))
          generalize Plain.it i' (Y ^^^ y) = z at hZ HS
          by_cases hp : z % 2 = 1
          · have HP := Lib.hid (stpR1 z hZ hp)
            have hp' : (z : Int) % 2 = 1 := by omega
            clear hp
            go_wp2
            exact ⟨⟨i' + 1, by omega, by go_num, by rw [HS.out, HP.out]⟩, by simp [intOf]; omega⟩
          · have HP := Lib.hid (stpR0 z hp)
            have hp' : (z : Int) % 2 = 0 := by omega
            clear hp
            go_wp2
            exact ⟨⟨i' + 1, by omega, by go_num, by rw [HS.out, HP.out]⟩, by simp [intOf]; omega⟩
        · have hil' : ¬ (i' : Int) < 8 := by omega
          have HE : Hid (Plain.it i' (Y ^^^ y) = Plain.byt Y y) := by
            have : i' = 8 := by omega
            subst this
            exact Lib.hid (byt_eq Y y)
          go_wp2
          exact ⟨⟨j + 1, by omega, by go_num, by rw [HT.out, HE.out]⟩, by simp [intOf]; omega⟩
    · have HE : Hid (l.take j = l) := Lib.hid (by rw [List.take_of_length_le (by omega)])
      have HF := Lib.hid (crc_spell l hz)
      go_wp2
      go_ret
      exact ⟨ret_u32 (by rw [HE.out, HF.out]), rfl⟩
theorem Sl.take_bv {w : World} {A : Option Addr} {l : List Nat} (h : Sl w A (bv l)) (n : Nat) : Sl w A (bv (l.take n)) := by
  intro hne
  have h0 : bv l ≠ [] := by
    intro e
    apply hne
    unfold bv at e ⊢
    rw [List.map_eq_nil_iff] at e
    rw [e]; simp
  obtain ⟨b, off, rfl, hc⟩ := h h0
  refine ⟨b, off, rfl, fun j u hu => hc j u ?_⟩
  unfold bv at hu ⊢
  rw [List.getElem?_map, List.getElem?_take] at hu
  split at hu
  · rw [List.getElem?_map]; exact hu
  · simp at hu
/-- a part's first bytes -/
def Part.cut (p : Part) (n : Nat) : Part := ⟨p.A, p.cap, p.l.take n⟩
theorem Part.ok.cut {w : World} {p : Part} (h : p.ok w) (n : Nat) : (p.cut n).ok w :=
  ⟨Sl.take_bv h.1 n, by unfold Part.cut; rw [List.length_take]; have := h.2.1; omega, fun x hx => h.2.2 x (List.mem_of_mem_take hx)⟩
theorem Part.ok.keep {w w' : World} {p : Part} (h : p.ok w) (hb : Below w.heap.size w w') : p.ok w' := ⟨h.1.keep hb, h.2⟩
set_option maxHeartbeats 400000 in
theorem short_any (p : Part) (n : Nat) (hn : n ≤ 1000) (w : World) (hp : p.l.length ≤ 9223372036854775807) (hc : p.l.length ≤ p.cap) :
    Calls Try.prog 13 #[p.val, .int .i64 n] w fun e w' => e = .returned (p.cut n).val ∧ w = w' := by
  obtain ⟨A, cap, l⟩ := p
  unfold Part.cut Part.val
  dsimp only at hp hc ⊢
  by_cases h : n < l.length
  · have H : Hid ((l.take n).length = n) := Lib.hid (by rw [List.length_take, Nat.min_eq_left (by omega)])
    go_enter Try.func13, Try.ntmps13
    go_wp2
    go_ret
    rw [H.out]
    exact ⟨rfl, rfl⟩
  · have H : Hid (l.take n = l) := Lib.hid (by rw [List.take_of_length_le (by omega)])
    go_enter Try.func13, Try.ntmps13
    go_wp2
    go_ret
    rw [H.out]
    exact ⟨rfl, rfl⟩
end Go.Proofs.Ytphchccikphblaa
