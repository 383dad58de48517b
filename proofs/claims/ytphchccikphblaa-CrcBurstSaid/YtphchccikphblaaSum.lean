/- Walks of the sum: the program's. Conditions: lengths within an int. -/
import Derived.Test.YtphchccikphblaaProg
import Derived.Test.YtphchccikphblaaPlain
import Derived.Test.YtphchccikphblaaOpen
import Derived.Lib.Hide
namespace Go.Proofs.Ytphchccikphblaa
open Go.RowKit
/-- bytes of a slice, as numbers -/
def bv (l : List Nat) : List Value := l.map fun (c : Nat) => .int .u8 (c : Int)
/-- a slice of bytes -/
structure Part where
  A : Option Addr
  cap : Nat
  l : List Nat
def Part.val (p : Part) : Value := .slice p.A p.l.length p.cap
def Part.ok (w : World) (p : Part) : Prop := Sl w p.A (bv p.l) ∧ p.l.length ≤ 9223372036854775807 ∧ ∀ c ∈ p.l, c < 256
theorem ret_u32 {a b : Int} (h : a = b) : Ending.returned (.int .u32 a) = .returned (.int .u32 b) := by rw [h]
def flat (ps : List Part) (k : Nat) : List Nat := (ps.take k).flatMap Part.l
theorem flat_succ (ps : List Part) (k : Nat) (h : k < ps.length) : flat ps (k + 1) = flat ps k ++ ps[k].l := by
  unfold flat
  rw [List.take_succ_eq_append_getElem h, List.flatMap_append]; simp
theorem flat_lt {w : World} (ps : List Part) (k : Nat) (hz : ∀ p ∈ ps, p.ok w) : ∀ c ∈ flat ps k, c < 256 := by
  intro c hc
  unfold flat at hc
  obtain ⟨p, hp, hcp⟩ := List.mem_flatMap.1 hc
  exact (hz p (List.mem_of_mem_take hp)).2.2 c hcp
theorem init_lt : (4294967295 : Nat) < 4294967296 := by decide
theorem and_poly1 : bits .and .u32 3988292384 4294967295 = (3988292384 : Nat) := u32_and_nat 3988292384 4294967295 (by decide) (by decide)
theorem and_poly0 : bits .and .u32 3988292384 0 = (0 : Nat) := u32_and_nat 3988292384 0 (by decide) (by decide)
theorem half (z : Nat) : ((z : Int) / 2) = ((z / 2 : Nat) : Int) := by omega
theorem stp1 (z : Nat) (hz : z < 4294967296) (h : z % 2 = 1) : bits .xor .u32 ((z : Int) / 2) (bits .and .u32 3988292384 4294967295) = (Plain.stp z : Int) := by
  rw [and_poly1, half, u32_xor_nat _ _ (by omega) (by decide)]
  unfold Plain.stp
  rw [if_pos h]
theorem stp0 (z : Nat) (hz : z < 4294967296) (h : ¬ z % 2 = 1) : bits .xor .u32 ((z : Int) / 2) (bits .and .u32 3988292384 0) = (Plain.stp z : Int) := by
  rw [and_poly0, half, u32_xor_nat _ _ (by omega) (by decide)]
  unfold Plain.stp
  rw [if_neg h]
theorem it_succ (i z : Nat) : Plain.it (i + 1) z = Plain.stp (Plain.it i z) := by rw [Plain.it]
theorem and_one (z : Nat) (hz : z < 4294967296) : bits .and .u32 (z : Int) 1 = ((z % 2 : Nat) : Int) := by
  have := u32_and_nat z 1 hz (by decide)
  rwa [Nat.and_one_is_mod] at this
theorem byt_eq (Y y : Nat) : Plain.it 8 (Y ^^^ y) = Plain.byt Y y := by unfold Plain.byt; rfl
theorem run_take_succ (X : Nat) (l : List Nat) (j : Nat) (h : j < l.length) : Plain.run X (l.take (j + 1)) = Plain.byt (Plain.run X (l.take j)) l[j] := by
  rw [List.take_succ_eq_append_getElem h, Plain.run_snoc]
theorem crc_spell (l : List Nat) (hl : ∀ c ∈ l, c < 256) : bits .xor .u32 IntKind.u32.max (Plain.run 4294967295 l : Int) = (Plain.crc l : Int) := by
  have h := Plain.run_lt l 4294967295 init_lt hl
  unfold Plain.crc
  rw [Plain.compl_xor _ h, Nat.xor_comm]
  exact u32_xor_nat 4294967295 _ (by decide) h
set_option maxHeartbeats 2000000 in
theorem sum_any (A : Option Addr) (n c : Nat) (ps : List Part) (w : World) (hr : Sl w A (ps.map Part.val)) (hn : ps.length = n) (hm : n ≤ 9223372036854775807) (hz : ∀ p ∈ ps, p.ok w) :
    Calls Try.prog 14 #[.slice A n c] w fun e w' => e = .returned (.int .u32 (Plain.crc (ps.flatMap Part.l))) ∧ w = w' := by
  have HN := Lib.hid hn; clear hn
  go_enter Try.func14, Try.ntmps14
  go_wp2
  go_loop [3, 10] (fun h i => ∃ k : Nat, k ≤ n ∧ i = .int .i64 k ∧ h = .int .u32 (Plain.run 4294967295 (flat ps k))) (fun _ i => n - (intOf i).toNat)
  case atStart => exact ⟨0, Nat.zero_le _, rfl, by unfold flat Plain.run; rfl⟩
  case round =>
    obtain ⟨k, hk, rfl, rfl⟩ := hrel
    by_cases hlt : k < n
    · have hlt' : k < ps.length := by rw [HN.out]; exact hlt
      obtain ⟨b, off, rfl, hc⟩ := hr.at_ k (by rw [List.length_map]; exact hlt')
      rw [List.getElem_map] at hc
      have hs := hz _ (List.getElem_mem hlt')
      have hL : Plain.run 4294967295 (flat ps k) < 4294967296 := Plain.run_lt _ _ init_lt (flat_lt ps k hz)
      have HR := Lib.hid (Plain.run_append 4294967295 (flat ps k) ps[k].l)
      have HM := Lib.hid (flat_succ ps k hlt')
      rw [← flat_succ ps k hlt'] at HR
      generalize ps[k] = p at hc hs HM HR
      obtain ⟨pa, pcap, pl⟩ := p
      obtain ⟨h1, h2, h3⟩ := hs
      unfold Part.val at hc
      dsimp only at hc h1 h2 h3 HM HR
      generalize Plain.run 4294967295 (flat ps k) = X at hL HR
      go_wp2
      go_loop [3, 16] (fun h i => ∃ j : Nat, j ≤ pl.length ∧ i = .int .i64 j ∧ h = .int .u32 (Plain.run X (pl.take j))) (fun _ i => pl.length - (intOf i).toNat)
      case atStart => exact ⟨0, Nat.zero_le _, rfl, by unfold Plain.run; rfl⟩
      case round =>
        obtain ⟨j, hj, rfl, rfl⟩ := hrel
        by_cases hjl : j < pl.length
        · obtain ⟨b2, off2, rfl, hc2⟩ := h1.at_ j (by unfold bv; rw [List.length_map]; exact hjl)
          unfold bv at hc2
          rw [List.getElem_map] at hc2
          have hx := h3 _ (List.getElem_mem hjl)
          have HT := Lib.hid (run_take_succ X pl j hjl)
          have hY : Plain.run X (pl.take j) < 4294967296 := Plain.run_lt _ _ hL (fun c hc => h3 c (List.mem_of_mem_take hc))
          generalize pl[j] = y at hc2 hx HT
          generalize Plain.run X (pl.take j) = Y at hY HT
          have hxor := u32_xor_nat Y y hY (by omega)
          have hYy : Y ^^^ y < 4294967296 := Nat.xor_lt_two_pow (n := 32) hY (by omega)
          go_wp2_with fail
          clear hxor
          go_loop [3, 24] (fun h i => ∃ i' : Nat, i' ≤ 8 ∧ i = .int .i64 i' ∧ h = .int .u32 (Plain.it i' (Y ^^^ y))) (fun _ i => 8 - (intOf i).toNat)
          case atStart => exact ⟨0, Nat.zero_le _, rfl, by unfold Plain.it; rfl⟩
          case round =>
            obtain ⟨i', hi', rfl, rfl⟩ := hrel
            by_cases hil : i' < 8
            · have hil' : (i' : Int) < 8 := by omega
              have hZ : Plain.it i' (Y ^^^ y) < 4294967296 := Plain.it_lt _ _ hYy
              have HS := Lib.hid (it_succ i' (Y ^^^ y))
              generalize Plain.it i' (Y ^^^ y) = z at hZ HS
              by_cases hp : z % 2 = 1
              · have HP := Lib.hid (stp1 z hZ hp)
                have e1 : bits .and .u32 (z : Int) 1 = 1 := by rw [and_one z hZ, hp]; rfl
                clear hp
                go_wp2
                exact ⟨⟨i' + 1, by omega, by go_num, by rw [HS.out, HP.out]⟩, by simp [intOf]; omega⟩
              · have HP := Lib.hid (stp0 z hZ hp)
                have e1 : bits .and .u32 (z : Int) 1 = 0 := by rw [and_one z hZ]; omega
                clear hp
                go_wp2
                exact ⟨⟨i' + 1, by omega, by go_num, by rw [HS.out, HP.out]⟩, by simp [intOf]; omega⟩
            · have hil' : ¬ (i' : Int) < 8 := by omega
              have HE : Hid (Plain.it i' (Y ^^^ y) = Plain.byt Y y) := by
                have : i' = 8 := by omega
                subst this
                exact Lib.hid (byt_eq Y y)
              go_wp2
              exact ⟨⟨j + 1, by omega, by go_num, by rw [HT.out, HE.out]⟩, by simp [intOf]; omega⟩
        · have HE : Hid (Plain.run X (pl.take j) = Plain.run X pl) := Lib.hid (by rw [List.take_of_length_le (by omega)])
          go_wp2
          exact ⟨⟨k + 1, by omega, by go_num, by rw [HR.out, HE.out]⟩, by simp [intOf]; omega⟩
    · have HE : Hid (flat ps k = ps.flatMap Part.l) := Lib.hid (by unfold flat; rw [List.take_of_length_le (by rw [HN.out]; omega)])
      have HF := Lib.hid (crc_spell (flat ps k) (flat_lt ps k hz))
      go_wp2
      go_ret
      exact ⟨ret_u32 (by rw [HF.out, HE.out]), rfl⟩
end Go.Proofs.Ytphchccikphblaa
