/- The law MixOrder's walk. No condition. -/
import Derived.Test.YtphchccikphblaaTexts
import Derived.Test.YtphchccikphblaaMixBytes
namespace Go.Proofs.Ytphchccikphblaa
open Go.RowKit
theorem nb_append (s t : ByteArray) : nb (s ++ t) = nb s ++ nb t := by
  unfold nb
  rw [← List.map_append]
  congr 1
theorem nb_snoc (s : ByteArray) (a : Nat) (ha : a < 256) : nb (s ++ strOfNums [(a : Int)]) = nb s ++ [a] := by rw [nb_append, nb_one a ha]
theorem szs (s : ByteArray) (a : Nat) (hs : s.size ≤ 40) : (s ++ strOfNums [(a : Int)]).size ≤ 9223372036854775807 := by
  rw [ByteArray.size_append, strOfNums_size]; simp; omega
/-- what holds while the two hashes are reckoned, in whatever order -/
def GO (a b : Nat) (s0 s : ByteArray) (B : Nat) (w : World) (L : Nat → Bool) (a' : Act) (wx : World) : Prop :=
  ∃ u8 u9 u15 u16 u17 u18 u19 u20 u21 u22 u23 u24 u25 u26 u27 u28 : Value, a' = ⟨List.toArray (.string s :: .int .u8 a :: .int .u8 b :: undef :: undef :: undef :: .bool false :: .bool true :: u8 :: u9 :: .bool true :: .bool true :: .bool false :: .string s0 :: .string s :: u15 :: u16 :: u17 :: u18 :: u19 :: u20 :: u21 :: u22 :: u23 :: u24 :: u25 :: u26 :: u27 :: u28 :: undef :: undef :: undef :: undef :: undef :: undef :: undef :: []), []⟩ ∧ Below B w wx ∧ (L 0 = true → u15 = .string s) ∧ (L 1 = true → u16 = .int .u8 a) ∧ (L 2 = true → One wx u17 (.int .u8 a)) ∧ (L 3 = true → u18 = .string (strOfNums [(a : Int)])) ∧ (L 4 = true → u19 = .string (s ++ strOfNums [(a : Int)])) ∧ (L 5 = true → One wx u20 (.string (s ++ strOfNums [(a : Int)]))) ∧ (L 6 = true → u21 = .int .u64 (Plain.mix [nb s ++ [a]])) ∧ (L 7 = true → u22 = .string s) ∧ (L 8 = true → u23 = .int .u8 b) ∧ (L 9 = true → One wx u24 (.int .u8 b)) ∧ (L 10 = true → u25 = .string (strOfNums [(b : Int)])) ∧ (L 11 = true → u26 = .string (s ++ strOfNums [(b : Int)])) ∧ (L 12 = true → One wx u27 (.string (s ++ strOfNums [(b : Int)]))) ∧ (L 13 = true → u28 = .int .u64 (Plain.mix [nb s ++ [b]])) ∧ (L 14 = true → u8 = .int .u64 (Plain.mix [nb s ++ [a]])) ∧ (L 15 = true → u9 = .int .u64 (Plain.mix [nb s ++ [b]]))
set_option maxHeartbeats 4000000 in
theorem mixOrder (s0 : ByteArray) (hs0 : s0.size ≤ 9223372036854775807) (a b : Nat) (ha : a < 256) (hb : b < 256) (w : World) : Calls Try.prog 11 #[.string s0, .int .u8 a, .int .u8 b] w fun e w' => e = .returned (.bool true) ∧ Below w.heap.size w w' := by
  have hca := conv1 (a : Int)
  have hcb := conv1 (b : Int)
  go_enter Try.func11, Try.ntmps11
  go_wp2_with fail
  refine (begun1 _).mono ?_
  rintro e w1 ⟨rfl, hb1⟩
  go_wp2_with fail
  refine (cut_any s0 40 (by decide) _ hs0).mono ?_
  rintro e w1' ⟨rfl, rfl⟩
  have hs := cutS_size s0 40
  generalize cutS s0 40 = s at hs
  have HBX := Lib.hid hb1
  clear hb1
  go_wp2_with fail
  refine wp_region_inv (GO a b s0 s w.heap.size w) (by kernel_rfl) (by kernel_rfl) ?_ ?_ ?_
  · exact ⟨_, _, _, _, _, _, _, _, _, _, _, _, _, _, _, _, rfl, HBX.out.drew, by simp⟩
  · refine ⟨?_, ?_, ?_, ?_, ?_, ?_, ?_, ?_, ?_, ?_, ?_, ?_, ?_, ?_, ?_, ?_, trivial⟩
    · intro L a' wx _ hd hG K hK
      obtain ⟨u8, u9, u15, u16, u17, u18, u19, u20, u21, u22, u23, u24, u25, u26, u27, u28, rfl, hbx, f0, f1, f2, f3, f4, f5, f6, f7, f8, f9, f10, f11, f12, f13, f14, f15⟩ := hG
      clear hd
      go_simp
      go_wp2
      exact ⟨_, _, _, _, _, _, _, _, _, _, _, _, _, _, _, _, rfl, hbx, fun _ => rfl, f1, f2, f3, f4, f5, f6, f7, f8, f9, f10, f11, f12, f13, f14, f15⟩
    · intro L a' wx _ hd hG K hK
      obtain ⟨u8, u9, u15, u16, u17, u18, u19, u20, u21, u22, u23, u24, u25, u26, u27, u28, rfl, hbx, f0, f1, f2, f3, f4, f5, f6, f7, f8, f9, f10, f11, f12, f13, f14, f15⟩ := hG
      clear hd
      go_simp
      go_wp2
      exact ⟨_, _, _, _, _, _, _, _, _, _, _, _, _, _, _, _, rfl, hbx, f0, fun _ => rfl, f2, f3, f4, f5, f6, f7, f8, f9, f10, f11, f12, f13, f14, f15⟩
    · intro L a' wx _ hd hG K hK
      obtain ⟨u8, u9, u15, u16, u17, u18, u19, u20, u21, u22, u23, u24, u25, u26, u27, u28, rfl, hbx, f0, f1, f2, f3, f4, f5, f6, f7, f8, f9, f10, f11, f12, f13, f14, f15⟩ := hG
      obtain rfl := f1 (hd ⟨1, .data⟩ (by simp) rfl)
      clear hd
      go_simp
      go_wp2
      have hk : ∀ o, Below wx.heap.size wx (wx.alloc o) := fun o => (Below.refl _ _).alloc (Nat.le_refl _) o
      exact ⟨_, _, _, _, _, _, _, _, _, _, _, _, _, _, _, _, rfl, hbx.alloc hbx.size _, f0, fun _ => rfl, fun _ => One.new _ _ _, f3, f4, fun h => (f5 h).keep (hk _), f6, f7, f8, fun h => (f9 h).keep (hk _), f10, f11, fun h => (f12 h).keep (hk _), f13, f14, f15⟩
    · intro L a' wx _ hd hG K hK
      obtain ⟨u8, u9, u15, u16, u17, u18, u19, u20, u21, u22, u23, u24, u25, u26, u27, u28, rfl, hbx, f0, f1, f2, f3, f4, f5, f6, f7, f8, f9, f10, f11, f12, f13, f14, f15⟩ := hG
      obtain ⟨g, rfl, hg, hc⟩ := f2 (hd ⟨2, .data⟩ (by simp) rfl)
      have hcv := hca _ _ hc
      clear hd
      go_simp
      go_wp2
      exact ⟨_, _, _, _, _, _, _, _, _, _, _, _, _, _, _, _, rfl, hbx, f0, f1, fun _ => ⟨g, rfl, hg, hc⟩, fun _ => rfl, f4, f5, f6, f7, f8, f9, f10, f11, f12, f13, f14, f15⟩
    · intro L a' wx _ hd hG K hK
      obtain ⟨u8, u9, u15, u16, u17, u18, u19, u20, u21, u22, u23, u24, u25, u26, u27, u28, rfl, hbx, f0, f1, f2, f3, f4, f5, f6, f7, f8, f9, f10, f11, f12, f13, f14, f15⟩ := hG
      obtain rfl := f0 (hd ⟨0, .data⟩ (by simp) rfl)
      obtain rfl := f3 (hd ⟨3, .data⟩ (by simp) rfl)
      have hzz : ¬ 9223372036854775807 < s.size + (strOfNums [(a : Int)]).size := by rw [strOfNums_size]; simp; omega
      clear hd
      go_simp
      go_wp2
      exact ⟨_, _, _, _, _, _, _, _, _, _, _, _, _, _, _, _, rfl, hbx, fun _ => rfl, f1, f2, fun _ => rfl, fun _ => rfl, f5, f6, f7, f8, f9, f10, f11, f12, f13, f14, f15⟩
    · intro L a' wx _ hd hG K hK
      obtain ⟨u8, u9, u15, u16, u17, u18, u19, u20, u21, u22, u23, u24, u25, u26, u27, u28, rfl, hbx, f0, f1, f2, f3, f4, f5, f6, f7, f8, f9, f10, f11, f12, f13, f14, f15⟩ := hG
      obtain rfl := f4 (hd ⟨4, .data⟩ (by simp) rfl)
      clear hd
      go_simp
      go_wp2
      have hk : ∀ o, Below wx.heap.size wx (wx.alloc o) := fun o => (Below.refl _ _).alloc (Nat.le_refl _) o
      exact ⟨_, _, _, _, _, _, _, _, _, _, _, _, _, _, _, _, rfl, hbx.alloc hbx.size _, f0, f1, fun h => (f2 h).keep (hk _), f3, fun _ => rfl, fun _ => One.new _ _ _, f6, f7, f8, fun h => (f9 h).keep (hk _), f10, f11, fun h => (f12 h).keep (hk _), f13, f14, f15⟩
    · intro L a' wx _ hd hG K hK
      obtain ⟨u8, u9, u15, u16, u17, u18, u19, u20, u21, u22, u23, u24, u25, u26, u27, u28, rfl, hbx, f0, f1, f2, f3, f4, f5, f6, f7, f8, f9, f10, f11, f12, f13, f14, f15⟩ := hG
      obtain ⟨g, rfl, hg, hc⟩ := f5 (hd ⟨5, .data⟩ (by simp) rfl)
      clear hd
      go_simp
      refine (of_one _ _ _ (szs s a hs) hc).mono ?_
      rw [nb_snoc s a ha]
      rintro e w' ⟨rfl, rfl⟩
      go_wp2
      exact ⟨_, _, _, _, _, _, _, _, _, _, _, _, _, _, _, _, rfl, hbx, f0, f1, f2, f3, f4, fun _ => ⟨g, rfl, hg, hc⟩, fun _ => rfl, f7, f8, f9, f10, f11, f12, f13, f14, f15⟩
    · intro L a' wx _ hd hG K hK
      obtain ⟨u8, u9, u15, u16, u17, u18, u19, u20, u21, u22, u23, u24, u25, u26, u27, u28, rfl, hbx, f0, f1, f2, f3, f4, f5, f6, f7, f8, f9, f10, f11, f12, f13, f14, f15⟩ := hG
      clear hd
      go_simp
      go_wp2
      exact ⟨_, _, _, _, _, _, _, _, _, _, _, _, _, _, _, _, rfl, hbx, f0, f1, f2, f3, f4, f5, f6, fun _ => rfl, f8, f9, f10, f11, f12, f13, f14, f15⟩
    · intro L a' wx _ hd hG K hK
      obtain ⟨u8, u9, u15, u16, u17, u18, u19, u20, u21, u22, u23, u24, u25, u26, u27, u28, rfl, hbx, f0, f1, f2, f3, f4, f5, f6, f7, f8, f9, f10, f11, f12, f13, f14, f15⟩ := hG
      clear hd
      go_simp
      go_wp2
      exact ⟨_, _, _, _, _, _, _, _, _, _, _, _, _, _, _, _, rfl, hbx, f0, f1, f2, f3, f4, f5, f6, f7, fun _ => rfl, f9, f10, f11, f12, f13, f14, f15⟩
    · intro L a' wx _ hd hG K hK
      obtain ⟨u8, u9, u15, u16, u17, u18, u19, u20, u21, u22, u23, u24, u25, u26, u27, u28, rfl, hbx, f0, f1, f2, f3, f4, f5, f6, f7, f8, f9, f10, f11, f12, f13, f14, f15⟩ := hG
      obtain rfl := f8 (hd ⟨8, .data⟩ (by simp) rfl)
      clear hd
      go_simp
      go_wp2
      have hk : ∀ o, Below wx.heap.size wx (wx.alloc o) := fun o => (Below.refl _ _).alloc (Nat.le_refl _) o
      exact ⟨_, _, _, _, _, _, _, _, _, _, _, _, _, _, _, _, rfl, hbx.alloc hbx.size _, f0, f1, fun h => (f2 h).keep (hk _), f3, f4, fun h => (f5 h).keep (hk _), f6, f7, fun _ => rfl, fun _ => One.new _ _ _, f10, f11, fun h => (f12 h).keep (hk _), f13, f14, f15⟩
    · intro L a' wx _ hd hG K hK
      obtain ⟨u8, u9, u15, u16, u17, u18, u19, u20, u21, u22, u23, u24, u25, u26, u27, u28, rfl, hbx, f0, f1, f2, f3, f4, f5, f6, f7, f8, f9, f10, f11, f12, f13, f14, f15⟩ := hG
      obtain ⟨g, rfl, hg, hc⟩ := f9 (hd ⟨9, .data⟩ (by simp) rfl)
      have hcv := hcb _ _ hc
      clear hd
      go_simp
      go_wp2
      exact ⟨_, _, _, _, _, _, _, _, _, _, _, _, _, _, _, _, rfl, hbx, f0, f1, f2, f3, f4, f5, f6, f7, f8, fun _ => ⟨g, rfl, hg, hc⟩, fun _ => rfl, f11, f12, f13, f14, f15⟩
    · intro L a' wx _ hd hG K hK
      obtain ⟨u8, u9, u15, u16, u17, u18, u19, u20, u21, u22, u23, u24, u25, u26, u27, u28, rfl, hbx, f0, f1, f2, f3, f4, f5, f6, f7, f8, f9, f10, f11, f12, f13, f14, f15⟩ := hG
      obtain rfl := f7 (hd ⟨7, .data⟩ (by simp) rfl)
      obtain rfl := f10 (hd ⟨10, .data⟩ (by simp) rfl)
      have hzz : ¬ 9223372036854775807 < s.size + (strOfNums [(b : Int)]).size := by rw [strOfNums_size]; simp; omega
      clear hd
      go_simp
      go_wp2
      exact ⟨_, _, _, _, _, _, _, _, _, _, _, _, _, _, _, _, rfl, hbx, f0, f1, f2, f3, f4, f5, f6, fun _ => rfl, f8, f9, fun _ => rfl, fun _ => rfl, f12, f13, f14, f15⟩
    · intro L a' wx _ hd hG K hK
      obtain ⟨u8, u9, u15, u16, u17, u18, u19, u20, u21, u22, u23, u24, u25, u26, u27, u28, rfl, hbx, f0, f1, f2, f3, f4, f5, f6, f7, f8, f9, f10, f11, f12, f13, f14, f15⟩ := hG
      obtain rfl := f11 (hd ⟨11, .data⟩ (by simp) rfl)
      clear hd
      go_simp
      go_wp2
      have hk : ∀ o, Below wx.heap.size wx (wx.alloc o) := fun o => (Below.refl _ _).alloc (Nat.le_refl _) o
      exact ⟨_, _, _, _, _, _, _, _, _, _, _, _, _, _, _, _, rfl, hbx.alloc hbx.size _, f0, f1, fun h => (f2 h).keep (hk _), f3, f4, fun h => (f5 h).keep (hk _), f6, f7, f8, fun h => (f9 h).keep (hk _), f10, fun _ => rfl, fun _ => One.new _ _ _, f13, f14, f15⟩
    · intro L a' wx _ hd hG K hK
      obtain ⟨u8, u9, u15, u16, u17, u18, u19, u20, u21, u22, u23, u24, u25, u26, u27, u28, rfl, hbx, f0, f1, f2, f3, f4, f5, f6, f7, f8, f9, f10, f11, f12, f13, f14, f15⟩ := hG
      obtain ⟨g, rfl, hg, hc⟩ := f12 (hd ⟨12, .data⟩ (by simp) rfl)
      clear hd
      go_simp
      refine (of_one _ _ _ (szs s b hs) hc).mono ?_
      rw [nb_snoc s b hb]
      rintro e w' ⟨rfl, rfl⟩
      go_wp2
      exact ⟨_, _, _, _, _, _, _, _, _, _, _, _, _, _, _, _, rfl, hbx, f0, f1, f2, f3, f4, f5, f6, f7, f8, f9, f10, f11, fun _ => ⟨g, rfl, hg, hc⟩, fun _ => rfl, f14, f15⟩
    · intro L a' wx _ hd hG K hK
      obtain ⟨u8, u9, u15, u16, u17, u18, u19, u20, u21, u22, u23, u24, u25, u26, u27, u28, rfl, hbx, f0, f1, f2, f3, f4, f5, f6, f7, f8, f9, f10, f11, f12, f13, f14, f15⟩ := hG
      obtain rfl := f6 (hd ⟨6, .data⟩ (by simp) rfl)
      clear hd
      go_simp
      go_wp2
      exact ⟨_, _, _, _, _, _, _, _, _, _, _, _, _, _, _, _, rfl, hbx, f0, f1, f2, f3, f4, f5, fun _ => rfl, f7, f8, f9, f10, f11, f12, f13, fun _ => rfl, f15⟩
    · intro L a' wx _ hd hG K hK
      obtain ⟨u8, u9, u15, u16, u17, u18, u19, u20, u21, u22, u23, u24, u25, u26, u27, u28, rfl, hbx, f0, f1, f2, f3, f4, f5, f6, f7, f8, f9, f10, f11, f12, f13, f14, f15⟩ := hG
      obtain rfl := f13 (hd ⟨13, .data⟩ (by simp) rfl)
      clear hd
      go_simp
      go_wp2
      exact ⟨_, _, _, _, _, _, _, _, _, _, _, _, _, _, _, _, rfl, hbx, f0, f1, f2, f3, f4, f5, f6, f7, f8, f9, f10, f11, f12, fun _ => rfl, f14, fun _ => rfl⟩
  · intro L a' wx hL hG
    obtain ⟨u8, u9, u15, u16, u17, u18, u19, u20, u21, u22, u23, u24, u25, u26, u27, u28, rfl, hbx, f0, f1, f2, f3, f4, f5, f6, f7, f8, f9, f10, f11, f12, f13, f14, f15⟩ := hG
    have e8 := f14 (hL 14 (by simp))
    have e9 := f15 (hL 15 (by simp))
    subst e8 e9
    clear hL f0 f1 f2 f3 f4 f5 f6 f7 f8 f9 f10 f11 f12 f13 f14 f15
    have H1 : a ≠ b → ((Plain.mix [nb s ++ [a]] : Int) == (Plain.mix [nb s ++ [b]] : Int)) = false ∧ ((a : Int) == (b : Int)) = false := fun h => by
      have h1 : Plain.mix [nb s ++ [a]] ≠ Plain.mix [nb s ++ [b]] := fun e => h ((Plain.mix_last (nb s) a b (by rw [nb_length]; omega) ha hb).1 e)
      exact ⟨by rw [beq_eq_false_iff_ne]; omega, by rw [beq_eq_false_iff_ne]; omega⟩
    by_cases hab : a = b
    · subst hab
      clear H1
      go_wp2
      go_ret
      exact ⟨rfl, hbx⟩
    · obtain ⟨h1, h2⟩ := H1 hab
      clear H1
      go_wp2
      go_ret
      exact ⟨rfl, hbx⟩
theorem mixOrder.walk (w : World) (s : ByteArray) (hs : s.size ≤ maxLen) (a : Int) (wa : (Lit.int .u8 a).wf = true) (b : Int) (wb : (Lit.int .u8 b).wf = true) :
    Calls Try.prog 11 #[.string s, .int .u8 a, .int .u8 b] w fun e w' => e = .returned (.bool true) ∧ Below w.heap.size w w' := by
  have h1 := bounds_u8 wa
  have h2 := bounds_u8 wb
  unfold maxLen at hs
  obtain ⟨x, rfl⟩ := Int.eq_ofNat_of_zero_le h1.1
  obtain ⟨y, rfl⟩ := Int.eq_ofNat_of_zero_le h2.1
  exact mixOrder s hs x y (by omega) (by omega) w
end Go.Proofs.Ytphchccikphblaa
