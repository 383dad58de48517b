/- The law MixBytes' walk. No condition. -/
import Derived.Test.YtphchccikphblaaBegun
import Derived.Test.YtphchccikphblaaRegion
import Derived.Deep.RegionWith
namespace Go.Proofs.Ytphchccikphblaa
open Go.RowKit
theorem conv1 (x : Int) (w : World) (b : Nat) (h : w.cell? ⟨b, 0, none⟩ = some (.int .u8 x)) :
    (convert 25 9 (.slice (some ⟨b, 0, none⟩) 1 1)).run Try.prog w = .ok (.string (strOfNums [x])) w :=
  run_convert_bytes_arg w 25 5 Try.underlying25 Try.underlying5 b 0 1 1 [x] rfl (fun i hi => by
    obtain rfl : i = 0 := by omega
    simpa using h) 9 Try.underlying9
theorem nb_one (a : Nat) (ha : a < 256) : nb (strOfNums [(a : Int)]) = [a] := by
  simp [nb, strOfNums]; omega
theorem of_one (g : Nat) (s : ByteArray) (w : World) (hs : s.size ≤ 9223372036854775807) (h : w.cell? ⟨g, 0, none⟩ = some (.string s)) :
    Calls Try.prog 18 #[.slice (some ⟨g, 0, none⟩) 1 1] w fun e w' => e = .returned (.int .u64 (Plain.mix [nb s])) ∧ w = w' :=
  of_any _ 1 1 [s] w (Sl.one h) rfl (by decide) (by simpa using hs)
theorem ofR_one (g : Nat) (s : ByteArray) (w : World) (hs : s.size ≤ 9223372036854775807) (h : w.cell? ⟨g, 0, none⟩ = some (.string s)) :
    Calls Try.prog 19 #[.slice (some ⟨g, 0, none⟩) 1 1] w fun e w' => e = .returned (.int .u64 (Plain.mix [nb s])) ∧ w = w' :=
  ofR_any _ 1 1 [s] w (Sl.one h) rfl (by decide) (by simpa using hs)
theorem sz1 (a : Int) : (strOfNums [a]).size ≤ 9223372036854775807 := by simp [strOfNums_size]
/-- a slice of one element, made by the call -/
def One (w : World) (v x : Value) : Prop := ∃ g, v = .slice (some ⟨g, 0, none⟩) 1 1 ∧ g < w.heap.size ∧ w.cell? ⟨g, 0, none⟩ = some x
theorem One.keep {w w' : World} {v x : Value} (h : One w v x) (hb : Below w.heap.size w w') : One w' v x := by
  obtain ⟨g, rfl, hg, hc⟩ := h
  exact ⟨g, rfl, Nat.lt_of_lt_of_le hg hb.size, by rw [hb.cell (p := ⟨g, 0, none⟩) hg]; exact hc⟩
theorem One.new (w : World) (x : Value) (t : TypeId) : One (w.alloc (.cells #[x] t)) (.slice (some ⟨w.heap.size, 0, none⟩) 1 1) x :=
  ⟨w.heap.size, rfl, by simp, by simp [go_sem]⟩
/-- what holds while the two hashes are reckoned, in whatever order -/
def GB (a b B : Nat) (w : World) (L : Nat → Bool) (a' : Act) (wx : World) : Prop :=
  ∃ u6 u7 u11 u12 u13 u14 u15 u16 u17 u18 u19 u20 : Value, a' = ⟨List.toArray (.int .u8 a :: .int .u8 b :: undef :: undef :: .bool false :: .bool true :: u6 :: u7 :: .bool true :: .bool true :: .bool false :: u11 :: u12 :: u13 :: u14 :: u15 :: u16 :: u17 :: u18 :: u19 :: u20 :: undef :: undef :: undef :: undef :: undef :: undef :: undef :: undef :: undef :: undef :: undef :: undef :: undef :: undef :: undef :: undef :: []), []⟩ ∧ Below B w wx ∧ (L 0 = true → u11 = .int .u8 a) ∧ (L 1 = true → One wx u12 (.int .u8 a)) ∧ (L 2 = true → u13 = .string (strOfNums [(a : Int)])) ∧ (L 3 = true → One wx u14 (.string (strOfNums [(a : Int)]))) ∧ (L 4 = true → u15 = .int .u64 (Plain.mix [[a]])) ∧ (L 5 = true → u16 = .int .u8 b) ∧ (L 6 = true → One wx u17 (.int .u8 b)) ∧ (L 7 = true → u18 = .string (strOfNums [(b : Int)])) ∧ (L 8 = true → One wx u19 (.string (strOfNums [(b : Int)]))) ∧ (L 9 = true → u20 = .int .u64 (Plain.mix [[b]])) ∧ (L 10 = true → u6 = .int .u64 (Plain.mix [[a]])) ∧ (L 11 = true → u7 = .int .u64 (Plain.mix [[b]]))
set_option maxHeartbeats 4000000 in
theorem mixBytes (a b : Nat) (ha : a < 256) (hb : b < 256) (w : World) : Calls Try.prog 10 #[.int .u8 a, .int .u8 b] w fun e w' => e = .returned (.bool true) ∧ Below w.heap.size w w' := by
  have hca := conv1 (a : Int)
  have hcb := conv1 (b : Int)
  go_enter Try.func10, Try.ntmps10
  go_wp2_with fail
  refine (begun1 _).mono ?_
  rintro e w1 ⟨rfl, hb1⟩
  go_wp2_with fail
  · refine wp_region_inv (GB a b w.heap.size w) (by kernel_rfl) (by kernel_rfl) ?_ ?_ ?_
    · exact ⟨_, _, _, _, _, _, _, _, _, _, _, _, rfl, hb1.drew, by simp⟩
    · refine ⟨?_, ?_, ?_, ?_, ?_, ?_, ?_, ?_, ?_, ?_, ?_, ?_, trivial⟩
      · intro L a' wx _ hd hG K hK
        obtain ⟨u6, u7, u11, u12, u13, u14, u15, u16, u17, u18, u19, u20, rfl, hbx, f0, f1, f2, f3, f4, f5, f6, f7, f8, f9, f10, f11⟩ := hG
        clear hd
        go_simp
        go_wp2
        exact ⟨_, _, _, _, _, _, _, _, _, _, _, _, rfl, hbx, fun _ => rfl, f1, f2, f3, f4, f5, f6, f7, f8, f9, f10, f11⟩
      · intro L a' wx _ hd hG K hK
        obtain ⟨u6, u7, u11, u12, u13, u14, u15, u16, u17, u18, u19, u20, rfl, hbx, f0, f1, f2, f3, f4, f5, f6, f7, f8, f9, f10, f11⟩ := hG
        obtain rfl := f0 (hd ⟨0, .data⟩ (by simp) rfl)
        clear hd
        go_simp
        go_wp2
        have hk : ∀ o, Below wx.heap.size wx (wx.alloc o) := fun o => (Below.refl _ _).alloc (Nat.le_refl _) o
        exact ⟨_, _, _, _, _, _, _, _, _, _, _, _, rfl, hbx.alloc hbx.size _, fun _ => rfl, fun _ => One.new _ _ _, f2, fun h => (f3 h).keep (hk _), f4, f5, fun h => (f6 h).keep (hk _), f7, fun h => (f8 h).keep (hk _), f9, f10, f11⟩
      · intro L a' wx _ hd hG K hK
        obtain ⟨u6, u7, u11, u12, u13, u14, u15, u16, u17, u18, u19, u20, rfl, hbx, f0, f1, f2, f3, f4, f5, f6, f7, f8, f9, f10, f11⟩ := hG
        obtain ⟨g, rfl, hg, hc⟩ := f1 (hd ⟨1, .data⟩ (by simp) rfl)
        have hcv := hca _ _ hc
        clear hd
        go_simp
        go_wp2
        exact ⟨_, _, _, _, _, _, _, _, _, _, _, _, rfl, hbx, f0, fun _ => ⟨g, rfl, hg, hc⟩, fun _ => rfl, f3, f4, f5, f6, f7, f8, f9, f10, f11⟩
      · intro L a' wx _ hd hG K hK
        obtain ⟨u6, u7, u11, u12, u13, u14, u15, u16, u17, u18, u19, u20, rfl, hbx, f0, f1, f2, f3, f4, f5, f6, f7, f8, f9, f10, f11⟩ := hG
        obtain rfl := f2 (hd ⟨2, .data⟩ (by simp) rfl)
        clear hd
        go_simp
        go_wp2
        have hk : ∀ o, Below wx.heap.size wx (wx.alloc o) := fun o => (Below.refl _ _).alloc (Nat.le_refl _) o
        exact ⟨_, _, _, _, _, _, _, _, _, _, _, _, rfl, hbx.alloc hbx.size _, f0, fun h => (f1 h).keep (hk _), fun _ => rfl, fun _ => One.new _ _ _, f4, f5, fun h => (f6 h).keep (hk _), f7, fun h => (f8 h).keep (hk _), f9, f10, f11⟩
      · intro L a' wx _ hd hG K hK
        obtain ⟨u6, u7, u11, u12, u13, u14, u15, u16, u17, u18, u19, u20, rfl, hbx, f0, f1, f2, f3, f4, f5, f6, f7, f8, f9, f10, f11⟩ := hG
        obtain ⟨g, rfl, hg, hc⟩ := f3 (hd ⟨3, .data⟩ (by simp) rfl)
        clear hd
        go_simp
        refine (of_one _ _ _ (sz1 _) hc).mono ?_
        rw [nb_one a ha]
        rintro e w' ⟨rfl, rfl⟩
        go_wp2
        exact ⟨_, _, _, _, _, _, _, _, _, _, _, _, rfl, hbx, f0, f1, f2, fun _ => ⟨g, rfl, hg, hc⟩, fun _ => rfl, f5, f6, f7, f8, f9, f10, f11⟩
      · intro L a' wx _ hd hG K hK
        obtain ⟨u6, u7, u11, u12, u13, u14, u15, u16, u17, u18, u19, u20, rfl, hbx, f0, f1, f2, f3, f4, f5, f6, f7, f8, f9, f10, f11⟩ := hG
        clear hd
        go_simp
        go_wp2
        exact ⟨_, _, _, _, _, _, _, _, _, _, _, _, rfl, hbx, f0, f1, f2, f3, f4, fun _ => rfl, f6, f7, f8, f9, f10, f11⟩
      · intro L a' wx _ hd hG K hK
        obtain ⟨u6, u7, u11, u12, u13, u14, u15, u16, u17, u18, u19, u20, rfl, hbx, f0, f1, f2, f3, f4, f5, f6, f7, f8, f9, f10, f11⟩ := hG
        obtain rfl := f5 (hd ⟨5, .data⟩ (by simp) rfl)
        clear hd
        go_simp
        go_wp2
        have hk : ∀ o, Below wx.heap.size wx (wx.alloc o) := fun o => (Below.refl _ _).alloc (Nat.le_refl _) o
        exact ⟨_, _, _, _, _, _, _, _, _, _, _, _, rfl, hbx.alloc hbx.size _, f0, fun h => (f1 h).keep (hk _), f2, fun h => (f3 h).keep (hk _), f4, fun _ => rfl, fun _ => One.new _ _ _, f7, fun h => (f8 h).keep (hk _), f9, f10, f11⟩
      · intro L a' wx _ hd hG K hK
        obtain ⟨u6, u7, u11, u12, u13, u14, u15, u16, u17, u18, u19, u20, rfl, hbx, f0, f1, f2, f3, f4, f5, f6, f7, f8, f9, f10, f11⟩ := hG
        obtain ⟨g, rfl, hg, hc⟩ := f6 (hd ⟨6, .data⟩ (by simp) rfl)
        have hcv := hcb _ _ hc
        clear hd
        go_simp
        go_wp2
        exact ⟨_, _, _, _, _, _, _, _, _, _, _, _, rfl, hbx, f0, f1, f2, f3, f4, f5, fun _ => ⟨g, rfl, hg, hc⟩, fun _ => rfl, f8, f9, f10, f11⟩
      · intro L a' wx _ hd hG K hK
        obtain ⟨u6, u7, u11, u12, u13, u14, u15, u16, u17, u18, u19, u20, rfl, hbx, f0, f1, f2, f3, f4, f5, f6, f7, f8, f9, f10, f11⟩ := hG
        obtain rfl := f7 (hd ⟨7, .data⟩ (by simp) rfl)
        clear hd
        go_simp
        go_wp2
        have hk : ∀ o, Below wx.heap.size wx (wx.alloc o) := fun o => (Below.refl _ _).alloc (Nat.le_refl _) o
        exact ⟨_, _, _, _, _, _, _, _, _, _, _, _, rfl, hbx.alloc hbx.size _, f0, fun h => (f1 h).keep (hk _), f2, fun h => (f3 h).keep (hk _), f4, f5, fun h => (f6 h).keep (hk _), fun _ => rfl, fun _ => One.new _ _ _, f9, f10, f11⟩
      · intro L a' wx _ hd hG K hK
        obtain ⟨u6, u7, u11, u12, u13, u14, u15, u16, u17, u18, u19, u20, rfl, hbx, f0, f1, f2, f3, f4, f5, f6, f7, f8, f9, f10, f11⟩ := hG
        obtain ⟨g, rfl, hg, hc⟩ := f8 (hd ⟨8, .data⟩ (by simp) rfl)
        clear hd
        go_simp
        refine (of_one _ _ _ (sz1 _) hc).mono ?_
        rw [nb_one b hb]
        rintro e w' ⟨rfl, rfl⟩
        go_wp2
        exact ⟨_, _, _, _, _, _, _, _, _, _, _, _, rfl, hbx, f0, f1, f2, f3, f4, f5, f6, f7, fun _ => ⟨g, rfl, hg, hc⟩, fun _ => rfl, f10, f11⟩
      · intro L a' wx _ hd hG K hK
        obtain ⟨u6, u7, u11, u12, u13, u14, u15, u16, u17, u18, u19, u20, rfl, hbx, f0, f1, f2, f3, f4, f5, f6, f7, f8, f9, f10, f11⟩ := hG
        obtain rfl := f4 (hd ⟨4, .data⟩ (by simp) rfl)
        clear hd
        go_simp
        go_wp2
        exact ⟨_, _, _, _, _, _, _, _, _, _, _, _, rfl, hbx, f0, f1, f2, f3, fun _ => rfl, f5, f6, f7, f8, f9, fun _ => rfl, f11⟩
      · intro L a' wx _ hd hG K hK
        obtain ⟨u6, u7, u11, u12, u13, u14, u15, u16, u17, u18, u19, u20, rfl, hbx, f0, f1, f2, f3, f4, f5, f6, f7, f8, f9, f10, f11⟩ := hG
        obtain rfl := f9 (hd ⟨9, .data⟩ (by simp) rfl)
        clear hd
        go_simp
        go_wp2
        exact ⟨_, _, _, _, _, _, _, _, _, _, _, _, rfl, hbx, f0, f1, f2, f3, f4, f5, f6, f7, f8, fun _ => rfl, f10, fun _ => rfl⟩
    · intro L a' wx hL hG
      obtain ⟨u6, u7, u11, u12, u13, u14, u15, u16, u17, u18, u19, u20, rfl, hbx, f0, f1, f2, f3, f4, f5, f6, f7, f8, f9, f10, f11⟩ := hG
      have e6 := f10 (hL 10 (by simp))
      have e7 := f11 (hL 11 (by simp))
      subst e6 e7
      clear hL f0 f1 f2 f3 f4 f5 f6 f7 f8 f9 f10 f11
      have H1 : a ≠ b → ((Plain.mix [[a]] : Int) == (Plain.mix [[b]] : Int)) = false ∧ ((a : Int) == (b : Int)) = false := fun h => by
        have h1 : Plain.mix [[a]] ≠ Plain.mix [[b]] := fun e => h ((Plain.mix_last [] a b (by decide) ha hb).1 e)
        exact ⟨by rw [beq_eq_false_iff_ne]; omega, by rw [beq_eq_false_iff_ne]; omega⟩
      by_cases hab : a = b
      · subst hab
        go_wp2_with fail
        refine (ofR_one _ (strOfNums [(a : Int)]) _ (sz1 _) ?_).mono ?_
        · simp [go_sem]
        rw [nb_one a ha]
        rintro e w' ⟨rfl, rfl⟩
        go_wp2
        go_ret
        exact ⟨rfl, (hbx.alloc hbx.size _).alloc (by simp; have := hbx.size; omega) _⟩
      · obtain ⟨h1, h2⟩ := H1 hab
        clear H1
        go_wp2_with fail
        refine (ofR_one _ (strOfNums [(a : Int)]) _ (sz1 _) ?_).mono ?_
        · simp [go_sem]
        rw [nb_one a ha]
        rintro e w' ⟨rfl, rfl⟩
        go_wp2
        go_ret
        exact ⟨rfl, (hbx.alloc hbx.size _).alloc (by simp; have := hbx.size; omega) _⟩

theorem mixBytes.walk (a : Int) (wa : (Lit.int .u8 a).wf = true) (b : Int) (wb : (Lit.int .u8 b).wf = true) (w : World) :
    Calls Try.prog 10 #[.int .u8 a, .int .u8 b] w fun e w' => e = .returned (.bool true) ∧ Below w.heap.size w w' := by
  have h1 := bounds_u8 wa
  have h2 := bounds_u8 wb
  obtain ⟨x, rfl⟩ := Int.eq_ofNat_of_zero_le h1.1
  obtain ⟨y, rfl⟩ := Int.eq_ofNat_of_zero_le h2.1
  exact mixBytes x y (by omega) (by omega) w
end Go.Proofs.Ytphchccikphblaa
