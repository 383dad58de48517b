/- The law MixOf's walk. No condition. -/
import Derived.Test.YtphchccikphblaaTexts
namespace Go.Proofs.Ytphchccikphblaa
open Go.RowKit
set_option maxHeartbeats 2000000 in
theorem mixOf (A : Option Addr) (n c : Nat) (ss : List ByteArray) (w : World) (hr : Sl w A (ss.map .string)) (hn : ss.length = n) (hn63 : n ≤ 9223372036854775807) (hz : ∀ s ∈ ss, s.size ≤ 9223372036854775807) :
    Calls Try.prog 8 #[.slice A n c] w fun e w' => e = .returned (.bool true) ∧ Below w.heap.size w w' := by
  go_enter Try.func8, Try.ntmps8
  go_wp2_with fail
  refine (begun1 _).mono ?_
  rintro e w1 ⟨rfl, hb1⟩
  go_wp2_with fail
  refine (texts_any A n c ss 6 60 (by decide) (by decide) _ (hr.keep hb1) hn hn63 hz).mono ?_
  rintro e w2 ⟨v, rfl, hown, hb2⟩
  obtain ⟨A', c', rfl, hc1, hc2, hl, hr'⟩ := Sl.of_own hown
  have hb3 := Lib.hid (hb1.trans (hb2.mono hb1.size))
  have hl' : (textsTo ss 60 (min n 6)).length ≤ 9223372036854775807 := by
    have := hc2; unfold maxLen at this; omega
  have hz' : ∀ s ∈ textsTo ss 60 (min n 6), s.size ≤ 9223372036854775807 := by
    intro s hs
    unfold textsTo at hs
    obtain ⟨t, _, rfl⟩ := List.mem_map.1 hs
    have := cutS_size t 60
    omega
  clear hb1 hb2 hown hl hc2 hc1
  go_wp2_with fail
  refine (of_any A' _ c' (textsTo ss 60 (min n 6)) _ hr' rfl hl' hz').mono ?_
  rintro e w' ⟨rfl, rfl⟩
  go_wp2_with fail
  refine (ofR_any A' _ c' (textsTo ss 60 (min n 6)) _ hr' rfl hl' hz').mono ?_
  rintro e w' ⟨rfl, rfl⟩
  go_wp2
  go_ret
  exact ⟨rfl, hb3.out⟩
theorem mixOf.walk (w : World) (A : Option Addr) (n c : Nat) (ss : List ByteArray) (h : ss.length = n ∧ n ≤ c ∧ c ≤ maxLen ∧ (∀ s ∈ ss, s.size ≤ maxLen) ∧ Sl w A (ss.map .string)) :
    Calls Try.prog 8 #[.slice A n c] w fun e w' => e = .returned (.bool true) ∧ Below w.heap.size w w' := by
  obtain ⟨h1, h2, h3, h4, h5⟩ := h
  unfold maxLen at h3 h4
  exact mixOf A n c ss w h5 h1 (by omega) h4
end Go.Proofs.Ytphchccikphblaa
