/- Walks of the two helpers that cut texts. Conditions: lengths within an int. -/
import Derived.Test.YtcghoaijflekhaaTokQ
namespace Go.Proofs.Ytcghoaijflekhaa
open Go.RowKit
/-- a text, cut -/
def cutS (s : ByteArray) (n : Nat) : ByteArray := if n < s.size then s.extract 0 n else s
theorem cutS_size (s : ByteArray) (n : Nat) : (cutS s n).size ≤ n := by
  unfold cutS; split
  · simp; omega
  · omega
set_option maxHeartbeats 400000 in
theorem cut_any (s : ByteArray) (n : Nat) (hn : n ≤ 1000) (w : World) (_hs : s.size ≤ 9223372036854775807) : Calls Try.prog 13 #[.string s, .int .i64 n] w fun e w' => e = .returned (.string (cutS s n)) ∧ w = w' := by
  by_cases h : n < s.size
  · have H : Hid (cutS s n = s.extract 0 n) := Lib.hid (by unfold cutS; rw [if_pos h])
    go_enter Try.func13, Try.ntmps13
    go_wp2
    go_ret
    rw [H.out]
    exact ⟨rfl, rfl⟩
  · have H : Hid (cutS s n = s) := Lib.hid (by unfold cutS; rw [if_neg h])
    go_enter Try.func13, Try.ntmps13
    go_wp2
    go_ret
    rw [H.out]
    exact ⟨rfl, rfl⟩
/-- texts, cut -/
def textsTo (ss : List ByteArray) (m k : Nat) : List ByteArray := (ss.take k).map (cutS · m)
theorem textsTo_succ (ss : List ByteArray) (m k : Nat) (h : k < ss.length) : textsTo ss m (k + 1) = textsTo ss m k ++ [cutS ss[k] m] := by
  unfold textsTo
  rw [List.take_succ_eq_append_getElem h, List.map_append]; rfl
theorem textsTo_length (ss : List ByteArray) (m k : Nat) (h : k ≤ ss.length) : (textsTo ss m k).length = k := by
  unfold textsTo
  rw [List.length_map, List.length_take]; omega
set_option maxHeartbeats 2000000 in
theorem texts_any (A : Option Addr) (n c : Nat) (ss : List ByteArray) (k m : Nat) (hk : k ≤ 1000) (hm : m ≤ 1000) (w : World) (hr : Sl w A (ss.map .string)) (hn : ss.length = n) (_ : n ≤ 9223372036854775807) (hz : ∀ s ∈ ss, s.size ≤ 9223372036854775807) :
    Calls Try.prog 14 #[.slice A n c, .int .i64 k, .int .i64 m] w fun e w' => ∃ v, e = .returned v ∧ w'.ownsRow w.heap.size 9 1 v (textsTo ss m (min n k)).length ((textsTo ss m (min n k)).map .string) ∧ Below w.heap.size w w' := by
  obtain ⟨i0, hi, hz0, hz1, hz2⟩ := info_parts info9
  have HN := Lib.hid hn; clear hn
  go_enter Try.func14, Try.ntmps14
  go_wp2
  go_loopw [7, 8] (fun v i wr => ∃ j : Nat, j ≤ n ∧ j ≤ k ∧ i = .int .i64 j ∧ wr.ownsRow w.heap.size 9 1 v j ((textsTo ss m j).map .string) ∧ Below w.heap.size w wr) (fun _ i _ => n - (intOf i).toNat)
  case atStart => exact ⟨0, Nat.zero_le _, Nat.zero_le _, rfl, World.ownsRow_nil _ _ _ _, Below.refl _ _⟩
  case round =>
    obtain ⟨j, hj, hjk, rfl, hown, hb⟩ := hrel
    by_cases hlt : j < n
    · by_cases hlk : j < k
      · have hlt' : j < ss.length := by rw [HN.out]; exact hlt
        obtain ⟨b, off, rfl, hc⟩ := (hr.keep hb).at_ j (by rw [List.length_map]; exact hlt')
        rw [List.getElem_map] at hc
        have hs := hz _ (List.getElem_mem hlt')
        have HT := Lib.hid (textsTo_succ ss m j hlt')
        have HB := Lib.hid hb
        have hsz := hb.size
        clear hb
        generalize ss[j] = s at hc hs HT
        go_wp2_with fail
        refine (cut_any s m hm _ hs).mono ?_
        rintro e w' ⟨rfl, rfl⟩
        go_wp2_with (at_builtin; refine wpList_append_own _ rfl (.tmp 20) (.tmp 27) 34 rfl w.heap.size 9 i0 _ 1 16 Try.underlying34 hi hz0 hz1 hz2 rfl (by decide) _ _ _ rfl (hown.alloc _) ⟨wr.heap.size, 0, none⟩ 1 1 [.string (cutS s m)] rfl rfl ?c1 ?c2 ?c3 ?c4 ?c5 ?_)
        case c1 => exact one_new _ _ _
        case c2 => simp [Value.oneCell']
        case c3 => unfold maxLen; omega
        case c4 => omega
        case c5 => simp; omega
        intro v' w' hown' hg _
        have hb' := HB.out.alloc hsz (.cells #[.string (cutS s m)] 9)
        have hb2 := hb'.grown hg (by simp; omega) (fun g hg' => (hown.lt g hg').1)
        clear hb' hg
        have HB2 := Lib.hid hb2
        clear hb2
        go_wp2
        go_roundw
        case rel => exact ⟨j + 1, by omega, by omega, by go_num, by rw [HT.out, List.map_append]; exact hown', HB2.out⟩
        case measure => simp [intOf]; omega
      · go_wp2
        go_ret
        have e : min n k = j := by omega
        rw [e, textsTo_length _ _ _ (by rw [HN.out]; omega)]
        exact ⟨_, rfl, hown, hb⟩
    · go_wp2
      go_ret
      have e : min n k = j := by omega
      rw [e, textsTo_length _ _ _ (by rw [HN.out]; omega)]
      exact ⟨_, rfl, hown, hb⟩
end Go.Proofs.Ytcghoaijflekhaa
