/- The laws OriginNone, OriginHeld, OriginKeys: their walks. No condition. -/
import Derived.Test.YtmblkejgfoffaaaBegun
import Derived.Deep.Onto
namespace Go.Proofs.Ytmblkejgfoffaaa
open Go.RowKit
theorem now_nil (w : World) : Calls Try.prog 14 #[.pointer none] w fun e w' => e = .returned (.int .i64 0) ∧ w = w' := by
  go_enter Try.func14, Try.ntmps14
  go_wp2
  go_ret
  exact ⟨rfl, rfl⟩
theorem at_nil (w : World) (pos : Int) (k : ByteArray) : Calls Try.prog 15 #[.pointer none, .int .i64 pos, .string k] w fun e w' => e = .returned (.tuple #[.string ⟨#[]⟩, .bool false]) ∧ w = w' := by
  go_enter Try.func15, Try.ntmps15
  go_wp2
  go_ret2
  exact ⟨rfl, rfl⟩
theorem get_nil (w : World) (k : ByteArray) : Calls Try.prog 17 #[.pointer none, .string k] w fun e w' => e = .returned (.tuple #[.string ⟨#[]⟩, .bool false]) ∧ w = w' := by
  go_enter Try.func17, Try.ntmps17
  go_wp2_with fail
  refine (now_nil w).mono ?_
  rintro e w' ⟨rfl, rfl⟩
  go_wp2_with fail
  refine (at_nil w 0 k).mono ?_
  rintro e w' ⟨rfl, rfl⟩
  go_wp2
  go_ret2
  exact ⟨rfl, rfl⟩
theorem set_nil (w : World) (k v : ByteArray) (b : Bool) : Calls Try.prog 20 #[.pointer none, .string k, .string v, .bool b] w fun e w' => e = .returned (.int .i64 0) ∧ w = w' := by
  go_enter Try.func20, Try.ntmps20
  go_wp2
  go_ret
  exact ⟨rfl, rfl⟩
theorem held_nil (w : World) (k v : ByteArray) (b : Bool) (x y : Int) : Calls Try.prog 18 #[.pointer none, .string k, .string v, .bool b, .int .i64 x, .int .i64 y] w fun e w' => e = .returned (.bool false) ∧ w = w' := by
  go_enter Try.func18, Try.ntmps18
  go_wp2
  go_ret
  exact ⟨rfl, rfl⟩
theorem originNone.walk (w : World) : Calls Try.prog 5 #[] w fun e w' => e = .returned (.bool true) ∧ Below w.heap.size w w' := by
  go_enter Try.func5, Try.ntmps5
  go_wp2_with fail
  refine (get_nil w _).mono ?_
  rintro e w' ⟨rfl, rfl⟩
  go_wp2_with fail
  refine (at_nil w _ _).mono ?_
  rintro e w' ⟨rfl, rfl⟩
  go_wp2_with fail
  refine (begun_any w).mono ?_
  rintro e w1 ⟨rfl, hb1⟩
  have HB1 := Lib.hid hb1
  clear hb1
  go_wp2_with fail
  refine (set_nil w1 _ _ _).mono ?_
  rintro e w' ⟨rfl, rfl⟩
  go_wp2_with fail
  refine (now_nil w1).mono ?_
  rintro e w' ⟨rfl, rfl⟩
  go_wp2_with fail
  refine (held_nil w1 _ _ _ _ _).mono ?_
  rintro e w' ⟨rfl, rfl⟩
  go_wp2
  go_ret
  exact ⟨rfl, HB1.out⟩
/-- an origin of what was cut -/
theorem made_cut (w : World) (A : Option Addr) (n c m : Nat) (L : List St) (hn : (cutL n L).length = m) (hm : m ≤ 1000) (hs : Sl w A ((cutL n L).flatMap St.cells)) :
    Calls Try.prog 13 #[.slice A m c] w fun e w' => ∃ O M, e = .returned (.pointer (some ⟨O, 0, none⟩)) ∧ Org w' w.heap.size O M (cutL n L) ∧ Below w.heap.size w w' := by
  have := made_any w A m c (cutL n L) hn hm hs
  rw [cutL_norm] at this
  exact this
theorem cutL_len (n : Nat) (L : List St) : (cutL n L).length ≤ n := by
  unfold cutL
  rw [List.length_map, List.length_take]; omega
theorem cutL_val (n : Nat) (L : List St) : ∀ s ∈ cutL n L, s.val.size ≤ 30 := by
  intro s hs
  unfold cutL at hs
  obtain ⟨x, _, rfl⟩ := List.mem_map.1 hs
  unfold cut1 norm
  have h := cutS_size x.val 30
  simp only
  split
  · exact h
  · show 0 ≤ 30
    omega
theorem atS_size (Q : List St) (h : ∀ s ∈ Q, s.val.size ≤ 30) (k : ByteArray) : ∀ p, (atS Q p k).1.size ≤ 30 := by
  intro p
  induction p with
  | zero => unfold atS; simp
  | succ p ih =>
    unfold atS
    cases hx : Q[p]? with
    | none => exact ih
    | some s =>
      simp only
      split
      · exact h s (List.mem_of_getElem? hx)
      · exact ih
theorem atS_snoc (Q : List St) (s : St) (k : ByteArray) : atS (Q ++ [s]) (Q.length + 1) k = if s.key = k then (s.val, s.has) else atS Q Q.length k := by
  conv => lhs; unfold atS
  rw [List.getElem?_concat_length, atS_snoc_le Q s k _ (Nat.le_refl _)]
theorem Org.low {w : World} {base base' O M : Nat} {L : List St} (h : Org w base O M L) (hb : base' ≤ base) : Org w base' O M L := by
  obtain ⟨h1, h2, h3, l, c, h4, h5⟩ := h
  exact ⟨Nat.le_trans hb h1, Nat.le_trans hb h2, h3, l, c, h4, h5.nodup, fun p hp => World.ownsRow.mono (h5.each p hp) hb, h5.miss, h5.apart⟩
set_option maxHeartbeats 4000000 in
theorem keys_in (w : World) (A : Option Addr) (n c : Nat) (L : List St) (hn : L.length = n) (hm : n ≤ 9223372036854775807) (hs : Sl w A (L.flatMap St.cells)) (hz : ∀ s ∈ L, s.key.size ≤ maxLen ∧ s.val.size ≤ maxLen) (a b v : ByteArray) (hab : a ≠ b) (ha : a.size ≤ 20) (hb : b.size ≤ 20) (hv : v.size ≤ 30) :
    Calls Try.prog 6 #[.slice A n c, .string a, .string b, .string v] w fun e w' => e = .returned (.bool true) ∧ Below w.heap.size w w' := by
  have HS := Lib.hid hs
  have HZ := Lib.hid hz
  have HN := Lib.hid hn
  have HAB := Lib.hid hab
  have he : (a.toList == b.toList) = false := by rw [beq_eq_false_iff_ne]; exact fun e => hab (toList_inj e)
  have k1 : ¬ (20 : Int) < (a.size : Int) := by omega
  have k2 : ¬ (20 : Int) < (b.size : Int) := by omega
  have k3 : ¬ (30 : Int) < (v.size : Int) := by omega
  clear hs hz hab hn
  go_enter Try.func6, Try.ntmps6
  go_wp2_with fail
  refine (begun_any w).mono ?_
  rintro e w1 ⟨rfl, hb1⟩
  have HB1 := Lib.hid hb1
  clear hb1
  go_wp2_with fail
  refine (cutl_sl w1 A n c 20 L HN.out hm (by omega) (HS.out.keep HB1.out) HZ.out).mono ?_
  rintro e w2 ⟨A2, c2, rfl, hs2, hb2⟩
  have HS2 := Lib.hid hs2
  have HB2 := Lib.hid (HB1.out.trans (hb2.mono HB1.out.size))
  have hql : (cutL (min n 20) L).length ≤ 20 := Nat.le_trans (cutL_len _ _) (Nat.min_le_right _ _)
  clear hs2 hb2
  obtain ⟨m, hmq⟩ : ∃ m, (cutL (min n 20) L).length = m := ⟨_, rfl⟩
  have HMQ := Lib.hid hmq
  rw [hmq] at hql ⊢
  clear hmq
  go_wp2_with fail
  refine (made_cut w2 A2 (min n 20) c2 m L HMQ.out (by omega) HS2.out).mono ?_
  rintro e w3 ⟨O, M, rfl, ho3, hb3⟩
  have HO3 := Lib.hid (ho3.low HB2.out.size)
  have HB3 := Lib.hid (HB2.out.trans (hb3.mono HB2.out.size))
  clear ho3 hb3 HS2
  generalize cutL (min n 20) L = Q at *
  go_wp2_with fail
  refine (get_any w3 w.heap.size O M Q HO3.out (by have := HMQ.out; omega) a).mono ?_
  rintro e w4 ⟨rfl, n4, rfl⟩
  go_wp2_with fail
  refine (set_any (w3.drewN n4) w.heap.size O M Q (HO3.out.drewN _) (by have := HMQ.out; omega) b v true).mono ?_
  rintro e w5 ⟨rfl, ho5, hb5⟩
  have HO5 : Hid (Org w5 w.heap.size O M (Q ++ [⟨b, v, true⟩])) := Lib.hid ho5
  have HB5 := Lib.hid ((below_drewN HB3.out _).trans hb5)
  have HE1 : Hid (atS (Q ++ [⟨b, v, true⟩]) (Q ++ [(⟨b, v, true⟩ : St)]).length a = atS Q Q.length a) := Lib.hid (by
    rw [List.length_append, List.length_singleton, atS_snoc, if_neg (fun e => HAB.out e.symm)])
  have HE2 : Hid (atS (Q ++ [⟨b, v, true⟩]) (Q ++ [(⟨b, v, true⟩ : St)]).length b = (v, true)) := Lib.hid (by
    rw [List.length_append, List.length_singleton, atS_snoc, if_pos rfl])
  clear ho5 hb5
  have hlq : (Q ++ [(⟨b, v, true⟩ : St)]).length < 1099511627776 := by rw [List.length_append, HMQ.out]; simp; omega
  rw [HMQ.out]
  go_wp2_with fail
  refine (get_any w5 w.heap.size O M _ HO5.out hlq a).mono ?_
  rw [HE1.out, HMQ.out]
  rintro e w6 ⟨rfl, n6, rfl⟩
  go_wp2_with fail
  refine (get_any (w5.drewN n6) w.heap.size O M _ (HO5.out.drewN _) hlq b).mono ?_
  rw [HE2.out]
  rintro e w7 ⟨rfl, n7, rfl⟩
  generalize atS Q m a = r0
  obtain ⟨v0, h0⟩ := r0
  have hbb : (h0 == h0) = true := by cases h0 <;> rfl
  go_wp2
  go_ret
  exact ⟨rfl, below_drewN HB5.out _⟩
theorem keys_out (w : World) (A : Option Addr) (n c : Nat) (L : List St) (hn : L.length = n) (hm : n ≤ 9223372036854775807) (hs : Sl w A (L.flatMap St.cells)) (hz : ∀ s ∈ L, s.key.size ≤ maxLen ∧ s.val.size ≤ maxLen) (a b v : ByteArray) (h : a = b ∨ 20 < a.size ∨ 20 < b.size ∨ 30 < v.size) :
    Calls Try.prog 6 #[.slice A n c, .string a, .string b, .string v] w fun e w' => e = .returned (.bool true) ∧ Below w.heap.size w w' := by
  have HS := Lib.hid hs
  have HZ := Lib.hid hz
  have HN := Lib.hid hn
  have h2 : (a.toList == b.toList) = true ∨ ((a.toList == b.toList) = false ∧ (20 : Int) < (a.size : Int)) ∨ ((a.toList == b.toList) = false ∧ ¬ (20 : Int) < (a.size : Int) ∧ (20 : Int) < (b.size : Int)) ∨ ((a.toList == b.toList) = false ∧ ¬ (20 : Int) < (a.size : Int) ∧ ¬ (20 : Int) < (b.size : Int) ∧ (30 : Int) < (v.size : Int)) := by
    by_cases e : a = b
    · left; rw [e]; exact beq_self_eq_true _
    · right
      have he : (a.toList == b.toList) = false := by rw [beq_eq_false_iff_ne]; exact fun e' => e (toList_inj e')
      simp only [he, true_and]
      rcases h with h | h | h | h
      · exact absurd h e
      · omega
      · omega
      · omega
  clear hs hz hn h
  rcases h2 with h1 | ⟨h1, h2⟩ | ⟨h1, h2, h3⟩ | ⟨h1, h2, h3, h4⟩
  all_goals
    go_enter Try.func6, Try.ntmps6
    go_wp2_with fail
    refine (begun_any w).mono ?_
    rintro e w1 ⟨rfl, hb1⟩
    have HB1 := Lib.hid hb1
    clear hb1
    go_wp2_with fail
    refine (cutl_sl w1 A n c 20 L HN.out hm (by omega) (HS.out.keep HB1.out) HZ.out).mono ?_
    rintro e w2 ⟨A2, c2, rfl, _, hb2⟩
    have HB2 := Lib.hid (HB1.out.trans (hb2.mono HB1.out.size))
    clear hb2
    go_wp2
    go_ret
    exact ⟨rfl, HB2.out⟩
theorem originKeys.walk (w : World) (A : Option Addr) (n c : Nat) (L : List St) (h : L.length = n ∧ n ≤ c ∧ c ≤ maxLen ∧ (∀ o ∈ L, o.key.size ≤ maxLen ∧ o.val.size ≤ maxLen) ∧ Sl w A (L.flatMap St.cells)) (a : ByteArray) (_ : a.size ≤ maxLen) (b : ByteArray) (_ : b.size ≤ maxLen) (v : ByteArray) (_ : v.size ≤ maxLen) :
    Calls Try.prog 6 #[.slice A n c, .string a, .string b, .string v] w fun e w' => e = .returned (.bool true) ∧ Below w.heap.size w w' := by
  obtain ⟨h1, h2, h3, h4, h5⟩ := h
  have hm : n ≤ 9223372036854775807 := by unfold maxLen at h3; omega
  by_cases hc : a = b ∨ 20 < a.size ∨ 20 < b.size ∨ 30 < v.size
  · exact keys_out w A n c L h1 hm h5 h4 a b v hc
  · exact keys_in w A n c L h1 hm h5 h4 a b v (fun e => hc (.inl e)) (by omega) (by omega) (by omega)
end Go.Proofs.Ytmblkejgfoffaaa
