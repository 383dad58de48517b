/- The law OriginHeld: its walk. No condition. -/
import Derived.Test.YtmblkejgfoffaaaLaws
namespace Go.Proofs.Ytmblkejgfoffaaa
open Go.RowKit
set_option maxHeartbeats 4000000 in
theorem oheld_in (w : World) (A : Option Addr) (n c : Nat) (L : List St) (hn : L.length = n) (hm : n ≤ 9223372036854775807) (hs : Sl w A (L.flatMap St.cells)) (hz : ∀ s ∈ L, s.key.size ≤ maxLen ∧ s.val.size ≤ maxLen) (key : ByteArray) (hk : key.size ≤ maxLen) (p d u : Nat) (hp : p ≤ (cutL (min n 25) L).length) (hd : d ≤ 30) (hu : u ≤ 30) :
    Calls Try.prog 4 #[.slice A n c, .string key, .int .i64 (p : Int), .int .i64 (d : Int), .int .i64 (u : Int)] w fun e w' => e = .returned (.bool true) ∧ Below w.heap.size w w' := by
  have HS := Lib.hid hs
  have HZ := Lib.hid hz
  have HN := Lib.hid hn
  have HK := Lib.hid hk
  clear hs hz hn hk
  have hql : (cutL (min n 25) L).length ≤ 25 := Nat.le_trans (cutL_len _ _) (Nat.min_le_right _ _)
  have HV := Lib.hid (cutL_val (min n 25) L)
  obtain ⟨m, hmq⟩ : ∃ m, (cutL (min n 25) L).length = m := ⟨_, rfl⟩
  have HMQ := Lib.hid hmq
  rw [hmq] at hql hp
  have q1 : ¬ (p : Int) < 0 := by omega
  have q2 : ¬ (m : Int) < (p : Int) := by omega
  have q3 : ¬ (d : Int) < 0 := by omega
  have q4 : ¬ (30 : Int) < (d : Int) := by omega
  have q5 : ¬ (u : Int) < 0 := by omega
  have q6 : ¬ (30 : Int) < (u : Int) := by omega
  clear hmq
  go_enter Try.func4, Try.ntmps4
  go_wp2_with fail
  refine (begun_any w).mono ?_
  rintro e w1 ⟨rfl, hb1⟩
  have HB1 := Lib.hid hb1
  clear hb1
  go_wp2_with fail
  refine (cutl_sl w1 A n c 25 L HN.out hm (by omega) (HS.out.keep HB1.out) HZ.out).mono ?_
  rw [HMQ.out]
  rintro e w2 ⟨A2, c2, rfl, hs2, hb2⟩
  have HS2 := Lib.hid hs2
  have HB2 := Lib.hid (HB1.out.trans (hb2.mono HB1.out.size))
  clear hs2 hb2
  go_wp2_with fail
  refine (cut_any key 20 (by omega) w2 HK.out).mono ?_
  rintro e w2' ⟨rfl, rfl⟩
  generalize cutS key 20 = k
  go_wp2_with fail
  refine (made_cut w2 A2 (min n 25) c2 m L HMQ.out (by omega) HS2.out).mono ?_
  rintro e w3 ⟨O, M, rfl, ho3, hb3⟩
  have HO3 := Lib.hid (ho3.low HB2.out.size)
  have HB3 := Lib.hid (HB2.out.trans (hb3.mono HB2.out.size))
  clear ho3 hb3 HS2
  generalize cutL (min n 25) L = Q at *
  have HLQ : Hid (Q.length < 1099511627) := Lib.hid (by rw [HMQ.out]; omega)
  have HAT : Hid (atF Q (p : Int) k = atS Q p k) := Lib.hid (by unfold atF; rw [if_neg (by rw [HMQ.out]; omega)]; rfl)
  have HSZ := Lib.hid (atS_size Q HV.out k p)
  go_wp2_with fail
  refine (at_any w3 w.heap.size O M Q HO3.out (by have := HLQ.out; omega) (p : Int) k).mono ?_
  rw [HAT.out]
  rintro e w4 ⟨rfl, n4, rfl⟩
  obtain ⟨r0, hr0⟩ : ∃ r0, atS Q p k = r0 := ⟨_, rfl⟩
  have HR0 := Lib.hid hr0
  rw [hr0] at HSZ ⊢
  clear hr0
  obtain ⟨v0, h0⟩ := r0
  have hsz : v0.size ≤ 30 := HSZ.out
  have hzz : ¬ 9223372036854775807 < v0.size + ByteArray.size ⟨#[120]⟩ := by show ¬ 9223372036854775807 < v0.size + 1; omega
  have hpm : p ≤ Q.length := by rw [HMQ.out]; omega
  go_wp2_with fail
  refine (held_yes _ w.heap.size O M Q (HO3.out.drewN _) HLQ.out k v0 h0 _ _ ⟨p, by omega, by omega, by omega, hpm, HR0.out⟩).mono ?_
  rintro e w5 ⟨rfl, hb5⟩
  have HO5 := Lib.hid ((HO3.out.drewN _).below hb5)
  have HB5 := Lib.hid ((below_drewN HB3.out _).trans (hb5.mono (below_drewN HB3.out _).size))
  clear hb5
  go_wp2_with fail
  refine (held_yes _ w.heap.size O M Q HO5.out HLQ.out k v0 h0 _ _ ⟨p, by omega, by omega, by omega, hpm, HR0.out⟩).mono ?_
  rintro e w6 ⟨rfl, hb6⟩
  have HO6 := Lib.hid (HO5.out.below hb6)
  have HB6 := Lib.hid (HB5.out.trans (hb6.mono HB5.out.size))
  clear hb6
  go_wp2_with fail
  refine (held_no _ w.heap.size O M Q HO6.out HLQ.out k v0 h0 _ _ (by rintro ⟨j, j0, j1, j2, j3, j4⟩; omega)).mono ?_
  rintro e w7 ⟨rfl, hb7⟩
  have HO7 := Lib.hid (HO6.out.below hb7)
  have HB7 := Lib.hid (HB6.out.trans (hb7.mono HB6.out.size))
  clear hb7
  go_wp2_with fail
  refine (held_no _ w.heap.size O M Q HO7.out HLQ.out k _ true _ _ (by
    rintro ⟨j, j0, j1, j2, j3, j4⟩
    obtain rfl : j = p := by omega
    rw [HR0.out] at j4
    have j5 := congrArg ByteArray.size (congrArg Prod.fst j4)
    rw [ByteArray.size_append] at j5
    have : ByteArray.size ⟨#[120]⟩ = 1 := rfl
    simp only at j5
    omega)).mono ?_
  rintro e w8 ⟨rfl, hb8⟩
  have HB8 := Lib.hid (HB7.out.trans (hb8.mono HB7.out.size))
  clear hb8
  go_wp2
  go_ret
  exact ⟨rfl, HB8.out⟩
set_option maxHeartbeats 4000000 in
theorem oheld_out (w : World) (A : Option Addr) (n c : Nat) (L : List St) (hn : L.length = n) (hm : n ≤ 9223372036854775807) (hs : Sl w A (L.flatMap St.cells)) (hz : ∀ s ∈ L, s.key.size ≤ maxLen ∧ s.val.size ≤ maxLen) (key : ByteArray) (hk : key.size ≤ maxLen) (p d u : Int) (hc : p < 0 ∨ ((cutL (min n 25) L).length : Int) < p ∨ d < 0 ∨ 30 < d ∨ u < 0 ∨ 30 < u) :
    Calls Try.prog 4 #[.slice A n c, .string key, .int .i64 p, .int .i64 d, .int .i64 u] w fun e w' => e = .returned (.bool true) ∧ Below w.heap.size w w' := by
  have HS := Lib.hid hs
  have HZ := Lib.hid hz
  have HN := Lib.hid hn
  have HK := Lib.hid hk
  obtain ⟨m, hmq⟩ : ∃ m, (cutL (min n 25) L).length = m := ⟨_, rfl⟩
  have HMQ := Lib.hid hmq
  rw [hmq] at hc
  clear hs hz hn hk hmq
  have hc2 : p < 0 ∨ (¬ p < 0 ∧ (m : Int) < p) ∨ (¬ p < 0 ∧ ¬ (m : Int) < p ∧ d < 0) ∨ (¬ p < 0 ∧ ¬ (m : Int) < p ∧ ¬ d < 0 ∧ 30 < d) ∨ (¬ p < 0 ∧ ¬ (m : Int) < p ∧ ¬ d < 0 ∧ ¬ 30 < d ∧ u < 0) ∨ (¬ p < 0 ∧ ¬ (m : Int) < p ∧ ¬ d < 0 ∧ ¬ 30 < d ∧ ¬ u < 0 ∧ 30 < u) := by omega
  clear hc
  rcases hc2 with h1 | ⟨h1, h2⟩ | ⟨h1, h2, h3⟩ | ⟨h1, h2, h3, h4⟩ | ⟨h1, h2, h3, h4, h5⟩ | ⟨h1, h2, h3, h4, h5, h6⟩
  all_goals
    go_enter Try.func4, Try.ntmps4
    go_wp2_with fail
    refine (begun_any w).mono ?_
    rintro e w1 ⟨rfl, hb1⟩
    have HB1 := Lib.hid hb1
    clear hb1
    go_wp2_with fail
    refine (cutl_sl w1 A n c 25 L HN.out hm (by omega) (HS.out.keep HB1.out) HZ.out).mono ?_
    rw [HMQ.out]
    rintro e w2 ⟨A2, c2, rfl, _, hb2⟩
    have HB2 := Lib.hid (HB1.out.trans (hb2.mono HB1.out.size))
    clear hb2
    go_wp2_with fail
    refine (cut_any key 20 (by omega) w2 HK.out).mono ?_
    rintro e w2' ⟨rfl, rfl⟩
    go_wp2
    go_ret
    exact ⟨rfl, HB2.out⟩
theorem originHeld.walk (w : World) (A : Option Addr) (n c : Nat) (L : List St) (h : L.length = n ∧ n ≤ c ∧ c ≤ maxLen ∧ (∀ o ∈ L, o.key.size ≤ maxLen ∧ o.val.size ≤ maxLen) ∧ Sl w A (L.flatMap St.cells)) (key : ByteArray) (hk : key.size ≤ maxLen) (p : Int) (_ : (Lit.int .i64 p).wf = true) (d : Int) (_ : (Lit.int .i64 d).wf = true) (u : Int) (_ : (Lit.int .i64 u).wf = true) :
    Calls Try.prog 4 #[.slice A n c, .string key, .int .i64 p, .int .i64 d, .int .i64 u] w fun e w' => e = .returned (.bool true) ∧ Below w.heap.size w w' := by
  obtain ⟨h1, h2, h3, h4, h5⟩ := h
  have hm : n ≤ 9223372036854775807 := by unfold maxLen at h3; omega
  by_cases hc : p < 0 ∨ ((cutL (min n 25) L).length : Int) < p ∨ d < 0 ∨ 30 < d ∨ u < 0 ∨ 30 < u
  · exact oheld_out w A n c L h1 hm h5 h4 key hk p d u hc
  · obtain ⟨p', rfl⟩ : ∃ k : Nat, p = k := ⟨p.toNat, by omega⟩
    obtain ⟨d', rfl⟩ : ∃ k : Nat, d = k := ⟨d.toNat, by omega⟩
    obtain ⟨u', rfl⟩ : ∃ k : Nat, u = k := ⟨u.toNat, by omega⟩
    exact oheld_in w A n c L h1 hm h5 h4 key hk p' d' u' (by omega) (by omega) (by omega)
end Go.Proofs.Ytmblkejgfoffaaa
