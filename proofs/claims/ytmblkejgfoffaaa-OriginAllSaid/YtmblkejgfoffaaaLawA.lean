/- The law OriginAll: its walk. No condition. -/
import Derived.Test.YtmblkejgfoffaaaLaws
namespace Go.Proofs.Ytmblkejgfoffaaa
open Go.RowKit
set_option maxHeartbeats 4000000 in
theorem originAll.walk (w : World) (A : Option Addr) (n c : Nat) (L : List St) (h : L.length = n ∧ n ≤ c ∧ c ≤ maxLen ∧ (∀ o ∈ L, o.key.size ≤ maxLen ∧ o.val.size ≤ maxLen) ∧ Sl w A (L.flatMap St.cells)) (key : ByteArray) (hk : key.size ≤ maxLen) (val : ByteArray) (hv : val.size ≤ maxLen) (has : Bool) (a : Int) (_ : (Lit.int .i64 a).wf = true) (b : Int) (_ : (Lit.int .i64 b).wf = true) :
    Calls Try.prog 3 #[.slice A n c, .string key, .string val, .bool has, .int .i64 a, .int .i64 b] w fun e w' => e = .returned (.bool true) ∧ Below w.heap.size w w' := by
  obtain ⟨hn, h2, h3, hz, hs⟩ := h
  have hm : n ≤ 9223372036854775807 := by unfold maxLen at h3; omega
  have HS := Lib.hid hs
  have HZ := Lib.hid hz
  have HN := Lib.hid hn
  have HK := Lib.hid hk
  have HVL := Lib.hid hv
  clear hs hz hn hk hv h2 h3
  have hql : (cutL (min n 25) L).length ≤ 25 := Nat.le_trans (cutL_len _ _) (Nat.min_le_right _ _)
  obtain ⟨m, hmq⟩ : ∃ m, (cutL (min n 25) L).length = m := ⟨_, rfl⟩
  have HMQ := Lib.hid hmq
  rw [hmq] at hql
  clear hmq
  go_enter Try.func3, Try.ntmps3
  go_wp2_with fail
  refine (begun_any w).mono ?_
  rintro e w1 ⟨rfl, hb1⟩
  have HB1 := Lib.hid hb1
  clear hb1
  go_wp2_with fail
  refine (cutl_sl w1 A n c 25 L HN.out hm (by omega) (HS.out.keep HB1.out) HZ.out).mono ?_
  rw [HMQ.out]
  rintro e w2 ⟨A2, c2, rfl, hs2, hb2⟩
  have HS2 := Lib.hid hs2
  have HB2 := Lib.hid (HB1.out.trans (hb2.mono HB1.out.size))
  clear hs2 hb2
  go_wp2_with fail
  refine (cut_any key 20 (by omega) w2 HK.out).mono ?_
  rintro e w2' ⟨rfl, rfl⟩
  generalize cutS key 20 = k
  go_wp2_with fail
  refine (cut_any val 30 (by omega) w2 HVL.out).mono ?_
  rintro e w2' ⟨rfl, rfl⟩
  generalize cutS val 30 = v
  go_wp2_with fail
  refine (made_cut w2 A2 (min n 25) c2 m L HMQ.out (by omega) HS2.out).mono ?_
  rintro e w3 ⟨O, M, rfl, ho3, hb3⟩
  have HO3 := Lib.hid (ho3.low HB2.out.size)
  have HB3 := Lib.hid (HB2.out.trans (hb3.mono HB2.out.size))
  have HS3 := Lib.hid (HS2.out.keep hb3)
  clear ho3 hb3 HS2
  generalize cutL (min n 25) L = Q at *
  have HLQ : Hid (Q.length < 1099511627) := Lib.hid (by rw [HMQ.out]; omega)
  have HS4 : Hid (∀ q, Sl (w3.drewN q) A2 (Q.flatMap St.cells)) := Lib.hid (fun _ => HS3.out)
  go_wp2_with fail
  refine (now_any w3 w.heap.size O M Q HO3.out).mono ?_
  rw [HMQ.out]
  rintro e w4 ⟨rfl, rfl⟩
  go_wp2
  go_loopw [15] (fun i wr => ∃ (j q : Nat), j ≤ m + 3 ∧ i = .int .i64 ((j : Int) - 1) ∧ wr = w3.drewN q) (fun i _ => (m + 2 - intOf i).toNat)
  case atStart => exact ⟨0, 0, by omega, rfl, rfl⟩
  case round =>
    obtain ⟨j, q, hj, rfl, rfl⟩ := hrel
    obtain ⟨x, hx⟩ : ∃ x : Int, x = (j : Int) - 1 := ⟨_, rfl⟩
    rw [← hx]
    have hx1 : -1 ≤ x := by omega
    have hx2 : x ≤ (m : Int) + 2 := by omega
    have HX : Hid (j = (x + 1).toNat) := Lib.hid (by omega)
    clear hx hj
    by_cases hle : x ≤ (m : Int) + 1
    · go_wp2_with fail
      refine (at_any (w3.drewN q) w.heap.size O M Q (HO3.out.drewN _) (by have := HLQ.out; omega) x k).mono ?_
      rintro e w5 ⟨rfl, n5, rfl⟩
      go_wp2_with fail
      refine (rat_any _ A2 m c2 Q HMQ.out (by omega) (HS4.out _) x k).mono ?_
      rintro e w6 ⟨rfl, n6, rfl⟩
      generalize atF Q x k = r0
      obtain ⟨v0, h0⟩ := r0
      have hbb : (h0 != h0) = false := by cases h0 <;> rfl
      go_wp2
      exact ⟨⟨(x + 2).toNat, _, by omega, by congr 1; omega, rfl⟩, by simp [intOf]; omega⟩
    · go_wp2_with fail
      refine (get_any (w3.drewN q) w.heap.size O M Q (HO3.out.drewN _) (by have := HLQ.out; omega) k).mono ?_
      rintro e w5 ⟨rfl, n5, rfl⟩
      have HAT : Hid (atF Q (m : Int) k = atS Q Q.length k) := Lib.hid (by
        unfold atF
        rw [if_neg (by rw [HMQ.out]; omega), HMQ.out]; rfl)
      go_wp2_with fail
      refine (rat_any _ A2 m c2 Q HMQ.out (by omega) (HS4.out _) (m : Int) k).mono ?_
      rw [HAT.out]
      rintro e w6 ⟨rfl, n6, rfl⟩
      generalize atS Q Q.length k = r0
      obtain ⟨v0, h0⟩ := r0
      have hbb : (h0 == h0) = true := by cases h0 <;> rfl
      go_wp2_with fail
      refine (held_any _ w.heap.size O M Q (HO3.out.drewN _) HLQ.out k v has a b).mono ?_
      rintro e w7 ⟨r1, rfl, hr1, hb7⟩
      have HR1 := Lib.hid hr1
      have HB7 := Lib.hid ((below_drewN HB3.out _).trans (hb7.mono (below_drewN HB3.out _).size))
      have HS7 := Lib.hid ((HS4.out _).keep hb7)
      clear hr1 hb7
      have RH := rheld_any w7 A2 c2 Q (by rw [HMQ.out]; omega) HS7.out k v has a b
      rw [HMQ.out] at RH
      go_wp2_with fail
      refine RH.mono ?_
      rintro e w8 ⟨r2, rfl, hr2, n8, rfl⟩
      obtain rfl : r1 = r2 := by
        rw [Bool.eq_iff_iff]
        exact HR1.out.trans hr2.symm
      have hbb2 : (r1 == r1) = true := by cases r1 <;> rfl
      clear hr2
      go_wp2
      go_ret
      exact ⟨rfl, below_drewN HB7.out _⟩
end Go.Proofs.Ytmblkejgfoffaaa
