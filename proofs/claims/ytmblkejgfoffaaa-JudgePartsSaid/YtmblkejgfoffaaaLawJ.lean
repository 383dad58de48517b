/- The law JudgeParts: its walk. No condition. -/
import Derived.Test.YtmblkejgfoffaaaJp
namespace Go.Proofs.Ytmblkejgfoffaaa
open Go.RowKit
set_option maxRecDepth 100000 in
set_option maxHeartbeats 8000000 in
theorem parts_out (w : World) (A : Option Addr) (n c : Nat) (L : List St) (hn : L.length = n) (hm : n ≤ 9223372036854775807) (hs : Sl w A (L.flatMap St.cells)) (hz : ∀ s ∈ L, s.key.size ≤ maxLen ∧ s.val.size ≤ maxLen)
    (A' : Option Addr) (n' c' : Nat) (L' : List Cl) (hn' : L'.length = n') (hm' : n' ≤ 9223372036854775807) (hs' : Sl w A' (L'.flatMap Cl.cells)) (hz' : ∀ s ∈ L', s.key.size ≤ maxLen ∧ s.val.size ≤ maxLen) (i : Int) (hi : i < 0 ∨ ((cutC (min n' 12) L').length : Int) ≤ i) :
    Calls Try.prog 9 #[.slice A n c, .slice A' n' c', .int .i64 i] w fun e w' => e = .returned (.bool true) ∧ Below w.heap.size w w' := by
  have HS := Lib.hid hs
  have HZ := Lib.hid hz
  have HN := Lib.hid hn
  have HS' := Lib.hid hs'
  have HZ' := Lib.hid hz'
  have HN' := Lib.hid hn'
  clear hs hz hn hs' hz' hn'
  have hq1 : (cutL (min n 12) L).length ≤ 12 := Nat.le_trans (cutL_len _ _) (Nat.min_le_right _ _)
  have hq2 : (cutC (min n' 12) L').length ≤ 12 := Nat.le_trans (cutC_len _ _) (Nat.min_le_right _ _)
  obtain ⟨m1, hm1⟩ : ∃ m, (cutL (min n 12) L).length = m := ⟨_, rfl⟩
  obtain ⟨m2, hm2⟩ : ∃ m, (cutC (min n' 12) L').length = m := ⟨_, rfl⟩
  have HM1 := Lib.hid hm1
  have HM2 := Lib.hid hm2
  rw [hm1] at hq1
  rw [hm2] at hq2 hi
  clear hm1 hm2
  have hi2 : i < 0 ∨ (¬ i < 0 ∧ (m2 : Int) ≤ i) := by omega
  clear hi
  rcases hi2 with h1 | ⟨h1, h2⟩
  all_goals
    go_enter Try.func9, Try.ntmps9
    go_wp2_with fail
    refine (begun28 w).mono ?_
    rintro e w1 ⟨rfl, hb1⟩
    have HB1 := Lib.hid hb1
    clear hb1
    go_wp2_with fail
    refine (cutl_sl w1 A n c 12 L HN.out hm (by omega) (HS.out.keep HB1.out) HZ.out).mono ?_
    rw [HM1.out]
    rintro e w2 ⟨A2, c2, rfl, hs2, hb2⟩
    have HS2 := Lib.hid hs2
    have HB2 := Lib.hid (HB1.out.trans (hb2.mono HB1.out.size))
    clear hs2 hb2
    go_wp2_with fail
    refine (cutc_sl w2 A' n' c' L' HN'.out hm' (HS'.out.keep HB2.out) HZ'.out).mono ?_
    rw [HM2.out]
    rintro e w3 ⟨A3, c3, rfl, hc3, hc3m, hs3, hb3⟩
    have HS3 := Lib.hid hs3
    have HS23 := Lib.hid (HS2.out.keep hb3)
    have HB3 := Lib.hid (HB2.out.trans (hb3.mono HB2.out.size))
    clear hs3 hb3 HS2
    go_wp2_with fail
    refine (made_cut w3 A2 (min n 12) c2 m1 L HM1.out (by omega) HS23.out).mono ?_
    rintro e w4 ⟨O, M, rfl, ho4, hb4⟩
    have HO4 := Lib.hid ho4
    have HB4 := Lib.hid (HB3.out.trans (hb4.mono HB3.out.size))
    have HS4 := Lib.hid (HS3.out.keep hb4)
    clear ho4 hb4 HS3 HS23
    go_wp2
    go_ret
    exact ⟨rfl, HB4.out⟩
set_option maxRecDepth 100000 in
set_option maxHeartbeats 16000000 in
theorem parts_in (w : World) (A : Option Addr) (n c : Nat) (L : List St) (hn : L.length = n) (hm : n ≤ 9223372036854775807) (hs : Sl w A (L.flatMap St.cells)) (hz : ∀ s ∈ L, s.key.size ≤ maxLen ∧ s.val.size ≤ maxLen)
    (A' : Option Addr) (n' c' : Nat) (L' : List Cl) (hn' : L'.length = n') (hm' : n' ≤ 9223372036854775807) (hs' : Sl w A' (L'.flatMap Cl.cells)) (hz' : ∀ s ∈ L', s.key.size ≤ maxLen ∧ s.val.size ≤ maxLen) (i : Nat) (hi : i < (cutC (min n' 12) L').length) :
    Calls Try.prog 9 #[.slice A n c, .slice A' n' c', .int .i64 (i : Int)] w fun e w' => e = .returned (.bool true) ∧ Below w.heap.size w w' := by
  obtain ⟨i0, hi0, hz0, hz1, hz2⟩ := info_parts info45
  have HI0 := Lib.hid (And.intro hi0 (And.intro hz0 (And.intro hz1 hz2)))
  clear hi0 hz0 hz1 hz2
  have HS := Lib.hid hs
  have HZ := Lib.hid hz
  have HN := Lib.hid hn
  have HS' := Lib.hid hs'
  have HZ' := Lib.hid hz'
  have HN' := Lib.hid hn'
  clear hs hz hn hs' hz' hn'
  have hq1 : (cutL (min n 12) L).length ≤ 12 := Nat.le_trans (cutL_len _ _) (Nat.min_le_right _ _)
  have hq2 : (cutC (min n' 12) L').length ≤ 12 := Nat.le_trans (cutC_len _ _) (Nat.min_le_right _ _)
  obtain ⟨m1, hm1⟩ : ∃ m, (cutL (min n 12) L).length = m := ⟨_, rfl⟩
  obtain ⟨m2, hm2⟩ : ∃ m, (cutC (min n' 12) L').length = m := ⟨_, rfl⟩
  have HM1 := Lib.hid hm1
  have HM2 := Lib.hid hm2
  rw [hm1] at hq1
  rw [hm2] at hq2 hi
  clear hm1 hm2
  have i1 : ¬ (i : Int) < 0 := by omega
  have i2 : ¬ (m2 : Int) ≤ (i : Int) := by omega
  have i3 : (i : Int) < (m2 : Int) := by omega
  have i4 : (0 : Int) ≤ (i : Int) := by omega
  have i5 : decide (m2 ≤ i) = false := decide_eq_false (by omega)
  have i6 : decide ((i : Int) < 0) = false := decide_eq_false (by omega)
  go_enter Try.func9, Try.ntmps9
  go_wp2_with fail
  refine (begun28 w).mono ?_
  rintro e w1 ⟨rfl, hb1⟩
  have HB1 := Lib.hid hb1
  clear hb1
  go_wp2_with fail
  refine (cutl_sl w1 A n c 12 L HN.out hm (by omega) (HS.out.keep HB1.out) HZ.out).mono ?_
  rw [HM1.out]
  rintro e w2 ⟨A2, c2, rfl, hs2, hb2⟩
  have HS2 := Lib.hid hs2
  have HB2 := Lib.hid (HB1.out.trans (hb2.mono HB1.out.size))
  clear hs2 hb2
  go_wp2_with fail
  refine (cutc_sl w2 A' n' c' L' HN'.out hm' (HS'.out.keep HB2.out) HZ'.out).mono ?_
  rw [HM2.out]
  rintro e w3 ⟨A3, c3, rfl, hc3, hc3m, hs3, hb3⟩
  have HS3 := Lib.hid hs3
  have HS23 := Lib.hid (HS2.out.keep hb3)
  have HB3 := Lib.hid (HB2.out.trans (hb3.mono HB2.out.size))
  clear hs3 hb3 HS2
  go_wp2_with fail
  refine (made_cut w3 A2 (min n 12) c2 m1 L HM1.out (by omega) HS23.out).mono ?_
  rintro e w4 ⟨O, M, rfl, ho4, hb4⟩
  have HO4 := Lib.hid ho4
  have HB4 := Lib.hid (HB3.out.trans (hb4.mono HB3.out.size))
  have HS4 := Lib.hid (HS3.out.keep hb4)
  clear ho4 hb4 HS3 HS23
  generalize cutL (min n 12) L = Q at *
  generalize cutC (min n' 12) L' = l at *
  have HLI : Hid (i < l.length) := Lib.hid (by rw [HM2.out]; exact hi)
  obtain ⟨x, hx⟩ : ∃ x, l[i]'(HLI.out) = x := ⟨_, rfl⟩
  have HX := Lib.hid hx
  obtain ⟨bb, offb, rfl, hxs⟩ := HS4.out.flat (C := 13) (fun _ => rfl) (by decide) i HLI.out
  rw [hx] at hxs
  have xk0 : w4.cell? ⟨bb, offb + i * 13 + 2, none⟩ = some (.string x.key) := hxs 2 _ rfl
  have hbb : bb < w4.heap.size := World.block_lt_of_cell? w4 _ xk0
  obtain ⟨xk, hxk⟩ : ∃ xk, x.key = xk := ⟨_, rfl⟩
  rw [hxk] at xk0
  have HXK := Lib.hid hxk
  clear hx hxs hxk
  have hc3m' : c3 ≤ 9223372036854775807 := hc3m
  go_wp2
  go_loopw [9, 10] (fun v j wr => ∃ k : Nat, k ≤ i + 1 ∧ j = .int .i64 k ∧ wr.ownsRow w4.heap.size 45 13 v (ownTo x l k).length ((ownTo x l k).flatMap Cl.cells) ∧ Below w4.heap.size w4 wr) (fun _ j _ => i + 1 - (intOf j).toNat)
  case atStart => exact ⟨0, Nat.zero_le _, rfl, World.ownsRow_nil _ _ _ _, Below.refl _ _⟩
  case round =>
    obtain ⟨k, hk, rfl, hown, hb⟩ := hrel
    have HOWN := Lib.hid hown
    have HB := Lib.hid hb
    have hsz := hb.size
    clear hown hb
    by_cases hlt : k ≤ i
    · have hkl : k < l.length := by rw [HM2.out]; omega
      obtain ⟨b', off', he, hcs⟩ := (HS4.out.keep HB.out).flat (C := 13) (fun _ => rfl) (by decide) k hkl
      cases he
      have HOT := Lib.hid (ownTo_succ x l k hkl)
      have hcs' : ∀ r v, l[k].cells[r]? = some v → wr.cell? ⟨bb, offb + k * 13 + r, none⟩ = some v := fun r v h => by rw [Nat.add_assoc]; exact hcs r v h
      clear hcs
      generalize l[k] = cc at *
      obtain ⟨cid, cop, ckey, cnode, cfrm, cto, cdone, crid, crop, crkey, cerr, cval, chas⟩ := cc
      have g0 : wr.cell? ⟨bb, offb + k * 13, none⟩ = some (.int .i64 cid) := hcs' 0 _ rfl
      have g1 : wr.cell? ⟨bb, offb + k * 13 + 1, none⟩ = some (.int .i64 cop) := hcs' 1 _ rfl
      have g2 : wr.cell? ⟨bb, offb + k * 13 + 2, none⟩ = some (.string ckey) := hcs' 2 _ rfl
      have g3 : wr.cell? ⟨bb, offb + k * 13 + 3, none⟩ = some (.int .i64 cnode) := hcs' 3 _ rfl
      have g4 : wr.cell? ⟨bb, offb + k * 13 + 4, none⟩ = some (.int .i64 cfrm) := hcs' 4 _ rfl
      have g5 : wr.cell? ⟨bb, offb + k * 13 + 5, none⟩ = some (.int .i64 cto) := hcs' 5 _ rfl
      have g6 : wr.cell? ⟨bb, offb + k * 13 + 6, none⟩ = some (.bool cdone) := hcs' 6 _ rfl
      have g7 : wr.cell? ⟨bb, offb + k * 13 + 7, none⟩ = some (.int .i64 crid) := hcs' 7 _ rfl
      have g8 : wr.cell? ⟨bb, offb + k * 13 + 8, none⟩ = some (.int .i64 crop) := hcs' 8 _ rfl
      have g9 : wr.cell? ⟨bb, offb + k * 13 + 9, none⟩ = some (.string crkey) := hcs' 9 _ rfl
      have g10 : wr.cell? ⟨bb, offb + k * 13 + 10, none⟩ = some (.int .i64 cerr) := hcs' 10 _ rfl
      have g11 : wr.cell? ⟨bb, offb + k * 13 + 11, none⟩ = some (.string cval) := hcs' 11 _ rfl
      have g12 : wr.cell? ⟨bb, offb + k * 13 + 12, none⟩ = some (.bool chas) := hcs' 12 _ rfl
      clear hcs'
      have xk1 : wr.cell? ⟨bb, offb + i * 13 + 2, none⟩ = some (.string xk) := (HB.out.cell (p := ⟨bb, offb + i * 13 + 2, none⟩) hbb).trans xk0
      have k1 : (0 : Int) ≤ (k : Int) := by omega
      have k2 : (k : Int) < (m2 : Int) := by omega
      have k3 : (k : Int) ≤ (i : Int) := by omega
      have hle := ownTo_len x l k
      cases hs : (ckey.toList == xk.toList) with
      | true =>
        have HE : Hid (ownTo x l (k + 1) = ownTo x l k ++ [⟨cid, cop, ckey, cnode, cfrm, cto, cdone, crid, crop, crkey, cerr, cval, chas⟩]) := Lib.hid (by
          rw [HOT.out, if_pos]
          unfold sameK
          rw [HXK.out]
          exact hs)
        go_wp2
        go_quiet (fail)
        have HOA := Lib.hid (World.ownsRow.alloc (w := wr.drewN nq) HOWN.out (.cells #[.int .i64 cid, .int .i64 cop, .string ckey, .int .i64 cnode, .int .i64 cfrm, .int .i64 cto, .bool cdone, .int .i64 crid, .int .i64 crop, .string crkey, .int .i64 cerr, .string cval, .bool chas] 45))
        have HN1 := Lib.hid (World.news_of_block (heap_alloc_new (wr.drewN nq) (.cells #[.int .i64 cid, .int .i64 cop, .string ckey, .int .i64 cnode, .int .i64 cfrm, .int .i64 cto, .bool cdone, .int .i64 crid, .int .i64 crop, .string crkey, .int .i64 cerr, .string cval, .bool chas] 45)))
        have HN2 : Hid (∀ u ∈ ([.int .i64 cid, .int .i64 cop, .string ckey, .int .i64 cnode, .int .i64 cfrm, .int .i64 cto, .bool cdone, .int .i64 crid, .int .i64 crop, .string crkey, .int .i64 cerr, .string cval, .bool chas] : List Value), u.oneCell' = true) := Lib.hid (by simp [Value.oneCell'])
        have HN3 : Hid ((ownTo x l k).length + 1 ≤ maxLen ∧ ((ownTo x l k).length + 1) * 128 ≤ 140737488355328) := Lib.hid (by unfold maxLen; omega)
        have HN4 : Hid (w4.heap.size ≤ ((wr.drewN nq).alloc (.cells #[.int .i64 cid, .int .i64 cop, .string ckey, .int .i64 cnode, .int .i64 cfrm, .int .i64 cto, .bool cdone, .int .i64 crid, .int .i64 crop, .string crkey, .int .i64 cerr, .string cval, .bool chas] 45)).heap.size) := Lib.hid (by rw [World.size_alloc]; show w4.heap.size ≤ wr.heap.size + 1; omega)
        go_wp2_with (at_builtin; refine wpList_append_own _ rfl (.tmp 52) (.tmp 57) 40 rfl w4.heap.size 45 i0 _ 13 128 Try.underlying40 HI0.out.1 HI0.out.2.1 HI0.out.2.2.1 HI0.out.2.2.2 rfl (by decide) _ _ _ rfl HOA.out ⟨wr.heap.size, 0, none⟩ 1 1 [.int .i64 cid, .int .i64 cop, .string ckey, .int .i64 cnode, .int .i64 cfrm, .int .i64 cto, .bool cdone, .int .i64 crid, .int .i64 crop, .string crkey, .int .i64 cerr, .string cval, .bool chas] rfl rfl HN1.out HN2.out HN3.out.1 HN3.out.2 HN4.out ?_)
        intro v' w' hown' hg _
        have HO9 : Hid (w'.ownsRow w4.heap.size 45 13 v' (ownTo x l (k + 1)).length ((ownTo x l (k + 1)).flatMap Cl.cells)) := Lib.hid (by
          rw [HE.out, List.flatMap_append, List.length_append]
          exact hown')
        have HB9 : Hid (Below w4.heap.size w4 w') := Lib.hid (((below_drewN HB.out nq).alloc (by show w4.heap.size ≤ wr.heap.size; omega) (.cells #[.int .i64 cid, .int .i64 cop, .string ckey, .int .i64 cnode, .int .i64 cfrm, .int .i64 cto, .bool cdone, .int .i64 crid, .int .i64 crop, .string crkey, .int .i64 cerr, .string cval, .bool chas] 45)).grown hg HN4.out (fun g hg' => (HOWN.out.lt g hg').1))
        clear hown' hg
        go_wp2
        go_roundw
        case rel => exact ⟨k + 1, by omega, by go_num, HO9.out, HB9.out⟩
        case measure => simp [intOf]; omega
      | false =>
        have HE : Hid (ownTo x l (k + 1) = ownTo x l k) := Lib.hid (by
          rw [HOT.out, if_neg, List.append_nil]
          unfold sameK
          rw [HXK.out]
          show ¬ (ckey.toList == xk.toList) = true
          rw [hs]
          simp)
        go_wp2
        go_quiet (fail)
        go_wp2
        go_roundw
        case rel => exact ⟨k + 1, by omega, by go_num, by rw [HE.out]; exact HOWN.out, below_drewN HB.out _⟩
        case measure => simp [intOf]; omega
    · obtain rfl : k = i + 1 := by omega
      obtain ⟨j, hj1, hj2⟩ : ∃ j, (ownTo x l (i + 1)).length = j + 1 ∧ sinceF (ownTo x l (i + 1)) j = sinceF l i := by
        have := since_own l i HLI.out
        rw [HX.out] at this
        exact this
      obtain ⟨A5, c5, rfl, hc5, _, hs5, _⟩ := own_flat (C := 13) HOWN.out
      have HJ1 := Lib.hid hj1
      have HJ2 := Lib.hid hj2
      have hjn := ownTo_len x l (i + 1)
      rw [hj1] at hc5 hjn
      rw [hj1]
      have HS5 := Lib.hid hs5
      have HT1 : Hid ((l.take (i + 1)).length = i + 1) := Lib.hid (by rw [List.length_take, HM2.out]; omega)
      have HT2 : Hid (sinceF (l.take (i + 1)) i = sinceF l i) := Lib.hid (since_take l i (i + 1) (by omega))
      have HT3 : Hid (badTo Q (l.take (i + 1)) (i + 1) = badTo Q l (i + 1)) := Lib.hid (badTo_take Q l (i + 1) _ (Nat.le_refl _))
      obtain ⟨r, hr⟩ := badTo_prefix Q l (i + 1) m2 (by omega)
      have HR := Lib.hid hr
      have hz1 := badTo_le Q l (i + 1)
      have hz2 := badTo_le Q l m2
      clear hj1 hj2 hs5 hr hlt hk HOWN
      generalize ownTo x l (i + 1) = own at *
      have HSl := Lib.hid (HS4.out.keep HB.out)
      have HOl := Lib.hid (HO4.out.below HB.out)
      have HBl := Lib.hid (HB4.out.trans (HB.out.mono HB4.out.size))
      clear HB xk0
      have j1 : (0 : Int) ≤ (j : Int) := by omega
      have j2 : ((i : Int) + 1) ≤ (c3 : Int) := by omega
      go_wp2_with fail
      refine (since_in wr (some ⟨bb, offb, none⟩) m2 c3 l HM2.out (by omega) hc3 HSl.out i hi).mono ?_
      rintro e w5 ⟨rfl, hb5⟩
      have HSl5 := Lib.hid (HSl.out.keep hb5)
      have HSo5 := Lib.hid (HS5.out.keep hb5)
      have HO5 := Lib.hid (HOl.out.below hb5)
      have HB5 := Lib.hid (HBl.out.trans (hb5.mono HBl.out.size))
      clear hb5 HSl HOl HBl HS5
      go_wp2_with fail
      refine (since_in w5 A5 (j + 1) c5 own HJ1.out (by omega) hc5 HSo5.out j (by omega)).mono ?_
      rw [HJ2.out]
      rintro e w6 ⟨rfl, hb6⟩
      have HSl6 := Lib.hid (HSl5.out.keep hb6)
      have HO6 := Lib.hid (HO5.out.below hb6)
      have HB6 := Lib.hid (HB5.out.trans (hb6.mono HB5.out.size))
      clear hb6 HSl5 HO5 HB5 HSo5
      obtain ⟨S, hS⟩ : ∃ S, sinceF l i = S := ⟨_, rfl⟩
      have HT4 := Lib.hid hS
      rw [hS] at HT2 HJ2 ⊢
      clear hS
      go_wp2_with fail
      refine (since_in w6 (some ⟨bb, offb, none⟩) (i + 1) c3 (l.take (i + 1)) HT1.out (by omega) (by omega) (HSl6.out.cut (i + 1)) i (by omega)).mono ?_
      rw [HT2.out]
      rintro e w7 ⟨rfl, hb7⟩
      have HSl7 := Lib.hid (HSl6.out.keep hb7)
      have HO7 := Lib.hid (HO6.out.below hb7)
      have HB7 := Lib.hid (HB6.out.trans (hb7.mono HB6.out.size))
      clear hb7 HSl6 HO6 HB6
      go_wp2_with fail
      have SI := since_in w7 (some ⟨bb, offb, none⟩) m2 c3 l HM2.out (by omega) hc3 HSl7.out i hi
      rw [HT4.out] at SI
      refine SI.mono ?_
      rintro e w8 ⟨rfl, hb8⟩
      have HSl8 := Lib.hid (HSl7.out.keep hb8)
      have HO8 := Lib.hid (HO7.out.below hb8)
      have HB8 := Lib.hid (HB7.out.trans (hb8.mono HB7.out.size))
      clear hb8 HSl7 HO7 HB7
      go_wp2_with fail
      have B1 := bad_sl w8 w3.heap.size O M Q HO8.out (by rw [HM1.out]; omega) (some ⟨bb, offb, none⟩) (i + 1) c3 (l.take (i + 1)) HT1.out (by omega) (by omega) (HSl8.out.cut (i + 1))
      rw [HT3.out] at B1
      refine B1.mono ?_
      rintro e w9 ⟨A9, c9, rfl, hs9, hb9⟩
      have HSl9 := Lib.hid (HSl8.out.keep hb9)
      have HO9 := Lib.hid (HO8.out.below hb9)
      have HB9 := Lib.hid (HB8.out.trans (hb9.mono HB8.out.size))
      have HA9 := Lib.hid hs9
      clear hb9 HSl8 HO8 HB8 hs9
      go_wp2_with fail
      have B2 := bad_sl w9 w3.heap.size O M Q HO9.out (by rw [HM1.out]; omega) (some ⟨bb, offb, none⟩) m2 c3 l HM2.out (by omega) hc3 HSl9.out
      rw [HR.out] at B2 hz2
      refine B2.mono ?_
      rintro e w10 ⟨A10, c10, rfl, hs10, hb10⟩
      have HB10 := Lib.hid (HB9.out.trans (hb10.mono HB9.out.size))
      have HA10 := Lib.hid (HA9.out.keep hb10)
      have HZ10 := Lib.hid hs10
      clear hb10 HSl9 HO9 HB9 hs10 HA9
      generalize badTo Q l (i + 1) = za at *
      obtain ⟨na, hna⟩ : ∃ na, za.length = na := ⟨_, rfl⟩
      obtain ⟨nb, hnb⟩ : ∃ nb, (za ++ r).length = nb := ⟨_, rfl⟩
      have hab : na ≤ nb := by rw [← hna, ← hnb, List.length_append]; omega
      have HNA := Lib.hid hna
      have HNB := Lib.hid hnb
      rw [hna] at hz1 ⊢
      rw [hnb] at hz2 ⊢
      clear hna hnb
      go_wp2
      go_loopw [14] (fun v wr => ∃ (k q : Nat), k ≤ na ∧ v = .int .i64 k ∧ wr = w10.drewN q) (fun v _ => na - (intOf v).toNat)
      case atStart => exact ⟨0, 0, Nat.zero_le _, rfl, rfl⟩
      case round =>
        obtain ⟨k, q, hk, rfl, rfl⟩ := hrel
        by_cases hlt : k < na
        · have hl1 : k < za.length := by rw [HNA.out]; exact hlt
          have hl2 : k < (za ++ r).length := by rw [HNB.out]; omega
          obtain ⟨b1, o1, rfl, g1⟩ := HA10.out.at_ k (by rw [List.length_map]; exact hl1)
          obtain ⟨b2, o2, rfl, g2⟩ := HZ10.out.at_ k (by rw [List.length_map]; exact hl2)
          rw [List.getElem_map] at g1 g2
          rw [List.getElem_append_left hl1] at g2
          generalize za[k] = z at *
          have q1 : (0 : Int) ≤ (k : Int) := by omega
          have q2 : (k : Int) < (na : Int) := by omega
          have q3 : (k : Int) < (nb : Int) := by omega
          go_wp2
          go_quiet (fail)
          go_wp2
          exact ⟨⟨k + 1, _, by omega, by go_num, rfl⟩, by simp [intOf]; omega⟩
        · have hlt2 : ¬ (k : Int) < (na : Int) := by omega
          go_wp2
          go_ret
          exact ⟨rfl, below_drewN HB10.out _⟩
theorem judgeParts.walk (w : World) (A : Option Addr) (n c : Nat) (L : List St) (h : L.length = n ∧ n ≤ c ∧ c ≤ maxLen ∧ (∀ o ∈ L, o.key.size ≤ maxLen ∧ o.val.size ≤ maxLen) ∧ Sl w A (L.flatMap St.cells))
    (A' : Option Addr) (n' c' : Nat) (L' : List Cl) (h' : L'.length = n' ∧ n' ≤ c' ∧ c' ≤ maxLen ∧ (∀ o ∈ L', o.key.size ≤ maxLen ∧ o.val.size ≤ maxLen) ∧ Sl w A' (L'.flatMap Cl.cells)) (i : Int) (_ : (Lit.int .i64 i).wf = true) :
    Calls Try.prog 9 #[.slice A n c, .slice A' n' c', .int .i64 i] w fun e w' => e = .returned (.bool true) ∧ Below w.heap.size w w' := by
  obtain ⟨h1, h2, h3, h4, h5⟩ := h
  obtain ⟨h1', h2', h3', h4', h5'⟩ := h'
  by_cases hc : i < 0 ∨ ((cutC (min n' 12) L').length : Int) ≤ i
  · exact parts_out w A n c L h1 (by unfold maxLen at h3; omega) h5 h4 A' n' c' L' h1' (by unfold maxLen at h3'; omega) h5' h4' i hc
  · obtain ⟨j, rfl⟩ : ∃ j : Nat, i = j := ⟨i.toNat, by omega⟩
    exact parts_in w A n c L h1 (by unfold maxLen at h3; omega) h5 h4 A' n' c' L' h1' (by unfold maxLen at h3'; omega) h5' h4' j (by omega)
end Go.Proofs.Ytmblkejgfoffaaa
