/- The law JudgeReads: its walk. No condition. -/
import Derived.Test.YtmblkejgfoffaaaJr
namespace Go.Proofs.Ytmblkejgfoffaaa
open Go.RowKit
set_option maxRecDepth 100000 in
set_option maxHeartbeats 16000000 in
theorem judgeReads.walk (w : World) (A : Option Addr) (n c : Nat) (L : List St) (h : L.length = n ∧ n ≤ c ∧ c ≤ maxLen ∧ (∀ o ∈ L, o.key.size ≤ maxLen ∧ o.val.size ≤ maxLen) ∧ Sl w A (L.flatMap St.cells)) (key : ByteArray) (hk : key.size ≤ maxLen)
    (A' : Option Addr) (n' c' : Nat) (zs : List Int) (h' : zs.length = n' ∧ n' ≤ c' ∧ c' ≤ maxLen ∧ (∀ z ∈ zs, (Lit.int .i64 z).wf = true) ∧ Sl w A' (zs.map (.int .i64))) :
    Calls Try.prog 8 #[.slice A n c, .string key, .slice A' n' c'] w fun e w' => e = .returned (.bool true) ∧ Below w.heap.size w w' := by
  obtain ⟨hn, h2, h3, hz, hs⟩ := h
  obtain ⟨hn', h2', h3', hw', hs'⟩ := h'
  have hm : n ≤ 9223372036854775807 := by unfold maxLen at h3; omega
  have hm' : n' ≤ 9223372036854775807 := by unfold maxLen at h3'; omega
  obtain ⟨i0, hi0, hz0, hz1, hz2⟩ := info_parts info45
  have HI0 := Lib.hid (And.intro hi0 (And.intro hz0 (And.intro hz1 hz2)))
  clear hi0 hz0 hz1 hz2
  have HS := Lib.hid hs
  have HZ := Lib.hid hz
  have HN := Lib.hid hn
  have HS' := Lib.hid hs'
  have HN' := Lib.hid hn'
  have HK := Lib.hid hk
  clear hs hz hn hs' hn' hk h2 h3 h2' h3' hw'
  have hq1 : (cutL (min n 15) L).length ≤ 15 := Nat.le_trans (cutL_len _ _) (Nat.min_le_right _ _)
  obtain ⟨m, hm1⟩ : ∃ m, (cutL (min n 15) L).length = m := ⟨_, rfl⟩
  have HM1 := Lib.hid hm1
  rw [hm1] at hq1
  have HNORM : Hid (∀ s ∈ cutL (min n 15) L, norm s = s) := Lib.hid (by
    intro s hs
    unfold cutL at hs
    obtain ⟨x, _, rfl⟩ := List.mem_map.1 hs
    unfold cut1 norm
    cases x.has <;> rfl)
  clear hm1
  go_enter Try.func8, Try.ntmps8
  go_wp2_with fail
  refine (begun28 w).mono ?_
  rintro e w1 ⟨rfl, hb1⟩
  have HB1 := Lib.hid hb1
  clear hb1
  go_wp2_with fail
  refine (cutl_sl w1 A n c 15 L HN.out hm (by omega) (HS.out.keep HB1.out) HZ.out).mono ?_
  rw [HM1.out]
  rintro e w2 ⟨A2, c2, rfl, hs2, hb2⟩
  have HS2 := Lib.hid hs2
  have HB2 := Lib.hid (HB1.out.trans (hb2.mono HB1.out.size))
  clear hs2 hb2
  go_wp2_with fail
  refine (cut_any key 20 (by omega) w2 HK.out).mono ?_
  rintro e w2' ⟨rfl, rfl⟩
  generalize cutS key 20 = ky
  go_wp2_with fail
  refine (made_cut w2 A2 (min n 15) c2 m L HM1.out (by omega) HS2.out).mono ?_
  rintro e w3 ⟨O, M, rfl, ho3, hb3⟩
  have HO3 := Lib.hid ho3
  have HB3 := Lib.hid (HB2.out.trans (hb3.mono HB2.out.size))
  clear ho3 hb3 HS2
  generalize cutL (min n 15) L = Q at *
  have HS3 := Lib.hid (HS'.out.keep HB3.out)
  go_wp2
  go_loopw [9, 10] (fun v i wr => ∃ j : Nat, j ≤ n' ∧ j ≤ 10 ∧ i = .int .i64 j ∧ wr.ownsRow w3.heap.size 45 13 v j ((rds Q ky m zs j).flatMap Cl.cells) ∧ Below w3.heap.size w3 wr) (fun _ i _ => n' - (intOf i).toNat)
  case atStart => exact ⟨0, Nat.zero_le _, Nat.zero_le _, rfl, World.ownsRow_nil _ _ _ _, Below.refl _ _⟩
  case round =>
    obtain ⟨j, hj, hj10, rfl, hown, hb⟩ := hrel
    have HOWN := Lib.hid hown
    have HB := Lib.hid hb
    have hsz := hb.size
    clear hown hb
    by_cases hgo : j < n' ∧ j < 10
    · obtain ⟨hlt, hl10⟩ := hgo
      have hjl : j < zs.length := by rw [HN'.out]; exact hlt
      obtain ⟨b, off, rfl, hc⟩ := (HS3.out.keep HB.out).at_ j (by rw [List.length_map]; exact hjl)
      rw [List.getElem_map] at hc
      have HRS := Lib.hid (rds_succ Q ky m zs j hjl)
      generalize zs[j] = z at *
      have htm := tmB m z
      have HPE := Lib.hid (pz_eq m z)
      have hpz := pz_le m z
      have j3 : decide ((j : Int) < 10) = true := decide_eq_true (by omega)
      obtain ⟨ht1, ht2⟩ := htm
      go_wp2_with fail
      rw [HPE.out]
      clear ht1 ht2 hc
      generalize pz m z = p at *
      have HAT : Hid (atF Q (p : Int) ky = atS Q p ky) := Lib.hid (by unfold atF; rw [if_neg (by rw [HM1.out]; omega)]; rfl)
      refine (at_any wr w2.heap.size O M Q (HO3.out.below HB.out) (by rw [HM1.out]; omega) (p : Int) ky).mono ?_
      rw [HAT.out]
      rintro e w5 ⟨rfl, n5, rfl⟩
      have HE : Hid (rds Q ky m zs (j + 1) = rds Q ky m zs j ++ [⟨(j : Int) + 1, 1, ky, 0, p, p, true, 0, 0, ⟨#[]⟩, 0, (atS Q p ky).1, (atS Q p ky).2⟩]) := Lib.hid HRS.out
      generalize atS Q p ky = r0 at *
      obtain ⟨v0, h0⟩ := r0
      have HOA := Lib.hid (World.ownsRow.alloc (w := wr.drewN n5) HOWN.out (.cells #[.int .i64 ((j : Int) + 1), .int .i64 1, .string ky, .int .i64 0, .int .i64 (p : Int), .int .i64 (p : Int), .bool true, .int .i64 0, .int .i64 0, .string ⟨#[]⟩, .int .i64 0, .string v0, .bool h0] 45))
      have HN1 := Lib.hid (World.news_of_block (heap_alloc_new (wr.drewN n5) (.cells #[.int .i64 ((j : Int) + 1), .int .i64 1, .string ky, .int .i64 0, .int .i64 (p : Int), .int .i64 (p : Int), .bool true, .int .i64 0, .int .i64 0, .string ⟨#[]⟩, .int .i64 0, .string v0, .bool h0] 45)))
      have HN2 : Hid (∀ u ∈ ([.int .i64 ((j : Int) + 1), .int .i64 1, .string ky, .int .i64 0, .int .i64 (p : Int), .int .i64 (p : Int), .bool true, .int .i64 0, .int .i64 0, .string ⟨#[]⟩, .int .i64 0, .string v0, .bool h0] : List Value), u.oneCell' = true) := Lib.hid (by simp [Value.oneCell'])
      have HN3 : Hid (j + 1 ≤ maxLen ∧ (j + 1) * 128 ≤ 140737488355328) := Lib.hid (by unfold maxLen; omega)
      have HN4 : Hid (w3.heap.size ≤ ((wr.drewN n5).alloc (.cells #[.int .i64 ((j : Int) + 1), .int .i64 1, .string ky, .int .i64 0, .int .i64 (p : Int), .int .i64 (p : Int), .bool true, .int .i64 0, .int .i64 0, .string ⟨#[]⟩, .int .i64 0, .string v0, .bool h0] 45)).heap.size) := Lib.hid (by rw [World.size_alloc]; show w3.heap.size ≤ wr.heap.size + 1; omega)
      go_wp2_with (at_builtin; refine wpList_append_own _ rfl (.tmp 63) (.tmp 73) 40 rfl w3.heap.size 45 i0 _ 13 128 Try.underlying40 HI0.out.1 HI0.out.2.1 HI0.out.2.2.1 HI0.out.2.2.2 rfl (by decide) _ _ _ rfl HOA.out ⟨wr.heap.size, 0, none⟩ 1 1 [.int .i64 ((j : Int) + 1), .int .i64 1, .string ky, .int .i64 0, .int .i64 (p : Int), .int .i64 (p : Int), .bool true, .int .i64 0, .int .i64 0, .string ⟨#[]⟩, .int .i64 0, .string v0, .bool h0] rfl rfl HN1.out HN2.out HN3.out.1 HN3.out.2 HN4.out ?_)
      intro v' w' hown' hg _
      have HO9 : Hid (w'.ownsRow w3.heap.size 45 13 v' (j + 1) ((rds Q ky m zs (j + 1)).flatMap Cl.cells)) := Lib.hid (by
        rw [HE.out, List.flatMap_append]
        exact hown')
      have HB9 : Hid (Below w3.heap.size w3 w') := Lib.hid (((below_drewN HB.out n5).alloc (by show w3.heap.size ≤ wr.heap.size; omega) (.cells #[.int .i64 ((j : Int) + 1), .int .i64 1, .string ky, .int .i64 0, .int .i64 (p : Int), .int .i64 (p : Int), .bool true, .int .i64 0, .int .i64 0, .string ⟨#[]⟩, .int .i64 0, .string v0, .bool h0] 45)).grown hg HN4.out (fun g hg' => (HOWN.out.lt g hg').1))
      clear hown' hg
      go_wp2
      go_roundw
      case rel => exact ⟨j + 1, by omega, by omega, by go_num, HO9.out, HB9.out⟩
      case measure => simp [intOf]; omega
    · have hjz : j ≤ zs.length := by rw [HN'.out]; exact hj
      have HLR := Lib.hid (rds_length Q ky m zs j hjz)
      have hown2 : wr.ownsRow w3.heap.size 45 13 u9 (rds Q ky m zs j).length ((rds Q ky m zs j).flatMap Cl.cells) := by rw [HLR.out]; exact HOWN.out
      obtain ⟨A5, c5, rfl, hc5, _, hs5, _⟩ := own_flat (C := 13) hown2
      rw [HLR.out] at hc5 ⊢
      have HS5 := Lib.hid hs5
      have HRT : Hid (badTo Q (rds Q ky m zs j) j = []) := Lib.hid (by
        have := rds_right Q HNORM.out ky zs j hjz j (Nat.le_refl _)
        rw [HM1.out] at this
        exact this)
      have HO4 := Lib.hid (HO3.out.below HB.out)
      have HB4 := Lib.hid (HB3.out.trans (HB.out.mono HB3.out.size))
      have hw2 : w.heap.size ≤ w2.heap.size := HB2.out.size
      clear hown2 hs5 HOWN HB hjz
      generalize rds Q ky m zs j = lr at *
      have hcs : ¬ j < n' ∨ (j < n' ∧ ¬ j < 10) := by omega
      have HR1 : Hid (Calls Try.prog 22 #[.pointer (some ⟨O, 0, none⟩), .slice A5 j c5] wr fun e w' => e = .returned (.bool true) ∧ Below wr.heap.size wr w') := Lib.hid (right_any wr w2.heap.size O M Q HO4.out (by rw [HM1.out]; omega) A5 j c5 lr HLR.out (by omega) hc5 HS5.out true (by rw [HRT.out]; rfl))
      have HSP1 : Hid ((Q ++ [norm ⟨ky, spec, true⟩]) = Q ++ [⟨ky, spec, true⟩]) := Lib.hid rfl
      have HATQ : Hid (atF (Q ++ [⟨ky, spec, true⟩]) (m : Int) ky = atS Q m ky) := Lib.hid (by
        unfold atF
        rw [if_neg (by rw [List.length_append, HM1.out]; simp; omega), Int.toNat_natCast]
        exact atS_snoc_le Q _ ky m (by rw [HM1.out]; exact Nat.le_refl _))
      have HGR : Hid (badTo (Q ++ [⟨ky, spec, true⟩]) [getC ky ((m : Int) + 1) (atS Q m ky).1 (atS Q m ky).2] 1 = []) := Lib.hid (by
        have := get_right Q HNORM.out ky spec
        rw [HM1.out] at this
        exact this)
      have HKW : Hid ((atS Q m ky).1 ≠ spec → badTo (Q ++ [⟨ky, spec, true⟩]) [killC ky ((m : Int) + 1), getC ky ((m : Int) + 1) (atS Q m ky).1 (atS Q m ky).2] 2 ≠ []) := Lib.hid (by
        have := kill_wrong Q ky spec
        rw [HM1.out] at this
        exact this)
      clear hgo
      rcases hcs with h3 | ⟨h3, h4⟩
      all_goals
        go_wp2_with fail
        refine HR1.out.mono ?_
        rintro e w5 ⟨rfl, hb5⟩
        have HO5 := Lib.hid (HO4.out.below hb5)
        have HB5 := Lib.hid (HB4.out.trans (hb5.mono HB4.out.size))
        clear hb5 HR1 HO4 HB4 HS5
        go_wp2_with fail
        refine (set_any w5 w2.heap.size O M Q HO5.out (by rw [HM1.out]; omega) ky spec true).mono ?_
        rw [HSP1.out, HM1.out]
        rintro e w6 ⟨rfl, ho6, hb6⟩
        have HO6 := Lib.hid ho6
        have HB6 := Lib.hid (HB5.out.trans (hb6.mono hw2))
        have HLQ : Hid ((Q ++ [(⟨ky, spec, true⟩ : St)]).length < 1099511627) := Lib.hid (by rw [List.length_append, HM1.out]; simp; omega)
        clear ho6 hb6 HO5 HB5
        go_wp2_with fail
        refine (at_any w6 w2.heap.size O M _ HO6.out (by have := HLQ.out; omega) (m : Int) ky).mono ?_
        rw [HATQ.out]
        rintro e w7 ⟨rfl, n7, rfl⟩
        obtain ⟨r0, hr0⟩ : ∃ r0, atS Q m ky = r0 := ⟨_, rfl⟩
        rw [hr0] at HGR HKW ⊢
        clear hr0 HATQ
        obtain ⟨v0, h0⟩ := r0
        have HO7 := Lib.hid (HO6.out.drewN n7)
        have HB7 := Lib.hid (below_drewN HB6.out n7)
        clear HO6 HB6
        generalize w6.drewN n7 = w7 at *
        go_wp2_with fail
        · have hB8 : Below w7.heap.size w7 ((w7.alloc (.cells #[.int .i64 50, .int .i64 2, .string ky, .int .i64 0, .int .i64 ((m : Int) + 1), .int .i64 ((m : Int) + 1), .bool true, .int .i64 0, .int .i64 0, .string ⟨#[]⟩, .int .i64 0, .string ⟨#[]⟩, .bool false] 45)).alloc (.cells #[.int .i64 51, .int .i64 1, .string ky, .int .i64 0, .int .i64 ((m : Int) + 1), .int .i64 ((m : Int) + 1), .bool true, .int .i64 0, .int .i64 0, .string ⟨#[]⟩, .int .i64 0, .string v0, .bool h0] 45)) := ((Below.refl _ _).alloc (Nat.le_refl _) _).alloc (by simp) _
          have HB8 := Lib.hid (HB7.out.trans (hB8.mono HB7.out.size))
          clear hB8
          go_wp2
          go_ret
          exact ⟨rfl, HB8.out⟩
        · rename_i hx KK hKK
          have hne : v0 ≠ spec := fun e => by
            apply hx
            rw [e]
            decide +kernel
          have HW2 : Hid (false = decide (badTo (Q ++ [⟨ky, spec, true⟩]) [killC ky ((m : Int) + 1), getC ky ((m : Int) + 1) v0 h0] 2 = [])) := Lib.hid (decide_eq_false (HKW.out hne)).symm
          have HW1 : Hid (true = decide (badTo (Q ++ [⟨ky, spec, true⟩]) [getC ky ((m : Int) + 1) v0 h0] 1 = [])) := Lib.hid (decide_eq_true HGR.out).symm
          have HSK : Hid (sinceF [killC ky ((m : Int) + 1), getC ky ((m : Int) + 1) v0 h0] 1 = ((m : Int) + 1)) := Lib.hid (since_kill ky m v0 h0)
          clear hne HKW HGR
          have hk1 := (((Blk.new w7 45 #[.int .i64 50, .int .i64 2, .string ky, .int .i64 0, .int .i64 ((m : Int) + 1), .int .i64 ((m : Int) + 1), .bool true, .int .i64 0, .int .i64 0, .string ⟨#[]⟩, .int .i64 0, .string ⟨#[]⟩, .bool false]).alloc (.cells #[.int .i64 51, .int .i64 1, .string ky, .int .i64 0, .int .i64 ((m : Int) + 1), .int .i64 ((m : Int) + 1), .bool true, .int .i64 0, .int .i64 0, .string ⟨#[]⟩, .int .i64 0, .string v0, .bool h0] 45)).alloc (.cells #[.int .i64 51, .int .i64 1, .string ky, .int .i64 0, .int .i64 ((m : Int) + 1), .int .i64 ((m : Int) + 1), .bool true, .int .i64 0, .int .i64 0, .string ⟨#[]⟩, .int .i64 0, .string v0, .bool h0] 45))
          have hg1 := ((Blk.new (w7.alloc (.cells #[.int .i64 50, .int .i64 2, .string ky, .int .i64 0, .int .i64 ((m : Int) + 1), .int .i64 ((m : Int) + 1), .bool true, .int .i64 0, .int .i64 0, .string ⟨#[]⟩, .int .i64 0, .string ⟨#[]⟩, .bool false] 45)) 45 #[.int .i64 51, .int .i64 1, .string ky, .int .i64 0, .int .i64 ((m : Int) + 1), .int .i64 ((m : Int) + 1), .bool true, .int .i64 0, .int .i64 0, .string ⟨#[]⟩, .int .i64 0, .string v0, .bool h0]).alloc (.cells #[.int .i64 51, .int .i64 1, .string ky, .int .i64 0, .int .i64 ((m : Int) + 1), .int .i64 ((m : Int) + 1), .bool true, .int .i64 0, .int .i64 0, .string ⟨#[]⟩, .int .i64 0, .string v0, .bool h0] 45))
          have hs1 := Blk.new ((w7.alloc (.cells #[.int .i64 50, .int .i64 2, .string ky, .int .i64 0, .int .i64 ((m : Int) + 1), .int .i64 ((m : Int) + 1), .bool true, .int .i64 0, .int .i64 0, .string ⟨#[]⟩, .int .i64 0, .string ⟨#[]⟩, .bool false] 45)).alloc (.cells #[.int .i64 51, .int .i64 1, .string ky, .int .i64 0, .int .i64 ((m : Int) + 1), .int .i64 ((m : Int) + 1), .bool true, .int .i64 0, .int .i64 0, .string ⟨#[]⟩, .int .i64 0, .string v0, .bool h0] 45)) 45 #[.int .i64 51, .int .i64 1, .string ky, .int .i64 0, .int .i64 ((m : Int) + 1), .int .i64 ((m : Int) + 1), .bool true, .int .i64 0, .int .i64 0, .string ⟨#[]⟩, .int .i64 0, .string v0, .bool h0]
          have hB8 : Below w7.heap.size w7 (((w7.alloc (.cells #[.int .i64 50, .int .i64 2, .string ky, .int .i64 0, .int .i64 ((m : Int) + 1), .int .i64 ((m : Int) + 1), .bool true, .int .i64 0, .int .i64 0, .string ⟨#[]⟩, .int .i64 0, .string ⟨#[]⟩, .bool false] 45)).alloc (.cells #[.int .i64 51, .int .i64 1, .string ky, .int .i64 0, .int .i64 ((m : Int) + 1), .int .i64 ((m : Int) + 1), .bool true, .int .i64 0, .int .i64 0, .string ⟨#[]⟩, .int .i64 0, .string v0, .bool h0] 45)).alloc (.cells #[.int .i64 51, .int .i64 1, .string ky, .int .i64 0, .int .i64 ((m : Int) + 1), .int .i64 ((m : Int) + 1), .bool true, .int .i64 0, .int .i64 0, .string ⟨#[]⟩, .int .i64 0, .string v0, .bool h0] 45)) := (((Below.refl _ _).alloc (Nat.le_refl _) _).alloc (by simp) _).alloc (by simp; omega) _
          rw [World.size_alloc] at hg1 hs1
          rw [World.size_alloc] at hs1
          generalize (((w7.alloc (.cells #[.int .i64 50, .int .i64 2, .string ky, .int .i64 0, .int .i64 ((m : Int) + 1), .int .i64 ((m : Int) + 1), .bool true, .int .i64 0, .int .i64 0, .string ⟨#[]⟩, .int .i64 0, .string ⟨#[]⟩, .bool false] 45)).alloc (.cells #[.int .i64 51, .int .i64 1, .string ky, .int .i64 0, .int .i64 ((m : Int) + 1), .int .i64 ((m : Int) + 1), .bool true, .int .i64 0, .int .i64 0, .string ⟨#[]⟩, .int .i64 0, .string v0, .bool h0] 45)).alloc (.cells #[.int .i64 51, .int .i64 1, .string ky, .int .i64 0, .int .i64 ((m : Int) + 1), .int .i64 ((m : Int) + 1), .bool true, .int .i64 0, .int .i64 0, .string ⟨#[]⟩, .int .i64 0, .string v0, .bool h0] 45)) = W8 at *
          have HS8 : Hid (Sl W8 (some ⟨w7.heap.size + 1 + 1, 0, none⟩) ([getC ky ((m : Int) + 1) v0 h0].flatMap Cl.cells)) := Lib.hid (Blk.sl (xs := [getC ky ((m : Int) + 1) v0 h0].flatMap Cl.cells) hs1)
          have HO8 := Lib.hid (HO7.out.below hB8)
          have HB8 := Lib.hid (HB7.out.trans (hB8.mono HB7.out.size))
          generalize w7.heap.size + 1 + 1 = D2 at *
          generalize w7.heap.size + 1 = D1 at *
          generalize w7.heap.size = D0 at *
          have HK8 := Lib.hid hk1
          have HG8 := Lib.hid hg1
          clear hk1 hg1 hs1 hB8 HO7 HB7
          refine (right_any W8 w2.heap.size O M _ HO8.out HLQ.out (some ⟨D2, 0, none⟩) 1 1 [getC ky ((m : Int) + 1) v0 h0] rfl (by omega) (by omega) HS8.out true HW1.out).mono ?_
          rintro e w9 ⟨rfl, hb9⟩
          have HK9 := Lib.hid (HK8.out.below hb9 HK8.out.lt)
          have HG9 := Lib.hid (HG8.out.below hb9 HG8.out.lt)
          have HO9 := Lib.hid (HO8.out.below hb9)
          have HB9 := Lib.hid (HB8.out.trans (hb9.mono HB8.out.size))
          clear hb9 HK8 HG8 HO8 HB8 HS8
          have p0 : w9.cell? ⟨D0, 0, none⟩ = some (.int .i64 50) := HK9.out.cell 0
          have p1 : w9.cell? ⟨D0, 1, none⟩ = some (.int .i64 2) := HK9.out.cell 1
          have p2 : w9.cell? ⟨D0, 2, none⟩ = some (.string ky) := HK9.out.cell 2
          have p3 : w9.cell? ⟨D0, 3, none⟩ = some (.int .i64 0) := HK9.out.cell 3
          have p4 : w9.cell? ⟨D0, 4, none⟩ = some (.int .i64 ((m : Int) + 1)) := HK9.out.cell 4
          have p5 : w9.cell? ⟨D0, 5, none⟩ = some (.int .i64 ((m : Int) + 1)) := HK9.out.cell 5
          have p6 : w9.cell? ⟨D0, 6, none⟩ = some (.bool true) := HK9.out.cell 6
          have p7 : w9.cell? ⟨D0, 7, none⟩ = some (.int .i64 0) := HK9.out.cell 7
          have p8 : w9.cell? ⟨D0, 8, none⟩ = some (.int .i64 0) := HK9.out.cell 8
          have p9 : w9.cell? ⟨D0, 9, none⟩ = some (.string ⟨#[]⟩) := HK9.out.cell 9
          have p10 : w9.cell? ⟨D0, 10, none⟩ = some (.int .i64 0) := HK9.out.cell 10
          have p11 : w9.cell? ⟨D0, 11, none⟩ = some (.string ⟨#[]⟩) := HK9.out.cell 11
          have p12 : w9.cell? ⟨D0, 12, none⟩ = some (.bool false) := HK9.out.cell 12
          have q0 : w9.cell? ⟨D1, 0, none⟩ = some (.int .i64 51) := HG9.out.cell 0
          have q1 : w9.cell? ⟨D1, 1, none⟩ = some (.int .i64 1) := HG9.out.cell 1
          have q2 : w9.cell? ⟨D1, 2, none⟩ = some (.string ky) := HG9.out.cell 2
          have q3 : w9.cell? ⟨D1, 3, none⟩ = some (.int .i64 0) := HG9.out.cell 3
          have q4 : w9.cell? ⟨D1, 4, none⟩ = some (.int .i64 ((m : Int) + 1)) := HG9.out.cell 4
          have q5 : w9.cell? ⟨D1, 5, none⟩ = some (.int .i64 ((m : Int) + 1)) := HG9.out.cell 5
          have q6 : w9.cell? ⟨D1, 6, none⟩ = some (.bool true) := HG9.out.cell 6
          have q7 : w9.cell? ⟨D1, 7, none⟩ = some (.int .i64 0) := HG9.out.cell 7
          have q8 : w9.cell? ⟨D1, 8, none⟩ = some (.int .i64 0) := HG9.out.cell 8
          have q9 : w9.cell? ⟨D1, 9, none⟩ = some (.string ⟨#[]⟩) := HG9.out.cell 9
          have q10 : w9.cell? ⟨D1, 10, none⟩ = some (.int .i64 0) := HG9.out.cell 10
          have q11 : w9.cell? ⟨D1, 11, none⟩ = some (.string v0) := HG9.out.cell 11
          have q12 : w9.cell? ⟨D1, 12, none⟩ = some (.bool h0) := HG9.out.cell 12
          go_wp2_with fail
          clear p0 p1 p2 p3 p4 p5 p6 p7 p8 p9 p10 p11 p12 q0 q1 q2 q3 q4 q5 q6 q7 q8 q9 q10 q11 q12
          have hs2 := Blk.new w9 45 #[.int .i64 50, .int .i64 2, .string ky, .int .i64 0, .int .i64 ((m : Int) + 1), .int .i64 ((m : Int) + 1), .bool true, .int .i64 0, .int .i64 0, .string ⟨#[]⟩, .int .i64 0, .string ⟨#[]⟩, .bool false, .int .i64 51, .int .i64 1, .string ky, .int .i64 0, .int .i64 ((m : Int) + 1), .int .i64 ((m : Int) + 1), .bool true, .int .i64 0, .int .i64 0, .string ⟨#[]⟩, .int .i64 0, .string v0, .bool h0]
          have hB10 : Below w9.heap.size w9 (w9.alloc (.cells #[.int .i64 50, .int .i64 2, .string ky, .int .i64 0, .int .i64 ((m : Int) + 1), .int .i64 ((m : Int) + 1), .bool true, .int .i64 0, .int .i64 0, .string ⟨#[]⟩, .int .i64 0, .string ⟨#[]⟩, .bool false, .int .i64 51, .int .i64 1, .string ky, .int .i64 0, .int .i64 ((m : Int) + 1), .int .i64 ((m : Int) + 1), .bool true, .int .i64 0, .int .i64 0, .string ⟨#[]⟩, .int .i64 0, .string v0, .bool h0] 45)) := (Below.refl _ _).alloc (Nat.le_refl _) _
          generalize w9.alloc (.cells #[.int .i64 50, .int .i64 2, .string ky, .int .i64 0, .int .i64 ((m : Int) + 1), .int .i64 ((m : Int) + 1), .bool true, .int .i64 0, .int .i64 0, .string ⟨#[]⟩, .int .i64 0, .string ⟨#[]⟩, .bool false, .int .i64 51, .int .i64 1, .string ky, .int .i64 0, .int .i64 ((m : Int) + 1), .int .i64 ((m : Int) + 1), .bool true, .int .i64 0, .int .i64 0, .string ⟨#[]⟩, .int .i64 0, .string v0, .bool h0] 45) = W10 at *
          have HS10 : Hid (Sl W10 (some ⟨w9.heap.size, 0, none⟩) ([killC ky ((m : Int) + 1), getC ky ((m : Int) + 1) v0 h0].flatMap Cl.cells)) := Lib.hid (Blk.sl (xs := [killC ky ((m : Int) + 1), getC ky ((m : Int) + 1) v0 h0].flatMap Cl.cells) hs2)
          have HO10 := Lib.hid (HO9.out.below hB10)
          refine (right_any W10 w2.heap.size O M _ HO10.out HLQ.out (some ⟨w9.heap.size, 0, none⟩) 2 2 [killC ky ((m : Int) + 1), getC ky ((m : Int) + 1) v0 h0] rfl (by omega) (by omega) HS10.out false HW2.out).mono ?_
          rintro e w11 ⟨rfl, hb11⟩
          have hb911 : Below w9.heap.size w9 w11 := hB10.trans (hb11.mono hB10.size)
          have HK11 := Lib.hid (HK9.out.below hb911 HK9.out.lt)
          have HG11 := Lib.hid (HG9.out.below hb911 HG9.out.lt)
          have HB11 := Lib.hid (HB9.out.trans (hb911.mono HB9.out.size))
          clear hs2 hB10 hb11 hb911 HS10 HO10 HK9 HG9 HO9 HB9
          have p0 : w11.cell? ⟨D0, 0, none⟩ = some (.int .i64 50) := HK11.out.cell 0
          have p1 : w11.cell? ⟨D0, 1, none⟩ = some (.int .i64 2) := HK11.out.cell 1
          have p2 : w11.cell? ⟨D0, 2, none⟩ = some (.string ky) := HK11.out.cell 2
          have p3 : w11.cell? ⟨D0, 3, none⟩ = some (.int .i64 0) := HK11.out.cell 3
          have p4 : w11.cell? ⟨D0, 4, none⟩ = some (.int .i64 ((m : Int) + 1)) := HK11.out.cell 4
          have p5 : w11.cell? ⟨D0, 5, none⟩ = some (.int .i64 ((m : Int) + 1)) := HK11.out.cell 5
          have p6 : w11.cell? ⟨D0, 6, none⟩ = some (.bool true) := HK11.out.cell 6
          have p7 : w11.cell? ⟨D0, 7, none⟩ = some (.int .i64 0) := HK11.out.cell 7
          have p8 : w11.cell? ⟨D0, 8, none⟩ = some (.int .i64 0) := HK11.out.cell 8
          have p9 : w11.cell? ⟨D0, 9, none⟩ = some (.string ⟨#[]⟩) := HK11.out.cell 9
          have p10 : w11.cell? ⟨D0, 10, none⟩ = some (.int .i64 0) := HK11.out.cell 10
          have p11 : w11.cell? ⟨D0, 11, none⟩ = some (.string ⟨#[]⟩) := HK11.out.cell 11
          have p12 : w11.cell? ⟨D0, 12, none⟩ = some (.bool false) := HK11.out.cell 12
          have q0 : w11.cell? ⟨D1, 0, none⟩ = some (.int .i64 51) := HG11.out.cell 0
          have q1 : w11.cell? ⟨D1, 1, none⟩ = some (.int .i64 1) := HG11.out.cell 1
          have q2 : w11.cell? ⟨D1, 2, none⟩ = some (.string ky) := HG11.out.cell 2
          have q3 : w11.cell? ⟨D1, 3, none⟩ = some (.int .i64 0) := HG11.out.cell 3
          have q4 : w11.cell? ⟨D1, 4, none⟩ = some (.int .i64 ((m : Int) + 1)) := HG11.out.cell 4
          have q5 : w11.cell? ⟨D1, 5, none⟩ = some (.int .i64 ((m : Int) + 1)) := HG11.out.cell 5
          have q6 : w11.cell? ⟨D1, 6, none⟩ = some (.bool true) := HG11.out.cell 6
          have q7 : w11.cell? ⟨D1, 7, none⟩ = some (.int .i64 0) := HG11.out.cell 7
          have q8 : w11.cell? ⟨D1, 8, none⟩ = some (.int .i64 0) := HG11.out.cell 8
          have q9 : w11.cell? ⟨D1, 9, none⟩ = some (.string ⟨#[]⟩) := HG11.out.cell 9
          have q10 : w11.cell? ⟨D1, 10, none⟩ = some (.int .i64 0) := HG11.out.cell 10
          have q11 : w11.cell? ⟨D1, 11, none⟩ = some (.string v0) := HG11.out.cell 11
          have q12 : w11.cell? ⟨D1, 12, none⟩ = some (.bool h0) := HG11.out.cell 12
          go_wp2_with fail
          clear p0 p1 p2 p3 p4 p5 p6 p7 p8 p9 p10 p11 p12 q0 q1 q2 q3 q4 q5 q6 q7 q8 q9 q10 q11 q12
          have hs3 := Blk.new w11 45 #[.int .i64 50, .int .i64 2, .string ky, .int .i64 0, .int .i64 ((m : Int) + 1), .int .i64 ((m : Int) + 1), .bool true, .int .i64 0, .int .i64 0, .string ⟨#[]⟩, .int .i64 0, .string ⟨#[]⟩, .bool false, .int .i64 51, .int .i64 1, .string ky, .int .i64 0, .int .i64 ((m : Int) + 1), .int .i64 ((m : Int) + 1), .bool true, .int .i64 0, .int .i64 0, .string ⟨#[]⟩, .int .i64 0, .string v0, .bool h0]
          have hB12 : Below w11.heap.size w11 (w11.alloc (.cells #[.int .i64 50, .int .i64 2, .string ky, .int .i64 0, .int .i64 ((m : Int) + 1), .int .i64 ((m : Int) + 1), .bool true, .int .i64 0, .int .i64 0, .string ⟨#[]⟩, .int .i64 0, .string ⟨#[]⟩, .bool false, .int .i64 51, .int .i64 1, .string ky, .int .i64 0, .int .i64 ((m : Int) + 1), .int .i64 ((m : Int) + 1), .bool true, .int .i64 0, .int .i64 0, .string ⟨#[]⟩, .int .i64 0, .string v0, .bool h0] 45)) := (Below.refl _ _).alloc (Nat.le_refl _) _
          generalize w11.alloc (.cells #[.int .i64 50, .int .i64 2, .string ky, .int .i64 0, .int .i64 ((m : Int) + 1), .int .i64 ((m : Int) + 1), .bool true, .int .i64 0, .int .i64 0, .string ⟨#[]⟩, .int .i64 0, .string ⟨#[]⟩, .bool false, .int .i64 51, .int .i64 1, .string ky, .int .i64 0, .int .i64 ((m : Int) + 1), .int .i64 ((m : Int) + 1), .bool true, .int .i64 0, .int .i64 0, .string ⟨#[]⟩, .int .i64 0, .string v0, .bool h0] 45) = W12 at *
          have HS12 : Hid (Sl W12 (some ⟨w11.heap.size, 0, none⟩) ([killC ky ((m : Int) + 1), getC ky ((m : Int) + 1) v0 h0].flatMap Cl.cells)) := Lib.hid (Blk.sl (xs := [killC ky ((m : Int) + 1), getC ky ((m : Int) + 1) v0 h0].flatMap Cl.cells) hs3)
          refine (since_in W12 (some ⟨w11.heap.size, 0, none⟩) 2 2 [killC ky ((m : Int) + 1), getC ky ((m : Int) + 1) v0 h0] rfl (by omega) (by omega) HS12.out 1 (by omega)).mono ?_
          rw [HSK.out]
          rintro e w13 ⟨rfl, hb13⟩
          have HB13 := Lib.hid (HB11.out.trans ((hB12.trans (hb13.mono hB12.size)).mono HB11.out.size))
          clear hs3 hB12 hb13 HS12
          go_wp2
          go_ret
          exact ⟨rfl, HB13.out⟩
end Go.Proofs.Ytmblkejgfoffaaa
