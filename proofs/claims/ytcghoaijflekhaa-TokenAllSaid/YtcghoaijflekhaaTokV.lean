/- The law TokenKeys: its walk. No condition. -/
import Derived.Test.YtcghoaijflekhaaTokJ
namespace Go.Proofs.Ytcghoaijflekhaa
open Go.RowKit
theorem conv1 (x : Int) (w : World) (b : Nat) (h : w.cell? ⟨b, 0, none⟩ = some (.int .u8 x)) :
    (convert 32 9 (.slice (some ⟨b, 0, none⟩) 1 1)).run Try.prog w = .ok (.string (kb x)) w :=
  run_convert_bytes_arg w 32 5 Try.underlying32 Try.underlying5 b 0 1 1 [x] rfl (fun i hi => by
    obtain rfl : i = 0 := by omega
    simpa using h) 9 Try.underlying9
theorem info9 : (Try.prog.info? 9).map (fun i => (i.zero, i.size, i.bytes)) = some (some (.string ByteArray.empty), 1, 16) := by kernel_rfl
theorem one_new (w : World) (x : Value) (t : TypeId) : ∀ j u, [x][j]? = some u → (w.alloc (.cells #[x] t)).cell? ((⟨w.heap.size, 0, none⟩ : Addr).add j) = some u := by
  intro j u hu
  cases j with
  | zero => simp only [List.getElem?_cons_zero, Option.some.injEq] at hu; subst hu; simp [Addr.add, go_sem]
  | succ j => simp at hu
theorem keys_out (w : World) (n : Int) (A : Option Addr) (len cap : Nat) (hc : n < 0 ∨ 20 < n) : Calls Try.prog 4 #[.int .i64 n, .slice A len cap] w fun e w' => e = .returned (.bool true) ∧ Below w.heap.size w w' := by
  have hc2 : n < 0 ∨ (¬ n < 0 ∧ 20 < n) := by omega
  clear hc
  rcases hc2 with h | ⟨h, h1⟩
  all_goals
    go_enter Try.func4, Try.ntmps4
    go_wp2_with fail
    refine (begun_any w).mono ?_
    rintro e w1 ⟨rfl, hb1⟩
    have HB1 := Lib.hid hb1
    clear hb1
    go_wp2
    go_ret
    exact ⟨rfl, HB1.out⟩
theorem set_grown (w : World) (p : Addr) (u : Value) : w.grownBy (w.setCell p u) (some p.block) :=
  ⟨rfl, rfl, rfl, by simp [World.setCell], fun i _ hne => Below.heap_setCell w p u i (by rintro rfl; exact hne rfl)⟩
theorem own_far {w : World} {base : Nat} {e : TypeId} {size : Nat} {v : Value} {n : Nat} {xs : List Value} (h : w.ownsRow base e size v n xs) (p : Addr) (hp : v.ownBlock ≠ some p.block) (u : Value) : (w.setCell p u).ownsRow base e size v n xs :=
  h.kept (set_grown w p u) (.inr hp)
theorem setCell_size (w : World) (p : Addr) (u : Value) : (w.setCell p u).heap.size = w.heap.size := by simp [World.setCell]
theorem Tok.below {w w' : World} {base T M : Nat} {L : List TkS} {bl : Nat → Nat} (h : Tok w base T M L bl) (hb : Below w.heap.size w w') : Tok w' base T M L bl :=
  ⟨h.hT, h.hM, h.blk.below hb h.blk.lt, (hb.block M (Array.getElem?_eq_some_iff.1 h.map).1).trans h.map, h.one, fun i hi => ⟨(h.each i hi).1, (h.each i hi).2.below hb (h.each i hi).2.lt⟩⟩
theorem Sl.apart {w w' : World} {A : Option Addr} {xs : List Value} {bl : Nat → Nat} {n : Nat} (h : Sl w A xs) (ha : Apart bl n w w') (hA : ∀ a, A = some a → a.block < w.heap.size ∧ ∀ j, j < n → bl j ≠ a.block) : Sl w' A xs := by
  intro hne
  obtain ⟨b, off, rfl, hc⟩ := h hne
  obtain ⟨h1, h2⟩ := hA _ rfl
  refine ⟨b, off, rfl, fun j u hu => ?_⟩
  have := hc j u hu
  unfold World.cell? at this ⊢
  rw [ha b h1 h2]
  exact this
theorem Blk.apart {w w' : World} {g : Nat} {t : TypeId} {cs : Array Value} {bl : Nat → Nat} {n : Nat} (h : Blk w g t cs) (ha : Apart bl n w w') (hne : ∀ j, j < n → bl j ≠ g) : Blk w' g t cs := (ha g h.lt hne).trans h
set_option maxHeartbeats 4000000 in
theorem keys_in (w : World) (n : Nat) (hn : n ≤ 20) (A : Option Addr) (len cap : Nat) (zs : List Int) (hz : zs.length = len) (hr : Sl w A (zs.map (.int .i64))) (hwz : ∀ z ∈ zs, (Lit.int .i64 z).wf = true) : Calls Try.prog 4 #[.int .i64 (n : Int), .slice A len cap] w fun e w' => e = .returned (.bool true) ∧ Below w.heap.size w w' := by
  obtain ⟨i0, hi, hz0, hz1, hz2⟩ := info_parts info9
  have HI0 := Lib.hid (And.intro hi (And.intro hz0 (And.intro hz1 hz2)))
  clear hi hz0 hz1 hz2
  have h1 : ¬ ((n : Int) < 0) := by omega
  have h2 : ¬ (20 < (n : Int)) := by omega
  have HZ := Lib.hid hz
  have HWZ := Lib.hid hwz
  clear hz hwz
  go_enter Try.func4, Try.ntmps4
  go_wp2_with fail
  refine (begun_any w).mono ?_
  rintro e w1 ⟨rfl, hb1⟩
  have HB1 := Lib.hid hb1
  clear hb1
  go_wp2_with fail
  refine (new_any w1).mono ?_
  rintro e w2 ⟨T, M, bl0, rfl, hT2, hB2⟩
  have HT2 := Lib.hid (hT2.low HB1.out.size)
  have HB2 := Lib.hid (HB1.out.trans (hB2.mono HB1.out.size))
  clear hT2 hB2
  go_wp2
  go_loopw [7] (fun i wr => ∃ (k : Nat) (bl : Nat → Nat), k ≤ n ∧ i = .int .i64 k ∧ Tok wr w.heap.size T M (kyl k (fun _ => true) 0) bl ∧ Below w.heap.size w wr) (fun i _ => n - (intOf i).toNat)
  case atStart => exact ⟨0, bl0, Nat.zero_le _, rfl, HT2.out, HB2.out⟩
  case round =>
    obtain ⟨k, bl, hk, rfl, hT, hB⟩ := hrel
    have HT := Lib.hid hT
    have HB := Lib.hid hB
    clear hT hB
    by_cases hlt : k < n
    · have hcv := conv1 (97 + (k : Int) % 5) (wr.alloc (.cells #[.int .u8 (97 + (k : Int) % 5)] 5)) wr.heap.size (by simp [go_sem])
      go_wp2_with fail
      clear hcv
      refine (give_any _ w.heap.size T M _ bl (kb (97 + (k : Int) % 5)) (HT.out.alloc _) (by rw [kyl_length]; omega)).mono ?_
      rintro e w5 ⟨bl5, rfl, hT5, hB5⟩
      rw [kyl_give] at hT5
      have HT5 := Lib.hid hT5
      have HB5 := Lib.hid ((HB.out.alloc HT.out.above _).trans hB5)
      clear hT5 hB5
      go_wp2
      exact ⟨⟨k + 1, bl5, by omega, by go_num, HT5.out, HB5.out⟩, by simp [intOf]; omega⟩
    · obtain rfl : k = n := by omega
      clear hlt hk
      go_wp2
      obtain ⟨wo, rfl⟩ : ∃ wo : World, wo = wr := ⟨_, rfl⟩
      go_loopw [9, 10] (fun v i wr => ∃ j : Nat, j ≤ len ∧ j ≤ 5 ∧ i = .int .i64 j ∧ wr.ownsRow (wo.heap.size + 1) 9 1 v j ((dk zs j).map .string) ∧ Blk wr wo.heap.size 33 (dcells (dk zs j)) ∧ Below w.heap.size w wr ∧ Below wo.heap.size wo wr) (fun _ i _ => len - (intOf i).toNat)
      case atStart =>
        refine ⟨0, Nat.zero_le _, Nat.zero_le _, rfl, World.ownsRow_nil _ _ _ _, ?_, HB.out.alloc HT.out.above _, (Below.refl _ _).alloc (Nat.le_refl _) _⟩
        exact Blk.new wo 33 _
      case round =>
        obtain ⟨j, hj, hj5, rfl, hown, hD, hB, hB0⟩ := hrel
        have HOWN := Lib.hid hown
        have HD := Lib.hid hD
        have HBr := Lib.hid hB
        have HB0 := Lib.hid hB0
        clear hown hD hB hB0
        by_cases hgo : j < len ∧ j < 5
        · obtain ⟨hlt, hlt5⟩ := hgo
          have hlt' : j < zs.length := by rw [HZ.out]; exact hlt
          obtain ⟨b, off, rfl, hc⟩ := (hr.keep HBr.out).at_ j (by rw [List.length_map]; exact hlt')
          rw [List.getElem_map] at hc
          have htm := tm5 zs[j]
          have HDS := Lib.hid (dk_succ zs j hlt')
          have hkr := kr_lt zs[j]
          generalize zs[j] = z at *
          have HKR := Lib.hid hkr
          have HD2 := Lib.hid (HD.out.set_ (kr z).toNat (.bool true))
          rw [dcells_set _ _ hkr, ← HDS.out] at HD2
          have hdc : wr.cell? ⟨wo.heap.size, (z.tmod 5 % 5).toNat, none⟩ = some (.bool (deadIn (dk zs j) (kr z).toNat)) := (HD.out.cell _).trans (dcells_get _ _ (by unfold kr at hkr; omega))
          have hdf : wr.frozen? ⟨wo.heap.size, (z.tmod 5 % 5).toNat, none⟩ = false := HD.out.frozen _
          have hcv := conv1 (97 + z.tmod 5 % 5) ((wr.setCell ⟨wo.heap.size, (z.tmod 5 % 5).toNat, none⟩ (.bool true)).alloc (.cells #[.int .u8 (97 + z.tmod 5 % 5)] 5)) wr.heap.size (by
            have := (Blk.new (wr.setCell ⟨wo.heap.size, (z.tmod 5 % 5).toNat, none⟩ (.bool true)) 5 #[.int .u8 (97 + z.tmod 5 % 5)]).cell 0
            rw [show (wr.setCell ⟨wo.heap.size, (z.tmod 5 % 5).toNat, none⟩ (.bool true)).heap.size = wr.heap.size by simp [World.setCell]] at this
            exact this)
          clear hkr
          have hsz := HB0.out.size
          have hnb : u9.ownBlock ≠ some wo.heap.size := fun e => by have := (HOWN.out.lt _ e).1; omega
          have HO3 := Lib.hid (((own_far HOWN.out ⟨wo.heap.size, (z.tmod 5 % 5).toNat, none⟩ hnb (.bool true)).alloc (.cells #[.int .u8 (97 + z.tmod 5 % 5)] 5)).alloc (.cells #[.string (kb (97 + z.tmod 5 % 5))] 9))
          have HNB := Lib.hid hnb
          clear hnb
          go_wp2_with (at_builtin; refine wpList_append_own _ rfl (.tmp 59) (.tmp 65) 34 rfl (wo.heap.size + 1) 9 i0 _ 1 16 Try.underlying34 HI0.out.1 HI0.out.2.1 HI0.out.2.2.1 HI0.out.2.2.2 rfl (by decide) _ _ _ rfl HO3.out ⟨wr.heap.size + 1, 0, none⟩ 1 1 [.string (kb (97 + z.tmod 5 % 5))] rfl rfl ?c1 ?c2 ?c3 ?c4 ?c5 ?_)
          case c1 =>
            have := one_new ((wr.setCell ⟨wo.heap.size, (z.tmod 5 % 5).toNat, none⟩ (.bool true)).alloc (.cells #[.int .u8 (97 + z.tmod 5 % 5)] 5)) (.string (kb (97 + z.tmod 5 % 5))) 9
            rw [World.size_alloc, setCell_size] at this
            exact this
          case c2 => simp [Value.oneCell']
          case c3 => unfold maxLen; omega
          case c4 => omega
          case c5 => simp [World.setCell]; omega
          intro v' w' hown' hg _
          rw [show (List.map Value.string (dk zs j) ++ [Value.string (kb (97 + z.tmod 5 % 5))]) = (dk zs (j + 1)).map .string by rw [HDS.out, List.map_append]; rfl] at hown'
          have HO4 := Lib.hid hown'
          have HD4 := Lib.hid (((HD2.out.alloc (.cells #[.int .u8 (97 + z.tmod 5 % 5)] 5)).alloc (.cells #[.string (kb (97 + z.tmod 5 % 5))] 9)).grown hg (Ne.symm HNB.out))
          have HGB : Hid (Below w.heap.size w w' ∧ Below wo.heap.size wo w') := by
            have hw := HB.out.size
            have hs1 : w.heap.size ≤ (wr.setCell ⟨wo.heap.size, (z.tmod 5 % 5).toNat, none⟩ (.bool true)).heap.size := by rw [setCell_size]; omega
            have hs2 : wo.heap.size ≤ (wr.setCell ⟨wo.heap.size, (z.tmod 5 % 5).toNat, none⟩ (.bool true)).heap.size := by rw [setCell_size]; omega
            refine Lib.hid ⟨?_, ?_⟩
            · exact (((HBr.out.setCell (p := ⟨wo.heap.size, (z.tmod 5 % 5).toNat, none⟩) hw _).alloc hs1 _).alloc (by rw [World.size_alloc]; omega) _).grown hg (by rw [World.size_alloc, World.size_alloc]; omega) (fun g hg' => by have := (HOWN.out.lt g hg').1; omega)
            · exact (((HB0.out.setCell (p := ⟨wo.heap.size, (z.tmod 5 % 5).toNat, none⟩) (Nat.le_refl _) _).alloc hs2 _).alloc (by rw [World.size_alloc]; omega) _).grown hg (by rw [World.size_alloc, World.size_alloc]; omega) (fun g hg' => by have := (HOWN.out.lt g hg').1; omega)
          clear hown' hg hdc hdf hcv hsz
          go_wp2
          go_roundw
          case rel => exact ⟨j + 1, by omega, by omega, by go_num, HO4.out, HD4.out, HGB.out.1, HGB.out.2⟩
          case measure => simp [intOf]; omega
        · have hcs : ¬ j < len ∨ (j < len ∧ ¬ j < 5) := by omega
          clear hgo
          have HT3 := Lib.hid (HT.out.below HB0.out)
          have HBL := Lib.hid (fun i hi => (HT.out.bl_ne.2 i hi).2.2)
          rw [kyl_length] at HBL
          have hz0 := HB0.out.size
          have HOL := Lib.hid HOWN.out.lt
          obtain ⟨A', c', rfl, hjc, hcm, _, hsl⟩ := Sl.of_own HOWN.out
          have HSL := Lib.hid hsl
          have HDL := Lib.hid (dk_length zs j (by rw [HZ.out]; exact hj))
          have HAA : Hid (∀ a, A' = some a → a.block < wr.heap.size ∧ wo.heap.size + 1 ≤ a.block) := Lib.hid (fun a ha => by
            subst ha
            rcases HOWN.out.2 with ⟨h, _⟩ | ⟨g, cap', cur, h, h1, h2, _⟩
            · cases h
            · injection h with ha _ _
              injection ha with ha
              subst ha
              exact ⟨(Array.getElem?_eq_some_iff.1 h2).1, h1⟩)
          clear HOWN HOL HB0 hsl
          generalize dk zs j = ss at *
          rcases hcs with h3 | ⟨h3, h4⟩
          all_goals
            go_wp2
            clear HT HB hr
            obtain ⟨wp, rfl⟩ : ∃ wp : World, wp = wr := ⟨_, rfl⟩
            go_loop [12, 13] (fun c i => ∃ q : Nat, q ≤ k ∧ i = .int .i64 q ∧ c = .int .i64 (cntD ss q)) (fun _ i => k - (intOf i).toNat)
            case atStart => exact ⟨0, Nat.zero_le _, rfl, rfl⟩
            case round =>
              obtain ⟨q, hq, rfl, rfl⟩ := hrel
              by_cases hlt : q < k
              · have hcell : wp.cell? ⟨wo.heap.size, q % 5, none⟩ = some (.bool (deadIn ss (q % 5))) := (HD.out.cell _).trans (dcells_get _ _ (by omega))
                have HS := Lib.hid (cntD_succ ss q)
                have hle := cntD_le ss q
                generalize deadIn ss (q % 5) = d at *
                cases d with
                | false =>
                  go_wp2
                  exact ⟨⟨q + 1, by omega, by go_num, by rw [HS.out]; rfl⟩, by simp [intOf]; omega⟩
                | true =>
                  go_wp2
                  exact ⟨⟨q + 1, by omega, by go_num, by rw [HS.out]; go_num⟩, by simp [intOf]; omega⟩
              · obtain rfl : q = k := by omega
                clear hq hlt
                go_wp2_with fail
                have hj1 : j ≤ 9223372036854775807 := by omega
                refine (kills_ap wp w.heap.size T M _ bl HT3.out (by rw [kyl_length]; omega) A' j c' ss HSL.out HDL.out hj1 (fun a ha => ⟨(HAA.out a ha).1, fun i hi => by rw [kyl_length] at hi; have := HBL.out i hi; have := (HAA.out a ha).2; omega⟩)).mono ?_
                rintro e w5 ⟨rfl, hT5, hB5, hA5⟩
                rw [kyl_hits]
                rw [kyl_kill] at hT5
                rw [kyl_length] at hA5
                have HT5 := Lib.hid hT5
                have HB5 := Lib.hid (HBr.out.trans hB5)
                have HSL5 := Lib.hid (HSL.out.apart hA5 (fun a ha => ⟨(HAA.out a ha).1, fun i hi => by have := HBL.out i hi; have := (HAA.out a ha).2; omega⟩))
                have HD5 := Lib.hid (HD.out.apart hA5 (fun i hi => by have := HBL.out i hi; omega))
                have hz5 := hB5.size
                clear hT5 hB5 hA5
                go_wp2_with fail
                refine (kills_ap w5 w.heap.size T M _ bl HT5.out (by rw [kyl_length]; omega) A' j c' ss HSL5.out HDL.out hj1 (fun a ha => ⟨by have := (HAA.out a ha).1; omega, fun i hi => by rw [kyl_length] at hi; have := HBL.out i hi; have := (HAA.out a ha).2; omega⟩)).mono ?_
                rintro e w6 ⟨rfl, hT6, hB6, hA6⟩
                rw [kyl_none]
                rw [kyl_again] at hT6
                rw [kyl_length] at hA6
                have HT6 := Lib.hid hT6
                have HB6 := Lib.hid (HB5.out.trans hB6)
                have HD6 := Lib.hid (HD5.out.apart hA6 (fun i hi => by have := HBL.out i hi; omega))
                clear hT6 hB6 hA6 hz5
                go_wp2_with fail
                refine (len_any w6 w.heap.size T M _ bl HT6.out).mono ?_
                rintro e w7 ⟨rfl, rfl⟩
                rw [kyl_all]
                clear HSL HD HT3 HT5 HD5 HSL5 HAA HDL
                go_wp2
                go_loopw [14] (fun i wr => ∃ m : Nat, m ≤ q ∧ i = .int .i64 m ∧ Tok wr w.heap.size T M (kyl q (fun j => !deadIn ss j) m) bl ∧ Blk wr wo.heap.size 33 (dcells ss) ∧ Below w.heap.size w wr) (fun i _ => q - (intOf i).toNat)
                case atStart => exact ⟨0, Nat.zero_le _, rfl, HT6.out, HD6.out, HB6.out⟩
                case round =>
                  obtain ⟨m, hm, rfl, hT, hD, hB⟩ := hrel
                  by_cases hlt : m < q
                  · have hml : m < (kyl q (fun j => !deadIn ss j) m).length := by rw [kyl_length]; exact hlt
                    have hus : (kyl q (fun j => !deadIn ss j) m)[m].used = false := by rw [kyl_get]; simp
                    have U := use_yes_g wr w.heap.size T M _ bl m hT hml hus
                    have E1 : (kyl q (fun j => !deadIn ss j) m)[m].key = kb (97 + (m : Int) % 5) := by rw [kyl_get]
                    have E2 : (kyl q (fun j => !deadIn ss j) m)[m].good = !deadIn ss (m % 5) := by rw [kyl_get]
                    rw [E1, E2, kyl_use] at U
                    have HU := Lib.hid U
                    have HDm := Lib.hid hD
                    have HBm := Lib.hid hB
                    have HTM : Hid (wo.heap.size ≠ M) := Lib.hid (fun e => by
                      have h1 := hT.map
                      unfold MapAt at h1
                      unfold Blk at hD
                      rw [← e, hD] at h1
                      cases h1)
                    clear U E1 E2 hus hml hT hD hB
                    go_wp2_with fail
                    refine HU.out.mono ?_
                    rintro e w8 ⟨rfl, hT8, hB8, hG8⟩
                    have hD8 := HDm.out.grown hG8 (by simp; exact HTM.out)
                    have HT8 := Lib.hid (hT8.alloc (.cells #[.int .u8 (97 + (m : Int) % 5)] 5))
                    have HB8 := Lib.hid ((HBm.out.trans hB8).alloc hT8.above (.cells #[.int .u8 (97 + (m : Int) % 5)] 5))
                    have HD8 := Lib.hid (hD8.alloc (.cells #[.int .u8 (97 + (m : Int) % 5)] 5))
                    have hcv := conv1 (97 + (m : Int) % 5) (w8.alloc (.cells #[.int .u8 (97 + (m : Int) % 5)] 5)) w8.heap.size (by simp [go_sem])
                    have hcell : (w8.alloc (.cells #[.int .u8 (97 + (m : Int) % 5)] 5)).cell? ⟨wo.heap.size, m % 5, none⟩ = some (.bool (deadIn ss (m % 5))) := (HD8.out.cell _).trans (dcells_get _ _ (by omega))
                    clear hT8 hB8 hG8 hD8 HU
                    generalize deadIn ss (m % 5) = d at *
                    cases d with
                    | false =>
                      go_wp2
                      exact ⟨⟨m + 1, by omega, by go_num, HT8.out, HD8.out, HB8.out⟩, by simp [intOf]; omega⟩
                    | true =>
                      go_wp2
                      exact ⟨⟨m + 1, by omega, by go_num, HT8.out, HD8.out, HB8.out⟩, by simp [intOf]; omega⟩
                  · obtain rfl : m = q := by omega
                    go_wp2
                    go_ret
                    exact ⟨rfl, hB⟩
theorem tokenKeys.walk (w : World) (n : Int) (_ : (Lit.int .i64 n).wf = true) (A : Option Addr) (len cap : Nat) (zs : List Int) (z : zs.length = len ∧ len ≤ cap ∧ cap ≤ maxLen ∧ (∀ n ∈ zs, (Lit.int .i64 n).wf = true) ∧ Sl w A (zs.map (.int .i64))) :
    Calls Try.prog 4 #[.int .i64 n, .slice A len cap] w fun e w' => e = .returned (.bool true) ∧ Below w.heap.size w w' := by
  by_cases hc : n < 0 ∨ 20 < n
  · exact keys_out w n A len cap hc
  · obtain ⟨k, rfl⟩ : ∃ k : Nat, n = k := ⟨n.toNat, by omega⟩
    obtain ⟨h1, h2, h3, h4, h5⟩ := z
    exact keys_in w k (by omega) A len cap zs h1 h5 h4
end Go.Proofs.Ytcghoaijflekhaa
