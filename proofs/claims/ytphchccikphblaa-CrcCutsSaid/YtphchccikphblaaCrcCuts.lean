/- The law CrcCuts' walk. No condition. -/
import Derived.Test.YtphchccikphblaaCrcParts
namespace Go.Proofs.Ytphchccikphblaa
open Go.RowKit
theorem rem20 (x : Int) (_h : -9223372036854775808 ≤ x ∧ x ≤ 9223372036854775807) : ∃ r : Nat, r < 20 ∧ (wrap64 (x.tmod 20 + 20)).tmod 20 = (r : Int) := by
  have h1 : x.tmod 20 < 20 := Int.tmod_lt_of_pos x (by decide)
  have h2 : -20 < x.tmod 20 := Int.lt_tmod_of_pos x (by decide)
  generalize x.tmod 20 = y at h1 h2
  have h3 : wrap64 (y + 20) = y + 20 := by
    unfold wrap64; omega
  rw [h3]
  have h4 : (y + 20).tmod 20 = (y + 20) % 20 := Int.tmod_eq_emod_of_nonneg (by omega)
  rw [h4]
  exact ⟨((y + 20) % 20).toNat, by omega, by omega⟩
theorem part_sub {w : World} {b off : Nat} (l : List Nat) (at_ d c : Nat) (hr : ∀ j u, (bv l)[j]? = some u → w.cell? ⟨b, off + j, none⟩ = some u) (h256 : ∀ c ∈ l, c < 256) (hd : d ≤ 9223372036854775807) :
    Part.ok w ⟨some ⟨b, off + at_, none⟩, c, (l.drop at_).take d⟩ := by
  refine ⟨fun _ => ⟨b, off + at_, rfl, fun j u hu => ?_⟩, by dsimp only; rw [List.length_take]; omega, fun x hx => h256 x (List.mem_of_mem_drop (List.mem_of_mem_take hx))⟩
  unfold bv at hu
  rw [List.getElem?_map, List.getElem?_take] at hu
  split at hu
  · rw [List.getElem?_drop] at hu
    have := hr (at_ + j) u (by unfold bv; rw [List.getElem?_map]; exact hu)
    rw [← Nat.add_assoc] at this
    exact this
  · simp at hu
theorem cuts_step (qs : List Part) (l : List Nat) (at_ d b off cap : Nat) (w : World) {k : Nat} (hq : qs.length = k) (hf : qs.flatMap Part.l = l.take at_) (ho : ∀ q ∈ qs, q.ok w) (hr : ∀ j u, (bv l)[j]? = some u → w.cell? ⟨b, off + j, none⟩ = some u) (h256 : ∀ c ∈ l, c < 256) (hd : at_ + d ≤ l.length ∧ l.length ≤ 200) :
    (qs ++ [(⟨some ⟨b, off + at_, none⟩, cap - at_, (l.drop at_).take d⟩ : Part)]).map Part.val = qs.map Part.val ++ [.slice (some ⟨b, off + at_, none⟩) d (cap - at_)] ∧ (qs ++ [(⟨some ⟨b, off + at_, none⟩, cap - at_, (l.drop at_).take d⟩ : Part)]).length = k + 1 ∧
    (qs ++ [(⟨some ⟨b, off + at_, none⟩, cap - at_, (l.drop at_).take d⟩ : Part)]).flatMap Part.l = l.take (at_ + d) ∧ ∀ q ∈ qs ++ [(⟨some ⟨b, off + at_, none⟩, cap - at_, (l.drop at_).take d⟩ : Part)], q.ok w := by
  have hlen : ((l.drop at_).take d).length = d := by rw [List.length_take, List.length_drop]; omega
  refine ⟨?_, by rw [List.length_append, hq]; rfl, ?_, ?_⟩
  · rw [List.map_append, List.map_cons, List.map_nil]
    unfold Part.val
    dsimp only
    rw [hlen]
  · rw [List.flatMap_append, hf, List.take_add]
    simp
  · intro q hq'
    rcases List.mem_append.1 hq' with h | h
    · exact ho q h
    · rw [List.mem_singleton] at h
      subst h
      exact part_sub l at_ d _ hr h256 (by omega)
set_option maxHeartbeats 4000000 in
theorem crcCuts (p : Part) (B : Option Addr) (m mc : Nat) (zs : List Int) (w : World) (hp : p.ok w) (hpc : p.l.length ≤ p.cap) (hpc2 : p.cap ≤ 9223372036854775807) (hz : Sl w B (zs.map (.int .i64))) (hm : zs.length = m) (_hm2 : m ≤ 9223372036854775807) (hw : ∀ n ∈ zs, (Lit.int .i64 n).wf = true) :
    Calls Try.prog 7 #[p.val, .slice B m mc] w fun e w' => e = .returned (.bool true) ∧ Below w.heap.size w w' := by
  obtain ⟨i0, hi, hz0, hz1, hz2⟩ := info_parts info25
  have HN := Lib.hid hm; clear hm
  obtain ⟨A, cap, l0⟩ := p
  unfold Part.val
  obtain ⟨hr0, hl63, hl256⟩ := hp
  dsimp only at *
  by_cases h200 : 200 < l0.length
  · have h200' : (200 : Int) < (l0.length : Int) := by omega
    have hcap2 : (200 : Int) ≤ (cap : Int) := by omega
    have HL : Hid ((l0.take 200).length = 200) := Lib.hid (by rw [List.length_take]; omega)
    have hr : Sl w A (bv (l0.take 200)) := Sl.take_bv hr0 200
    have h256 : ∀ c ∈ (l0.take 200), c < 256 := fun c hc => hl256 c (List.mem_of_mem_take hc)
    have hcapL : (200 : Nat) ≤ cap := by omega
    have hL200 : (200 : Nat) ≤ 200 := by omega
    generalize hlg : l0.take 200 = l at HL hr h256
    clear hlg
    go_enter Try.func7, Try.ntmps7
    go_wp2_with fail
    refine (begun3 _).mono ?_
    rintro e w1 ⟨rfl, hb1⟩
    go_wp2
    go_loopw [6, 7, 8] (fun v a i wr => ∃ (k at_ : Nat) (qs : List Part), at_ ≤ 200 ∧ k ≤ 31 ∧ (k ≤ 30 ∨ at_ = 200) ∧ i = .int .i64 k ∧ a = .int .i64 at_ ∧ wr.ownsRow w.heap.size 25 1 v k (qs.map Part.val) ∧ qs.length = k ∧ qs.flatMap Part.l = l.take at_ ∧ (∀ q ∈ qs, q.ok w) ∧ Below w.heap.size w wr) (fun _ _ i _ => 40 - (intOf i).toNat)
    case atStart => exact ⟨0, 0, [], Nat.zero_le _, by decide, .inl (by decide), rfl, rfl, World.ownsRow_nil _ _ _ _, rfl, by simp, by simp, hb1⟩
    case round =>
      obtain ⟨k, at_, qs, hat, hk31, hk30, rfl, rfl, hown, hqs, hfl, hqok, hb⟩ := hrel
      have HB := Lib.hid hb
      have hsz := hb.size
      have HQ := Lib.hid hqok
      have HF := Lib.hid hfl
      have HQL := Lib.hid hqs
      clear hb hqok hfl hqs
      by_cases hlt : at_ < 200
      · have hlt' : (at_ : Int) < (200 : Int) := by omega
        have hk : k ≤ 30 := by omega
        clear hk30
        have hcne : ¬ (cap : Nat) = at_ := by omega
        obtain ⟨b, off, rfl, hcells⟩ := hr (by
          intro e
          have := congrArg List.length e
          first | rw [bv_length, HL.out] at this | rw [bv_length] at this
          simp only [List.length_nil] at this
          omega)
        have HR : Hid (∀ j u, (bv l)[j]? = some u → w.cell? ⟨b, off + j, none⟩ = some u) := hcells
        clear hcells
        by_cases hkm : k < m ∧ k < 30
        · obtain ⟨hkm1, hkm2⟩ := hkm
          have hkm1' : (k : Int) < (m : Int) := by omega
          have hkm2' : (k : Int) < 30 := by omega
          obtain ⟨bz, oz, rfl, hcz⟩ := (hz.keep HB.out).at_ k (by rw [List.length_map, HN.out]; exact hkm1)
          rw [List.getElem_map] at hcz
          have hx := bounds_i64 (hw _ (List.getElem_mem (by rw [HN.out]; exact hkm1)))
          generalize zs[k]'(by rw [HN.out]; exact hkm1) = x at hcz hx
          obtain ⟨r, hr20, hrx⟩ : ∃ r : Nat, r < 20 ∧ (wrap64 (x.tmod 20 + 20)).tmod 20 = (r : Int) := rem20 x hx
          obtain ⟨nn, hnn⟩ : ∃ nn : Nat, (200 : Int) - (at_ : Int) = (nn : Int) := ⟨200 - at_, by omega⟩
          clear hx
          by_cases hmin : nn ≤ r
          · have hmin' : (nn : Int) ≤ (r : Int) := by omega
            go_wp2_with (at_builtin; refine wpList_append_sl _ rfl (.tmp 45) (.tmp 52) 24 rfl w.heap.size 25 i0 _ 24 Try.underlying24 hi hz0 hz1 hz2 rfl _ _ _ rfl (hown.alloc _) _ 1 1 [.slice (some ⟨b, off + at_, none⟩) nn (cap - at_)] rfl rfl (Sl.one_new _ _ _) ?c2 ?c3 ?c4 ?c5 ?_)
            case c2 => simp [Value.oneCell']
            case c3 => unfold maxLen; omega
            case c4 => omega
            case c5 => first | omega | (simp; omega)
            intro v' w2 hown2 hg
            have hb1' := (HB.out.alloc hsz (.cells #[.slice (some ⟨b, off + at_, none⟩) nn (cap - at_)] 25)).grown hg (by simp; omega) (fun g hg' => (hown.lt g hg').1)
            have HB2 := Lib.hid hb1'
            have HO2 := Lib.hid hown2
            have HX := Lib.hid (cuts_step qs l at_ nn b off cap w HQL.out HF.out HQ.out HR.out h256 (by first | (rw [HL.out]; omega) | omega))
            clear hb1' hg hown2 hown
            go_wp2
            obtain ⟨x1, x2, x3, x4⟩ := HX.out
            refine ⟨⟨k + 1, at_ + nn, qs ++ [⟨some ⟨b, off + at_, none⟩, cap - at_, (l.drop at_).take nn⟩], by omega, by omega, by omega, by go_num, by go_num, by rw [x1]; exact HO2.out, x2, x3, x4, HB2.out⟩, by simp [intOf]; omega⟩
          · have hmin' : (r : Int) < (nn : Int) := by omega
            go_wp2_with (at_builtin; refine wpList_append_sl _ rfl (.tmp 45) (.tmp 52) 24 rfl w.heap.size 25 i0 _ 24 Try.underlying24 hi hz0 hz1 hz2 rfl _ _ _ rfl (hown.alloc _) _ 1 1 [.slice (some ⟨b, off + at_, none⟩) r (cap - at_)] rfl rfl (Sl.one_new _ _ _) ?c2 ?c3 ?c4 ?c5 ?_)
            case c2 => simp [Value.oneCell']
            case c3 => unfold maxLen; omega
            case c4 => omega
            case c5 => first | omega | (simp; omega)
            intro v' w2 hown2 hg
            have hb1' := (HB.out.alloc hsz (.cells #[.slice (some ⟨b, off + at_, none⟩) r (cap - at_)] 25)).grown hg (by simp; omega) (fun g hg' => (hown.lt g hg').1)
            have HB2 := Lib.hid hb1'
            have HO2 := Lib.hid hown2
            have HX := Lib.hid (cuts_step qs l at_ r b off cap w HQL.out HF.out HQ.out HR.out h256 (by first | (rw [HL.out]; omega) | omega))
            clear hb1' hg hown2 hown
            go_wp2
            obtain ⟨x1, x2, x3, x4⟩ := HX.out
            refine ⟨⟨k + 1, at_ + r, qs ++ [⟨some ⟨b, off + at_, none⟩, cap - at_, (l.drop at_).take r⟩], by omega, by omega, by omega, by go_num, by go_num, by rw [x1]; exact HO2.out, x2, x3, x4, HB2.out⟩, by simp [intOf]; omega⟩
        · obtain ⟨nn, hnn⟩ : ∃ nn : Nat, (200 : Int) - (at_ : Int) = (nn : Int) := ⟨200 - at_, by omega⟩
          by_cases hkm1 : k < m
          · have hkm1' : (k : Int) < (m : Int) := by omega
            have hkm2' : ¬ (k : Int) < 30 := by omega
            clear hkm
            go_wp2_with (at_builtin; refine wpList_append_sl _ rfl (.tmp 45) (.tmp 52) 24 rfl w.heap.size 25 i0 _ 24 Try.underlying24 hi hz0 hz1 hz2 rfl _ _ _ rfl (hown.alloc _) _ 1 1 [.slice (some ⟨b, off + at_, none⟩) nn (cap - at_)] rfl rfl (Sl.one_new _ _ _) ?c2 ?c3 ?c4 ?c5 ?_)
            case c2 => simp [Value.oneCell']
            case c3 => unfold maxLen; omega
            case c4 => omega
            case c5 => first | omega | (simp; omega)
            intro v' w2 hown2 hg
            have hb1' := (HB.out.alloc hsz (.cells #[.slice (some ⟨b, off + at_, none⟩) nn (cap - at_)] 25)).grown hg (by simp; omega) (fun g hg' => (hown.lt g hg').1)
            have HB2 := Lib.hid hb1'
            have HO2 := Lib.hid hown2
            have HX := Lib.hid (cuts_step qs l at_ nn b off cap w HQL.out HF.out HQ.out HR.out h256 (by first | (rw [HL.out]; omega) | omega))
            clear hb1' hg hown2 hown
            go_wp2
            obtain ⟨x1, x2, x3, x4⟩ := HX.out
            refine ⟨⟨k + 1, at_ + nn, qs ++ [⟨some ⟨b, off + at_, none⟩, cap - at_, (l.drop at_).take nn⟩], by omega, by omega, by omega, by go_num, by go_num, by rw [x1]; exact HO2.out, x2, x3, x4, HB2.out⟩, by simp [intOf]; omega⟩
          · have hkm1' : ¬ (k : Int) < (m : Int) := by omega
            clear hkm
            go_wp2_with (at_builtin; refine wpList_append_sl _ rfl (.tmp 45) (.tmp 52) 24 rfl w.heap.size 25 i0 _ 24 Try.underlying24 hi hz0 hz1 hz2 rfl _ _ _ rfl (hown.alloc _) _ 1 1 [.slice (some ⟨b, off + at_, none⟩) nn (cap - at_)] rfl rfl (Sl.one_new _ _ _) ?c2 ?c3 ?c4 ?c5 ?_)
            case c2 => simp [Value.oneCell']
            case c3 => unfold maxLen; omega
            case c4 => omega
            case c5 => first | omega | (simp; omega)
            intro v' w2 hown2 hg
            have hb1' := (HB.out.alloc hsz (.cells #[.slice (some ⟨b, off + at_, none⟩) nn (cap - at_)] 25)).grown hg (by simp; omega) (fun g hg' => (hown.lt g hg').1)
            have HB2 := Lib.hid hb1'
            have HO2 := Lib.hid hown2
            have HX := Lib.hid (cuts_step qs l at_ nn b off cap w HQL.out HF.out HQ.out HR.out h256 (by first | (rw [HL.out]; omega) | omega))
            clear hb1' hg hown2 hown
            go_wp2
            obtain ⟨x1, x2, x3, x4⟩ := HX.out
            refine ⟨⟨k + 1, at_ + nn, qs ++ [⟨some ⟨b, off + at_, none⟩, cap - at_, (l.drop at_).take nn⟩], by omega, by omega, by omega, by go_num, by go_num, by rw [x1]; exact HO2.out, x2, x3, x4, HB2.out⟩, by simp [intOf]; omega⟩
      · have hlt' : ¬ (at_ : Int) < (200 : Int) := by omega
        obtain rfl : at_ = 200 := by omega
        obtain ⟨lA, lc, rfl, _, _, _, hls⟩ := Sl.of_own hown
        have HS := Lib.hid hls
        have HW : Hid (Part.ok w ⟨A, cap, l⟩) := Lib.hid ⟨hr, by dsimp only; first | (rw [HL.out]; omega) | omega, h256⟩
        have HK : Hid (l.take 200 = l) := Lib.hid (List.take_of_length_le (by first | (rw [HL.out]; omega) | omega))
        clear hown hls hr hz
        go_wp2_with fail
        refine (sum_any lA k lc qs _ HS.out HQL.out (by omega) (fun q hq => (HQ.out q hq).keep HB.out)).mono ?_
        rintro e w' ⟨rfl, rfl⟩
        have HE : Hid (Plain.crc (qs.flatMap Part.l) = Plain.crc l) := Lib.hid (by rw [HF.out, HK.out])
        rw [HE.out]
        go_wp2_with fail
        refine (sum_any _ 1 1 [⟨A, cap, l⟩] _ (by have h := Sl.one_new wr (.slice A l.length cap) 25; rw [HL.out] at h; unfold Part.val; simp only [List.map_cons, List.map_nil]; rw [HL.out]; exact h) rfl (by decide) (fun p hp => by
          rw [List.mem_singleton] at hp
          subst hp
          exact (HW.out.keep HB.out).keep ((Below.refl _ _).alloc (Nat.le_refl _) _))).mono ?_
        rintro e w' ⟨rfl, rfl⟩
        have HE2 : Hid (Plain.crc (([⟨A, cap, l⟩] : List Part).flatMap Part.l) = Plain.crc l) := Lib.hid (by simp)
        rw [HE2.out]
        go_wp2
        go_ret
        exact ⟨rfl, HB.out.alloc hsz _⟩
  · have h200' : ¬ (200 : Int) < (l0.length : Int) := by omega
    have HL : Hid (l0.length = l0.length) := Lib.hid rfl
    have hr : Sl w A (bv l0) := hr0
    have h256 : ∀ c ∈ l0, c < 256 := hl256
    have hcapL : (l0.length : Nat) ≤ cap := by omega
    have hL200 : (l0.length : Nat) ≤ 200 := by omega
    go_enter Try.func7, Try.ntmps7
    go_wp2_with fail
    refine (begun3 _).mono ?_
    rintro e w1 ⟨rfl, hb1⟩
    go_wp2
    go_loopw [6, 7, 8] (fun v a i wr => ∃ (k at_ : Nat) (qs : List Part), at_ ≤ l0.length ∧ k ≤ 31 ∧ (k ≤ 30 ∨ at_ = l0.length) ∧ i = .int .i64 k ∧ a = .int .i64 at_ ∧ wr.ownsRow w.heap.size 25 1 v k (qs.map Part.val) ∧ qs.length = k ∧ qs.flatMap Part.l = l0.take at_ ∧ (∀ q ∈ qs, q.ok w) ∧ Below w.heap.size w wr) (fun _ _ i _ => 40 - (intOf i).toNat)
    case atStart => exact ⟨0, 0, [], Nat.zero_le _, by decide, .inl (by decide), rfl, rfl, World.ownsRow_nil _ _ _ _, rfl, by simp, by simp, hb1⟩
    case round =>
      obtain ⟨k, at_, qs, hat, hk31, hk30, rfl, rfl, hown, hqs, hfl, hqok, hb⟩ := hrel
      have HB := Lib.hid hb
      have hsz := hb.size
      have HQ := Lib.hid hqok
      have HF := Lib.hid hfl
      have HQL := Lib.hid hqs
      clear hb hqok hfl hqs
      by_cases hlt : at_ < l0.length
      · have hlt' : (at_ : Int) < (l0.length : Int) := by omega
        have hk : k ≤ 30 := by omega
        clear hk30
        have hcne : ¬ (cap : Nat) = at_ := by omega
        obtain ⟨b, off, rfl, hcells⟩ := hr (by
          intro e
          have := congrArg List.length e
          first | rw [bv_length, HL.out] at this | rw [bv_length] at this
          simp only [List.length_nil] at this
          omega)
        have HR : Hid (∀ j u, (bv l0)[j]? = some u → w.cell? ⟨b, off + j, none⟩ = some u) := hcells
        clear hcells
        by_cases hkm : k < m ∧ k < 30
        · obtain ⟨hkm1, hkm2⟩ := hkm
          have hkm1' : (k : Int) < (m : Int) := by omega
          have hkm2' : (k : Int) < 30 := by omega
          obtain ⟨bz, oz, rfl, hcz⟩ := (hz.keep HB.out).at_ k (by rw [List.length_map, HN.out]; exact hkm1)
          rw [List.getElem_map] at hcz
          have hx := bounds_i64 (hw _ (List.getElem_mem (by rw [HN.out]; exact hkm1)))
          generalize zs[k]'(by rw [HN.out]; exact hkm1) = x at hcz hx
          obtain ⟨r, hr20, hrx⟩ : ∃ r : Nat, r < 20 ∧ (wrap64 (x.tmod 20 + 20)).tmod 20 = (r : Int) := rem20 x hx
          obtain ⟨nn, hnn⟩ : ∃ nn : Nat, (l0.length : Int) - (at_ : Int) = (nn : Int) := ⟨l0.length - at_, by omega⟩
          clear hx
          by_cases hmin : nn ≤ r
          · have hmin' : (nn : Int) ≤ (r : Int) := by omega
            go_wp2_with (at_builtin; refine wpList_append_sl _ rfl (.tmp 45) (.tmp 52) 24 rfl w.heap.size 25 i0 _ 24 Try.underlying24 hi hz0 hz1 hz2 rfl _ _ _ rfl (hown.alloc _) _ 1 1 [.slice (some ⟨b, off + at_, none⟩) nn (cap - at_)] rfl rfl (Sl.one_new _ _ _) ?c2 ?c3 ?c4 ?c5 ?_)
            case c2 => simp [Value.oneCell']
            case c3 => unfold maxLen; omega
            case c4 => omega
            case c5 => first | omega | (simp; omega)
            intro v' w2 hown2 hg
            have hb1' := (HB.out.alloc hsz (.cells #[.slice (some ⟨b, off + at_, none⟩) nn (cap - at_)] 25)).grown hg (by simp; omega) (fun g hg' => (hown.lt g hg').1)
            have HB2 := Lib.hid hb1'
            have HO2 := Lib.hid hown2
            have HX := Lib.hid (cuts_step qs l0 at_ nn b off cap w HQL.out HF.out HQ.out HR.out h256 (by first | (rw [HL.out]; omega) | omega))
            clear hb1' hg hown2 hown
            go_wp2
            obtain ⟨x1, x2, x3, x4⟩ := HX.out
            refine ⟨⟨k + 1, at_ + nn, qs ++ [⟨some ⟨b, off + at_, none⟩, cap - at_, (l0.drop at_).take nn⟩], by omega, by omega, by omega, by go_num, by go_num, by rw [x1]; exact HO2.out, x2, x3, x4, HB2.out⟩, by simp [intOf]; omega⟩
          · have hmin' : (r : Int) < (nn : Int) := by omega
            go_wp2_with (at_builtin; refine wpList_append_sl _ rfl (.tmp 45) (.tmp 52) 24 rfl w.heap.size 25 i0 _ 24 Try.underlying24 hi hz0 hz1 hz2 rfl _ _ _ rfl (hown.alloc _) _ 1 1 [.slice (some ⟨b, off + at_, none⟩) r (cap - at_)] rfl rfl (Sl.one_new _ _ _) ?c2 ?c3 ?c4 ?c5 ?_)
            case c2 => simp [Value.oneCell']
            case c3 => unfold maxLen; omega
            case c4 => omega
            case c5 => first | omega | (simp; omega)
            intro v' w2 hown2 hg
            have hb1' := (HB.out.alloc hsz (.cells #[.slice (some ⟨b, off + at_, none⟩) r (cap - at_)] 25)).grown hg (by simp; omega) (fun g hg' => (hown.lt g hg').1)
            have HB2 := Lib.hid hb1'
            have HO2 := Lib.hid hown2
            have HX := Lib.hid (cuts_step qs l0 at_ r b off cap w HQL.out HF.out HQ.out HR.out h256 (by first | (rw [HL.out]; omega) | omega))
            clear hb1' hg hown2 hown
            go_wp2
            obtain ⟨x1, x2, x3, x4⟩ := HX.out
            refine ⟨⟨k + 1, at_ + r, qs ++ [⟨some ⟨b, off + at_, none⟩, cap - at_, (l0.drop at_).take r⟩], by omega, by omega, by omega, by go_num, by go_num, by rw [x1]; exact HO2.out, x2, x3, x4, HB2.out⟩, by simp [intOf]; omega⟩
        · obtain ⟨nn, hnn⟩ : ∃ nn : Nat, (l0.length : Int) - (at_ : Int) = (nn : Int) := ⟨l0.length - at_, by omega⟩
          by_cases hkm1 : k < m
          · have hkm1' : (k : Int) < (m : Int) := by omega
            have hkm2' : ¬ (k : Int) < 30 := by omega
            clear hkm
            go_wp2_with (at_builtin; refine wpList_append_sl _ rfl (.tmp 45) (.tmp 52) 24 rfl w.heap.size 25 i0 _ 24 Try.underlying24 hi hz0 hz1 hz2 rfl _ _ _ rfl (hown.alloc _) _ 1 1 [.slice (some ⟨b, off + at_, none⟩) nn (cap - at_)] rfl rfl (Sl.one_new _ _ _) ?c2 ?c3 ?c4 ?c5 ?_)
            case c2 => simp [Value.oneCell']
            case c3 => unfold maxLen; omega
            case c4 => omega
            case c5 => first | omega | (simp; omega)
            intro v' w2 hown2 hg
            have hb1' := (HB.out.alloc hsz (.cells #[.slice (some ⟨b, off + at_, none⟩) nn (cap - at_)] 25)).grown hg (by simp; omega) (fun g hg' => (hown.lt g hg').1)
            have HB2 := Lib.hid hb1'
            have HO2 := Lib.hid hown2
            have HX := Lib.hid (cuts_step qs l0 at_ nn b off cap w HQL.out HF.out HQ.out HR.out h256 (by first | (rw [HL.out]; omega) | omega))
            clear hb1' hg hown2 hown
            go_wp2
            obtain ⟨x1, x2, x3, x4⟩ := HX.out
            refine ⟨⟨k + 1, at_ + nn, qs ++ [⟨some ⟨b, off + at_, none⟩, cap - at_, (l0.drop at_).take nn⟩], by omega, by omega, by omega, by go_num, by go_num, by rw [x1]; exact HO2.out, x2, x3, x4, HB2.out⟩, by simp [intOf]; omega⟩
          · have hkm1' : ¬ (k : Int) < (m : Int) := by omega
            clear hkm
            go_wp2_with (at_builtin; refine wpList_append_sl _ rfl (.tmp 45) (.tmp 52) 24 rfl w.heap.size 25 i0 _ 24 Try.underlying24 hi hz0 hz1 hz2 rfl _ _ _ rfl (hown.alloc _) _ 1 1 [.slice (some ⟨b, off + at_, none⟩) nn (cap - at_)] rfl rfl (Sl.one_new _ _ _) ?c2 ?c3 ?c4 ?c5 ?_)
            case c2 => simp [Value.oneCell']
            case c3 => unfold maxLen; omega
            case c4 => omega
            case c5 => first | omega | (simp; omega)
            intro v' w2 hown2 hg
            have hb1' := (HB.out.alloc hsz (.cells #[.slice (some ⟨b, off + at_, none⟩) nn (cap - at_)] 25)).grown hg (by simp; omega) (fun g hg' => (hown.lt g hg').1)
            have HB2 := Lib.hid hb1'
            have HO2 := Lib.hid hown2
            have HX := Lib.hid (cuts_step qs l0 at_ nn b off cap w HQL.out HF.out HQ.out HR.out h256 (by first | (rw [HL.out]; omega) | omega))
            clear hb1' hg hown2 hown
            go_wp2
            obtain ⟨x1, x2, x3, x4⟩ := HX.out
            refine ⟨⟨k + 1, at_ + nn, qs ++ [⟨some ⟨b, off + at_, none⟩, cap - at_, (l0.drop at_).take nn⟩], by omega, by omega, by omega, by go_num, by go_num, by rw [x1]; exact HO2.out, x2, x3, x4, HB2.out⟩, by simp [intOf]; omega⟩
      · have hlt' : ¬ (at_ : Int) < (l0.length : Int) := by omega
        obtain rfl : at_ = l0.length := by omega
        obtain ⟨lA, lc, rfl, _, _, _, hls⟩ := Sl.of_own hown
        have HS := Lib.hid hls
        have HW : Hid (Part.ok w ⟨A, cap, l0⟩) := Lib.hid ⟨hr, by dsimp only; first | (rw [HL.out]; omega) | omega, h256⟩
        have HK : Hid (l0.take l0.length = l0) := Lib.hid (List.take_of_length_le (by first | (rw [HL.out]; omega) | omega))
        clear hown hls hr hz
        go_wp2_with fail
        refine (sum_any lA k lc qs _ HS.out HQL.out (by omega) (fun q hq => (HQ.out q hq).keep HB.out)).mono ?_
        rintro e w' ⟨rfl, rfl⟩
        have HE : Hid (Plain.crc (qs.flatMap Part.l) = Plain.crc l0) := Lib.hid (by rw [HF.out, HK.out])
        rw [HE.out]
        go_wp2_with fail
        refine (sum_any _ 1 1 [⟨A, cap, l0⟩] _ (Sl.one_new _ _ _) rfl (by decide) (fun p hp => by
          rw [List.mem_singleton] at hp
          subst hp
          exact (HW.out.keep HB.out).keep ((Below.refl _ _).alloc (Nat.le_refl _) _))).mono ?_
        rintro e w' ⟨rfl, rfl⟩
        have HE2 : Hid (Plain.crc (([⟨A, cap, l0⟩] : List Part).flatMap Part.l) = Plain.crc l0) := Lib.hid (by simp)
        rw [HE2.out]
        go_wp2
        go_ret
        exact ⟨rfl, HB.out.alloc hsz _⟩
theorem crcCuts.walk (w : World) (A : Option Addr) (n c : Nat) (zs : List Int) (h : zs.length = n ∧ n ≤ c ∧ c ≤ maxLen ∧ (∀ x ∈ zs, (Lit.int .u8 x).wf = true) ∧ Sl w A (zs.map (.int .u8)))
    (B : Option Addr) (m mc : Nat) (ys : List Int) (h' : ys.length = m ∧ m ≤ mc ∧ mc ≤ maxLen ∧ (∀ x ∈ ys, (Lit.int .i64 x).wf = true) ∧ Sl w B (ys.map (.int .i64))) :
    Calls Try.prog 7 #[.slice A n c, .slice B m mc] w fun e w' => e = .returned (.bool true) ∧ Below w.heap.size w w' := by
  obtain ⟨p, hv, hp, hpc, _⟩ := part_of_ints zs h
  have hcap : p.cap ≤ 9223372036854775807 := by
    have h3 := h.2.2.1
    unfold maxLen at h3
    unfold Part.val at hv
    injection hv with _ _ hc
    omega
  obtain ⟨h1, h2, h3, h4, h5⟩ := h'
  unfold maxLen at h3
  rw [← hv]
  exact crcCuts p B m mc ys w hp hpc hcap h5 h1 (by omega) h4
end Go.Proofs.Ytphchccikphblaa
