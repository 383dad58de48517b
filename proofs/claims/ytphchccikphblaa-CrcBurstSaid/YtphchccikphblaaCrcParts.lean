/- The law CrcParts' walk. No condition. -/
import Derived.Test.YtphchccikphblaaBegun3
import Derived.Test.YtphchccikphblaaAppend
namespace Go.Proofs.Ytphchccikphblaa
open Go.RowKit
theorem info25 : (Try.prog.info? 25).map (fun i => (i.zero, i.size, i.bytes)) = some (some (.slice none 0 0), 1, 24) := by kernel_rfl
theorem info5 : (Try.prog.info? 5).map (fun i => (i.zero, i.size, i.bytes)) = some (some (.int .u8 0), 1, 1) := by kernel_rfl
theorem Sl.one_new (w : World) (x : Value) (t : TypeId) : Sl (w.alloc (.cells #[x] t)) (some ⟨w.heap.size, 0, none⟩) [x] := Sl.laid w [x] t (0, 0)
def cutTo (ps : List Part) (n k : Nat) : List Part := (ps.take k).map (·.cut n)
theorem cutTo_succ (ps : List Part) (n k : Nat) (h : k < ps.length) : cutTo ps n (k + 1) = cutTo ps n k ++ [ps[k].cut n] := by
  unfold cutTo
  rw [List.take_succ_eq_append_getElem h, List.map_append]; rfl
theorem cutTo_length (ps : List Part) (n k : Nat) (h : k ≤ ps.length) : (cutTo ps n k).length = k := by
  unfold cutTo
  rw [List.length_map, List.length_take]; omega
def allOf (ps : List Part) : List Nat := ps.flatMap Part.l
theorem allOf_snoc (ps : List Part) (p : Part) : allOf (ps ++ [p]) = allOf ps ++ p.l := by
  unfold allOf; rw [List.flatMap_append]; simp
theorem bv_append (l m : List Nat) : bv (l ++ m) = bv l ++ bv m := by unfold bv; rw [List.map_append]
theorem bv_one (l : List Nat) : ∀ u ∈ bv l, u.oneCell' = true := by
  intro u hu
  unfold bv at hu
  obtain ⟨c, _, rfl⟩ := List.mem_map.1 hu
  rfl
theorem bv_length (l : List Nat) : (bv l).length = l.length := by unfold bv; rw [List.length_map]
set_option maxHeartbeats 4000000 in
theorem crcParts (A : Option Addr) (n c : Nat) (ps : List Part) (w : World) (hr : Sl w A (ps.map Part.val)) (hn : ps.length = n) (_hm : n ≤ 9223372036854775807) (hz : ∀ p ∈ ps, p.ok w ∧ p.l.length ≤ p.cap) :
    Calls Try.prog 4 #[.slice A n c] w fun e w' => e = .returned (.bool true) ∧ Below w.heap.size w w' := by
  obtain ⟨i0, hi, hz0, hz1, hz2⟩ := info_parts info25
  obtain ⟨j0, hj, hy0, hy1, hy2⟩ := info_parts info5
  have HN := Lib.hid hn; clear hn
  go_enter Try.func4, Try.ntmps4
  go_wp2_with fail
  refine (begun3 _).mono ?_
  rintro e w1 ⟨rfl, hb1⟩
  go_wp2
  go_loopw [4, 5, 6] (fun v u i wr => ∃ k : Nat, k ≤ n ∧ k ≤ 6 ∧ i = .int .i64 k ∧ wr.ownsRow w.heap.size 25 1 v k ((cutTo ps 100 k).map Part.val) ∧ wr.ownsRow w.heap.size 5 1 u (allOf (cutTo ps 100 k)).length (bv (allOf (cutTo ps 100 k))) ∧ (allOf (cutTo ps 100 k)).length ≤ 100 * k ∧ Below w.heap.size w wr) (fun _ _ i _ => n - (intOf i).toNat)
  case atStart => exact ⟨0, Nat.zero_le _, Nat.zero_le _, rfl, World.ownsRow_nil _ _ _ _, World.ownsRow_nil _ _ _ _, Nat.zero_le _, hb1⟩
  case round =>
    obtain ⟨k, hk, hk6, rfl, hown, hall, hlen, hb⟩ := hrel
    by_cases hlt : k < n
    · by_cases hl6 : k < 6
      · have hl6' : (k : Int) < 6 := by omega
        have hlt' : k < ps.length := by rw [HN.out]; exact hlt
        obtain ⟨b, off, rfl, hc⟩ := (hr.keep hb).at_ k (by rw [List.length_map]; exact hlt')
        rw [List.getElem_map] at hc
        have hp := hz _ (List.getElem_mem hlt')
        have HT := Lib.hid (cutTo_succ ps 100 k hlt')
        have HB := Lib.hid hb
        have hsz := hb.size
        generalize ps[k] = p at hc hp HT
        have hpo := hp.1.cut 100
        have hpl : (p.cut 100).l.length ≤ 100 := by unfold Part.cut; rw [List.length_take]; omega
        clear hb
        go_wp2_with fail
        refine (short_any p 100 (by decide) _ hp.1.2.1 hp.2).mono ?_
        rintro e w' ⟨rfl, rfl⟩
        generalize p.cut 100 = q at hpo hpl HT
        obtain ⟨qa, qc, ql⟩ := q
        simp only [Part.val]
        go_wp2_with (at_builtin; refine wpList_append_sl _ rfl (.tmp 26) (.tmp 28) 24 rfl w.heap.size 25 i0 _ 24 Try.underlying24 hi hz0 hz1 hz2 rfl _ _ _ rfl (hown.alloc _) _ 1 1 [.slice qa ql.length qc] rfl rfl (Sl.one_new _ _ _) ?c2 ?c3 ?c4 ?c5 ?_)
        case c2 => simp [Value.oneCell']
        case c3 => unfold maxLen; omega
        case c4 => omega
        case c5 => first | omega | (simp; omega)
        intro v' w2 hown2 hg
        have hall1 := (hall.alloc (.cells #[.slice qa ql.length qc] 25)).kept hg (own_apart hall hown (by decide))
        have hb1' := (HB.out.alloc hsz (.cells #[.slice qa ql.length qc] 25)).grown hg (by simp; omega) (fun g hg' => (hown.lt g hg').1)
        have hpo2 := hpo.keep hb1'
        have hs2 := hb1'.size
        have HB2 := Lib.hid hb1'
        have HO2 := Lib.hid hown2
        have hlt2 := hall1.lt
        clear hb1' hown hall hg hown2 HB
        go_wp2_with (at_builtin; refine wpList_append_sl _ rfl (.tmp 30) (.tmp 31) 25 rfl w.heap.size 5 j0 _ 1 Try.underlying25 hj hy0 hy1 hy2 rfl _ _ _ rfl hall1 qa ql.length qc (bv ql) rfl (bv_length _) hpo2.1 (bv_one _) ?d3 ?d4 ?d5 ?_)
        case d3 => unfold maxLen; omega
        case d4 => omega
        case d5 => first | omega | (simp; omega)
        intro v3 w3 hall3 hg3
        have hown3 := HO2.out.kept hg3 (own_apart HO2.out hall1 (by decide))
        have hb3 := HB2.out.grown hg3 hs2 (fun g hg' => (hlt2 g hg').1)
        have HB3 := Lib.hid hb3
        clear hb3 hg3 hall1 HO2 HB2
        go_wp2
        go_roundw
        case rel => exact ⟨k + 1, by omega, by omega, by go_num, by rw [HT.out, List.map_append]; exact hown3, by rw [HT.out, allOf_snoc, bv_append, List.length_append]; exact hall3, by rw [HT.out, allOf_snoc, List.length_append]; dsimp only; omega, HB3.out⟩
        case measure => simp [intOf]; omega
      · have hl6' : ¬ (k : Int) < 6 := by omega
        obtain ⟨lA, lc, rfl, _, _, _, hls⟩ := Sl.of_own hown
        obtain ⟨aA, ac, rfl, _, _, _, has⟩ := Sl.of_own hall
        have HB := Lib.hid hb
        have hcl := Lib.hid (cutTo_length ps 100 k (by rw [HN.out]; omega))
        have hoks : ∀ p ∈ cutTo ps 100 k, p.ok wr := fun p hp => by
          unfold cutTo at hp
          obtain ⟨q, hq, rfl⟩ := List.mem_map.1 hp
          exact ((hz q (List.mem_of_mem_take hq)).1.cut 100).keep hb
        have hallok : Part.ok wr ⟨aA, ac, allOf (cutTo ps 100 k)⟩ := ⟨has, by dsimp only; omega, fun x hx => by
          obtain ⟨p, hp, hxp⟩ := List.mem_flatMap.1 hx
          exact (hoks p hp).2.2 x hxp⟩
        have hsz := hb.size
        have HO := Lib.hid hoks
        have HS := Lib.hid hls
        have HA := Lib.hid hallok
        clear hown hall hb has hoks hls hallok hr hz
        go_wp2_with fail
        refine (sum_any lA k lc (cutTo ps 100 k) _ HS.out hcl.out (by omega) HO.out).mono ?_
        rintro e w' ⟨rfl, rfl⟩
        go_wp2_with fail
        refine (sumR_any ⟨aA, ac, allOf (cutTo ps 100 k)⟩ _ HA.out).mono ?_
        rintro e w' ⟨rfl, rfl⟩
        have HE : Hid (Plain.crc ((cutTo ps 100 k).flatMap Part.l) = Plain.crc (allOf (cutTo ps 100 k))) := Lib.hid rfl
        rw [HE.out]
        dsimp only
        go_wp2_with fail
        refine (sum_any _ 1 1 [⟨aA, ac, allOf (cutTo ps 100 k)⟩] _ (Sl.one_new _ _ _) rfl (by decide) (fun p hp => by
          rw [List.mem_singleton] at hp
          subst hp
          exact HA.out.keep ((Below.refl _ _).alloc (Nat.le_refl _) _))).mono ?_
        rintro e w' ⟨rfl, rfl⟩
        have HE2 : Hid (Plain.crc (([⟨aA, ac, allOf (cutTo ps 100 k)⟩] : List Part).flatMap Part.l) = Plain.crc (allOf (cutTo ps 100 k))) := Lib.hid (by simp)
        rw [HE2.out]
        go_wp2_with fail
        refine (sumR_any ⟨aA, ac, allOf (cutTo ps 100 k)⟩ _ (HA.out.keep ((Below.refl _ _).alloc (Nat.le_refl _) _))).mono ?_
        rintro e w' ⟨rfl, rfl⟩
        dsimp only
        go_wp2
        go_ret
        exact ⟨rfl, HB.out.alloc hsz _⟩
    · obtain ⟨lA, lc, rfl, _, _, _, hls⟩ := Sl.of_own hown
      obtain ⟨aA, ac, rfl, _, _, _, has⟩ := Sl.of_own hall
      have HB := Lib.hid hb
      have hcl := Lib.hid (cutTo_length ps 100 k (by rw [HN.out]; omega))
      have hoks : ∀ p ∈ cutTo ps 100 k, p.ok wr := fun p hp => by
        unfold cutTo at hp
        obtain ⟨q, hq, rfl⟩ := List.mem_map.1 hp
        exact ((hz q (List.mem_of_mem_take hq)).1.cut 100).keep hb
      have hallok : Part.ok wr ⟨aA, ac, allOf (cutTo ps 100 k)⟩ := ⟨has, by dsimp only; omega, fun x hx => by
        obtain ⟨p, hp, hxp⟩ := List.mem_flatMap.1 hx
        exact (hoks p hp).2.2 x hxp⟩
      have hsz := hb.size
      have HO := Lib.hid hoks
      have HS := Lib.hid hls
      have HA := Lib.hid hallok
      clear hown hall hb has hoks hls hallok hr hz
      go_wp2_with fail
      refine (sum_any lA k lc (cutTo ps 100 k) _ HS.out hcl.out (by omega) HO.out).mono ?_
      rintro e w' ⟨rfl, rfl⟩
      go_wp2_with fail
      refine (sumR_any ⟨aA, ac, allOf (cutTo ps 100 k)⟩ _ HA.out).mono ?_
      rintro e w' ⟨rfl, rfl⟩
      have HE : Hid (Plain.crc ((cutTo ps 100 k).flatMap Part.l) = Plain.crc (allOf (cutTo ps 100 k))) := Lib.hid rfl
      rw [HE.out]
      dsimp only
      go_wp2_with fail
      refine (sum_any _ 1 1 [⟨aA, ac, allOf (cutTo ps 100 k)⟩] _ (Sl.one_new _ _ _) rfl (by decide) (fun p hp => by
        rw [List.mem_singleton] at hp
        subst hp
        exact HA.out.keep ((Below.refl _ _).alloc (Nat.le_refl _) _))).mono ?_
      rintro e w' ⟨rfl, rfl⟩
      have HE2 : Hid (Plain.crc (([⟨aA, ac, allOf (cutTo ps 100 k)⟩] : List Part).flatMap Part.l) = Plain.crc (allOf (cutTo ps 100 k))) := Lib.hid (by simp)
      rw [HE2.out]
      go_wp2_with fail
      refine (sumR_any ⟨aA, ac, allOf (cutTo ps 100 k)⟩ _ (HA.out.keep ((Below.refl _ _).alloc (Nat.le_refl _) _))).mono ?_
      rintro e w' ⟨rfl, rfl⟩
      dsimp only
      go_wp2
      go_ret
      exact ⟨rfl, HB.out.alloc hsz _⟩
/-- a row read, as a part -/
def partOf (r : Row) : Part := ⟨r.A, r.cap, r.zs.map Int.toNat⟩
theorem bv_of (zs : List Int) (h : ∀ n ∈ zs, (Lit.int .u8 n).wf = true) : bv (zs.map Int.toNat) = zs.map (Value.int .u8) := by
  unfold bv
  rw [List.map_map]
  apply List.map_congr_left
  intro n hn
  have := bounds_u8 (h n hn)
  simp only [Function.comp_apply]
  rw [Int.toNat_of_nonneg this.1]
theorem lt_of_wf (zs : List Int) (h : ∀ n ∈ zs, (Lit.int .u8 n).wf = true) : ∀ c ∈ zs.map Int.toNat, c < 256 := by
  intro c hc
  obtain ⟨n, hn, rfl⟩ := List.mem_map.1 hc
  have := bounds_u8 (h n hn)
  omega
theorem partOf_ok {w : World} {r : Row} (h : r.ok w .u8) : (partOf r).ok w ∧ (partOf r).l.length ≤ (partOf r).cap ∧ (partOf r).val = r.val := by
  obtain ⟨h1, h2, h3, h4, h5⟩ := h
  unfold maxLen at h3
  refine ⟨⟨?_, ?_, lt_of_wf _ h4⟩, ?_, ?_⟩
  · unfold partOf; rw [bv_of _ h4]; exact h5
  · unfold partOf; rw [List.length_map]; omega
  · unfold partOf; dsimp only; rw [List.length_map]; omega
  · unfold partOf Part.val Row.val; dsimp only; rw [List.length_map, h1]
theorem parts_of {w : World} {A : Option Addr} (rs : List Row) (h : ∀ r ∈ rs, r.ok w .u8) (hs : Sl w A (rs.map Row.val)) : Sl w A ((rs.map partOf).map Part.val) ∧ ∀ p ∈ rs.map partOf, p.ok w ∧ p.l.length ≤ p.cap := by
  refine ⟨?_, fun p hp => ?_⟩
  · rw [List.map_map]
    have e : rs.map (Part.val ∘ partOf) = rs.map Row.val := List.map_congr_left fun r hr => (partOf_ok (h r hr)).2.2
    rw [e]; exact hs
  · obtain ⟨r, hr, rfl⟩ := List.mem_map.1 hp
    exact ⟨(partOf_ok (h r hr)).1, (partOf_ok (h r hr)).2.1⟩
theorem crcParts.walk (w : World) (A : Option Addr) (n c : Nat) (rs : List Row) (h : rs.length = n ∧ n ≤ c ∧ c ≤ maxLen ∧ (∀ r ∈ rs, r.ok w .u8) ∧ Sl w A (rs.map Row.val)) :
    Calls Try.prog 4 #[.slice A n c] w fun e w' => e = .returned (.bool true) ∧ Below w.heap.size w w' := by
  obtain ⟨h1, h2, h3, h4, h5⟩ := h
  unfold maxLen at h3
  obtain ⟨h6, h7⟩ := parts_of rs h4 h5
  exact crcParts A n c (rs.map partOf) w h6 (by rw [List.length_map]; exact h1) (by omega) h7
/-- a slice of bytes read, as a part -/
theorem part_of_ints {w : World} {A : Option Addr} {len cap : Nat} (zs : List Int) (h : zs.length = len ∧ len ≤ cap ∧ cap ≤ maxLen ∧ (∀ n ∈ zs, (Lit.int .u8 n).wf = true) ∧ Sl w A (zs.map (.int .u8))) :
    ∃ p : Part, p.val = .slice A len cap ∧ p.ok w ∧ p.l.length ≤ p.cap ∧ p.l.length = len := by
  obtain ⟨h1, h2, h3, h4, h5⟩ := h
  have := partOf_ok (w := w) (r := ⟨A, len, cap, zs⟩) ⟨h1, h2, h3, h4, h5⟩
  exact ⟨_, this.2.2, this.1, this.2.1, by unfold partOf; rw [List.length_map]; exact h1⟩
end Go.Proofs.Ytphchccikphblaa
