/- The reference's Kill. Conditions: lengths. -/
import Derived.Test.YtcghoaijflekhaaTokR
namespace Go.Proofs.Ytcghoaijflekhaa
open Go.RowKit
theorem inB_take (s : ByteArray) (ss : List ByteArray) (m : Nat) (h : m < ss.length) : inB s (ss.take (m + 1)) = (inB s (ss.take m) || (ss[m].toList == s.toList)) := by
  rw [Bool.eq_iff_iff, Bool.or_eq_true, inB_iff, inB_iff, List.take_succ_eq_append_getElem h, List.mem_append, List.mem_singleton, beq_iff_eq]
  constructor
  · rintro (h1 | h1)
    · exact .inl h1
    · exact .inr (by rw [h1])
  · rintro (h1 | h1)
    · exact .inl h1
    · exact .inr (toList_inj h1.symm)
theorem hurtIn_step (f : ByteArray → Bool) (L : List TkS) (k : Nat) (hk : k < L.length) : (hit f L[k] = false → hurtIn f (List.range (k + 1)) L = hurtIn f (List.range k) L ∧ ((List.range (k + 1)).filter (hitAt f L)).length = ((List.range k).filter (hitAt f L)).length) ∧
    (hit f L[k] = true → hurtIn f (List.range (k + 1)) L = (hurtIn f (List.range k) L).set k ⟨L[k].key, false, L[k].used⟩ ∧ ((List.range (k + 1)).filter (hitAt f L)).length = ((List.range k).filter (hitAt f L)).length + 1) := by
  have hat : hitAt f L k = hit f L[k] := by unfold hitAt; rw [List.getElem?_eq_getElem hk]
  rw [List.range_succ, List.filter_append, List.length_append]
  refine ⟨fun h => ⟨hurtIn_miss f _ L k (hat.trans h), by simp [hat, h]⟩, fun h => ⟨hurtIn_hit f _ L k hk h, by simp [hat, h]⟩⟩
theorem RTok.drewN {w : World} {base R : Nat} {L : List TkS} (h : RTok w base R L) (n : Nat) : RTok (w.drewN n) base R L := h.keep (fun _ _ h _ => h)
/-- one right is made bad -/
theorem RTok.bad {w : World} {base R : Nat} {L : List TkS} {g c : Nat} (hR : base ≤ R) (hb : Blk w R 40 #[.slice (some ⟨g, 0, none⟩) L.length c]) (ho : w.ownsRow base 57 3 (.slice (some ⟨g, 0, none⟩) L.length c) L.length (rcells L)) (i : Nat) (hi : i < L.length) (x : TkS) (hk : L[i].key = x.key) (hu : L[i].used = x.used) (hx : x.good = false) :
    RTok (w.setCell ⟨g, i * 3 + 1, none⟩ (.bool false)) base R (L.set i x) := by
  have hgR : g ≠ R := fun e => by
    subst e
    rcases ho.2 with ⟨h4, _⟩ | ⟨g', cap', cur, h5, _, h7, _⟩
    · cases h4
    · cases h5
      unfold Blk at hb
      rw [hb] at h7
      cases h7
  refine ⟨hR, .slice (some ⟨g, 0, none⟩) L.length c, hb.far (p := ⟨g, i * 3 + 1, none⟩) (Ne.symm hgR) _, ?_⟩
  have hst := ho.stored (i * 3 + 1) (.bool false)
  rw [List.length_set, rcells_set L i hi, ← hk, ← hu, hx]
  obtain ⟨e1, e2, e3⟩ := rcells_get L i hi
  have hl := rcells_length L
  rw [show (rcells L).set (i * 3) (.string L[i].key) = rcells L from by
    apply List.ext_getElem?
    intro j
    rw [List.getElem?_set]
    split
    · rename_i e
      subst e
      rw [e1]
      simp
      omega
    · rfl]
  rw [show ((rcells L).set (i * 3 + 1) (.bool false)).set (i * 3 + 2) (.bool L[i].used) = (rcells L).set (i * 3 + 1) (.bool false) from by
    apply List.ext_getElem?
    intro j
    rw [List.getElem?_set]
    split
    · rename_i e
      subst e
      rw [List.getElem?_set_ne (by omega), e3]
      simp
      omega
    · rfl]
  exact hst.1
set_option maxHeartbeats 2000000 in
theorem rkill_any (w : World) (base R : Nat) (L : List TkS) (h : RTok w base R L) (hlen : L.length < 1099511627) (A : Option Addr) (n c : Nat) (ss : List ByteArray) (all : Bool) (hr : ∀ wr, Keeps notR w wr → Sl wr A (ss.map .string)) (hn : ss.length = n) (hm : n ≤ 9223372036854775807) :
    Calls Try.prog 17 #[.pointer (some ⟨R, 0, none⟩), .slice A n c, .bool all] w fun e w' => e = .returned (.int .i64 ((L.filter (hit fun s => all || inB s ss)).length : Int)) ∧ RTok w' base R (L.map (hurt1 fun s => all || inB s ss)) ∧ Below base w w' ∧ Keeps notR w w' := by
  have HH := Lib.hid h
  have HR := Lib.hid hr
  have HN := Lib.hid hn
  obtain ⟨f, hf⟩ : ∃ f : ByteArray → Bool, f = fun s => all || inB s ss := ⟨_, rfl⟩
  have HF := Lib.hid hf
  rw [← hf]
  clear h hr hn hf
  obtain ⟨A0, c0', hb0, _⟩ := HH.out.shape
  have c00 : w.cell? ⟨R, 0, none⟩ = some (.slice A0 (L.length) c0') := hb0.cell 0
  clear hb0
  go_enter Try.func17, Try.ntmps17
  go_wp2
  clear c00
  go_loopw [7, 8] (fun v i wr => ∃ k : Nat, k ≤ L.length ∧ i = .int .i64 k ∧ v = .int .i64 (((List.range k).filter (hitAt f L)).length : Int) ∧ RTok wr base R (hurtIn f (List.range k) L) ∧ Below base w wr ∧ Keeps notR w wr) (fun _ i _ => L.length - (intOf i).toNat)
  case atStart => exact ⟨0, Nat.zero_le _, rfl, rfl, by rw [show List.range 0 = [] from rfl, hurtIn_nil]; exact HH.out, Below.refl _ _, Keeps.refl _ _⟩
  case round =>
    obtain ⟨k, hk, rfl, rfl, hT, hB, hK⟩ := hrel
    have HB := Lib.hid hB
    have HK := Lib.hid hK
    obtain ⟨A1, c1, hb, _, _, ho⟩ := hT.shape
    have hR := hT.hR
    have hfl := List.length_filter_le (hitAt f L) (List.range k)
    rw [List.length_range] at hfl
    have HHL := Lib.hid (hurtIn_length f (List.range k) L)
    have hcR : wr.cell? ⟨R, 0, none⟩ = some (.slice A1 L.length c1) := by rw [← HHL.out]; exact hb.cell 0
    have HBk := Lib.hid hb
    have HO := Lib.hid ho
    clear hT hB hK hb ho
    by_cases hlt : k < L.length
    · have hlt' : k < (hurtIn f (List.range k) L).length := by rw [HHL.out]; exact hlt
      obtain ⟨g, rfl, hg, hcur, hky, hgd, hus, hfz⟩ := own_at HO.out k hlt'
      have e : (hurtIn f (List.range k) L)[k] = L[k] := by rw [hurtIn_get, if_neg (by simp)]
      have HE := Lib.hid e
      have HCUR := Lib.hid hcur
      rw [e] at hky hgd hus
      have hf1 := hfz (k * 3 + 1)
      clear e hfz hcur
      have HST := Lib.hid (hurtIn_step f L k hlt)
      have HHIT : Hid (hit f L[k] = (!L[k].used && L[k].good && f L[k].key)) := Lib.hid rfl
      have HSl := Lib.hid (HR.out wr HK.out)
      go_wp2
      obtain ⟨wo, rfl⟩ : ∃ wo : World, wo = wr := ⟨_, rfl⟩
      have hgd0 := hgd
      have hus0 := hus
      have HGD := Lib.hid hgd0
      have HUS := Lib.hid hus0
      clear hgd hus hgd0 hus0
      obtain ⟨ky, hkye⟩ : ∃ ky, L[k].key = ky := ⟨_, rfl⟩
      rw [hkye] at hky HST HHIT
      have HKY := Lib.hid hkye
      clear hkye
      go_loopw [9, 10] (fun v i wr => ∃ (m q : Nat) (b : Bool), m ≤ n ∧ i = .int .i64 m ∧ v = .bool b ∧ (b = (all || inB ky (ss.take m))) ∧ wr = wo.drewN q) (fun _ i _ => n - (intOf i).toNat)
      case atStart => exact ⟨0, 0, all, Nat.zero_le _, rfl, rfl, by simp [inB], rfl⟩
      case round =>
        obtain ⟨m, q, b, hmn, rfl, rfl, hb2, rfl⟩ := hrel
        have HB2 := Lib.hid hb2
        clear hb2
        by_cases hlm : m < n
        · have hlm' : m < ss.length := by rw [HN.out]; exact hlm
          obtain ⟨bk, off, rfl, hc⟩ := HSl.out.at_ m (by rw [List.length_map]; exact hlm')
          rw [List.getElem_map] at hc
          have HTK := Lib.hid (inB_take ky ss m hlm')
          generalize ss[m] = s at hc HTK
          have h10 : (0 : Int) ≤ (m : Int) := by omega
          have h11 : (m : Int) < (n : Int) := by omega
          have h12 : (0 : Int) ≤ (k : Int) := by omega
          have h13 : (k : Int) < (L.length : Int) := by omega
          cases b with
          | true =>
            have HX : Hid (true = (all || inB ky (ss.take (m + 1)))) := Lib.hid (by
              rw [HTK.out, ← Bool.or_assoc, ← HB2.out]; rfl)
            go_wp2
            go_quiet (fail)
            go_wp2
            exact ⟨⟨m + 1, _, true, by omega, by go_num, rfl, HX.out, rfl⟩, by simp [intOf]; omega⟩
          | false =>
            have HX : Hid ((s.toList == ky.toList) = (all || inB ky (ss.take (m + 1)))) := Lib.hid (by
              rw [HTK.out, ← Bool.or_assoc, ← HB2.out]; rfl)
            cases hsk : (s.toList == ky.toList) with
            | true =>
              rw [hsk] at HX
              go_wp2
              go_quiet (fail)
              go_wp2
              exact ⟨⟨m + 1, _, true, by omega, by go_num, rfl, HX.out, rfl⟩, by simp [intOf]; omega⟩
            | false =>
              rw [hsk] at HX
              go_wp2
              go_quiet (fail)
              go_wp2
              exact ⟨⟨m + 1, _, false, by omega, by go_num, rfl, HX.out, rfl⟩, by simp [intOf]; omega⟩
        · obtain rfl : m = n := by omega
          have HFK : Hid (f ky = b) := Lib.hid (by rw [HF.out, HB2.out, List.take_of_length_le (by rw [HN.out]; omega)])
          rw [HFK.out] at HHIT
          have hgd := HGD.out
          have hus := HUS.out
          clear HGD HUS HSl
          have HKK : Hid ((hurtIn f (List.range k) L)[k].key = ky ∧ (hurtIn f (List.range k) L)[k].used = L[k].used) := Lib.hid (by rw [HE.out]; exact ⟨HKY.out, rfl⟩)
          clear HE HKY
          have hw : Below base w (wo.drewN q) ∧ Keeps notR w (wo.drewN q) := ⟨below_drewN' HB.out _, HK.out⟩
          have HW := Lib.hid hw
          have HTT : Hid (RTok (wo.drewN q) base R (hurtIn f (List.range k) L)) := Lib.hid (RTok.drewN ⟨hR, _, HBk.out, HO.out⟩ q)
          clear hw
          generalize L[k].good = gd at *
          generalize L[k].used = ud at *
          by_cases hh : b = true ∧ gd = true ∧ ud = false
          · obtain ⟨rfl, rfl, rfl⟩ := hh
            obtain ⟨e1, e2⟩ := HST.out.2 HHIT.out
            have HE2 := Lib.hid e2
            have HT3 : Hid (RTok ((wo.drewN q).setCell ⟨g, k * 3 + 1, none⟩ (.bool false)) base R (hurtIn f (List.range (k + 1)) L) ∧ Below base w ((wo.drewN q).setCell ⟨g, k * 3 + 1, none⟩ (.bool false)) ∧ Keeps notR w ((wo.drewN q).setCell ⟨g, k * 3 + 1, none⟩ (.bool false))) := by
              refine Lib.hid ⟨?_, HW.out.1.setCell (p := ⟨g, k * 3 + 1, none⟩) hg _, HW.out.2.setCell _ _ (fun o ho => ?_)⟩
              · rw [e1]
                exact RTok.bad hR (HBk.out.drewN q) HO.out k hlt' _ HKK.out.1 HKK.out.2 rfl
              · obtain ⟨cur, hcur⟩ := HCUR.out
                have h' : wo.heap[g]? = some o := ho
                rw [hcur] at h'
                cases h'
                rfl
            clear e1 e2
            go_wp2
            exact ⟨⟨k + 1, by omega, by go_num, by rw [HE2.out]; go_num, HT3.out.1, HT3.out.2.1, HT3.out.2.2⟩, by simp [intOf]; omega⟩
          · have hcs : b = false ∨ (b = true ∧ gd = false) ∨ (b = true ∧ gd = true ∧ ud = true) := by cases b <;> cases gd <;> cases ud <;> simp_all
            clear hh
            rcases hcs with rfl | ⟨rfl, rfl⟩ | ⟨rfl, rfl, rfl⟩
            all_goals
              obtain ⟨e1, e2⟩ := HST.out.1 (HHIT.out.trans (by simp))
              have HE1 := Lib.hid e1
              have HE2 := Lib.hid e2
              clear e1 e2
              go_wp2
              exact ⟨⟨k + 1, by omega, by go_num, by rw [HE2.out], by rw [HE1.out]; exact HTT.out, HW.out.1, HW.out.2⟩, by simp [intOf]; omega⟩
    · obtain rfl : k = L.length := by omega
      have HE1 : Hid (hurtIn f (List.range L.length) L = L.map (hurt1 f)) := Lib.hid (hurtIn_all f _ L fun i hi _ => by simpa using hi)
      have HE2 := Lib.hid (hits_all f L)
      have HT2 : Hid (RTok wr base R (L.map (hurt1 f))) := Lib.hid (by
        rw [← HE1.out]
        exact ⟨hR, _, HBk.out, HO.out⟩)
      clear hlt
      go_wp2
      go_ret
      refine ⟨by rw [HE2.out]; rfl, HT2.out, HB.out, HK.out⟩
end Go.Proofs.Ytcghoaijflekhaa
