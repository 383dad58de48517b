/- Held walked. Conditions: lengths. -/
import Derived.Test.YtmblkejgfoffaaaSet
namespace Go.Proofs.Ytmblkejgfoffaaa
open Go.RowKit
theorem Org.drewN {w : World} {base O M : Nat} {L : List St} (h : Org w base O M L) (n : Nat) : Org (w.drewN n) base O M L := ⟨h.hO, h.hM, h.blk, by
  obtain ⟨l, c, h4, h5⟩ := h.ex
  exact ⟨l, c, h4, h5.nodup, h5.each, h5.miss, h5.apart⟩⟩
theorem Org.below {w w' : World} {base O M : Nat} {L : List St} (h : Org w base O M L) (hb : Below w.heap.size w w') : Org w' base O M L := by
  obtain ⟨h1, h2, h3, l, c, h4, h5⟩ := h
  exact ⟨h1, h2, h3.below hb h3.lt, l, c, (hb.block M (Array.getElem?_eq_some_iff.1 h4).1).trans h4, h5.nodup, fun p hp => own_below (h5.each p hp) hb, h5.miss, h5.apart⟩
theorem Org.above {w : World} {base O M : Nat} {L : List St} (h : Org w base O M L) : base ≤ w.heap.size := by have := h.hO; have := h.blk.lt; omega
/-- what Held says -/
def HeldF (L : List St) (k v : ByteArray) (h : Bool) (a b : Int) : Prop := ∃ p : Nat, 0 ≤ (p : Int) ∧ a ≤ (p : Int) ∧ (p : Int) ≤ b ∧ p ≤ L.length ∧ atS L p k = (v, h)
theorem heldF_iff (L : List St) (k v : ByteArray) (h : Bool) (a b : Int) (x y : Nat) (hx : (x : Int) = max a 0) (hy : (y : Int) = min b (L.length : Int)) : HeldF L k v h a b ↔ heldS L k v h x y := by
  constructor
  · rintro ⟨p, h0, h1, h2, h3, h4⟩
    exact ⟨p, by omega, by omega, h4⟩
  · rintro ⟨p, h1, h2, h4⟩
    exact ⟨p, by omega, by omega, by omega, by omega, h4⟩
set_option maxRecDepth 100000 in
set_option maxHeartbeats 8000000 in
theorem held_a (w : World) (base O M : Nat) (L : List St) (h : Org w base O M L) (hl : L.length < 1099511627) (k v : ByteArray) (hb : Bool) (a b : Int) (h1 : 0 ≤ a) (h2 : b ≤ (L.length : Int)) :
    Calls Try.prog 18 #[.pointer (some ⟨O, 0, none⟩), .string k, .string v, .bool hb, .int .i64 a, .int .i64 b] w fun e w' => ∃ r : Bool, e = .returned (.bool r) ∧ (r = true ↔ HeldF L k v hb a b) ∧ Below w.heap.size w w' := by
  have c0 : w.cell? ⟨O, 0, none⟩ = some (.int .i64 (L.length : Int)) := h.blk.cell 0
  have c1 : w.cell? ⟨O, 1, none⟩ = some (.map (some M)) := h.blk.cell 1
  have HO := Lib.hid h
  have HRUN : Hid (∀ q A c, (Instr.lookup 56 (.map (some M)) (.string k) false).run Try.prog w = .ok (.slice A (rowsOf k L).length c) w → (Instr.lookup 56 (.map (some M)) (.string k) false).run Try.prog (w.drewN q) = .ok (.slice A (rowsOf k L).length c) (w.drewN q)) := Lib.hid (fun q A c h1 => by
    obtain ⟨A', c', h2, _⟩ := (h.drewN q).look k (zero59 _)
    obtain ⟨l, cc, hm, he⟩ := h.ex
    have e1 := run_lookup_at (P := Try.prog) keysS Try.underlying56 hm k (.slice none 0 0) (zero59 w) false
    have e2 := run_lookup_at (P := Try.prog) (w := w.drewN q) keysS Try.underlying56 hm k (.slice none 0 0) (zero59 _) false
    unfold mkS at e1 e2
    rw [h1] at e1
    rw [e2]
    injection e1 with e1 _
    rw [← e1])
  clear h
  go_enter Try.func18, Try.ntmps18
  go_wp2
  go_quiet (fail)
  have hxi0 : (0 : Int) ≤ a := by omega
  have hyin : b ≤ (L.length : Int) := by omega
  by_cases hft : b < a
  · have HNO : Hid (¬ HeldF L k v hb a b) := Lib.hid (by rintro ⟨p, h0, h1, h2, h3, h4⟩; omega)
    go_wp2
    go_ret
    exact ⟨false, rfl, by simp; exact HNO.out, below_drewN (Below.refl _ _) _⟩
  · have HIF : Hid (HeldF L k v hb a b ↔ heldS L k v hb (a : Int).toNat (b : Int).toNat) := Lib.hid (heldF_iff L k v hb a b _ _ (by omega) (by omega))
    have HRW := Lib.hid (held_rows L k v hb (a : Int).toNat (b : Int).toNat (by omega))
    have HAT : Hid (atF L a k = atS L (a : Int).toNat k) := Lib.hid (by unfold atF; rw [if_neg (by omega)])
    have hft2 : a ≤ b := by omega
    clear hft
    go_wp2_with fail
    refine (at_any _ base O M L (HO.out.drewN _) (by omega) a k).mono ?_
    rw [HAT.out]
    rintro e w2 ⟨rfl, n2, rfl⟩
    obtain ⟨r0, hr0⟩ : ∃ r0, atS L (a : Int).toNat k = r0 := ⟨_, rfl⟩
    rw [hr0] at HRW ⊢
    clear hr0
    obtain ⟨v0, h0⟩ := r0
    obtain ⟨A, c, hrun, hc, hs⟩ := HO.out.look k (zero59 w)
    have HPOS := Lib.hid (rowsOf_pos k L)
    have hle := rowsOf_le k L
    generalize rowsOf k L = rs at *
    have HS := Lib.hid hs
    clear hs
    have hn : (0 : Int) ≤ (rs.length : Int) := by omega
    by_cases hv : v0 = v ∧ h0 = hb
    · obtain ⟨rfl, rfl⟩ := hv
      have HY : Hid (HeldF L k v0 h0 a b) := Lib.hid (HIF.out.2 (HRW.out.2 (.inl rfl)))
      clear hrun
      have hbb : (h0 == h0) = true := by cases h0 <;> rfl
      go_wp2
      go_ret
      exact ⟨true, rfl, by simp; exact HY.out, below_drewN (Below.refl _ _) _⟩
    · have HNV : Hid (¬ ((v0, h0) = (v, hb))) := Lib.hid (fun e => hv ⟨congrArg Prod.fst e, congrArg Prod.snd e⟩)
      have hcs : ((v0.toList == v.toList) = false) ∨ ((v0.toList == v.toList) = true ∧ (h0 == hb) = false) := by
        by_cases h1 : v0 = v
        · right
          refine ⟨by rw [h1]; exact beq_self_eq_true _, ?_⟩
          have : h0 ≠ hb := fun e => hv ⟨h1, e⟩
          cases h0 <;> cases hb <;> simp_all
        · left
          rw [beq_eq_false_iff_ne]
          exact fun e => h1 (toList_inj e)
      clear hv
      have hrun2 : ∀ q, (Instr.lookup 56 (.map (some M)) (.string k) false).run Try.prog (w.drewN q) = .ok (.slice A rs.length c) (w.drewN q) := fun q => HRUN.out q A c hrun
      clear hrun
      rcases hcs with h5 | ⟨h5, h6⟩
      all_goals
        go_wp2
        clear hrun2
        go_loopw [52] (fun i wr => ∃ m : Nat, m ≤ rs.length ∧ i = .int .i64 m ∧ (∀ r ∈ rs.take m, ¬ ((a : Int).toNat < r.pos ∧ r.pos ≤ (b : Int).toNat ∧ r.val = v ∧ r.has = hb)) ∧ Below w.heap.size w wr) (fun i _ => rs.length - (intOf i).toNat)
        case atStart => exact ⟨0, Nat.zero_le _, rfl, by simp, below_drewN (Below.refl _ _) _⟩
        case round =>
          obtain ⟨m, hm, rfl, hno, hB⟩ := hrel
          have HNO := Lib.hid hno
          have HB := Lib.hid hB
          have hsz := hB.size
          clear hno hB
          by_cases hlt : m < rs.length
          · obtain ⟨bb, off, rfl, hcs⟩ := (HS.out.keep HB.out).flat (C := 3) (fun _ => rfl) (by decide) m hlt
            have hmem : rs[m] ∈ rs := List.getElem_mem hlt
            have HMEM := Lib.hid hmem
            have HTK := Lib.hid (List.take_succ_eq_append_getElem hlt)
            have hps := HPOS.out _ hmem
            have hc0' : wr.cell? ⟨bb, off + m * 3, none⟩ = some (.int .i64 (rs[m].pos : Int)) := hcs 0 _ rfl
            have hc1' : wr.cell? ⟨bb, off + m * 3 + 1, none⟩ = some (.string rs[m].val) := hcs 1 _ rfl
            have hc2' : wr.cell? ⟨bb, off + m * 3 + 2, none⟩ = some (.bool rs[m].has) := hcs 2 _ rfl
            clear hcs hmem
            generalize rs[m] = r at *
            obtain ⟨rp, rv, rh⟩ := r
            simp only at hc0' hc1' hc2' hps
            have HB2 := Lib.hid (HB.out.alloc hsz (.cells #[.int .i64 (rp : Int), .string rv, .bool rh] 61))
            have k2 : (m : Int) < (rs.length : Int) := by omega
            by_cases hyes : (a : Int).toNat < rp ∧ rp ≤ (b : Int).toNat ∧ rv = v ∧ rh = hb
            · obtain ⟨y1, y2, rfl, rfl⟩ := hyes
              have HY : Hid (HeldF L k rv rh a b) := Lib.hid (HIF.out.2 (HRW.out.2 (.inr ⟨_, HMEM.out, y1, y2, rfl, rfl⟩)))
              have z1 : a < (rp : Int) := by omega
              have z2 : (rp : Int) ≤ b := by omega
              have hbb : (rh == rh) = true := by cases rh <;> rfl
              go_wp2
              go_ret
              exact ⟨true, rfl, by simp; exact HY.out, HB2.out⟩
            · have HN2 : Hid (∀ r ∈ rs.take (m + 1), ¬ ((a : Int).toNat < r.pos ∧ r.pos ≤ (b : Int).toNat ∧ r.val = v ∧ r.has = hb)) := Lib.hid (by
                rw [HTK.out]
                intro r hr
                rcases List.mem_append.1 hr with h | h
                · exact HNO.out r h
                · rw [List.mem_singleton.1 h]; exact hyes)
              have hcs2 : ¬ a < (rp : Int) ∨ (a < (rp : Int) ∧ ¬ (rp : Int) ≤ b) ∨ (a < (rp : Int) ∧ (rp : Int) ≤ b ∧ (rv.toList == v.toList) = false) ∨ (a < (rp : Int) ∧ (rp : Int) ≤ b ∧ (rv.toList == v.toList) = true ∧ (rh == hb) = false) := by
                by_cases z1 : a < (rp : Int)
                · right
                  by_cases z2 : (rp : Int) ≤ b
                  · right
                    by_cases z3 : rv = v
                    · right
                      refine ⟨z1, z2, by rw [z3]; exact beq_self_eq_true _, ?_⟩
                      have : rh ≠ hb := fun e => hyes ⟨by omega, by omega, z3, e⟩
                      cases rh <;> cases hb <;> simp_all
                    · left
                      refine ⟨z1, z2, ?_⟩
                      rw [beq_eq_false_iff_ne]
                      exact fun e => z3 (toList_inj e)
                  · exact .inl ⟨z1, z2⟩
                · exact .inl z1
              clear hyes
              rcases hcs2 with z1 | ⟨z1, z2⟩ | ⟨z1, z2, z3⟩ | ⟨z1, z2, z3, z4⟩
              all_goals
                go_wp2
                first
                  | exact ⟨⟨m + 1, by omega, by go_num, HN2.out, HB2.out⟩, by simp [intOf]; omega⟩
                  | omega
          · have HNH : Hid (¬ HeldF L k v hb a b) := Lib.hid (fun e => by
              rcases HRW.out.1 (HIF.out.1 e) with h | ⟨r, hr, h1, h2, h3, h4⟩
              · exact HNV.out h
              · have := HNO.out r (by rw [List.take_of_length_le (by omega)]; exact hr)
                exact this ⟨h1, h2, h3, h4⟩)
            go_wp2
            go_ret
            exact ⟨false, rfl, by simp; exact HNH.out, HB.out⟩
set_option maxRecDepth 100000 in
set_option maxHeartbeats 8000000 in
theorem held_b (w : World) (base O M : Nat) (L : List St) (h : Org w base O M L) (hl : L.length < 1099511627) (k v : ByteArray) (hb : Bool) (a b : Int) (h1 : a < 0) (h2 : b ≤ (L.length : Int)) :
    Calls Try.prog 18 #[.pointer (some ⟨O, 0, none⟩), .string k, .string v, .bool hb, .int .i64 a, .int .i64 b] w fun e w' => ∃ r : Bool, e = .returned (.bool r) ∧ (r = true ↔ HeldF L k v hb a b) ∧ Below w.heap.size w w' := by
  have c0 : w.cell? ⟨O, 0, none⟩ = some (.int .i64 (L.length : Int)) := h.blk.cell 0
  have c1 : w.cell? ⟨O, 1, none⟩ = some (.map (some M)) := h.blk.cell 1
  have HO := Lib.hid h
  have HRUN : Hid (∀ q A c, (Instr.lookup 56 (.map (some M)) (.string k) false).run Try.prog w = .ok (.slice A (rowsOf k L).length c) w → (Instr.lookup 56 (.map (some M)) (.string k) false).run Try.prog (w.drewN q) = .ok (.slice A (rowsOf k L).length c) (w.drewN q)) := Lib.hid (fun q A c h1 => by
    obtain ⟨A', c', h2, _⟩ := (h.drewN q).look k (zero59 _)
    obtain ⟨l, cc, hm, he⟩ := h.ex
    have e1 := run_lookup_at (P := Try.prog) keysS Try.underlying56 hm k (.slice none 0 0) (zero59 w) false
    have e2 := run_lookup_at (P := Try.prog) (w := w.drewN q) keysS Try.underlying56 hm k (.slice none 0 0) (zero59 _) false
    unfold mkS at e1 e2
    rw [h1] at e1
    rw [e2]
    injection e1 with e1 _
    rw [← e1])
  clear h
  go_enter Try.func18, Try.ntmps18
  go_wp2
  go_quiet (fail)
  have hxi0 : (0 : Int) ≤ (0 : Int) := by omega
  have hyin : b ≤ (L.length : Int) := by omega
  by_cases hft : b < (0 : Int)
  · have HNO : Hid (¬ HeldF L k v hb a b) := Lib.hid (by rintro ⟨p, h0, h1, h2, h3, h4⟩; omega)
    go_wp2
    go_ret
    exact ⟨false, rfl, by simp; exact HNO.out, below_drewN (Below.refl _ _) _⟩
  · have HIF : Hid (HeldF L k v hb a b ↔ heldS L k v hb (0 : Int).toNat (b : Int).toNat) := Lib.hid (heldF_iff L k v hb a b _ _ (by omega) (by omega))
    have HRW := Lib.hid (held_rows L k v hb (0 : Int).toNat (b : Int).toNat (by omega))
    have HAT : Hid (atF L (0 : Int) k = atS L (0 : Int).toNat k) := Lib.hid (by unfold atF; rw [if_neg (by omega)])
    have hft2 : (0 : Int) ≤ b := by omega
    clear hft
    go_wp2_with fail
    refine (at_any _ base O M L (HO.out.drewN _) (by omega) (0 : Int) k).mono ?_
    rw [HAT.out]
    rintro e w2 ⟨rfl, n2, rfl⟩
    obtain ⟨r0, hr0⟩ : ∃ r0, atS L (0 : Int).toNat k = r0 := ⟨_, rfl⟩
    rw [hr0] at HRW ⊢
    clear hr0
    obtain ⟨v0, h0⟩ := r0
    obtain ⟨A, c, hrun, hc, hs⟩ := HO.out.look k (zero59 w)
    have HPOS := Lib.hid (rowsOf_pos k L)
    have hle := rowsOf_le k L
    generalize rowsOf k L = rs at *
    have HS := Lib.hid hs
    clear hs
    have hn : (0 : Int) ≤ (rs.length : Int) := by omega
    by_cases hv : v0 = v ∧ h0 = hb
    · obtain ⟨rfl, rfl⟩ := hv
      have HY : Hid (HeldF L k v0 h0 a b) := Lib.hid (HIF.out.2 (HRW.out.2 (.inl rfl)))
      clear hrun
      have hbb : (h0 == h0) = true := by cases h0 <;> rfl
      go_wp2
      go_ret
      exact ⟨true, rfl, by simp; exact HY.out, below_drewN (Below.refl _ _) _⟩
    · have HNV : Hid (¬ ((v0, h0) = (v, hb))) := Lib.hid (fun e => hv ⟨congrArg Prod.fst e, congrArg Prod.snd e⟩)
      have hcs : ((v0.toList == v.toList) = false) ∨ ((v0.toList == v.toList) = true ∧ (h0 == hb) = false) := by
        by_cases h1 : v0 = v
        · right
          refine ⟨by rw [h1]; exact beq_self_eq_true _, ?_⟩
          have : h0 ≠ hb := fun e => hv ⟨h1, e⟩
          cases h0 <;> cases hb <;> simp_all
        · left
          rw [beq_eq_false_iff_ne]
          exact fun e => h1 (toList_inj e)
      clear hv
      have hrun2 : ∀ q, (Instr.lookup 56 (.map (some M)) (.string k) false).run Try.prog (w.drewN q) = .ok (.slice A rs.length c) (w.drewN q) := fun q => HRUN.out q A c hrun
      clear hrun
      rcases hcs with h5 | ⟨h5, h6⟩
      all_goals
        go_wp2
        clear hrun2
        go_loopw [52] (fun i wr => ∃ m : Nat, m ≤ rs.length ∧ i = .int .i64 m ∧ (∀ r ∈ rs.take m, ¬ ((0 : Int).toNat < r.pos ∧ r.pos ≤ (b : Int).toNat ∧ r.val = v ∧ r.has = hb)) ∧ Below w.heap.size w wr) (fun i _ => rs.length - (intOf i).toNat)
        case atStart => exact ⟨0, Nat.zero_le _, rfl, by simp, below_drewN (Below.refl _ _) _⟩
        case round =>
          obtain ⟨m, hm, rfl, hno, hB⟩ := hrel
          have HNO := Lib.hid hno
          have HB := Lib.hid hB
          have hsz := hB.size
          clear hno hB
          by_cases hlt : m < rs.length
          · obtain ⟨bb, off, rfl, hcs⟩ := (HS.out.keep HB.out).flat (C := 3) (fun _ => rfl) (by decide) m hlt
            have hmem : rs[m] ∈ rs := List.getElem_mem hlt
            have HMEM := Lib.hid hmem
            have HTK := Lib.hid (List.take_succ_eq_append_getElem hlt)
            have hps := HPOS.out _ hmem
            have hc0' : wr.cell? ⟨bb, off + m * 3, none⟩ = some (.int .i64 (rs[m].pos : Int)) := hcs 0 _ rfl
            have hc1' : wr.cell? ⟨bb, off + m * 3 + 1, none⟩ = some (.string rs[m].val) := hcs 1 _ rfl
            have hc2' : wr.cell? ⟨bb, off + m * 3 + 2, none⟩ = some (.bool rs[m].has) := hcs 2 _ rfl
            clear hcs hmem
            generalize rs[m] = r at *
            obtain ⟨rp, rv, rh⟩ := r
            simp only at hc0' hc1' hc2' hps
            have HB2 := Lib.hid (HB.out.alloc hsz (.cells #[.int .i64 (rp : Int), .string rv, .bool rh] 61))
            have k2 : (m : Int) < (rs.length : Int) := by omega
            by_cases hyes : (0 : Int).toNat < rp ∧ rp ≤ (b : Int).toNat ∧ rv = v ∧ rh = hb
            · obtain ⟨y1, y2, rfl, rfl⟩ := hyes
              have HY : Hid (HeldF L k rv rh a b) := Lib.hid (HIF.out.2 (HRW.out.2 (.inr ⟨_, HMEM.out, y1, y2, rfl, rfl⟩)))
              have z1 : (0 : Int) < (rp : Int) := by omega
              have z2 : (rp : Int) ≤ b := by omega
              have hbb : (rh == rh) = true := by cases rh <;> rfl
              go_wp2
              go_ret
              exact ⟨true, rfl, by simp; exact HY.out, HB2.out⟩
            · have HN2 : Hid (∀ r ∈ rs.take (m + 1), ¬ ((0 : Int).toNat < r.pos ∧ r.pos ≤ (b : Int).toNat ∧ r.val = v ∧ r.has = hb)) := Lib.hid (by
                rw [HTK.out]
                intro r hr
                rcases List.mem_append.1 hr with h | h
                · exact HNO.out r h
                · rw [List.mem_singleton.1 h]; exact hyes)
              have hcs2 : ¬ (0 : Int) < (rp : Int) ∨ ((0 : Int) < (rp : Int) ∧ ¬ (rp : Int) ≤ b) ∨ ((0 : Int) < (rp : Int) ∧ (rp : Int) ≤ b ∧ (rv.toList == v.toList) = false) ∨ ((0 : Int) < (rp : Int) ∧ (rp : Int) ≤ b ∧ (rv.toList == v.toList) = true ∧ (rh == hb) = false) := by
                by_cases z1 : (0 : Int) < (rp : Int)
                · right
                  by_cases z2 : (rp : Int) ≤ b
                  · right
                    by_cases z3 : rv = v
                    · right
                      refine ⟨z1, z2, by rw [z3]; exact beq_self_eq_true _, ?_⟩
                      have : rh ≠ hb := fun e => hyes ⟨by omega, by omega, z3, e⟩
                      cases rh <;> cases hb <;> simp_all
                    · left
                      refine ⟨z1, z2, ?_⟩
                      rw [beq_eq_false_iff_ne]
                      exact fun e => z3 (toList_inj e)
                  · exact .inl ⟨z1, z2⟩
                · exact .inl z1
              clear hyes
              rcases hcs2 with z1 | ⟨z1, z2⟩ | ⟨z1, z2, z3⟩ | ⟨z1, z2, z3, z4⟩
              all_goals
                go_wp2
                first
                  | exact ⟨⟨m + 1, by omega, by go_num, HN2.out, HB2.out⟩, by simp [intOf]; omega⟩
                  | omega
          · have HNH : Hid (¬ HeldF L k v hb a b) := Lib.hid (fun e => by
              rcases HRW.out.1 (HIF.out.1 e) with h | ⟨r, hr, h1, h2, h3, h4⟩
              · exact HNV.out h
              · have := HNO.out r (by rw [List.take_of_length_le (by omega)]; exact hr)
                exact this ⟨h1, h2, h3, h4⟩)
            go_wp2
            go_ret
            exact ⟨false, rfl, by simp; exact HNH.out, HB.out⟩
set_option maxRecDepth 100000 in
set_option maxHeartbeats 8000000 in
theorem held_c (w : World) (base O M : Nat) (L : List St) (h : Org w base O M L) (hl : L.length < 1099511627) (k v : ByteArray) (hb : Bool) (a b : Int) (h1 : 0 ≤ a) (h2 : (L.length : Int) < b) :
    Calls Try.prog 18 #[.pointer (some ⟨O, 0, none⟩), .string k, .string v, .bool hb, .int .i64 a, .int .i64 b] w fun e w' => ∃ r : Bool, e = .returned (.bool r) ∧ (r = true ↔ HeldF L k v hb a b) ∧ Below w.heap.size w w' := by
  have c0 : w.cell? ⟨O, 0, none⟩ = some (.int .i64 (L.length : Int)) := h.blk.cell 0
  have c1 : w.cell? ⟨O, 1, none⟩ = some (.map (some M)) := h.blk.cell 1
  have HO := Lib.hid h
  have HRUN : Hid (∀ q A c, (Instr.lookup 56 (.map (some M)) (.string k) false).run Try.prog w = .ok (.slice A (rowsOf k L).length c) w → (Instr.lookup 56 (.map (some M)) (.string k) false).run Try.prog (w.drewN q) = .ok (.slice A (rowsOf k L).length c) (w.drewN q)) := Lib.hid (fun q A c h1 => by
    obtain ⟨A', c', h2, _⟩ := (h.drewN q).look k (zero59 _)
    obtain ⟨l, cc, hm, he⟩ := h.ex
    have e1 := run_lookup_at (P := Try.prog) keysS Try.underlying56 hm k (.slice none 0 0) (zero59 w) false
    have e2 := run_lookup_at (P := Try.prog) (w := w.drewN q) keysS Try.underlying56 hm k (.slice none 0 0) (zero59 _) false
    unfold mkS at e1 e2
    rw [h1] at e1
    rw [e2]
    injection e1 with e1 _
    rw [← e1])
  clear h
  go_enter Try.func18, Try.ntmps18
  go_wp2
  go_quiet (fail)
  have hxi0 : (0 : Int) ≤ a := by omega
  have hyin : (L.length : Int) ≤ (L.length : Int) := by omega
  by_cases hft : (L.length : Int) < a
  · have HNO : Hid (¬ HeldF L k v hb a b) := Lib.hid (by rintro ⟨p, h0, h1, h2, h3, h4⟩; omega)
    go_wp2
    go_ret
    exact ⟨false, rfl, by simp; exact HNO.out, below_drewN (Below.refl _ _) _⟩
  · have HIF : Hid (HeldF L k v hb a b ↔ heldS L k v hb (a : Int).toNat ((L.length : Int) : Int).toNat) := Lib.hid (heldF_iff L k v hb a b _ _ (by omega) (by omega))
    have HRW := Lib.hid (held_rows L k v hb (a : Int).toNat ((L.length : Int) : Int).toNat (by omega))
    have HAT : Hid (atF L a k = atS L (a : Int).toNat k) := Lib.hid (by unfold atF; rw [if_neg (by omega)])
    have hft2 : a ≤ (L.length : Int) := by omega
    clear hft
    go_wp2_with fail
    refine (at_any _ base O M L (HO.out.drewN _) (by omega) a k).mono ?_
    rw [HAT.out]
    rintro e w2 ⟨rfl, n2, rfl⟩
    obtain ⟨r0, hr0⟩ : ∃ r0, atS L (a : Int).toNat k = r0 := ⟨_, rfl⟩
    rw [hr0] at HRW ⊢
    clear hr0
    obtain ⟨v0, h0⟩ := r0
    obtain ⟨A, c, hrun, hc, hs⟩ := HO.out.look k (zero59 w)
    have HPOS := Lib.hid (rowsOf_pos k L)
    have hle := rowsOf_le k L
    generalize rowsOf k L = rs at *
    have HS := Lib.hid hs
    clear hs
    have hn : (0 : Int) ≤ (rs.length : Int) := by omega
    by_cases hv : v0 = v ∧ h0 = hb
    · obtain ⟨rfl, rfl⟩ := hv
      have HY : Hid (HeldF L k v0 h0 a b) := Lib.hid (HIF.out.2 (HRW.out.2 (.inl rfl)))
      clear hrun
      have hbb : (h0 == h0) = true := by cases h0 <;> rfl
      go_wp2
      go_ret
      exact ⟨true, rfl, by simp; exact HY.out, below_drewN (Below.refl _ _) _⟩
    · have HNV : Hid (¬ ((v0, h0) = (v, hb))) := Lib.hid (fun e => hv ⟨congrArg Prod.fst e, congrArg Prod.snd e⟩)
      have hcs : ((v0.toList == v.toList) = false) ∨ ((v0.toList == v.toList) = true ∧ (h0 == hb) = false) := by
        by_cases h1 : v0 = v
        · right
          refine ⟨by rw [h1]; exact beq_self_eq_true _, ?_⟩
          have : h0 ≠ hb := fun e => hv ⟨h1, e⟩
          cases h0 <;> cases hb <;> simp_all
        · left
          rw [beq_eq_false_iff_ne]
          exact fun e => h1 (toList_inj e)
      clear hv
      have hrun2 : ∀ q, (Instr.lookup 56 (.map (some M)) (.string k) false).run Try.prog (w.drewN q) = .ok (.slice A rs.length c) (w.drewN q) := fun q => HRUN.out q A c hrun
      clear hrun
      rcases hcs with h5 | ⟨h5, h6⟩
      all_goals
        go_wp2
        clear hrun2
        go_loopw [52] (fun i wr => ∃ m : Nat, m ≤ rs.length ∧ i = .int .i64 m ∧ (∀ r ∈ rs.take m, ¬ ((a : Int).toNat < r.pos ∧ r.pos ≤ ((L.length : Int) : Int).toNat ∧ r.val = v ∧ r.has = hb)) ∧ Below w.heap.size w wr) (fun i _ => rs.length - (intOf i).toNat)
        case atStart => exact ⟨0, Nat.zero_le _, rfl, by simp, below_drewN (Below.refl _ _) _⟩
        case round =>
          obtain ⟨m, hm, rfl, hno, hB⟩ := hrel
          have HNO := Lib.hid hno
          have HB := Lib.hid hB
          have hsz := hB.size
          clear hno hB
          by_cases hlt : m < rs.length
          · obtain ⟨bb, off, rfl, hcs⟩ := (HS.out.keep HB.out).flat (C := 3) (fun _ => rfl) (by decide) m hlt
            have hmem : rs[m] ∈ rs := List.getElem_mem hlt
            have HMEM := Lib.hid hmem
            have HTK := Lib.hid (List.take_succ_eq_append_getElem hlt)
            have hps := HPOS.out _ hmem
            have hc0' : wr.cell? ⟨bb, off + m * 3, none⟩ = some (.int .i64 (rs[m].pos : Int)) := hcs 0 _ rfl
            have hc1' : wr.cell? ⟨bb, off + m * 3 + 1, none⟩ = some (.string rs[m].val) := hcs 1 _ rfl
            have hc2' : wr.cell? ⟨bb, off + m * 3 + 2, none⟩ = some (.bool rs[m].has) := hcs 2 _ rfl
            clear hcs hmem
            generalize rs[m] = r at *
            obtain ⟨rp, rv, rh⟩ := r
            simp only at hc0' hc1' hc2' hps
            have HB2 := Lib.hid (HB.out.alloc hsz (.cells #[.int .i64 (rp : Int), .string rv, .bool rh] 61))
            have k2 : (m : Int) < (rs.length : Int) := by omega
            by_cases hyes : (a : Int).toNat < rp ∧ rp ≤ ((L.length : Int) : Int).toNat ∧ rv = v ∧ rh = hb
            · obtain ⟨y1, y2, rfl, rfl⟩ := hyes
              have HY : Hid (HeldF L k rv rh a b) := Lib.hid (HIF.out.2 (HRW.out.2 (.inr ⟨_, HMEM.out, y1, y2, rfl, rfl⟩)))
              have z1 : a < (rp : Int) := by omega
              have z2 : (rp : Int) ≤ (L.length : Int) := by omega
              have hbb : (rh == rh) = true := by cases rh <;> rfl
              go_wp2
              go_ret
              exact ⟨true, rfl, by simp; exact HY.out, HB2.out⟩
            · have HN2 : Hid (∀ r ∈ rs.take (m + 1), ¬ ((a : Int).toNat < r.pos ∧ r.pos ≤ ((L.length : Int) : Int).toNat ∧ r.val = v ∧ r.has = hb)) := Lib.hid (by
                rw [HTK.out]
                intro r hr
                rcases List.mem_append.1 hr with h | h
                · exact HNO.out r h
                · rw [List.mem_singleton.1 h]; exact hyes)
              have hcs2 : ¬ a < (rp : Int) ∨ (a < (rp : Int) ∧ ¬ (rp : Int) ≤ (L.length : Int)) ∨ (a < (rp : Int) ∧ (rp : Int) ≤ (L.length : Int) ∧ (rv.toList == v.toList) = false) ∨ (a < (rp : Int) ∧ (rp : Int) ≤ (L.length : Int) ∧ (rv.toList == v.toList) = true ∧ (rh == hb) = false) := by
                by_cases z1 : a < (rp : Int)
                · right
                  by_cases z2 : (rp : Int) ≤ (L.length : Int)
                  · right
                    by_cases z3 : rv = v
                    · right
                      refine ⟨z1, z2, by rw [z3]; exact beq_self_eq_true _, ?_⟩
                      have : rh ≠ hb := fun e => hyes ⟨by omega, by omega, z3, e⟩
                      cases rh <;> cases hb <;> simp_all
                    · left
                      refine ⟨z1, z2, ?_⟩
                      rw [beq_eq_false_iff_ne]
                      exact fun e => z3 (toList_inj e)
                  · exact .inl ⟨z1, z2⟩
                · exact .inl z1
              clear hyes
              rcases hcs2 with z1 | ⟨z1, z2⟩ | ⟨z1, z2, z3⟩ | ⟨z1, z2, z3, z4⟩
              all_goals
                go_wp2
                first
                  | exact ⟨⟨m + 1, by omega, by go_num, HN2.out, HB2.out⟩, by simp [intOf]; omega⟩
                  | omega
          · have HNH : Hid (¬ HeldF L k v hb a b) := Lib.hid (fun e => by
              rcases HRW.out.1 (HIF.out.1 e) with h | ⟨r, hr, h1, h2, h3, h4⟩
              · exact HNV.out h
              · have := HNO.out r (by rw [List.take_of_length_le (by omega)]; exact hr)
                exact this ⟨h1, h2, h3, h4⟩)
            go_wp2
            go_ret
            exact ⟨false, rfl, by simp; exact HNH.out, HB.out⟩
set_option maxRecDepth 100000 in
set_option maxHeartbeats 8000000 in
theorem held_d (w : World) (base O M : Nat) (L : List St) (h : Org w base O M L) (hl : L.length < 1099511627) (k v : ByteArray) (hb : Bool) (a b : Int) (h1 : a < 0) (h2 : (L.length : Int) < b) :
    Calls Try.prog 18 #[.pointer (some ⟨O, 0, none⟩), .string k, .string v, .bool hb, .int .i64 a, .int .i64 b] w fun e w' => ∃ r : Bool, e = .returned (.bool r) ∧ (r = true ↔ HeldF L k v hb a b) ∧ Below w.heap.size w w' := by
  have c0 : w.cell? ⟨O, 0, none⟩ = some (.int .i64 (L.length : Int)) := h.blk.cell 0
  have c1 : w.cell? ⟨O, 1, none⟩ = some (.map (some M)) := h.blk.cell 1
  have HO := Lib.hid h
  have HRUN : Hid (∀ q A c, (Instr.lookup 56 (.map (some M)) (.string k) false).run Try.prog w = .ok (.slice A (rowsOf k L).length c) w → (Instr.lookup 56 (.map (some M)) (.string k) false).run Try.prog (w.drewN q) = .ok (.slice A (rowsOf k L).length c) (w.drewN q)) := Lib.hid (fun q A c h1 => by
    obtain ⟨A', c', h2, _⟩ := (h.drewN q).look k (zero59 _)
    obtain ⟨l, cc, hm, he⟩ := h.ex
    have e1 := run_lookup_at (P := Try.prog) keysS Try.underlying56 hm k (.slice none 0 0) (zero59 w) false
    have e2 := run_lookup_at (P := Try.prog) (w := w.drewN q) keysS Try.underlying56 hm k (.slice none 0 0) (zero59 _) false
    unfold mkS at e1 e2
    rw [h1] at e1
    rw [e2]
    injection e1 with e1 _
    rw [← e1])
  clear h
  go_enter Try.func18, Try.ntmps18
  go_wp2
  go_quiet (fail)
  have hxi0 : (0 : Int) ≤ (0 : Int) := by omega
  have hyin : (L.length : Int) ≤ (L.length : Int) := by omega
  by_cases hft : (L.length : Int) < (0 : Int)
  · have HNO : Hid (¬ HeldF L k v hb a b) := Lib.hid (by rintro ⟨p, h0, h1, h2, h3, h4⟩; omega)
    go_wp2
    go_ret
    exact ⟨false, rfl, by simp; exact HNO.out, below_drewN (Below.refl _ _) _⟩
  · have HIF : Hid (HeldF L k v hb a b ↔ heldS L k v hb (0 : Int).toNat ((L.length : Int) : Int).toNat) := Lib.hid (heldF_iff L k v hb a b _ _ (by omega) (by omega))
    have HRW := Lib.hid (held_rows L k v hb (0 : Int).toNat ((L.length : Int) : Int).toNat (by omega))
    have HAT : Hid (atF L (0 : Int) k = atS L (0 : Int).toNat k) := Lib.hid (by unfold atF; rw [if_neg (by omega)])
    have hft2 : (0 : Int) ≤ (L.length : Int) := by omega
    clear hft
    go_wp2_with fail
    refine (at_any _ base O M L (HO.out.drewN _) (by omega) (0 : Int) k).mono ?_
    rw [HAT.out]
    rintro e w2 ⟨rfl, n2, rfl⟩
    obtain ⟨r0, hr0⟩ : ∃ r0, atS L (0 : Int).toNat k = r0 := ⟨_, rfl⟩
    rw [hr0] at HRW ⊢
    clear hr0
    obtain ⟨v0, h0⟩ := r0
    obtain ⟨A, c, hrun, hc, hs⟩ := HO.out.look k (zero59 w)
    have HPOS := Lib.hid (rowsOf_pos k L)
    have hle := rowsOf_le k L
    generalize rowsOf k L = rs at *
    have HS := Lib.hid hs
    clear hs
    have hn : (0 : Int) ≤ (rs.length : Int) := by omega
    by_cases hv : v0 = v ∧ h0 = hb
    · obtain ⟨rfl, rfl⟩ := hv
      have HY : Hid (HeldF L k v0 h0 a b) := Lib.hid (HIF.out.2 (HRW.out.2 (.inl rfl)))
      clear hrun
      have hbb : (h0 == h0) = true := by cases h0 <;> rfl
      go_wp2
      go_ret
      exact ⟨true, rfl, by simp; exact HY.out, below_drewN (Below.refl _ _) _⟩
    · have HNV : Hid (¬ ((v0, h0) = (v, hb))) := Lib.hid (fun e => hv ⟨congrArg Prod.fst e, congrArg Prod.snd e⟩)
      have hcs : ((v0.toList == v.toList) = false) ∨ ((v0.toList == v.toList) = true ∧ (h0 == hb) = false) := by
        by_cases h1 : v0 = v
        · right
          refine ⟨by rw [h1]; exact beq_self_eq_true _, ?_⟩
          have : h0 ≠ hb := fun e => hv ⟨h1, e⟩
          cases h0 <;> cases hb <;> simp_all
        · left
          rw [beq_eq_false_iff_ne]
          exact fun e => h1 (toList_inj e)
      clear hv
      have hrun2 : ∀ q, (Instr.lookup 56 (.map (some M)) (.string k) false).run Try.prog (w.drewN q) = .ok (.slice A rs.length c) (w.drewN q) := fun q => HRUN.out q A c hrun
      clear hrun
      rcases hcs with h5 | ⟨h5, h6⟩
      all_goals
        go_wp2
        clear hrun2
        go_loopw [52] (fun i wr => ∃ m : Nat, m ≤ rs.length ∧ i = .int .i64 m ∧ (∀ r ∈ rs.take m, ¬ ((0 : Int).toNat < r.pos ∧ r.pos ≤ ((L.length : Int) : Int).toNat ∧ r.val = v ∧ r.has = hb)) ∧ Below w.heap.size w wr) (fun i _ => rs.length - (intOf i).toNat)
        case atStart => exact ⟨0, Nat.zero_le _, rfl, by simp, below_drewN (Below.refl _ _) _⟩
        case round =>
          obtain ⟨m, hm, rfl, hno, hB⟩ := hrel
          have HNO := Lib.hid hno
          have HB := Lib.hid hB
          have hsz := hB.size
          clear hno hB
          by_cases hlt : m < rs.length
          · obtain ⟨bb, off, rfl, hcs⟩ := (HS.out.keep HB.out).flat (C := 3) (fun _ => rfl) (by decide) m hlt
            have hmem : rs[m] ∈ rs := List.getElem_mem hlt
            have HMEM := Lib.hid hmem
            have HTK := Lib.hid (List.take_succ_eq_append_getElem hlt)
            have hps := HPOS.out _ hmem
            have hc0' : wr.cell? ⟨bb, off + m * 3, none⟩ = some (.int .i64 (rs[m].pos : Int)) := hcs 0 _ rfl
            have hc1' : wr.cell? ⟨bb, off + m * 3 + 1, none⟩ = some (.string rs[m].val) := hcs 1 _ rfl
            have hc2' : wr.cell? ⟨bb, off + m * 3 + 2, none⟩ = some (.bool rs[m].has) := hcs 2 _ rfl
            clear hcs hmem
            generalize rs[m] = r at *
            obtain ⟨rp, rv, rh⟩ := r
            simp only at hc0' hc1' hc2' hps
            have HB2 := Lib.hid (HB.out.alloc hsz (.cells #[.int .i64 (rp : Int), .string rv, .bool rh] 61))
            have k2 : (m : Int) < (rs.length : Int) := by omega
            by_cases hyes : (0 : Int).toNat < rp ∧ rp ≤ ((L.length : Int) : Int).toNat ∧ rv = v ∧ rh = hb
            · obtain ⟨y1, y2, rfl, rfl⟩ := hyes
              have HY : Hid (HeldF L k rv rh a b) := Lib.hid (HIF.out.2 (HRW.out.2 (.inr ⟨_, HMEM.out, y1, y2, rfl, rfl⟩)))
              have z1 : (0 : Int) < (rp : Int) := by omega
              have z2 : (rp : Int) ≤ (L.length : Int) := by omega
              have hbb : (rh == rh) = true := by cases rh <;> rfl
              go_wp2
              go_ret
              exact ⟨true, rfl, by simp; exact HY.out, HB2.out⟩
            · have HN2 : Hid (∀ r ∈ rs.take (m + 1), ¬ ((0 : Int).toNat < r.pos ∧ r.pos ≤ ((L.length : Int) : Int).toNat ∧ r.val = v ∧ r.has = hb)) := Lib.hid (by
                rw [HTK.out]
                intro r hr
                rcases List.mem_append.1 hr with h | h
                · exact HNO.out r h
                · rw [List.mem_singleton.1 h]; exact hyes)
              have hcs2 : ¬ (0 : Int) < (rp : Int) ∨ ((0 : Int) < (rp : Int) ∧ ¬ (rp : Int) ≤ (L.length : Int)) ∨ ((0 : Int) < (rp : Int) ∧ (rp : Int) ≤ (L.length : Int) ∧ (rv.toList == v.toList) = false) ∨ ((0 : Int) < (rp : Int) ∧ (rp : Int) ≤ (L.length : Int) ∧ (rv.toList == v.toList) = true ∧ (rh == hb) = false) := by
                by_cases z1 : (0 : Int) < (rp : Int)
                · right
                  by_cases z2 : (rp : Int) ≤ (L.length : Int)
                  · right
                    by_cases z3 : rv = v
                    · right
                      refine ⟨z1, z2, by rw [z3]; exact beq_self_eq_true _, ?_⟩
                      have : rh ≠ hb := fun e => hyes ⟨by omega, by omega, z3, e⟩
                      cases rh <;> cases hb <;> simp_all
                    · left
                      refine ⟨z1, z2, ?_⟩
                      rw [beq_eq_false_iff_ne]
                      exact fun e => z3 (toList_inj e)
                  · exact .inl ⟨z1, z2⟩
                · exact .inl z1
              clear hyes
              rcases hcs2 with z1 | ⟨z1, z2⟩ | ⟨z1, z2, z3⟩ | ⟨z1, z2, z3, z4⟩
              all_goals
                go_wp2
                first
                  | exact ⟨⟨m + 1, by omega, by go_num, HN2.out, HB2.out⟩, by simp [intOf]; omega⟩
                  | omega
          · have HNH : Hid (¬ HeldF L k v hb a b) := Lib.hid (fun e => by
              rcases HRW.out.1 (HIF.out.1 e) with h | ⟨r, hr, h1, h2, h3, h4⟩
              · exact HNV.out h
              · have := HNO.out r (by rw [List.take_of_length_le (by omega)]; exact hr)
                exact this ⟨h1, h2, h3, h4⟩)
            go_wp2
            go_ret
            exact ⟨false, rfl, by simp; exact HNH.out, HB.out⟩
theorem held_any (w : World) (base O M : Nat) (L : List St) (h : Org w base O M L) (hl : L.length < 1099511627) (k v : ByteArray) (hb : Bool) (a b : Int) :
    Calls Try.prog 18 #[.pointer (some ⟨O, 0, none⟩), .string k, .string v, .bool hb, .int .i64 a, .int .i64 b] w fun e w' => ∃ r : Bool, e = .returned (.bool r) ∧ (r = true ↔ HeldF L k v hb a b) ∧ Below w.heap.size w w' := by
  by_cases h1 : 0 ≤ a
  · by_cases h2 : b ≤ (L.length : Int)
    · exact held_a w base O M L h hl k v hb a b h1 h2
    · exact held_c w base O M L h hl k v hb a b h1 (by omega)
  · by_cases h2 : b ≤ (L.length : Int)
    · exact held_b w base O M L h hl k v hb a b (by omega) h2
    · exact held_d w base O M L h hl k v hb a b (by omega) (by omega)
end Go.Proofs.Ytmblkejgfoffaaa
