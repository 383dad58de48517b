/- Bad and Right walked. Conditions: lengths. -/
import Derived.Test.YtmblkejgfoffaaaJd
import Derived.Test.YtmblkejgfoffaaaHeld
import Derived.Deep.RegionHeld3
namespace Go.Proofs.Ytmblkejgfoffaaa
open Go.RowKit
def heldB (L : List St) (k v : ByteArray) (h : Bool) (a b : Int) : Bool := (List.range (L.length + 1)).any fun p => decide (a ≤ (p : Int)) && (decide ((p : Int) ≤ b) && decide (atS L p k = (v, h)))
theorem heldB_iff (L : List St) (k v : ByteArray) (h : Bool) (a b : Int) : heldB L k v h a b = true ↔ HeldF L k v h a b := by
  unfold heldB HeldF
  rw [List.any_eq_true]
  constructor
  · rintro ⟨p, h1, h2⟩
    rw [Bool.and_eq_true, Bool.and_eq_true, decide_eq_true_eq, decide_eq_true_eq, decide_eq_true_eq] at h2
    have := List.mem_range.1 h1
    exact ⟨p, by omega, h2.1, h2.2.1, by omega, h2.2.2⟩
  · rintro ⟨p, h0, h1, h2, h3, h4⟩
    refine ⟨p, List.mem_range.2 (by omega), ?_⟩
    rw [Bool.and_eq_true, Bool.and_eq_true, decide_eq_true_eq, decide_eq_true_eq, decide_eq_true_eq]
    exact ⟨h1, h2, h4⟩
def val1 (c : Cl) : ByteArray := if c.has then c.val else ⟨#[]⟩
/-- was it answered wrong? -/
def bad1 (Q : List St) (s : Int) (c : Cl) : Bool := (c.op == 1) && (c.done && ((c.err == 0) && !heldB Q c.key (val1 c) c.has s c.to))
def badTo (Q : List St) (l : List Cl) : Nat → List Int
  | 0 => []
  | k + 1 => badTo Q l k ++ match l[k]? with
    | some c => if bad1 Q (sinceF l k) c then [c.id] else []
    | none => []
theorem badTo_le (Q : List St) (l : List Cl) : ∀ k, (badTo Q l k).length ≤ k := by
  intro k
  induction k with
  | zero => exact Nat.le_refl _
  | succ k ih =>
    unfold badTo
    rw [List.length_append]
    cases l[k]? with
    | none => simp; omega
    | some c => simp only; split <;> simp <;> omega
theorem badTo_succ (Q : List St) (l : List Cl) (k : Nat) (h : k < l.length) : badTo Q l (k + 1) = badTo Q l k ++ if bad1 Q (sinceF l k) l[k] then [l[k].id] else [] := by
  conv => lhs; unfold badTo
  rw [List.getElem?_eq_getElem h]
theorem info2 : (Try.prog.info? 2).map (fun i => (i.zero, i.size, i.bytes)) = some (some (.int .i64 0), 1, 8) := by kernel_rfl
set_option maxRecDepth 100000 in
set_option maxHeartbeats 8000000 in
theorem bad_any (w : World) (base O M : Nat) (Q : List St) (ho : Org w base O M Q) (hql : Q.length < 1099511627) (A : Option Addr) (n cp : Nat) (l : List Cl) (hn : l.length = n) (hm : n ≤ 1000000) (hcp : n ≤ cp) (hs : Sl w A (l.flatMap Cl.cells)) :
    Calls Try.prog 25 #[.pointer (some ⟨O, 0, none⟩), .slice A n cp] w fun e w' => ∃ v, e = .returned v ∧ w'.ownsRow w.heap.size 2 1 v (badTo Q l n).length ((badTo Q l n).map (.int .i64)) ∧ Below w.heap.size w w' := by
  obtain ⟨i0, hi, hz0, hz1, hz2⟩ := info_parts info2
  have HI0 := Lib.hid (And.intro hi (And.intro hz0 (And.intro hz1 hz2)))
  clear hi hz0 hz1 hz2
  subst hn
  have HS := Lib.hid hs
  have HO := Lib.hid ho
  clear hs ho
  go_enter Try.func25, Try.ntmps25
  go_wp2
  go_loopw [5, 11] (fun v j wr => ∃ m : Nat, m ≤ l.length ∧ j = .int .i64 m ∧ wr.ownsRow w.heap.size 2 1 v (badTo Q l m).length ((badTo Q l m).map (.int .i64)) ∧ Below w.heap.size w wr) (fun _ j _ => l.length - (intOf j).toNat)
  case atStart => exact ⟨0, Nat.zero_le _, rfl, World.ownsRow_nil _ _ _ _, Below.refl _ _⟩
  case round =>
    obtain ⟨m, hmi, rfl, hown, hb⟩ := hrel
    have HB := Lib.hid hb
    have HOW := Lib.hid hown
    have hsz := hb.size
    clear hb hown
    by_cases hml : m < l.length
    · obtain ⟨b, off, rfl, hcs⟩ := (HS.out.keep HB.out).flat (C := 13) (fun _ => rfl) (by decide) m hml
      have HBT := Lib.hid (badTo_succ Q l m hml)
      have hcs' : ∀ r v, l[m].cells[r]? = some v → wr.cell? ⟨b, off + m * 13 + r, none⟩ = some v := fun r v h => by rw [Nat.add_assoc]; exact hcs r v h
      generalize l[m] = c at *
      obtain ⟨cid, cop, ckey, cnode, cfrm, cto, cdone, crid, crop, crkey, cerr, cval, chas⟩ := c
      have g0 : wr.cell? ⟨b, off + m * 13, none⟩ = some (.int .i64 cid) := hcs' 0 _ rfl
      have g1 : wr.cell? ⟨b, off + m * 13 + 1, none⟩ = some (.int .i64 cop) := hcs' 1 _ rfl
      have g2 : wr.cell? ⟨b, off + m * 13 + 2, none⟩ = some (.string ckey) := hcs' 2 _ rfl
      have g3 : wr.cell? ⟨b, off + m * 13 + 3, none⟩ = some (.int .i64 cnode) := hcs' 3 _ rfl
      have g4 : wr.cell? ⟨b, off + m * 13 + 4, none⟩ = some (.int .i64 cfrm) := hcs' 4 _ rfl
      have g5 : wr.cell? ⟨b, off + m * 13 + 5, none⟩ = some (.int .i64 cto) := hcs' 5 _ rfl
      have g6 : wr.cell? ⟨b, off + m * 13 + 6, none⟩ = some (.bool cdone) := hcs' 6 _ rfl
      have g7 : wr.cell? ⟨b, off + m * 13 + 7, none⟩ = some (.int .i64 crid) := hcs' 7 _ rfl
      have g8 : wr.cell? ⟨b, off + m * 13 + 8, none⟩ = some (.int .i64 crop) := hcs' 8 _ rfl
      have g9 : wr.cell? ⟨b, off + m * 13 + 9, none⟩ = some (.string crkey) := hcs' 9 _ rfl
      have g10 : wr.cell? ⟨b, off + m * 13 + 10, none⟩ = some (.int .i64 cerr) := hcs' 10 _ rfl
      have g11 : wr.cell? ⟨b, off + m * 13 + 11, none⟩ = some (.string cval) := hcs' 11 _ rfl
      have g12 : wr.cell? ⟨b, off + m * 13 + 12, none⟩ = some (.bool chas) := hcs' 12 _ rfl
      clear hcs hcs'
      have m1 : (0 : Int) ≤ (m : Int) := by omega
      have m2 : (m : Int) < (l.length : Int) := by omega
      have hD := Blk.new wr 45 #[.int .i64 cid, .int .i64 cop, .string ckey, .int .i64 cnode, .int .i64 cfrm, .int .i64 cto, .bool cdone, .int .i64 crid, .int .i64 crop, .string crkey, .int .i64 cerr, .string cval, .bool chas]
      have HBD := Lib.hid (HB.out.alloc hsz (.cells #[.int .i64 cid, .int .i64 cop, .string ckey, .int .i64 cnode, .int .i64 cfrm, .int .i64 cto, .bool cdone, .int .i64 crid, .int .i64 crop, .string crkey, .int .i64 cerr, .string cval, .bool chas] 45))
      have HOW1 := Lib.hid (HOW.out.alloc (.cells #[.int .i64 cid, .int .i64 cop, .string ckey, .int .i64 cnode, .int .i64 cfrm, .int .i64 cto, .bool cdone, .int .i64 crid, .int .i64 crop, .string crkey, .int .i64 cerr, .string cval, .bool chas] 45))
      have d0 := hD.cell 0
      have d2 := hD.cell 2
      have d5 := hD.cell 5
      have d12 := hD.cell 12
      have hDl := hD.lt
      have HS1 := Lib.hid (HS.out.keep HBD.out)
      have HO1 := Lib.hid (HO.out.below HBD.out)
      by_cases c1 : (cop == 1) = true
      · have c1n : (cop != 1) = false := by rw [bne, c1]; rfl
        cases cdone with
        | true =>
          by_cases c4 : (cerr == 0) = true
          · have c4n : (cerr != 0) = false := by rw [bne, c4]; rfl
            cases chas with
            | true =>
              go_wp2
              generalize wr.alloc (.cells #[.int .i64 cid, .int .i64 cop, .string ckey, .int .i64 cnode, .int .i64 cfrm, .int .i64 cto, .bool true, .int .i64 crid, .int .i64 crop, .string crkey, .int .i64 cerr, .string cval, .bool true] 45) = W1 at *
              clear g0 g1 g2 g3 g4 g5 g6 g7 g8 g9 g10 g11 g12 hD
              generalize wr.heap.size = D at *
              have HSIN : Hid (∀ q, Calls Try.prog 23 #[.slice (some ⟨b, off, none⟩) l.length cp, .int .i64 (m : Int)] (W1.drewN q) fun e w' => e = .returned (.int .i64 (sinceF l m)) ∧ Below W1.heap.size W1 w') := Lib.hid (fun q => by
                have hsq : Sl (W1.drewN q) (some ⟨b, off, none⟩) (l.flatMap Cl.cells) := HS1.out
                exact (since_in (W1.drewN q) _ l.length cp l rfl (by omega) hcp hsq m hml).mono fun e w' ⟨h1, h2⟩ => ⟨h1, ⟨h2.os, h2.tape, h2.output, h2.size, h2.block⟩⟩)
              obtain ⟨si, hsi⟩ : ∃ si, sinceF l m = si := ⟨_, rfl⟩
              rw [hsi] at HSIN
              have HSI := Lib.hid hsi
              clear hsi
              obtain ⟨hB, hhB⟩ : ∃ hB, heldB Q ckey cval true si cto = hB := ⟨_, rfl⟩
              have HHB := Lib.hid hhB
              clear hhB
              have HHELD : Hid (∀ w5, Below W1.heap.size W1 w5 → Calls Try.prog 18 #[.pointer (some ⟨O, 0, none⟩), .string ckey, .string cval, .bool true, .int .i64 si, .int .i64 cto] w5 fun e w' => e = .returned (.bool hB) ∧ Below W1.heap.size W1 w') := Lib.hid (fun w5 h5 => by
                refine (held_any w5 base O M Q (HO1.out.below h5) hql ckey cval true si cto).mono ?_
                rintro e w' ⟨r, rfl, hr, hb⟩
                refine ⟨?_, h5.trans (hb.mono h5.size)⟩
                congr 2
                rw [Bool.eq_iff_iff, hr, ← HHB.out, heldB_iff])
              go_region_held3 (fun w' => w'.cell? ⟨D, 2, none⟩ = some (.string ckey) ∧ w'.cell? ⟨D, 12, none⟩ = some (.bool true) ∧ w'.cell? ⟨D, 5, none⟩ = some (.int .i64 cto)) (first
                | go_keep
                | exact ⟨(hb5.cell (p := ⟨D, 2, none⟩) hDl).trans d2, (hb5.cell (p := ⟨D, 12, none⟩) hDl).trans d12, (hb5.cell (p := ⟨D, 5, none⟩) hDl).trans d5⟩
                | exact ⟨(hb6.cell (p := ⟨D, 2, none⟩) hDl).trans d2, (hb6.cell (p := ⟨D, 12, none⟩) hDl).trans d12, (hb6.cell (p := ⟨D, 5, none⟩) hDl).trans d5⟩) (first
                | (go_at_call 23; refine (HSIN.out _).mono ?_; rintro e w5 ⟨rfl, hb5⟩)
                | (go_at_call 18; refine (HHELD.out _ ?_).mono ?_; (exact hb5); rintro e w6 ⟨rfl, hb6⟩))
              have e0 : w6.cell? ⟨D, 0, none⟩ = some (.int .i64 cid) := (hb6.cell (p := ⟨D, 0, none⟩) hDl).trans d0
              have HB6 := Lib.hid hb6
              have HO6 := Lib.hid (own_below HOW1.out hb6)
              have HW6 := Lib.hid (HBD.out.trans (hb6.mono HBD.out.size))
              have hz6 : w.heap.size ≤ w6.heap.size := HW6.out.size
              clear hb5 hb6
              cases hB with
              | true =>
                have HE : Hid (badTo Q l (m + 1) = badTo Q l m) := Lib.hid (by rw [HBT.out, HSI.out]; unfold bad1 val1; simp [HHB.out, *])
                go_wp2
                go_roundw
                case rel => exact ⟨m + 1, by omega, by go_num, by rw [HE.out]; exact HO6.out, HW6.out⟩
                case measure => simp [intOf]; omega
              | false =>
                have HE : Hid (badTo Q l (m + 1) = badTo Q l m ++ [cid]) := Lib.hid (by rw [HBT.out, HSI.out]; unfold bad1 val1; simp [HHB.out, *])
                have HOA := Lib.hid (HO6.out.alloc (.cells #[.int .i64 cid] 2))
                go_wp2_with (at_builtin; refine wpList_append_own _ rfl (.tmp 51) (.tmp 54) 50 rfl w.heap.size 2 i0 _ 1 8 Try.underlying50 HI0.out.1 HI0.out.2.1 HI0.out.2.2.1 HI0.out.2.2.2 rfl (by decide) _ _ _ rfl HOA.out ⟨w6.heap.size, 0, none⟩ 1 1 [.int .i64 cid] rfl rfl ?c1 ?c2 ?c3 ?c4 ?c5 ?_)
                case c1 => exact World.news_of_block (cs := #[.int .i64 cid]) (heap_alloc_new w6 _)
                case c2 => simp [Value.oneCell']
                case c3 => have := badTo_le Q l m; unfold maxLen; omega
                case c4 => have := badTo_le Q l m; omega
                case c5 => simp; omega
                intro v' w7 hown7 hg7 _
                have HO7 : Hid (w7.ownsRow w.heap.size 2 1 v' (badTo Q l (m + 1)).length ((badTo Q l (m + 1)).map (.int .i64))) := Lib.hid (by
                  rw [HE.out, List.length_append, List.map_append]
                  exact hown7)
                have HW7 : Hid (Below w.heap.size w w7) := Lib.hid ((HW6.out.alloc hz6 _).grown hg7 (by simp; omega) (fun g hg => (HO6.out.lt g hg).1))
                clear hown7 hg7
                go_wp2
                go_roundw
                case rel => exact ⟨m + 1, by omega, by go_num, HO7.out, HW7.out⟩
                case measure => simp [intOf]; omega
            | false =>
              go_wp2
              generalize wr.alloc (.cells #[.int .i64 cid, .int .i64 cop, .string ckey, .int .i64 cnode, .int .i64 cfrm, .int .i64 cto, .bool true, .int .i64 crid, .int .i64 crop, .string crkey, .int .i64 cerr, .string cval, .bool false] 45) = W1 at *
              clear g0 g1 g2 g3 g4 g5 g6 g7 g8 g9 g10 g11 g12 hD
              generalize wr.heap.size = D at *
              have HSIN : Hid (∀ q, Calls Try.prog 23 #[.slice (some ⟨b, off, none⟩) l.length cp, .int .i64 (m : Int)] (W1.drewN q) fun e w' => e = .returned (.int .i64 (sinceF l m)) ∧ Below W1.heap.size W1 w') := Lib.hid (fun q => by
                have hsq : Sl (W1.drewN q) (some ⟨b, off, none⟩) (l.flatMap Cl.cells) := HS1.out
                exact (since_in (W1.drewN q) _ l.length cp l rfl (by omega) hcp hsq m hml).mono fun e w' ⟨h1, h2⟩ => ⟨h1, ⟨h2.os, h2.tape, h2.output, h2.size, h2.block⟩⟩)
              obtain ⟨si, hsi⟩ : ∃ si, sinceF l m = si := ⟨_, rfl⟩
              rw [hsi] at HSIN
              have HSI := Lib.hid hsi
              clear hsi
              obtain ⟨hB, hhB⟩ : ∃ hB, heldB Q ckey ⟨#[]⟩ false si cto = hB := ⟨_, rfl⟩
              have HHB := Lib.hid hhB
              clear hhB
              have HHELD : Hid (∀ w5, Below W1.heap.size W1 w5 → Calls Try.prog 18 #[.pointer (some ⟨O, 0, none⟩), .string ckey, .string ⟨#[]⟩, .bool false, .int .i64 si, .int .i64 cto] w5 fun e w' => e = .returned (.bool hB) ∧ Below W1.heap.size W1 w') := Lib.hid (fun w5 h5 => by
                refine (held_any w5 base O M Q (HO1.out.below h5) hql ckey ⟨#[]⟩ false si cto).mono ?_
                rintro e w' ⟨r, rfl, hr, hb⟩
                refine ⟨?_, h5.trans (hb.mono h5.size)⟩
                congr 2
                rw [Bool.eq_iff_iff, hr, ← HHB.out, heldB_iff])
              go_region_held3 (fun w' => w'.cell? ⟨D, 2, none⟩ = some (.string ckey) ∧ w'.cell? ⟨D, 12, none⟩ = some (.bool false) ∧ w'.cell? ⟨D, 5, none⟩ = some (.int .i64 cto)) (first
                | go_keep
                | exact ⟨(hb5.cell (p := ⟨D, 2, none⟩) hDl).trans d2, (hb5.cell (p := ⟨D, 12, none⟩) hDl).trans d12, (hb5.cell (p := ⟨D, 5, none⟩) hDl).trans d5⟩
                | exact ⟨(hb6.cell (p := ⟨D, 2, none⟩) hDl).trans d2, (hb6.cell (p := ⟨D, 12, none⟩) hDl).trans d12, (hb6.cell (p := ⟨D, 5, none⟩) hDl).trans d5⟩) (first
                | (go_at_call 23; refine (HSIN.out _).mono ?_; rintro e w5 ⟨rfl, hb5⟩)
                | (go_at_call 18; refine (HHELD.out _ ?_).mono ?_; (exact hb5); rintro e w6 ⟨rfl, hb6⟩))
              have e0 : w6.cell? ⟨D, 0, none⟩ = some (.int .i64 cid) := (hb6.cell (p := ⟨D, 0, none⟩) hDl).trans d0
              have HB6 := Lib.hid hb6
              have HO6 := Lib.hid (own_below HOW1.out hb6)
              have HW6 := Lib.hid (HBD.out.trans (hb6.mono HBD.out.size))
              have hz6 : w.heap.size ≤ w6.heap.size := HW6.out.size
              clear hb5 hb6
              cases hB with
              | true =>
                have HE : Hid (badTo Q l (m + 1) = badTo Q l m) := Lib.hid (by rw [HBT.out, HSI.out]; unfold bad1 val1; simp [HHB.out, *])
                go_wp2
                go_roundw
                case rel => exact ⟨m + 1, by omega, by go_num, by rw [HE.out]; exact HO6.out, HW6.out⟩
                case measure => simp [intOf]; omega
              | false =>
                have HE : Hid (badTo Q l (m + 1) = badTo Q l m ++ [cid]) := Lib.hid (by rw [HBT.out, HSI.out]; unfold bad1 val1; simp [HHB.out, *])
                have HOA := Lib.hid (HO6.out.alloc (.cells #[.int .i64 cid] 2))
                go_wp2_with (at_builtin; refine wpList_append_own _ rfl (.tmp 51) (.tmp 54) 50 rfl w.heap.size 2 i0 _ 1 8 Try.underlying50 HI0.out.1 HI0.out.2.1 HI0.out.2.2.1 HI0.out.2.2.2 rfl (by decide) _ _ _ rfl HOA.out ⟨w6.heap.size, 0, none⟩ 1 1 [.int .i64 cid] rfl rfl ?c1 ?c2 ?c3 ?c4 ?c5 ?_)
                case c1 => exact World.news_of_block (cs := #[.int .i64 cid]) (heap_alloc_new w6 _)
                case c2 => simp [Value.oneCell']
                case c3 => have := badTo_le Q l m; unfold maxLen; omega
                case c4 => have := badTo_le Q l m; omega
                case c5 => simp; omega
                intro v' w7 hown7 hg7 _
                have HO7 : Hid (w7.ownsRow w.heap.size 2 1 v' (badTo Q l (m + 1)).length ((badTo Q l (m + 1)).map (.int .i64))) := Lib.hid (by
                  rw [HE.out, List.length_append, List.map_append]
                  exact hown7)
                have HW7 : Hid (Below w.heap.size w w7) := Lib.hid ((HW6.out.alloc hz6 _).grown hg7 (by simp; omega) (fun g hg => (HO6.out.lt g hg).1))
                clear hown7 hg7
                go_wp2
                go_roundw
                case rel => exact ⟨m + 1, by omega, by go_num, HO7.out, HW7.out⟩
                case measure => simp [intOf]; omega
          · have c4' : (cerr == 0) = false := by cases h : (cerr == 0) <;> simp_all
            have c4n : (cerr != 0) = true := by rw [bne, c4']; rfl
            have HE : Hid (badTo Q l (m + 1) = badTo Q l m) := Lib.hid (by rw [HBT.out]; unfold bad1; simp [c4'])
            clear c4
            go_wp2
            go_roundw
            case rel => exact ⟨m + 1, by omega, by go_num, by rw [HE.out]; exact HOW1.out, HBD.out⟩
            case measure => simp [intOf]; omega
        | false =>
          have HE : Hid (badTo Q l (m + 1) = badTo Q l m) := Lib.hid (by rw [HBT.out]; unfold bad1; simp)
          go_wp2
          go_roundw
          case rel => exact ⟨m + 1, by omega, by go_num, by rw [HE.out]; exact HOW1.out, HBD.out⟩
          case measure => simp [intOf]; omega
      · have c1' : (cop == 1) = false := by cases h : (cop == 1) <;> simp_all
        have c1n : (cop != 1) = true := by rw [bne, c1']; rfl
        have HE : Hid (badTo Q l (m + 1) = badTo Q l m) := Lib.hid (by rw [HBT.out]; unfold bad1; simp [c1'])
        clear c1
        go_wp2
        go_roundw
        case rel => exact ⟨m + 1, by omega, by go_num, by rw [HE.out]; exact HOW1.out, HBD.out⟩
        case measure => simp [intOf]; omega
    · obtain rfl : m = l.length := by omega
      go_wp2
      go_ret
      exact ⟨_, rfl, HOW.out, HB.out⟩
end Go.Proofs.Ytmblkejgfoffaaa
