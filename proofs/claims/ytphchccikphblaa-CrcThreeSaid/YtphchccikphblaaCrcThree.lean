/- The law CrcThree's walk. No condition. -/
import Derived.Test.YtphchccikphblaaCrcParts
import Derived.Test.YtphchccikphblaaBlk
import Derived.StillTailTactics
import Derived.Test.YtphchccikphblaaRegion
import Derived.Deep.DeepCutAuto
namespace Go.Proofs.Ytphchccikphblaa
open Go.RowKit
def zrow (n : Nat) : Array Value := (bv (List.replicate n 0)).toArray
theorem made_zrow (n : Nat) : madeCells (Value.int .u8 0).cells n = zrow n := by
  unfold zrow bv madeCells
  apply Array.ext
  · simp
  · intro i h1 h2
    simp [Value.cells, Nat.mod_one]
theorem run_make_bytes (n : Nat) (hn : n ≤ 1000) (w : World) : (Instr.makeSlice 25 (.int .i64 (n : Int)) (.int .i64 (n : Int))).run Try.prog w = .ok (.slice (some ⟨w.heap.size, 0, none⟩) n n) (w.alloc (.cells (zrow n) 5)) := by
  obtain ⟨j0, hj, hy0, hy1, hy2⟩ := info_parts info5
  have h := run_make (P := Try.prog) w 25 5 j0 _ Try.underlying25 hj hy0 .i64 .i64 (n : Int) (n : Int) (by omega) (by omega) (by rw [hy2]; omega) (by omega)
  rw [hy1, Int.toNat_natCast, Nat.mul_one, made_zrow] at h
  exact h
def xor3 (a b c : List Nat) : List Nat := List.zipWith (· ^^^ ·) (List.zipWith (· ^^^ ·) a b) c
/-- the row after k rounds -/
def rowTo (a b c : List Nat) (n k : Nat) : List Nat := (xor3 a b c).take k ++ List.replicate (n - k) 0
theorem xor3_length (a b c : List Nat) (n : Nat) (ha : a.length = n) (hb : b.length = n) (hc : c.length = n) : (xor3 a b c).length = n := by
  unfold xor3; simp [ha, hb, hc]
theorem rowTo_succ (a b c : List Nat) (n k : Nat) (ha : a.length = n) (hb : b.length = n) (hc : c.length = n) (hk : k < n) :
    (bv (rowTo a b c n k)).toArray.setIfInBounds k (.int .u8 ((a[k] ^^^ b[k] ^^^ c[k] : Nat) : Int)) = (bv (rowTo a b c n (k + 1))).toArray := by
  have hl := xor3_length a b c n ha hb hc
  have hx : (xor3 a b c)[k]'(by omega) = a[k] ^^^ b[k] ^^^ c[k] := by unfold xor3; simp
  have e1 : rowTo a b c n k = (xor3 a b c).take k ++ 0 :: List.replicate (n - (k + 1)) 0 := by
    unfold rowTo
    rw [show n - k = (n - (k + 1)) + 1 by omega, List.replicate_succ]
  have e2 : rowTo a b c n (k + 1) = (xor3 a b c).take k ++ (a[k] ^^^ b[k] ^^^ c[k]) :: List.replicate (n - (k + 1)) 0 := by
    unfold rowTo
    rw [List.take_succ_eq_append_getElem (by omega), hx, List.append_assoc]; rfl
  rw [e1, e2]
  unfold bv
  rw [List.map_append, List.map_append, List.map_cons, List.map_cons, List.setIfInBounds_toArray]
  congr 1
  rw [List.set_append]
  rw [if_neg (by simp; omega)]
  have : k - (List.map (fun (c : Nat) => Value.int IntKind.u8 (c : Int)) (List.take k (xor3 a b c))).length = 0 := by simp; omega
  rw [this, List.set_cons_zero]
theorem sum_one (g : Nat) (p : Part) (w : World) (hp : p.ok w) (h : w.cell? ⟨g, 0, none⟩ = some p.val) :
    Calls Try.prog 14 #[.slice (some ⟨g, 0, none⟩) 1 1] w fun e w' => e = .returned (.int .u32 (Plain.crc p.l)) ∧ w = w' :=
  (sum_any _ 1 1 [p] w (Sl.one h) rfl (by decide) (fun q hq => by rw [List.mem_singleton] at hq; subst hq; exact hp)).mono fun e w' ⟨h1, h2⟩ => ⟨by rw [h1]; simp, h2⟩
theorem crc_lt (l : List Nat) : Plain.crc l < 4294967296 := by unfold Plain.crc; omega
/-- a slice of one element, made by the call -/
def One (w : World) (v x : Value) : Prop := ∃ g, v = .slice (some ⟨g, 0, none⟩) 1 1 ∧ g < w.heap.size ∧ w.cell? ⟨g, 0, none⟩ = some x
theorem One.keep {w w' : World} {v x : Value} (h : One w v x) (hb : Below w.heap.size w w') : One w' v x := by
  obtain ⟨g, rfl, hg, hc⟩ := h
  exact ⟨g, rfl, Nat.lt_of_lt_of_le hg hb.size, by rw [hb.cell (p := ⟨g, 0, none⟩) hg]; exact hc⟩
theorem One.new (w : World) (x : Value) (t : TypeId) : One (w.alloc (.cells #[x] t)) (.slice (some ⟨w.heap.size, 0, none⟩) 1 1) x :=
  ⟨w.heap.size, rfl, by simp, by simp [go_sem]⟩
/-- what holds while the four sums are reckoned, in whatever order -/
def GT (a b c : List Nat) (n g : Nat) (A B' C : Option Addr) (cap cbp ccp : Nat) (c0 c1 c2 c3 c4 c5 c7 c8 c9 c10 c11 c12 c13 c14 c15 c16 c17 c18 c19 c20 c21 c22 c23 c24 c25 c26 c27 c28 c29 c30 c31 c32 c33 c34 c35 c36 c37 c38 c39 c40 c41 c42 c43 c44 c45 c46 : Value) (BB : Nat) (w : World) (L : Nat → Bool) (a' : Act) (wx : World) : Prop :=
  ∃ u6 u47 u48 u49 u50 u51 u52 u53 u54 u55 u56 u57 u58 u59 u60 u61 u62 u63 u64 u65 u66 u67 : Value, a' = ⟨List.toArray (c0 :: c1 :: c2 :: c3 :: c4 :: c5 :: u6 :: c7 :: c8 :: c9 :: c10 :: c11 :: c12 :: c13 :: c14 :: c15 :: c16 :: c17 :: c18 :: c19 :: c20 :: c21 :: c22 :: c23 :: c24 :: c25 :: c26 :: c27 :: c28 :: c29 :: c30 :: c31 :: c32 :: c33 :: c34 :: c35 :: c36 :: c37 :: c38 :: c39 :: c40 :: c41 :: c42 :: c43 :: c44 :: c45 :: c46 :: u47 :: u48 :: u49 :: u50 :: u51 :: u52 :: u53 :: u54 :: u55 :: u56 :: u57 :: u58 :: u59 :: u60 :: u61 :: u62 :: u63 :: u64 :: u65 :: u66 :: u67 :: []), []⟩ ∧ Below BB w wx ∧ (L 0 = true → u47 = .slice (some ⟨g, 0, none⟩) n n) ∧ (L 1 = true → One wx u48 (.slice (some ⟨g, 0, none⟩) n n)) ∧ (L 2 = true → u49 = .int .u32 ((Plain.crc a ^^^ Plain.crc b ^^^ Plain.crc c : Nat) : Int)) ∧ (L 3 = true → u50 = c0) ∧ (L 4 = true → u51 = .int .i64 n) ∧ (L 5 = true → u52 = .slice A n cap) ∧ (L 6 = true → One wx u53 (.slice A n cap)) ∧ (L 7 = true → u54 = .int .u32 (Plain.crc a : Int)) ∧ (L 8 = true → u55 = c1) ∧ (L 9 = true → u56 = .int .i64 n) ∧ (L 10 = true → u57 = .slice B' n cbp) ∧ (L 11 = true → One wx u58 (.slice B' n cbp)) ∧ (L 12 = true → u59 = .int .u32 (Plain.crc b : Int)) ∧ (L 13 = true → u60 = .int .u32 ((Plain.crc a ^^^ Plain.crc b : Nat) : Int)) ∧ (L 14 = true → u61 = c2) ∧ (L 15 = true → u62 = .int .i64 n) ∧ (L 16 = true → u63 = .slice C n ccp) ∧ (L 17 = true → One wx u64 (.slice C n ccp)) ∧ (L 18 = true → u65 = .int .u32 (Plain.crc c : Int)) ∧ (L 19 = true → u66 = .int .u32 ((Plain.crc a ^^^ Plain.crc b ^^^ Plain.crc c : Nat) : Int)) ∧ (L 20 = true → u67 = .bool true) ∧ (L 21 = true → u6 = .bool true)
set_option maxHeartbeats 4000000 in
theorem crcThree (p q r : Part) (w : World) (hp : p.ok w) (hpc : p.l.length ≤ p.cap) (hq : q.ok w) (hqc : q.l.length ≤ q.cap) (hr : r.ok w) (hrc : r.l.length ≤ r.cap) :
    Calls Try.prog 6 #[p.val, q.val, r.val] w fun e w' => e = .returned (.bool true) ∧ Below w.heap.size w w' := by
  obtain ⟨A, cap, la⟩ := p
  obtain ⟨B, cbp, lb⟩ := q
  obtain ⟨C, ccp, lc⟩ := r
  unfold Part.val
  obtain ⟨ha0, ha1, ha2⟩ := hp
  obtain ⟨hb0, hb1, hb2⟩ := hq
  obtain ⟨hc0, hc1, hc2⟩ := hr
  dsimp only at *
  go_enter Try.func6, Try.ntmps6
  go_upto_region 4 with (go_at_call 12; refine (begun3 _).mono ?_; rintro e w1 ⟨rfl, hbw⟩)
  go_cut [8] (fun v wx => ∃ n : Nat, v = .int .i64 n ∧ n ≤ 100 ∧ n ≤ la.length ∧ n ≤ lb.length ∧ n ≤ lc.length ∧ wx = w1)
  case first =>
    go_wp2_with fail
    all_goals go_meet
    all_goals first | exact ⟨_, rfl, by omega, by omega, by omega, by omega, rfl⟩ | exact ⟨100, rfl, by omega, by omega, by omega, by omega, rfl⟩
  case rest =>
    obtain ⟨n, rfl, n100, hna, hnb, hnc, rfl⟩ := hcut
    have hmk := run_make_bytes n (by omega)
    have HA : Hid (Sl w A (bv (la.take n))) := Lib.hid (Sl.take_bv ha0 n)
    have HB : Hid (Sl w B (bv (lb.take n))) := Lib.hid (Sl.take_bv hb0 n)
    have HC : Hid (Sl w C (bv (lc.take n))) := Lib.hid (Sl.take_bv hc0 n)
    have ha3 : ∀ x ∈ la.take n, x < 256 := fun x hx => ha2 x (List.mem_of_mem_take hx)
    have hb3 : ∀ x ∈ lb.take n, x < 256 := fun x hx => hb2 x (List.mem_of_mem_take hx)
    have hc3 : ∀ x ∈ lc.take n, x < 256 := fun x hx => hc2 x (List.mem_of_mem_take hx)
    have ea : Hid ((la.take n).length = n) := Lib.hid (by rw [List.length_take]; omega)
    have eb : Hid ((lb.take n).length = n) := Lib.hid (by rw [List.length_take]; omega)
    have ec : Hid ((lc.take n).length = n) := Lib.hid (by rw [List.length_take]; omega)
    have hzn := hbw.size
    have HBW := Lib.hid hbw
    clear hbw ha0 hb0 hc0 ha2 hb2 hc2
    generalize la.take n = a at HA ha3 ea
    generalize lb.take n = b at HB hb3 eb
    generalize lc.take n = c at HC hc3 ec
    go_wp2_with fail
    clear hmk
    go_loopw [10] (fun i wr => ∃ k : Nat, k ≤ n ∧ i = .int .i64 k ∧ Blk wr wc.heap.size 5 (bv (rowTo a b c n k)).toArray ∧ Below w.heap.size w wr) (fun i _ => n - (intOf i).toNat)
    case atStart => exact ⟨0, Nat.zero_le _, rfl, by have h := Blk.new wc 5 (zrow n); unfold zrow at h ⊢; unfold rowTo; rw [List.take_zero, List.nil_append, Nat.sub_zero]; exact h, HBW.out.alloc hzn _⟩
    case round =>
      obtain ⟨k, hk, rfl, hblk, hbr⟩ := hrel
      have HBLK := Lib.hid hblk
      have HBR := Lib.hid hbr
      clear hblk hbr
      by_cases hlt : k < n
      · have hlt' : (k : Int) < (n : Int) := by omega
        obtain ⟨gA, oA, rfl, cA⟩ := (HA.out.keep HBR.out).at_ k (by rw [bv_length, ea.out]; exact hlt)
        obtain ⟨gB, oB, rfl, cB⟩ := (HB.out.keep HBR.out).at_ k (by rw [bv_length, eb.out]; exact hlt)
        obtain ⟨gC, oC, rfl, cC⟩ := (HC.out.keep HBR.out).at_ k (by rw [bv_length, ec.out]; exact hlt)
        have hx := ha3 _ (List.getElem_mem (l := a) (n := k) (by rw [ea.out]; exact hlt))
        have hy := hb3 _ (List.getElem_mem (l := b) (n := k) (by rw [eb.out]; exact hlt))
        have hz := hc3 _ (List.getElem_mem (l := c) (n := k) (by rw [ec.out]; exact hlt))
        have HS := Lib.hid (rowTo_succ a b c n k ea.out eb.out ec.out hlt)
        unfold bv at cA cB cC
        rw [List.getElem_map] at cA cB cC
        generalize a[k]'(by rw [ea.out]; exact hlt) = x at cA hx HS
        generalize b[k]'(by rw [eb.out]; exact hlt) = y at cB hy HS
        generalize c[k]'(by rw [ec.out]; exact hlt) = z at cC hz HS
        have hx1 := u8_xor_nat x y hx hy
        have hx2 := u8_xor_nat (x ^^^ y) z (Nat.xor_lt_two_pow (n := 8) hx hy) hz
        have hD : ∃ v, wr.cell? ⟨wc.heap.size, k, none⟩ = some v := by
          have h := HBLK.out.cell k
          have hl : k < (bv (rowTo a b c n k)).toArray.size := by
            have hl3 := xor3_length a b c n ea.out eb.out ec.out
            unfold bv rowTo
            simp [hl3]
            omega
          rw [Array.getElem?_eq_getElem hl] at h
          exact ⟨_, h⟩
        obtain ⟨vD, hD⟩ := hD
        have fD := HBLK.out.frozen k
        have la' : (k : Int) < (la.length : Int) := by omega
        have lb' : (k : Int) < (lb.length : Int) := by omega
        have lc' : (k : Int) < (lc.length : Int) := by omega
        go_wp2_with fail
        go_still_tail 17, (by kernel_rfl)
        go_wp2
        exact ⟨⟨k + 1, by omega, by go_num, by rw [← HS.out]; exact (HBLK.out.set_ k _).drew, (HBR.out.setCell (p := ⟨wc.heap.size, k, none⟩) hzn _).drew⟩, by simp [intOf]; omega⟩
      · have hlt' : ¬ (k : Int) < (n : Int) := by omega
        obtain rfl : k = n := by omega
        go_wp2_with fail
        have HBX : Hid (Below wr.heap.size wr wr) := Lib.hid (Below.refl _ _)
        have hla : la.length ≤ cap := hpc
        have hlx : Hid ((xor3 a b c).length = k) := Lib.hid (xor3_length a b c k ea.out eb.out ec.out)
        have HOa : Hid (Part.ok wr ⟨A, cap, a⟩) := Lib.hid ⟨HA.out.keep HBR.out, by dsimp only; rw [ea.out]; omega, ha3⟩
        have HOb : Hid (Part.ok wr ⟨B, cbp, b⟩) := Lib.hid ⟨HB.out.keep HBR.out, by dsimp only; rw [eb.out]; omega, hb3⟩
        have HOc : Hid (Part.ok wr ⟨C, ccp, c⟩) := Lib.hid ⟨HC.out.keep HBR.out, by dsimp only; rw [ec.out]; omega, hc3⟩
        have hrow : rowTo a b c k k = xor3 a b c := by
          unfold rowTo
          rw [Nat.sub_self, List.replicate_zero, List.append_nil, List.take_of_length_le (by rw [hlx.out]; omega)]
        have hx256 : ∀ x ∈ xor3 a b c, x < 256 := Plain.zip_lt _ _ (Plain.zip_lt _ _ ha3 hb3) hc3
        have HOd : Hid (Part.ok wr ⟨some ⟨wc.heap.size, 0, none⟩, k, xor3 a b c⟩) := Lib.hid ⟨by have h := HBLK.out; rw [hrow] at h; exact h.sl, by dsimp only; rw [hlx.out]; omega, hx256⟩
        have HX : Hid ((Plain.crc (xor3 a b c) : Int) = ((Plain.crc a ^^^ Plain.crc b ^^^ Plain.crc c : Nat) : Int)) := Lib.hid (by rw [← Plain.crc_three a b c (by rw [ea.out, eb.out]) (by rw [eb.out, ec.out]) ha3 hb3 hc3]; rfl)
        have hka := crc_lt a
        have hkb := crc_lt b
        have hkc := crc_lt c
        clear hrow hx256 ha3 hb3 hc3
        refine wp_region_inv (GT a b c k wc.heap.size A B C cap cbp ccp _ _ _ _ _ _ _ _ _ _ _ _ _ _ _ _ _ _ _ _ _ _ _ _ _ _ _ _ _ _ _ _ _ _ _ _ _ _ _ _ _ _ _ _ _ _ wr.heap.size wr) (by kernel_rfl) (by kernel_rfl) ⟨_, _, _, _, _, _, _, _, _, _, _, _, _, _, _, _, _, _, _, _, _, _, rfl, HBX.out.drew, by simp⟩ ?_ ?_
        · refine ⟨?_, ?_, ?_, ?_, ?_, ?_, ?_, ?_, ?_, ?_, ?_, ?_, ?_, ?_, ?_, ?_, ?_, ?_, ?_, ?_, ?_, ?_, trivial⟩
          · intro L a' wx _ hd hG K hK
            refine Exists.elim hG ?_; clear hG; intro u6 hG
            refine Exists.elim hG ?_; clear hG; intro u47 hG
            refine Exists.elim hG ?_; clear hG; intro u48 hG
            refine Exists.elim hG ?_; clear hG; intro u49 hG
            refine Exists.elim hG ?_; clear hG; intro u50 hG
            refine Exists.elim hG ?_; clear hG; intro u51 hG
            refine Exists.elim hG ?_; clear hG; intro u52 hG
            refine Exists.elim hG ?_; clear hG; intro u53 hG
            refine Exists.elim hG ?_; clear hG; intro u54 hG
            refine Exists.elim hG ?_; clear hG; intro u55 hG
            refine Exists.elim hG ?_; clear hG; intro u56 hG
            refine Exists.elim hG ?_; clear hG; intro u57 hG
            refine Exists.elim hG ?_; clear hG; intro u58 hG
            refine Exists.elim hG ?_; clear hG; intro u59 hG
            refine Exists.elim hG ?_; clear hG; intro u60 hG
            refine Exists.elim hG ?_; clear hG; intro u61 hG
            refine Exists.elim hG ?_; clear hG; intro u62 hG
            refine Exists.elim hG ?_; clear hG; intro u63 hG
            refine Exists.elim hG ?_; clear hG; intro u64 hG
            refine Exists.elim hG ?_; clear hG; intro u65 hG
            refine Exists.elim hG ?_; clear hG; intro u66 hG
            refine Exists.elim hG ?_; clear hG; intro u67 hG
            refine And.elim ?_ hG; clear hG; intro ha hG
            refine And.elim ?_ hG; clear hG; intro hbx hG
            refine And.elim ?_ hG; clear hG; intro f0 hG
            refine And.elim ?_ hG; clear hG; intro f1 hG
            refine And.elim ?_ hG; clear hG; intro f2 hG
            refine And.elim ?_ hG; clear hG; intro f3 hG
            refine And.elim ?_ hG; clear hG; intro f4 hG
            refine And.elim ?_ hG; clear hG; intro f5 hG
            refine And.elim ?_ hG; clear hG; intro f6 hG
            refine And.elim ?_ hG; clear hG; intro f7 hG
            refine And.elim ?_ hG; clear hG; intro f8 hG
            refine And.elim ?_ hG; clear hG; intro f9 hG
            refine And.elim ?_ hG; clear hG; intro f10 hG
            refine And.elim ?_ hG; clear hG; intro f11 hG
            refine And.elim ?_ hG; clear hG; intro f12 hG
            refine And.elim ?_ hG; clear hG; intro f13 hG
            refine And.elim ?_ hG; clear hG; intro f14 hG
            refine And.elim ?_ hG; clear hG; intro f15 hG
            refine And.elim ?_ hG; clear hG; intro f16 hG
            refine And.elim ?_ hG; clear hG; intro f17 hG
            refine And.elim ?_ hG; clear hG; intro f18 hG
            refine And.elim ?_ hG; clear hG; intro f19 hG
            refine And.elim ?_ hG; clear hG; intro f20 hG
            have f21 := hG; clear hG
            subst ha
            clear hd
            go_simp
            go_wp2
            exact ⟨_, _, _, _, _, _, _, _, _, _, _, _, _, _, _, _, _, _, _, _, _, _, rfl, hbx, fun _ => rfl, f1, f2, f3, f4, f5, f6, f7, f8, f9, f10, f11, f12, f13, f14, f15, f16, f17, f18, f19, f20, f21⟩
          · intro L a' wx _ hd hG K hK
            refine Exists.elim hG ?_; clear hG; intro u6 hG
            refine Exists.elim hG ?_; clear hG; intro u47 hG
            refine Exists.elim hG ?_; clear hG; intro u48 hG
            refine Exists.elim hG ?_; clear hG; intro u49 hG
            refine Exists.elim hG ?_; clear hG; intro u50 hG
            refine Exists.elim hG ?_; clear hG; intro u51 hG
            refine Exists.elim hG ?_; clear hG; intro u52 hG
            refine Exists.elim hG ?_; clear hG; intro u53 hG
            refine Exists.elim hG ?_; clear hG; intro u54 hG
            refine Exists.elim hG ?_; clear hG; intro u55 hG
            refine Exists.elim hG ?_; clear hG; intro u56 hG
            refine Exists.elim hG ?_; clear hG; intro u57 hG
            refine Exists.elim hG ?_; clear hG; intro u58 hG
            refine Exists.elim hG ?_; clear hG; intro u59 hG
            refine Exists.elim hG ?_; clear hG; intro u60 hG
            refine Exists.elim hG ?_; clear hG; intro u61 hG
            refine Exists.elim hG ?_; clear hG; intro u62 hG
            refine Exists.elim hG ?_; clear hG; intro u63 hG
            refine Exists.elim hG ?_; clear hG; intro u64 hG
            refine Exists.elim hG ?_; clear hG; intro u65 hG
            refine Exists.elim hG ?_; clear hG; intro u66 hG
            refine Exists.elim hG ?_; clear hG; intro u67 hG
            refine And.elim ?_ hG; clear hG; intro ha hG
            refine And.elim ?_ hG; clear hG; intro hbx hG
            refine And.elim ?_ hG; clear hG; intro f0 hG
            refine And.elim ?_ hG; clear hG; intro f1 hG
            refine And.elim ?_ hG; clear hG; intro f2 hG
            refine And.elim ?_ hG; clear hG; intro f3 hG
            refine And.elim ?_ hG; clear hG; intro f4 hG
            refine And.elim ?_ hG; clear hG; intro f5 hG
            refine And.elim ?_ hG; clear hG; intro f6 hG
            refine And.elim ?_ hG; clear hG; intro f7 hG
            refine And.elim ?_ hG; clear hG; intro f8 hG
            refine And.elim ?_ hG; clear hG; intro f9 hG
            refine And.elim ?_ hG; clear hG; intro f10 hG
            refine And.elim ?_ hG; clear hG; intro f11 hG
            refine And.elim ?_ hG; clear hG; intro f12 hG
            refine And.elim ?_ hG; clear hG; intro f13 hG
            refine And.elim ?_ hG; clear hG; intro f14 hG
            refine And.elim ?_ hG; clear hG; intro f15 hG
            refine And.elim ?_ hG; clear hG; intro f16 hG
            refine And.elim ?_ hG; clear hG; intro f17 hG
            refine And.elim ?_ hG; clear hG; intro f18 hG
            refine And.elim ?_ hG; clear hG; intro f19 hG
            refine And.elim ?_ hG; clear hG; intro f20 hG
            have f21 := hG; clear hG
            subst ha
            obtain rfl := f0 (hd ⟨0, .data⟩ (by simp) rfl)
            clear hd
            go_simp
            go_wp2
            have hk : ∀ o, Below wx.heap.size wx (wx.alloc o) := fun o => (Below.refl _ _).alloc (Nat.le_refl _) o
            exact ⟨_, _, _, _, _, _, _, _, _, _, _, _, _, _, _, _, _, _, _, _, _, _, rfl, hbx.alloc hbx.size _, fun _ => rfl, fun _ => One.new _ _ _, f2, f3, f4, f5, fun h => (f6 h).keep (hk _), f7, f8, f9, f10, fun h => (f11 h).keep (hk _), f12, f13, f14, f15, f16, fun h => (f17 h).keep (hk _), f18, f19, f20, f21⟩
          · intro L a' wx _ hd hG K hK
            refine Exists.elim hG ?_; clear hG; intro u6 hG
            refine Exists.elim hG ?_; clear hG; intro u47 hG
            refine Exists.elim hG ?_; clear hG; intro u48 hG
            refine Exists.elim hG ?_; clear hG; intro u49 hG
            refine Exists.elim hG ?_; clear hG; intro u50 hG
            refine Exists.elim hG ?_; clear hG; intro u51 hG
            refine Exists.elim hG ?_; clear hG; intro u52 hG
            refine Exists.elim hG ?_; clear hG; intro u53 hG
            refine Exists.elim hG ?_; clear hG; intro u54 hG
            refine Exists.elim hG ?_; clear hG; intro u55 hG
            refine Exists.elim hG ?_; clear hG; intro u56 hG
            refine Exists.elim hG ?_; clear hG; intro u57 hG
            refine Exists.elim hG ?_; clear hG; intro u58 hG
            refine Exists.elim hG ?_; clear hG; intro u59 hG
            refine Exists.elim hG ?_; clear hG; intro u60 hG
            refine Exists.elim hG ?_; clear hG; intro u61 hG
            refine Exists.elim hG ?_; clear hG; intro u62 hG
            refine Exists.elim hG ?_; clear hG; intro u63 hG
            refine Exists.elim hG ?_; clear hG; intro u64 hG
            refine Exists.elim hG ?_; clear hG; intro u65 hG
            refine Exists.elim hG ?_; clear hG; intro u66 hG
            refine Exists.elim hG ?_; clear hG; intro u67 hG
            refine And.elim ?_ hG; clear hG; intro ha hG
            refine And.elim ?_ hG; clear hG; intro hbx hG
            refine And.elim ?_ hG; clear hG; intro f0 hG
            refine And.elim ?_ hG; clear hG; intro f1 hG
            refine And.elim ?_ hG; clear hG; intro f2 hG
            refine And.elim ?_ hG; clear hG; intro f3 hG
            refine And.elim ?_ hG; clear hG; intro f4 hG
            refine And.elim ?_ hG; clear hG; intro f5 hG
            refine And.elim ?_ hG; clear hG; intro f6 hG
            refine And.elim ?_ hG; clear hG; intro f7 hG
            refine And.elim ?_ hG; clear hG; intro f8 hG
            refine And.elim ?_ hG; clear hG; intro f9 hG
            refine And.elim ?_ hG; clear hG; intro f10 hG
            refine And.elim ?_ hG; clear hG; intro f11 hG
            refine And.elim ?_ hG; clear hG; intro f12 hG
            refine And.elim ?_ hG; clear hG; intro f13 hG
            refine And.elim ?_ hG; clear hG; intro f14 hG
            refine And.elim ?_ hG; clear hG; intro f15 hG
            refine And.elim ?_ hG; clear hG; intro f16 hG
            refine And.elim ?_ hG; clear hG; intro f17 hG
            refine And.elim ?_ hG; clear hG; intro f18 hG
            refine And.elim ?_ hG; clear hG; intro f19 hG
            refine And.elim ?_ hG; clear hG; intro f20 hG
            have f21 := hG; clear hG
            subst ha
            obtain ⟨g, rfl, hg, hc⟩ := f1 (hd ⟨1, .data⟩ (by simp) rfl)
            clear hd
            go_simp
            refine (sum_one _ ⟨some ⟨wc.heap.size, 0, none⟩, k, xor3 a b c⟩ _ (HOd.out.keep hbx) (by unfold Part.val; dsimp only; rw [hlx.out]; exact hc)).mono ?_
            rintro e w' ⟨rfl, rfl⟩
            rw [HX.out]
            go_wp2
            exact ⟨_, _, _, _, _, _, _, _, _, _, _, _, _, _, _, _, _, _, _, _, _, _, rfl, hbx, f0, fun _ => ⟨g, rfl, hg, hc⟩, fun _ => rfl, f3, f4, f5, f6, f7, f8, f9, f10, f11, f12, f13, f14, f15, f16, f17, f18, f19, f20, f21⟩
          · intro L a' wx _ hd hG K hK
            refine Exists.elim hG ?_; clear hG; intro u6 hG
            refine Exists.elim hG ?_; clear hG; intro u47 hG
            refine Exists.elim hG ?_; clear hG; intro u48 hG
            refine Exists.elim hG ?_; clear hG; intro u49 hG
            refine Exists.elim hG ?_; clear hG; intro u50 hG
            refine Exists.elim hG ?_; clear hG; intro u51 hG
            refine Exists.elim hG ?_; clear hG; intro u52 hG
            refine Exists.elim hG ?_; clear hG; intro u53 hG
            refine Exists.elim hG ?_; clear hG; intro u54 hG
            refine Exists.elim hG ?_; clear hG; intro u55 hG
            refine Exists.elim hG ?_; clear hG; intro u56 hG
            refine Exists.elim hG ?_; clear hG; intro u57 hG
            refine Exists.elim hG ?_; clear hG; intro u58 hG
            refine Exists.elim hG ?_; clear hG; intro u59 hG
            refine Exists.elim hG ?_; clear hG; intro u60 hG
            refine Exists.elim hG ?_; clear hG; intro u61 hG
            refine Exists.elim hG ?_; clear hG; intro u62 hG
            refine Exists.elim hG ?_; clear hG; intro u63 hG
            refine Exists.elim hG ?_; clear hG; intro u64 hG
            refine Exists.elim hG ?_; clear hG; intro u65 hG
            refine Exists.elim hG ?_; clear hG; intro u66 hG
            refine Exists.elim hG ?_; clear hG; intro u67 hG
            refine And.elim ?_ hG; clear hG; intro ha hG
            refine And.elim ?_ hG; clear hG; intro hbx hG
            refine And.elim ?_ hG; clear hG; intro f0 hG
            refine And.elim ?_ hG; clear hG; intro f1 hG
            refine And.elim ?_ hG; clear hG; intro f2 hG
            refine And.elim ?_ hG; clear hG; intro f3 hG
            refine And.elim ?_ hG; clear hG; intro f4 hG
            refine And.elim ?_ hG; clear hG; intro f5 hG
            refine And.elim ?_ hG; clear hG; intro f6 hG
            refine And.elim ?_ hG; clear hG; intro f7 hG
            refine And.elim ?_ hG; clear hG; intro f8 hG
            refine And.elim ?_ hG; clear hG; intro f9 hG
            refine And.elim ?_ hG; clear hG; intro f10 hG
            refine And.elim ?_ hG; clear hG; intro f11 hG
            refine And.elim ?_ hG; clear hG; intro f12 hG
            refine And.elim ?_ hG; clear hG; intro f13 hG
            refine And.elim ?_ hG; clear hG; intro f14 hG
            refine And.elim ?_ hG; clear hG; intro f15 hG
            refine And.elim ?_ hG; clear hG; intro f16 hG
            refine And.elim ?_ hG; clear hG; intro f17 hG
            refine And.elim ?_ hG; clear hG; intro f18 hG
            refine And.elim ?_ hG; clear hG; intro f19 hG
            refine And.elim ?_ hG; clear hG; intro f20 hG
            have f21 := hG; clear hG
            subst ha
            clear hd
            go_simp
            go_wp2
            exact ⟨_, _, _, _, _, _, _, _, _, _, _, _, _, _, _, _, _, _, _, _, _, _, rfl, hbx, f0, f1, f2, fun _ => rfl, f4, f5, f6, f7, f8, f9, f10, f11, f12, f13, f14, f15, f16, f17, f18, f19, f20, f21⟩
          · intro L a' wx _ hd hG K hK
            refine Exists.elim hG ?_; clear hG; intro u6 hG
            refine Exists.elim hG ?_; clear hG; intro u47 hG
            refine Exists.elim hG ?_; clear hG; intro u48 hG
            refine Exists.elim hG ?_; clear hG; intro u49 hG
            refine Exists.elim hG ?_; clear hG; intro u50 hG
            refine Exists.elim hG ?_; clear hG; intro u51 hG
            refine Exists.elim hG ?_; clear hG; intro u52 hG
            refine Exists.elim hG ?_; clear hG; intro u53 hG
            refine Exists.elim hG ?_; clear hG; intro u54 hG
            refine Exists.elim hG ?_; clear hG; intro u55 hG
            refine Exists.elim hG ?_; clear hG; intro u56 hG
            refine Exists.elim hG ?_; clear hG; intro u57 hG
            refine Exists.elim hG ?_; clear hG; intro u58 hG
            refine Exists.elim hG ?_; clear hG; intro u59 hG
            refine Exists.elim hG ?_; clear hG; intro u60 hG
            refine Exists.elim hG ?_; clear hG; intro u61 hG
            refine Exists.elim hG ?_; clear hG; intro u62 hG
            refine Exists.elim hG ?_; clear hG; intro u63 hG
            refine Exists.elim hG ?_; clear hG; intro u64 hG
            refine Exists.elim hG ?_; clear hG; intro u65 hG
            refine Exists.elim hG ?_; clear hG; intro u66 hG
            refine Exists.elim hG ?_; clear hG; intro u67 hG
            refine And.elim ?_ hG; clear hG; intro ha hG
            refine And.elim ?_ hG; clear hG; intro hbx hG
            refine And.elim ?_ hG; clear hG; intro f0 hG
            refine And.elim ?_ hG; clear hG; intro f1 hG
            refine And.elim ?_ hG; clear hG; intro f2 hG
            refine And.elim ?_ hG; clear hG; intro f3 hG
            refine And.elim ?_ hG; clear hG; intro f4 hG
            refine And.elim ?_ hG; clear hG; intro f5 hG
            refine And.elim ?_ hG; clear hG; intro f6 hG
            refine And.elim ?_ hG; clear hG; intro f7 hG
            refine And.elim ?_ hG; clear hG; intro f8 hG
            refine And.elim ?_ hG; clear hG; intro f9 hG
            refine And.elim ?_ hG; clear hG; intro f10 hG
            refine And.elim ?_ hG; clear hG; intro f11 hG
            refine And.elim ?_ hG; clear hG; intro f12 hG
            refine And.elim ?_ hG; clear hG; intro f13 hG
            refine And.elim ?_ hG; clear hG; intro f14 hG
            refine And.elim ?_ hG; clear hG; intro f15 hG
            refine And.elim ?_ hG; clear hG; intro f16 hG
            refine And.elim ?_ hG; clear hG; intro f17 hG
            refine And.elim ?_ hG; clear hG; intro f18 hG
            refine And.elim ?_ hG; clear hG; intro f19 hG
            refine And.elim ?_ hG; clear hG; intro f20 hG
            have f21 := hG; clear hG
            subst ha
            clear hd
            go_simp
            go_wp2
            exact ⟨_, _, _, _, _, _, _, _, _, _, _, _, _, _, _, _, _, _, _, _, _, _, rfl, hbx, f0, f1, f2, f3, fun _ => rfl, f5, f6, f7, f8, f9, f10, f11, f12, f13, f14, f15, f16, f17, f18, f19, f20, f21⟩
          · intro L a' wx _ hd hG K hK
            refine Exists.elim hG ?_; clear hG; intro u6 hG
            refine Exists.elim hG ?_; clear hG; intro u47 hG
            refine Exists.elim hG ?_; clear hG; intro u48 hG
            refine Exists.elim hG ?_; clear hG; intro u49 hG
            refine Exists.elim hG ?_; clear hG; intro u50 hG
            refine Exists.elim hG ?_; clear hG; intro u51 hG
            refine Exists.elim hG ?_; clear hG; intro u52 hG
            refine Exists.elim hG ?_; clear hG; intro u53 hG
            refine Exists.elim hG ?_; clear hG; intro u54 hG
            refine Exists.elim hG ?_; clear hG; intro u55 hG
            refine Exists.elim hG ?_; clear hG; intro u56 hG
            refine Exists.elim hG ?_; clear hG; intro u57 hG
            refine Exists.elim hG ?_; clear hG; intro u58 hG
            refine Exists.elim hG ?_; clear hG; intro u59 hG
            refine Exists.elim hG ?_; clear hG; intro u60 hG
            refine Exists.elim hG ?_; clear hG; intro u61 hG
            refine Exists.elim hG ?_; clear hG; intro u62 hG
            refine Exists.elim hG ?_; clear hG; intro u63 hG
            refine Exists.elim hG ?_; clear hG; intro u64 hG
            refine Exists.elim hG ?_; clear hG; intro u65 hG
            refine Exists.elim hG ?_; clear hG; intro u66 hG
            refine Exists.elim hG ?_; clear hG; intro u67 hG
            refine And.elim ?_ hG; clear hG; intro ha hG
            refine And.elim ?_ hG; clear hG; intro hbx hG
            refine And.elim ?_ hG; clear hG; intro f0 hG
            refine And.elim ?_ hG; clear hG; intro f1 hG
            refine And.elim ?_ hG; clear hG; intro f2 hG
            refine And.elim ?_ hG; clear hG; intro f3 hG
            refine And.elim ?_ hG; clear hG; intro f4 hG
            refine And.elim ?_ hG; clear hG; intro f5 hG
            refine And.elim ?_ hG; clear hG; intro f6 hG
            refine And.elim ?_ hG; clear hG; intro f7 hG
            refine And.elim ?_ hG; clear hG; intro f8 hG
            refine And.elim ?_ hG; clear hG; intro f9 hG
            refine And.elim ?_ hG; clear hG; intro f10 hG
            refine And.elim ?_ hG; clear hG; intro f11 hG
            refine And.elim ?_ hG; clear hG; intro f12 hG
            refine And.elim ?_ hG; clear hG; intro f13 hG
            refine And.elim ?_ hG; clear hG; intro f14 hG
            refine And.elim ?_ hG; clear hG; intro f15 hG
            refine And.elim ?_ hG; clear hG; intro f16 hG
            refine And.elim ?_ hG; clear hG; intro f17 hG
            refine And.elim ?_ hG; clear hG; intro f18 hG
            refine And.elim ?_ hG; clear hG; intro f19 hG
            refine And.elim ?_ hG; clear hG; intro f20 hG
            have f21 := hG; clear hG
            subst ha
            obtain rfl := f3 (hd ⟨3, .data⟩ (by simp) rfl)
            obtain rfl := f4 (hd ⟨4, .data⟩ (by simp) rfl)
            clear hd
            go_simp
            go_wp2
            exact ⟨_, _, _, _, _, _, _, _, _, _, _, _, _, _, _, _, _, _, _, _, _, _, rfl, hbx, f0, f1, f2, fun _ => rfl, fun _ => rfl, fun _ => rfl, f6, f7, f8, f9, f10, f11, f12, f13, f14, f15, f16, f17, f18, f19, f20, f21⟩
          · intro L a' wx _ hd hG K hK
            refine Exists.elim hG ?_; clear hG; intro u6 hG
            refine Exists.elim hG ?_; clear hG; intro u47 hG
            refine Exists.elim hG ?_; clear hG; intro u48 hG
            refine Exists.elim hG ?_; clear hG; intro u49 hG
            refine Exists.elim hG ?_; clear hG; intro u50 hG
            refine Exists.elim hG ?_; clear hG; intro u51 hG
            refine Exists.elim hG ?_; clear hG; intro u52 hG
            refine Exists.elim hG ?_; clear hG; intro u53 hG
            refine Exists.elim hG ?_; clear hG; intro u54 hG
            refine Exists.elim hG ?_; clear hG; intro u55 hG
            refine Exists.elim hG ?_; clear hG; intro u56 hG
            refine Exists.elim hG ?_; clear hG; intro u57 hG
            refine Exists.elim hG ?_; clear hG; intro u58 hG
            refine Exists.elim hG ?_; clear hG; intro u59 hG
            refine Exists.elim hG ?_; clear hG; intro u60 hG
            refine Exists.elim hG ?_; clear hG; intro u61 hG
            refine Exists.elim hG ?_; clear hG; intro u62 hG
            refine Exists.elim hG ?_; clear hG; intro u63 hG
            refine Exists.elim hG ?_; clear hG; intro u64 hG
            refine Exists.elim hG ?_; clear hG; intro u65 hG
            refine Exists.elim hG ?_; clear hG; intro u66 hG
            refine Exists.elim hG ?_; clear hG; intro u67 hG
            refine And.elim ?_ hG; clear hG; intro ha hG
            refine And.elim ?_ hG; clear hG; intro hbx hG
            refine And.elim ?_ hG; clear hG; intro f0 hG
            refine And.elim ?_ hG; clear hG; intro f1 hG
            refine And.elim ?_ hG; clear hG; intro f2 hG
            refine And.elim ?_ hG; clear hG; intro f3 hG
            refine And.elim ?_ hG; clear hG; intro f4 hG
            refine And.elim ?_ hG; clear hG; intro f5 hG
            refine And.elim ?_ hG; clear hG; intro f6 hG
            refine And.elim ?_ hG; clear hG; intro f7 hG
            refine And.elim ?_ hG; clear hG; intro f8 hG
            refine And.elim ?_ hG; clear hG; intro f9 hG
            refine And.elim ?_ hG; clear hG; intro f10 hG
            refine And.elim ?_ hG; clear hG; intro f11 hG
            refine And.elim ?_ hG; clear hG; intro f12 hG
            refine And.elim ?_ hG; clear hG; intro f13 hG
            refine And.elim ?_ hG; clear hG; intro f14 hG
            refine And.elim ?_ hG; clear hG; intro f15 hG
            refine And.elim ?_ hG; clear hG; intro f16 hG
            refine And.elim ?_ hG; clear hG; intro f17 hG
            refine And.elim ?_ hG; clear hG; intro f18 hG
            refine And.elim ?_ hG; clear hG; intro f19 hG
            refine And.elim ?_ hG; clear hG; intro f20 hG
            have f21 := hG; clear hG
            subst ha
            obtain rfl := f5 (hd ⟨5, .data⟩ (by simp) rfl)
            clear hd
            go_simp
            go_wp2
            have hk : ∀ o, Below wx.heap.size wx (wx.alloc o) := fun o => (Below.refl _ _).alloc (Nat.le_refl _) o
            exact ⟨_, _, _, _, _, _, _, _, _, _, _, _, _, _, _, _, _, _, _, _, _, _, rfl, hbx.alloc hbx.size _, f0, fun h => (f1 h).keep (hk _), f2, f3, f4, fun _ => rfl, fun _ => One.new _ _ _, f7, f8, f9, f10, fun h => (f11 h).keep (hk _), f12, f13, f14, f15, f16, fun h => (f17 h).keep (hk _), f18, f19, f20, f21⟩
          · intro L a' wx _ hd hG K hK
            refine Exists.elim hG ?_; clear hG; intro u6 hG
            refine Exists.elim hG ?_; clear hG; intro u47 hG
            refine Exists.elim hG ?_; clear hG; intro u48 hG
            refine Exists.elim hG ?_; clear hG; intro u49 hG
            refine Exists.elim hG ?_; clear hG; intro u50 hG
            refine Exists.elim hG ?_; clear hG; intro u51 hG
            refine Exists.elim hG ?_; clear hG; intro u52 hG
            refine Exists.elim hG ?_; clear hG; intro u53 hG
            refine Exists.elim hG ?_; clear hG; intro u54 hG
            refine Exists.elim hG ?_; clear hG; intro u55 hG
            refine Exists.elim hG ?_; clear hG; intro u56 hG
            refine Exists.elim hG ?_; clear hG; intro u57 hG
            refine Exists.elim hG ?_; clear hG; intro u58 hG
            refine Exists.elim hG ?_; clear hG; intro u59 hG
            refine Exists.elim hG ?_; clear hG; intro u60 hG
            refine Exists.elim hG ?_; clear hG; intro u61 hG
            refine Exists.elim hG ?_; clear hG; intro u62 hG
            refine Exists.elim hG ?_; clear hG; intro u63 hG
            refine Exists.elim hG ?_; clear hG; intro u64 hG
            refine Exists.elim hG ?_; clear hG; intro u65 hG
            refine Exists.elim hG ?_; clear hG; intro u66 hG
            refine Exists.elim hG ?_; clear hG; intro u67 hG
            refine And.elim ?_ hG; clear hG; intro ha hG
            refine And.elim ?_ hG; clear hG; intro hbx hG
            refine And.elim ?_ hG; clear hG; intro f0 hG
            refine And.elim ?_ hG; clear hG; intro f1 hG
            refine And.elim ?_ hG; clear hG; intro f2 hG
            refine And.elim ?_ hG; clear hG; intro f3 hG
            refine And.elim ?_ hG; clear hG; intro f4 hG
            refine And.elim ?_ hG; clear hG; intro f5 hG
            refine And.elim ?_ hG; clear hG; intro f6 hG
            refine And.elim ?_ hG; clear hG; intro f7 hG
            refine And.elim ?_ hG; clear hG; intro f8 hG
            refine And.elim ?_ hG; clear hG; intro f9 hG
            refine And.elim ?_ hG; clear hG; intro f10 hG
            refine And.elim ?_ hG; clear hG; intro f11 hG
            refine And.elim ?_ hG; clear hG; intro f12 hG
            refine And.elim ?_ hG; clear hG; intro f13 hG
            refine And.elim ?_ hG; clear hG; intro f14 hG
            refine And.elim ?_ hG; clear hG; intro f15 hG
            refine And.elim ?_ hG; clear hG; intro f16 hG
            refine And.elim ?_ hG; clear hG; intro f17 hG
            refine And.elim ?_ hG; clear hG; intro f18 hG
            refine And.elim ?_ hG; clear hG; intro f19 hG
            refine And.elim ?_ hG; clear hG; intro f20 hG
            have f21 := hG; clear hG
            subst ha
            obtain ⟨g, rfl, hg, hc⟩ := f6 (hd ⟨6, .data⟩ (by simp) rfl)
            clear hd
            go_simp
            refine (sum_one _ ⟨A, cap, a⟩ _ (HOa.out.keep hbx) (by unfold Part.val; dsimp only; rw [ea.out]; exact hc)).mono ?_
            rintro e w' ⟨rfl, rfl⟩
            go_wp2
            exact ⟨_, _, _, _, _, _, _, _, _, _, _, _, _, _, _, _, _, _, _, _, _, _, rfl, hbx, f0, f1, f2, f3, f4, f5, fun _ => ⟨g, rfl, hg, hc⟩, fun _ => rfl, f8, f9, f10, f11, f12, f13, f14, f15, f16, f17, f18, f19, f20, f21⟩
          · intro L a' wx _ hd hG K hK
            refine Exists.elim hG ?_; clear hG; intro u6 hG
            refine Exists.elim hG ?_; clear hG; intro u47 hG
            refine Exists.elim hG ?_; clear hG; intro u48 hG
            refine Exists.elim hG ?_; clear hG; intro u49 hG
            refine Exists.elim hG ?_; clear hG; intro u50 hG
            refine Exists.elim hG ?_; clear hG; intro u51 hG
            refine Exists.elim hG ?_; clear hG; intro u52 hG
            refine Exists.elim hG ?_; clear hG; intro u53 hG
            refine Exists.elim hG ?_; clear hG; intro u54 hG
            refine Exists.elim hG ?_; clear hG; intro u55 hG
            refine Exists.elim hG ?_; clear hG; intro u56 hG
            refine Exists.elim hG ?_; clear hG; intro u57 hG
            refine Exists.elim hG ?_; clear hG; intro u58 hG
            refine Exists.elim hG ?_; clear hG; intro u59 hG
            refine Exists.elim hG ?_; clear hG; intro u60 hG
            refine Exists.elim hG ?_; clear hG; intro u61 hG
            refine Exists.elim hG ?_; clear hG; intro u62 hG
            refine Exists.elim hG ?_; clear hG; intro u63 hG
            refine Exists.elim hG ?_; clear hG; intro u64 hG
            refine Exists.elim hG ?_; clear hG; intro u65 hG
            refine Exists.elim hG ?_; clear hG; intro u66 hG
            refine Exists.elim hG ?_; clear hG; intro u67 hG
            refine And.elim ?_ hG; clear hG; intro ha hG
            refine And.elim ?_ hG; clear hG; intro hbx hG
            refine And.elim ?_ hG; clear hG; intro f0 hG
            refine And.elim ?_ hG; clear hG; intro f1 hG
            refine And.elim ?_ hG; clear hG; intro f2 hG
            refine And.elim ?_ hG; clear hG; intro f3 hG
            refine And.elim ?_ hG; clear hG; intro f4 hG
            refine And.elim ?_ hG; clear hG; intro f5 hG
            refine And.elim ?_ hG; clear hG; intro f6 hG
            refine And.elim ?_ hG; clear hG; intro f7 hG
            refine And.elim ?_ hG; clear hG; intro f8 hG
            refine And.elim ?_ hG; clear hG; intro f9 hG
            refine And.elim ?_ hG; clear hG; intro f10 hG
            refine And.elim ?_ hG; clear hG; intro f11 hG
            refine And.elim ?_ hG; clear hG; intro f12 hG
            refine And.elim ?_ hG; clear hG; intro f13 hG
            refine And.elim ?_ hG; clear hG; intro f14 hG
            refine And.elim ?_ hG; clear hG; intro f15 hG
            refine And.elim ?_ hG; clear hG; intro f16 hG
            refine And.elim ?_ hG; clear hG; intro f17 hG
            refine And.elim ?_ hG; clear hG; intro f18 hG
            refine And.elim ?_ hG; clear hG; intro f19 hG
            refine And.elim ?_ hG; clear hG; intro f20 hG
            have f21 := hG; clear hG
            subst ha
            clear hd
            go_simp
            go_wp2
            exact ⟨_, _, _, _, _, _, _, _, _, _, _, _, _, _, _, _, _, _, _, _, _, _, rfl, hbx, f0, f1, f2, f3, f4, f5, f6, f7, fun _ => rfl, f9, f10, f11, f12, f13, f14, f15, f16, f17, f18, f19, f20, f21⟩
          · intro L a' wx _ hd hG K hK
            refine Exists.elim hG ?_; clear hG; intro u6 hG
            refine Exists.elim hG ?_; clear hG; intro u47 hG
            refine Exists.elim hG ?_; clear hG; intro u48 hG
            refine Exists.elim hG ?_; clear hG; intro u49 hG
            refine Exists.elim hG ?_; clear hG; intro u50 hG
            refine Exists.elim hG ?_; clear hG; intro u51 hG
            refine Exists.elim hG ?_; clear hG; intro u52 hG
            refine Exists.elim hG ?_; clear hG; intro u53 hG
            refine Exists.elim hG ?_; clear hG; intro u54 hG
            refine Exists.elim hG ?_; clear hG; intro u55 hG
            refine Exists.elim hG ?_; clear hG; intro u56 hG
            refine Exists.elim hG ?_; clear hG; intro u57 hG
            refine Exists.elim hG ?_; clear hG; intro u58 hG
            refine Exists.elim hG ?_; clear hG; intro u59 hG
            refine Exists.elim hG ?_; clear hG; intro u60 hG
            refine Exists.elim hG ?_; clear hG; intro u61 hG
            refine Exists.elim hG ?_; clear hG; intro u62 hG
            refine Exists.elim hG ?_; clear hG; intro u63 hG
            refine Exists.elim hG ?_; clear hG; intro u64 hG
            refine Exists.elim hG ?_; clear hG; intro u65 hG
            refine Exists.elim hG ?_; clear hG; intro u66 hG
            refine Exists.elim hG ?_; clear hG; intro u67 hG
            refine And.elim ?_ hG; clear hG; intro ha hG
            refine And.elim ?_ hG; clear hG; intro hbx hG
            refine And.elim ?_ hG; clear hG; intro f0 hG
            refine And.elim ?_ hG; clear hG; intro f1 hG
            refine And.elim ?_ hG; clear hG; intro f2 hG
            refine And.elim ?_ hG; clear hG; intro f3 hG
            refine And.elim ?_ hG; clear hG; intro f4 hG
            refine And.elim ?_ hG; clear hG; intro f5 hG
            refine And.elim ?_ hG; clear hG; intro f6 hG
            refine And.elim ?_ hG; clear hG; intro f7 hG
            refine And.elim ?_ hG; clear hG; intro f8 hG
            refine And.elim ?_ hG; clear hG; intro f9 hG
            refine And.elim ?_ hG; clear hG; intro f10 hG
            refine And.elim ?_ hG; clear hG; intro f11 hG
            refine And.elim ?_ hG; clear hG; intro f12 hG
            refine And.elim ?_ hG; clear hG; intro f13 hG
            refine And.elim ?_ hG; clear hG; intro f14 hG
            refine And.elim ?_ hG; clear hG; intro f15 hG
            refine And.elim ?_ hG; clear hG; intro f16 hG
            refine And.elim ?_ hG; clear hG; intro f17 hG
            refine And.elim ?_ hG; clear hG; intro f18 hG
            refine And.elim ?_ hG; clear hG; intro f19 hG
            refine And.elim ?_ hG; clear hG; intro f20 hG
            have f21 := hG; clear hG
            subst ha
            clear hd
            go_simp
            go_wp2
            exact ⟨_, _, _, _, _, _, _, _, _, _, _, _, _, _, _, _, _, _, _, _, _, _, rfl, hbx, f0, f1, f2, f3, f4, f5, f6, f7, f8, fun _ => rfl, f10, f11, f12, f13, f14, f15, f16, f17, f18, f19, f20, f21⟩
          · intro L a' wx _ hd hG K hK
            refine Exists.elim hG ?_; clear hG; intro u6 hG
            refine Exists.elim hG ?_; clear hG; intro u47 hG
            refine Exists.elim hG ?_; clear hG; intro u48 hG
            refine Exists.elim hG ?_; clear hG; intro u49 hG
            refine Exists.elim hG ?_; clear hG; intro u50 hG
            refine Exists.elim hG ?_; clear hG; intro u51 hG
            refine Exists.elim hG ?_; clear hG; intro u52 hG
            refine Exists.elim hG ?_; clear hG; intro u53 hG
            refine Exists.elim hG ?_; clear hG; intro u54 hG
            refine Exists.elim hG ?_; clear hG; intro u55 hG
            refine Exists.elim hG ?_; clear hG; intro u56 hG
            refine Exists.elim hG ?_; clear hG; intro u57 hG
            refine Exists.elim hG ?_; clear hG; intro u58 hG
            refine Exists.elim hG ?_; clear hG; intro u59 hG
            refine Exists.elim hG ?_; clear hG; intro u60 hG
            refine Exists.elim hG ?_; clear hG; intro u61 hG
            refine Exists.elim hG ?_; clear hG; intro u62 hG
            refine Exists.elim hG ?_; clear hG; intro u63 hG
            refine Exists.elim hG ?_; clear hG; intro u64 hG
            refine Exists.elim hG ?_; clear hG; intro u65 hG
            refine Exists.elim hG ?_; clear hG; intro u66 hG
            refine Exists.elim hG ?_; clear hG; intro u67 hG
            refine And.elim ?_ hG; clear hG; intro ha hG
            refine And.elim ?_ hG; clear hG; intro hbx hG
            refine And.elim ?_ hG; clear hG; intro f0 hG
            refine And.elim ?_ hG; clear hG; intro f1 hG
            refine And.elim ?_ hG; clear hG; intro f2 hG
            refine And.elim ?_ hG; clear hG; intro f3 hG
            refine And.elim ?_ hG; clear hG; intro f4 hG
            refine And.elim ?_ hG; clear hG; intro f5 hG
            refine And.elim ?_ hG; clear hG; intro f6 hG
            refine And.elim ?_ hG; clear hG; intro f7 hG
            refine And.elim ?_ hG; clear hG; intro f8 hG
            refine And.elim ?_ hG; clear hG; intro f9 hG
            refine And.elim ?_ hG; clear hG; intro f10 hG
            refine And.elim ?_ hG; clear hG; intro f11 hG
            refine And.elim ?_ hG; clear hG; intro f12 hG
            refine And.elim ?_ hG; clear hG; intro f13 hG
            refine And.elim ?_ hG; clear hG; intro f14 hG
            refine And.elim ?_ hG; clear hG; intro f15 hG
            refine And.elim ?_ hG; clear hG; intro f16 hG
            refine And.elim ?_ hG; clear hG; intro f17 hG
            refine And.elim ?_ hG; clear hG; intro f18 hG
            refine And.elim ?_ hG; clear hG; intro f19 hG
            refine And.elim ?_ hG; clear hG; intro f20 hG
            have f21 := hG; clear hG
            subst ha
            obtain rfl := f8 (hd ⟨8, .data⟩ (by simp) rfl)
            obtain rfl := f9 (hd ⟨9, .data⟩ (by simp) rfl)
            clear hd
            go_simp
            go_wp2
            exact ⟨_, _, _, _, _, _, _, _, _, _, _, _, _, _, _, _, _, _, _, _, _, _, rfl, hbx, f0, f1, f2, f3, f4, f5, f6, f7, fun _ => rfl, fun _ => rfl, fun _ => rfl, f11, f12, f13, f14, f15, f16, f17, f18, f19, f20, f21⟩
          · intro L a' wx _ hd hG K hK
            refine Exists.elim hG ?_; clear hG; intro u6 hG
            refine Exists.elim hG ?_; clear hG; intro u47 hG
            refine Exists.elim hG ?_; clear hG; intro u48 hG
            refine Exists.elim hG ?_; clear hG; intro u49 hG
            refine Exists.elim hG ?_; clear hG; intro u50 hG
            refine Exists.elim hG ?_; clear hG; intro u51 hG
            refine Exists.elim hG ?_; clear hG; intro u52 hG
            refine Exists.elim hG ?_; clear hG; intro u53 hG
            refine Exists.elim hG ?_; clear hG; intro u54 hG
            refine Exists.elim hG ?_; clear hG; intro u55 hG
            refine Exists.elim hG ?_; clear hG; intro u56 hG
            refine Exists.elim hG ?_; clear hG; intro u57 hG
            refine Exists.elim hG ?_; clear hG; intro u58 hG
            refine Exists.elim hG ?_; clear hG; intro u59 hG
            refine Exists.elim hG ?_; clear hG; intro u60 hG
            refine Exists.elim hG ?_; clear hG; intro u61 hG
            refine Exists.elim hG ?_; clear hG; intro u62 hG
            refine Exists.elim hG ?_; clear hG; intro u63 hG
            refine Exists.elim hG ?_; clear hG; intro u64 hG
            refine Exists.elim hG ?_; clear hG; intro u65 hG
            refine Exists.elim hG ?_; clear hG; intro u66 hG
            refine Exists.elim hG ?_; clear hG; intro u67 hG
            refine And.elim ?_ hG; clear hG; intro ha hG
            refine And.elim ?_ hG; clear hG; intro hbx hG
            refine And.elim ?_ hG; clear hG; intro f0 hG
            refine And.elim ?_ hG; clear hG; intro f1 hG
            refine And.elim ?_ hG; clear hG; intro f2 hG
            refine And.elim ?_ hG; clear hG; intro f3 hG
            refine And.elim ?_ hG; clear hG; intro f4 hG
            refine And.elim ?_ hG; clear hG; intro f5 hG
            refine And.elim ?_ hG; clear hG; intro f6 hG
            refine And.elim ?_ hG; clear hG; intro f7 hG
            refine And.elim ?_ hG; clear hG; intro f8 hG
            refine And.elim ?_ hG; clear hG; intro f9 hG
            refine And.elim ?_ hG; clear hG; intro f10 hG
            refine And.elim ?_ hG; clear hG; intro f11 hG
            refine And.elim ?_ hG; clear hG; intro f12 hG
            refine And.elim ?_ hG; clear hG; intro f13 hG
            refine And.elim ?_ hG; clear hG; intro f14 hG
            refine And.elim ?_ hG; clear hG; intro f15 hG
            refine And.elim ?_ hG; clear hG; intro f16 hG
            refine And.elim ?_ hG; clear hG; intro f17 hG
            refine And.elim ?_ hG; clear hG; intro f18 hG
            refine And.elim ?_ hG; clear hG; intro f19 hG
            refine And.elim ?_ hG; clear hG; intro f20 hG
            have f21 := hG; clear hG
            subst ha
            obtain rfl := f10 (hd ⟨10, .data⟩ (by simp) rfl)
            clear hd
            go_simp
            go_wp2
            have hk : ∀ o, Below wx.heap.size wx (wx.alloc o) := fun o => (Below.refl _ _).alloc (Nat.le_refl _) o
            exact ⟨_, _, _, _, _, _, _, _, _, _, _, _, _, _, _, _, _, _, _, _, _, _, rfl, hbx.alloc hbx.size _, f0, fun h => (f1 h).keep (hk _), f2, f3, f4, f5, fun h => (f6 h).keep (hk _), f7, f8, f9, fun _ => rfl, fun _ => One.new _ _ _, f12, f13, f14, f15, f16, fun h => (f17 h).keep (hk _), f18, f19, f20, f21⟩
          · intro L a' wx _ hd hG K hK
            refine Exists.elim hG ?_; clear hG; intro u6 hG
            refine Exists.elim hG ?_; clear hG; intro u47 hG
            refine Exists.elim hG ?_; clear hG; intro u48 hG
            refine Exists.elim hG ?_; clear hG; intro u49 hG
            refine Exists.elim hG ?_; clear hG; intro u50 hG
            refine Exists.elim hG ?_; clear hG; intro u51 hG
            refine Exists.elim hG ?_; clear hG; intro u52 hG
            refine Exists.elim hG ?_; clear hG; intro u53 hG
            refine Exists.elim hG ?_; clear hG; intro u54 hG
            refine Exists.elim hG ?_; clear hG; intro u55 hG
            refine Exists.elim hG ?_; clear hG; intro u56 hG
            refine Exists.elim hG ?_; clear hG; intro u57 hG
            refine Exists.elim hG ?_; clear hG; intro u58 hG
            refine Exists.elim hG ?_; clear hG; intro u59 hG
            refine Exists.elim hG ?_; clear hG; intro u60 hG
            refine Exists.elim hG ?_; clear hG; intro u61 hG
            refine Exists.elim hG ?_; clear hG; intro u62 hG
            refine Exists.elim hG ?_; clear hG; intro u63 hG
            refine Exists.elim hG ?_; clear hG; intro u64 hG
            refine Exists.elim hG ?_; clear hG; intro u65 hG
            refine Exists.elim hG ?_; clear hG; intro u66 hG
            refine Exists.elim hG ?_; clear hG; intro u67 hG
            refine And.elim ?_ hG; clear hG; intro ha hG
            refine And.elim ?_ hG; clear hG; intro hbx hG
            refine And.elim ?_ hG; clear hG; intro f0 hG
            refine And.elim ?_ hG; clear hG; intro f1 hG
            refine And.elim ?_ hG; clear hG; intro f2 hG
            refine And.elim ?_ hG; clear hG; intro f3 hG
            refine And.elim ?_ hG; clear hG; intro f4 hG
            refine And.elim ?_ hG; clear hG; intro f5 hG
            refine And.elim ?_ hG; clear hG; intro f6 hG
            refine And.elim ?_ hG; clear hG; intro f7 hG
            refine And.elim ?_ hG; clear hG; intro f8 hG
            refine And.elim ?_ hG; clear hG; intro f9 hG
            refine And.elim ?_ hG; clear hG; intro f10 hG
            refine And.elim ?_ hG; clear hG; intro f11 hG
            refine And.elim ?_ hG; clear hG; intro f12 hG
            refine And.elim ?_ hG; clear hG; intro f13 hG
            refine And.elim ?_ hG; clear hG; intro f14 hG
            refine And.elim ?_ hG; clear hG; intro f15 hG
            refine And.elim ?_ hG; clear hG; intro f16 hG
            refine And.elim ?_ hG; clear hG; intro f17 hG
            refine And.elim ?_ hG; clear hG; intro f18 hG
            refine And.elim ?_ hG; clear hG; intro f19 hG
            refine And.elim ?_ hG; clear hG; intro f20 hG
            have f21 := hG; clear hG
            subst ha
            obtain ⟨g, rfl, hg, hc⟩ := f11 (hd ⟨11, .data⟩ (by simp) rfl)
            clear hd
            go_simp
            refine (sum_one _ ⟨B, cbp, b⟩ _ (HOb.out.keep hbx) (by unfold Part.val; dsimp only; rw [eb.out]; exact hc)).mono ?_
            rintro e w' ⟨rfl, rfl⟩
            go_wp2
            exact ⟨_, _, _, _, _, _, _, _, _, _, _, _, _, _, _, _, _, _, _, _, _, _, rfl, hbx, f0, f1, f2, f3, f4, f5, f6, f7, f8, f9, f10, fun _ => ⟨g, rfl, hg, hc⟩, fun _ => rfl, f13, f14, f15, f16, f17, f18, f19, f20, f21⟩
          · intro L a' wx _ hd hG K hK
            refine Exists.elim hG ?_; clear hG; intro u6 hG
            refine Exists.elim hG ?_; clear hG; intro u47 hG
            refine Exists.elim hG ?_; clear hG; intro u48 hG
            refine Exists.elim hG ?_; clear hG; intro u49 hG
            refine Exists.elim hG ?_; clear hG; intro u50 hG
            refine Exists.elim hG ?_; clear hG; intro u51 hG
            refine Exists.elim hG ?_; clear hG; intro u52 hG
            refine Exists.elim hG ?_; clear hG; intro u53 hG
            refine Exists.elim hG ?_; clear hG; intro u54 hG
            refine Exists.elim hG ?_; clear hG; intro u55 hG
            refine Exists.elim hG ?_; clear hG; intro u56 hG
            refine Exists.elim hG ?_; clear hG; intro u57 hG
            refine Exists.elim hG ?_; clear hG; intro u58 hG
            refine Exists.elim hG ?_; clear hG; intro u59 hG
            refine Exists.elim hG ?_; clear hG; intro u60 hG
            refine Exists.elim hG ?_; clear hG; intro u61 hG
            refine Exists.elim hG ?_; clear hG; intro u62 hG
            refine Exists.elim hG ?_; clear hG; intro u63 hG
            refine Exists.elim hG ?_; clear hG; intro u64 hG
            refine Exists.elim hG ?_; clear hG; intro u65 hG
            refine Exists.elim hG ?_; clear hG; intro u66 hG
            refine Exists.elim hG ?_; clear hG; intro u67 hG
            refine And.elim ?_ hG; clear hG; intro ha hG
            refine And.elim ?_ hG; clear hG; intro hbx hG
            refine And.elim ?_ hG; clear hG; intro f0 hG
            refine And.elim ?_ hG; clear hG; intro f1 hG
            refine And.elim ?_ hG; clear hG; intro f2 hG
            refine And.elim ?_ hG; clear hG; intro f3 hG
            refine And.elim ?_ hG; clear hG; intro f4 hG
            refine And.elim ?_ hG; clear hG; intro f5 hG
            refine And.elim ?_ hG; clear hG; intro f6 hG
            refine And.elim ?_ hG; clear hG; intro f7 hG
            refine And.elim ?_ hG; clear hG; intro f8 hG
            refine And.elim ?_ hG; clear hG; intro f9 hG
            refine And.elim ?_ hG; clear hG; intro f10 hG
            refine And.elim ?_ hG; clear hG; intro f11 hG
            refine And.elim ?_ hG; clear hG; intro f12 hG
            refine And.elim ?_ hG; clear hG; intro f13 hG
            refine And.elim ?_ hG; clear hG; intro f14 hG
            refine And.elim ?_ hG; clear hG; intro f15 hG
            refine And.elim ?_ hG; clear hG; intro f16 hG
            refine And.elim ?_ hG; clear hG; intro f17 hG
            refine And.elim ?_ hG; clear hG; intro f18 hG
            refine And.elim ?_ hG; clear hG; intro f19 hG
            refine And.elim ?_ hG; clear hG; intro f20 hG
            have f21 := hG; clear hG
            subst ha
            obtain rfl := f7 (hd ⟨7, .data⟩ (by simp) rfl)
            obtain rfl := f12 (hd ⟨12, .data⟩ (by simp) rfl)
            have hxab := u32_xor_nat (Plain.crc a) (Plain.crc b) hka hkb
            clear hd
            go_simp
            go_wp2
            exact ⟨_, _, _, _, _, _, _, _, _, _, _, _, _, _, _, _, _, _, _, _, _, _, rfl, hbx, f0, f1, f2, f3, f4, f5, f6, fun _ => rfl, f8, f9, f10, f11, fun _ => rfl, fun _ => rfl, f14, f15, f16, f17, f18, f19, f20, f21⟩
          · intro L a' wx _ hd hG K hK
            refine Exists.elim hG ?_; clear hG; intro u6 hG
            refine Exists.elim hG ?_; clear hG; intro u47 hG
            refine Exists.elim hG ?_; clear hG; intro u48 hG
            refine Exists.elim hG ?_; clear hG; intro u49 hG
            refine Exists.elim hG ?_; clear hG; intro u50 hG
            refine Exists.elim hG ?_; clear hG; intro u51 hG
            refine Exists.elim hG ?_; clear hG; intro u52 hG
            refine Exists.elim hG ?_; clear hG; intro u53 hG
            refine Exists.elim hG ?_; clear hG; intro u54 hG
            refine Exists.elim hG ?_; clear hG; intro u55 hG
            refine Exists.elim hG ?_; clear hG; intro u56 hG
            refine Exists.elim hG ?_; clear hG; intro u57 hG
            refine Exists.elim hG ?_; clear hG; intro u58 hG
            refine Exists.elim hG ?_; clear hG; intro u59 hG
            refine Exists.elim hG ?_; clear hG; intro u60 hG
            refine Exists.elim hG ?_; clear hG; intro u61 hG
            refine Exists.elim hG ?_; clear hG; intro u62 hG
            refine Exists.elim hG ?_; clear hG; intro u63 hG
            refine Exists.elim hG ?_; clear hG; intro u64 hG
            refine Exists.elim hG ?_; clear hG; intro u65 hG
            refine Exists.elim hG ?_; clear hG; intro u66 hG
            refine Exists.elim hG ?_; clear hG; intro u67 hG
            refine And.elim ?_ hG; clear hG; intro ha hG
            refine And.elim ?_ hG; clear hG; intro hbx hG
            refine And.elim ?_ hG; clear hG; intro f0 hG
            refine And.elim ?_ hG; clear hG; intro f1 hG
            refine And.elim ?_ hG; clear hG; intro f2 hG
            refine And.elim ?_ hG; clear hG; intro f3 hG
            refine And.elim ?_ hG; clear hG; intro f4 hG
            refine And.elim ?_ hG; clear hG; intro f5 hG
            refine And.elim ?_ hG; clear hG; intro f6 hG
            refine And.elim ?_ hG; clear hG; intro f7 hG
            refine And.elim ?_ hG; clear hG; intro f8 hG
            refine And.elim ?_ hG; clear hG; intro f9 hG
            refine And.elim ?_ hG; clear hG; intro f10 hG
            refine And.elim ?_ hG; clear hG; intro f11 hG
            refine And.elim ?_ hG; clear hG; intro f12 hG
            refine And.elim ?_ hG; clear hG; intro f13 hG
            refine And.elim ?_ hG; clear hG; intro f14 hG
            refine And.elim ?_ hG; clear hG; intro f15 hG
            refine And.elim ?_ hG; clear hG; intro f16 hG
            refine And.elim ?_ hG; clear hG; intro f17 hG
            refine And.elim ?_ hG; clear hG; intro f18 hG
            refine And.elim ?_ hG; clear hG; intro f19 hG
            refine And.elim ?_ hG; clear hG; intro f20 hG
            have f21 := hG; clear hG
            subst ha
            clear hd
            go_simp
            go_wp2
            exact ⟨_, _, _, _, _, _, _, _, _, _, _, _, _, _, _, _, _, _, _, _, _, _, rfl, hbx, f0, f1, f2, f3, f4, f5, f6, f7, f8, f9, f10, f11, f12, f13, fun _ => rfl, f15, f16, f17, f18, f19, f20, f21⟩
          · intro L a' wx _ hd hG K hK
            refine Exists.elim hG ?_; clear hG; intro u6 hG
            refine Exists.elim hG ?_; clear hG; intro u47 hG
            refine Exists.elim hG ?_; clear hG; intro u48 hG
            refine Exists.elim hG ?_; clear hG; intro u49 hG
            refine Exists.elim hG ?_; clear hG; intro u50 hG
            refine Exists.elim hG ?_; clear hG; intro u51 hG
            refine Exists.elim hG ?_; clear hG; intro u52 hG
            refine Exists.elim hG ?_; clear hG; intro u53 hG
            refine Exists.elim hG ?_; clear hG; intro u54 hG
            refine Exists.elim hG ?_; clear hG; intro u55 hG
            refine Exists.elim hG ?_; clear hG; intro u56 hG
            refine Exists.elim hG ?_; clear hG; intro u57 hG
            refine Exists.elim hG ?_; clear hG; intro u58 hG
            refine Exists.elim hG ?_; clear hG; intro u59 hG
            refine Exists.elim hG ?_; clear hG; intro u60 hG
            refine Exists.elim hG ?_; clear hG; intro u61 hG
            refine Exists.elim hG ?_; clear hG; intro u62 hG
            refine Exists.elim hG ?_; clear hG; intro u63 hG
            refine Exists.elim hG ?_; clear hG; intro u64 hG
            refine Exists.elim hG ?_; clear hG; intro u65 hG
            refine Exists.elim hG ?_; clear hG; intro u66 hG
            refine Exists.elim hG ?_; clear hG; intro u67 hG
            refine And.elim ?_ hG; clear hG; intro ha hG
            refine And.elim ?_ hG; clear hG; intro hbx hG
            refine And.elim ?_ hG; clear hG; intro f0 hG
            refine And.elim ?_ hG; clear hG; intro f1 hG
            refine And.elim ?_ hG; clear hG; intro f2 hG
            refine And.elim ?_ hG; clear hG; intro f3 hG
            refine And.elim ?_ hG; clear hG; intro f4 hG
            refine And.elim ?_ hG; clear hG; intro f5 hG
            refine And.elim ?_ hG; clear hG; intro f6 hG
            refine And.elim ?_ hG; clear hG; intro f7 hG
            refine And.elim ?_ hG; clear hG; intro f8 hG
            refine And.elim ?_ hG; clear hG; intro f9 hG
            refine And.elim ?_ hG; clear hG; intro f10 hG
            refine And.elim ?_ hG; clear hG; intro f11 hG
            refine And.elim ?_ hG; clear hG; intro f12 hG
            refine And.elim ?_ hG; clear hG; intro f13 hG
            refine And.elim ?_ hG; clear hG; intro f14 hG
            refine And.elim ?_ hG; clear hG; intro f15 hG
            refine And.elim ?_ hG; clear hG; intro f16 hG
            refine And.elim ?_ hG; clear hG; intro f17 hG
            refine And.elim ?_ hG; clear hG; intro f18 hG
            refine And.elim ?_ hG; clear hG; intro f19 hG
            refine And.elim ?_ hG; clear hG; intro f20 hG
            have f21 := hG; clear hG
            subst ha
            clear hd
            go_simp
            go_wp2
            exact ⟨_, _, _, _, _, _, _, _, _, _, _, _, _, _, _, _, _, _, _, _, _, _, rfl, hbx, f0, f1, f2, f3, f4, f5, f6, f7, f8, f9, f10, f11, f12, f13, f14, fun _ => rfl, f16, f17, f18, f19, f20, f21⟩
          · intro L a' wx _ hd hG K hK
            refine Exists.elim hG ?_; clear hG; intro u6 hG
            refine Exists.elim hG ?_; clear hG; intro u47 hG
            refine Exists.elim hG ?_; clear hG; intro u48 hG
            refine Exists.elim hG ?_; clear hG; intro u49 hG
            refine Exists.elim hG ?_; clear hG; intro u50 hG
            refine Exists.elim hG ?_; clear hG; intro u51 hG
            refine Exists.elim hG ?_; clear hG; intro u52 hG
            refine Exists.elim hG ?_; clear hG; intro u53 hG
            refine Exists.elim hG ?_; clear hG; intro u54 hG
            refine Exists.elim hG ?_; clear hG; intro u55 hG
            refine Exists.elim hG ?_; clear hG; intro u56 hG
            refine Exists.elim hG ?_; clear hG; intro u57 hG
            refine Exists.elim hG ?_; clear hG; intro u58 hG
            refine Exists.elim hG ?_; clear hG; intro u59 hG
            refine Exists.elim hG ?_; clear hG; intro u60 hG
            refine Exists.elim hG ?_; clear hG; intro u61 hG
            refine Exists.elim hG ?_; clear hG; intro u62 hG
            refine Exists.elim hG ?_; clear hG; intro u63 hG
            refine Exists.elim hG ?_; clear hG; intro u64 hG
            refine Exists.elim hG ?_; clear hG; intro u65 hG
            refine Exists.elim hG ?_; clear hG; intro u66 hG
            refine Exists.elim hG ?_; clear hG; intro u67 hG
            refine And.elim ?_ hG; clear hG; intro ha hG
            refine And.elim ?_ hG; clear hG; intro hbx hG
            refine And.elim ?_ hG; clear hG; intro f0 hG
            refine And.elim ?_ hG; clear hG; intro f1 hG
            refine And.elim ?_ hG; clear hG; intro f2 hG
            refine And.elim ?_ hG; clear hG; intro f3 hG
            refine And.elim ?_ hG; clear hG; intro f4 hG
            refine And.elim ?_ hG; clear hG; intro f5 hG
            refine And.elim ?_ hG; clear hG; intro f6 hG
            refine And.elim ?_ hG; clear hG; intro f7 hG
            refine And.elim ?_ hG; clear hG; intro f8 hG
            refine And.elim ?_ hG; clear hG; intro f9 hG
            refine And.elim ?_ hG; clear hG; intro f10 hG
            refine And.elim ?_ hG; clear hG; intro f11 hG
            refine And.elim ?_ hG; clear hG; intro f12 hG
            refine And.elim ?_ hG; clear hG; intro f13 hG
            refine And.elim ?_ hG; clear hG; intro f14 hG
            refine And.elim ?_ hG; clear hG; intro f15 hG
            refine And.elim ?_ hG; clear hG; intro f16 hG
            refine And.elim ?_ hG; clear hG; intro f17 hG
            refine And.elim ?_ hG; clear hG; intro f18 hG
            refine And.elim ?_ hG; clear hG; intro f19 hG
            refine And.elim ?_ hG; clear hG; intro f20 hG
            have f21 := hG; clear hG
            subst ha
            obtain rfl := f14 (hd ⟨14, .data⟩ (by simp) rfl)
            obtain rfl := f15 (hd ⟨15, .data⟩ (by simp) rfl)
            clear hd
            go_simp
            go_wp2
            exact ⟨_, _, _, _, _, _, _, _, _, _, _, _, _, _, _, _, _, _, _, _, _, _, rfl, hbx, f0, f1, f2, f3, f4, f5, f6, f7, f8, f9, f10, f11, f12, f13, fun _ => rfl, fun _ => rfl, fun _ => rfl, f17, f18, f19, f20, f21⟩
          · intro L a' wx _ hd hG K hK
            refine Exists.elim hG ?_; clear hG; intro u6 hG
            refine Exists.elim hG ?_; clear hG; intro u47 hG
            refine Exists.elim hG ?_; clear hG; intro u48 hG
            refine Exists.elim hG ?_; clear hG; intro u49 hG
            refine Exists.elim hG ?_; clear hG; intro u50 hG
            refine Exists.elim hG ?_; clear hG; intro u51 hG
            refine Exists.elim hG ?_; clear hG; intro u52 hG
            refine Exists.elim hG ?_; clear hG; intro u53 hG
            refine Exists.elim hG ?_; clear hG; intro u54 hG
            refine Exists.elim hG ?_; clear hG; intro u55 hG
            refine Exists.elim hG ?_; clear hG; intro u56 hG
            refine Exists.elim hG ?_; clear hG; intro u57 hG
            refine Exists.elim hG ?_; clear hG; intro u58 hG
            refine Exists.elim hG ?_; clear hG; intro u59 hG
            refine Exists.elim hG ?_; clear hG; intro u60 hG
            refine Exists.elim hG ?_; clear hG; intro u61 hG
            refine Exists.elim hG ?_; clear hG; intro u62 hG
            refine Exists.elim hG ?_; clear hG; intro u63 hG
            refine Exists.elim hG ?_; clear hG; intro u64 hG
            refine Exists.elim hG ?_; clear hG; intro u65 hG
            refine Exists.elim hG ?_; clear hG; intro u66 hG
            refine Exists.elim hG ?_; clear hG; intro u67 hG
            refine And.elim ?_ hG; clear hG; intro ha hG
            refine And.elim ?_ hG; clear hG; intro hbx hG
            refine And.elim ?_ hG; clear hG; intro f0 hG
            refine And.elim ?_ hG; clear hG; intro f1 hG
            refine And.elim ?_ hG; clear hG; intro f2 hG
            refine And.elim ?_ hG; clear hG; intro f3 hG
            refine And.elim ?_ hG; clear hG; intro f4 hG
            refine And.elim ?_ hG; clear hG; intro f5 hG
            refine And.elim ?_ hG; clear hG; intro f6 hG
            refine And.elim ?_ hG; clear hG; intro f7 hG
            refine And.elim ?_ hG; clear hG; intro f8 hG
            refine And.elim ?_ hG; clear hG; intro f9 hG
            refine And.elim ?_ hG; clear hG; intro f10 hG
            refine And.elim ?_ hG; clear hG; intro f11 hG
            refine And.elim ?_ hG; clear hG; intro f12 hG
            refine And.elim ?_ hG; clear hG; intro f13 hG
            refine And.elim ?_ hG; clear hG; intro f14 hG
            refine And.elim ?_ hG; clear hG; intro f15 hG
            refine And.elim ?_ hG; clear hG; intro f16 hG
            refine And.elim ?_ hG; clear hG; intro f17 hG
            refine And.elim ?_ hG; clear hG; intro f18 hG
            refine And.elim ?_ hG; clear hG; intro f19 hG
            refine And.elim ?_ hG; clear hG; intro f20 hG
            have f21 := hG; clear hG
            subst ha
            obtain rfl := f16 (hd ⟨16, .data⟩ (by simp) rfl)
            clear hd
            go_simp
            go_wp2
            have hk : ∀ o, Below wx.heap.size wx (wx.alloc o) := fun o => (Below.refl _ _).alloc (Nat.le_refl _) o
            exact ⟨_, _, _, _, _, _, _, _, _, _, _, _, _, _, _, _, _, _, _, _, _, _, rfl, hbx.alloc hbx.size _, f0, fun h => (f1 h).keep (hk _), f2, f3, f4, f5, fun h => (f6 h).keep (hk _), f7, f8, f9, f10, fun h => (f11 h).keep (hk _), f12, f13, f14, f15, fun _ => rfl, fun _ => One.new _ _ _, f18, f19, f20, f21⟩
          · intro L a' wx _ hd hG K hK
            refine Exists.elim hG ?_; clear hG; intro u6 hG
            refine Exists.elim hG ?_; clear hG; intro u47 hG
            refine Exists.elim hG ?_; clear hG; intro u48 hG
            refine Exists.elim hG ?_; clear hG; intro u49 hG
            refine Exists.elim hG ?_; clear hG; intro u50 hG
            refine Exists.elim hG ?_; clear hG; intro u51 hG
            refine Exists.elim hG ?_; clear hG; intro u52 hG
            refine Exists.elim hG ?_; clear hG; intro u53 hG
            refine Exists.elim hG ?_; clear hG; intro u54 hG
            refine Exists.elim hG ?_; clear hG; intro u55 hG
            refine Exists.elim hG ?_; clear hG; intro u56 hG
            refine Exists.elim hG ?_; clear hG; intro u57 hG
            refine Exists.elim hG ?_; clear hG; intro u58 hG
            refine Exists.elim hG ?_; clear hG; intro u59 hG
            refine Exists.elim hG ?_; clear hG; intro u60 hG
            refine Exists.elim hG ?_; clear hG; intro u61 hG
            refine Exists.elim hG ?_; clear hG; intro u62 hG
            refine Exists.elim hG ?_; clear hG; intro u63 hG
            refine Exists.elim hG ?_; clear hG; intro u64 hG
            refine Exists.elim hG ?_; clear hG; intro u65 hG
            refine Exists.elim hG ?_; clear hG; intro u66 hG
            refine Exists.elim hG ?_; clear hG; intro u67 hG
            refine And.elim ?_ hG; clear hG; intro ha hG
            refine And.elim ?_ hG; clear hG; intro hbx hG
            refine And.elim ?_ hG; clear hG; intro f0 hG
            refine And.elim ?_ hG; clear hG; intro f1 hG
            refine And.elim ?_ hG; clear hG; intro f2 hG
            refine And.elim ?_ hG; clear hG; intro f3 hG
            refine And.elim ?_ hG; clear hG; intro f4 hG
            refine And.elim ?_ hG; clear hG; intro f5 hG
            refine And.elim ?_ hG; clear hG; intro f6 hG
            refine And.elim ?_ hG; clear hG; intro f7 hG
            refine And.elim ?_ hG; clear hG; intro f8 hG
            refine And.elim ?_ hG; clear hG; intro f9 hG
            refine And.elim ?_ hG; clear hG; intro f10 hG
            refine And.elim ?_ hG; clear hG; intro f11 hG
            refine And.elim ?_ hG; clear hG; intro f12 hG
            refine And.elim ?_ hG; clear hG; intro f13 hG
            refine And.elim ?_ hG; clear hG; intro f14 hG
            refine And.elim ?_ hG; clear hG; intro f15 hG
            refine And.elim ?_ hG; clear hG; intro f16 hG
            refine And.elim ?_ hG; clear hG; intro f17 hG
            refine And.elim ?_ hG; clear hG; intro f18 hG
            refine And.elim ?_ hG; clear hG; intro f19 hG
            refine And.elim ?_ hG; clear hG; intro f20 hG
            have f21 := hG; clear hG
            subst ha
            obtain ⟨g, rfl, hg, hc⟩ := f17 (hd ⟨17, .data⟩ (by simp) rfl)
            clear hd
            go_simp
            refine (sum_one _ ⟨C, ccp, c⟩ _ (HOc.out.keep hbx) (by unfold Part.val; dsimp only; rw [ec.out]; exact hc)).mono ?_
            rintro e w' ⟨rfl, rfl⟩
            go_wp2
            exact ⟨_, _, _, _, _, _, _, _, _, _, _, _, _, _, _, _, _, _, _, _, _, _, rfl, hbx, f0, f1, f2, f3, f4, f5, f6, f7, f8, f9, f10, f11, f12, f13, f14, f15, f16, fun _ => ⟨g, rfl, hg, hc⟩, fun _ => rfl, f19, f20, f21⟩
          · intro L a' wx _ hd hG K hK
            refine Exists.elim hG ?_; clear hG; intro u6 hG
            refine Exists.elim hG ?_; clear hG; intro u47 hG
            refine Exists.elim hG ?_; clear hG; intro u48 hG
            refine Exists.elim hG ?_; clear hG; intro u49 hG
            refine Exists.elim hG ?_; clear hG; intro u50 hG
            refine Exists.elim hG ?_; clear hG; intro u51 hG
            refine Exists.elim hG ?_; clear hG; intro u52 hG
            refine Exists.elim hG ?_; clear hG; intro u53 hG
            refine Exists.elim hG ?_; clear hG; intro u54 hG
            refine Exists.elim hG ?_; clear hG; intro u55 hG
            refine Exists.elim hG ?_; clear hG; intro u56 hG
            refine Exists.elim hG ?_; clear hG; intro u57 hG
            refine Exists.elim hG ?_; clear hG; intro u58 hG
            refine Exists.elim hG ?_; clear hG; intro u59 hG
            refine Exists.elim hG ?_; clear hG; intro u60 hG
            refine Exists.elim hG ?_; clear hG; intro u61 hG
            refine Exists.elim hG ?_; clear hG; intro u62 hG
            refine Exists.elim hG ?_; clear hG; intro u63 hG
            refine Exists.elim hG ?_; clear hG; intro u64 hG
            refine Exists.elim hG ?_; clear hG; intro u65 hG
            refine Exists.elim hG ?_; clear hG; intro u66 hG
            refine Exists.elim hG ?_; clear hG; intro u67 hG
            refine And.elim ?_ hG; clear hG; intro ha hG
            refine And.elim ?_ hG; clear hG; intro hbx hG
            refine And.elim ?_ hG; clear hG; intro f0 hG
            refine And.elim ?_ hG; clear hG; intro f1 hG
            refine And.elim ?_ hG; clear hG; intro f2 hG
            refine And.elim ?_ hG; clear hG; intro f3 hG
            refine And.elim ?_ hG; clear hG; intro f4 hG
            refine And.elim ?_ hG; clear hG; intro f5 hG
            refine And.elim ?_ hG; clear hG; intro f6 hG
            refine And.elim ?_ hG; clear hG; intro f7 hG
            refine And.elim ?_ hG; clear hG; intro f8 hG
            refine And.elim ?_ hG; clear hG; intro f9 hG
            refine And.elim ?_ hG; clear hG; intro f10 hG
            refine And.elim ?_ hG; clear hG; intro f11 hG
            refine And.elim ?_ hG; clear hG; intro f12 hG
            refine And.elim ?_ hG; clear hG; intro f13 hG
            refine And.elim ?_ hG; clear hG; intro f14 hG
            refine And.elim ?_ hG; clear hG; intro f15 hG
            refine And.elim ?_ hG; clear hG; intro f16 hG
            refine And.elim ?_ hG; clear hG; intro f17 hG
            refine And.elim ?_ hG; clear hG; intro f18 hG
            refine And.elim ?_ hG; clear hG; intro f19 hG
            refine And.elim ?_ hG; clear hG; intro f20 hG
            have f21 := hG; clear hG
            subst ha
            obtain rfl := f13 (hd ⟨13, .data⟩ (by simp) rfl)
            obtain rfl := f18 (hd ⟨18, .data⟩ (by simp) rfl)
            have hxab := u32_xor_nat (Plain.crc a ^^^ Plain.crc b) (Plain.crc c) (Nat.xor_lt_two_pow (n := 32) hka hkb) hkc
            clear hd
            go_simp
            go_wp2
            exact ⟨_, _, _, _, _, _, _, _, _, _, _, _, _, _, _, _, _, _, _, _, _, _, rfl, hbx, f0, f1, f2, f3, f4, f5, f6, f7, f8, f9, f10, f11, f12, fun _ => rfl, f14, f15, f16, f17, fun _ => rfl, fun _ => rfl, f20, f21⟩
          · intro L a' wx _ hd hG K hK
            refine Exists.elim hG ?_; clear hG; intro u6 hG
            refine Exists.elim hG ?_; clear hG; intro u47 hG
            refine Exists.elim hG ?_; clear hG; intro u48 hG
            refine Exists.elim hG ?_; clear hG; intro u49 hG
            refine Exists.elim hG ?_; clear hG; intro u50 hG
            refine Exists.elim hG ?_; clear hG; intro u51 hG
            refine Exists.elim hG ?_; clear hG; intro u52 hG
            refine Exists.elim hG ?_; clear hG; intro u53 hG
            refine Exists.elim hG ?_; clear hG; intro u54 hG
            refine Exists.elim hG ?_; clear hG; intro u55 hG
            refine Exists.elim hG ?_; clear hG; intro u56 hG
            refine Exists.elim hG ?_; clear hG; intro u57 hG
            refine Exists.elim hG ?_; clear hG; intro u58 hG
            refine Exists.elim hG ?_; clear hG; intro u59 hG
            refine Exists.elim hG ?_; clear hG; intro u60 hG
            refine Exists.elim hG ?_; clear hG; intro u61 hG
            refine Exists.elim hG ?_; clear hG; intro u62 hG
            refine Exists.elim hG ?_; clear hG; intro u63 hG
            refine Exists.elim hG ?_; clear hG; intro u64 hG
            refine Exists.elim hG ?_; clear hG; intro u65 hG
            refine Exists.elim hG ?_; clear hG; intro u66 hG
            refine Exists.elim hG ?_; clear hG; intro u67 hG
            refine And.elim ?_ hG; clear hG; intro ha hG
            refine And.elim ?_ hG; clear hG; intro hbx hG
            refine And.elim ?_ hG; clear hG; intro f0 hG
            refine And.elim ?_ hG; clear hG; intro f1 hG
            refine And.elim ?_ hG; clear hG; intro f2 hG
            refine And.elim ?_ hG; clear hG; intro f3 hG
            refine And.elim ?_ hG; clear hG; intro f4 hG
            refine And.elim ?_ hG; clear hG; intro f5 hG
            refine And.elim ?_ hG; clear hG; intro f6 hG
            refine And.elim ?_ hG; clear hG; intro f7 hG
            refine And.elim ?_ hG; clear hG; intro f8 hG
            refine And.elim ?_ hG; clear hG; intro f9 hG
            refine And.elim ?_ hG; clear hG; intro f10 hG
            refine And.elim ?_ hG; clear hG; intro f11 hG
            refine And.elim ?_ hG; clear hG; intro f12 hG
            refine And.elim ?_ hG; clear hG; intro f13 hG
            refine And.elim ?_ hG; clear hG; intro f14 hG
            refine And.elim ?_ hG; clear hG; intro f15 hG
            refine And.elim ?_ hG; clear hG; intro f16 hG
            refine And.elim ?_ hG; clear hG; intro f17 hG
            refine And.elim ?_ hG; clear hG; intro f18 hG
            refine And.elim ?_ hG; clear hG; intro f19 hG
            refine And.elim ?_ hG; clear hG; intro f20 hG
            have f21 := hG; clear hG
            subst ha
            obtain rfl := f2 (hd ⟨2, .data⟩ (by simp) rfl)
            obtain rfl := f19 (hd ⟨19, .data⟩ (by simp) rfl)
            clear hd
            go_simp
            go_wp2
            exact ⟨_, _, _, _, _, _, _, _, _, _, _, _, _, _, _, _, _, _, _, _, _, _, rfl, hbx, f0, f1, fun _ => rfl, f3, f4, f5, f6, f7, f8, f9, f10, f11, f12, f13, f14, f15, f16, f17, f18, fun _ => rfl, fun _ => rfl, f21⟩
          · intro L a' wx _ hd hG K hK
            refine Exists.elim hG ?_; clear hG; intro u6 hG
            refine Exists.elim hG ?_; clear hG; intro u47 hG
            refine Exists.elim hG ?_; clear hG; intro u48 hG
            refine Exists.elim hG ?_; clear hG; intro u49 hG
            refine Exists.elim hG ?_; clear hG; intro u50 hG
            refine Exists.elim hG ?_; clear hG; intro u51 hG
            refine Exists.elim hG ?_; clear hG; intro u52 hG
            refine Exists.elim hG ?_; clear hG; intro u53 hG
            refine Exists.elim hG ?_; clear hG; intro u54 hG
            refine Exists.elim hG ?_; clear hG; intro u55 hG
            refine Exists.elim hG ?_; clear hG; intro u56 hG
            refine Exists.elim hG ?_; clear hG; intro u57 hG
            refine Exists.elim hG ?_; clear hG; intro u58 hG
            refine Exists.elim hG ?_; clear hG; intro u59 hG
            refine Exists.elim hG ?_; clear hG; intro u60 hG
            refine Exists.elim hG ?_; clear hG; intro u61 hG
            refine Exists.elim hG ?_; clear hG; intro u62 hG
            refine Exists.elim hG ?_; clear hG; intro u63 hG
            refine Exists.elim hG ?_; clear hG; intro u64 hG
            refine Exists.elim hG ?_; clear hG; intro u65 hG
            refine Exists.elim hG ?_; clear hG; intro u66 hG
            refine Exists.elim hG ?_; clear hG; intro u67 hG
            refine And.elim ?_ hG; clear hG; intro ha hG
            refine And.elim ?_ hG; clear hG; intro hbx hG
            refine And.elim ?_ hG; clear hG; intro f0 hG
            refine And.elim ?_ hG; clear hG; intro f1 hG
            refine And.elim ?_ hG; clear hG; intro f2 hG
            refine And.elim ?_ hG; clear hG; intro f3 hG
            refine And.elim ?_ hG; clear hG; intro f4 hG
            refine And.elim ?_ hG; clear hG; intro f5 hG
            refine And.elim ?_ hG; clear hG; intro f6 hG
            refine And.elim ?_ hG; clear hG; intro f7 hG
            refine And.elim ?_ hG; clear hG; intro f8 hG
            refine And.elim ?_ hG; clear hG; intro f9 hG
            refine And.elim ?_ hG; clear hG; intro f10 hG
            refine And.elim ?_ hG; clear hG; intro f11 hG
            refine And.elim ?_ hG; clear hG; intro f12 hG
            refine And.elim ?_ hG; clear hG; intro f13 hG
            refine And.elim ?_ hG; clear hG; intro f14 hG
            refine And.elim ?_ hG; clear hG; intro f15 hG
            refine And.elim ?_ hG; clear hG; intro f16 hG
            refine And.elim ?_ hG; clear hG; intro f17 hG
            refine And.elim ?_ hG; clear hG; intro f18 hG
            refine And.elim ?_ hG; clear hG; intro f19 hG
            refine And.elim ?_ hG; clear hG; intro f20 hG
            have f21 := hG; clear hG
            subst ha
            obtain rfl := f20 (hd ⟨20, .data⟩ (by simp) rfl)
            clear hd
            go_simp
            go_wp2
            exact ⟨_, _, _, _, _, _, _, _, _, _, _, _, _, _, _, _, _, _, _, _, _, _, rfl, hbx, f0, f1, f2, f3, f4, f5, f6, f7, f8, f9, f10, f11, f12, f13, f14, f15, f16, f17, f18, f19, fun _ => rfl, fun _ => rfl⟩
        · intro L a' wx hL hG
          obtain ⟨u6, u47, u48, u49, u50, u51, u52, u53, u54, u55, u56, u57, u58, u59, u60, u61, u62, u63, u64, u65, u66, u67, rfl, hbx, f0, f1, f2, f3, f4, f5, f6, f7, f8, f9, f10, f11, f12, f13, f14, f15, f16, f17, f18, f19, f20, f21⟩ := hG
          have e6 := f21 (hL 21 (by simp))
          subst e6
          clear hL f0 f1 f2 f3 f4 f5 f6 f7 f8 f9 f10 f11 f12 f13 f14 f15 f16 f17 f18 f19 f20 f21
          go_wp2
          go_ret
          exact ⟨rfl, HBR.out.trans (hbx.mono HBR.out.size)⟩
theorem crcThree.walk (w : World) (A : Option Addr) (n c : Nat) (z : List Int) (h : z.length = n ∧ n ≤ c ∧ c ≤ maxLen ∧ (∀ x ∈ z, (Lit.int .u8 x).wf = true) ∧ Sl w A (z.map (.int .u8)))
    (B : Option Addr) (m d : Nat) (y : List Int) (h1 : y.length = m ∧ m ≤ d ∧ d ≤ maxLen ∧ (∀ x ∈ y, (Lit.int .u8 x).wf = true) ∧ Sl w B (y.map (.int .u8)))
    (C : Option Addr) (o e : Nat) (x : List Int) (h2 : x.length = o ∧ o ≤ e ∧ e ≤ maxLen ∧ (∀ v ∈ x, (Lit.int .u8 v).wf = true) ∧ Sl w C (x.map (.int .u8))) :
    Calls Try.prog 6 #[.slice A n c, .slice B m d, .slice C o e] w fun e w' => e = .returned (.bool true) ∧ Below w.heap.size w w' := by
  obtain ⟨p, hv, hp, hpc, _⟩ := part_of_ints z h
  obtain ⟨q, hv1, hq, hqc, _⟩ := part_of_ints y h1
  obtain ⟨r, hv2, hr, hrc, _⟩ := part_of_ints x h2
  rw [← hv, ← hv1, ← hv2]
  exact crcThree p q r w hp hpc hq hqc hr hrc
end Go.Proofs.Ytphchccikphblaa
