/- The law CrcBurst's walk. No condition. -/
import Derived.Test.YtphchccikphblaaCrcParts
import Derived.Test.YtphchccikphblaaBlk
import Derived.StillTailTactics
namespace Go.Proofs.Ytphchccikphblaa
open Go.RowKit
def anyTo (x : List Nat) (k : Nat) : Bool := (x.take k).any (fun y => y != 0)
theorem anyTo_succ (x : List Nat) (k : Nat) (h : k < x.length) : anyTo x (k + 1) = (anyTo x k || x[k] != 0) := by
  unfold anyTo
  rw [List.take_succ_eq_append_getElem h, List.any_append]; simp
/-- the bytes after k of the changes -/
def bk (b x : List Nat) (at_ k : Nat) : List Nat := (List.range b.length).map fun j => if at_ ≤ j ∧ j < at_ + k then b.getD j 0 ^^^ x.getD (j - at_) 0 else b.getD j 0
theorem bk_length (b x : List Nat) (at_ k : Nat) : (bk b x at_ k).length = b.length := by unfold bk; simp
theorem bk_get (b x : List Nat) (at_ k i : Nat) (h : i < (bk b x at_ k).length) : (bk b x at_ k)[i] = if at_ ≤ i ∧ i < at_ + k then b.getD i 0 ^^^ x.getD (i - at_) 0 else b.getD i 0 := by
  simp only [bk, List.getElem_map, List.getElem_range]
theorem bk_zero (b x : List Nat) (at_ : Nat) : bk b x at_ 0 = b := by
  apply List.ext_getElem
  · rw [bk_length]
  · intro i h1 h2
    rw [bk_get, if_neg (by omega), List.getD_eq_getElem?_getD, List.getElem?_eq_getElem h2, Option.getD_some]
theorem bk_at (b x : List Nat) (at_ k : Nat) (h : at_ + k < b.length) : (bk b x at_ k)[at_ + k]'(by rw [bk_length]; exact h) = b[at_ + k] := by
  rw [bk_get, if_neg (by omega), List.getD_eq_getElem?_getD, List.getElem?_eq_getElem h, Option.getD_some]
theorem bk_succ (b x : List Nat) (at_ k : Nat) (h : at_ + k < b.length) (hk : k < x.length) : (bk b x at_ k).set (at_ + k) (b[at_ + k] ^^^ x[k]) = bk b x at_ (k + 1) := by
  apply List.ext_getElem
  · simp [bk_length]
  · intro i h1 h2
    rw [List.getElem_set]
    rw [bk_length] at h2
    by_cases hi : at_ + k = i
    · subst hi
      rw [if_pos rfl]
      rw [bk_get, if_pos (by omega), List.getD_eq_getElem?_getD, List.getElem?_eq_getElem h, Option.getD_some, List.getD_eq_getElem?_getD, show at_ + k - at_ = k by omega, List.getElem?_eq_getElem hk, Option.getD_some]
    · rw [if_neg hi]
      rw [bk_get, bk_get]
      by_cases hc : at_ ≤ i ∧ i < at_ + k
      · rw [if_pos hc, if_pos (by omega)]
      · rw [if_neg hc, if_neg (by omega)]
theorem bk_end (b x : List Nat) (at_ : Nat) (h : at_ + x.length ≤ b.length) : bk b x at_ x.length = List.zipWith (· ^^^ ·) b (List.replicate at_ 0 ++ x ++ List.replicate (b.length - at_ - x.length) 0) := by
  apply List.ext_getElem
  · simp [bk_length]; omega
  · intro i h1 h2
    rw [bk_length] at h1
    rw [bk_get, List.getElem_zipWith]
    by_cases hc : at_ ≤ i ∧ i < at_ + x.length
    · rw [if_pos hc, List.getElem_append_left (by simp; omega), List.getElem_append_right (by simp; omega)]
      simp only [List.length_replicate]
      rw [List.getD_eq_getElem?_getD, List.getElem?_eq_getElem h1, Option.getD_some, List.getD_eq_getElem?_getD, List.getElem?_eq_getElem (by omega), Option.getD_some]
    · rw [if_neg hc, List.getD_eq_getElem?_getD, List.getElem?_eq_getElem h1, Option.getD_some]
      have e : (List.replicate at_ 0 ++ x ++ List.replicate (b.length - at_ - x.length) 0)[i]'(by simp; omega) = 0 := by
        by_cases hl : i < at_
        · rw [List.getElem_append_left (by simp; omega), List.getElem_append_left (by simp; omega), List.getElem_replicate]
        · rw [List.getElem_append_right (by simp; omega), List.getElem_replicate]
      rw [e, Nat.xor_zero]
theorem bk_lt (b x : List Nat) (at_ k : Nat) (hb : ∀ c ∈ b, c < 256) (hx : ∀ c ∈ x, c < 256) : ∀ c ∈ bk b x at_ k, c < 256 := by
  intro c hc
  unfold bk at hc
  obtain ⟨j, _, rfl⟩ := List.mem_map.1 hc
  have h1 : b.getD j 0 < 256 := by
    rw [List.getD_eq_getElem?_getD]
    cases h : b[j]? with
    | none => decide
    | some v => exact hb v (List.mem_of_getElem? h)
  have h2 : x.getD (j - at_) 0 < 256 := by
    rw [List.getD_eq_getElem?_getD]
    cases h : x[j - at_]? with
    | none => decide
    | some v => exact hx v (List.mem_of_getElem? h)
  split
  · exact Nat.xor_lt_two_pow (n := 8) h1 h2
  · exact h1
theorem burst (b x : List Nat) (at_ : Nat) (hb : ∀ c ∈ b, c < 256) (hx : ∀ c ∈ x, c < 256) (h4 : x.length ≤ 4) (hs : anyTo x x.length = true) (h : at_ + x.length ≤ b.length) : Plain.crc b ≠ Plain.crc (bk b x at_ x.length) := by
  rw [bk_end b x at_ h]
  refine Plain.crc_burst b x at_ (b.length - at_ - x.length) hb hx h4 ?_ (by omega)
  unfold anyTo at hs
  rw [List.take_of_length_le (Nat.le_refl _), List.any_eq_true] at hs
  obtain ⟨y, hy, hn⟩ := hs
  exact ⟨y, hy, by simpa using hn⟩
/-- a store into a row's head -/
theorem take_set (cur : Array Value) (n i : Nat) (l : List Nat) (v : Nat) (h : cur.toList.take n = bv l) (_hn : n ≤ cur.size) : (cur.setIfInBounds i (.int .u8 (v : Int))).toList.take n = bv (l.set i v) := by
  rw [Array.toList_setIfInBounds, List.take_set, h]
  unfold bv
  rw [List.map_set]
set_option maxHeartbeats 4000000 in
theorem crcBurst (p q : Part) (at0 : Int) (w : World) (hat : -9223372036854775808 ≤ at0 ∧ at0 ≤ 9223372036854775807) (hp : p.ok w) (hpc : p.l.length ≤ p.cap) (hq : q.ok w) (hqc : q.l.length ≤ q.cap) :
    Calls Try.prog 5 #[p.val, .int .i64 at0, q.val] w fun e w' => e = .returned (.bool true) ∧ Below w.heap.size w w' := by
  obtain ⟨j0, hj, hy0, hy1, hy2⟩ := info_parts info5
  go_enter Try.func5, Try.ntmps5
  go_wp2_with fail
  refine (begun3 _).mono ?_
  rintro e w1 ⟨rfl, hbw⟩
  go_wp2_with fail
  refine (short_any p 200 (by decide) _ hp.2.1 hpc).mono ?_
  rintro e w' ⟨rfl, rfl⟩
  go_wp2_with fail
  refine (short_any q 4 (by decide) _ hq.2.1 hqc).mono ?_
  rintro e w' ⟨rfl, rfl⟩
  have hp2 := (hp.cut 200).keep hbw
  have hq2 := (hq.cut 4).keep hbw
  have hb200 : (p.cut 200).l.length ≤ 200 := by unfold Part.cut; rw [List.length_take]; omega
  have hx4 : (q.cut 4).l.length ≤ 4 := by unfold Part.cut; rw [List.length_take]; omega
  generalize p.cut 200 = p' at hp2 hb200
  generalize q.cut 4 = q' at hq2 hx4
  obtain ⟨A, cap, b⟩ := p'
  obtain ⟨B, xc, x⟩ := q'
  obtain ⟨hsb, _, hb256⟩ := hp2
  obtain ⟨hsx, _, hx256⟩ := hq2
  simp only [Part.val]
  dsimp only at hsb hb256 hsx hx256 hb200 hx4
  clear hp hq hpc hqc
  go_wp2
  go_loop [8, 9] (fun s i => ∃ k : Nat, k ≤ x.length ∧ i = .int .i64 k ∧ s = .bool (anyTo x k)) (fun _ i => x.length - (intOf i).toNat)
  case atStart => exact ⟨0, Nat.zero_le _, rfl, rfl⟩
  case round =>
    obtain ⟨k, hk, rfl, rfl⟩ := hrel
    by_cases hlt : k < x.length
    · obtain ⟨gb, gof, rfl, hc⟩ := hsx.at_ k (by rw [bv_length]; exact hlt)
      unfold bv at hc
      rw [List.getElem_map] at hc
      have HS := Lib.hid (anyTo_succ x k hlt)
      generalize x[k] = y at hc HS
      cases hb : anyTo x k with
      | true =>
        have HE : Hid (anyTo x (k + 1) = true) := Lib.hid (by rw [HS.out, hb]; rfl)
        clear HS hb
        go_wp2
        exact ⟨⟨k + 1, by omega, by go_num, by rw [HE.out]⟩, by simp [intOf]; omega⟩
      | false =>
        by_cases hy : y = 0
        · subst hy
          have HE : Hid (anyTo x (k + 1) = false) := Lib.hid (by rw [HS.out, hb]; rfl)
          clear HS hb
          go_wp2
          exact ⟨⟨k + 1, by omega, by go_num, by rw [HE.out]⟩, by simp [intOf]; omega⟩
        · have HE : Hid (anyTo x (k + 1) = true) := Lib.hid (by rw [HS.out, hb]; simp [hy])
          have hy1' : ((y : Int) == 0) = false := by rw [beq_eq_false_iff_ne]; omega
          have hy2' : ((y : Int) != 0) = true := by rw [bne_iff_ne]; omega
          clear HS hb hy
          go_wp2
          exact ⟨⟨k + 1, by omega, by go_num, by rw [HE.out]⟩, by simp [intOf]; omega⟩
    · have hlt' : ¬ (k : Int) < (x.length : Int) := by omega
      obtain rfl : k = x.length := by omega
      by_cases hg : 0 ≤ at0 ∧ at0 ≤ (b.length : Int) - (x.length : Int)
      · obtain ⟨hg1, hg2⟩ := hg
        cases hb : anyTo x x.length with
        | false =>
          go_wp2
          all_goals (go_ret; exact ⟨rfl, hbw⟩)
        | true =>
          obtain ⟨at_, rfl⟩ := Int.eq_ofNat_of_zero_le hg1
          have hne : ¬ (at_ : Int) < 0 := by omega
          have hng : ¬ (b.length : Int) - (x.length : Int) < (at_ : Int) := by omega
          have HANY := Lib.hid hb
          clear hb
          have hx0 : 0 < x.length := by
            rcases Nat.eq_zero_or_pos x.length with h0 | h0
            · have := HANY.out
              rw [List.eq_nil_of_length_eq_zero h0] at this
              simp [anyTo] at this
            · exact h0
          have hfit : at_ + x.length ≤ b.length := by omega
          clear hg2
          go_wp2_with (at_builtin; refine wpList_append_sl _ rfl (.const (.slice none 0 0)) (.tmp 48) 25 rfl w1.heap.size 5 j0 _ 1 Try.underlying25 hj hy0 hy1 hy2 rfl _ _ _ rfl (World.ownsRow_nil w1 w1.heap.size 5 1) A b.length cap (bv b) rfl (bv_length _) hsb (bv_one _) ?d3 ?d4 ?d5 ?_)
          case d3 => unfold maxLen; omega
          case d4 => omega
          intro v' w2 hown hgr
          have hb2 : Below w1.heap.size w1 w2 := (Below.refl _ _).grown hgr (Nat.le_refl _) (fun g hg' => by simp [Value.ownBlock] at hg')
          obtain ⟨hl0, hrow⟩ := hown
          rcases hrow with ⟨_, h0⟩ | ⟨g, cap', cur, rfl, hg, hblk, hnc, hmax, hcs, htk⟩
          · omega
          rw [Nat.mul_one] at hcs htk
          have HB2 := Lib.hid hb2
          have HBW := Lib.hid hbw
          have hwz := hbw.size
          have HBL : Hid (Blk w2 g 5 cur) := hblk
          have HTK := Lib.hid htk
          have HSB := Lib.hid hsb
          have HSX := Lib.hid hsx
          have HCS := Lib.hid hcs
          unfold maxLen at hmax
          have hcap0 : Hid (b.length ≤ cap') := hnc
          clear hgr hb2 hblk htk hl0 hsb hsx hbw hcs
          go_wp2_with fail
          go_loopw [11] (fun i wr => ∃ (k : Nat) (cur : Array Value), k ≤ x.length ∧ i = .int .i64 k ∧ Blk wr g 5 cur ∧ b.length ≤ cur.size ∧ cur.toList.take b.length = bv (bk b x at_ k) ∧ Below w1.heap.size w1 wr) (fun i _ => x.length - (intOf i).toNat)
          case atStart => exact ⟨0, cur, Nat.zero_le _, rfl, HBL.out, by rw [HCS.out]; exact hnc, by rw [bk_zero]; exact HTK.out, HB2.out⟩
          case round =>
            obtain ⟨k, cur, hk, rfl, hblk, hsz, htk, hbr⟩ := hrel
            have HBLK := Lib.hid hblk
            have HTK2 := Lib.hid htk
            have HBR := Lib.hid hbr
            clear hblk htk hbr
            by_cases hlt : k < x.length
            · have hlt' : (k : Int) < (x.length : Int) := by omega
              have hi : at_ + k < b.length := by omega
              obtain ⟨gx, ox, rfl, cX⟩ := (HSX.out.keep HBR.out).at_ k (by rw [bv_length]; exact hlt)
              unfold bv at cX
              rw [List.getElem_map] at cX
              have hy := hx256 _ (List.getElem_mem hlt)
              have hz := hb256 _ (List.getElem_mem hi)
              have HS := Lib.hid (bk_succ b x at_ k hi hlt)
              have cD : wr.cell? ⟨g, at_ + k, none⟩ = some (.int .u8 ((b[at_ + k] : Nat) : Int)) := by
                rw [HBLK.out.cell]
                have h1 : (cur.toList.take b.length)[at_ + k]? = some (.int .u8 ((b[at_ + k] : Nat) : Int)) := by
                  rw [HTK2.out]
                  unfold bv
                  rw [List.getElem?_map, List.getElem?_eq_getElem (by rw [bk_length]; exact hi), bk_at b x at_ k hi]; rfl
                rw [List.getElem?_take_of_lt hi, Array.getElem?_toList] at h1
                exact h1
              have fD := HBLK.out.frozen (at_ + k)
              have HT := Lib.hid (take_set cur b.length (at_ + k) (bk b x at_ k) (b[at_ + k] ^^^ x[k]) HTK2.out hsz)
              rw [HS.out] at HT
              clear HS
              generalize x[k] = y at cX hy HT
              generalize b[at_ + k] = z at cD hz HT
              have hx1 := u8_xor_nat z y hz hy
              have hsum : (at_ : Int) + (k : Int) < (b.length : Int) := by omega
              have hsum0 : (0 : Int) ≤ (at_ : Int) + (k : Int) := by omega
              have hsumw : IntKind.i64.wrap ((at_ : Int) + (k : Int)) = (at_ : Int) + (k : Int) := IntWalk.i64_in _ (by omega)
              have hsumn : ((at_ : Int) + (k : Int)).toNat = at_ + k := by omega
              go_wp2_with fail
              go_still_tail 12, (by kernel_rfl)
              clear hsumw hsumn
              go_wp2
              exact ⟨⟨k + 1, _, by omega, by go_num, (HBLK.out.set_ (at_ + k) _).drew, by rw [Array.size_setIfInBounds]; exact hsz, HT.out, (HBR.out.setCell (p := ⟨g, at_ + k, none⟩) hg _).drew⟩, by simp [intOf]; omega⟩
            · have hlt' : ¬ (k : Int) < (x.length : Int) := by omega
              obtain rfl : k = x.length := by omega
              have HBU := Lib.hid (burst b x at_ hb256 hx256 hx4 HANY.out hfit)
              have HOB : Hid (Part.ok wr ⟨A, cap, b⟩) := Lib.hid ⟨HSB.out.keep HBR.out, by dsimp only; omega, hb256⟩
              have hbl := bk_length b x at_ x.length
              have HLL := Lib.hid hbl
              clear hbl
              have hslc : Sl wr (some ⟨g, 0, none⟩) (bv (bk b x at_ x.length)) := by
                intro _
                refine ⟨g, 0, rfl, fun j u hu => ?_⟩
                have hj : (cur.toList.take b.length)[j]? = some u := by rw [HTK2.out]; exact hu
                rw [List.getElem?_take] at hj
                split at hj
                · rw [Nat.zero_add, HBLK.out.cell j, ← Array.getElem?_toList]; exact hj
                · cases hj
              have HOC : Hid (Part.ok wr ⟨some ⟨g, 0, none⟩, cap', bk b x at_ x.length⟩) := Lib.hid ⟨hslc, by dsimp only; rw [HLL.out]; omega, bk_lt b x at_ _ hb256 hx256⟩
              clear hslc
              have hv : Part.val ⟨some ⟨g, 0, none⟩, cap', bk b x at_ x.length⟩ = .slice (some ⟨g, 0, none⟩) b.length cap' := by unfold Part.val; dsimp only; rw [HLL.out]
              have HV := Lib.hid hv
              have hwb := HBR.out.size
              clear hv hb256 hx256
              go_wp2_with fail
              refine (sum_any _ 1 1 [⟨A, cap, b⟩] _ (Sl.one_new _ _ _) rfl (by decide) (fun p hp => by
                rw [List.mem_singleton] at hp
                subst hp
                exact HOB.out.keep ((Below.refl _ _).alloc (Nat.le_refl _) _))).mono ?_
              rintro e w' ⟨rfl, rfl⟩
              go_wp2_with fail
              refine (sum_any _ 1 1 [⟨some ⟨g, 0, none⟩, cap', bk b x at_ x.length⟩] _ ?hs rfl (by decide) (fun p hp => by
                rw [List.mem_singleton] at hp
                subst hp
                exact HOC.out.keep (((Below.refl _ _).alloc (Nat.le_refl _) _).alloc (by simp) _))).mono ?_
              case hs =>
                rw [List.map_cons, List.map_nil, HV.out]
                have h := Sl.one_new (wr.alloc (.cells #[.slice A b.length cap] 25)) (.slice (some ⟨g, 0, none⟩) b.length cap') 25
                rw [World.size_alloc] at h
                exact h
              rintro e w' ⟨rfl, rfl⟩
              have e1 : Plain.crc (([⟨A, cap, b⟩] : List Part).flatMap Part.l) = Plain.crc b := by simp
              have e2 : Plain.crc (([⟨some ⟨g, 0, none⟩, cap', bk b x at_ x.length⟩] : List Part).flatMap Part.l) = Plain.crc (bk b x at_ x.length) := by simp
              try rw [e1]
              rw [e2]
              have hne2 : ((Plain.crc b : Int) != (Plain.crc (bk b x at_ x.length) : Int)) = true := by
                rw [bne_iff_ne]
                have := HBU.out
                omega
              clear e1 e2
              go_wp2
              go_ret
              exact ⟨rfl, HBW.out.trans (((HBR.out.alloc hwb _).alloc (by simp; omega) _).mono hwz)⟩
      · by_cases h1 : at0 < 0
        · go_wp2
          all_goals (go_ret; exact ⟨rfl, hbw⟩)
        · have h2 : (b.length : Int) - (x.length : Int) < at0 := by omega
          clear hg
          go_wp2
          all_goals (go_ret; exact ⟨rfl, hbw⟩)
theorem crcBurst.walk (w : World) (A : Option Addr) (n c : Nat) (z : List Int) (h : z.length = n ∧ n ≤ c ∧ c ≤ maxLen ∧ (∀ v ∈ z, (Lit.int .u8 v).wf = true) ∧ Sl w A (z.map (.int .u8)))
    (a : Int) (wa : (Lit.int .i64 a).wf = true)
    (B : Option Addr) (m d : Nat) (y : List Int) (h1 : y.length = m ∧ m ≤ d ∧ d ≤ maxLen ∧ (∀ v ∈ y, (Lit.int .u8 v).wf = true) ∧ Sl w B (y.map (.int .u8))) :
    Calls Try.prog 5 #[.slice A n c, .int .i64 a, .slice B m d] w fun e w' => e = .returned (.bool true) ∧ Below w.heap.size w w' := by
  obtain ⟨p, hv, hp, hpc, _⟩ := part_of_ints z h
  obtain ⟨q, hv1, hq, hqc, _⟩ := part_of_ints y h1
  rw [← hv, ← hv1]
  exact crcBurst p q a w (bounds_i64 wa) hp hpc hq hqc
end Go.Proofs.Ytphchccikphblaa
