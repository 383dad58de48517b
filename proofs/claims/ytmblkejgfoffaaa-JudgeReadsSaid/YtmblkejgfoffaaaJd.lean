/- Calls in memory; Since walked. Conditions: lengths. -/
import Derived.Test.YtmblkejgfoffaaaLaws
namespace Go.Proofs.Ytmblkejgfoffaaa
open Go.RowKit
structure Cl where
  id : Int
  op : Int
  key : ByteArray
  node : Int
  frm : Int
  to : Int
  done : Bool
  rid : Int
  rop : Int
  rkey : ByteArray
  err : Int
  val : ByteArray
  has : Bool
def Cl.cells (c : Cl) : List Value := [.int .i64 c.id, .int .i64 c.op, .string c.key, .int .i64 c.node, .int .i64 c.frm, .int .i64 c.to, .bool c.done, .int .i64 c.rid, .int .i64 c.rop, .string c.rkey, .int .i64 c.err, .string c.val, .bool c.has]
/-- does a call end x's right? -/
def killed (c x : Cl) : Bool := (c.op == 2) && ((c.key.toList == x.key.toList) && (c.done && ((c.err == 0) && decide (c.to ≤ x.frm))))
def stepN (x : Cl) (n : Int) (c : Cl) : Int := if killed c x then max n c.frm else n
def sinceN (l : List Cl) (x : Cl) : Int := l.foldl (stepN x) 0
theorem sinceN_snoc (l : List Cl) (c x : Cl) : sinceN (l ++ [c]) x = stepN x (sinceN l x) c := by unfold sinceN; rw [List.foldl_append]; rfl
def sinceF (l : List Cl) (i : Nat) : Int := match l[i]? with
  | some x => sinceN (l.take i) x
  | none => 0
set_option maxRecDepth 100000 in
set_option maxHeartbeats 8000000 in
theorem since_in (w : World) (A : Option Addr) (n cp : Nat) (l : List Cl) (hn : l.length = n) (hm : n ≤ 1000000) (hcp : n ≤ cp) (hs : Sl w A (l.flatMap Cl.cells)) (i : Nat) (hi : i < n) :
    Calls Try.prog 23 #[.slice A n cp, .int .i64 (i : Int)] w fun e w' => e = .returned (.int .i64 (sinceF l i)) ∧ Below w.heap.size w w' := by
  subst hn
  have HSF : Hid (sinceF l i = sinceN (l.take i) l[i]) := Lib.hid (by unfold sinceF; rw [List.getElem?_eq_getElem hi])
  have HS := Lib.hid hs
  obtain ⟨b, off, rfl, hxs⟩ := hs.flat (C := 13) (fun _ => rfl) (by decide) i hi
  have x2 : w.cell? ⟨b, off + i * 13 + 2, none⟩ = some (.string l[i].key) := hxs 2 _ rfl
  have x4 : w.cell? ⟨b, off + i * 13 + 4, none⟩ = some (.int .i64 l[i].frm) := hxs 4 _ rfl
  have hbl : b < w.heap.size := World.block_lt_of_cell? w _ x2
  generalize hx : l[i] = x at *
  clear hs hxs hx
  have i1 : (0 : Int) ≤ (i : Int) := by omega
  have i2 : (i : Int) < (l.length : Int) := by omega
  have i3 : (i : Int) ≤ (cp : Int) := by omega
  go_enter Try.func23, Try.ntmps23
  go_wp2
  go_loopw [5, 20] (fun v j wr => ∃ m : Nat, m ≤ i ∧ j = .int .i64 m ∧ v = .int .i64 (sinceN (l.take m) x) ∧ Below w.heap.size w wr) (fun _ j _ => i - (intOf j).toNat)
  case atStart => exact ⟨0, Nat.zero_le _, rfl, rfl, Below.refl _ _⟩
  case round =>
    obtain ⟨m, hmi, rfl, rfl, hb⟩ := hrel
    have HB := Lib.hid hb
    have hsz := hb.size
    clear hb
    by_cases hlt : m < i
    · have hml : m < l.length := by omega
      obtain ⟨b', off', he, hcs⟩ := (HS.out.keep HB.out).flat (C := 13) (fun _ => rfl) (by decide) m hml
      cases he
      have HT : Hid (sinceN (l.take (m + 1)) x = stepN x (sinceN (l.take m) x) l[m]) := Lib.hid (by
        rw [List.take_succ_eq_append_getElem hml, sinceN_snoc])
      have y2 : wr.cell? ⟨b, off + i * 13 + 2, none⟩ = some (.string x.key) := (HB.out.cell (p := ⟨b, off + i * 13 + 2, none⟩) hbl).trans x2
      have y4 : wr.cell? ⟨b, off + i * 13 + 4, none⟩ = some (.int .i64 x.frm) := (HB.out.cell (p := ⟨b, off + i * 13 + 4, none⟩) hbl).trans x4
      have hcs' : ∀ r v, l[m].cells[r]? = some v → wr.cell? ⟨b, off + m * 13 + r, none⟩ = some v := fun r v h => by rw [Nat.add_assoc]; exact hcs r v h
      generalize l[m] = c at *
      obtain ⟨cid, cop, ckey, cnode, cfrm, cto, cdone, crid, crop, crkey, cerr, cval, chas⟩ := c
      have g0 : wr.cell? ⟨b, off + m * 13, none⟩ = some (.int .i64 cid) := hcs' 0 _ rfl
      have g1 : wr.cell? ⟨b, off + m * 13 + 1, none⟩ = some (.int .i64 cop) := hcs' 1 _ rfl
      have g2 : wr.cell? ⟨b, off + m * 13 + 2, none⟩ = some (.string ckey) := hcs' 2 _ rfl
      have g3 : wr.cell? ⟨b, off + m * 13 + 3, none⟩ = some (.int .i64 cnode) := hcs' 3 _ rfl
      have g4 : wr.cell? ⟨b, off + m * 13 + 4, none⟩ = some (.int .i64 cfrm) := hcs' 4 _ rfl
      have g5 : wr.cell? ⟨b, off + m * 13 + 5, none⟩ = some (.int .i64 cto) := hcs' 5 _ rfl
      have g6 : wr.cell? ⟨b, off + m * 13 + 6, none⟩ = some (.bool cdone) := hcs' 6 _ rfl
      have g7 : wr.cell? ⟨b, off + m * 13 + 7, none⟩ = some (.int .i64 crid) := hcs' 7 _ rfl
      have g8 : wr.cell? ⟨b, off + m * 13 + 8, none⟩ = some (.int .i64 crop) := hcs' 8 _ rfl
      have g9 : wr.cell? ⟨b, off + m * 13 + 9, none⟩ = some (.string crkey) := hcs' 9 _ rfl
      have g10 : wr.cell? ⟨b, off + m * 13 + 10, none⟩ = some (.int .i64 cerr) := hcs' 10 _ rfl
      have g11 : wr.cell? ⟨b, off + m * 13 + 11, none⟩ = some (.string cval) := hcs' 11 _ rfl
      have g12 : wr.cell? ⟨b, off + m * 13 + 12, none⟩ = some (.bool chas) := hcs' 12 _ rfl
      clear hcs hcs'
      have m1 : (0 : Int) ≤ (m : Int) := by omega
      have m2 : (m : Int) < (i : Int) := by omega
      go_wp2
      have hD := Blk.new wr 45 #[.int .i64 cid, .int .i64 cop, .string ckey, .int .i64 cnode, .int .i64 cfrm, .int .i64 cto, .bool cdone, .int .i64 crid, .int .i64 crop, .string crkey, .int .i64 cerr, .string cval, .bool chas]
      have HBD := Lib.hid (HB.out.alloc hsz (.cells #[.int .i64 cid, .int .i64 cop, .string ckey, .int .i64 cnode, .int .i64 cfrm, .int .i64 cto, .bool cdone, .int .i64 crid, .int .i64 crop, .string crkey, .int .i64 cerr, .string cval, .bool chas] 45))
      have z2 : (wr.alloc (.cells #[.int .i64 cid, .int .i64 cop, .string ckey, .int .i64 cnode, .int .i64 cfrm, .int .i64 cto, .bool cdone, .int .i64 crid, .int .i64 crop, .string crkey, .int .i64 cerr, .string cval, .bool chas] 45)).cell? ⟨b, off + i * 13 + 2, none⟩ = some (.string x.key) := (HBD.out.cell (p := ⟨b, off + i * 13 + 2, none⟩) hbl).trans x2
      have z4 : (wr.alloc (.cells #[.int .i64 cid, .int .i64 cop, .string ckey, .int .i64 cnode, .int .i64 cfrm, .int .i64 cto, .bool cdone, .int .i64 crid, .int .i64 crop, .string crkey, .int .i64 cerr, .string cval, .bool chas] 45)).cell? ⟨b, off + i * 13 + 4, none⟩ = some (.int .i64 x.frm) := (HBD.out.cell (p := ⟨b, off + i * 13 + 4, none⟩) hbl).trans x4
      generalize wr.alloc (.cells #[.int .i64 cid, .int .i64 cop, .string ckey, .int .i64 cnode, .int .i64 cfrm, .int .i64 cto, .bool cdone, .int .i64 crid, .int .i64 crop, .string crkey, .int .i64 cerr, .string cval, .bool chas] 45) = W1 at *
      clear g0 g1 g2 g3 g4 g5 g6 g7 g8 g9 g10 g11 g12 y2 y4
      generalize wr.heap.size = D at *
      have d1 : W1.cell? ⟨D, 1, none⟩ = some (.int .i64 cop) := hD.cell 1
      have d2 : W1.cell? ⟨D, 2, none⟩ = some (.string ckey) := hD.cell 2
      have d4 : W1.cell? ⟨D, 4, none⟩ = some (.int .i64 cfrm) := hD.cell 4
      have d5 : W1.cell? ⟨D, 5, none⟩ = some (.int .i64 cto) := hD.cell 5
      have d6 : W1.cell? ⟨D, 6, none⟩ = some (.bool cdone) := hD.cell 6
      have d10 : W1.cell? ⟨D, 10, none⟩ = some (.int .i64 cerr) := hD.cell 10
      clear hD
      obtain ⟨xk, hxk⟩ : ∃ xk, x.key = xk := ⟨_, rfl⟩
      obtain ⟨xf, hxf⟩ : ∃ xf, x.frm = xf := ⟨_, rfl⟩
      rw [hxk] at z2
      rw [hxf] at z4
      obtain ⟨S0, hS0⟩ : ∃ S0, sinceN (l.take m) x = S0 := ⟨_, rfl⟩
      rw [hS0] at HT ⊢
      have HKL : Hid (∀ (b1 b2 b3 b4 b5 : Bool), (cop == 2) = b1 → (ckey.toList == xk.toList) = b2 → cdone = b3 → (cerr == 0) = b4 → decide (cto ≤ xf) = b5 → (b1 && (b2 && (b3 && (b4 && b5)))) = false → sinceN (l.take (m + 1)) x = S0) := Lib.hid (by
        intro b1 b2 b3 b4 b5 e1 e2 e3 e4 e5 h
        rw [HT.out]
        unfold stepN killed
        simp only [e1, hxk, e2, e3, e4, hxf, e5]
        rw [h]; rfl)
      have HKY : Hid ((cop == 2) = true → (ckey.toList == xk.toList) = true → cdone = true → (cerr == 0) = true → decide (cto ≤ xf) = true → sinceN (l.take (m + 1)) x = max S0 cfrm) := Lib.hid (by
        intro e1 e2 e3 e4 e5
        rw [HT.out]
        unfold stepN killed
        simp only [e1, hxk, e2, e3, e4, hxf, e5]
        rfl)
      clear hxk hxf hS0 HT x2 x4
      by_cases c1 : (cop == 2) = true
      · by_cases c2 : (ckey.toList == xk.toList) = true
        · cases cdone with
          | true =>
            by_cases c4 : (cerr == 0) = true
            · by_cases c5 : cto ≤ xf
              · have c5' : decide (cto ≤ xf) = true := decide_eq_true c5
                have HE := Lib.hid (HKY.out c1 c2 rfl c4 c5')
                clear c5
                by_cases c6 : S0 < cfrm
                · have HM : Hid (max S0 cfrm = cfrm) := Lib.hid (by omega)
                  go_quiet (fail)
                  go_wp2
                  exact ⟨⟨m + 1, by omega, by go_num, by rw [HE.out, HM.out], below_drewN HBD.out _⟩, by simp [intOf]; omega⟩
                · have HM : Hid (max S0 cfrm = S0) := Lib.hid (by omega)
                  go_quiet (fail)
                  go_wp2
                  all_goals
                    first
                      | exact ⟨⟨m + 1, by omega, by go_num, by rw [HE.out, HM.out], below_drewN HBD.out _⟩, by simp [intOf]; omega⟩
                      | exact ⟨⟨m + 1, by omega, by go_num, by rw [HE.out]; congr 1; omega, below_drewN HBD.out _⟩, by simp [intOf]; omega⟩
              · have c5' : decide (cto ≤ xf) = false := decide_eq_false c5
                have HE := Lib.hid (HKL.out _ _ _ _ _ c1 c2 rfl c4 c5' rfl)
                clear c5
                go_quiet (fail)
                go_wp2
                exact ⟨⟨m + 1, by omega, by go_num, by rw [HE.out], below_drewN HBD.out _⟩, by simp [intOf]; omega⟩
            · have c4' : (cerr == 0) = false := by cases h : (cerr == 0) <;> simp_all
              have HE := Lib.hid (HKL.out _ _ _ _ _ c1 c2 rfl c4' rfl rfl)
              clear c4
              go_quiet (fail)
              go_wp2
              exact ⟨⟨m + 1, by omega, by go_num, by rw [HE.out], below_drewN HBD.out _⟩, by simp [intOf]; omega⟩
          | false =>
            have HE := Lib.hid (HKL.out _ _ _ _ _ c1 c2 rfl rfl rfl rfl)
            go_quiet (fail)
            go_wp2
            exact ⟨⟨m + 1, by omega, by go_num, by rw [HE.out], below_drewN HBD.out _⟩, by simp [intOf]; omega⟩
        · have c2' : (ckey.toList == xk.toList) = false := by cases h : (ckey.toList == xk.toList) <;> simp_all
          have HE := Lib.hid (HKL.out _ _ _ _ _ c1 c2' rfl rfl rfl rfl)
          clear c2
          go_quiet (fail)
          go_wp2
          exact ⟨⟨m + 1, by omega, by go_num, by rw [HE.out], below_drewN HBD.out _⟩, by simp [intOf]; omega⟩
      · have c1' : (cop == 2) = false := by cases h : (cop == 2) <;> simp_all
        have HE := Lib.hid (HKL.out _ _ _ _ _ c1' rfl rfl rfl rfl rfl)
        clear c1
        go_quiet (fail)
        go_wp2
        exact ⟨⟨m + 1, by omega, by go_num, by rw [HE.out], below_drewN HBD.out _⟩, by simp [intOf]; omega⟩
    · obtain rfl : m = i := by omega
      go_wp2
      go_ret
      exact ⟨by rw [HSF.out]; rfl, HB.out⟩
end Go.Proofs.Ytmblkejgfoffaaa
