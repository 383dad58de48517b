/- Right; the judge's beginning. Conditions: lengths. -/
import Derived.Test.YtmblkejgfoffaaaJb
import Derived.Test.YtmblkejgfoffaaaBegun
namespace Go.Proofs.Ytmblkejgfoffaaa
open Go.RowKit
theorem since_out (w : World) (A : Option Addr) (n cp : Nat) (i : Int) (hi : i < 0 ∨ (n : Int) ≤ i) :
    Calls Try.prog 23 #[.slice A n cp, .int .i64 i] w fun e w' => e = .returned (.int .i64 0) ∧ w = w' := by
  have h2 : i < 0 ∨ (¬ i < 0 ∧ (n : Int) ≤ i) := by omega
  clear hi
  rcases h2 with h | ⟨h, h1⟩
  all_goals
    go_enter Try.func23, Try.ntmps23
    go_wp2
    go_ret
    exact ⟨rfl, rfl⟩
theorem bad_sl (w : World) (base O M : Nat) (Q : List St) (ho : Org w base O M Q) (hql : Q.length < 1099511627) (A : Option Addr) (n cp : Nat) (l : List Cl) (hn : l.length = n) (hm : n ≤ 1000000) (hcp : n ≤ cp) (hs : Sl w A (l.flatMap Cl.cells)) :
    Calls Try.prog 25 #[.pointer (some ⟨O, 0, none⟩), .slice A n cp] w fun e w' => ∃ A' c', e = .returned (.slice A' (badTo Q l n).length c') ∧ Sl w' A' ((badTo Q l n).map (.int .i64)) ∧ Below w.heap.size w w' :=
  (bad_any w base O M Q ho hql A n cp l hn hm hcp hs).mono (by
    rintro e w' ⟨v, rfl, h1, h2⟩
    obtain ⟨A', c', rfl, _, _, _, hs'⟩ := Sl.of_own h1
    exact ⟨A', c', rfl, hs', h2⟩)
theorem right_any (w : World) (base O M : Nat) (Q : List St) (ho : Org w base O M Q) (hql : Q.length < 1099511627) (A : Option Addr) (n cp : Nat) (l : List Cl) (hn : l.length = n) (hm : n ≤ 1000000) (hcp : n ≤ cp) (hs : Sl w A (l.flatMap Cl.cells)) (r : Bool) (hr : r = decide (badTo Q l n = [])) :
    Calls Try.prog 22 #[.pointer (some ⟨O, 0, none⟩), .slice A n cp] w fun e w' => e = .returned (.bool r) ∧ Below w.heap.size w w' := by
  have HBS := Lib.hid (bad_sl w base O M Q ho hql A n cp l hn hm hcp hs)
  clear ho hs hn
  generalize badTo Q l n = z at *
  have hz : r = ((z.length : Int) == 0) := by
    rw [hr]
    cases z with
    | nil => rfl
    | cons a z =>
      symm
      simp
      omega
  have HZ := Lib.hid hz
  clear hz hr
  go_enter Try.func22, Try.ntmps22
  go_wp2_with fail
  refine HBS.out.mono ?_
  rintro e w1 ⟨A1, c1, rfl, _, hb1⟩
  have HB1 := Lib.hid hb1
  clear hb1
  go_wp2
  go_ret
  exact ⟨by rw [HZ.out]; rfl, HB1.out⟩
def cg : Cl := ⟨1, 1, ⟨#[107]⟩, 0, 0, 1, true, 0, 0, ⟨#[]⟩, 0, ⟨#[118]⟩, true⟩
def cb : Cl := ⟨2, 1, ⟨#[107]⟩, 0, 0, 1, true, 0, 0, ⟨#[]⟩, 0, ⟨#[120]⟩, true⟩
set_option maxRecDepth 100000 in
set_option maxHeartbeats 4000000 in
theorem begun28 (w : World) : Calls Try.prog 21 #[] w fun e w' => e = .returned (.bool true) ∧ Below w.heap.size w w' := by
  go_enter Try.func21, Try.ntmps21
  go_wp2_with fail
  refine (new_any w).mono ?_
  rintro e w1 ⟨O, M, rfl, ho1, hb1⟩
  have HO1 := Lib.hid ho1
  have HB1 := Lib.hid hb1
  clear ho1 hb1
  go_wp2_with fail
  refine (set_any w1 w.heap.size O M [] HO1.out (by decide) ⟨#[107]⟩ ⟨#[118]⟩ true).mono ?_
  rintro e w2 ⟨rfl, ho2, hb2⟩
  have HO2 : Hid (Org w2 w.heap.size O M [one1]) := Lib.hid ho2
  have HB2 := Lib.hid (HB1.out.trans hb2)
  clear ho2 hb2
  rw [show (([] : List St).length : Int) + 1 = 1 from rfl]
  go_wp2_with fail
  have hg1 := (((Blk.new w2 45 #[.int .i64 1, .int .i64 1, .string ⟨#[107]⟩, .int .i64 0, .int .i64 0, .int .i64 1, .bool true, .int .i64 0, .int .i64 0, .string ⟨#[]⟩, .int .i64 0, .string ⟨#[118]⟩, .bool true]).alloc (.cells #[.int .i64 2, .int .i64 1, .string ⟨#[107]⟩, .int .i64 0, .int .i64 0, .int .i64 1, .bool true, .int .i64 0, .int .i64 0, .string ⟨#[]⟩, .int .i64 0, .string ⟨#[120]⟩, .bool true] 45)).alloc (.cells #[.int .i64 1, .int .i64 1, .string ⟨#[107]⟩, .int .i64 0, .int .i64 0, .int .i64 1, .bool true, .int .i64 0, .int .i64 0, .string ⟨#[]⟩, .int .i64 0, .string ⟨#[118]⟩, .bool true, .int .i64 2, .int .i64 1, .string ⟨#[107]⟩, .int .i64 0, .int .i64 0, .int .i64 1, .bool true, .int .i64 0, .int .i64 0, .string ⟨#[]⟩, .int .i64 0, .string ⟨#[120]⟩, .bool true] 45))
  have hb1 := ((Blk.new (w2.alloc (.cells #[.int .i64 1, .int .i64 1, .string ⟨#[107]⟩, .int .i64 0, .int .i64 0, .int .i64 1, .bool true, .int .i64 0, .int .i64 0, .string ⟨#[]⟩, .int .i64 0, .string ⟨#[118]⟩, .bool true] 45)) 45 #[.int .i64 2, .int .i64 1, .string ⟨#[107]⟩, .int .i64 0, .int .i64 0, .int .i64 1, .bool true, .int .i64 0, .int .i64 0, .string ⟨#[]⟩, .int .i64 0, .string ⟨#[120]⟩, .bool true]).alloc (.cells #[.int .i64 1, .int .i64 1, .string ⟨#[107]⟩, .int .i64 0, .int .i64 0, .int .i64 1, .bool true, .int .i64 0, .int .i64 0, .string ⟨#[]⟩, .int .i64 0, .string ⟨#[118]⟩, .bool true, .int .i64 2, .int .i64 1, .string ⟨#[107]⟩, .int .i64 0, .int .i64 0, .int .i64 1, .bool true, .int .i64 0, .int .i64 0, .string ⟨#[]⟩, .int .i64 0, .string ⟨#[120]⟩, .bool true] 45))
  have hs1 := Blk.new ((w2.alloc (.cells #[.int .i64 1, .int .i64 1, .string ⟨#[107]⟩, .int .i64 0, .int .i64 0, .int .i64 1, .bool true, .int .i64 0, .int .i64 0, .string ⟨#[]⟩, .int .i64 0, .string ⟨#[118]⟩, .bool true] 45)).alloc (.cells #[.int .i64 2, .int .i64 1, .string ⟨#[107]⟩, .int .i64 0, .int .i64 0, .int .i64 1, .bool true, .int .i64 0, .int .i64 0, .string ⟨#[]⟩, .int .i64 0, .string ⟨#[120]⟩, .bool true] 45)) 45 #[.int .i64 1, .int .i64 1, .string ⟨#[107]⟩, .int .i64 0, .int .i64 0, .int .i64 1, .bool true, .int .i64 0, .int .i64 0, .string ⟨#[]⟩, .int .i64 0, .string ⟨#[118]⟩, .bool true, .int .i64 2, .int .i64 1, .string ⟨#[107]⟩, .int .i64 0, .int .i64 0, .int .i64 1, .bool true, .int .i64 0, .int .i64 0, .string ⟨#[]⟩, .int .i64 0, .string ⟨#[120]⟩, .bool true]
  have hB3 : Below w2.heap.size w2 (((w2.alloc (.cells #[.int .i64 1, .int .i64 1, .string ⟨#[107]⟩, .int .i64 0, .int .i64 0, .int .i64 1, .bool true, .int .i64 0, .int .i64 0, .string ⟨#[]⟩, .int .i64 0, .string ⟨#[118]⟩, .bool true] 45)).alloc (.cells #[.int .i64 2, .int .i64 1, .string ⟨#[107]⟩, .int .i64 0, .int .i64 0, .int .i64 1, .bool true, .int .i64 0, .int .i64 0, .string ⟨#[]⟩, .int .i64 0, .string ⟨#[120]⟩, .bool true] 45)).alloc (.cells #[.int .i64 1, .int .i64 1, .string ⟨#[107]⟩, .int .i64 0, .int .i64 0, .int .i64 1, .bool true, .int .i64 0, .int .i64 0, .string ⟨#[]⟩, .int .i64 0, .string ⟨#[118]⟩, .bool true, .int .i64 2, .int .i64 1, .string ⟨#[107]⟩, .int .i64 0, .int .i64 0, .int .i64 1, .bool true, .int .i64 0, .int .i64 0, .string ⟨#[]⟩, .int .i64 0, .string ⟨#[120]⟩, .bool true] 45)) := (((Below.refl _ _).alloc (Nat.le_refl _) _).alloc (by simp) _).alloc (by simp; omega) _
  rw [World.size_alloc] at hb1 hs1
  rw [World.size_alloc] at hs1
  generalize (((w2.alloc (.cells #[.int .i64 1, .int .i64 1, .string ⟨#[107]⟩, .int .i64 0, .int .i64 0, .int .i64 1, .bool true, .int .i64 0, .int .i64 0, .string ⟨#[]⟩, .int .i64 0, .string ⟨#[118]⟩, .bool true] 45)).alloc (.cells #[.int .i64 2, .int .i64 1, .string ⟨#[107]⟩, .int .i64 0, .int .i64 0, .int .i64 1, .bool true, .int .i64 0, .int .i64 0, .string ⟨#[]⟩, .int .i64 0, .string ⟨#[120]⟩, .bool true] 45)).alloc (.cells #[.int .i64 1, .int .i64 1, .string ⟨#[107]⟩, .int .i64 0, .int .i64 0, .int .i64 1, .bool true, .int .i64 0, .int .i64 0, .string ⟨#[]⟩, .int .i64 0, .string ⟨#[118]⟩, .bool true, .int .i64 2, .int .i64 1, .string ⟨#[107]⟩, .int .i64 0, .int .i64 0, .int .i64 1, .bool true, .int .i64 0, .int .i64 0, .string ⟨#[]⟩, .int .i64 0, .string ⟨#[120]⟩, .bool true] 45)) = W3 at *
  have HS3 : Hid (Sl W3 (some ⟨w2.heap.size + 1 + 1, 0, none⟩) ([cg, cb].flatMap Cl.cells)) := Lib.hid (Blk.sl (xs := [cg, cb].flatMap Cl.cells) hs1)
  have HO3 := Lib.hid (HO2.out.below hB3)
  have HB3 := Lib.hid (HB2.out.trans (hB3.mono HB2.out.size))
  generalize w2.heap.size + 1 + 1 = D2 at *
  generalize w2.heap.size + 1 = D1 at *
  generalize w2.heap.size = D0 at *
  have HG1 := Lib.hid hg1
  have HC1 := Lib.hid hb1
  clear hg1 hb1 hs1 hB3
  refine (bad_sl W3 w.heap.size O M [one1] HO3.out (by decide) (some ⟨D2, 0, none⟩) 2 2 [cg, cb] rfl (by omega) (by omega) HS3.out).mono ?_
  rw [show badTo [one1] [cg, cb] 2 = [2] from by decide +kernel]
  rintro e w4 ⟨A4, c4, rfl, hs4, hb4⟩
  obtain ⟨b4, o4, rfl, hc4⟩ := hs4.at_ 0 (by decide)
  have hc40 : w4.cell? ⟨b4, o4, none⟩ = some (.int .i64 2) := hc4
  have HG4 := Lib.hid (HG1.out.below hb4 HG1.out.lt)
  have HC4 := Lib.hid (HC1.out.below hb4 HC1.out.lt)
  have HO4 := Lib.hid (HO3.out.below hb4)
  have HB4 := Lib.hid (HB3.out.trans (hb4.mono HB3.out.size))
  have hbl4 : b4 < w4.heap.size := World.block_lt_of_cell? w4 _ hc40
  clear hs4 hb4 hc4 HG1 HC1 HO3 HS3
  have p0 : w4.cell? ⟨D0, 0, none⟩ = some (.int .i64 1) := HG4.out.cell 0
  have p1 : w4.cell? ⟨D0, 1, none⟩ = some (.int .i64 1) := HG4.out.cell 1
  have p2 : w4.cell? ⟨D0, 2, none⟩ = some (.string ⟨#[107]⟩) := HG4.out.cell 2
  have p3 : w4.cell? ⟨D0, 3, none⟩ = some (.int .i64 0) := HG4.out.cell 3
  have p4 : w4.cell? ⟨D0, 4, none⟩ = some (.int .i64 0) := HG4.out.cell 4
  have p5 : w4.cell? ⟨D0, 5, none⟩ = some (.int .i64 1) := HG4.out.cell 5
  have p6 : w4.cell? ⟨D0, 6, none⟩ = some (.bool true) := HG4.out.cell 6
  have p7 : w4.cell? ⟨D0, 7, none⟩ = some (.int .i64 0) := HG4.out.cell 7
  have p8 : w4.cell? ⟨D0, 8, none⟩ = some (.int .i64 0) := HG4.out.cell 8
  have p9 : w4.cell? ⟨D0, 9, none⟩ = some (.string ⟨#[]⟩) := HG4.out.cell 9
  have p10 : w4.cell? ⟨D0, 10, none⟩ = some (.int .i64 0) := HG4.out.cell 10
  have p11 : w4.cell? ⟨D0, 11, none⟩ = some (.string ⟨#[118]⟩) := HG4.out.cell 11
  have p12 : w4.cell? ⟨D0, 12, none⟩ = some (.bool true) := HG4.out.cell 12
  rw [show (([2] : List Int).length) = 1 from rfl]
  go_wp2_with fail
  clear p0 p1 p2 p3 p4 p5 p6 p7 p8 p9 p10 p11 p12
  have hs5 := Blk.new w4 45 #[.int .i64 1, .int .i64 1, .string ⟨#[107]⟩, .int .i64 0, .int .i64 0, .int .i64 1, .bool true, .int .i64 0, .int .i64 0, .string ⟨#[]⟩, .int .i64 0, .string ⟨#[118]⟩, .bool true]
  have hB5 : Below w4.heap.size w4 (w4.alloc (.cells #[.int .i64 1, .int .i64 1, .string ⟨#[107]⟩, .int .i64 0, .int .i64 0, .int .i64 1, .bool true, .int .i64 0, .int .i64 0, .string ⟨#[]⟩, .int .i64 0, .string ⟨#[118]⟩, .bool true] 45)) := (Below.refl _ _).alloc (Nat.le_refl _) _
  generalize (w4.alloc (.cells #[.int .i64 1, .int .i64 1, .string ⟨#[107]⟩, .int .i64 0, .int .i64 0, .int .i64 1, .bool true, .int .i64 0, .int .i64 0, .string ⟨#[]⟩, .int .i64 0, .string ⟨#[118]⟩, .bool true] 45)) = W5 at *
  have HS5 : Hid (Sl W5 (some ⟨w4.heap.size, 0, none⟩) ([cg].flatMap Cl.cells)) := Lib.hid (Blk.sl (xs := [cg].flatMap Cl.cells) hs5)
  have HO5 := Lib.hid (HO4.out.below hB5)
  refine (right_any W5 w.heap.size O M [one1] HO5.out (by decide) (some ⟨w4.heap.size, 0, none⟩) 1 1 [cg] rfl (by omega) (by omega) HS5.out true (by decide +kernel)).mono ?_
  rintro e w6 ⟨rfl, hb6⟩
  have hb46 : Below w4.heap.size w4 w6 := hB5.trans (hb6.mono hB5.size)
  have HC6 := Lib.hid (HC4.out.below hb46 HC4.out.lt)
  have HO6 := Lib.hid (HO4.out.below hb46)
  have HB6 := Lib.hid (HB4.out.trans (hb46.mono HB4.out.size))
  have hc60 : w6.cell? ⟨b4, o4, none⟩ = some (.int .i64 2) := (hb46.cell (p := ⟨b4, o4, none⟩) hbl4).trans hc40
  have hbl6 : b4 < w6.heap.size := Nat.lt_of_lt_of_le hbl4 hb46.size
  clear hs5 hB5 hb6 hb46 hc40 hbl4 HS5 HO5 HG4 HC4 HO4
  have p0 : w6.cell? ⟨D1, 0, none⟩ = some (.int .i64 2) := HC6.out.cell 0
  have p1 : w6.cell? ⟨D1, 1, none⟩ = some (.int .i64 1) := HC6.out.cell 1
  have p2 : w6.cell? ⟨D1, 2, none⟩ = some (.string ⟨#[107]⟩) := HC6.out.cell 2
  have p3 : w6.cell? ⟨D1, 3, none⟩ = some (.int .i64 0) := HC6.out.cell 3
  have p4 : w6.cell? ⟨D1, 4, none⟩ = some (.int .i64 0) := HC6.out.cell 4
  have p5 : w6.cell? ⟨D1, 5, none⟩ = some (.int .i64 1) := HC6.out.cell 5
  have p6 : w6.cell? ⟨D1, 6, none⟩ = some (.bool true) := HC6.out.cell 6
  have p7 : w6.cell? ⟨D1, 7, none⟩ = some (.int .i64 0) := HC6.out.cell 7
  have p8 : w6.cell? ⟨D1, 8, none⟩ = some (.int .i64 0) := HC6.out.cell 8
  have p9 : w6.cell? ⟨D1, 9, none⟩ = some (.string ⟨#[]⟩) := HC6.out.cell 9
  have p10 : w6.cell? ⟨D1, 10, none⟩ = some (.int .i64 0) := HC6.out.cell 10
  have p11 : w6.cell? ⟨D1, 11, none⟩ = some (.string ⟨#[120]⟩) := HC6.out.cell 11
  have p12 : w6.cell? ⟨D1, 12, none⟩ = some (.bool true) := HC6.out.cell 12
  go_wp2_with fail
  clear p0 p1 p2 p3 p4 p5 p6 p7 p8 p9 p10 p11 p12
  have hs7 := Blk.new w6 45 #[.int .i64 2, .int .i64 1, .string ⟨#[107]⟩, .int .i64 0, .int .i64 0, .int .i64 1, .bool true, .int .i64 0, .int .i64 0, .string ⟨#[]⟩, .int .i64 0, .string ⟨#[120]⟩, .bool true]
  have hB7 : Below w6.heap.size w6 (w6.alloc (.cells #[.int .i64 2, .int .i64 1, .string ⟨#[107]⟩, .int .i64 0, .int .i64 0, .int .i64 1, .bool true, .int .i64 0, .int .i64 0, .string ⟨#[]⟩, .int .i64 0, .string ⟨#[120]⟩, .bool true] 45)) := (Below.refl _ _).alloc (Nat.le_refl _) _
  generalize (w6.alloc (.cells #[.int .i64 2, .int .i64 1, .string ⟨#[107]⟩, .int .i64 0, .int .i64 0, .int .i64 1, .bool true, .int .i64 0, .int .i64 0, .string ⟨#[]⟩, .int .i64 0, .string ⟨#[120]⟩, .bool true] 45)) = W7 at *
  have HS7 : Hid (Sl W7 (some ⟨w6.heap.size, 0, none⟩) ([cb].flatMap Cl.cells)) := Lib.hid (Blk.sl (xs := [cb].flatMap Cl.cells) hs7)
  have HO7 := Lib.hid (HO6.out.below hB7)
  refine (right_any W7 w.heap.size O M [one1] HO7.out (by decide) (some ⟨w6.heap.size, 0, none⟩) 1 1 [cb] rfl (by omega) (by omega) HS7.out false (by decide +kernel)).mono ?_
  rintro e w8 ⟨rfl, hb8⟩
  have hb68 : Below w6.heap.size w6 w8 := hB7.trans (hb8.mono hB7.size)
  have HB8 := Lib.hid (HB6.out.trans (hb68.mono HB6.out.size))
  have hc80 : w8.cell? ⟨b4, o4, none⟩ = some (.int .i64 2) := (hb68.cell (p := ⟨b4, o4, none⟩) hbl6).trans hc60
  clear hs7 hB7 hb8 hb68 hc60
  go_wp2_with fail
  refine (since_out w8 none 0 0 0 (by omega)).mono ?_
  rintro e w9 ⟨rfl, rfl⟩
  go_wp2
  go_ret
  exact ⟨rfl, HB8.out⟩
end Go.Proofs.Ytmblkejgfoffaaa
