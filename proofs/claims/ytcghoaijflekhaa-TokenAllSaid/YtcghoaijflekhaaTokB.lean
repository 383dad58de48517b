/- Walks of the rights' table, fourth part: the laws' beginning. -/
import Derived.Test.YtcghoaijflekhaaTokX
namespace Go.Proofs.Ytcghoaijflekhaa
open Go.RowKit
def kk : ByteArray := ⟨#[107]⟩
def tg : TkS := ⟨⟨#[107]⟩, true, false⟩
def tu : TkS := ⟨⟨#[107]⟩, true, true⟩
def tb : TkS := ⟨⟨#[107]⟩, false, false⟩
def tx : TkS := ⟨⟨#[107]⟩, false, true⟩
theorem keys2 : ([tu, tg].filter (hit fun s => inB s [⟨#[107]⟩, ⟨#[120]⟩])).length = 1 ∧ [tu, tg].map (hurt1 fun s => inB s [⟨#[107]⟩, ⟨#[120]⟩]) = [tu, tb] := ⟨rfl, rfl⟩
set_option maxHeartbeats 1000000 in
theorem begun_any (w : World) : Calls Try.prog 7 #[] w fun e w' => e = .returned (.bool true) ∧ Below w.heap.size w w' := by
  go_enter Try.func7, Try.ntmps7
  go_wp2_with fail
  refine (new_any w).mono ?_
  rintro e w1 ⟨T, M, bl0, rfl, hT1, hB1⟩
  have HT1 := Lib.hid hT1
  have HB1 := Lib.hid hB1
  clear hT1 hB1
  go_wp2_with fail
  refine (give_any w1 w.heap.size T M [] bl0 ⟨#[107]⟩ HT1.out (by decide)).mono ?_
  rintro e w2 ⟨bl1, rfl, hT2, hB2⟩
  have HT2 : Hid (Tok w2 w.heap.size T M [tg] bl1) := Lib.hid hT2
  have HB2 := Lib.hid (HB1.out.trans hB2)
  clear hT2 hB2
  rw [show (([] : List TkS).length : Int) + 1 = 1 from rfl]
  go_wp2_with fail
  refine (give_any w2 w.heap.size T M [tg] bl1 ⟨#[107]⟩ HT2.out (by decide)).mono ?_
  rintro e w3 ⟨bl2, rfl, hT3, hB3⟩
  have HT3 : Hid (Tok w3 w.heap.size T M [tg, tg] bl2) := Lib.hid hT3
  have HB3 := Lib.hid (HB2.out.trans hB3)
  clear hT3 hB3
  rw [show (([tg] : List TkS).length : Int) + 1 = 2 from rfl]
  go_wp2_with fail
  refine (use_yes w3 w.heap.size T M [tg, tg] bl2 0 HT3.out (by decide) rfl).mono ?_
  rintro e w4 ⟨rfl, hT4, hB4⟩
  have HT4 : Hid (Tok w4 w.heap.size T M [tu, tg] bl2) := Lib.hid hT4
  have HB4 := Lib.hid (HB3.out.trans hB4)
  clear hT4 hB4
  rw [show ([tg, tg] : List TkS)[0].key = ⟨#[107]⟩ from rfl, show ([tg, tg] : List TkS)[0].good = true from rfl]
  go_wp2_with fail
  refine (kills_any (w4.alloc (.cells #[.string ⟨#[107]⟩, .string ⟨#[120]⟩] 9)) w.heap.size T M [tu, tg] bl2 (HT4.out.alloc _) (by decide) _ 2 2 [⟨#[107]⟩, ⟨#[120]⟩] (Blk.new w4 9 #[.string ⟨#[107]⟩, .string ⟨#[120]⟩]).sl rfl (by decide) (fun a ha => by
    cases ha
    exact ⟨by simp, fun j hj e => by have := (HT4.out.bl_ne.2 j hj).2.2; simp at e; omega⟩)).mono ?_
  rintro e w5 ⟨rfl, hT5, hB5⟩
  have HT5 : Hid (Tok w5 w.heap.size T M [tu, tb] bl2) := Lib.hid hT5
  have HB5 := Lib.hid ((HB4.out.alloc HT4.out.above _).trans hB5)
  clear hT5 hB5
  rw [keys2.1]
  go_wp2_with fail
  refine (use_yes w5 w.heap.size T M [tu, tb] bl2 1 HT5.out (by decide) rfl).mono ?_
  rintro e w6 ⟨rfl, hT6, hB6⟩
  have HT6 : Hid (Tok w6 w.heap.size T M [tu, tx] bl2) := Lib.hid hT6
  have HB6 := Lib.hid (HB5.out.trans hB6)
  clear hT6 hB6
  rw [show ([tu, tb] : List TkS)[1].key = ⟨#[107]⟩ from rfl, show ([tu, tb] : List TkS)[1].good = false from rfl]
  go_wp2_with fail
  refine (use_no w6 w.heap.size T M [tu, tx] bl2 1 HT6.out (fun i hi hl => by
    match i, hi with
    | 0, _ => cases hl
    | 1, _ => cases hl)).mono ?_
  rintro e w7 ⟨rfl, rfl⟩
  go_wp2_with fail
  refine (len_any w6 w.heap.size T M [tu, tx] bl2 HT6.out).mono ?_
  rintro e w8 ⟨rfl, rfl⟩
  rw [show (cntLeft [tu, tx] : Int) = 0 from rfl]
  go_wp2
  go_ret
  exact ⟨rfl, HB6.out⟩
end Go.Proofs.Ytcghoaijflekhaa
