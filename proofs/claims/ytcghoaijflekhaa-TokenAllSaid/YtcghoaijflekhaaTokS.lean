/- Operations that came in, read. No condition. -/
import Derived.Test.YtcghoaijflekhaaOpen2
import Derived.Test.YtcghoaijflekhaaTokZ
namespace Go.Proofs.Ytcghoaijflekhaa
open Go.RowKit Go.ChangeShapes Go.WideShapes
structure OpS where
  kind : Int
  id : Int
  key : ByteArray
  A : Option Addr
  n : Nat
  c : Nat
  ss : List ByteArray
def OpS.cells (o : OpS) : List Value := [.int .i64 o.kind, .int .i64 o.id, .string o.key, .slice o.A o.n o.c]
def OpS.ok (W : World) (o : OpS) : Prop := (Lit.int .i64 o.kind).wf = true ∧ (Lit.int .i64 o.id).wf = true ∧ o.key.size ≤ maxLen ∧ o.ss.length = o.n ∧ o.n ≤ o.c ∧ o.c ≤ maxLen ∧ (∀ s ∈ o.ss, s.size ≤ maxLen) ∧ Sl W o.A (o.ss.map .string)
theorem one_of {cs : List Value} {k C : Nat} (hl : cs.length = C) (hk : k < C) : ∃ v, (cs.drop k).take 1 = [v] ∧ cs[k]? = some v := by
  refine ⟨cs[k]'(by omega), ?_, List.getElem?_eq_getElem (by omega)⟩
  rw [List.drop_eq_getElem_cons (by omega)]
  rfl
section
variable {H : Type} {enc : TypeId × Value → H} {W : World}
theorem ops_each (n : Nat) (cs : List Value) (x : DataW H × List MemPlace) (h : DataW.trod enc Try.prog W 0 (fun _ => true) true n 42 cs = some x) : ∃ o : OpS, cs = o.cells ∧ o.ok W := by
  obtain ⟨xs, m, _, _, hl, hxl, hg⟩ := DataW.trod_struct Try.underlying42 h
  have hl4 : cs.length = 4 := hl.trans (by kernel_rfl)
  obtain ⟨v0, e0, g0⟩ := one_of hl4 (show 0 < 4 by decide)
  obtain ⟨v1, e1, g1⟩ := one_of hl4 (show 1 < 4 by decide)
  obtain ⟨v2, e2, g2⟩ := one_of hl4 (show 2 < 4 by decide)
  obtain ⟨v3, e3, g3⟩ := one_of hl4 (show 3 < 4 by decide)
  have h0 : DataW.trod enc Try.prog W 0 (fun _ => true) true m 3 ((cs.drop 0).take (Try.prog.cellsOf 3)) = xs[0]? := hg 0 _ rfl
  have h1 : DataW.trod enc Try.prog W 0 (fun _ => true) true m 2 ((cs.drop 1).take (Try.prog.cellsOf 2)) = xs[1]? := hg 1 _ rfl
  have h2 : DataW.trod enc Try.prog W 0 (fun _ => true) true m 9 ((cs.drop 2).take (Try.prog.cellsOf 9)) = xs[2]? := hg 2 _ rfl
  have h3 : DataW.trod enc Try.prog W 0 (fun _ => true) true m 34 ((cs.drop 3).take (Try.prog.cellsOf 34)) = xs[3]? := hg 3 _ rfl
  have c3 : Try.prog.cellsOf 3 = 1 := by kernel_rfl
  have c2 : Try.prog.cellsOf 2 = 1 := by kernel_rfl
  have c9 : Try.prog.cellsOf 9 = 1 := by kernel_rfl
  have c34 : Try.prog.cellsOf 34 = 1 := by kernel_rfl
  rw [c3] at h0
  rw [c2] at h1
  rw [c9] at h2
  rw [c34] at h3
  have hx : xs.length = 4 := hxl
  rw [e0, List.getElem?_eq_getElem (by omega)] at h0
  rw [e1, List.getElem?_eq_getElem (by omega)] at h1
  rw [e2, List.getElem?_eq_getElem (by omega)] at h2
  rw [e3, List.getElem?_eq_getElem (by omega)] at h3
  obtain ⟨a0, q0, _, w0⟩ := DataW.trod_int Try.underlying3 h0
  obtain ⟨a1, q1, _, w1⟩ := DataW.trod_int Try.underlying2 h1
  obtain ⟨a2, q2, _, w2⟩ := DataW.trod_string Try.underlying9 h2
  cases q0
  cases q1
  cases q2
  have hs : ∃ A n c, v3 = .slice A n c := by
    rcases DataW.trod_slice Try.underlying34 h3 with ⟨h, _⟩ | ⟨a, len, cap, _, _, _, _, h, _⟩
    · cases h; exact ⟨_, _, _, rfl⟩
    · cases h; exact ⟨_, _, _, rfl⟩
  obtain ⟨A, n', c, rfl⟩ := hs
  obtain ⟨ss, s1, s2, s3, s4, s5⟩ := open_text_slice Try.underlying34 Try.underlying9 c9 (A := A) (len := n') (cap := c) ⟨m, by rw [show (Value.slice A n' c).cells.toList = [.slice A n' c] from rfl]; exact h3⟩
  refine ⟨⟨a0, a1, a2, A, n', c, ss⟩, ?_, w0, w1, w2, s1, s2, s3, s4, s5⟩
  apply List.ext_getElem?
  intro i
  match i with
  | 0 => exact g0
  | 1 => exact g1
  | 2 => exact g2
  | 3 => exact g3
  | i + 4 => rw [List.getElem?_eq_none (by omega), List.getElem?_eq_none (by show 4 ≤ _; omega)]
theorem open_ops {A : Option Addr} {len cap : Nat} {d : DataW H} {p : List MemPlace} (h : DataW.Trod enc Try.prog W 0 (fun _ => true) true 36 (.slice A len cap) d p) :
    ∃ os : List OpS, os.length = len ∧ len ≤ cap ∧ cap ≤ maxLen ∧ (∀ o ∈ os, o.ok W) ∧ Sl W A (os.flatMap OpS.cells) :=
  open_slice_of OpS.cells (OpS.ok W) 4 (fun _ => rfl) (by decide) Try.underlying36 (by kernel_rfl) ops_each h
end
end Go.Proofs.Ytcghoaijflekhaa
