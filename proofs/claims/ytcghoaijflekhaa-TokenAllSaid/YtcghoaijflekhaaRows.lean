/-
  No cell of these rows narrows 'for every input' (looked for: loops, veiled, ifaces, maps, wideKeys, modest, calm, conditions, laid).
  DERIVED. THE GIVEN ROWS OF THIS SEAT. 4 by the template 'for every input the law returns true; each argument reads behind the call as it read before'; 0 by the template 'total and deterministic' (their statements: YtcghoaijflekhaaTotals.lean).
  GIVEN WITH THE SEED: the statements are not yours to turn. If you find one false, say at which input.
  Laid BY PROGRAM, IN A SANDBOX (cutbox-rows.mjs): the forced cells as the released guide's own fill.sh prints them over the translation a21bb3e3cbc62697… (all of the seat's roots in one cut). By AI agents, Wed Nov 11 2026. No macro, syntax, notation, axiom, sorry.
-/
import Derived.Test.YtcghoaijflekhaaChecked
import GoSem.Claim
import GoSem.ClaimJoined
import GoSem.ClaimMapViews
import Derived.JoinedTies
import Derived.KernelRfl
namespace Go.Proofs.Ytcghoaijflekhaa
/- THE CELL 'sum', in the pinned program and in every row, IS THE sha256 OF THE DUMP (.gsa) THAT YtcghoaijflekhaaProg.lean LOADS. Nothing in Lean hashes anything: it is a label: what it is worth is what the hold of that sum in a sandbox is worth. -/
noncomputable def Try.pinned : Pinned := { name := "ytcghoaijflekhaa", sum := "a21bb3e3cbc626974974c0f17790be92c1f1cf7942ecc24524eb76744cacc1b6", checked := Try.checked }
namespace Rows
def none {H : Type} : Left H := { results := [], args := [] }

/-- 'icehouselaw18.TokenOnce': WHATEVER THE INPUT: true; the input reads as it did. -/
def tokenOnceSpec : ChangeSpec := { name := "tokenOnce", fn := fun _ => fun
  | [d1, d2] => { results := [.lit (.bool true)], args := [d1, d2] }
  | _ => none }
def tokenOnceRow : OpenClaim := { program := "ytcghoaijflekhaa", sum := "a21bb3e3cbc626974974c0f17790be92c1f1cf7942ecc24524eb76744cacc1b6", func := "icehouse/icehouselaw18.TokenOnce", spec := "tokenOnce", unfollowed := true, recurses := true, apart := false }
def TokenOnceSaid : Prop := tokenOnceRow.holds Try.pinned (OpenSpec.ofChange tokenOnceSpec)

/-- ITS FALSE NEIGHBOUR: 'it returns false'. Refute it at one input. -/
def tokenOnceWrong : ChangeSpec := { name := "tokenOnce", fn := fun _ => fun
  | [d1, d2] => { results := [.lit (.bool false)], args := [d1, d2] }
  | _ => none }
def TokenOnceWrongFalsely : Prop := tokenOnceRow.holds Try.pinned (OpenSpec.ofChange tokenOnceWrong)

/-- 'icehouselaw18.TokenKeys': WHATEVER THE INPUT: true; the input reads as it did. -/
def tokenKeysSpec : ChangeSpec := { name := "tokenKeys", fn := fun _ => fun
  | [d1, d2] => { results := [.lit (.bool true)], args := [d1, d2] }
  | _ => none }
def tokenKeysRow : OpenClaim := { program := "ytcghoaijflekhaa", sum := "a21bb3e3cbc626974974c0f17790be92c1f1cf7942ecc24524eb76744cacc1b6", func := "icehouse/icehouselaw18.TokenKeys", spec := "tokenKeys", unfollowed := true, recurses := true, apart := false }
def TokenKeysSaid : Prop := tokenKeysRow.holds Try.pinned (OpenSpec.ofChange tokenKeysSpec)

/-- ITS FALSE NEIGHBOUR: 'it returns false'. Refute it at one input. -/
def tokenKeysWrong : ChangeSpec := { name := "tokenKeys", fn := fun _ => fun
  | [d1, d2] => { results := [.lit (.bool false)], args := [d1, d2] }
  | _ => none }
def TokenKeysWrongFalsely : Prop := tokenKeysRow.holds Try.pinned (OpenSpec.ofChange tokenKeysWrong)

/-- 'icehouselaw18.TokenAll': WHATEVER THE INPUT: true; the input reads as it did. -/
def tokenAllSpec : ChangeSpec := { name := "tokenAll", fn := fun _ => fun
  | [d] => { results := [.lit (.bool true)], args := [d] }
  | _ => none }
def tokenAllRow : OpenClaim := { program := "ytcghoaijflekhaa", sum := "a21bb3e3cbc626974974c0f17790be92c1f1cf7942ecc24524eb76744cacc1b6", func := "icehouse/icehouselaw18.TokenAll", spec := "tokenAll", unfollowed := true, recurses := true, apart := false }
def TokenAllSaid : Prop := tokenAllRow.holds Try.pinned (OpenSpec.ofChange tokenAllSpec)

/-- ITS FALSE NEIGHBOUR: 'it returns false'. Refute it at one input. -/
def tokenAllWrong : ChangeSpec := { name := "tokenAll", fn := fun _ => fun
  | [d] => { results := [.lit (.bool false)], args := [d] }
  | _ => none }
def TokenAllWrongFalsely : Prop := tokenAllRow.holds Try.pinned (OpenSpec.ofChange tokenAllWrong)

/-- 'icehouselaw18.TokenNone': WHATEVER THE INPUT: true; the input reads as it did. -/
def tokenNoneSpec : ChangeSpec := { name := "tokenNone", fn := fun _ => fun
  | [] => { results := [.lit (.bool true)], args := [] }
  | _ => none }
def tokenNoneRow : OpenClaim := { program := "ytcghoaijflekhaa", sum := "a21bb3e3cbc626974974c0f17790be92c1f1cf7942ecc24524eb76744cacc1b6", func := "icehouse/icehouselaw18.TokenNone", spec := "tokenNone", unfollowed := true, recurses := true, apart := false }
def TokenNoneSaid : Prop := tokenNoneRow.holds Try.pinned (OpenSpec.ofChange tokenNoneSpec)

/-- ITS FALSE NEIGHBOUR: 'it returns false'. Refute it at one input. -/
def tokenNoneWrong : ChangeSpec := { name := "tokenNone", fn := fun _ => fun
  | [] => { results := [.lit (.bool false)], args := [] }
  | _ => none }
def TokenNoneWrongFalsely : Prop := tokenNoneRow.holds Try.pinned (OpenSpec.ofChange tokenNoneWrong)

/- THE SECOND FORM. 'bulk': how many values and letters a reading holds, each counted each time it is reached (what is shared counts as often as it is met; a slice's spare places count too). A statement '..UptoSaid' is the law's where the arguments, and the package variables that the reading takes, are together of bulk at most 1048576: NARROWER than '..Said'. Prove '..Said' where nothing that the law and all that it calls make is longer than what came in: it says more and counts as full. Else prove '..UptoSaid'. A law counts once. -/
mutual
def uptoBulk {H : Type} : DataW H → Nat
  | .lit (.string bytes) => bytes.length + 1
  | .lit _ => 1
  | .nil => 1
  | .ptr d => uptoBulk d + 1
  | .slice elems spare => uptoBulkAll elems + uptoBulkAll spare + 1
  | .agg parts => uptoBulkAll parts + 1
  | .iface _ d => uptoBulk d + 1
  | .map entries => uptoBulkEntries entries + 1
  | .held _ => 1
def uptoBulkAll {H : Type} : List (DataW H) → Nat
  | [] => 0
  | d :: r => uptoBulk d + uptoBulkAll r
def uptoBulkEntries {H : Type} : List (Lit × DataW H) → Nat
  | [] => 0
  | x :: r => uptoBulkEntry x + uptoBulkEntries r
def uptoBulkEntry {H : Type} : Lit × DataW H → Nat
  | (.string bytes, d) => bytes.length + uptoBulk d + 1
  | (_, d) => uptoBulk d + 1
 end
def uptoSmall : (H : Type) → List (DataW H) → Bool := fun _ ds => decide (uptoBulkAll ds ≤ 1048576)
def OpenSpec.upto (s : _root_.Go.ChangeSpec) : _root_.Go.OpenSpec := { _root_.Go.OpenSpec.ofChange s with cond := some uptoSmall }

/-- 'icehouselaw18.TokenOnce', WHERE WHAT IT READS IS OF BULK AT MOST 1048576: true; the input reads as it did. -/
def tokenOnceUptoRow : OpenClaim := { program := "ytcghoaijflekhaa", sum := "a21bb3e3cbc626974974c0f17790be92c1f1cf7942ecc24524eb76744cacc1b6", func := "icehouse/icehouselaw18.TokenOnce", spec := "tokenOnce", unfollowed := true, recurses := true, apart := false, narrowed := true }
def TokenOnceUptoSaid : Prop := tokenOnceUptoRow.holds Try.pinned (OpenSpec.upto tokenOnceSpec)

/-- 'icehouselaw18.TokenKeys', WHERE WHAT IT READS IS OF BULK AT MOST 1048576: true; the input reads as it did. -/
def tokenKeysUptoRow : OpenClaim := { program := "ytcghoaijflekhaa", sum := "a21bb3e3cbc626974974c0f17790be92c1f1cf7942ecc24524eb76744cacc1b6", func := "icehouse/icehouselaw18.TokenKeys", spec := "tokenKeys", unfollowed := true, recurses := true, apart := false, narrowed := true }
def TokenKeysUptoSaid : Prop := tokenKeysUptoRow.holds Try.pinned (OpenSpec.upto tokenKeysSpec)

/-- 'icehouselaw18.TokenAll', WHERE WHAT IT READS IS OF BULK AT MOST 1048576: true; the input reads as it did. -/
def tokenAllUptoRow : OpenClaim := { program := "ytcghoaijflekhaa", sum := "a21bb3e3cbc626974974c0f17790be92c1f1cf7942ecc24524eb76744cacc1b6", func := "icehouse/icehouselaw18.TokenAll", spec := "tokenAll", unfollowed := true, recurses := true, apart := false, narrowed := true }
def TokenAllUptoSaid : Prop := tokenAllUptoRow.holds Try.pinned (OpenSpec.upto tokenAllSpec)

/-- 'icehouselaw18.TokenNone', WHERE WHAT IT READS IS OF BULK AT MOST 1048576: true; the input reads as it did. -/
def tokenNoneUptoRow : OpenClaim := { program := "ytcghoaijflekhaa", sum := "a21bb3e3cbc626974974c0f17790be92c1f1cf7942ecc24524eb76744cacc1b6", func := "icehouse/icehouselaw18.TokenNone", spec := "tokenNone", unfollowed := true, recurses := true, apart := false, narrowed := true }
def TokenNoneUptoSaid : Prop := tokenNoneUptoRow.holds Try.pinned (OpenSpec.upto tokenNoneSpec)

end Rows
end Go.Proofs.Ytcghoaijflekhaa
