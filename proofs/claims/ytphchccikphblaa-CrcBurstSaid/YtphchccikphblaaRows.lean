/-
  No cell of these rows narrows 'for every input' (looked for: loops, veiled, ifaces, maps, wideKeys, modest, calm, conditions, laid).
  DERIVED. THE GIVEN ROWS OF THIS SEAT. 9 by the template 'for every input the law returns true; each argument reads behind the call as it read before'; 0 by the template 'total and deterministic' (their statements: YtphchccikphblaaTotals.lean).
  GIVEN WITH THE SEED: the statements are not yours to turn. If you find one false, say at which input.
  Laid BY PROGRAM, IN A SANDBOX (cutbox-rows.mjs): the forced cells as the released guide's own fill.sh prints them over the translation 219d594d51c7af6a… (all of the seat's roots in one cut). By AI agents, Wed Nov 11 2026. No macro, syntax, notation, axiom, sorry.
-/
import Derived.Test.YtphchccikphblaaChecked
import GoSem.Claim
import GoSem.ClaimJoined
import GoSem.ClaimMapViews
import Derived.JoinedTies
import Derived.KernelRfl
namespace Go.Proofs.Ytphchccikphblaa
/- THE CELL 'sum', in the pinned program and in every row, IS THE sha256 OF THE DUMP (.gsa) THAT YtphchccikphblaaProg.lean LOADS. Nothing in Lean hashes anything: it is a label: what it is worth is what the hold of that sum in a sandbox is worth. -/
noncomputable def Try.pinned : Pinned := { name := "ytphchccikphblaa", sum := "219d594d51c7af6abcb361a593c08e031dcb8e7f59090162f5c934cbad528c12", checked := Try.checked }
namespace Rows
def none {H : Type} : Left H := { results := [], args := [] }

/-- 'icehouselaw0.Names': WHATEVER THE INPUT: true; the input reads as it did. -/
def namesSpec : ChangeSpec := { name := "names", fn := fun _ => fun
  | [] => { results := [.lit (.bool true)], args := [] }
  | _ => none }
def namesRow : OpenClaim := { program := "ytphchccikphblaa", sum := "219d594d51c7af6abcb361a593c08e031dcb8e7f59090162f5c934cbad528c12", func := "icehouse/icehouselaw0.Names", spec := "names", apart := false }
def NamesSaid : Prop := namesRow.holds Try.pinned (OpenSpec.ofChange namesSpec)

/-- ITS FALSE NEIGHBOUR: 'it returns false'. Refute it at one input. -/
def namesWrong : ChangeSpec := { name := "names", fn := fun _ => fun
  | [] => { results := [.lit (.bool false)], args := [] }
  | _ => none }
def NamesWrongFalsely : Prop := namesRow.holds Try.pinned (OpenSpec.ofChange namesWrong)

/-- 'icehouselaw3.CrcParts': WHATEVER THE INPUT: true; the input reads as it did. -/
def crcPartsSpec : ChangeSpec := { name := "crcParts", fn := fun _ => fun
  | [d] => { results := [.lit (.bool true)], args := [d] }
  | _ => none }
def crcPartsRow : OpenClaim := { program := "ytphchccikphblaa", sum := "219d594d51c7af6abcb361a593c08e031dcb8e7f59090162f5c934cbad528c12", func := "icehouse/icehouselaw3.CrcParts", spec := "crcParts", apart := false }
def CrcPartsSaid : Prop := crcPartsRow.holds Try.pinned (OpenSpec.ofChange crcPartsSpec)

/-- ITS FALSE NEIGHBOUR: 'it returns false'. Refute it at one input. -/
def crcPartsWrong : ChangeSpec := { name := "crcParts", fn := fun _ => fun
  | [d] => { results := [.lit (.bool false)], args := [d] }
  | _ => none }
def CrcPartsWrongFalsely : Prop := crcPartsRow.holds Try.pinned (OpenSpec.ofChange crcPartsWrong)

/-- 'icehouselaw3.CrcBurst': WHATEVER THE INPUT: true; the input reads as it did. -/
def crcBurstSpec : ChangeSpec := { name := "crcBurst", fn := fun _ => fun
  | [d1, d2, d3] => { results := [.lit (.bool true)], args := [d1, d2, d3] }
  | _ => none }
def crcBurstRow : OpenClaim := { program := "ytphchccikphblaa", sum := "219d594d51c7af6abcb361a593c08e031dcb8e7f59090162f5c934cbad528c12", func := "icehouse/icehouselaw3.CrcBurst", spec := "crcBurst", apart := false }
def CrcBurstSaid : Prop := crcBurstRow.holds Try.pinned (OpenSpec.ofChange crcBurstSpec)

/-- ITS FALSE NEIGHBOUR: 'it returns false'. Refute it at one input. -/
def crcBurstWrong : ChangeSpec := { name := "crcBurst", fn := fun _ => fun
  | [d1, d2, d3] => { results := [.lit (.bool false)], args := [d1, d2, d3] }
  | _ => none }
def CrcBurstWrongFalsely : Prop := crcBurstRow.holds Try.pinned (OpenSpec.ofChange crcBurstWrong)

/-- 'icehouselaw3.CrcThree': WHATEVER THE INPUT: true; the input reads as it did. -/
def crcThreeSpec : ChangeSpec := { name := "crcThree", fn := fun _ => fun
  | [d1, d2, d3] => { results := [.lit (.bool true)], args := [d1, d2, d3] }
  | _ => none }
def crcThreeRow : OpenClaim := { program := "ytphchccikphblaa", sum := "219d594d51c7af6abcb361a593c08e031dcb8e7f59090162f5c934cbad528c12", func := "icehouse/icehouselaw3.CrcThree", spec := "crcThree", apart := false }
def CrcThreeSaid : Prop := crcThreeRow.holds Try.pinned (OpenSpec.ofChange crcThreeSpec)

/-- ITS FALSE NEIGHBOUR: 'it returns false'. Refute it at one input. -/
def crcThreeWrong : ChangeSpec := { name := "crcThree", fn := fun _ => fun
  | [d1, d2, d3] => { results := [.lit (.bool false)], args := [d1, d2, d3] }
  | _ => none }
def CrcThreeWrongFalsely : Prop := crcThreeRow.holds Try.pinned (OpenSpec.ofChange crcThreeWrong)

/-- 'icehouselaw3.CrcCuts': WHATEVER THE INPUT: true; the input reads as it did. -/
def crcCutsSpec : ChangeSpec := { name := "crcCuts", fn := fun _ => fun
  | [d1, d2] => { results := [.lit (.bool true)], args := [d1, d2] }
  | _ => none }
def crcCutsRow : OpenClaim := { program := "ytphchccikphblaa", sum := "219d594d51c7af6abcb361a593c08e031dcb8e7f59090162f5c934cbad528c12", func := "icehouse/icehouselaw3.CrcCuts", spec := "crcCuts", apart := false }
def CrcCutsSaid : Prop := crcCutsRow.holds Try.pinned (OpenSpec.ofChange crcCutsSpec)

/-- ITS FALSE NEIGHBOUR: 'it returns false'. Refute it at one input. -/
def crcCutsWrong : ChangeSpec := { name := "crcCuts", fn := fun _ => fun
  | [d1, d2] => { results := [.lit (.bool false)], args := [d1, d2] }
  | _ => none }
def CrcCutsWrongFalsely : Prop := crcCutsRow.holds Try.pinned (OpenSpec.ofChange crcCutsWrong)

/-- 'icehouselaw1.MixOf': WHATEVER THE INPUT: true; the input reads as it did. -/
def mixOfSpec : ChangeSpec := { name := "mixOf", fn := fun _ => fun
  | [d] => { results := [.lit (.bool true)], args := [d] }
  | _ => none }
def mixOfRow : OpenClaim := { program := "ytphchccikphblaa", sum := "219d594d51c7af6abcb361a593c08e031dcb8e7f59090162f5c934cbad528c12", func := "icehouse/icehouselaw1.MixOf", spec := "mixOf", apart := false }
def MixOfSaid : Prop := mixOfRow.holds Try.pinned (OpenSpec.ofChange mixOfSpec)

/-- ITS FALSE NEIGHBOUR: 'it returns false'. Refute it at one input. -/
def mixOfWrong : ChangeSpec := { name := "mixOf", fn := fun _ => fun
  | [d] => { results := [.lit (.bool false)], args := [d] }
  | _ => none }
def MixOfWrongFalsely : Prop := mixOfRow.holds Try.pinned (OpenSpec.ofChange mixOfWrong)

/-- 'icehouselaw1.MixStir': WHATEVER THE INPUT: true; the input reads as it did. -/
def mixStirSpec : ChangeSpec := { name := "mixStir", fn := fun _ => fun
  | [d1, d2, d3, d4] => { results := [.lit (.bool true)], args := [d1, d2, d3, d4] }
  | _ => none }
def mixStirRow : OpenClaim := { program := "ytphchccikphblaa", sum := "219d594d51c7af6abcb361a593c08e031dcb8e7f59090162f5c934cbad528c12", func := "icehouse/icehouselaw1.MixStir", spec := "mixStir", apart := false }
def MixStirSaid : Prop := mixStirRow.holds Try.pinned (OpenSpec.ofChange mixStirSpec)

/-- ITS FALSE NEIGHBOUR: 'it returns false'. Refute it at one input. -/
def mixStirWrong : ChangeSpec := { name := "mixStir", fn := fun _ => fun
  | [d1, d2, d3, d4] => { results := [.lit (.bool false)], args := [d1, d2, d3, d4] }
  | _ => none }
def MixStirWrongFalsely : Prop := mixStirRow.holds Try.pinned (OpenSpec.ofChange mixStirWrong)

/-- 'icehouselaw1.MixBytes': WHATEVER THE INPUT: true; the input reads as it did. -/
def mixBytesSpec : ChangeSpec := { name := "mixBytes", fn := fun _ => fun
  | [d1, d2] => { results := [.lit (.bool true)], args := [d1, d2] }
  | _ => none }
def mixBytesRow : OpenClaim := { program := "ytphchccikphblaa", sum := "219d594d51c7af6abcb361a593c08e031dcb8e7f59090162f5c934cbad528c12", func := "icehouse/icehouselaw1.MixBytes", spec := "mixBytes", apart := false }
def MixBytesSaid : Prop := mixBytesRow.holds Try.pinned (OpenSpec.ofChange mixBytesSpec)

/-- ITS FALSE NEIGHBOUR: 'it returns false'. Refute it at one input. -/
def mixBytesWrong : ChangeSpec := { name := "mixBytes", fn := fun _ => fun
  | [d1, d2] => { results := [.lit (.bool false)], args := [d1, d2] }
  | _ => none }
def MixBytesWrongFalsely : Prop := mixBytesRow.holds Try.pinned (OpenSpec.ofChange mixBytesWrong)

/-- 'icehouselaw1.MixOrder': WHATEVER THE INPUT: true; the input reads as it did. -/
def mixOrderSpec : ChangeSpec := { name := "mixOrder", fn := fun _ => fun
  | [d1, d2, d3] => { results := [.lit (.bool true)], args := [d1, d2, d3] }
  | _ => none }
def mixOrderRow : OpenClaim := { program := "ytphchccikphblaa", sum := "219d594d51c7af6abcb361a593c08e031dcb8e7f59090162f5c934cbad528c12", func := "icehouse/icehouselaw1.MixOrder", spec := "mixOrder", apart := false }
def MixOrderSaid : Prop := mixOrderRow.holds Try.pinned (OpenSpec.ofChange mixOrderSpec)

/-- ITS FALSE NEIGHBOUR: 'it returns false'. Refute it at one input. -/
def mixOrderWrong : ChangeSpec := { name := "mixOrder", fn := fun _ => fun
  | [d1, d2, d3] => { results := [.lit (.bool false)], args := [d1, d2, d3] }
  | _ => none }
def MixOrderWrongFalsely : Prop := mixOrderRow.holds Try.pinned (OpenSpec.ofChange mixOrderWrong)

/- THE SECOND FORM. 'bulk': how many values and letters a reading holds, each counted each time it is reached (what is shared counts as often as it is met; a slice's spare places count too). A statement '..UptoSaid' is the law's where the arguments, and the package variables that the reading takes, are together of bulk at most 1048576: NARROWER than '..Said'. Prove '..Said' where nothing that the law and all that it calls make is longer than what came in: it says more and counts as full. Else prove '..UptoSaid'. A law counts once. -/
mutual
def uptoBulk {H : Type} : DataW H → Nat
  | .lit (.string bytes) => bytes.length + 1
  | .lit _ => 1
  | .nil => 1
  | .ptr d => uptoBulk d + 1
  | .slice elems spare => uptoBulkAll elems + uptoBulkAll spare + 1
  | .agg parts => uptoBulkAll parts + 1
  | .iface _ d => uptoBulk d + 1
  | .map entries => uptoBulkEntries entries + 1
  | .held _ => 1
def uptoBulkAll {H : Type} : List (DataW H) → Nat
  | [] => 0
  | d :: r => uptoBulk d + uptoBulkAll r
def uptoBulkEntries {H : Type} : List (Lit × DataW H) → Nat
  | [] => 0
  | x :: r => uptoBulkEntry x + uptoBulkEntries r
def uptoBulkEntry {H : Type} : Lit × DataW H → Nat
  | (.string bytes, d) => bytes.length + uptoBulk d + 1
  | (_, d) => uptoBulk d + 1
 end
def uptoSmall : (H : Type) → List (DataW H) → Bool := fun _ ds => decide (uptoBulkAll ds ≤ 1048576)
def OpenSpec.upto (s : _root_.Go.ChangeSpec) : _root_.Go.OpenSpec := { _root_.Go.OpenSpec.ofChange s with cond := some uptoSmall }

/-- 'icehouselaw0.Names', WHERE WHAT IT READS IS OF BULK AT MOST 1048576: true; the input reads as it did. -/
def namesUptoRow : OpenClaim := { program := "ytphchccikphblaa", sum := "219d594d51c7af6abcb361a593c08e031dcb8e7f59090162f5c934cbad528c12", func := "icehouse/icehouselaw0.Names", spec := "names", apart := false, narrowed := true }
def NamesUptoSaid : Prop := namesUptoRow.holds Try.pinned (OpenSpec.upto namesSpec)

/-- 'icehouselaw3.CrcParts', WHERE WHAT IT READS IS OF BULK AT MOST 1048576: true; the input reads as it did. -/
def crcPartsUptoRow : OpenClaim := { program := "ytphchccikphblaa", sum := "219d594d51c7af6abcb361a593c08e031dcb8e7f59090162f5c934cbad528c12", func := "icehouse/icehouselaw3.CrcParts", spec := "crcParts", apart := false, narrowed := true }
def CrcPartsUptoSaid : Prop := crcPartsUptoRow.holds Try.pinned (OpenSpec.upto crcPartsSpec)

/-- 'icehouselaw3.CrcBurst', WHERE WHAT IT READS IS OF BULK AT MOST 1048576: true; the input reads as it did. -/
def crcBurstUptoRow : OpenClaim := { program := "ytphchccikphblaa", sum := "219d594d51c7af6abcb361a593c08e031dcb8e7f59090162f5c934cbad528c12", func := "icehouse/icehouselaw3.CrcBurst", spec := "crcBurst", apart := false, narrowed := true }
def CrcBurstUptoSaid : Prop := crcBurstUptoRow.holds Try.pinned (OpenSpec.upto crcBurstSpec)

/-- 'icehouselaw3.CrcThree', WHERE WHAT IT READS IS OF BULK AT MOST 1048576: true; the input reads as it did. -/
def crcThreeUptoRow : OpenClaim := { program := "ytphchccikphblaa", sum := "219d594d51c7af6abcb361a593c08e031dcb8e7f59090162f5c934cbad528c12", func := "icehouse/icehouselaw3.CrcThree", spec := "crcThree", apart := false, narrowed := true }
def CrcThreeUptoSaid : Prop := crcThreeUptoRow.holds Try.pinned (OpenSpec.upto crcThreeSpec)

/-- 'icehouselaw3.CrcCuts', WHERE WHAT IT READS IS OF BULK AT MOST 1048576: true; the input reads as it did. -/
def crcCutsUptoRow : OpenClaim := { program := "ytphchccikphblaa", sum := "219d594d51c7af6abcb361a593c08e031dcb8e7f59090162f5c934cbad528c12", func := "icehouse/icehouselaw3.CrcCuts", spec := "crcCuts", apart := false, narrowed := true }
def CrcCutsUptoSaid : Prop := crcCutsUptoRow.holds Try.pinned (OpenSpec.upto crcCutsSpec)

/-- 'icehouselaw1.MixOf', WHERE WHAT IT READS IS OF BULK AT MOST 1048576: true; the input reads as it did. -/
def mixOfUptoRow : OpenClaim := { program := "ytphchccikphblaa", sum := "219d594d51c7af6abcb361a593c08e031dcb8e7f59090162f5c934cbad528c12", func := "icehouse/icehouselaw1.MixOf", spec := "mixOf", apart := false, narrowed := true }
def MixOfUptoSaid : Prop := mixOfUptoRow.holds Try.pinned (OpenSpec.upto mixOfSpec)

/-- 'icehouselaw1.MixStir', WHERE WHAT IT READS IS OF BULK AT MOST 1048576: true; the input reads as it did. -/
def mixStirUptoRow : OpenClaim := { program := "ytphchccikphblaa", sum := "219d594d51c7af6abcb361a593c08e031dcb8e7f59090162f5c934cbad528c12", func := "icehouse/icehouselaw1.MixStir", spec := "mixStir", apart := false, narrowed := true }
def MixStirUptoSaid : Prop := mixStirUptoRow.holds Try.pinned (OpenSpec.upto mixStirSpec)

/-- 'icehouselaw1.MixBytes', WHERE WHAT IT READS IS OF BULK AT MOST 1048576: true; the input reads as it did. -/
def mixBytesUptoRow : OpenClaim := { program := "ytphchccikphblaa", sum := "219d594d51c7af6abcb361a593c08e031dcb8e7f59090162f5c934cbad528c12", func := "icehouse/icehouselaw1.MixBytes", spec := "mixBytes", apart := false, narrowed := true }
def MixBytesUptoSaid : Prop := mixBytesUptoRow.holds Try.pinned (OpenSpec.upto mixBytesSpec)

/-- 'icehouselaw1.MixOrder', WHERE WHAT IT READS IS OF BULK AT MOST 1048576: true; the input reads as it did. -/
def mixOrderUptoRow : OpenClaim := { program := "ytphchccikphblaa", sum := "219d594d51c7af6abcb361a593c08e031dcb8e7f59090162f5c934cbad528c12", func := "icehouse/icehouselaw1.MixOrder", spec := "mixOrder", apart := false, narrowed := true }
def MixOrderUptoSaid : Prop := mixOrderUptoRow.holds Try.pinned (OpenSpec.upto mixOrderSpec)

end Rows
end Go.Proofs.Ytphchccikphblaa
