/-
  No cell of these rows narrows 'for every input' (looked for: loops, veiled, ifaces, maps, wideKeys, modest, calm, conditions, laid).
  DERIVED. THE GIVEN ROWS OF THIS SEAT. 7 by the template 'for every input the law returns true; each argument reads behind the call as it read before'; 0 by the template 'total and deterministic' (their statements: YtmblkejgfoffaaaTotals.lean).
  GIVEN WITH THE SEED: the statements are not yours to turn. If you find one false, say at which input.
  Laid BY PROGRAM, IN A SANDBOX (cutbox-rows.mjs): the forced cells as the released guide's own fill.sh prints them over the translation 09429984e5682372… (all of the seat's roots in one cut). By AI agents, Wed Nov 11 2026. No macro, syntax, notation, axiom, sorry.
-/
import Derived.Test.YtmblkejgfoffaaaChecked
import GoSem.Claim
import GoSem.ClaimJoined
import GoSem.ClaimMapViews
import Derived.JoinedTies
import Derived.KernelRfl
namespace Go.Proofs.Ytmblkejgfoffaaa
/- THE CELL 'sum', in the pinned program and in every row, IS THE sha256 OF THE DUMP (.gsa) THAT YtmblkejgfoffaaaProg.lean LOADS. Nothing in Lean hashes anything: it is a label: what it is worth is what the hold of that sum in a sandbox is worth. -/
noncomputable def Try.pinned : Pinned := { name := "ytmblkejgfoffaaa", sum := "09429984e568237242f7ed4aac8c95f489594d1a058f664acfefd8e735dfa9b1", checked := Try.checked }
namespace Rows
def none {H : Type} : Left H := { results := [], args := [] }

/-- 'icehouselaw25.OriginAll': WHATEVER THE INPUT: true; the input reads as it did. -/
def originAllSpec : ChangeSpec := { name := "originAll", fn := fun _ => fun
  | [d1, d2, d3, d4, d5, d6] => { results := [.lit (.bool true)], args := [d1, d2, d3, d4, d5, d6] }
  | _ => none }
def originAllRow : OpenClaim := { program := "ytmblkejgfoffaaa", sum := "09429984e568237242f7ed4aac8c95f489594d1a058f664acfefd8e735dfa9b1", func := "icehouse/icehouselaw25.OriginAll", spec := "originAll", apart := false }
def OriginAllSaid : Prop := originAllRow.holds Try.pinned (OpenSpec.ofChange originAllSpec)

/-- ITS FALSE NEIGHBOUR: 'it returns false'. Refute it at one input. -/
def originAllWrong : ChangeSpec := { name := "originAll", fn := fun _ => fun
  | [d1, d2, d3, d4, d5, d6] => { results := [.lit (.bool false)], args := [d1, d2, d3, d4, d5, d6] }
  | _ => none }
def OriginAllWrongFalsely : Prop := originAllRow.holds Try.pinned (OpenSpec.ofChange originAllWrong)

/-- 'icehouselaw25.OriginHeld': WHATEVER THE INPUT: true; the input reads as it did. -/
def originHeldSpec : ChangeSpec := { name := "originHeld", fn := fun _ => fun
  | [d1, d2, d3, d4, d5] => { results := [.lit (.bool true)], args := [d1, d2, d3, d4, d5] }
  | _ => none }
def originHeldRow : OpenClaim := { program := "ytmblkejgfoffaaa", sum := "09429984e568237242f7ed4aac8c95f489594d1a058f664acfefd8e735dfa9b1", func := "icehouse/icehouselaw25.OriginHeld", spec := "originHeld", apart := false }
def OriginHeldSaid : Prop := originHeldRow.holds Try.pinned (OpenSpec.ofChange originHeldSpec)

/-- ITS FALSE NEIGHBOUR: 'it returns false'. Refute it at one input. -/
def originHeldWrong : ChangeSpec := { name := "originHeld", fn := fun _ => fun
  | [d1, d2, d3, d4, d5] => { results := [.lit (.bool false)], args := [d1, d2, d3, d4, d5] }
  | _ => none }
def OriginHeldWrongFalsely : Prop := originHeldRow.holds Try.pinned (OpenSpec.ofChange originHeldWrong)

/-- 'icehouselaw25.OriginNone': WHATEVER THE INPUT: true; the input reads as it did. -/
def originNoneSpec : ChangeSpec := { name := "originNone", fn := fun _ => fun
  | [] => { results := [.lit (.bool true)], args := [] }
  | _ => none }
def originNoneRow : OpenClaim := { program := "ytmblkejgfoffaaa", sum := "09429984e568237242f7ed4aac8c95f489594d1a058f664acfefd8e735dfa9b1", func := "icehouse/icehouselaw25.OriginNone", spec := "originNone", apart := false }
def OriginNoneSaid : Prop := originNoneRow.holds Try.pinned (OpenSpec.ofChange originNoneSpec)

/-- ITS FALSE NEIGHBOUR: 'it returns false'. Refute it at one input. -/
def originNoneWrong : ChangeSpec := { name := "originNone", fn := fun _ => fun
  | [] => { results := [.lit (.bool false)], args := [] }
  | _ => none }
def OriginNoneWrongFalsely : Prop := originNoneRow.holds Try.pinned (OpenSpec.ofChange originNoneWrong)

/-- 'icehouselaw25.OriginKeys': WHATEVER THE INPUT: true; the input reads as it did. -/
def originKeysSpec : ChangeSpec := { name := "originKeys", fn := fun _ => fun
  | [d1, d2, d3, d4] => { results := [.lit (.bool true)], args := [d1, d2, d3, d4] }
  | _ => none }
def originKeysRow : OpenClaim := { program := "ytmblkejgfoffaaa", sum := "09429984e568237242f7ed4aac8c95f489594d1a058f664acfefd8e735dfa9b1", func := "icehouse/icehouselaw25.OriginKeys", spec := "originKeys", apart := false }
def OriginKeysSaid : Prop := originKeysRow.holds Try.pinned (OpenSpec.ofChange originKeysSpec)

/-- ITS FALSE NEIGHBOUR: 'it returns false'. Refute it at one input. -/
def originKeysWrong : ChangeSpec := { name := "originKeys", fn := fun _ => fun
  | [d1, d2, d3, d4] => { results := [.lit (.bool false)], args := [d1, d2, d3, d4] }
  | _ => none }
def OriginKeysWrongFalsely : Prop := originKeysRow.holds Try.pinned (OpenSpec.ofChange originKeysWrong)

/-- 'icehouselaw25.OriginPast': WHATEVER THE INPUT: true; the input reads as it did. -/
def originPastSpec : ChangeSpec := { name := "originPast", fn := fun _ => fun
  | [d1, d2, d3] => { results := [.lit (.bool true)], args := [d1, d2, d3] }
  | _ => none }
def originPastRow : OpenClaim := { program := "ytmblkejgfoffaaa", sum := "09429984e568237242f7ed4aac8c95f489594d1a058f664acfefd8e735dfa9b1", func := "icehouse/icehouselaw25.OriginPast", spec := "originPast", apart := false }
def OriginPastSaid : Prop := originPastRow.holds Try.pinned (OpenSpec.ofChange originPastSpec)

/-- ITS FALSE NEIGHBOUR: 'it returns false'. Refute it at one input. -/
def originPastWrong : ChangeSpec := { name := "originPast", fn := fun _ => fun
  | [d1, d2, d3] => { results := [.lit (.bool false)], args := [d1, d2, d3] }
  | _ => none }
def OriginPastWrongFalsely : Prop := originPastRow.holds Try.pinned (OpenSpec.ofChange originPastWrong)

/-- 'icehouselaw28.JudgeReads': WHATEVER THE INPUT: true; the input reads as it did. -/
def judgeReadsSpec : ChangeSpec := { name := "judgeReads", fn := fun _ => fun
  | [d1, d2, d3] => { results := [.lit (.bool true)], args := [d1, d2, d3] }
  | _ => none }
def judgeReadsRow : OpenClaim := { program := "ytmblkejgfoffaaa", sum := "09429984e568237242f7ed4aac8c95f489594d1a058f664acfefd8e735dfa9b1", func := "icehouse/icehouselaw28.JudgeReads", spec := "judgeReads", apart := false }
def JudgeReadsSaid : Prop := judgeReadsRow.holds Try.pinned (OpenSpec.ofChange judgeReadsSpec)

/-- ITS FALSE NEIGHBOUR: 'it returns false'. Refute it at one input. -/
def judgeReadsWrong : ChangeSpec := { name := "judgeReads", fn := fun _ => fun
  | [d1, d2, d3] => { results := [.lit (.bool false)], args := [d1, d2, d3] }
  | _ => none }
def JudgeReadsWrongFalsely : Prop := judgeReadsRow.holds Try.pinned (OpenSpec.ofChange judgeReadsWrong)

/-- 'icehouselaw28.JudgeParts': WHATEVER THE INPUT: true; the input reads as it did. -/
def judgePartsSpec : ChangeSpec := { name := "judgeParts", fn := fun _ => fun
  | [d1, d2, d3] => { results := [.lit (.bool true)], args := [d1, d2, d3] }
  | _ => none }
def judgePartsRow : OpenClaim := { program := "ytmblkejgfoffaaa", sum := "09429984e568237242f7ed4aac8c95f489594d1a058f664acfefd8e735dfa9b1", func := "icehouse/icehouselaw28.JudgeParts", spec := "judgeParts", apart := false }
def JudgePartsSaid : Prop := judgePartsRow.holds Try.pinned (OpenSpec.ofChange judgePartsSpec)

/-- ITS FALSE NEIGHBOUR: 'it returns false'. Refute it at one input. -/
def judgePartsWrong : ChangeSpec := { name := "judgeParts", fn := fun _ => fun
  | [d1, d2, d3] => { results := [.lit (.bool false)], args := [d1, d2, d3] }
  | _ => none }
def JudgePartsWrongFalsely : Prop := judgePartsRow.holds Try.pinned (OpenSpec.ofChange judgePartsWrong)

/- THE SECOND FORM. 'bulk': how many values and letters a reading holds, each counted each time it is reached (what is shared counts as often as it is met; a slice's spare places count too). A statement '..UptoSaid' is the law's where the arguments, and the package variables that the reading takes, are together of bulk at most 1048576: NARROWER than '..Said'. Prove '..Said' where nothing that the law and all that it calls make is longer than what came in: it says more and counts as full. Else prove '..UptoSaid'. A law counts once. -/
mutual
def uptoBulk {H : Type} : DataW H → Nat
  | .lit (.string bytes) => bytes.length + 1
  | .lit _ => 1
  | .nil => 1
  | .ptr d => uptoBulk d + 1
  | .slice elems spare => uptoBulkAll elems + uptoBulkAll spare + 1
  | .agg parts => uptoBulkAll parts + 1
  | .iface _ d => uptoBulk d + 1
  | .map entries => uptoBulkEntries entries + 1
  | .held _ => 1
def uptoBulkAll {H : Type} : List (DataW H) → Nat
  | [] => 0
  | d :: r => uptoBulk d + uptoBulkAll r
def uptoBulkEntries {H : Type} : List (Lit × DataW H) → Nat
  | [] => 0
  | x :: r => uptoBulkEntry x + uptoBulkEntries r
def uptoBulkEntry {H : Type} : Lit × DataW H → Nat
  | (.string bytes, d) => bytes.length + uptoBulk d + 1
  | (_, d) => uptoBulk d + 1
 end
def uptoSmall : (H : Type) → List (DataW H) → Bool := fun _ ds => decide (uptoBulkAll ds ≤ 1048576)
def OpenSpec.upto (s : _root_.Go.ChangeSpec) : _root_.Go.OpenSpec := { _root_.Go.OpenSpec.ofChange s with cond := some uptoSmall }

/-- 'icehouselaw25.OriginAll', WHERE WHAT IT READS IS OF BULK AT MOST 1048576: true; the input reads as it did. -/
def originAllUptoRow : OpenClaim := { program := "ytmblkejgfoffaaa", sum := "09429984e568237242f7ed4aac8c95f489594d1a058f664acfefd8e735dfa9b1", func := "icehouse/icehouselaw25.OriginAll", spec := "originAll", apart := false, narrowed := true }
def OriginAllUptoSaid : Prop := originAllUptoRow.holds Try.pinned (OpenSpec.upto originAllSpec)

/-- 'icehouselaw25.OriginHeld', WHERE WHAT IT READS IS OF BULK AT MOST 1048576: true; the input reads as it did. -/
def originHeldUptoRow : OpenClaim := { program := "ytmblkejgfoffaaa", sum := "09429984e568237242f7ed4aac8c95f489594d1a058f664acfefd8e735dfa9b1", func := "icehouse/icehouselaw25.OriginHeld", spec := "originHeld", apart := false, narrowed := true }
def OriginHeldUptoSaid : Prop := originHeldUptoRow.holds Try.pinned (OpenSpec.upto originHeldSpec)

/-- 'icehouselaw25.OriginNone', WHERE WHAT IT READS IS OF BULK AT MOST 1048576: true; the input reads as it did. -/
def originNoneUptoRow : OpenClaim := { program := "ytmblkejgfoffaaa", sum := "09429984e568237242f7ed4aac8c95f489594d1a058f664acfefd8e735dfa9b1", func := "icehouse/icehouselaw25.OriginNone", spec := "originNone", apart := false, narrowed := true }
def OriginNoneUptoSaid : Prop := originNoneUptoRow.holds Try.pinned (OpenSpec.upto originNoneSpec)

/-- 'icehouselaw25.OriginKeys', WHERE WHAT IT READS IS OF BULK AT MOST 1048576: true; the input reads as it did. -/
def originKeysUptoRow : OpenClaim := { program := "ytmblkejgfoffaaa", sum := "09429984e568237242f7ed4aac8c95f489594d1a058f664acfefd8e735dfa9b1", func := "icehouse/icehouselaw25.OriginKeys", spec := "originKeys", apart := false, narrowed := true }
def OriginKeysUptoSaid : Prop := originKeysUptoRow.holds Try.pinned (OpenSpec.upto originKeysSpec)

/-- 'icehouselaw25.OriginPast', WHERE WHAT IT READS IS OF BULK AT MOST 1048576: true; the input reads as it did. -/
def originPastUptoRow : OpenClaim := { program := "ytmblkejgfoffaaa", sum := "09429984e568237242f7ed4aac8c95f489594d1a058f664acfefd8e735dfa9b1", func := "icehouse/icehouselaw25.OriginPast", spec := "originPast", apart := false, narrowed := true }
def OriginPastUptoSaid : Prop := originPastUptoRow.holds Try.pinned (OpenSpec.upto originPastSpec)

/-- 'icehouselaw28.JudgeReads', WHERE WHAT IT READS IS OF BULK AT MOST 1048576: true; the input reads as it did. -/
def judgeReadsUptoRow : OpenClaim := { program := "ytmblkejgfoffaaa", sum := "09429984e568237242f7ed4aac8c95f489594d1a058f664acfefd8e735dfa9b1", func := "icehouse/icehouselaw28.JudgeReads", spec := "judgeReads", apart := false, narrowed := true }
def JudgeReadsUptoSaid : Prop := judgeReadsUptoRow.holds Try.pinned (OpenSpec.upto judgeReadsSpec)

/-- 'icehouselaw28.JudgeParts', WHERE WHAT IT READS IS OF BULK AT MOST 1048576: true; the input reads as it did. -/
def judgePartsUptoRow : OpenClaim := { program := "ytmblkejgfoffaaa", sum := "09429984e568237242f7ed4aac8c95f489594d1a058f664acfefd8e735dfa9b1", func := "icehouse/icehouselaw28.JudgeParts", spec := "judgeParts", apart := false, narrowed := true }
def JudgePartsUptoSaid : Prop := judgePartsUptoRow.holds Try.pinned (OpenSpec.upto judgePartsSpec)

end Rows
end Go.Proofs.Ytmblkejgfoffaaa
