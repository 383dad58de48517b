/-
  No cell of these rows narrows 'for every input' (looked for: loops, veiled, ifaces, maps, wideKeys, modest, calm, conditions, laid).
  DERIVED. THE GIVEN ROWS OF THIS SEAT. 10 by the template 'for every input the law returns true; each argument reads behind the call as it read before'; 0 by the template 'total and deterministic' (their statements: YtlhekbjidppijaaGreatTotals.lean).
  GIVEN WITH THE SEED: the statements are not yours to turn. If you find one false, say at which input.
  Laid BY PROGRAM, IN A SANDBOX (cutbox-rows.mjs): the forced cells as the released guide's own fill.sh prints them over the translation d5fc03309cf4740a… (all of the seat's roots in one cut). By AI agents, Wed Nov 11 2026. No macro, syntax, notation, axiom, sorry.
-/
import Derived.Test.YtlhekbjidppijaaGreatChecked
import GoSem.Claim
import GoSem.ClaimJoined
import GoSem.ClaimMapViews
import Derived.JoinedTies
import Derived.KernelRfl
namespace Go.Proofs.YtlhekbjidppijaaGreat
/- THE CELL 'sum', in the pinned program and in every row, IS THE sha256 OF THE DUMP (.gsa) THAT YtlhekbjidppijaaGreatProg.lean LOADS. Nothing in Lean hashes anything: it is a label: what it is worth is what the hold of that sum in a sandbox is worth. -/
noncomputable def Tryz.pinned : Pinned := { name := "ytlhekbjidppijaagreat", sum := "d5fc03309cf4740a0a09a26fdb5a823e855055d6a70199f704f1028158f6932b", checked := Tryz.checked }
namespace Rows
def none {H : Type} : Left H := { results := [], args := [] }

/-- 'icehousetop.TopKill': WHATEVER THE INPUT: true; the input reads as it did. -/
def topKillSpec : ChangeSpec := { name := "topKill", fn := fun _ => fun
  | [d1, d2, d3] => { results := [.lit (.bool true)], args := [d1, d2, d3] }
  | _ => none }
def topKillRow : OpenClaim := { program := "ytlhekbjidppijaagreat", sum := "d5fc03309cf4740a0a09a26fdb5a823e855055d6a70199f704f1028158f6932b", func := "icehouse/icehousetop.TopKill", spec := "topKill", unfollowed := true, recurses := true, apart := false }
def TopKillSaid : Prop := topKillRow.holds Tryz.pinned (OpenSpec.ofChange topKillSpec)

/-- ITS FALSE NEIGHBOUR: 'it returns false'. Refute it at one input. -/
def topKillWrong : ChangeSpec := { name := "topKill", fn := fun _ => fun
  | [d1, d2, d3] => { results := [.lit (.bool false)], args := [d1, d2, d3] }
  | _ => none }
def TopKillWrongFalsely : Prop := topKillRow.holds Tryz.pinned (OpenSpec.ofChange topKillWrong)

/-- 'icehousetop.TopFill': WHATEVER THE INPUT: true; the input reads as it did. -/
def topFillSpec : ChangeSpec := { name := "topFill", fn := fun _ => fun
  | [d] => { results := [.lit (.bool true)], args := [d] }
  | _ => none }
def topFillRow : OpenClaim := { program := "ytlhekbjidppijaagreat", sum := "d5fc03309cf4740a0a09a26fdb5a823e855055d6a70199f704f1028158f6932b", func := "icehouse/icehousetop.TopFill", spec := "topFill", unfollowed := true, recurses := true, apart := false }
def TopFillSaid : Prop := topFillRow.holds Tryz.pinned (OpenSpec.ofChange topFillSpec)

/-- ITS FALSE NEIGHBOUR: 'it returns false'. Refute it at one input. -/
def topFillWrong : ChangeSpec := { name := "topFill", fn := fun _ => fun
  | [d] => { results := [.lit (.bool false)], args := [d] }
  | _ => none }
def TopFillWrongFalsely : Prop := topFillRow.holds Tryz.pinned (OpenSpec.ofChange topFillWrong)

/-- 'icehousetop.TopFall': WHATEVER THE INPUT: true; the input reads as it did. -/
def topFallSpec : ChangeSpec := { name := "topFall", fn := fun _ => fun
  | [d1, d2, d3] => { results := [.lit (.bool true)], args := [d1, d2, d3] }
  | _ => none }
def topFallRow : OpenClaim := { program := "ytlhekbjidppijaagreat", sum := "d5fc03309cf4740a0a09a26fdb5a823e855055d6a70199f704f1028158f6932b", func := "icehouse/icehousetop.TopFall", spec := "topFall", unfollowed := true, recurses := true, apart := false }
def TopFallSaid : Prop := topFallRow.holds Tryz.pinned (OpenSpec.ofChange topFallSpec)

/-- ITS FALSE NEIGHBOUR: 'it returns false'. Refute it at one input. -/
def topFallWrong : ChangeSpec := { name := "topFall", fn := fun _ => fun
  | [d1, d2, d3] => { results := [.lit (.bool false)], args := [d1, d2, d3] }
  | _ => none }
def TopFallWrongFalsely : Prop := topFallRow.holds Tryz.pinned (OpenSpec.ofChange topFallWrong)

/-- 'icehousetop.TopForm': WHATEVER THE INPUT: true; the input reads as it did. -/
def topFormSpec : ChangeSpec := { name := "topForm", fn := fun _ => fun
  | [d1, d2] => { results := [.lit (.bool true)], args := [d1, d2] }
  | _ => none }
def topFormRow : OpenClaim := { program := "ytlhekbjidppijaagreat", sum := "d5fc03309cf4740a0a09a26fdb5a823e855055d6a70199f704f1028158f6932b", func := "icehouse/icehousetop.TopForm", spec := "topForm", unfollowed := true, recurses := true, apart := false }
def TopFormSaid : Prop := topFormRow.holds Tryz.pinned (OpenSpec.ofChange topFormSpec)

/-- ITS FALSE NEIGHBOUR: 'it returns false'. Refute it at one input. -/
def topFormWrong : ChangeSpec := { name := "topForm", fn := fun _ => fun
  | [d1, d2] => { results := [.lit (.bool false)], args := [d1, d2] }
  | _ => none }
def TopFormWrongFalsely : Prop := topFormRow.holds Tryz.pinned (OpenSpec.ofChange topFormWrong)

/-- 'icehousetop.TopLease': WHATEVER THE INPUT: true; the input reads as it did. -/
def topLeaseSpec : ChangeSpec := { name := "topLease", fn := fun _ => fun
  | [d] => { results := [.lit (.bool true)], args := [d] }
  | _ => none }
def topLeaseRow : OpenClaim := { program := "ytlhekbjidppijaagreat", sum := "d5fc03309cf4740a0a09a26fdb5a823e855055d6a70199f704f1028158f6932b", func := "icehouse/icehousetop.TopLease", spec := "topLease", unfollowed := true, recurses := true, apart := false }
def TopLeaseSaid : Prop := topLeaseRow.holds Tryz.pinned (OpenSpec.ofChange topLeaseSpec)

/-- ITS FALSE NEIGHBOUR: 'it returns false'. Refute it at one input. -/
def topLeaseWrong : ChangeSpec := { name := "topLease", fn := fun _ => fun
  | [d] => { results := [.lit (.bool false)], args := [d] }
  | _ => none }
def TopLeaseWrongFalsely : Prop := topLeaseRow.holds Tryz.pinned (OpenSpec.ofChange topLeaseWrong)

/-- 'icehousetop.TopTime': WHATEVER THE INPUT: true; the input reads as it did. -/
def topTimeSpec : ChangeSpec := { name := "topTime", fn := fun _ => fun
  | [d1, d2] => { results := [.lit (.bool true)], args := [d1, d2] }
  | _ => none }
def topTimeRow : OpenClaim := { program := "ytlhekbjidppijaagreat", sum := "d5fc03309cf4740a0a09a26fdb5a823e855055d6a70199f704f1028158f6932b", func := "icehouse/icehousetop.TopTime", spec := "topTime", unfollowed := true, recurses := true, apart := false }
def TopTimeSaid : Prop := topTimeRow.holds Tryz.pinned (OpenSpec.ofChange topTimeSpec)

/-- ITS FALSE NEIGHBOUR: 'it returns false'. Refute it at one input. -/
def topTimeWrong : ChangeSpec := { name := "topTime", fn := fun _ => fun
  | [d1, d2] => { results := [.lit (.bool false)], args := [d1, d2] }
  | _ => none }
def TopTimeWrongFalsely : Prop := topTimeRow.holds Tryz.pinned (OpenSpec.ofChange topTimeWrong)

/-- 'icehousetop.TopAbsent': WHATEVER THE INPUT: true; the input reads as it did. -/
def topAbsentSpec : ChangeSpec := { name := "topAbsent", fn := fun _ => fun
  | [d1, d2] => { results := [.lit (.bool true)], args := [d1, d2] }
  | _ => none }
def topAbsentRow : OpenClaim := { program := "ytlhekbjidppijaagreat", sum := "d5fc03309cf4740a0a09a26fdb5a823e855055d6a70199f704f1028158f6932b", func := "icehouse/icehousetop.TopAbsent", spec := "topAbsent", unfollowed := true, recurses := true, apart := false }
def TopAbsentSaid : Prop := topAbsentRow.holds Tryz.pinned (OpenSpec.ofChange topAbsentSpec)

/-- ITS FALSE NEIGHBOUR: 'it returns false'. Refute it at one input. -/
def topAbsentWrong : ChangeSpec := { name := "topAbsent", fn := fun _ => fun
  | [d1, d2] => { results := [.lit (.bool false)], args := [d1, d2] }
  | _ => none }
def TopAbsentWrongFalsely : Prop := topAbsentRow.holds Tryz.pinned (OpenSpec.ofChange topAbsentWrong)

/-- 'icehousetop.TopLostAsk': WHATEVER THE INPUT: true; the input reads as it did. -/
def topLostAskSpec : ChangeSpec := { name := "topLostAsk", fn := fun _ => fun
  | [d1, d2] => { results := [.lit (.bool true)], args := [d1, d2] }
  | _ => none }
def topLostAskRow : OpenClaim := { program := "ytlhekbjidppijaagreat", sum := "d5fc03309cf4740a0a09a26fdb5a823e855055d6a70199f704f1028158f6932b", func := "icehouse/icehousetop.TopLostAsk", spec := "topLostAsk", unfollowed := true, recurses := true, apart := false }
def TopLostAskSaid : Prop := topLostAskRow.holds Tryz.pinned (OpenSpec.ofChange topLostAskSpec)

/-- ITS FALSE NEIGHBOUR: 'it returns false'. Refute it at one input. -/
def topLostAskWrong : ChangeSpec := { name := "topLostAsk", fn := fun _ => fun
  | [d1, d2] => { results := [.lit (.bool false)], args := [d1, d2] }
  | _ => none }
def TopLostAskWrongFalsely : Prop := topLostAskRow.holds Tryz.pinned (OpenSpec.ofChange topLostAskWrong)

/-- 'icehousetop.TopAnswerLate': WHATEVER THE INPUT: true; the input reads as it did. -/
def topAnswerLateSpec : ChangeSpec := { name := "topAnswerLate", fn := fun _ => fun
  | [d] => { results := [.lit (.bool true)], args := [d] }
  | _ => none }
def topAnswerLateRow : OpenClaim := { program := "ytlhekbjidppijaagreat", sum := "d5fc03309cf4740a0a09a26fdb5a823e855055d6a70199f704f1028158f6932b", func := "icehouse/icehousetop.TopAnswerLate", spec := "topAnswerLate", unfollowed := true, recurses := true, apart := false }
def TopAnswerLateSaid : Prop := topAnswerLateRow.holds Tryz.pinned (OpenSpec.ofChange topAnswerLateSpec)

/-- ITS FALSE NEIGHBOUR: 'it returns false'. Refute it at one input. -/
def topAnswerLateWrong : ChangeSpec := { name := "topAnswerLate", fn := fun _ => fun
  | [d] => { results := [.lit (.bool false)], args := [d] }
  | _ => none }
def TopAnswerLateWrongFalsely : Prop := topAnswerLateRow.holds Tryz.pinned (OpenSpec.ofChange topAnswerLateWrong)

/-- 'icehousetop.TopSpread': WHATEVER THE INPUT: true; the input reads as it did. -/
def topSpreadSpec : ChangeSpec := { name := "topSpread", fn := fun _ => fun
  | [d] => { results := [.lit (.bool true)], args := [d] }
  | _ => none }
def topSpreadRow : OpenClaim := { program := "ytlhekbjidppijaagreat", sum := "d5fc03309cf4740a0a09a26fdb5a823e855055d6a70199f704f1028158f6932b", func := "icehouse/icehousetop.TopSpread", spec := "topSpread", unfollowed := true, recurses := true, apart := false }
def TopSpreadSaid : Prop := topSpreadRow.holds Tryz.pinned (OpenSpec.ofChange topSpreadSpec)

/-- ITS FALSE NEIGHBOUR: 'it returns false'. Refute it at one input. -/
def topSpreadWrong : ChangeSpec := { name := "topSpread", fn := fun _ => fun
  | [d] => { results := [.lit (.bool false)], args := [d] }
  | _ => none }
def TopSpreadWrongFalsely : Prop := topSpreadRow.holds Tryz.pinned (OpenSpec.ofChange topSpreadWrong)

/- THE SECOND FORM. 'bulk': how many values and letters a reading holds, each counted each time it is reached (what is shared counts as often as it is met; a slice's spare places count too). A statement '..UptoSaid' is the law's where the arguments, and the package variables that the reading takes, are together of bulk at most 1048576: NARROWER than '..Said'. Prove '..Said' where nothing that the law and all that it calls make is longer than what came in: it says more and counts as full. Else prove '..UptoSaid'. A law counts once. -/
mutual
def uptoBulk {H : Type} : DataW H → Nat
  | .lit (.string bytes) => bytes.length + 1
  | .lit _ => 1
  | .nil => 1
  | .ptr d => uptoBulk d + 1
  | .slice elems spare => uptoBulkAll elems + uptoBulkAll spare + 1
  | .agg parts => uptoBulkAll parts + 1
  | .iface _ d => uptoBulk d + 1
  | .map entries => uptoBulkEntries entries + 1
  | .held _ => 1
def uptoBulkAll {H : Type} : List (DataW H) → Nat
  | [] => 0
  | d :: r => uptoBulk d + uptoBulkAll r
def uptoBulkEntries {H : Type} : List (Lit × DataW H) → Nat
  | [] => 0
  | x :: r => uptoBulkEntry x + uptoBulkEntries r
def uptoBulkEntry {H : Type} : Lit × DataW H → Nat
  | (.string bytes, d) => bytes.length + uptoBulk d + 1
  | (_, d) => uptoBulk d + 1
 end
def uptoSmall : (H : Type) → List (DataW H) → Bool := fun _ ds => decide (uptoBulkAll ds ≤ 1048576)
def OpenSpec.upto (s : _root_.Go.ChangeSpec) : _root_.Go.OpenSpec := { _root_.Go.OpenSpec.ofChange s with cond := some uptoSmall }

/-- 'icehousetop.TopKill', WHERE WHAT IT READS IS OF BULK AT MOST 1048576: true; the input reads as it did. -/
def topKillUptoRow : OpenClaim := { program := "ytlhekbjidppijaagreat", sum := "d5fc03309cf4740a0a09a26fdb5a823e855055d6a70199f704f1028158f6932b", func := "icehouse/icehousetop.TopKill", spec := "topKill", unfollowed := true, recurses := true, apart := false, narrowed := true }
def TopKillUptoSaid : Prop := topKillUptoRow.holds Tryz.pinned (OpenSpec.upto topKillSpec)

/-- 'icehousetop.TopFill', WHERE WHAT IT READS IS OF BULK AT MOST 1048576: true; the input reads as it did. -/
def topFillUptoRow : OpenClaim := { program := "ytlhekbjidppijaagreat", sum := "d5fc03309cf4740a0a09a26fdb5a823e855055d6a70199f704f1028158f6932b", func := "icehouse/icehousetop.TopFill", spec := "topFill", unfollowed := true, recurses := true, apart := false, narrowed := true }
def TopFillUptoSaid : Prop := topFillUptoRow.holds Tryz.pinned (OpenSpec.upto topFillSpec)

/-- 'icehousetop.TopFall', WHERE WHAT IT READS IS OF BULK AT MOST 1048576: true; the input reads as it did. -/
def topFallUptoRow : OpenClaim := { program := "ytlhekbjidppijaagreat", sum := "d5fc03309cf4740a0a09a26fdb5a823e855055d6a70199f704f1028158f6932b", func := "icehouse/icehousetop.TopFall", spec := "topFall", unfollowed := true, recurses := true, apart := false, narrowed := true }
def TopFallUptoSaid : Prop := topFallUptoRow.holds Tryz.pinned (OpenSpec.upto topFallSpec)

/-- 'icehousetop.TopForm', WHERE WHAT IT READS IS OF BULK AT MOST 1048576: true; the input reads as it did. -/
def topFormUptoRow : OpenClaim := { program := "ytlhekbjidppijaagreat", sum := "d5fc03309cf4740a0a09a26fdb5a823e855055d6a70199f704f1028158f6932b", func := "icehouse/icehousetop.TopForm", spec := "topForm", unfollowed := true, recurses := true, apart := false, narrowed := true }
def TopFormUptoSaid : Prop := topFormUptoRow.holds Tryz.pinned (OpenSpec.upto topFormSpec)

/-- 'icehousetop.TopLease', WHERE WHAT IT READS IS OF BULK AT MOST 1048576: true; the input reads as it did. -/
def topLeaseUptoRow : OpenClaim := { program := "ytlhekbjidppijaagreat", sum := "d5fc03309cf4740a0a09a26fdb5a823e855055d6a70199f704f1028158f6932b", func := "icehouse/icehousetop.TopLease", spec := "topLease", unfollowed := true, recurses := true, apart := false, narrowed := true }
def TopLeaseUptoSaid : Prop := topLeaseUptoRow.holds Tryz.pinned (OpenSpec.upto topLeaseSpec)

/-- 'icehousetop.TopTime', WHERE WHAT IT READS IS OF BULK AT MOST 1048576: true; the input reads as it did. -/
def topTimeUptoRow : OpenClaim := { program := "ytlhekbjidppijaagreat", sum := "d5fc03309cf4740a0a09a26fdb5a823e855055d6a70199f704f1028158f6932b", func := "icehouse/icehousetop.TopTime", spec := "topTime", unfollowed := true, recurses := true, apart := false, narrowed := true }
def TopTimeUptoSaid : Prop := topTimeUptoRow.holds Tryz.pinned (OpenSpec.upto topTimeSpec)

/-- 'icehousetop.TopAbsent', WHERE WHAT IT READS IS OF BULK AT MOST 1048576: true; the input reads as it did. -/
def topAbsentUptoRow : OpenClaim := { program := "ytlhekbjidppijaagreat", sum := "d5fc03309cf4740a0a09a26fdb5a823e855055d6a70199f704f1028158f6932b", func := "icehouse/icehousetop.TopAbsent", spec := "topAbsent", unfollowed := true, recurses := true, apart := false, narrowed := true }
def TopAbsentUptoSaid : Prop := topAbsentUptoRow.holds Tryz.pinned (OpenSpec.upto topAbsentSpec)

/-- 'icehousetop.TopLostAsk', WHERE WHAT IT READS IS OF BULK AT MOST 1048576: true; the input reads as it did. -/
def topLostAskUptoRow : OpenClaim := { program := "ytlhekbjidppijaagreat", sum := "d5fc03309cf4740a0a09a26fdb5a823e855055d6a70199f704f1028158f6932b", func := "icehouse/icehousetop.TopLostAsk", spec := "topLostAsk", unfollowed := true, recurses := true, apart := false, narrowed := true }
def TopLostAskUptoSaid : Prop := topLostAskUptoRow.holds Tryz.pinned (OpenSpec.upto topLostAskSpec)

/-- 'icehousetop.TopAnswerLate', WHERE WHAT IT READS IS OF BULK AT MOST 1048576: true; the input reads as it did. -/
def topAnswerLateUptoRow : OpenClaim := { program := "ytlhekbjidppijaagreat", sum := "d5fc03309cf4740a0a09a26fdb5a823e855055d6a70199f704f1028158f6932b", func := "icehouse/icehousetop.TopAnswerLate", spec := "topAnswerLate", unfollowed := true, recurses := true, apart := false, narrowed := true }
def TopAnswerLateUptoSaid : Prop := topAnswerLateUptoRow.holds Tryz.pinned (OpenSpec.upto topAnswerLateSpec)

/-- 'icehousetop.TopSpread', WHERE WHAT IT READS IS OF BULK AT MOST 1048576: true; the input reads as it did. -/
def topSpreadUptoRow : OpenClaim := { program := "ytlhekbjidppijaagreat", sum := "d5fc03309cf4740a0a09a26fdb5a823e855055d6a70199f704f1028158f6932b", func := "icehouse/icehousetop.TopSpread", spec := "topSpread", unfollowed := true, recurses := true, apart := false, narrowed := true }
def TopSpreadUptoSaid : Prop := topSpreadUptoRow.holds Tryz.pinned (OpenSpec.upto topSpreadSpec)

end Rows
end Go.Proofs.YtlhekbjidppijaaGreat
