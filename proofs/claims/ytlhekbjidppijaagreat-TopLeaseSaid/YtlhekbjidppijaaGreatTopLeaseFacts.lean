/- Facts of the program and of the row TopLease, each looked at by evaluation. No condition. -/
import Derived.Test.YtlhekbjidppijaaGreatFacts
namespace Go.Proofs.YtlhekbjidppijaaGreat.topLease
set_option maxRecDepth 100000
theorem fact0 : (Rows.topLeaseRow.wf (OpenSpec.ofChange Rows.topLeaseSpec)) = true := by kernel_rfl
theorem fact3 : (Tryz.f7.params.all (Tryz.prog.readableRec ·)) = true := by kernel_rfl
theorem fact4 : (namedTie Tryz.prog Rows.topLeaseRow.named Rows.topLeaseSpec.vars) = true := by kernel_rfl
theorem fact5 : ((Rows.topLeaseRow.stops == [])) = true := by kernel_rfl
theorem fact7 : ((Rows.topLeaseRow.knobs == [])) = true := by kernel_rfl
theorem fact9 : ((Rows.topLeaseRow.inPlace == Tryz.prog.inPlace 7)) = true := by kernel_rfl
theorem fact10 : ((Rows.topLeaseRow.unfollowed == Tryz.prog.unfollowed 7)) = true := by kernel_rfl
theorem fact11 : ((Rows.topLeaseRow.recurses == Tryz.prog.recurses 7)) = true := by kernel_rfl
theorem fact12 : ((Rows.topLeaseRow.named == Tryz.prog.varsNamed 7)) = true := by kernel_rfl
theorem fact13 : ((Rows.topLeaseRow.maps == (Tryz.f7.params.toList ++ Rows.topLeaseSpec.plain.varTypes Tryz.prog).any (Tryz.prog.mapsRec ·))) = true := by kernel_rfl
theorem fact14 : ((Rows.topLeaseRow.ifaces == (Tryz.f7.params.toList ++ Rows.topLeaseSpec.plain.varTypes Tryz.prog).any (Tryz.prog.ifacesRec ·))) = true := by kernel_rfl
theorem fact15 : ((Rows.topLeaseRow.mapsOut == Tryz.prog.mapsAmong Tryz.f7.resultTypes.toList)) = true := by kernel_rfl
theorem fact16 : ((Rows.topLeaseRow.loops == (Tryz.f7.params.toList ++ Rows.topLeaseSpec.plain.varTypes Tryz.prog).any (Tryz.prog.loopsFrom ·))) = true := by kernel_rfl
theorem fact17 : ((Rows.topLeaseRow.wideKeys == (Tryz.f7.params.toList ++ Rows.topLeaseSpec.plain.varTypes Tryz.prog ++ Tryz.f7.resultTypes.toList).any (Tryz.prog.wideKeysFrom ·))) = true := by kernel_rfl
theorem fact18 : (Rows.topLeaseSpec.vars.all (Tryz.prog.varReadable ·)) = true := by kernel_rfl
theorem fact19 : (Tryz.f7.resultTypes.all (fun t => Tryz.prog.readableRec t && decide (t < Tryz.prog.types.size))) = true := by kernel_rfl
theorem fact20 : ((Rows.topLeaseRow.ifacesOut == Tryz.f7.resultTypes.toList.any (Tryz.prog.ifacesRec ·))) = true := by kernel_rfl
theorem fact21 : ((Rows.topLeaseRow.loopsOut == Tryz.f7.resultTypes.toList.any (Tryz.prog.loopsFrom ·))) = true := by kernel_rfl
theorem fact22 : ((Rows.topLeaseRow.plainKeys == Tryz.prog.plainKeys)) = true := by kernel_rfl
theorem fact23 : (Rows.topLeaseRow.shortTexts.isNone) = true := by kernel_rfl
theorem fact26 : ((Rows.topLeaseRow.lifted == Tryz.prog.liftsFinal)) = true := whole.lifts
theorem fact27 : ((Tryz.prog.make == some Rows.topLeaseRow.make)) = true := whole.make
theorem fact28 : ((Rows.topLeaseRow.kinds == (if Rows.topLeaseRow.domain.isEmpty then [] else Tryz.f7.params.toList.map fun t => match Tryz.prog.underlying t with | some (.int k) => some k | _ => none))) = true := by kernel_rfl
theorem fact29 : ((Rows.topLeaseRow.pinned == Rows.topLeaseRow.pinnedBy)) = true := by kernel_rfl
theorem fact30 : ((Rows.topLeaseRow.veiled == (Tryz.f7.params.toList ++ Rows.topLeaseSpec.plain.varTypes Tryz.prog ++ Tryz.f7.resultTypes.toList).any (Tryz.prog.veiledRec ·))) = true := by kernel_rfl
theorem fact31 : (Rows.topLeaseRow.veiledFits Tryz.prog Tryz.f7.params.toList (Tryz.f7.params.toList ++ Rows.topLeaseSpec.plain.varTypes Tryz.prog ++ Tryz.f7.resultTypes.toList)) = true := by kernel_rfl
theorem closed : joinedFacts Tryz.prog 7 Tryz.f7 Rows.topLeaseSpec Rows.topLeaseRow = true := by
  unfold joinedFacts
  simp only [Bool.and_eq_true]
  exact ⟨⟨⟨⟨⟨⟨⟨⟨⟨⟨⟨⟨⟨⟨⟨⟨⟨⟨⟨⟨⟨⟨⟨⟨⟨⟨⟨⟨⟨⟨⟨fact0, whole.fact1⟩, whole.fact2⟩, fact3⟩, fact4⟩, fact5⟩, whole.fact6⟩, fact7⟩, whole.fact8⟩, fact9⟩, fact10⟩, fact11⟩, fact12⟩, fact13⟩, fact14⟩, fact15⟩, fact16⟩, fact17⟩, fact18⟩, fact19⟩, fact20⟩, fact21⟩, fact22⟩, fact23⟩, whole.fact24⟩, whole.fact25⟩, fact26⟩, fact27⟩, fact28⟩, fact29⟩, fact30⟩, fact31⟩
theorem named : Tryz.prog.funcNamed Rows.topLeaseRow.func = some 7 := by kernel_rfl
theorem inst : Tryz.f7.isInstance Tryz.prog Rows.topLeaseRow.origin Rows.topLeaseRow.targs := of_decide_eq_true (by kernel_rfl)
theorem wrap : Tryz.f7.isWrapper Tryz.prog Rows.topLeaseRow.wrapper Rows.topLeaseRow.mainSum := by unfold Func.isWrapper; first | (rw [if_pos (by decide +kernel)]; kernel_rfl) | (rw [if_neg (by decide +kernel)]; exact ⟨rfl, rfl⟩)
end Go.Proofs.YtlhekbjidppijaaGreat.topLease
