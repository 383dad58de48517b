/- Facts of the program and of the row TopAnswerLate, each looked at by evaluation. No condition. -/
import Derived.Test.YtlhekbjidppijaaGreatFacts
namespace Go.Proofs.YtlhekbjidppijaaGreat.topAnswerLate
set_option maxRecDepth 100000
theorem fact0 : (Rows.topAnswerLateRow.wf (OpenSpec.ofChange Rows.topAnswerLateSpec)) = true := by kernel_rfl
theorem fact3 : (Tryz.f11.params.all (Tryz.prog.readableRec ·)) = true := by kernel_rfl
theorem fact4 : (namedTie Tryz.prog Rows.topAnswerLateRow.named Rows.topAnswerLateSpec.vars) = true := by kernel_rfl
theorem fact5 : ((Rows.topAnswerLateRow.stops == [])) = true := by kernel_rfl
theorem fact7 : ((Rows.topAnswerLateRow.knobs == [])) = true := by kernel_rfl
theorem fact9 : ((Rows.topAnswerLateRow.inPlace == Tryz.prog.inPlace 11)) = true := by kernel_rfl
theorem fact10 : ((Rows.topAnswerLateRow.unfollowed == Tryz.prog.unfollowed 11)) = true := by kernel_rfl
theorem fact11 : ((Rows.topAnswerLateRow.recurses == Tryz.prog.recurses 11)) = true := by kernel_rfl
theorem fact12 : ((Rows.topAnswerLateRow.named == Tryz.prog.varsNamed 11)) = true := by kernel_rfl
theorem fact13 : ((Rows.topAnswerLateRow.maps == (Tryz.f11.params.toList ++ Rows.topAnswerLateSpec.plain.varTypes Tryz.prog).any (Tryz.prog.mapsRec ·))) = true := by kernel_rfl
theorem fact14 : ((Rows.topAnswerLateRow.ifaces == (Tryz.f11.params.toList ++ Rows.topAnswerLateSpec.plain.varTypes Tryz.prog).any (Tryz.prog.ifacesRec ·))) = true := by kernel_rfl
theorem fact15 : ((Rows.topAnswerLateRow.mapsOut == Tryz.prog.mapsAmong Tryz.f11.resultTypes.toList)) = true := by kernel_rfl
theorem fact16 : ((Rows.topAnswerLateRow.loops == (Tryz.f11.params.toList ++ Rows.topAnswerLateSpec.plain.varTypes Tryz.prog).any (Tryz.prog.loopsFrom ·))) = true := by kernel_rfl
theorem fact17 : ((Rows.topAnswerLateRow.wideKeys == (Tryz.f11.params.toList ++ Rows.topAnswerLateSpec.plain.varTypes Tryz.prog ++ Tryz.f11.resultTypes.toList).any (Tryz.prog.wideKeysFrom ·))) = true := by kernel_rfl
theorem fact18 : (Rows.topAnswerLateSpec.vars.all (Tryz.prog.varReadable ·)) = true := by kernel_rfl
theorem fact19 : (Tryz.f11.resultTypes.all (fun t => Tryz.prog.readableRec t && decide (t < Tryz.prog.types.size))) = true := by kernel_rfl
theorem fact20 : ((Rows.topAnswerLateRow.ifacesOut == Tryz.f11.resultTypes.toList.any (Tryz.prog.ifacesRec ·))) = true := by kernel_rfl
theorem fact21 : ((Rows.topAnswerLateRow.loopsOut == Tryz.f11.resultTypes.toList.any (Tryz.prog.loopsFrom ·))) = true := by kernel_rfl
theorem fact22 : ((Rows.topAnswerLateRow.plainKeys == Tryz.prog.plainKeys)) = true := by kernel_rfl
theorem fact23 : (Rows.topAnswerLateRow.shortTexts.isNone) = true := by kernel_rfl
theorem fact26 : ((Rows.topAnswerLateRow.lifted == Tryz.prog.liftsFinal)) = true := whole.lifts
theorem fact27 : ((Tryz.prog.make == some Rows.topAnswerLateRow.make)) = true := whole.make
theorem fact28 : ((Rows.topAnswerLateRow.kinds == (if Rows.topAnswerLateRow.domain.isEmpty then [] else Tryz.f11.params.toList.map fun t => match Tryz.prog.underlying t with | some (.int k) => some k | _ => none))) = true := by kernel_rfl
theorem fact29 : ((Rows.topAnswerLateRow.pinned == Rows.topAnswerLateRow.pinnedBy)) = true := by kernel_rfl
theorem fact30 : ((Rows.topAnswerLateRow.veiled == (Tryz.f11.params.toList ++ Rows.topAnswerLateSpec.plain.varTypes Tryz.prog ++ Tryz.f11.resultTypes.toList).any (Tryz.prog.veiledRec ·))) = true := by kernel_rfl
theorem fact31 : (Rows.topAnswerLateRow.veiledFits Tryz.prog Tryz.f11.params.toList (Tryz.f11.params.toList ++ Rows.topAnswerLateSpec.plain.varTypes Tryz.prog ++ Tryz.f11.resultTypes.toList)) = true := by kernel_rfl
theorem closed : joinedFacts Tryz.prog 11 Tryz.f11 Rows.topAnswerLateSpec Rows.topAnswerLateRow = true := by
  unfold joinedFacts
  simp only [Bool.and_eq_true]
  exact ⟨⟨⟨⟨⟨⟨⟨⟨⟨⟨⟨⟨⟨⟨⟨⟨⟨⟨⟨⟨⟨⟨⟨⟨⟨⟨⟨⟨⟨⟨⟨fact0, whole.fact1⟩, whole.fact2⟩, fact3⟩, fact4⟩, fact5⟩, whole.fact6⟩, fact7⟩, whole.fact8⟩, fact9⟩, fact10⟩, fact11⟩, fact12⟩, fact13⟩, fact14⟩, fact15⟩, fact16⟩, fact17⟩, fact18⟩, fact19⟩, fact20⟩, fact21⟩, fact22⟩, fact23⟩, whole.fact24⟩, whole.fact25⟩, fact26⟩, fact27⟩, fact28⟩, fact29⟩, fact30⟩, fact31⟩
theorem named : Tryz.prog.funcNamed Rows.topAnswerLateRow.func = some 11 := by kernel_rfl
theorem inst : Tryz.f11.isInstance Tryz.prog Rows.topAnswerLateRow.origin Rows.topAnswerLateRow.targs := of_decide_eq_true (by kernel_rfl)
theorem wrap : Tryz.f11.isWrapper Tryz.prog Rows.topAnswerLateRow.wrapper Rows.topAnswerLateRow.mainSum := by unfold Func.isWrapper; first | (rw [if_pos (by decide +kernel)]; kernel_rfl) | (rw [if_neg (by decide +kernel)]; exact ⟨rfl, rfl⟩)
end Go.Proofs.YtlhekbjidppijaaGreat.topAnswerLate
