/- Facts of the program and of the row TopAbsent, each looked at by evaluation. No condition. -/
import Derived.Test.YtlhekbjidppijaaGreatFacts
namespace Go.Proofs.YtlhekbjidppijaaGreat.topAbsent
set_option maxRecDepth 100000
theorem fact0 : (Rows.topAbsentRow.wf (OpenSpec.ofChange Rows.topAbsentSpec)) = true := by kernel_rfl
theorem fact3 : (Tryz.f9.params.all (Tryz.prog.readableRec ·)) = true := by kernel_rfl
theorem fact4 : (namedTie Tryz.prog Rows.topAbsentRow.named Rows.topAbsentSpec.vars) = true := by kernel_rfl
theorem fact5 : ((Rows.topAbsentRow.stops == [])) = true := by kernel_rfl
theorem fact7 : ((Rows.topAbsentRow.knobs == [])) = true := by kernel_rfl
theorem fact9 : ((Rows.topAbsentRow.inPlace == Tryz.prog.inPlace 9)) = true := by kernel_rfl
theorem fact10 : ((Rows.topAbsentRow.unfollowed == Tryz.prog.unfollowed 9)) = true := by kernel_rfl
theorem fact11 : ((Rows.topAbsentRow.recurses == Tryz.prog.recurses 9)) = true := by kernel_rfl
theorem fact12 : ((Rows.topAbsentRow.named == Tryz.prog.varsNamed 9)) = true := by kernel_rfl
theorem fact13 : ((Rows.topAbsentRow.maps == (Tryz.f9.params.toList ++ Rows.topAbsentSpec.plain.varTypes Tryz.prog).any (Tryz.prog.mapsRec ·))) = true := by kernel_rfl
theorem fact14 : ((Rows.topAbsentRow.ifaces == (Tryz.f9.params.toList ++ Rows.topAbsentSpec.plain.varTypes Tryz.prog).any (Tryz.prog.ifacesRec ·))) = true := by kernel_rfl
theorem fact15 : ((Rows.topAbsentRow.mapsOut == Tryz.prog.mapsAmong Tryz.f9.resultTypes.toList)) = true := by kernel_rfl
theorem fact16 : ((Rows.topAbsentRow.loops == (Tryz.f9.params.toList ++ Rows.topAbsentSpec.plain.varTypes Tryz.prog).any (Tryz.prog.loopsFrom ·))) = true := by kernel_rfl
theorem fact17 : ((Rows.topAbsentRow.wideKeys == (Tryz.f9.params.toList ++ Rows.topAbsentSpec.plain.varTypes Tryz.prog ++ Tryz.f9.resultTypes.toList).any (Tryz.prog.wideKeysFrom ·))) = true := by kernel_rfl
theorem fact18 : (Rows.topAbsentSpec.vars.all (Tryz.prog.varReadable ·)) = true := by kernel_rfl
theorem fact19 : (Tryz.f9.resultTypes.all (fun t => Tryz.prog.readableRec t && decide (t < Tryz.prog.types.size))) = true := by kernel_rfl
theorem fact20 : ((Rows.topAbsentRow.ifacesOut == Tryz.f9.resultTypes.toList.any (Tryz.prog.ifacesRec ·))) = true := by kernel_rfl
theorem fact21 : ((Rows.topAbsentRow.loopsOut == Tryz.f9.resultTypes.toList.any (Tryz.prog.loopsFrom ·))) = true := by kernel_rfl
theorem fact22 : ((Rows.topAbsentRow.plainKeys == Tryz.prog.plainKeys)) = true := by kernel_rfl
theorem fact23 : (Rows.topAbsentRow.shortTexts.isNone) = true := by kernel_rfl
theorem fact26 : ((Rows.topAbsentRow.lifted == Tryz.prog.liftsFinal)) = true := whole.lifts
theorem fact27 : ((Tryz.prog.make == some Rows.topAbsentRow.make)) = true := whole.make
theorem fact28 : ((Rows.topAbsentRow.kinds == (if Rows.topAbsentRow.domain.isEmpty then [] else Tryz.f9.params.toList.map fun t => match Tryz.prog.underlying t with | some (.int k) => some k | _ => none))) = true := by kernel_rfl
theorem fact29 : ((Rows.topAbsentRow.pinned == Rows.topAbsentRow.pinnedBy)) = true := by kernel_rfl
theorem fact30 : ((Rows.topAbsentRow.veiled == (Tryz.f9.params.toList ++ Rows.topAbsentSpec.plain.varTypes Tryz.prog ++ Tryz.f9.resultTypes.toList).any (Tryz.prog.veiledRec ·))) = true := by kernel_rfl
theorem fact31 : (Rows.topAbsentRow.veiledFits Tryz.prog Tryz.f9.params.toList (Tryz.f9.params.toList ++ Rows.topAbsentSpec.plain.varTypes Tryz.prog ++ Tryz.f9.resultTypes.toList)) = true := by kernel_rfl
theorem closed : joinedFacts Tryz.prog 9 Tryz.f9 Rows.topAbsentSpec Rows.topAbsentRow = true := by
  unfold joinedFacts
  simp only [Bool.and_eq_true]
  exact ⟨⟨⟨⟨⟨⟨⟨⟨⟨⟨⟨⟨⟨⟨⟨⟨⟨⟨⟨⟨⟨⟨⟨⟨⟨⟨⟨⟨⟨⟨⟨fact0, whole.fact1⟩, whole.fact2⟩, fact3⟩, fact4⟩, fact5⟩, whole.fact6⟩, fact7⟩, whole.fact8⟩, fact9⟩, fact10⟩, fact11⟩, fact12⟩, fact13⟩, fact14⟩, fact15⟩, fact16⟩, fact17⟩, fact18⟩, fact19⟩, fact20⟩, fact21⟩, fact22⟩, fact23⟩, whole.fact24⟩, whole.fact25⟩, fact26⟩, fact27⟩, fact28⟩, fact29⟩, fact30⟩, fact31⟩
theorem named : Tryz.prog.funcNamed Rows.topAbsentRow.func = some 9 := by kernel_rfl
theorem inst : Tryz.f9.isInstance Tryz.prog Rows.topAbsentRow.origin Rows.topAbsentRow.targs := of_decide_eq_true (by kernel_rfl)
theorem wrap : Tryz.f9.isWrapper Tryz.prog Rows.topAbsentRow.wrapper Rows.topAbsentRow.mainSum := by unfold Func.isWrapper; first | (rw [if_pos (by decide +kernel)]; kernel_rfl) | (rw [if_neg (by decide +kernel)]; exact ⟨rfl, rfl⟩)
end Go.Proofs.YtlhekbjidppijaaGreat.topAbsent
