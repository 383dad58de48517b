/- Facts of the program and of the row TopSpread, each looked at by evaluation. No condition. -/
import Derived.Test.YtlhekbjidppijaaGreatFacts
namespace Go.Proofs.YtlhekbjidppijaaGreat.topSpread
set_option maxRecDepth 100000
theorem fact0 : (Rows.topSpreadRow.wf (OpenSpec.ofChange Rows.topSpreadSpec)) = true := by kernel_rfl
theorem fact3 : (Tryz.f12.params.all (Tryz.prog.readableRec ·)) = true := by kernel_rfl
theorem fact4 : (namedTie Tryz.prog Rows.topSpreadRow.named Rows.topSpreadSpec.vars) = true := by kernel_rfl
theorem fact5 : ((Rows.topSpreadRow.stops == [])) = true := by kernel_rfl
theorem fact7 : ((Rows.topSpreadRow.knobs == [])) = true := by kernel_rfl
theorem fact9 : ((Rows.topSpreadRow.inPlace == Tryz.prog.inPlace 12)) = true := by kernel_rfl
theorem fact10 : ((Rows.topSpreadRow.unfollowed == Tryz.prog.unfollowed 12)) = true := by kernel_rfl
theorem fact11 : ((Rows.topSpreadRow.recurses == Tryz.prog.recurses 12)) = true := by kernel_rfl
theorem fact12 : ((Rows.topSpreadRow.named == Tryz.prog.varsNamed 12)) = true := by kernel_rfl
theorem fact13 : ((Rows.topSpreadRow.maps == (Tryz.f12.params.toList ++ Rows.topSpreadSpec.plain.varTypes Tryz.prog).any (Tryz.prog.mapsRec ·))) = true := by kernel_rfl
theorem fact14 : ((Rows.topSpreadRow.ifaces == (Tryz.f12.params.toList ++ Rows.topSpreadSpec.plain.varTypes Tryz.prog).any (Tryz.prog.ifacesRec ·))) = true := by kernel_rfl
theorem fact15 : ((Rows.topSpreadRow.mapsOut == Tryz.prog.mapsAmong Tryz.f12.resultTypes.toList)) = true := by kernel_rfl
theorem fact16 : ((Rows.topSpreadRow.loops == (Tryz.f12.params.toList ++ Rows.topSpreadSpec.plain.varTypes Tryz.prog).any (Tryz.prog.loopsFrom ·))) = true := by kernel_rfl
theorem fact17 : ((Rows.topSpreadRow.wideKeys == (Tryz.f12.params.toList ++ Rows.topSpreadSpec.plain.varTypes Tryz.prog ++ Tryz.f12.resultTypes.toList).any (Tryz.prog.wideKeysFrom ·))) = true := by kernel_rfl
theorem fact18 : (Rows.topSpreadSpec.vars.all (Tryz.prog.varReadable ·)) = true := by kernel_rfl
theorem fact19 : (Tryz.f12.resultTypes.all (fun t => Tryz.prog.readableRec t && decide (t < Tryz.prog.types.size))) = true := by kernel_rfl
theorem fact20 : ((Rows.topSpreadRow.ifacesOut == Tryz.f12.resultTypes.toList.any (Tryz.prog.ifacesRec ·))) = true := by kernel_rfl
theorem fact21 : ((Rows.topSpreadRow.loopsOut == Tryz.f12.resultTypes.toList.any (Tryz.prog.loopsFrom ·))) = true := by kernel_rfl
theorem fact22 : ((Rows.topSpreadRow.plainKeys == Tryz.prog.plainKeys)) = true := by kernel_rfl
theorem fact23 : (Rows.topSpreadRow.shortTexts.isNone) = true := by kernel_rfl
theorem fact26 : ((Rows.topSpreadRow.lifted == Tryz.prog.liftsFinal)) = true := whole.lifts
theorem fact27 : ((Tryz.prog.make == some Rows.topSpreadRow.make)) = true := whole.make
theorem fact28 : ((Rows.topSpreadRow.kinds == (if Rows.topSpreadRow.domain.isEmpty then [] else Tryz.f12.params.toList.map fun t => match Tryz.prog.underlying t with | some (.int k) => some k | _ => none))) = true := by kernel_rfl
theorem fact29 : ((Rows.topSpreadRow.pinned == Rows.topSpreadRow.pinnedBy)) = true := by kernel_rfl
theorem fact30 : ((Rows.topSpreadRow.veiled == (Tryz.f12.params.toList ++ Rows.topSpreadSpec.plain.varTypes Tryz.prog ++ Tryz.f12.resultTypes.toList).any (Tryz.prog.veiledRec ·))) = true := by kernel_rfl
theorem fact31 : (Rows.topSpreadRow.veiledFits Tryz.prog Tryz.f12.params.toList (Tryz.f12.params.toList ++ Rows.topSpreadSpec.plain.varTypes Tryz.prog ++ Tryz.f12.resultTypes.toList)) = true := by kernel_rfl
theorem closed : joinedFacts Tryz.prog 12 Tryz.f12 Rows.topSpreadSpec Rows.topSpreadRow = true := by
  unfold joinedFacts
  simp only [Bool.and_eq_true]
  exact ⟨⟨⟨⟨⟨⟨⟨⟨⟨⟨⟨⟨⟨⟨⟨⟨⟨⟨⟨⟨⟨⟨⟨⟨⟨⟨⟨⟨⟨⟨⟨fact0, whole.fact1⟩, whole.fact2⟩, fact3⟩, fact4⟩, fact5⟩, whole.fact6⟩, fact7⟩, whole.fact8⟩, fact9⟩, fact10⟩, fact11⟩, fact12⟩, fact13⟩, fact14⟩, fact15⟩, fact16⟩, fact17⟩, fact18⟩, fact19⟩, fact20⟩, fact21⟩, fact22⟩, fact23⟩, whole.fact24⟩, whole.fact25⟩, fact26⟩, fact27⟩, fact28⟩, fact29⟩, fact30⟩, fact31⟩
theorem named : Tryz.prog.funcNamed Rows.topSpreadRow.func = some 12 := by kernel_rfl
theorem inst : Tryz.f12.isInstance Tryz.prog Rows.topSpreadRow.origin Rows.topSpreadRow.targs := of_decide_eq_true (by kernel_rfl)
theorem wrap : Tryz.f12.isWrapper Tryz.prog Rows.topSpreadRow.wrapper Rows.topSpreadRow.mainSum := by unfold Func.isWrapper; first | (rw [if_pos (by decide +kernel)]; kernel_rfl) | (rw [if_neg (by decide +kernel)]; exact ⟨rfl, rfl⟩)
end Go.Proofs.YtlhekbjidppijaaGreat.topSpread
