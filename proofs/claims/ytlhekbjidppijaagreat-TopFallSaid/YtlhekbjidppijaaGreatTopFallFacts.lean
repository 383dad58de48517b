/- Facts of the program and of the row TopFall, each looked at by evaluation. No condition. -/
import Derived.Test.YtlhekbjidppijaaGreatFacts
namespace Go.Proofs.YtlhekbjidppijaaGreat.topFall
set_option maxRecDepth 100000
theorem fact0 : (Rows.topFallRow.wf (OpenSpec.ofChange Rows.topFallSpec)) = true := by kernel_rfl
theorem fact3 : (Tryz.f5.params.all (Tryz.prog.readableRec ·)) = true := by kernel_rfl
theorem fact4 : (namedTie Tryz.prog Rows.topFallRow.named Rows.topFallSpec.vars) = true := by kernel_rfl
theorem fact5 : ((Rows.topFallRow.stops == [])) = true := by kernel_rfl
theorem fact7 : ((Rows.topFallRow.knobs == [])) = true := by kernel_rfl
theorem fact9 : ((Rows.topFallRow.inPlace == Tryz.prog.inPlace 5)) = true := by kernel_rfl
theorem fact10 : ((Rows.topFallRow.unfollowed == Tryz.prog.unfollowed 5)) = true := by kernel_rfl
theorem fact11 : ((Rows.topFallRow.recurses == Tryz.prog.recurses 5)) = true := by kernel_rfl
theorem fact12 : ((Rows.topFallRow.named == Tryz.prog.varsNamed 5)) = true := by kernel_rfl
theorem fact13 : ((Rows.topFallRow.maps == (Tryz.f5.params.toList ++ Rows.topFallSpec.plain.varTypes Tryz.prog).any (Tryz.prog.mapsRec ·))) = true := by kernel_rfl
theorem fact14 : ((Rows.topFallRow.ifaces == (Tryz.f5.params.toList ++ Rows.topFallSpec.plain.varTypes Tryz.prog).any (Tryz.prog.ifacesRec ·))) = true := by kernel_rfl
theorem fact15 : ((Rows.topFallRow.mapsOut == Tryz.prog.mapsAmong Tryz.f5.resultTypes.toList)) = true := by kernel_rfl
theorem fact16 : ((Rows.topFallRow.loops == (Tryz.f5.params.toList ++ Rows.topFallSpec.plain.varTypes Tryz.prog).any (Tryz.prog.loopsFrom ·))) = true := by kernel_rfl
theorem fact17 : ((Rows.topFallRow.wideKeys == (Tryz.f5.params.toList ++ Rows.topFallSpec.plain.varTypes Tryz.prog ++ Tryz.f5.resultTypes.toList).any (Tryz.prog.wideKeysFrom ·))) = true := by kernel_rfl
theorem fact18 : (Rows.topFallSpec.vars.all (Tryz.prog.varReadable ·)) = true := by kernel_rfl
theorem fact19 : (Tryz.f5.resultTypes.all (fun t => Tryz.prog.readableRec t && decide (t < Tryz.prog.types.size))) = true := by kernel_rfl
theorem fact20 : ((Rows.topFallRow.ifacesOut == Tryz.f5.resultTypes.toList.any (Tryz.prog.ifacesRec ·))) = true := by kernel_rfl
theorem fact21 : ((Rows.topFallRow.loopsOut == Tryz.f5.resultTypes.toList.any (Tryz.prog.loopsFrom ·))) = true := by kernel_rfl
theorem fact22 : ((Rows.topFallRow.plainKeys == Tryz.prog.plainKeys)) = true := by kernel_rfl
theorem fact23 : (Rows.topFallRow.shortTexts.isNone) = true := by kernel_rfl
theorem fact26 : ((Rows.topFallRow.lifted == Tryz.prog.liftsFinal)) = true := whole.lifts
theorem fact27 : ((Tryz.prog.make == some Rows.topFallRow.make)) = true := whole.make
theorem fact28 : ((Rows.topFallRow.kinds == (if Rows.topFallRow.domain.isEmpty then [] else Tryz.f5.params.toList.map fun t => match Tryz.prog.underlying t with | some (.int k) => some k | _ => none))) = true := by kernel_rfl
theorem fact29 : ((Rows.topFallRow.pinned == Rows.topFallRow.pinnedBy)) = true := by kernel_rfl
theorem fact30 : ((Rows.topFallRow.veiled == (Tryz.f5.params.toList ++ Rows.topFallSpec.plain.varTypes Tryz.prog ++ Tryz.f5.resultTypes.toList).any (Tryz.prog.veiledRec ·))) = true := by kernel_rfl
theorem fact31 : (Rows.topFallRow.veiledFits Tryz.prog Tryz.f5.params.toList (Tryz.f5.params.toList ++ Rows.topFallSpec.plain.varTypes Tryz.prog ++ Tryz.f5.resultTypes.toList)) = true := by kernel_rfl
theorem closed : joinedFacts Tryz.prog 5 Tryz.f5 Rows.topFallSpec Rows.topFallRow = true := by
  unfold joinedFacts
  simp only [Bool.and_eq_true]
  exact ⟨⟨⟨⟨⟨⟨⟨⟨⟨⟨⟨⟨⟨⟨⟨⟨⟨⟨⟨⟨⟨⟨⟨⟨⟨⟨⟨⟨⟨⟨⟨fact0, whole.fact1⟩, whole.fact2⟩, fact3⟩, fact4⟩, fact5⟩, whole.fact6⟩, fact7⟩, whole.fact8⟩, fact9⟩, fact10⟩, fact11⟩, fact12⟩, fact13⟩, fact14⟩, fact15⟩, fact16⟩, fact17⟩, fact18⟩, fact19⟩, fact20⟩, fact21⟩, fact22⟩, fact23⟩, whole.fact24⟩, whole.fact25⟩, fact26⟩, fact27⟩, fact28⟩, fact29⟩, fact30⟩, fact31⟩
theorem named : Tryz.prog.funcNamed Rows.topFallRow.func = some 5 := by kernel_rfl
theorem inst : Tryz.f5.isInstance Tryz.prog Rows.topFallRow.origin Rows.topFallRow.targs := of_decide_eq_true (by kernel_rfl)
theorem wrap : Tryz.f5.isWrapper Tryz.prog Rows.topFallRow.wrapper Rows.topFallRow.mainSum := by unfold Func.isWrapper; first | (rw [if_pos (by decide +kernel)]; kernel_rfl) | (rw [if_neg (by decide +kernel)]; exact ⟨rfl, rfl⟩)
end Go.Proofs.YtlhekbjidppijaaGreat.topFall
