/- Facts of the program that this seat translates, each looked at by evaluation. No condition. -/
import Derived.Test.YtlhekbjidppijaaGreatRows
import Derived.ProofKit
namespace Go.Proofs.YtlhekbjidppijaaGreat.whole
set_option maxRecDepth 100000
theorem fact1 : (laidOutB Tryz.prog) = true := by kernel_rfl
theorem fact2 : (mapsRowed Tryz.prog) = true := by kernel_rfl
theorem fact6 : ((Tryz.prog.stops == [])) = true := by kernel_rfl
theorem fact8 : ((Tryz.prog.stopKnobs == [])) = true := by kernel_rfl
theorem fact24 : (Tryz.prog.stopsHeard) = true := by kernel_rfl
theorem fact25 : (Tryz.prog.mayEnter) = true := by kernel_rfl
theorem lifts : (Rows.topFallRow.lifted == Tryz.prog.liftsFinal) = true := by kernel_rfl
theorem make : (Tryz.prog.make == some Rows.topFallRow.make) = true := by kernel_rfl
end Go.Proofs.YtlhekbjidppijaaGreat.whole
