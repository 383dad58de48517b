/- Evaluations for TopKill: of a third of its inputs the plain law says true. No condition. -/
import Derived.Test.YtlhekbjidppijaaGreatMBQ
set_option linter.unusedVariables false
set_option linter.unusedSimpArgs false
namespace Go.Proofs.Ytlhekbjidppijaa
open Go.RowKit
set_option maxRecDepth 100000 in
theorem kill_p40 : killLaw 10 (1,1) (0,0) = true:=by decide +kernel
set_option maxRecDepth 100000 in
theorem kill_p41 : killLaw 10 (1,1) (0,1) = true:=by decide +kernel
set_option maxRecDepth 100000 in
theorem kill_p42 : killLaw 10 (1,1) (0,2) = true:=by decide +kernel
set_option maxRecDepth 100000 in
theorem kill_p43 : killLaw 10 (1,1) (1,0) = true:=by decide +kernel
set_option maxRecDepth 100000 in
theorem kill_p44 : killLaw 10 (1,1) (1,1) = true:=by decide +kernel
set_option maxRecDepth 100000 in
theorem kill_p45 : killLaw 10 (1,1) (1,2) = true:=by decide +kernel
set_option maxRecDepth 100000 in
theorem kill_p50 : killLaw 10 (1,2) (0,0) = true:=by decide +kernel
set_option maxRecDepth 100000 in
theorem kill_p51 : killLaw 10 (1,2) (0,1) = true:=by decide +kernel
set_option maxRecDepth 100000 in
theorem kill_p52 : killLaw 10 (1,2) (0,2) = true:=by decide +kernel
set_option maxRecDepth 100000 in
theorem kill_p53 : killLaw 10 (1,2) (1,0) = true:=by decide +kernel
set_option maxRecDepth 100000 in
theorem kill_p54 : killLaw 10 (1,2) (1,1) = true:=by decide +kernel
set_option maxRecDepth 100000 in
theorem kill_p55 : killLaw 10 (1,2) (1,2) = true:=by decide +kernel
end Go.Proofs.Ytlhekbjidppijaa
