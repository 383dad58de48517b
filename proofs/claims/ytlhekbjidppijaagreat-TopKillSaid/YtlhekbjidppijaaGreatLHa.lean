/- Evaluations for TopKill: of a third of its inputs the plain law says true. No condition. -/
import Derived.Test.YtlhekbjidppijaaGreatMBQ
set_option linter.unusedVariables false
set_option linter.unusedSimpArgs false
namespace Go.Proofs.Ytlhekbjidppijaa
open Go.RowKit
set_option maxRecDepth 100000 in
theorem kill_p00 : killLaw 10 (0,0) (0,0) = true:=by decide +kernel
set_option maxRecDepth 100000 in
theorem kill_p01 : killLaw 10 (0,0) (0,1) = true:=by decide +kernel
set_option maxRecDepth 100000 in
theorem kill_p02 : killLaw 10 (0,0) (0,2) = true:=by decide +kernel
set_option maxRecDepth 100000 in
theorem kill_p03 : killLaw 10 (0,0) (1,0) = true:=by decide +kernel
set_option maxRecDepth 100000 in
theorem kill_p04 : killLaw 10 (0,0) (1,1) = true:=by decide +kernel
set_option maxRecDepth 100000 in
theorem kill_p05 : killLaw 10 (0,0) (1,2) = true:=by decide +kernel
set_option maxRecDepth 100000 in
theorem kill_p10 : killLaw 10 (0,1) (0,0) = true:=by decide +kernel
set_option maxRecDepth 100000 in
theorem kill_p11 : killLaw 10 (0,1) (0,1) = true:=by decide +kernel
set_option maxRecDepth 100000 in
theorem kill_p12 : killLaw 10 (0,1) (0,2) = true:=by decide +kernel
set_option maxRecDepth 100000 in
theorem kill_p13 : killLaw 10 (0,1) (1,0) = true:=by decide +kernel
set_option maxRecDepth 100000 in
theorem kill_p14 : killLaw 10 (0,1) (1,1) = true:=by decide +kernel
set_option maxRecDepth 100000 in
theorem kill_p15 : killLaw 10 (0,1) (1,2) = true:=by decide +kernel
end Go.Proofs.Ytlhekbjidppijaa
