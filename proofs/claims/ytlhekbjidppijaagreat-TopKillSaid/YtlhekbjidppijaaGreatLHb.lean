/- Evaluations for TopKill: of a third of its inputs the plain law says true. No condition. -/
import Derived.Test.YtlhekbjidppijaaGreatMBQ
set_option linter.unusedVariables false
set_option linter.unusedSimpArgs false
namespace Go.Proofs.Ytlhekbjidppijaa
open Go.RowKit
set_option maxRecDepth 100000 in
theorem kill_p20 : killLaw 10 (0,2) (0,0) = true:=by decide +kernel
set_option maxRecDepth 100000 in
theorem kill_p21 : killLaw 10 (0,2) (0,1) = true:=by decide +kernel
set_option maxRecDepth 100000 in
theorem kill_p22 : killLaw 10 (0,2) (0,2) = true:=by decide +kernel
set_option maxRecDepth 100000 in
theorem kill_p23 : killLaw 10 (0,2) (1,0) = true:=by decide +kernel
set_option maxRecDepth 100000 in
theorem kill_p24 : killLaw 10 (0,2) (1,1) = true:=by decide +kernel
set_option maxRecDepth 100000 in
theorem kill_p25 : killLaw 10 (0,2) (1,2) = true:=by decide +kernel
set_option maxRecDepth 100000 in
theorem kill_p30 : killLaw 10 (1,0) (0,0) = true:=by decide +kernel
set_option maxRecDepth 100000 in
theorem kill_p31 : killLaw 10 (1,0) (0,1) = true:=by decide +kernel
set_option maxRecDepth 100000 in
theorem kill_p32 : killLaw 10 (1,0) (0,2) = true:=by decide +kernel
set_option maxRecDepth 100000 in
theorem kill_p33 : killLaw 10 (1,0) (1,0) = true:=by decide +kernel
set_option maxRecDepth 100000 in
theorem kill_p34 : killLaw 10 (1,0) (1,1) = true:=by decide +kernel
set_option maxRecDepth 100000 in
theorem kill_p35 : killLaw 10 (1,0) (1,2) = true:=by decide +kernel
end Go.Proofs.Ytlhekbjidppijaa
