/- Some of the patterns of kills that TopFall may meet, evaluated. No condition. -/
import Derived.Test.YtlhekbjidppijaaGreatMBQ
set_option linter.unusedVariables false
set_option linter.unusedSimpArgs false
set_option maxRecDepth 20000
set_option maxHeartbeats 8000000
namespace Go.Proofs.Ytlhekbjidppijaa
set_option maxRecDepth 100000 in
theorem tree_q10000:treeC [true,false,false,false,false] 12 0 [] fs0=true:=by decide +kernel
set_option maxRecDepth 100000 in
theorem tree_q10001:treeC [true,false,false,false,true] 12 0 [] fs0=true:=by decide +kernel
set_option maxRecDepth 100000 in
theorem tree_q10010:treeC [true,false,false,true,false] 12 0 [] fs0=true:=by decide +kernel
set_option maxRecDepth 100000 in
theorem tree_q10011:treeC [true,false,false,true,true] 12 0 [] fs0=true:=by decide +kernel
set_option maxRecDepth 100000 in
theorem tree_q10100:treeC [true,false,true,false,false] 12 0 [] fs0=true:=by decide +kernel
set_option maxRecDepth 100000 in
theorem tree_q10101:treeC [true,false,true,false,true] 12 0 [] fs0=true:=by decide +kernel
set_option maxRecDepth 100000 in
theorem tree_q10110:treeC [true,false,true,true,false] 12 0 [] fs0=true:=by decide +kernel
set_option maxRecDepth 100000 in
theorem tree_q10111:treeC [true,false,true,true,true] 12 0 [] fs0=true:=by decide +kernel
end Go.Proofs.Ytlhekbjidppijaa
