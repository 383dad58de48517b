/- Some of the patterns of kills that TopFall may meet, evaluated. No condition. -/
import Derived.Test.YtlhekbjidppijaaGreatMBQ
set_option linter.unusedVariables false
set_option linter.unusedSimpArgs false
set_option maxRecDepth 20000
set_option maxHeartbeats 8000000
namespace Go.Proofs.Ytlhekbjidppijaa
set_option maxRecDepth 100000 in
theorem tree_q01000:treeC [false,true,false,false,false] 12 0 [] fs0=true:=by decide +kernel
set_option maxRecDepth 100000 in
theorem tree_q01001:treeC [false,true,false,false,true] 12 0 [] fs0=true:=by decide +kernel
set_option maxRecDepth 100000 in
theorem tree_q01010:treeC [false,true,false,true,false] 12 0 [] fs0=true:=by decide +kernel
set_option maxRecDepth 100000 in
theorem tree_q01011:treeC [false,true,false,true,true] 12 0 [] fs0=true:=by decide +kernel
set_option maxRecDepth 100000 in
theorem tree_q01100:treeC [false,true,true,false,false] 12 0 [] fs0=true:=by decide +kernel
set_option maxRecDepth 100000 in
theorem tree_q01101:treeC [false,true,true,false,true] 12 0 [] fs0=true:=by decide +kernel
set_option maxRecDepth 100000 in
theorem tree_q01110:treeC [false,true,true,true,false] 12 0 [] fs0=true:=by decide +kernel
set_option maxRecDepth 100000 in
theorem tree_q01111:treeC [false,true,true,true,true] 12 0 [] fs0=true:=by decide +kernel
end Go.Proofs.Ytlhekbjidppijaa
