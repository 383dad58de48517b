/- Some of the patterns of kills that TopFall may meet, evaluated. No condition. -/
import Derived.Test.YtlhekbjidppijaaGreatMBQ
set_option linter.unusedVariables false
set_option linter.unusedSimpArgs false
set_option maxRecDepth 20000
set_option maxHeartbeats 8000000
namespace Go.Proofs.Ytlhekbjidppijaa
set_option maxRecDepth 100000 in
theorem tree_q11000:treeC [true,true,false,false,false] 12 0 [] fs0=true:=by decide +kernel
set_option maxRecDepth 100000 in
theorem tree_q11001:treeC [true,true,false,false,true] 12 0 [] fs0=true:=by decide +kernel
set_option maxRecDepth 100000 in
theorem tree_q11010:treeC [true,true,false,true,false] 12 0 [] fs0=true:=by decide +kernel
set_option maxRecDepth 100000 in
theorem tree_q11011:treeC [true,true,false,true,true] 12 0 [] fs0=true:=by decide +kernel
set_option maxRecDepth 100000 in
theorem tree_q11100:treeC [true,true,true,false,false] 12 0 [] fs0=true:=by decide +kernel
set_option maxRecDepth 100000 in
theorem tree_q11101:treeC [true,true,true,false,true] 12 0 [] fs0=true:=by decide +kernel
set_option maxRecDepth 100000 in
theorem tree_q11110:treeC [true,true,true,true,false] 12 0 [] fs0=true:=by decide +kernel
set_option maxRecDepth 100000 in
theorem tree_q11111:treeC [true,true,true,true,true] 12 0 [] fs0=true:=by decide +kernel
end Go.Proofs.Ytlhekbjidppijaa
