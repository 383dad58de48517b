/- Some of the patterns of kills that TopFall may meet, evaluated. No condition. -/
import Derived.Test.YtlhekbjidppijaaGreatMBQ
set_option linter.unusedVariables false
set_option linter.unusedSimpArgs false
set_option maxRecDepth 20000
set_option maxHeartbeats 8000000
namespace Go.Proofs.Ytlhekbjidppijaa
set_option maxRecDepth 100000 in
theorem tree_q00000:treeC [false,false,false,false,false] 12 0 [] fs0=true:=by decide +kernel
set_option maxRecDepth 100000 in
theorem tree_q00001:treeC [false,false,false,false,true] 12 0 [] fs0=true:=by decide +kernel
set_option maxRecDepth 100000 in
theorem tree_q00010:treeC [false,false,false,true,false] 12 0 [] fs0=true:=by decide +kernel
set_option maxRecDepth 100000 in
theorem tree_q00011:treeC [false,false,false,true,true] 12 0 [] fs0=true:=by decide +kernel
set_option maxRecDepth 100000 in
theorem tree_q00100:treeC [false,false,true,false,false] 12 0 [] fs0=true:=by decide +kernel
set_option maxRecDepth 100000 in
theorem tree_q00101:treeC [false,false,true,false,true] 12 0 [] fs0=true:=by decide +kernel
set_option maxRecDepth 100000 in
theorem tree_q00110:treeC [false,false,true,true,false] 12 0 [] fs0=true:=by decide +kernel
set_option maxRecDepth 100000 in
theorem tree_q00111:treeC [false,false,true,true,true] 12 0 [] fs0=true:=by decide +kernel
end Go.Proofs.Ytlhekbjidppijaa
