/- Contracts of what TopFall reaches: what each function returns and leaves in memory. Conditions: as named. -/
import Derived.Test.YtlhekbjidppijaaGreatChecked
import Derived.Test.YtlhekbjidppijaaGreatMAE
set_option linter.unusedVariables false
set_option linter.unusedSimpArgs false
set_option maxRecDepth 20000
set_option maxHeartbeats 8000000
namespace Go.Proofs.Ytlhekbjidppijaa
open Go.RowKit Go.ChangeShapes Go.WideShapes
section
variable {H : Type} {enc : TypeId × Value -> H} {W : World}
theorem bool_each (n:Nat)(cs:List Value)(x:DataW H × List MemPlace)(h:DataW.trod enc Tryz.prog W 0 (fun _=>true) true n 4 cs=some x):∃ o:Bool,cs=[.bool o]/\True:=by
 obtain⟨o,q,_⟩:=DataW.trod_bool Tryz.underlying4 h;exact⟨o,q,trivial⟩
theorem open_bools (A:Option Addr)(len cap:Nat){d:DataW H}{p:List MemPlace}(h:DataW.Trod enc Tryz.prog W 0 (fun _=>true) true 37 (.slice A len cap) d p) :
 ∃ bs:List Bool,bs.length=len/\len<=cap/\cap<=maxLen/\Sl W A (bs.map Value.bool):=by
 obtain⟨os,h1,h2,h3,-,h4⟩:=open_slice_of (fun b:Bool=>[Value.bool b]) (fun _=>True) 1 (fun _=>rfl) (by decide) Tryz.underlying37 (by kernel_rfl) bool_each h;refine⟨os,h1,h2,h3,?_⟩
 have e:∀ os:List Bool,os.flatMap (fun b:Bool=>[Value.bool b])=os.map Value.bool:=fun os=>by
  induction os with
  | nil=>rfl
  | cons b os ih=>rw[List.flatMap_cons,ih];rfl
 rw[<- e os];exact h4
end
end Go.Proofs.Ytlhekbjidppijaa
