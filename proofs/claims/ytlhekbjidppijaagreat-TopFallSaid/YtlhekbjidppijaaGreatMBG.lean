/- Contracts of what TopFall reaches: what each function returns and leaves in memory. Conditions: as named. -/
import Derived.Sort.OwnSorted
import Derived.Test.YtlhekbjidppijaaGreatMAD
import Derived.Test.YtlhekbjidppijaaGreatMAU
set_option linter.unusedVariables false
set_option linter.unusedSimpArgs false
set_option maxRecDepth 20000
set_option maxHeartbeats 8000000
namespace Go.Proofs.Ytlhekbjidppijaa
open Lib (hid)
open Go.RowKit Go.Sort
theorem ltOf_cmpP:ltOf cmpP=lessP:=by
 funext a b
 unfold ltOf cmpP;have:=swoP a b a
 by_cases h1:lessP a b=true
 ·simp[h1]
 ·by_cases h2:lessP b a=true <;> simp[h1,h2]
theorem SWO_P:SWO (ltOf cmpP):=by
 rw[ltOf_cmpP];exact⟨fun x=>(swoP x x x).1,fun x y z=>(swoP x y z).2.1,fun x y z=>(swoP x y z).2.2⟩
theorem totalP (x y:Nat × Nat)(h1:lessP x y=false)(h2:lessP y x=false):x=y:=by
 obtain⟨a,b⟩:=x;obtain⟨c,d⟩:=y;simp only[lessP,decide_eq_false_iff_not]at h1 h2;exact Prod.ext (by dsimp only;omega) (by dsimp only;omega)
def insP (x:Nat × Nat):List (Nat × Nat)->List (Nat × Nat)
 | []=>[x]
 | y :: l=>if lessP y x then y :: insP x l else x :: y :: l
def sortP:List (Nat × Nat)->List (Nat × Nat)
 | []=>[]
 | x :: l=>insP x (sortP l)
theorem insP_perm (x:Nat × Nat):∀ l,(insP x l).Perm (x :: l)
 | []=>.refl _
 | y :: l=>by
  unfold insP
  split
  ·exact((insP_perm x l).cons y).trans (.swap _ _ _)
  ·exact .refl _
theorem sortP_perm:∀ l,(sortP l).Perm l
 | []=>.refl _
 | x :: l=>(insP_perm x _).trans ((sortP_perm l).cons x)
theorem insP_sorted (x:Nat × Nat):∀ l:List (Nat × Nat),l.Pairwise (fun a b=>lessP b a=false)->(insP x l).Pairwise (fun a b=>lessP b a=false)
 | [],_=>by simp[insP]
 | y :: l,h=>by
  unfold insP;rw[List.pairwise_cons]at h
  split
  ·rename_i hy
   rw[List.pairwise_cons];refine⟨fun z hz=>?_,insP_sorted x l h.2⟩
   rcases List.mem_cons.1 ((insP_perm x l).mem_iff.1 hz) with rfl|hz
   ·have:=(swoP y z y).2.1 hy
    cases hh:lessP z y
    ·rfl
    ·rw[(swoP y y y).1]at this
     exact(this hh).symm
   ·exact h.1 z hz
  ·rename_i hy
   have hy':lessP y x=false:=by simpa using hy
   rw[List.pairwise_cons];refine⟨fun z hz=>?_,List.pairwise_cons.2 h⟩
   rcases List.mem_cons.1 hz with rfl|hz
   ·exact hy'
   ·exact(swoP z y x).2.2 (h.1 z hz) hy'
theorem sortP_sorted:∀ l,(sortP l).Pairwise (fun a b=>lessP b a=false)
 | []=>.nil
 | x :: l=>insP_sorted x _ (sortP_sorted l)
theorem sorted_eq {d d':Array (Nat × Nat)}(hp:PermIn 0 d.size d d')(hs:SortedIn (ltOf cmpP) 0 d.size d'):d'.toList=sortP d.toList:=by
 rw[ltOf_cmpP]at hs;obtain⟨h1,_,h3⟩:=hp
 have h3':d'.toList.Perm d.toList:=by
  have e1:(d'.extract 0 d.size)=d':=by rw[<- h1];simp
  have e2:(d.extract 0 d.size)=d:=by simp
  rwa [e1,e2]at h3
 refine List.Perm.eq_of_pairwise (le:=fun a b=>lessP b a=false) (fun a b _ _ h h'=>totalP a b h' h) ?_ (sortP_sorted _) (h3'.trans (sortP_perm _).symm);rw[List.pairwise_iff_getElem];intro i j hi hj hij;have:=hs i j (Nat.zero_le _) hij (by simpa [<- h1] using hj)
 simpa [getElem!_pos,show i<d'.size by simpa using hi,show j<d'.size by simpa using hj] using this
theorem enc_len (x:Nat × Nat):(encP x).length=2:=rfl
theorem flatP_get:∀ (l:List (Nat × Nat)) (t:Nat),(l.flatMap encP)[t]? = (l[t / 2]?).bind fun x=>(encP x)[t%2]?
 | [],t=>by simp
 | x :: l,t=>by
  rw[List.flatMap_cons,List.getElem?_append,enc_len]
  split
  ·rename_i h
   rw[Nat.div_eq_of_lt h,Nat.mod_eq_of_lt h];simp
  ·rename_i h
   obtain⟨u,rfl⟩:∃ u,t=u+2:=⟨t-2,by omega⟩;rw[Nat.add_sub_cancel,flatP_get l u,show(u+2) / 2=u / 2+1 by omega,Nat.add_mod_right];simp
theorem flatK_list (l:List (Nat × Nat)):(flatK encP 2 l.toArray).toList=l.flatMap encP:=by
 apply List.ext_getElem?;intro t;rw[flatP_get,Array.getElem?_toList]
 by_cases h:t<l.length*2
 ·have h2:t / 2<l.length:=by omega
  have h3:t%2<2:=Nat.mod_lt _ (by omega);simp only[flatK,List.size_toArray];rw[Array.getElem?_eq_getElem (by simpa using h)];simp[h2,encP,h3]
 ·rw[Array.getElem?_eq_none (by simpa using h),List.getElem?_eq_none (by omega)]
  rfl
section
variable {w : World} {U : Own} {t g n cap q : Nat} {os : Array Obj} {l l' : List (Nat × Nat)}
theorem heap_sortedP {cur:Array Value}{e:TypeId}{fr:Nat × Nat}(F:Array Value)(hb:w.heap[g]? = some (.cells cur e fr)) :
 (grow (putRow id (Sort.ahead w q) g 0 F) os).heap[g]? = some (.cells (putCells id 0 F cur) e fr):=by
 have hg:g<w.heap.size:=(Array.getElem?_eq_some_iff.1 hb).1;rw[heap_grow_old _ _ (by simpa using hg)];simp[putRow,mapBlock,Sort.ahead,Array.getElem?_modify,hb,onCells]
theorem grownBy_sortedP (F:Array Value):w.grownBy (grow (putRow id (Sort.ahead w q) g 0 F) os) (some g):=by
 refine⟨rfl,rfl,rfl,by simp,fun k hk hne=>?_⟩;rw[heap_grow_old _ _ (by simpa using hk)];have:g≠k:=fun e=>hne (by rw[e]);simp[putRow,mapBlock,Sort.ahead,Array.getElem?_modify,this]
theorem take_putCellsP (cur F:Array Value)(h:F.size<=cur.size):(putCells id 0 F cur).toList.take F.size=F.toList:=by
 apply List.ext_getElem?;intro j
 by_cases hj:j<F.size
 ·rw[List.getElem?_take_of_lt hj,Array.getElem?_toList]
  simp[putCells,hj,show j<cur.size by omega]
 ·rw[List.getElem?_take_eq_none (by omega),List.getElem?_eq_none (by simp;omega)]
end
theorem sort264 (w:World)(U:Own)(t n:Nat)(v:Value)(l:List (Nat × Nat))(hr:Rw w U t 170 2 v n (l.flatMap encP))(hn:0<n)(hn2:n<1000)
 (hcl:∀ (W:World) (x y:Nat × Nat),Calls Tryz.prog 265 #[.agg #[.int .u64 (x.1:Int),.int .i64 (x.2:Int)],.agg #[.int .u64 (y.1:Int),.int .i64 (y.2:Int)]] W fun e w'=>e=.returned (.int .i64 (cmpP x y))/\∃ q os',w'=grow (W.drewN q) os') :
 Calls Tryz.prog 264 #[v,.func (.func 265) #[] #[]] w fun e w'=>e=.returned (.tuple #[])/\∃ U',Rw w' U' t 170 2 v n ((sortP l).flatMap encP)/\Chg (· = t) w U w' U':=by
 have hlen:l.length=n:=by
  have:=hr.own.1
  have e:∀ l:List (Nat × Nat),(l.flatMap encP).length=l.length*2:=fun l=>by
   induction l with
   | nil=>rfl
   | cons x l ih=>rw[List.flatMap_cons,List.length_append,ih,enc_len,List.length_cons];omega
  rw[e]at this;omega
 obtain⟨hl,hr2⟩:=hr.own
 rcases hr2 with ⟨_,h0⟩|⟨g,cap,cur,rfl,_,hb,h1,h2,h3,h4⟩
 ·omega
 have hg:g<w.heap.size:=(Array.getElem?_eq_some_iff.1 hb).1
 have hH:HoldsK encP 2 w g 0 l.toArray:=by
  intro j hj;rw[size_flatK,List.size_toArray]at hj;refine⟨?_,by simp[World.frozen?,hb]⟩
  have e1:(cur.toList.take (n*2))[j]? = (l.flatMap encP)[j]?:=by rw[h4]
  rw[List.getElem?_take_of_lt (by omega)]at e1;simp only[World.cell?,hb,Nat.zero_add];simp only[Option.isSome_none,Bool.false_eq_true,if_false];rw[<- Array.getElem?_toList,e1,<- flatK_list,Array.getElem?_toList];rw[Array.getElem?_eq_getElem (by simp;omega),getElem!_pos _ _ (by simp;omega)];rfl
 have eg:∀ args w,(callFunc 265 args).run Tryz.prog w=.ok (.enter 265 args) w:=enters_of Tryz.func265 (by kernel_rfl) rfl
 have hcon:=AnyQ.slices_SortFunc Tryz.sortPt 2 Tryz.isAgg170 Tryz.sizeOf170 encP (fun _=>rfl) (fun x v hv=>by simp[encP]at hv;rcases hv with rfl|rfl <;> rfl) cmpP SWO_P 265 #[] g 0 cap l.toArray w eg
  (fun _ _ _ _ x y=>hcl _ x y) hH hg (by simp;omega)
 change Calls Tryz.prog 264 _ _ _ at hcon
 rw[List.size_toArray,hlen]at hcon;refine hcon.mono ?_;rintro e w' ⟨rfl,d',m,os,hp,hs,rfl⟩;have e1:=sorted_eq (d:=l.toArray) (d':=d') (by simpa [hlen] using hp) (by simpa [hlen] using hs)
 have e2:d'=(sortP l).toArray:=by
  apply Array.ext';rw[e1]
 subst e2
 have hsl:(sortP l).length=n:=by rw[(sortP_perm l).length_eq,hlen]
 refine⟨rfl,ext U w t,⟨⟨?_,.inr ⟨g,cap,_,rfl,Nat.zero_le _,heap_sortedP _ hb,h1,h2,by simp[putCells,h3],?_⟩⟩,fun g' hg'=>?_⟩,(Chg.grown (Chg.refl _ _ _) (grownBy_sortedP _) (fun k hk=>?_)).ext t⟩
 ·rw[<- flatK_list];simp[hsl]
 ·have:=take_putCellsP cur (flatK encP 2 (sortP l).toArray) (by simp[hsl];rw[h3];omega)
  rw[size_flatK,List.size_toArray,hsl]at this;rw[this,flatK_list]
 ·injection hg' with hg'
  subst hg';rw[ext_old hg];exact hr.tag _ rfl
 ·injection hk with hk
  subst hk;exact .inr (hr.tag _ rfl)
def Gr (W w':World):Prop:=∃ os,w'=grow W os
theorem Gr.refl (W:World):Gr W W:=⟨#[],(grow_empty W).symm⟩
theorem Gr.alloc {W w':World}(h:Gr W w')(o:Obj):Gr W (w'.alloc o):=by
 obtain⟨os,rfl⟩:=h;exact⟨_,by rw[alloc_eq_grow,grow_grow]⟩
theorem of265 (W:World)(x y:Nat × Nat):Calls Tryz.prog 265 #[.agg #[.int .u64 (x.1:Int),.int .i64 (x.2:Int)],.agg #[.int .u64 (y.1:Int),.int .i64 (y.2:Int)]] W fun e w'=>e=.returned (.int .i64 (cmpP x y))/\∃ q os',w'=grow (W.drewN q) os':=by
 suffices h:Calls Tryz.prog 265 #[.agg #[.int .u64 (x.1:Int),.int .i64 (x.2:Int)],.agg #[.int .u64 (y.1:Int),.int .i64 (y.2:Int)]] W fun e w'=>e=.returned (.int .i64 (cmpP x y))/\Gr W w' from
  h.mono fun e w' h=>⟨h.1,0,h.2⟩
 have H1:=fun W=>less266 W x y;have H2:=fun W=>less266 W y x;obtain⟨r,hr⟩:∃ r,r=cmpP x y:=⟨_,rfl⟩;have HR:=hid hr;unfold cmpP at hr;rw[<- HR.out];clear HR;generalize (x.1:Int)=a at *;generalize (x.2:Int)=b at *;generalize (y.1:Int)=c at *;generalize (y.2:Int)=d at *
 cases e1:lessP x y with
 | true=>
  rw[e1]at H1 hr;simp only[if_true]at hr;subst hr;clear H2 e1;go_enter Tryz.func265,Tryz.ntmps265
  go_wp2_with (go_at_call 266;refine(H1 _).mono ?_;rintro e w' ⟨rfl,rfl⟩)
  go_ret;exact⟨rfl,((((Gr.refl _).alloc _).alloc _).alloc _).alloc _⟩
 | false=>
  rw[e1]at H1 hr
  cases e2:lessP y x with
  | true=>
   rw[e2]at H2 hr;simp at hr;subst hr;clear e1 e2;go_enter Tryz.func265,Tryz.ntmps265
   go_wp2_with fail
   refine(H1 _).mono ?_;rintro e w' ⟨rfl,rfl⟩;clear H1
   go_wp2_with fail
   refine(H2 _).mono ?_;rintro e w' ⟨rfl,rfl⟩;clear H2
   go_wp2
   go_ret;exact⟨rfl,((((((Gr.refl _).alloc _).alloc _).alloc _).alloc _).alloc _).alloc _⟩
  | false=>
   rw[e2]at H2 hr;simp at hr;subst hr;clear e1 e2;go_enter Tryz.func265,Tryz.ntmps265
   go_wp2_with fail
   refine(H1 _).mono ?_;rintro e w' ⟨rfl,rfl⟩;clear H1
   go_wp2_with fail
   refine(H2 _).mono ?_;rintro e w' ⟨rfl,rfl⟩;clear H2
   go_wp2
   go_ret;exact⟨rfl,((((((Gr.refl _).alloc _).alloc _).alloc _).alloc _).alloc _).alloc _⟩
end Go.Proofs.Ytlhekbjidppijaa
