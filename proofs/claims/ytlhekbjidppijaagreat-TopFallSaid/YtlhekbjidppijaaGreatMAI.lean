/- Contracts of what TopFall reaches: what each function returns and leaves in memory. Conditions: as named. -/
import Derived.Deep.AppendLies
import Derived.Lib.Tables
import Derived.Test.YtlhekbjidppijaaGreatMAH
set_option linter.unusedVariables false
set_option linter.unusedSimpArgs false
set_option maxRecDepth 20000
set_option maxHeartbeats 8000000
namespace Go.Proofs.Ytlhekbjidppijaa
open Go.RowKit
abbrev Own:=Nat->Nat
def ext (U:Own)(w:World)(t:Nat):Own:=fun k=>if k<w.heap.size then U k else t
structure Chg (T:Nat->Prop)(w:World)(U:Own)(w':World)(U':Own):Prop where
 os:w'.os=w.os
 tape:w'.tape=w.tape
 output:w'.output=w.output
 size:w.heap.size<=w'.heap.size
 block:∀ k,k<w.heap.size->¬ T (U k)->w'.heap[k]? = w.heap[k]?
 own:∀ k,k<w.heap.size->U' k=U k
section
variable {T T' : Nat -> Prop} {w w' w1 w2 : World} {U U' U1 U2 : Own} {t : Nat}
theorem Chg.refl (T:Nat->Prop)(w:World)(U:Own):Chg T w U w U:=⟨rfl,rfl,rfl,Nat.le_refl _,fun _ _ _=>rfl,fun _ _=>rfl⟩
theorem Chg.trans (h:Chg T w U w1 U1)(k:Chg T w1 U1 w2 U2):Chg T w U w2 U2 where
 os:=k.os.trans h.os
 tape:=k.tape.trans h.tape
 output:=k.output.trans h.output
 size:=Nat.le_trans h.size k.size
 block:=fun i hi hT=>(k.block i (Nat.lt_of_lt_of_le hi h.size) (by rw[h.own i hi];exact hT)).trans (h.block i hi hT)
 own:=fun i hi=>(k.own i (Nat.lt_of_lt_of_le hi h.size)).trans (h.own i hi)
theorem Chg.mono (h:Chg T w U w' U')(hT:∀ t,T t->T' t):Chg T' w U w' U':=
 ⟨h.os,h.tape,h.output,h.size,fun k hk hn=>h.block k hk (fun e=>hn (hT _ e)),h.own⟩
theorem Chg.drewN (h:Chg T w U w' U')(n:Nat):Chg T w U (w'.drewN n) U':=⟨h.os,h.tape,h.output,h.size,h.block,h.own⟩
theorem Chg.drew (h:Chg T w U w' U'):Chg T w U w'.drew U':=⟨h.os,h.tape,h.output,h.size,h.block,h.own⟩
theorem Chg.alloc (h:Chg T w U w' U')(o:Obj):Chg T w U (w'.alloc o) U':=
 h.trans ⟨rfl,rfl,rfl,by simp,fun k hk _=>Below.heap_alloc _ _ _ hk,fun _ _=>rfl⟩
theorem Chg.setCell (h:Chg T w U w' U'){p:Addr}(hp:T (U' p.block))(u:Value):Chg T w U (w'.setCell p u) U':=
 h.trans ⟨rfl,rfl,rfl,by simp[World.setCell],fun k _ hn=>Below.heap_setCell _ _ _ _ (by rintro rfl;exact hn hp),fun _ _=>rfl⟩
theorem Chg.setNew (h:Chg T w U w' U'){p:Addr}(hp:w.heap.size<=p.block)(u:Value):Chg T w U (w'.setCell p u) U' where
 os:=h.os
 tape:=h.tape
 output:=h.output
 size:=by simpa [World.setCell] using h.size
 block:=fun k hk hn=>(Below.heap_setCell _ _ _ _ (by omega)).trans (h.block k hk hn)
 own:=h.own
theorem Chg.grown (h:Chg T w U w' U'){row:Option Nat}(hg:w'.grownBy w2 row)(hr:∀ k,row=some k->w.heap.size<=k\/T (U' k)):Chg T w U w2 U' where
 os:=hg.os.trans h.os
 tape:=hg.tape.trans h.tape
 output:=hg.output.trans h.output
 size:=Nat.le_trans h.size hg.size
 block:=fun k hk hn=>(hg.block k (Nat.lt_of_lt_of_le hk h.size) (fun e=>by
  rcases hr k e.symm with h1|h1
  ·omega
  ·exact hn (by rw[<- h.own k hk];exact h1))).trans (h.block k hk hn)
 own:=h.own
theorem Chg.reown (h:Chg T w U w' U')(hU:∀ k,k<w.heap.size->U2 k=U k):Chg T w U w' U2:=⟨h.os,h.tape,h.output,h.size,h.block,hU⟩
theorem Chg.ext (h:Chg T w U w' U')(t:Nat):Chg T w U w' (ext U w t):=h.reown fun k hk=>by unfold Proofs.Ytlhekbjidppijaa.ext;rw[if_pos hk]
theorem Chg.of_below (h:Below w.heap.size w w')(t:Nat):Chg T w U w' (Proofs.Ytlhekbjidppijaa.ext U w t):=
 ⟨h.os,h.tape,h.output,h.size,fun k hk _=>h.block k hk,fun k hk=>by unfold Proofs.Ytlhekbjidppijaa.ext;rw[if_pos hk]⟩
theorem Chg.below (h:Chg (fun _=>False) w U w' U'):Below w.heap.size w w':=⟨h.os,h.tape,h.output,h.size,fun k hk=>h.block k hk id⟩
end
theorem ext_old {U:Own}{w:World}{t k:Nat}(h:k<w.heap.size):ext U w t k=U k:=by unfold ext;rw[if_pos h]
theorem ext_new {U:Own}{w:World}{t k:Nat}(h:w.heap.size<=k):ext U w t k=t:=by unfold ext;rw[if_neg (by omega)]
structure Has (w:World)(U:Own)(t:Nat)(g:Nat)(ty:TypeId)(cs:Array Value):Prop where
 blk:Blk w g ty cs
 own:U g=t
section
variable {T : Nat -> Prop} {w w' : World} {U U' : Own} {t g : Nat} {ty : TypeId} {cs : Array Value}
theorem Has.keep (h:Has w U t g ty cs)(hc:Chg T w U w' U')(ht:¬ T t):Has w' U' t g ty cs:=
 ⟨(hc.block g h.blk.lt (by rw[h.own];exact ht)).trans h.blk,(hc.own g h.blk.lt).trans h.own⟩
theorem Has.lt (h:Has w U t g ty cs):g<w.heap.size:=h.blk.lt
theorem Has.cell (h:Has w U t g ty cs)(i:Nat):w.cell? ⟨g,i,none⟩=cs[i]?:=h.blk.cell i
theorem Has.frozen (h:Has w U t g ty cs)(i:Nat):w.frozen? ⟨g,i,none⟩=false:=h.blk.frozen i
theorem Has.set_ (h:Has w U t g ty cs)(i:Nat)(u:Value):Has (w.setCell ⟨g,i,none⟩ u) U t g ty (cs.setIfInBounds i u):=⟨h.blk.set_ i u,h.own⟩
theorem Has.far (h:Has w U t g ty cs){p:Addr}(hp:g≠p.block)(u:Value):Has (w.setCell p u) U t g ty cs:=⟨h.blk.far hp u,h.own⟩
theorem Has.alloc (h:Has w U t g ty cs)(o:Obj):Has (w.alloc o) U t g ty cs:=⟨h.blk.alloc o,h.own⟩
theorem Has.drewN (h:Has w U t g ty cs)(n:Nat):Has (w.drewN n) U t g ty cs:=⟨h.blk.drewN n,h.own⟩
theorem Has.other (h:Has w U t g ty cs){t' g':Nat}{ty':TypeId}{cs':Array Value}(h':Has w U t' g' ty' cs')(hne:t≠t'\/ty≠ty'):g≠g':=by
 rintro rfl
 rcases hne with hn|hn
 ·exact hn (h.own.symm.trans h'.own)
 ·have a:=h.blk
  have b:=h'.blk;unfold Blk at a b;rw[a]at b
  injection b with b
  injection b with _ b
  exact hn b
end
theorem info_cells {P:Program}{e:TypeId}{z:Array Value}{s b:Nat}(h:(P.info? e).map (fun i=>(i.zero.map Value.cells,i.size,i.bytes))=some (some z,s,b)) :
 ∃ i v,P.info? e=some i/\i.zero=some v/\v.cells=z/\i.size=s/\i.bytes=b:=by
 cases hi:P.info? e with
 | none=>rw[hi]at h;cases h
 | some i=>
  rw[hi]at h;simp only[Option.map_some,Option.some.injEq,Prod.mk.injEq,Option.map_eq_some_iff]at h;obtain⟨⟨v,hv,hz⟩,hs,hb⟩:=h;exact⟨i,v,rfl,hv,hz,hs,hb⟩
theorem made_cell {z:Array Value}{n i:Nat}(h:i<n):(madeCells z n)[i]? = some (z[i%z.size]!):=by
 unfold madeCells;rw[Array.getElem?_map,Array.getElem?_range,if_pos h];rfl
section
variable {P : Program} (w : World)
theorem run_append_nilN (base:Nat)(t ty e:TypeId)(i:TypeInfo)(size:Nat)(ht:P.underlying t=some (.slice e))(hi:P.info? e=some i)
 (v:Value)(n:Nat)(xs:List Value)(hown:w.ownsRow base e size v n xs)(c:Nat):(Builtin.append_ #[t,t] ty #[v,.slice none 0 c]).run P w=.ok v w:=by
 rcases hown.2 with ⟨rfl,rfl⟩|⟨g,cap,cur,rfl,_,_,hnc,_⟩
 ·simp[Builtin.append_,run_underlying ht,sizeOf,typeInfo,hi,Builtin.lenOf,Builtin.firstCells]
 ·simp[Builtin.append_,run_underlying ht,sizeOf,typeInfo,hi,Builtin.lenOf,Builtin.firstCells,hnc,storeCells]
theorem run_append_slN (base:Nat)(t ty e:TypeId)(i:TypeInfo)(z:Value)(size bytes:Nat)(ht:P.underlying t=some (.slice e))(hi:P.info? e=some i)(hz:i.zero=some z)
 (hsize:i.size=size)(hby:i.bytes=bytes)(hzs:z.cells.size=size)(hs0:0<size)
 (v:Value)(n:Nat)(xs:List Value)(hown:w.ownsRow base e size v n xs)
 (A:Option Addr)(m c:Nat)(news:List Value)(hm:news.length=m*size)(hr:Sl w A news)(h1:∀ u∈news,u.oneCell'=true)
 (h63:n+m<=maxLen)(hbytes:(n+m)*bytes<=140737488355328)(hbase:base<=w.heap.size) :
 ∃ v' w',(Builtin.append_ #[t,t] ty #[v,.slice A m c]).run P w=.ok v' w'/\w'.ownsRow base e size v' (n+m) (xs++news)/\w.grownBy w' v.ownBlock:=by
 rcases A with _|ad
 ·have hn:news=[]:=by
   rcases news with _|⟨x,l⟩
   ·rfl
   ·obtain⟨b,off,h,_⟩:=hr (by simp)
    cases h
  subst hn
  have hm0:m=0:=by
   rcases Nat.eq_zero_or_pos m with h|h
   ·exact h
   ·have:=Nat.mul_pos h hs0
    simp at hm;omega
  subst hm0;exact⟨v,w,run_append_nilN w base t ty e i size ht hi v n xs hown c,by simpa using hown,World.grownBy.refl w _⟩
 ·have hcells:∀ j u,news[j]? = some u->w.cell? (ad.add j)=some u:=by
   intro j u hu;obtain⟨b,off,h,hc⟩:=hr (by intro e;subst e;simp at hu)
   injection h with h
   subst h;have:=hc j u hu
   by_cases hj:j=0
   ·subst hj;simpa [Addr.add] using this
   ·simpa [Addr.add,hj] using this
  obtain⟨v',w',hrun,h2,h3,_⟩:=run_append_own (P:=P) w base t ty e i z size bytes ht hi hz hsize hby hzs hs0 v n xs hown ad m c news hm hcells h1 h63 hbytes hbase;exact⟨v',w',hrun,h2,h3⟩
theorem wpList_append_slN {ops:Array Oper}{rest:List Oper}{o:Oper}{a:Act}{Q:Exit->Act->World->Prop}(hgd:o.guard=none)(s x:Operand)(t:TypeId)
 (ho:o.op=.call { callee:=.builtin .append,args:=#[s,x],argTypes:=#[t,t] })
 (base:Nat)(e:TypeId)(i:TypeInfo)(z:Value)(size bytes:Nat)(ht:P.underlying t=some (.slice e))(hi:P.info? e=some i)(hz:i.zero=some z)
 (hsize:i.size=size)(hby:i.bytes=bytes)(hzs:z.cells.size=size)(hs0:0<size)
 (v:Value)(n:Nat)(xs:List Value)(hs:a.eval s=v)(hown:w.ownsRow base e size v n xs)
 (A:Option Addr)(m c:Nat)(news:List Value)(hx:a.eval x=.slice A m c)(hm:news.length=m*size)(hr:Sl w A news)(h1:∀ u∈news,u.oneCell'=true)
 (h63:n+m<=maxLen)(hbytes:(n+m)*bytes<=140737488355328)(hbase:base<=w.heap.size)
 (h:∀ v' w',w'.ownsRow base e size v' (n+m) (xs++news)->w.grownBy w' v.ownBlock->wpList P ops Q rest (a.put o.dst v') w'):wpList P ops Q (o :: rest) a w:=
 wpList_plain hgd fun K hK=>by
  obtain⟨v',w',hrun,h2,h3⟩:=run_append_slN (P:=P) w base t o.type e i z size bytes ht hi hz hsize hby hzs hs0 v n xs hown A m c news hm hr h1 h63 hbytes hbase;unfold Oper.wp execOp;simp only[ho,resolve,invoke,builtin,Sem.run_bind,Sem.run_pure,Result.andThen_ok,List.map_toArray,List.map_cons,List.map_nil,hs,hx,hrun];exact hK _ _ (h v' w' h2 h3)
end
structure TokAt (w:World)(U:Own)(tt T:Nat)(L:List TkS):Prop where
 ex:∃ M bl,Tok w 0 T M L bl/\U T=tt/\U M=tt/\∀ i,i<L.length->U (bl i)=tt
theorem map_lt {w:World}{base T M:Nat}{L:List TkS}{bl:Nat->Nat}(h:Tok w base T M L bl):M<w.heap.size:=(Array.getElem?_eq_some_iff.1 h.map).1
theorem TokAt.keep {S:Nat->Prop}{w w':World}{U U':Own}{tt T:Nat}{L:List TkS}(h:TokAt w U tt T L)(hc:Chg S w U w' U')(hS:¬ S tt):TokAt w' U' tt T L:=by
 obtain⟨M,bl,h1,h2,h3,h4⟩:=h.ex;have hM:=map_lt h1;have hb:=fun i (hi:i<L.length)=>(h1.each i hi).2.lt;refine⟨M,bl,⟨Nat.zero_le _,Nat.zero_le _,?_,?_,h1.one,fun i hi=>⟨Nat.zero_le _,?_⟩⟩,(hc.own T h1.blk.lt).trans h2,(hc.own M hM).trans h3,fun i hi=>(hc.own _ (hb i hi)).trans (h4 i hi)⟩
 ·exact(hc.block T h1.blk.lt (by rw[h2];exact hS)).trans h1.blk
 ·exact(hc.block M hM (by rw[h3];exact hS)).trans h1.map
 ·exact(hc.block _ (hb i hi) (by rw[h4 i hi];exact hS)).trans (h1.each i hi).2
theorem tokNew (w:World)(U:Own)(tt:Nat):Calls Tryz.prog 183 #[] w fun e w'=>∃ T,e=.returned (.pointer (some ⟨T,0,none⟩))/\TokAt w' (ext U w tt) tt T []/\Below w.heap.size w w':=by
 refine(newT w).mono ?_;rintro e w' ⟨T,M,bl,rfl,h1,h2⟩;exact⟨T,rfl,⟨M,bl,⟨Nat.zero_le _,Nat.zero_le _,h1.blk,h1.map,h1.one,fun i hi=>⟨Nat.zero_le _,(h1.each i hi).2⟩⟩,ext_new h1.hT,ext_new h1.hM,fun i hi=>by simp at hi⟩,h2⟩
theorem tokGive (w:World)(U:Own)(tt T:Nat)(L:List TkS)(key:ByteArray)(h:TokAt w U tt T L)(hl:L.length<1000000) :
 Calls Tryz.prog 223 #[.pointer (some ⟨T,0,none⟩),.string key] w fun e w'=>e=.returned (.int .i64 ((L.length+1:Nat):Int))/\TokAt w' (ext U w tt) tt T (L++[⟨key,true,false⟩])/\Chg (· = tt) w U w' (ext U w tt):=by
 obtain⟨M,bl,h1,h2,h3,h4⟩:=h.ex;refine(giveT w 0 T M L bl key h1 (by omega)).mono ?_;rintro e w' ⟨rfl,k1,k2,k3⟩;refine⟨by rw[show((L.length+1:Nat):Int)=(L.length:Int)+1 by omega],⟨M,_,k1,(ext_old h1.blk.lt).trans h2,(ext_old (map_lt h1)).trans h3,fun i hi=>?_⟩,⟨k2.os,k2.tape,k2.output,k2.size,fun g hg hn=>k3 g hg (fun e=>hn (e ▸ h2)) (fun e=>hn (e ▸ h3)),fun g hg=>ext_old hg⟩⟩;rw[List.length_append,List.length_singleton]at hi
 by_cases hi':i=L.length
 ·subst hi'
  simp only[if_true];exact ext_new (Nat.le_refl _)
 ·simp only[hi',if_false]
  have:=(h1.each i (by omega)).2.lt;rw[ext_old this];exact h4 i (by omega)
theorem tokUse (w:World)(U:Own)(tt T:Nat)(L:List TkS)(i:Nat)(h:TokAt w U tt T L)(hi:i<L.length)(hu:L[i].used=false) :
 Calls Tryz.prog 118 #[.pointer (some ⟨T,0,none⟩),.int .i64 ((i+1:Nat):Int)] w fun e w'=>e=.returned (.tuple #[.string L[i].key,.bool L[i].good])/\TokAt w' U tt T (L.set i ⟨L[i].key,L[i].good,true⟩)/\Chg (· = tt) w U w' U:=by
 obtain⟨M,bl,h1,h2,h3,h4⟩:=h.ex;have:=useYes w 0 T M L bl i h1 hi hu;rw[show(i:Int)+1=((i+1:Nat):Int) by omega]at this;refine this.mono ?_;rintro e w' ⟨rfl,k1,k2,k3⟩;exact⟨rfl,⟨M,bl,k1,h2,h3,fun j hj=>h4 j (by simpa using hj)⟩,⟨k2.os,k2.tape,k2.output,k2.size,fun g hg hn=>k3 g hg (fun e=>hn (e ▸ h3)),fun g hg=>rfl⟩⟩
theorem tokClear (w:World)(U:Own)(tt T:Nat)(L:List TkS)(h:TokAt w U tt T L)(hl:L.length<1000000) :
 Calls Tryz.prog 199 #[.pointer (some ⟨T,0,none⟩)] w fun e w'=>(∃ v,e=.returned v)/\TokAt w' U tt T (L.map (hurt1 fun _=>true))/\Chg (· = tt) w U w' U:=by
 obtain⟨M,bl,h1,h2,h3,h4⟩:=h.ex;refine(clearT w 0 T M L bl h1 (by omega)).mono ?_;rintro e w' ⟨rfl,k1,k2,k3⟩;exact⟨⟨_,rfl⟩,⟨M,bl,k1,h2,h3,fun j hj=>h4 j (by simpa using hj)⟩,⟨k2.os,k2.tape,k2.output,k2.size,fun g hg hn=>k3 g hg (fun j hj e=>hn (e ▸ h4 j hj)),fun g hg=>rfl⟩⟩
theorem tokKill (w:World)(U:Own)(tt T:Nat)(L:List TkS)(h:TokAt w U tt T L)(hl:L.length<1000000)(key:ByteArray)(KB ko c:Nat)(hk:w.cell? ⟨KB,ko,none⟩=some (.string key))(hK:U KB≠tt) :
 Calls Tryz.prog 166 #[.pointer (some ⟨T,0,none⟩),.slice (some ⟨KB,ko,none⟩) 1 c] w fun e w'=>(∃ v,e=.returned v)/\TokAt w' U tt T (L.map (hurt1 fun s=>decide (s=key)))/\Chg (· = tt) w U w' U:=by
 obtain⟨M,bl,h1,h2,h3,h4⟩:=h.ex;have hlt:=World.block_lt_of_cell? w ⟨KB,ko,none⟩ hk
 have hs:Sl w (some ⟨KB,ko,none⟩) ([key].map .string):=fun _=>⟨KB,ko,rfl,fun j u hu=>by
  rcases j with _|j
  ·simp at hu
   subst hu;exact hk
  ·simp at hu⟩
 refine(killsT w 0 T M L bl h1 (by omega) (some ⟨KB,ko,none⟩) 1 c [key] hs rfl (by decide) (by rintro a ha;cases ha;exact⟨hlt,fun j hj e=>hK ((congrArg U e).symm.trans (h4 j hj))⟩)).mono ?_;rintro e w' ⟨rfl,k1,k2,k3⟩
 have e1:(L.map (hurt1 fun s=>inB s [key]))=L.map (hurt1 fun s=>decide (s=key)):=by
  congr 1
  funext t
  unfold hurt1 inB;simp
 rw[e1]at k1;exact⟨⟨_,rfl⟩,⟨M,bl,k1,h2,h3,fun j hj=>h4 j (by simpa using hj)⟩,⟨k2.os,k2.tape,k2.output,k2.size,fun g hg hn=>k3 g hg (fun j hj e=>hn (e ▸ h4 j hj)),fun g hg=>rfl⟩⟩
end Go.Proofs.Ytlhekbjidppijaa
