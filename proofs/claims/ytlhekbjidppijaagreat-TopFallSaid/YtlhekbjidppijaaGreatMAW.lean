/- Contracts of what TopFall reaches: what each function returns and leaves in memory. Conditions: as named. -/
import Derived.Test.YtlhekbjidppijaaGreatMAU
set_option linter.unusedVariables false
set_option linter.unusedSimpArgs false
set_option maxRecDepth 20000
set_option maxHeartbeats 8000000
namespace Go.Proofs.Ytlhekbjidppijaa
open Lib (hid)
open Go.RowKit
theorem flush163 (w:World)(U:Own)(t td lp d from_ segs n:Nat)(fr:Bool)(f:Lf)(bodies:List (List UInt8))(Z:Cont)(F:Nat->Prop)(hL:LogAt w U t lp d from_ segs fr f Z bodies)(hD:DevAt w U td d n Z F)(htd:td<95)(hne:td≠t)(hn2:n<=2048) :
 Calls Tryz.prog 163 #[.pointer (some ⟨lp,0,none⟩)] w fun e w'=>e=.returned (.int .i64 0)/\LogAt w' U t lp d from_ segs fr f Z bodies/\DevAt w' U td d n Z Lasts/\Chg (· = td) w U w' U:=by
 obtain⟨S,hS,hfl,hnn,-⟩:=hL.ex;obtain⟨vL,h1,h2⟩:=hS.ex;have c0:w.cell? ⟨lp,0,none⟩=some (.pointer (some ⟨d,0,none⟩)):=h1.cell 0;have HF:=hid (flush_any w U td d n Z F hD hn2);have HL:=hid hL;clear hL hS h1 h2 hfl hnn;go_enter Tryz.func163,Tryz.ntmps163
 go_wp2_with fail
 refine HF.out.mono ?_;rintro e w1 ⟨rfl,h1,h2⟩;have HR:=hid (And.intro h1 h2);clear h1 h2 c0
 go_wp2
 go_ret;exact⟨rfl,HL.out.keep HR.out.2 (fun x e=>by subst e;omega),HR.out.1,HR.out.2⟩
theorem first213 (w:World)(U:Own)(t lp d from_ segs:Nat)(fr:Bool)(f:Lf)(Z:Cont)(bodies:List (List UInt8))(hL:LogAt w U t lp d from_ segs fr f Z bodies) :
 Calls Tryz.prog 213 #[.pointer (some ⟨lp,0,none⟩)] w fun e w'=>e=.returned (.int .i64 1)/\w'=w:=by
 obtain⟨S,hS,hfl,hnn,-⟩:=hL.ex;obtain⟨vL,h1,h2⟩:=hS.ex;obtain⟨A,c,rfl,hcc,-,-,hsl,hA,hA2⟩:=h2.slice;have p1:w.cell? ⟨lp,3,none⟩=some (.slice A S.length c):=h1.cell 3;have p2:w.cell? ⟨lp,4,none⟩=some (.int .i64 ((pz f bodies.length:Nat):Int)):=h1.cell 4;have hct:=hL.ct
 cases S with
 | nil=>
  simp at hfl;subst hfl
  have hf:pz f 0=1:=by
   cases f with
   | none=>rfl
   | some c=>have:=hct c rfl;simp at this;omega
  simp only[List.length_nil,hf]at p2;clear hf hct hL hS h1 h2 hcc hsl hA hA2 hnn;go_enter Tryz.func213,Tryz.ntmps213
  go_wp2
  go_loop [12] (fun i=>i=.int .i64 0) (fun i=>0)
  case atStart=>rfl
  case round=>
   subst hrel
   go_wp2
   go_ret;exact⟨rfl,rfl⟩
 | cons p S=>
  obtain⟨g,bs⟩:=p;obtain⟨bvv,rr,rvv,vs,a1,-,-,a5,a6,-⟩:=(hS.seg 0 (g,bs) rfl).ex;simp only[List.take_zero,List.flatMap_nil,List.length_nil]at a5
  have hf:pz f 0=1:=by
   cases f with
   | none=>rfl
   | some c=>have:=(hct c rfl).1;simp only[pz];rw[if_pos (by omega)]
  have hb0:0<bs.length:=List.length_pos_iff.2 (hnn (g,bs) (by simp));obtain⟨b0,c0,rfl,-,-,-,hs5,-,-⟩:=a5.slice
  cases vs with
  | nil=>simp at a6;omega
  | cons v vs=>
   obtain⟨bb,oo,rfl,hc5⟩:=hs5 (by simp[rcells])
   have q1:w.cell? ⟨bb,oo,none⟩=some (.int .i64 1):=by have:=hc5 0 (.int .i64 1) (by simp[rcells,hf]);simpa using this
   obtain⟨aa,ao,rfl,hc6⟩:=hsl (by simp[Segs.ptrs])
   have q2:w.cell? ⟨aa,ao,none⟩=some (.pointer (some ⟨g,0,none⟩)):=by have:=hc6 0 (ptr g) (by simp[Segs.ptrs]);simpa using this
   have q3:w.cell? ⟨g,4,none⟩=some (.slice (some ⟨bb,oo,none⟩) bs.length c0):=a1.cell 4
   have k1:(0:Int)<(bs.length:Int):=by omega
   have hl:((g,bs) :: S).length=S.length+1:=rfl;rw[hl]at p1
   have k2:(0:Int)<(S.length:Int)+1:=by omega
   clear hf hct hL hS h1 h2 hcc hsl hA hA2 hnn hfl a1 a5 a6 hs5 hc5 hc6 hl p2;go_enter Tryz.func213,Tryz.ntmps213
   go_wp2
   go_loop [12] (fun i=>i=.int .i64 0) (fun i=>0)
   case atStart=>rfl
   case round=>
    subst hrel
    go_wp2
    go_ret;exact⟨rfl,rfl⟩
def cmp (a p:Int):Int:=if a<p then -1 else if p<a then 1 else 0
theorem cmp294 (w:World)(a p:Int)(v:Value)(hv:v.oneCell'=true)(ha:0<=a/\a<=1000000)(hp:0<=p/\p<=1000000) :
 Calls Tryz.prog 294 #[.agg #[.int .i64 a,v],.int .i64 p] w fun e w'=>e=.returned (.int .i64 (cmp a p))/\Below w.heap.size w w':=by
 obtain⟨ha0,ha1⟩:=ha;obtain⟨hp0,hp1⟩:=hp;have HC:Hid (min (max (a-p) (-1)) 1=cmp a p):=hid (by unfold cmp;split <;> (try split) <;> omega);go_enter Tryz.func294,Tryz.ntmps294
 go_wp2
 all_goals
  go_ret;refine⟨?_,((Chg.refl (fun _=>False) w (fun _=>0)).alloc _).below⟩;refine congrArg (fun z=>Ending.returned (Value.int IntKind.i64 z)) ?_
  grind [cmp]
def posOf (n base p:Nat):Nat:=if p<base then 0 else if p<base+n then p-base else n
theorem bsf293 (w:World)(A:Option Addr)(f:Lf)(n c base p:Nat)(vs:List Value)(hs:Sl w A (rcells f (base-1) vs))(hn:vs.length=n)(hv:∀ v∈vs,v.oneCell'=true)(hm:base+n<=100000)(hp:p<=100000)(hb1:1<=base)(hp1:1<=p) :
 Calls Tryz.prog 293 #[.slice A n c,.int .i64 ((pz f (p-1):Nat):Int),.func (.func 294) #[] #[]] w fun e w'=>e=.returned (.tuple #[.int .i64 ((posOf n base p:Nat):Int),.bool (decide (base<=p/\p<base+n))])/\Below w.heap.size w w':=by
 have HS:=hid hs;have HV:=hid hv;clear hs hv;obtain⟨q,hq⟩:∃ q,q=posOf n base p:=⟨_,rfl⟩
 have hq2:q<=n:=by rw[hq];unfold posOf;split <;> (try split) <;> omega
 have HQ:Hid (∀ h,h<n->(base+h<p ↔ h<q)):=hid fun h hh=>by rw[hq];unfold posOf;split <;> (try split) <;> omega
 obtain⟨r,hr⟩:∃ r,r=decide (base<=p/\p<base+n):=⟨_,rfl⟩;rw[<- hr]
 have HQ2:Hid (q<n->∀ x:Int,x=cmp ((pz f (base-1+q):Nat):Int) ((pz f (p-1):Nat):Int)->r=decide (x=0)):=hid fun hh x hx=>by
  have h1:=hq;unfold posOf at h1;subst hx;rw[hr,decide_eq_decide];unfold cmp;have z1:=pz_lt_iff f (base-1+q) (p-1);have z2:=pz_lt_iff f (p-1) (base-1+q);generalize pz f (base-1+q)=x1 at *;generalize pz f (p-1)=x2 at *
  split at h1 <;> (try split at h1) <;> split <;> (try split) <;> omega
 have HQ3:Hid (q=n->r=false):=hid fun hh=>by
  have h1:=hq;unfold posOf at h1;rw[hr,decide_eq_false_iff_not]
  split at h1 <;> (try split at h1) <;> omega
 clear hr;rw[<- hq];clear hq
 have HPZ:Hid (∀ h,(pz f (base-1+h)<pz f (p-1) ↔ base+h<p)/\(pz f (p-1)<pz f (base-1+h) ↔ p<base+h)/\(h<n->pz f (base-1+h)<=1000000)/\pz f (p-1)<=1000000):=hid fun h=>by
  have h1:=pz_lt_iff f (base-1+h) (p-1);have h2:=pz_lt_iff f (p-1) (base-1+h);have h3:=pz_le f (base-1+h);have h4:=pz_le f (p-1);refine⟨h1.trans (by omega),h2.trans (by omega),by omega,by omega⟩
 have HCELL:Hid (∀ h,h<n->∃ B o,A=some ⟨B,o,none⟩/\∃ v,v.oneCell'=true/\∀ W,Below w.heap.size w W->W.cell? ⟨B,o+h*2,none⟩=some (.int .i64 ((pz f (base-1+h):Nat):Int))/\W.cell? ⟨B,o+h*2+1,none⟩=some v):=hid fun h hh=>by
  have hr:=rcells_get f (base-1) vs h (by omega)
  have hne:rcells f (base-1) vs≠[]:=by intro e;rw[e]at hr;simp at hr
  obtain⟨B,o,rfl,-⟩:=HS.out hne;refine⟨B,o,rfl,vs[h]'(by omega),HV.out _ (List.getElem_mem _),fun W hb=>?_⟩;obtain⟨B',o',e,hc⟩:=(HS.out.keep hb) hne
  cases e
  have c1:=hc _ _ hr.1;have c2:=hc _ _ hr.2;rw[<- Nat.add_assoc]at c2;rw[Nat.mul_comm]at c1 c2;exact⟨c1,c2⟩
 go_enter Tryz.func293,Tryz.ntmps293
 go_wp2
 go_loopw [9,10] (fun i j wr=>∃ a b:Nat,a<=q/\q<=b/\b<=n/\i=.int .i64 a/\j=.int .i64 b/\Below w.heap.size w wr) (fun i j _=>(intOf j).toNat-(intOf i).toNat)
 case atStart=>exact⟨0,n,Nat.zero_le _,hq2,Nat.le_refl _,rfl,rfl,Below.refl _ _⟩
 case round=>
  obtain⟨a,b,ha,hb,hbn,rfl,rfl,hbl⟩:=hrel;have HBL:=hid hbl;clear hbl
  by_cases hab:a<b
  ·have k1:(a:Int)<(b:Int):=by omega
   obtain⟨h,hh⟩:∃ h,h=(a+b) / 2:=⟨_,rfl⟩
   have he:((a:Int)+(b:Int)) / 2=(h:Int):=by omega
   have hlt:h<n:=by omega
   have hha:a<=h:=by omega
   have hhb:h<b:=by omega
   clear hh
   have k2:(0:Int)<=(h:Int):=by omega
   have k3:(h:Int)<(n:Int):=by omega
   have k4:(b:Int)<=100000:=by omega
   obtain⟨B,o,rfl,v,hv1,hcc⟩:=HCELL.out h hlt;obtain⟨c1,c2⟩:=hcc wr HBL.out;have HCMP:=hid (cmp294 wr ((pz f (base-1+h):Nat):Int) ((pz f (p-1):Nat):Int) v hv1 (by have:=(HPZ.out h).2.2.1 hlt;omega) (by have:=(HPZ.out h).2.2.2;omega));clear hcc
   by_cases hlp:h<q
   ·have HC1:Hid (cmp ((pz f (base-1+h):Nat):Int) ((pz f (p-1):Nat):Int) = -1):=hid (by
     have:=(HPZ.out h).1.2 ((HQ.out h hlt).2 hlp);unfold cmp
     rw[if_pos (by omega)])
    go_wp2_with fail
    refine HCMP.out.mono ?_;rintro e w1 ⟨rfl,hb1⟩;rw[HC1.out];have HB1:=hid (HBL.out.trans (hb1.mono HBL.out.size));clear hb1 HCMP HC1
    go_wp2
    go_roundw
    case rel=>exact⟨h+1,b,by omega,hb,hbn,by go_num,rfl,HB1.out⟩
    case measure=>simp[intOf];omega
   ·have HC1:Hid (∃ x:Int,cmp ((pz f (base-1+h):Nat):Int) ((pz f (p-1):Nat):Int)=x/\¬ x<0):=hid (by
     have:¬ (base+h<p):=fun hx=>hlp ((HQ.out h hlt).1 hx);refine⟨_,rfl,?_⟩;unfold cmp;have h9:¬ pz f (base-1+h)<pz f (p-1):=fun e=>this ((HPZ.out h).1.1 e);rw[if_neg (by omega)]
     split <;> omega)
    go_wp2_with fail
    refine HCMP.out.mono ?_;rintro e w1 ⟨rfl,hb1⟩;obtain⟨x,hx1,hx2⟩:=HC1.out;rw[hx1];have HB1:=hid (HBL.out.trans (hb1.mono HBL.out.size));clear hb1 HCMP HC1 hx1
    go_wp2
    go_roundw
    case rel=>exact⟨a,h,ha,by omega,by omega,rfl,rfl,HB1.out⟩
    case measure=>simp[intOf];omega
  ·obtain rfl:a=q:=by omega
   have k1:¬ ((a:Int)<(b:Int)):=by omega
   by_cases hqn:a<n
   ·have k2:(a:Int)<(n:Int):=by omega
    have k3:(0:Int)<=(a:Int):=by omega
    obtain⟨B,o,rfl,v,hv1,hcc⟩:=HCELL.out a hqn;obtain⟨c1,c2⟩:=hcc wr HBL.out;have HCMP:=hid (cmp294 wr ((pz f (base-1+a):Nat):Int) ((pz f (p-1):Nat):Int) v hv1 (by have:=(HPZ.out a).2.2.1 hqn;omega) (by have:=(HPZ.out a).2.2.2;omega));have HC1:Hid (∃ x:Int,cmp ((pz f (base-1+a):Nat):Int) ((pz f (p-1):Nat):Int)=x/\r=decide (x=0)):=hid ⟨_,rfl,HQ2.out hqn _ rfl⟩;clear hcc
    go_wp2_with fail
    refine HCMP.out.mono ?_;rintro e w1 ⟨rfl,hb1⟩;obtain⟨x,hx1,hx2⟩:=HC1.out;rw[hx1];have HB1:=hid (HBL.out.trans (hb1.mono HBL.out.size));have HX2:=hid hx2;clear hb1 HCMP HC1 hx1 hx2
    go_wp2
    go_ret2
    exact⟨by rw[HX2.out];rfl,HB1.out⟩
   ·have hqe:a=n:=by omega
    have k2:decide ((a:Int)<(n:Int))=false:=by rw[decide_eq_false_iff_not];omega
    obtain rfl:=HQ3.out hqe
    go_wp2
    go_ret2
    exact⟨rfl,HBL.out⟩
theorem ownsRow_mono {w:World}{b b':Nat}{e:TypeId}{size:Nat}{v:Value}{n:Nat}{xs:List Value}(h:w.ownsRow b e size v n xs)(hb:b'<=b):w.ownsRow b' e size v n xs:=by
 refine⟨h.1,?_⟩
 rcases h.2 with hn|⟨g,cap,cur,rfl,h1,rest⟩
 ·exact .inl hn
 ·exact .inr ⟨g,cap,cur,rfl,Nat.le_trans hb h1,rest⟩
theorem flat_at (S:Segs)(k:Nat)(q:Nat × List (List UInt8))(hq:S[k]? = some q):(S.take (k+1)).flatMap (·.2)=(S.take k).flatMap (·.2)++q.2:=by
 obtain⟨hk,hqe⟩:=List.getElem?_eq_some_iff.1 hq;rw[List.take_succ_eq_append_getElem hk,List.flatMap_append,hqe];simp
theorem seg_flat_get (S:Segs)(k:Nat)(q:Nat × List (List UInt8))(hq:S[k]? = some q)(j:Nat)(hj:j<q.2.length):(S.flatMap (·.2))[((S.take k).flatMap (·.2)).length+j]? = q.2[j]?:=by
 obtain⟨hk,hqe⟩:=List.getElem?_eq_some_iff.1 hq
 have e:S.flatMap (·.2)=(S.take (k+1)).flatMap (·.2)++(S.drop (k+1)).flatMap (·.2):=by rw[<- List.flatMap_append,List.take_append_drop]
 rw[e,flat_at S k q hq,List.append_assoc,List.getElem?_append_right (by omega),Nat.add_sub_cancel_left,List.getElem?_append_left hj]
theorem read273 (w:World)(U:Own)(t lp d from_ segs:Nat)(fr:Bool)(f:Lf)(Z:Cont)(bodies:List (List UInt8))(hL:LogAt w U t lp d from_ segs fr f Z bodies)(p:Nat)(body:List UInt8)(hp:1<=p)(hb:bodies[p-1]? = some body)(hm:bodies.length<=50000)(hy3:body.length<=100000) :
 Calls Tryz.prog 273 #[.pointer (some ⟨lp,0,none⟩),.int .i64 ((pz f (p-1):Nat):Int)] w fun e w'=>∃ v,e=.returned (.tuple #[v,.int .i64 0])/\w'.ownsRow w.heap.size 5 1 v body.length (ub body)/\Below w.heap.size w w':=by
 obtain⟨S,hS,hfl,hnn,-⟩:=hL.ex;obtain⟨vL,h1,h2⟩:=hS.ex;obtain⟨A,c,rfl,hcc,-,-,hsl,hA,hA2⟩:=h2.slice;have p1:w.cell? ⟨lp,3,none⟩=some (.slice A S.length c):=h1.cell 3;have hpl:p-1<bodies.length:=(List.getElem?_eq_some_iff.1 hb).1
 have hslen:S.length<=50000:=by have:=segs_le S hnn;rw[hfl]at this;omega
 have HSEG:Hid (∀ (k:Nat) (q:Nat × List (List UInt8)),S[k]? = some q->∃ (b a:Nat),A=some ⟨b,a,none⟩/\∃ (X:Option Addr) (cx:Nat) (vs:List Value),vs.length=q.2.length/\(∀ v∈vs,v.oneCell'=true) /\
  (∀ W,Below w.heap.size w W->W.cell? ⟨b,a+k,none⟩=some (.pointer (some ⟨q.1,0,none⟩))/\W.cell? ⟨q.1,4,none⟩=some (.slice X q.2.length cx)/\Sl W X (rcells f ((S.take k).flatMap (·.2)).length vs)) /\
  ∀ (i:Nat) (l:List UInt8),q.2[i]? = some l->∃ (Y:Option Addr) (cy:Nat),vs[i]? = some (.slice Y l.length cy)/\(Y=none->l.length=0)/\∀ W,Below w.heap.size w W->Sl W Y (ub l)):=hid (by
  intro k q hq;have hk:=(List.getElem?_eq_some_iff.1 hq).1
  have e:S.ptrs[k]? = some (ptr q.1):=by simp[Segs.ptrs,hq]
  have hne:S.ptrs≠[]:=by intro h;rw[h]at e;cases e
  obtain⟨b,a,rfl,-⟩:=hsl hne;refine⟨b,a,rfl,?_⟩;obtain⟨bvv,rr,rvv,vs,a1,-,-,a5,a6,a7⟩:=(hS.seg k q hq).ex;obtain⟨X,cx,rfl,-,-,-,hx,-,-⟩:=a5.slice;refine⟨X,cx,vs,a6,fun v hv=>?_,fun W hbl=>⟨?_,?_,hx.keep hbl⟩,fun i l hl=>?_⟩
  ·obtain⟨i,hi,rfl⟩:=List.mem_iff_getElem.1 hv
   obtain⟨v',hv',hbd⟩:=a7 i (q.2[i]'(by omega)) (List.getElem?_eq_getElem (by omega));rw[List.getElem?_eq_getElem hi]at hv'
   injection hv' with hv'
   obtain⟨Y,cy,e,-⟩:=hbd.row.slice;rw[hv',e];rfl
  ·obtain⟨b',a',e',hc⟩:=(hsl.keep hbl) hne
   cases e'
   exact hc _ _ e
  ·exact(hbl.cell (p:=⟨q.1,4,none⟩) a1.lt).trans (a1.cell 4)
  ·obtain⟨v',hv',hbd⟩:=a7 i l hl
   obtain⟨Y,cy,rfl,-,-,-,h5,h6,-⟩:=hbd.row.slice
   exact⟨Y,cy,hv',fun e=>(h6 e).1,fun W hbl=>h5.keep hbl⟩)
 have HFG:Hid (∀ (k:Nat) (q:Nat × List (List UInt8)),S[k]? = some q->1+((S.take k).flatMap (·.2)).length<=p->p<1+((S.take k).flatMap (·.2)).length+q.2.length->q.2[p-(1+((S.take k).flatMap (·.2)).length)]? = some body):=hid fun k q hq h1 h2=>by
  rw[<- seg_flat_get S k q hq _ (by omega),hfl,<- hb]
  congr 1
  omega
 have HNX:Hid (∀ (k:Nat) (q:Nat × List (List UInt8)),S[k]? = some q->((S.take (k+1)).flatMap (·.2)).length=((S.take k).flatMap (·.2)).length+q.2.length/\((S.take (k+1)).flatMap (·.2)).length<=50000):=hid fun k q hq=>by
  have e:=flat_at S k q hq;refine⟨by rw[e,List.length_append],?_⟩
  have e2:S.flatMap (·.2)=(S.take (k+1)).flatMap (·.2)++(S.drop (k+1)).flatMap (·.2):=by rw[<- List.flatMap_append,List.take_append_drop]
  have:=congrArg List.length e2;rw[hfl,List.length_append]at this;omega
 have HALL:Hid ((S.take S.length).flatMap (·.2)=bodies):=hid (by rw[List.take_length];exact hfl);have HP1:Hid (w.cell? ⟨lp,3,none⟩=some (.slice A S.length c)):=hid p1;clear hL hS h1 h2 hcc hsl hA hA2 hnn hfl hb;go_enter Tryz.func273,Tryz.ntmps273
 go_wp2
 go_loopw [17] (fun i wr=>∃ k:Nat,k<=S.length/\i=.int .i64 k/\Below w.heap.size w wr/\1+((S.take k).flatMap (·.2)).length<=p) (fun i _=>S.length-(intOf i).toNat)
 case atStart=>exact⟨0,Nat.zero_le _,rfl,Below.refl _ _,by simpa using hp⟩
 case round=>
  obtain⟨k,hk,rfl,hbl,hbase⟩:=hrel;have HBL:=hid hbl;clear hbl p1
  by_cases hlt:k<S.length
  ·obtain⟨q,hq⟩:∃ q,S[k]? = some q:=⟨_,List.getElem?_eq_getElem hlt⟩
   obtain⟨b,a,rfl,X,cx,vs,hv1,hv2,hW,hbd⟩:=HSEG.out k q hq;have hnx:=HNX.out k q hq;have hfg:=HFG.out k q hq hbase;obtain⟨c1,c2,c3⟩:=hW wr HBL.out;have HW:=hid hW;have HBD:=hid hbd;have HFG2:=hid hfg
   have k1:(k:Int)<(S.length:Int):=by omega
   have k2:(0:Int)<=(k:Int):=by omega
   obtain⟨base,hba⟩:∃ base,base=1+((S.take k).flatMap (·.2)).length:=⟨_,rfl⟩;rw[<- hba]at hfg hbase HFG2
   have hb0:((S.take k).flatMap (·.2)).length=base-1:=by omega
   have hb1:1<=base:=by omega
   rw[hb0]at c3 HW;have HBSF:=hid (bsf293 wr X f q.2.length cx base p vs c3 hv1 hv2 (by have h1:=hnx.1;have h2:=hnx.2;omega) (by omega) hb1 hp);have HNX2:Hid (base+q.2.length=1+((S.take (k+1)).flatMap (·.2)).length):=hid (by rw[hnx.1];omega);clear c3 hnx hfg hW hbd hv2 hba hb0 hb1;obtain⟨g,bs⟩:=q
   have k3:(bs.length:Int)<=1000000000:=by
    have h1:base+bs.length=1+((S.take (k+1)).flatMap (·.2)).length:=HNX2.out;have h2:=(HNX.out k _ hq).2;omega
   replace c1:wr.cell? ⟨b,a+k,none⟩=some (.pointer (some ⟨g,0,none⟩)):=c1;replace c2:wr.cell? ⟨g,4,none⟩=some (.slice X bs.length cx):=c2
   by_cases hin:p<base+bs.length
   ·have hpo:posOf bs.length base p=p-base:=by unfold posOf;rw[if_neg (by omega),if_pos hin]
    have hde:decide (base<=p/\p<base+bs.length)=true:=by simp[hbase,hin]
    go_wp2_with fail
    refine HBSF.out.mono ?_;rintro e w1 ⟨rfl,hb1⟩;have hbl1:=HBL.out.trans (hb1.mono HBL.out.size);rw[hde,hpo];obtain⟨Y,cy,hy1,hy2,hy4⟩:=HBD.out (p-base) body (HFG2.out hin);obtain⟨-,d2,d3⟩:=HW.out w1 hbl1
    have hne:rcells f (base-1) vs≠[]:=by intro e;have:=rcells_get f (base-1) vs (p-base) (List.getElem?_eq_some_iff.1 hy1).1;rw[e]at this;simp at this
    obtain⟨B,o,rfl,hc⟩:=d3 hne
    have d4:w1.cell? ⟨B,o+(p-base)*2+1,none⟩=some (.slice Y body.length cy):=by
     have h1:=(rcells_get f (base-1) vs (p-base) (List.getElem?_eq_some_iff.1 hy1).1).2;rw[(List.getElem?_eq_some_iff.1 hy1).2]at h1;have:=hc _ _ h1;rw[<- Nat.add_assoc,Nat.mul_comm]at this;exact this
    replace d2:w1.cell? ⟨g,4,none⟩=some (.slice (some ⟨B,o,none⟩) bs.length cx):=d2;obtain⟨j,hj⟩:∃ j,j=p-base:=⟨_,rfl⟩;rw[<- hj]at d4 ⊢
    have j1:(0:Int)<=(j:Int):=by omega
    have j2:(j:Int)<(bs.length:Int):=by omega
    have HCL:=hid (clone172 w1 Y body.length cy (ub body) (by simp[ub_length]) (hy4 w1 hbl1) (ub_one body) hy2 (by omega));have HB1:=hid hbl1;clear hb1 hbl1 hy1 hy2 hy4 d3 hne hc HBSF HW HBD HFG2 hj hpo hde c1 c2 HSEG HFG HNX HALL
    go_wp2_with fail
    refine HCL.out.mono ?_;rintro e w2 ⟨v,rfl,ho,hb2⟩;have HR:=hid (And.intro (ownsRow_mono ho HB1.out.size) (HB1.out.trans (hb2.mono HB1.out.size)));clear ho hb2 HCL d2 d4
    go_wp2
    go_ret2
    exact⟨v,rfl,HR.out.1,HR.out.2⟩
   ·have hde:decide (base<=p/\p<base+bs.length)=false:=by simp[hin]
    go_wp2_with fail
    refine HBSF.out.mono ?_;rintro e w1 ⟨rfl,hb1⟩;have HB1:=hid (HBL.out.trans (hb1.mono HBL.out.size));rw[hde];clear hb1 HBSF HW HBD HFG2 c1 c2
    go_wp2
    go_roundw
    case rel=>exact⟨k+1,by omega,by go_num,HB1.out,by rw[<- HNX2.out];exact Nat.not_lt.1 hin⟩
    case measure=>simp[intOf];omega
  ·obtain rfl:k=S.length:=by omega
   rw[HALL.out]at hbase;omega
theorem info359:(Tryz.prog.info? 359).map (fun i=>(i.zero.map Value.cells,i.size,i.bytes))=some (some #[.int .i64 0,.slice none 0 0],2,32):=by kernel_rfl
theorem head_eq (m nxt:Nat):lay (lay (List.replicate 8 0) 0 (be 2 m)) 2 (be 6 nxt)=be 2 m++be 6 nxt:=by
 have h1:0+(be 2 m).length<=(List.replicate 8 0:List Nat).length:=by rw[be_len];decide
 have hl:(lay (List.replicate 8 0) 0 (be 2 m)).length=8:=by rw[lay_len h1];rfl
 apply List.ext_getElem?;intro j;rw[lay_get (by rw[be_len,hl];decide),lay_get h1,be_len,be_len]
 by_cases h:j<2
 ·rw[if_pos h,if_neg (Nat.not_lt_zero _),if_pos (by omega),List.getElem?_append_left (by rw[be_len];omega),Nat.sub_zero]
 ·rw[if_neg h,List.getElem?_append_right (by rw[be_len];omega),be_len]
  by_cases h8:j<8
  ·rw[if_pos (by omega)]
  ·rw[if_neg (by omega),if_neg (Nat.not_lt_zero _),if_neg (by omega),List.getElem?_eq_none (by rw[List.length_replicate];omega),List.getElem?_eq_none (by rw[be_len];omega)]
theorem bv_append (a b:List Nat):bv (a++b)=bv a++bv b:=by simp[bv]
def ApN (lp nxt:Nat)(W:World):Prop:=W.cell? ⟨lp,4,none⟩=some (.int .i64 (nxt:Int))/\True
def ApG (g:Nat)(v:Value)(W:World):Prop:=W.cell? ⟨g,3,none⟩=some v/\True
def ApQ (lp g nxt:Nat)(v:Value)(W:World):Prop:=W.cell? ⟨lp,4,none⟩=some (.int .i64 (nxt:Int))/\W.cell? ⟨g,4,none⟩=some v
def ApR (lp d nxt:Nat)(W:World):Prop:=W.cell? ⟨lp,4,none⟩=some (.int .i64 ((nxt:Int)+1))/\W.cell? ⟨lp,0,none⟩=some (.pointer (some ⟨d,0,none⟩))
theorem append211 (w:World)(U:Own)(t td lp d from_ segs n:Nat)(fr:Bool)(f:Lf)(bodies:List (List UInt8))(Z:Cont)(F:Nat->Prop)(body:List UInt8)(B o m cB:Nat)
 (hL:LogAt w U t lp d from_ segs fr f Z bodies)(hD:DevAt w U td d n Z F)(htd:td<95)(hne:td≠t)(hk:bodies.length<segs)(hn:from_+segs*8<=n)(hn2:n<=2048)
 (hm:body.length=m)(hm1:1<=m)(hm3:m<=300)(hs:Sl w (some ⟨B,o,none⟩) (ub body))(hB:B<w.heap.size)(hB2:U B%96≠t)(hB3:U B≠td) :
 Calls Tryz.prog 211 #[.pointer (some ⟨lp,0,none⟩),.slice (some ⟨B,o,none⟩) m cB] w fun e w'=>e=.returned (.tuple #[.int .i64 ((pz f bodies.length:Nat):Int),.int .i64 0]) /\
  ∃ U' Z' F',LogAt w' U' t lp d from_ segs false f Z' (bodies++[body])/\DevAt w' U' td d n Z' F'/\(∀ j,(j<from_\/from_+segs*8<=j)->Z' j=Z j)/\Chg (fun x=>x%96=t\/x=td) w U w' U':=by
 obtain⟨S,hS,hfl,hnn,hon,hpk⟩:=hL.ex;have HPK:=hid hpk;clear hpk;have HON:=hid hon;have HCT:=hid hL.ct;have HNB:Hid (pz f bodies.length<=1000000):=hid (by have:=pz_le f bodies.length;omega);clear hon;obtain⟨y,hy1,hy2⟩:=fresh95 w U;have ht:=hS.ht;have hsl:=segs_le S hnn;rw[hfl]at hsl;have HT:Hid (t<95/\td<95/\td≠t/\y%96=95):=hid ⟨ht,htd,hne,hy1⟩;have HK:=hid hk;have HN:Hid (from_+segs*8<=n/\n<=2048):=hid ⟨hn,hn2⟩
 have HFR:Hid (∀ W U',Chg (fun x=>x%96=t\/x=td\/x=y) w U W U'->Chg (fun x=>x%96=t\/x=td) w U W U'):=hid fun W U' h=>h.fresh fun i hi e=>by
  rcases e with e|e|e
  ·exact .inl e
  ·exact .inr e
  ·exact absurd e (hy2 i hi)
 have HUB:Hid ((ub body).length=m*1/\m<=1073741824/\∀ W U',Chg (fun x=>x%96=t\/x=td\/x=y) w U W U'->Sl W (some ⟨B,o,none⟩) (ub body)):=hid ⟨by simp[ub_length,hm],by omega,fun W U' h=>hs.other h (by
  rintro a ha
  cases ha
  exact⟨hB,fun e=>e.elim hB2 fun e=>e.elim hB3 (hy2 B hB)⟩)⟩
 have eub:ub body=bv (body.map UInt8.toNat):=by simp[ub,bv]
 have HBD:Hid (∀ W U',Chg (fun x=>x%96=t\/x=td\/x=y) w U W U'->Sl W (some ⟨B,o,none⟩) (bv (body.map UInt8.toNat))/\∀ x∈body.map UInt8.toNat,x<256):=hid fun W U' h=>⟨eub ▸ HUB.out.2.2 W U' h,fun x hx=>by
  obtain⟨b,_,rfl⟩:=List.mem_map.1 hx
  exact b.toNat_lt⟩
 have HML:=hid hm;have HPOS:Hid (0<body.length):=hid (by omega);have HDF:=hid hD;have HSL:=hid hsl;have HFL:=hid hfl;have HNN:=hid hnn;have HM3:Hid (1<=m/\m<=300):=hid ⟨hm1,hm3⟩
 have m1:(1:Int)<=(m:Int):=by omega
 have m2:(m:Int)<=300:=by omega
 have m3:¬ ((m:Int)<1):=by omega
 have m4:¬ ((300:Int)<(m:Int)):=by omega
 clear hL hD hy1 hy2 hs hB hB2 hB3 eub hsl hfl hnn hm hm1 hm3 htd hne hk hn hn2;obtain⟨vL,h1,h2⟩:=hS.ex;obtain⟨A,c,rfl,hcc,-,-,hsl,hA,hA2⟩:=h2.slice;have p1:w.cell? ⟨lp,3,none⟩=some (.slice A S.length c):=h1.cell 3
 have h0:S.length=0\/¬ S.length=0:=by omega
 rcases h0 with h0|h0
 focus(
  have hs0:S=[]:=List.eq_nil_of_length_eq_zero h0;subst hs0;have HBG:=hid (begin245 w U t td lp d from_ segs (pz f bodies.length) n fr f [] Z F hS HDF.out HT.out.2.1 HT.out.2.2.1 (by have:=HK.out;simp;omega) HN.out.1 HN.out.2 (by rw[HFL.out]) HNB.out);clear hS h1 h2 hcc hsl hA hA2;go_enter Tryz.func211,Tryz.ntmps211
  go_wp2_with fail
  refine HBG.out.mono ?_;rintro e w1 ⟨rfl,U1,g,hS1,hD1,hC1⟩;obtain⟨S0,hS0⟩:∃ S0:Segs,S0=[]:=⟨_,rfl⟩;obtain⟨bs,hbs⟩:∃ bs:List (List UInt8),bs=[]:=⟨_,rfl⟩;obtain⟨Z1,F1,HST⟩:∃ Z1 F1,Hid (LogS w1 U1 t lp d from_ segs (pz f bodies.length) fr f (S0++[(g,bs)])/\DevAt w1 U1 td d n Z1 F1/\Chg (fun x=>x%96=t\/x=td) w U w1 U1/\(f=none->LogOn Z1 from_ segs (S0++[(g,bs)]))/\∀ j,(j<from_\/from_+segs*8<=j)->Z1 j=Z j):=⟨_,_,hid ⟨by rw[hS0,hbs];exact hS1,hD1,hC1,fun e=>by subst e;rw[hS0,hbs];have:=(HON.out rfl).begin (g:=g) (by have:=HK.out;simp;omega);rwa [HFL.out]at this,fun j hj=>upd_ne _ _ _ _ (by have:=HK.out;simp only[List.length_nil];omega)⟩⟩;have HPL:Hid (S0.flatMap (·.2)++bs=bodies/\(∀ p∈S0,p.2≠[])/\used bs+8+m<=378/\S0.length<=bodies.length/\packStep (pack bodies) body=S0.map (·.2)++[bs++[body]]):=hid ⟨by rw[hS0,hbs,<- HFL.out];rfl,by rw[hS0];simp,by have:=HM3.out;rw[hbs];simp[used];omega,by rw[hS0];simp,by rw[<- HPK.out,hS0,hbs];rfl⟩
  clear hS1 hD1 hC1 hS0 hbs HSL HFL HNN HBG p1 HDF)
 rotate_left
 focus(
  obtain⟨S0,⟨g,bs⟩,rfl⟩:∃ (S0:Segs) (p:Nat × List (List UInt8)),S=S0++[p]:=by
   have hne:S≠[]:=by intro h;subst h;exact h0 rfl
   exact⟨S.dropLast,S.getLast hne,(List.dropLast_concat_getLast hne).symm⟩
  have hlen:(S0++[(g,bs)]).length=S0.length+1:=by simp
  rw[hlen]at p1 hcc hA
  obtain⟨a0,rfl⟩:∃ a,A=some ⟨a,0,none⟩:=by
   cases A with
   | none=>exact absurd (hA rfl).1 (by omega)
   | some a=>
    obtain⟨b,o,s⟩:=a;obtain⟨rfl,rfl,_⟩:=hA2 _ rfl;exact⟨b,rfl⟩
  have p2:w.cell? ⟨a0,S0.length,none⟩=some (.pointer (some ⟨g,0,none⟩)):=by
   have e:(Segs.ptrs (S0++[(g,bs)]))[S0.length]? = some (ptr g):=by simp[Segs.ptrs]
   obtain⟨b',o',h7,h8⟩:=hsl (by intro h;rw[h]at e;cases e)
   cases h7
   have:=h8 _ _ e
   rwa [Nat.zero_add]at this
  obtain⟨nb,hnb⟩:∃ nb,nb=used bs:=⟨_,rfl⟩
  obtain⟨X,cx,p3⟩:∃ X cx,w.cell? ⟨g,3,none⟩=some (.slice X nb cx):=by
   obtain⟨bvv,rr,rvv,vs,a1,a2,_⟩:=(hS.seg S0.length (g,bs) (by rw[List.getElem?_append_right (Nat.le_refl _),Nat.sub_self];rfl)).ex;obtain⟨X,cx,rfl,-⟩:=a2.slice;refine⟨X,cx,?_⟩;rw[hnb];exact a1.cell 3
  have hs0:S0.length+1<=bodies.length:=by have:=HSL.out;rw[hlen]at this;exact this
  have hkk:=HK.out;have hnn:=HN.out
  have r0:¬ ((S0.length:Int)+1=0):=by omega
  have r0':((S0.length:Int)+1 == 0)=false:=by rw[beq_eq_false_iff_ne];exact r0
  have r3:(0:Int)<=(S0.length:Int):=by omega
  have r4:(S0.length:Int)<(S0.length:Int)+1:=by omega
  have r5:(S0.length:Int)<=100000:=by omega
  have hfull:(370:Int)-(m:Int)<(nb:Int)\/¬ ((370:Int)-(m:Int)<(nb:Int)):=by omega
  rcases hfull with hfull|hfull
  focus(
   have HBG:=hid (begin245 w U t td lp d from_ segs (pz f bodies.length) n fr f (S0++[(g,bs)]) Z F hS HDF.out HT.out.2.1 HT.out.2.2.1 (by rw[hlen];omega) HN.out.1 HN.out.2 (by rw[HFL.out]) HNB.out);clear hS h1 h2 hcc hsl hA hA2 hkk hnn;go_enter Tryz.func211,Tryz.ntmps211
   go_wp2_with fail
   refine HBG.out.mono ?_;rintro e w1 ⟨rfl,U1,g',hS1,hD1,hC1⟩
   obtain⟨S0,g,bs,Z1,F1,HST,HPL⟩:∃ (S1:Segs) (g1:Nat) (bs1:List (List UInt8)) (Z1:Cont) (F1:Nat->Prop),Hid (LogS w1 U1 t lp d from_ segs (pz f bodies.length) fr f (S1++[(g1,bs1)])/\DevAt w1 U1 td d n Z1 F1/\Chg (fun x=>x%96=t\/x=td) w U w1 U1/\(f=none->LogOn Z1 from_ segs (S1++[(g1,bs1)]))/\∀ j,(j<from_\/from_+segs*8<=j)->Z1 j=Z j)/\Hid (S1.flatMap (·.2)++bs1=bodies/\(∀ p∈S1,p.2≠[])/\used bs1+8+m<=378/\S1.length<=bodies.length/\packStep (pack bodies) body=S1.map (·.2)++[bs1++[body]]):=
    ⟨S0++[(g,bs)],g',[],_,_,hid ⟨hS1,hD1,hC1,fun e=>by subst e;have:=(HON.out rfl).begin (g:=g') (by have:=HK.out;rw[hlen];omega);rwa [HFL.out]at this,fun j hj=>upd_ne _ _ _ _ (by have:=HK.out;rw[hlen];omega)⟩,hid ⟨by rw[List.append_nil];exact HFL.out,HNN.out,by have:=HM3.out;simp[used];omega,HSL.out,by rw[<- HPK.out,List.map_append];exact packStep_full _ _ _ (by rw[<- hnb,HML.out];omega)⟩⟩
   clear hS1 hD1 hC1 HSL HFL HNN HBG p1 p2 p3 HDF r0 r0' r3 r4 r5 hfull hnb hlen hs0)
  rotate_left
  focus(
   have hfull2:decide ((370:Int)-(m:Int)<(nb:Int))=false:=by rw[decide_eq_false_iff_not];exact hfull
   obtain⟨Z1,F1,HST⟩:∃ Z1 F1,Hid (LogS w U t lp d from_ segs (pz f bodies.length) fr f (S0++[(g,bs)])/\DevAt w U td d n Z1 F1/\Chg (fun x=>x%96=t\/x=td) w U w U/\(f=none->LogOn Z1 from_ segs (S0++[(g,bs)]))/\∀ j,(j<from_\/from_+segs*8<=j)->Z1 j=Z j):=⟨Z,F,hid ⟨hS,HDF.out,Chg.refl _ _ _,HON.out,fun _ _=>rfl⟩⟩;have HPL:Hid (S0.flatMap (·.2)++bs=bodies/\(∀ p∈S0,p.2≠[])/\used bs+8+m<=378/\S0.length<=bodies.length/\packStep (pack bodies) body=S0.map (·.2)++[bs++[body]]):=hid ⟨by have:=HFL.out;simpa using this,fun p hp=>HNN.out p (by simp[hp]),by rw[<- hnb];omega,by omega,by rw[<- HPK.out,List.map_append];exact packStep_fits _ _ _ (by rw[<- hnb,HML.out];omega)⟩;clear hS h1 h2 hcc hsl hA hA2 hkk hnn HSL HFL HNN HDF hs0 hlen hnb;go_enter Tryz.func211,Tryz.ntmps211
   go_wp2_with fail
   clear p1 p2 p3 r0 r0' r3 r4 r5 hfull hfull2;obtain⟨w1,U1,Z1,F1,hw1,HST⟩:∃ W T Z1 F1,w=W/\Hid (LogS W T t lp d from_ segs (pz f bodies.length) fr f (S0++[(g,bs)])/\DevAt W T td d n Z1 F1/\Chg (fun x=>x%96=t\/x=td) w U W T/\(f=none->LogOn Z1 from_ segs (S0++[(g,bs)]))/\∀ j,(j<from_\/from_+segs*8<=j)->Z1 j=Z j):=⟨w,U,Z1,F1,rfl,HST⟩;rw[hw1]
   clear hw1))
 all_goals (
  obtain⟨vL1,q1,q2⟩:=HST.out.1.ex;obtain⟨A1,c1,rfl,hcc1,-,-,hsl1,hA1,hA2⟩:=q2.slice
  have hlen:(S0++[(g,bs)]).length=S0.length+1:=by simp
  rw[hlen]at q1 q2 hcc1 hA1
  obtain⟨a1,rfl⟩:∃ a,A1=some ⟨a,0,none⟩:=by
   cases A1 with
   | none=>exact absurd (hA1 rfl).1 (by omega)
   | some a=>
    obtain⟨b,o,s⟩:=a;obtain⟨rfl,rfl,_⟩:=hA2 _ rfl;exact⟨b,rfl⟩
  have r1:w1.cell? ⟨lp,3,none⟩=some (.slice (some ⟨a1,0,none⟩) (S0.length+1) c1):=q1.cell 3
  have r2:w1.cell? ⟨a1,S0.length,none⟩=some (.pointer (some ⟨g,0,none⟩)):=by
   have e:(Segs.ptrs (S0++[(g,bs)]))[S0.length]? = some (ptr g):=by simp[Segs.ptrs]
   obtain⟨b',o',h7,h8⟩:=hsl1 (by intro h;rw[h]at e;cases e)
   cases h7
   have:=h8 _ _ e
   rwa [Nat.zero_add]at this
  have r3:(0:Int)<=(S0.length:Int):=by omega
  have r4:(S0.length:Int)<(S0.length:Int)+1:=by omega
  have hk8:=HPL.out.2.2.2.1;have hk9:=HK.out;have hk7:=HN.out
  have r5:(S0.length:Int)<=100000:=by omega
  clear q1 q2 hcc1 hsl1 hA1 hA2 hlen hk7 hk8 hk9
  go_wp2_with fail
  go_quiet (fail)
  go_wp2_with fail
  clear r1 r2 r3 r4 r5;obtain⟨vL,rr,bvv,rvv,vs,hvs,hap⟩:=AP.start (y:=y) (w:=w) (U:=U) (HST.out.1.keep ((Chg.refl (fun _=>False) w1 U1).drewN nq) (fun _ h=>h.elim)) (HST.out.2.1.drewN nq) ((HST.out.2.2.1.mono (T':=fun x=>x%96=t\/x=td\/x=y) (fun _ h=>h.imp_right .inl)).drewN nq) #[.int .u8 0,.int .u8 0,.int .u8 0,.int .u8 0,.int .u8 0,.int .u8 0,.int .u8 0,.int .u8 0] rfl;have HPO:=hid HST.out.2.2.2;replace hap:AP w U t td y lp d from_ segs n g w1.heap.size f rr Z1 (List.replicate 8 0) (segB f (S0.flatMap (·.2)).length bs) S0 vL (S0.flatMap (·.2)).length (pz f bodies.length) fr bvv bvv (used bs) rvv rvv bs.length vs bs ((w1.drewN nq).alloc (.cells #[.int .u8 0,.int .u8 0,.int .u8 0,.int .u8 0,.int .u8 0,.int .u8 0,.int .u8 0,.int .u8 0] 355)) (ext U1 (w1.drewN nq) y):=hap;have HPW:Hid (S0.flatMap (·.2)++bs=bodies/\(∀ p∈S0,p.2≠[])/\used bs+8+m<=378/\S0.length<=bodies.length/\packStep (pack bodies) body=S0.map (·.2)++[bs++[body]]):=HPL;clear HST HPL;generalize w1.heap.size=hb at *;generalize (w1.drewN nq).alloc (.cells #[.int .u8 0,.int .u8 0,.int .u8 0,.int .u8 0,.int .u8 0,.int .u8 0,.int .u8 0,.int .u8 0] 355)=W2 at *;generalize ext U1 (w1.drewN nq) y=U2 at *;obtain⟨base,hbase⟩:∃ b,b=(S0.flatMap (·.2)).length:=⟨_,rfl⟩;obtain⟨nxt,hnxt⟩:∃ b,b=pz f bodies.length:=⟨_,rfl⟩;obtain⟨nb,hnb⟩:∃ b,b=used bs:=⟨_,rfl⟩;obtain⟨rn,hrn⟩:∃ b,b=bs.length:=⟨_,rfl⟩;rw[<- hbase,<- hnxt,<- hnb,<- hrn]at hap;obtain⟨lb,hlb⟩:∃ l,l=segB f base bs:=⟨_,rfl⟩;obtain⟨lN,hlN⟩:∃ l,l=segB f base (bs++[body]):=⟨_,rfl⟩
  rw[<- hlb]at hap;have HBB:Hid (pz f base<=1000000):=hid (by have:=pz_le f base;have h2:=HPW.out.1;have h3:=congrArg List.length h2;rw[List.length_append]at h3;have:=HK.out;have:=HN.out;omega);have hnb3:=HPW.out.2.2.1;have hk8:=HPW.out.2.2.2.1;have hk9:=HK.out;have hk7:=HN.out;have hflen:S0.flatMap (·.2)++bs=bodies:=HPW.out.1;have HNX:Hid (pz f (base+vs.length)=nxt):=hid (by rw[hbase,hnxt,hvs,<- hflen,List.length_append]);have HLB:Hid (lb++(be 2 m++be 6 nxt)++body.map UInt8.toNat=lN):=hid (by rw[hlN,hlb,segB_snoc,recB,<- HNX.out,<- hvs,HML.out];simp only[List.append_assoc]);have HLN:=hid hlN;rw[<- hnb]at hnb3;have HX:Hid (nb+8+m<=378/\rn<=100000/\nxt<=100000/\1<=m):=hid ⟨hnb3,by rw[hrn];have:bs.length<=bodies.length:=by { rw[<- hflen];simp };omega,by have:=pz_le f bodies.length;omega,by have:=HM3.out;omega⟩;have HE:Hid (base=(S0.flatMap (·.2)).length/\nxt=pz f bodies.length/\nb=used bs/\rn=bs.length):=hid ⟨hbase,hnxt,hnb,hrn⟩;have HVS:=hid hvs;obtain⟨Ab,cb,rfl,-⟩:=hap.hbf.1.slice;have HN64:Hid (IntKind.u64.wrap (nxt:Int)=(nxt:Int)):=hid (by have:=HX.out;exact IntWalk.u64_in _ ⟨by omega,by omega⟩);clear hbase hnxt hnb hrn hvs hflen hk7 hk8 hk9 hnb3 hlb hlN;have HB0:=hid hap;clear hap;refine(put246 355 _ U2 y hb 0 2 8 _ HB0.out.hh (by decide) (by decide) m).mono ?_;rintro e w3 ⟨⟨v,rfl⟩,hh1,hc1⟩;have HB1:=hid (HB0.out.buf hc1 hh1 HT.out.1 HT.out.2.1 HT.out.2.2.2);clear hh1 hc1 HB0
  go_wp2_with fail
  have HB0:=hid (HB1.out.drewN 1);clear HB1;have S13:Hid (ApN lp nxt w3.drew):=hid ⟨HB0.out.hl.cell 4,trivial⟩;have x64:=HN64.out;refine wp_region_hl [] [0,1,2,3,4,5] (ApN lp nxt) (by kernel_rfl) (by kernel_rfl) S13.out ?_
  iterate 6 (refine hd_take (v:=?_) rfl rfl (by kernel_rfl) (fun W hW=>?_) ?_;rotate_left;(obtain⟨r0,-⟩:=hW;first|(go_simp;done)|(go_simp;with_reducible rfl)))
  refine hd_end ?_;simp only[zqa,zqb,zqc,zqd,Nat.zero_add,Nat.reduceAdd];clear x64 S13
  go_wp2_with (go_at_call 246;fail)
  refine(put246 355 _ U2 y hb 2 6 6 _ HB0.out.hh (by rw[lay_len (by rw[be_len];decide)];decide) (by decide) nxt).mono ?_;rintro e w4 ⟨⟨v,rfl⟩,hh1,hc1⟩;rw[head_eq]at hh1;have HB1:=hid (HB0.out.buf hc1 hh1 HT.out.1 HT.out.2.1 HT.out.2.2.2);clear hh1 hc1 HB0;have c3:=HB1.out.hg.cell 3
  go_wp2_with fail
  clear c3;have HB0:=hid (HB1.out.drewN 1);clear HB1;obtain⟨i0,z0,hi0⟩:=info_cells info5;have HI:=hid hi0;clear hi0;have S15:Hid (ApG g (.slice Ab nb cb) w4.drew):=hid ⟨HB0.out.hg.cell 3,trivial⟩;refine wp_region_hl [6,8] [0,1,2,3,4,5,7,6,8] (ApG g (.slice Ab nb cb)) (by kernel_rfl) (by kernel_rfl) S15.out ?_
  iterate 7 (refine hd_take (v:=?_) rfl rfl (by kernel_rfl) (fun W hW=>?_) ?_;rotate_left;(obtain⟨r0,-⟩:=hW;first|(go_simp;done)|(go_simp;with_reducible rfl)))
  refine hd_loud rfl rfl fun K hK=>?_;obtain⟨hlb1,hlb2⟩:=HB0.out.hbf
  have hl1:(be 2 m++be 6 nxt).length=8:=by rw[List.length_append,be_len,be_len]
  have hl2:=HB0.out.hh.lt;have hl3:=HB0.out.hh.sl;generalize be 2 m++be 6 nxt=lh at *;refine step_append_row2 _ rfl (.tmp 88) (.tmp 89) 74 rfl U2 (t+96*(S0.length+3)) 5 i0 z0 1 1 (by kernel_rfl) HI.out.1 HI.out.2.1 HI.out.2.2.2.1 HI.out.2.2.2.2 (by rw[HI.out.2.2.1];rfl) (by decide) (.slice Ab nb cb) nb (bv lb) (by go_simp) hlb1 ⟨hb,0,none⟩ 8 8 (bv lh) (by go_simp) (by simp[bv,hl1]) (by have:=HX.out;omega) hl3 (by intro u hu;simp[bv]at hu;obtain⟨x,hx,rfl⟩:=hu;rfl) (by have:=HX.out;omega) (by decide) ?_;intro ga ca w5 hR hC hG;rw[<- bv_append]at hR;have HB1:=hid (HB0.out.app5 HT.out.1 HT.out.2.1 HT.out.2.2.1 HT.out.2.2.2 hR (by intro x hx;rcases List.mem_append.1 hx with hx|hx;exact hlb2 x hx;exact hl2 x hx) hC hG);refine hK _ _ ⟨HB1.out.hg.cell 3,trivial⟩ ?_;clear hK hR hC hG hl1 hl2 hl3 hlb1 hlb2;refine hd_loud rfl rfl fun K hK=>?_;obtain⟨hlb1,hlb2⟩:=HB1.out.hbf;have hbd:=HBD.out w5 _ HB1.out.hc;refine step_append_row2 _ rfl (.tmp 90) (.tmp 91) 74 rfl _ (t+96*(S0.length+3)) 5 i0 z0 1 1 (by kernel_rfl) HI.out.1 HI.out.2.1 HI.out.2.2.2.1 HI.out.2.2.2.2 (by rw[HI.out.2.2.1];rfl) (by decide) (.slice (some ⟨ga,0,none⟩) (nb+8) ca) (nb+8) (bv (lb++lh)) (by go_simp) hlb1 ⟨B,o,none⟩ m cB (bv (body.map UInt8.toNat)) (by go_simp) (by simp[bv];exact HML.out) (by have:=HX.out;omega) hbd.1 (by intro u hu;simp[bv]at hu;obtain⟨x,hx,rfl⟩:=hu;rfl) (by have:=HX.out;omega) (by decide) ?_;intro bo co w6 hR hC hG;rw[<- bv_append,HLB.out]at hR;have HB2:=hid (HB1.out.app5 HT.out.1 HT.out.2.1 HT.out.2.2.1 HT.out.2.2.2 hR (by intro x hx;rw[<- HLB.out]at hx;rcases List.mem_append.1 hx with hx|hx;exact hlb2 x hx;exact hbd.2 x hx) hC hG)
  refine hK _ _ ⟨HB2.out.hg.cell 3,trivial⟩ (hd_end ?_);clear hK hR hC hG hlb1 hlb2 hbd HB0 HB1;simp only[zqa,zqb,zqc,zqd,Nat.zero_add,Nat.reduceAdd];have hf:=HB2.out.hg.frozen 3;have hc3:=HB2.out.hg.cell 3;have HB1:=hid (HB2.out.setG HT.out.1 HT.out.2.1 HT.out.2.2.1 HT.out.2.2.2 3 _ (.slice (some ⟨bo,0,none⟩) (nb+8+m) co) rvv rfl)
  go_wp2_with fail
  clear hf hc3 HB2 S15 HI i0 z0;generalize w6.setCell ⟨g,3,none⟩ (.slice (some ⟨bo,0,none⟩) (nb+8+m) co)=w7 at HB1 ⊢
  have HCAP:Hid (nb+8+m<=co):=hid (by
   obtain⟨h1,_⟩:=HB1.out.hbf;obtain⟨_,_,h5,h6,_⟩:=h1.slice
   cases h5
   exact h6)
  go_wp2_with fail
  go_loopw [95] (fun i wr=>∃ (k:Nat) (U4:Own) (Zk:Cont),k<=8/\i=.int .i64 k/\((f=none->PartOn Zk from_ segs S0 bs (bs++[body]) k)/\∀ j,(j<from_\/from_+segs*8<=j)->Zk j=Z j)/\AP w U t td y lp d from_ segs n g hb f rr Zk lh lN S0 vL base nxt fr (.slice (some ⟨bo,0,none⟩) (nb+8+m) co) (.slice (some ⟨bo,0,none⟩) (nb+8+m) co) (nb+8+m) rvv rvv rn vs bs wr U4) (fun i _=>8-(intOf i).toNat)
  case atStart=>exact⟨0,_,_,Nat.zero_le _,rfl,⟨fun e=>PartOn.start (HPO.out.1 e) _,HPO.out.2⟩,HB1.out⟩
  case round=>
   obtain⟨k,U4,Zk,hk,rfl,hpo,hap⟩:=hrel;clear HB1;have HP:=hid hpo;clear hpo;have HB1:=hid hap;clear hap
   by_cases hlt:k<8
   ·have hl8:=HB1.out.hl
    have hg8:=HB1.out.hg;obtain⟨hbf1,hbf2⟩:=HB1.out.hbf;obtain⟨F4,hd4⟩:=HB1.out.hd;have hx8:=HX.out;have hs8:=HPW.out.2.2.2.1;have hk8:=HK.out;have hn8:=HN.out
    have HWR:Hid (∀ j:Nat,Calls Tryz.prog 248 #[.pointer (some ⟨lp,0,none⟩),.pointer (some ⟨g,0,none⟩),.int .i64 (k:Int)] (wr.drewN j) fun e w'=>e=.returned (.int .i64 0)/\∃ U',DevAt w' U' td d n (upd Zk (from_+S0.length*8+k) (secB S0.length (pz f base) (lrun f) k lN)) Loose/\Chg (· = td) (wr.drewN j) U4 w' U'):=hid fun j=>by
     have ht8:=HT.out;have hr8:=lrun_le f;exact write248 (wr.drewN j) U4 t (t+96*(S0.length+3)) td lp g d from_ segs (lrun f) S0.length (pz f base) k n (nb+8+m) co rr (some ⟨bo,0,none⟩) Zk F4 _ _ _ _ lN (hbf1.drewN j) hbf2 (by omega) (hl8.drewN j) (hg8.drewN j) (hd4.drewN j) (by omega) (by omega) (by omega) (by omega) hlt (by omega) (by omega) (by omega) HBB.out
    have HWO:Hid (48*k-6<nb+8+m->(f=none->PartOn (upd Zk (from_+S0.length*8+k) (secB S0.length (pz f base) (lrun f) k lN)) from_ segs S0 bs (bs++[body]) (k+1))/\∀ j,(j<from_\/from_+segs*8<=j)->upd Zk (from_+S0.length*8+k) (secB S0.length (pz f base) (lrun f) k lN) j=Z j):=hid fun hs2=>⟨fun e=>by
     have h:=(HP.out.1 e).wrote hlt
     have e1:segOn S0.length (S0.flatMap (·.2)).length (bs++[body]) k=secB S0.length (pz f base) (lrun f) k lN:=by
      subst e;unfold segOn;rw[if_pos (.inr (by rw[used_snoc,<- HE.out.2.2.1,HML.out];omega)),HLN.out,<- HE.out.1];rfl
     rwa [e1]at h,fun j hj=>(upd_ne _ _ _ _ (by omega)).trans (HP.out.2 j hj)⟩
    have HSK:Hid (48*(k+1)-6<=nb\/nb+8+m<=48*k-6->(f=none->PartOn Zk from_ segs S0 bs (bs++[body]) (k+1))/\∀ j,(j<from_\/from_+segs*8<=j)->Zk j=Z j):=hid fun hs2=>⟨fun e=>(HP.out.1 e).skip (segOn_same _ _ _ _ _ (by rw[<- HE.out.2.2.1,HML.out];omega)),HP.out.2⟩
    have HS1:Hid (∀ j,Calls Tryz.prog 247 #[.int .i64 ((k:Int)+1)] (wr.drewN j) fun e w'=>e=.returned (.int .i64 ((48*(k+1)-6:Nat):Int))/\∃ m,w'=wr.drewN m):=hid fun j=>by
     have h:=(start247 (wr.drewN j) (k+1) (by omega)).mono (R':=fun e w'=>e=.returned (.int .i64 ((48*(k+1)-6:Nat):Int))/\∃ m,w'=wr.drewN m) (fun e w' ⟨h1,h2⟩=>⟨h1,j,h2.symm⟩)
     have e1:((k+1:Nat):Int)=(k:Int)+1:=by omega
     rw[e1]at h;exact h
    have HS2:Hid (∀ j,Calls Tryz.prog 247 #[.int .i64 (k:Int)] (wr.drewN j) fun e w'=>e=.returned (.int .i64 ((48*k-6:Nat):Int))/\∃ m,w'=wr.drewN m):=hid fun j=>(start247 (wr.drewN j) k (by omega)).mono fun e w' ⟨h1,h2⟩=>⟨h1,j,h2.symm⟩;generalize 48*(k+1)-6=s1 at *;generalize 48*k-6=s0 at *;clear hd4;have cg:=hg8.cell 3
    have k1:(k:Int)<8:=by omega
    have k2:(0:Int)<=(k:Int):=by omega
    clear hl8 hg8 hbf1 hbf2 hx8 hs8 hk8 hn8
    by_cases hs1:nb<s1
    ·have d1:(nb:Int)<(s1:Int):=by omega
     by_cases hs2:s0<nb+8+m
     ·have d2:(s0:Int)<(nb:Int)+8+(m:Int):=by omega
      have HW2:=hid (HWO.out hs2);clear hs1 hs2 HWO HSK
      go_wp2_with fail
      go_quiet (first|exact HS1.out _|exact HS2.out _)
      go_wp2_with fail
      refine(HWR.out _).mono ?_;rintro e w5 ⟨rfl,U5,hd5,hc5⟩;have HB2:=hid ((HB1.out.drewN _).dev hc5 hd5 HT.out.1 HT.out.2.1 HT.out.2.2.1 HT.out.2.2.2);clear hd5 hc5 cg
      go_wp2
      go_roundw
      case rel=>exact⟨k+1,U5,_,by omega,by go_num,HW2.out,HB2.out⟩
      case measure=>simp[intOf];omega
     ·have d2:decide ((s0:Int)<(nb:Int)+8+(m:Int))=false:=by rw[decide_eq_false_iff_not];omega
      have HW2:=hid (HSK.out (.inr (by omega)));clear hs1 hs2 HWO HSK
      go_wp2_with fail
      go_quiet (first|exact HS1.out _|exact HS2.out _)
      go_wp2
      go_roundw
      case rel=>exact⟨k+1,U4,Zk,by omega,by go_num,HW2.out,HB1.out.drewN _⟩
      case measure=>simp[intOf];omega
    ·have d1:decide ((nb:Int)<(s1:Int))=false:=by rw[decide_eq_false_iff_not];omega
     have d3:decide (nb<s1)=false:=by rw[decide_eq_false_iff_not];omega
     have d4:s1<=nb:=by omega
     have HW2:=hid (HSK.out (.inl d4));clear HWO HSK
     go_wp2_with fail
     go_quiet (first|exact HS1.out _|exact HS2.out _)
     go_wp2
     go_roundw
     case rel=>exact⟨k+1,U4,Zk,by omega,by go_num,HW2.out,HB1.out.drewN _⟩
     case measure=>simp[intOf];omega
   ·obtain rfl:k=8:=by omega
    go_wp2_with fail
    have HB0:=hid (HB1.out.drewN 1);clear HB1;obtain⟨i0,z0,hi0⟩:=info_cells info359;have HI:=hid hi0
    have HONE:Hid (∀ (W:World) (U9:Own) (v:Value),BodyAt W U9 (t+192) v body->v.oneCell'=true):=hid fun W U9 v h=>by
     obtain⟨A,c,rfl,-⟩:=h.row.slice;rfl
    clear hi0;have S24:Hid (ApQ lp g nxt rvv wr.drew):=hid ⟨HB0.out.hl.cell 4,HB0.out.hg.cell 4⟩;refine wp_region_hl [10,12,13] [0,1,2,3,4,5,6,7,8,9,10,11,12,13] (ApQ lp g nxt rvv) (by kernel_rfl) (by kernel_rfl) S24.out ?_
    iterate 10 (refine hd_take (v:=?_) rfl rfl (by kernel_rfl) (fun W hW=>?_) ?_;rotate_left;(obtain⟨r0,r1⟩:=hW;first|(go_simp;done)|(go_simp;with_reducible rfl)))
    refine hd_loud rfl rfl fun K hK=>?_;go_simp;refine(clone172 _ (some ⟨B,o,none⟩) m cB (ub body) HUB.out.1 (HUB.out.2.2 _ _ HB0.out.hc) (ub_one body) (by intro e;cases e) HUB.out.2.1).mono ?_;rintro e w5 ⟨v,rfl,ho,hbl⟩;obtain⟨U5,hap5,hbd5⟩:=HB0.out.clone (v:=v) (l:=body) HPOS.out (by have h:=HML.out;rw[h];exact ho) hbl;obtain⟨Av,cv,rfl,-⟩:=hbd5.row.slice;have H5:=hid (And.intro hap5 hbd5);refine hK _ _ ⟨hap5.hl.cell 4,hap5.hg.cell 4⟩ ?_;clear hK ho hbl hap5 hbd5;refine hd_take (v:=?_) rfl rfl (by kernel_rfl) (fun W hW=>?_) ?_;rotate_left;(obtain⟨r0,r1⟩:=hW;first|(go_simp;done)|(go_simp;with_reducible rfl));refine hd_loud rfl rfl fun K hK=>?_;go_simp;have HB6:=hid (H5.out.1.alloc (.cells #[.int .i64 (nxt:Int),.slice Av body.length cv] 359));have HD6:=hid (H5.out.2.keep (((Chg.refl (fun _=>False) w5 U5).alloc (.cells #[.int .i64 (nxt:Int),.slice Av body.length cv] 359)).ext y) id);refine hK _ _ ⟨HB6.out.hl.cell 4,HB6.out.hg.cell 4⟩ ?_;clear hK;refine hd_loud rfl rfl fun K hK=>?_;refine step_append_row2 _ rfl (.tmp 125) (.tmp 133) 351 rfl _ (t+96*(S0.length+3)) 359 i0 z0 2 32 (by kernel_rfl) HI.out.1 HI.out.2.1 HI.out.2.2.2.1 HI.out.2.2.2.2 (by rw[HI.out.2.2.1];rfl) (by decide) rvv rn (rcells f base vs) (by go_simp) HB6.out.hq ⟨w5.heap.size,0,none⟩ 1 1 [.int .i64 (nxt:Int),.slice Av body.length cv] (by go_simp) (by rfl) (by have:=HX.out;omega) (Blk.new w5 359 #[.int .i64 (nxt:Int),.slice Av body.length cv]).sl (by intro u hu;simp at hu;rcases hu with rfl|rfl <;> rfl) (by have:=HX.out;omega) (by decide) ?_
    intro b3 c3 w6 hR hC hG
    have e1:rcells f base vs++[.int .i64 (nxt:Int),.slice Av body.length cv]=rcells f base (vs++[.slice Av body.length cv]):=by rw[rcells_snoc,HNX.out]
    rw[e1]at hR;have HB7:=hid (HB6.out.app359 HT.out.1 HT.out.2.1 HT.out.2.2.1 HT.out.2.2.2 hR HVS.out HD6.out hC hG);refine hK _ _ ⟨HB7.out.hl.cell 4,HB7.out.hg.cell 4⟩ (hd_end ?_);clear hK hR hC hG e1 HB6 HD6 H5 HB0;simp only[zqa,zqb,zqc,zqd,Nat.zero_add,Nat.reduceAdd];have hf:=HB7.out.hg.frozen 4;have hc3:=HB7.out.hg.cell 4;have HB1:=hid (HB7.out.setG HT.out.1 HT.out.2.1 HT.out.2.2.1 HT.out.2.2.2 4 _ (.slice (some ⟨bo,0,none⟩) (nb+8+m) co) (.slice (some ⟨b3,0,none⟩) (rn+1) c3) rfl);obtain⟨v,hv⟩:∃ v,v=Value.slice Av body.length cv:=⟨_,rfl⟩;obtain⟨wx,hwx⟩:∃ W,W=w6.setCell ⟨g,4,none⟩ (.slice (some ⟨b3,0,none⟩) (rn+1) c3):=⟨_,rfl⟩;rw[<- hwx,<- hv]at HB1;have HWX:=hid hwx;clear hwx hv HB7 S24 HI i0 z0 HONE;have c1:wx.cell? ⟨lp,4,none⟩=some (.int .i64 (nxt:Int)):=HB1.out.hl.cell 4;have c4:=HB1.out.hl.frozen 4;have c5:=HB1.out.hl.frozen 6;have c6:wx.cell? ⟨lp,6,none⟩=some (.bool fr):=HB1.out.hl.cell 6
    have HB2:Hid (AP w U t td y lp d from_ segs n g hb f rr Zk lh lN S0 vL base (nxt+1) fr (.slice (some ⟨bo,0,none⟩) (nb+8+m) co) (.slice (some ⟨bo,0,none⟩) (nb+8+m) co) (nb+8+m) (.slice (some ⟨b3,0,none⟩) (rn+1) c3) (.slice (some ⟨b3,0,none⟩) (rn+1) c3) (rn+1) (vs++[v]) (bs++[body]) (wx.setCell ⟨lp,4,none⟩ (.int .i64 ((nxt:Int)+1))) _):=hid (by
     have:=HB1.out.setL HT.out.1 HT.out.2.1 HT.out.2.2.1 HT.out.2.2.2 4 (.int .i64 ((nxt:Int)+1)) (nxt+1) fr rfl
     exact this)
    have k1:(nxt:Int)<=100000:=by have:=HX.out;omega
    have k0:(0:Int)<=(nxt:Int):=by omega
    clear HB1
    have HLA:Hid (∀ W U',AP w U t td y lp d from_ segs n g hb f rr Zk lh lN S0 vL base (nxt+1) false (.slice (some ⟨bo,0,none⟩) (nb+8+m) co) (.slice (some ⟨bo,0,none⟩) (nb+8+m) co) (nb+8+m) (.slice (some ⟨b3,0,none⟩) (rn+1) c3) (.slice (some ⟨b3,0,none⟩) (rn+1) c3) (rn+1) (vs++[v]) (bs++[body]) W U'->LogAt W U' t lp d from_ segs false f Zk (bodies++[body])):=hid fun W U' h=>by rw[HLN.out]at h;exact h.done HT.out.1 HE.out HVS.out HML.out HX.out.1 HPW.out.1 HPW.out.2.1 HCT.out HP.out.1 HPW.out.2.2.2.2
    have HRES:Hid ((nxt:Int)=((pz f bodies.length:Nat):Int)):=hid (by rw[HE.out.2.1])
    cases fr with
    | true=>
     have HB3:=hid (HB2.out.setL HT.out.1 HT.out.2.1 HT.out.2.2.1 HT.out.2.2.2 6 (.bool false) (nxt+1) false rfl);clear HB2
     go_wp2_with (first|rw[<- HWX.out]|fail)
     clear c1 c4 c5 c6 hf hc3;generalize (wx.setCell ⟨lp,4,none⟩ (.int .i64 ((nxt:Int)+1))).setCell ⟨lp,6,none⟩ (.bool false)=W9 at *;have HN1:Hid (IntKind.i64.wrap (nxt:Int)=(nxt:Int)):=hid (IntWalk.i64_in _ ⟨by omega,by omega⟩);have HB0:=hid (HB3.out.drewN 1);clear HB3;have x1:=HN1.out;have S28:Hid (ApR lp d nxt W9.drew):=hid ⟨HB0.out.hl.cell 4,HB0.out.hl.cell 0⟩;refine wp_region_hl [9] [0,1,2,3,4,5,6,7,8,9,10,11] (ApR lp d nxt) (by kernel_rfl) (by kernel_rfl) S28.out ?_
     iterate 9 (refine hd_take (v:=?_) rfl rfl (by kernel_rfl) (fun W hW=>?_) ?_;rotate_left;(obtain⟨r0,r1⟩:=hW;first|(go_simp;done)|(go_simp;with_reducible rfl)))
     refine hd_loud rfl rfl fun K hK=>?_;go_simp;obtain⟨F9,hd9⟩:=HB0.out.hd;refine(flush_any _ _ td d n _ _ hd9 HN.out.2).mono ?_;rintro e w10 ⟨rfl,hd1,hc1⟩;have HB1:=hid (HB0.out.dev hc1 hd1 HT.out.1 HT.out.2.1 HT.out.2.2.1 HT.out.2.2.2);refine hK _ _ ⟨HB1.out.hl.cell 4,HB1.out.hl.cell 0⟩ ?_;have HDL:=hid HB1.out.hd;clear hd1 hc1 hK hd9
     iterate 2 (refine hd_take (v:=?_) rfl rfl (by kernel_rfl) (fun W hW=>?_) ?_;rotate_left;(obtain⟨r0,r1⟩:=hW;first|(go_simp;done)|(go_simp;with_reducible rfl)))
     refine hd_end ?_;simp only[zqa,zqb,zqc,zqd,Nat.zero_add,Nat.reduceAdd];clear x1 HB0 S28
     go_wp2_with fail
     go_ret2
     obtain⟨F9,hd9⟩:=HDL.out;exact⟨by rw[HRES.out];rfl,_,Zk,F9,HLA.out _ _ HB1.out,hd9,HP.out.2,HFR.out _ _ HB1.out.hc⟩
    | false=>
     go_wp2_with (first|rw[<- HWX.out]|fail)
     go_ret2
     obtain⟨F9,hd9⟩:=HB2.out.hd
     exact⟨by rw[HRES.out];rfl,_,Zk,F9,HLA.out _ _ HB2.out,hd9,HP.out.2,HFR.out _ _ HB2.out.hc⟩)
end Go.Proofs.Ytlhekbjidppijaa
