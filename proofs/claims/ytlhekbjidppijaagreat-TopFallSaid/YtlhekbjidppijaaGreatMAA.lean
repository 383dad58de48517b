/- Contracts of what TopFall reaches: what each function returns and leaves in memory. Conditions: as named. -/
import Derived.WalkKit
set_option linter.unusedVariables false
set_option linter.unusedSimpArgs false
set_option maxRecDepth 20000
set_option maxHeartbeats 8000000
namespace Go.Proofs.Ytlhekbjidppijaa.Plain
def stp (x:Nat):Nat:=(x / 2) ^^^ (if x%2=1 then 3988292384 else 0)
def it (n x:Nat):Nat:=match n with
 | 0=>x
 | n+1=>stp (it n x)
theorem it_z (x:Nat):it 0 x=x:=by rw[it]
theorem it_s (n x:Nat):it (n+1) x=stp (it n x):=by rw[it]
def byt (x c:Nat):Nat:=it 8 (x ^^^ c)
def run (x:Nat)(l:List Nat):Nat:=l.foldl byt x
def crc (l:List Nat):Nat:=4294967295-run 4294967295 l
theorem stp_lt (x:Nat)(h:x<4294967296):stp x<4294967296:=by
 unfold stp
 have:x / 2<2 ^ 32:=by omega
 exact Nat.xor_lt_two_pow this (by split <;> decide)
theorem it_lt (n x:Nat)(h:x<4294967296):it n x<4294967296:=by
 induction n with
 | zero=>exact h
 | succ n ih=>exact stp_lt _ ih
theorem byt_lt (x c:Nat)(h:x<4294967296)(hc:c<256):byt x c<4294967296:=
 it_lt _ _ (Nat.xor_lt_two_pow (n:=32) h (by omega))
theorem run_lt (l:List Nat)(x:Nat)(h:x<4294967296)(hl:∀ c∈l,c<256):run x l<4294967296:=by
 induction l generalizing x with
 | nil=>exact h
 | cons c l ih=>exact ih _ (byt_lt _ _ h (hl c (by simp))) (fun d hd=>hl d (by simp[hd]))
theorem run_append (x:Nat)(l m:List Nat):run x (l++m)=run (run x l) m:=List.foldl_append
theorem run_snoc (x:Nat)(l:List Nat)(c:Nat):run x (l++[c])=byt (run x l) c:=by rw[run_append];rfl
theorem compl_xor (a:Nat)(h:a<4294967296):4294967295-a=a ^^^ 4294967295:=by
 have e:=congrArg BitVec.toNat (BitVec.xor_allOnes (x:=BitVec.ofNat 32 a));rw[BitVec.toNat_xor,BitVec.toNat_not,BitVec.toNat_ofNat,BitVec.toNat_allOnes,Nat.mod_eq_of_lt (by omega)]at e;exact e.symm
def stir (x:Nat):Nat:=
 let a:=(x ^^^ x / 1073741824)*13787848793156543929%18446744073709551616
 let b:=(a ^^^ a / 134217728)*10723151780598845931%18446744073709551616
 b ^^^ b / 2147483648
theorem xsh_lt (x k:Nat)(h:x<18446744073709551616):x ^^^ x / k<18446744073709551616:=
 Nat.xor_lt_two_pow (n:=64) h (Nat.lt_of_le_of_lt (Nat.div_le_self _ _) h)
theorem stir_lt (x:Nat):stir x<18446744073709551616:=by
 unfold stir;exact xsh_lt _ _ (Nat.mod_lt _ (by decide))
def mbyte (h c:Nat):Nat:=(stir (h ^^^ c)+1)%18446744073709551616
def mend (h n:Nat):Nat:=stir (h ^^^ (256+n))
def mtext (h:Nat)(l:List Nat):Nat:=mend (l.foldl mbyte h) l.length
def mix (ls:List (List Nat)):Nat:=ls.foldl mtext 11400714819323198485
theorem mbyte_lt (h c:Nat):mbyte h c<18446744073709551616:=Nat.mod_lt _ (by decide)
theorem mend_lt (h n:Nat):mend h n<18446744073709551616:=stir_lt _
theorem bytes_lt (s:Nat)(m:List Nat)(hs:s<18446744073709551616):m.foldl mbyte s<18446744073709551616:=by
 induction m generalizing s with
 | nil=>exact hs
 | cons c m ih=>exact ih _ (mbyte_lt _ _)
attribute [irreducible] stir mbyte mend mtext mix stp it byt run crc
end Go.Proofs.Ytlhekbjidppijaa.Plain
namespace Go.Proofs.Ytlhekbjidppijaa
structure St where
 key:ByteArray
 val:ByteArray
 has:Bool
structure ORw where
 pos:Nat
 val:ByteArray
 has:Bool
def atS (L:List St):Nat->ByteArray->ByteArray × Bool
 | 0,_=>(ByteArray.empty,false)
 | p+1,k=>match L[p]? with
  | some s=>if s.key=k then (s.val,s.has) else atS L p k
  | none=>atS L p k
def rowsFrom (k:ByteArray):Nat->List St->List ORw
 | _,[]=>[]
 | n,s :: L=>(if s.key=k then [⟨n+1,s.val,s.has⟩] else [])++rowsFrom k (n+1) L
def rowsOf (k:ByteArray)(L:List St):List ORw:=rowsFrom k 0 L
theorem rowsFrom_snoc (k:ByteArray)(s:St):∀ (L:List St) (n:Nat),rowsFrom k n (L++[s])=rowsFrom k n L++if s.key=k then [⟨n+L.length+1,s.val,s.has⟩] else []:=by
 intro L
 induction L with
 | nil=>intro n;simp[rowsFrom]
 | cons x L ih=>
  intro n;rw[List.cons_append];unfold rowsFrom;rw[ih (n+1),List.append_assoc,List.length_cons,show n+1+L.length+1=n+(L.length+1)+1 by omega]
theorem rowsOf_snoc (k:ByteArray)(s:St)(L:List St):rowsOf k (L++[s])=rowsOf k L++if s.key=k then [⟨L.length+1,s.val,s.has⟩] else []:=by
 unfold rowsOf;rw[rowsFrom_snoc,Nat.zero_add]
def lastLe (p:Nat)(rs:List ORw):ByteArray × Bool:=rs.foldl (fun acc r=>if r.pos<=p then (r.val,r.has) else acc) (ByteArray.empty,false)
theorem lastLe_snoc (p:Nat)(rs:List ORw)(r:ORw):lastLe p (rs++[r])=if r.pos<=p then (r.val,r.has) else lastLe p rs:=by
 unfold lastLe;rw[List.foldl_append];rfl
theorem lastLe_nil (p:Nat):lastLe p []=(ByteArray.empty,false):=rfl
theorem atS_snoc_le (L:List St)(s:St)(k:ByteArray):∀ p,p<=L.length->atS (L++[s]) p k=atS L p k:=by
 intro p
 induction p with
 | zero=>intro _;rfl
 | succ p ih=>
  intro h;unfold atS;rw[List.getElem?_append_left (by omega),ih (by omega)]
theorem atS_big (L:List St)(k:ByteArray):∀ p,L.length<=p->atS L p k=atS L L.length k:=by
 intro p h
 induction p with
 | zero=>rw[show L.length=0 by omega]
 | succ p ih=>
  rcases Nat.lt_or_ge p L.length with h1|h1
  ·rw[show L.length=p+1 by omega]
  ·rw[<- ih h1]
   conv=>lhs;unfold atS
   rw[List.getElem?_eq_none h1]
theorem rows_pos (k:ByteArray):∀ (L:List St) (n:Nat) (r:ORw),r∈rowsFrom k n L->n<r.pos/\r.pos<=n+L.length:=by
 intro L
 induction L with
 | nil=>intro n r h;simp[rowsFrom]at h
 | cons s L ih=>
  intro n r h;unfold rowsFrom at h
  rcases List.mem_append.1 h with h1|h1
  ·split at h1
   ·rw[List.mem_singleton.1 h1];simp
   ·cases h1
  ·have:=ih (n+1) r h1
   simp;omega
theorem rowsOf_pos (k:ByteArray)(L:List St)(r:ORw)(h:r∈rowsOf k L):0<r.pos/\r.pos<=L.length:=by
 have:=rows_pos k L 0 r h;omega
theorem rowsOf_le (k:ByteArray)(L:List St):(rowsOf k L).length<=L.length:=by
 unfold rowsOf
 have:∀ (L:List St) (n:Nat),(rowsFrom k n L).length<=L.length:=by
  intro L
  induction L with
  | nil=>intro n;simp[rowsFrom]
  | cons s L ih=>
   intro n;unfold rowsFrom;have:=ih (n+1);rw[List.length_append,List.length_cons]
   split <;> simp <;> omega
 exact this L 0
theorem snoc_ind {α:Type}{P:List α->Prop}(h0:P [])(h1:∀ l x,P l->P (l++[x]))(l:List α):P l:=by
 have:∀ (n:Nat) (l:List α),l.length=n->P l:=by
  intro n
  induction n with
  | zero=>intro l h;rw[List.eq_nil_of_length_eq_zero h];exact h0
  | succ n ih=>
   intro l h
   have hne:l≠[]:=by intro e;subst e;simp at h
   rw[<- List.dropLast_concat_getLast hne];exact h1 _ _ (ih _ (by rw[List.length_dropLast];omega))
 exact this _ l rfl
theorem lastLe_big (k:ByteArray)(L:List St):∀ p,L.length<=p->lastLe p (rowsOf k L)=lastLe L.length (rowsOf k L):=by
 intro p hp
 have:∀ (rs:List ORw),(∀ r∈rs,r.pos<=L.length)->lastLe p rs=lastLe L.length rs:=by
  intro rs;refine snoc_ind (P:=fun rs=>(∀ r∈rs,r.pos<=L.length)->lastLe p rs=lastLe L.length rs) (fun _=>rfl) (fun l x ih h=>?_) rs;have hx:=h x (by simp);rw[lastLe_snoc,lastLe_snoc,if_pos hx,if_pos (by omega)]
 exact this _ (fun r hr=>(rowsOf_pos k L r hr).2)
theorem lastLe_at (k:ByteArray)(L:List St):∀ p,lastLe p (rowsOf k L)=atS L p k:=by
 refine snoc_ind (P:=fun L=>∀ p,lastLe p (rowsOf k L)=atS L p k) (fun p=>?_) (fun L s ih p=>?_) L
 ·rw[show rowsOf k []=[] from rfl,lastLe_nil]
  induction p with
  | zero=>rfl
  | succ p ih=>unfold atS;simpa using ih
 ·rw[rowsOf_snoc]
  rcases Nat.lt_or_ge L.length p with h|h
  ·have hb:atS (L++[s]) p k=atS (L++[s]) (L.length+1) k:=by
    have:=atS_big (L++[s]) k p (by simp;omega);rw[this];simp
   rw[hb]
   conv=>rhs;unfold atS
   rw[List.getElem?_concat_length,atS_snoc_le L s k _ (Nat.le_refl _),<- ih]
   by_cases hk:s.key=k
   ·simp only[hk,if_true]
    rw[lastLe_snoc,if_pos (by simp;omega)]
   ·simp only[hk,if_false,List.append_nil]
    exact lastLe_big k L p (by omega)
  ·rw[atS_snoc_le L s k p h,<- ih]
   by_cases hk:s.key=k
   ·rw[if_pos hk,lastLe_snoc,if_neg (by simp;omega)]
   ·rw[if_neg hk,List.append_nil]
theorem rows_mem (k:ByteArray):∀ (L:List St) (n:Nat) (r:ORw),r∈rowsFrom k n L ↔ ∃ i,∃ h:i<L.length,r.pos=n+i+1/\L[i].key=k/\r.val=L[i].val/\r.has=L[i].has:=by
 intro L
 induction L with
 | nil=>intro n r;simp[rowsFrom]
 | cons s L ih=>
  intro n r;unfold rowsFrom;rw[List.mem_append,ih (n+1)]
  constructor
  ·rintro(h|⟨i,hi,h1,h2,h3,h4⟩)
   ·split at h
    ·rename_i hk
     rw[List.mem_singleton.1 h];exact⟨0,by simp,rfl,hk,rfl,rfl⟩
    ·cases h
   ·exact⟨i+1,by simpa using hi,by omega,h2,h3,h4⟩
  ·rintro⟨i,hi,h1,h2,h3,h4⟩
   cases i with
   | zero=>
    left
    have hk:s.key=k:=h2;rw[if_pos hk];obtain⟨p,v,h⟩:=r;simp at h1 h3 h4;simp[h1,h3,h4]
   | succ i=>exact .inr ⟨i,by simpa using hi,by omega,h2,h3,h4⟩
def heldS (L:List St)(k v:ByteArray)(h:Bool)(a b:Nat):Prop:=∃ p,a<=p/\p<=b/\atS L p k=(v,h)
theorem atS_row (L:List St)(k:ByteArray)(p:Nat)(r:ORw)(hr:r∈rowsOf k L)(hp:r.pos=p):atS L p k=(r.val,r.has):=by
 obtain⟨i,hi,h1,h2,h3,h4⟩:=(rows_mem k L 0 r).1 hr
 have:p=i+1:=by omega
 subst this;unfold atS;rw[List.getElem?_eq_getElem hi];simp only[h2,if_true,h3,h4]
theorem held_rows (L:List St)(k v:ByteArray)(h:Bool)(a b:Nat)(hab:a<=b):heldS L k v h a b ↔ atS L a k=(v,h)\/∃ r∈rowsOf k L,a<r.pos/\r.pos<=b/\r.val=v/\r.has=h:=by
 constructor
 ·rintro⟨p,h1,h2,h3⟩
  have key:∀ d:Nat,a+d<=b->atS L (a+d) k=(v,h)->atS L a k=(v,h)\/∃ r∈rowsOf k L,a<r.pos/\r.pos<=b/\r.val=v/\r.has=h:=by
   intro d
   induction d with
   | zero=>intro _ h;exact .inl h
   | succ d ih=>
    intro hd he;have he':=he;rw[show a+(d+1)=(a+d)+1 by omega]at he;unfold atS at he
    cases hx:L[a+d]? with
    | none=>
     rw[hx]at he;exact ih (by omega) he
    | some s=>
     rw[hx]at he;simp only at he
     by_cases hk:s.key=k
     ·rw[if_pos hk]at he
      obtain⟨hi,hs⟩:=List.getElem?_eq_some_iff.1 hx;refine .inr ⟨⟨a+d+1,s.val,s.has⟩,(rows_mem k L 0 _).2 ⟨a+d,hi,by simp,?_,?_,?_⟩,by simp;omega,by simp;omega,?_,?_⟩
      ·rw[hs];exact hk
      ·rw[hs]
      ·rw[hs]
      ·exact congrArg Prod.fst he
      ·exact congrArg Prod.snd he
     ·rw[if_neg hk]at he
      exact ih (by omega) he
  exact key (p-a) (by omega) (by rw[show a+(p-a)=p by omega];exact h3)
 ·rintro(h1|⟨r,hr,h1,h2,h3,h4⟩)
  ·exact⟨a,Nat.le_refl _,hab,h1⟩
  ·exact⟨r.pos,by omega,h2,by rw[atS_row L k r.pos r hr rfl,h3,h4]⟩
end Go.Proofs.Ytlhekbjidppijaa
namespace Go.Proofs.Ytlhekbjidppijaa
open Go.RowKit
section
variable {P : Program} {ops : Array Oper} {Q : Exit -> Act -> World -> Prop}
def Done (L:Nat->Bool)(i:Nat):Nat->Bool:=fun j=>if j=i then true else L j
def StepOk (P:Program)(ops:Array Oper)(Q:Exit->Act->World->Prop)(G:(Nat->Bool)->Act->World->Prop)(i:Nat)(o:Oper):Prop:=
 ∀ (L:Nat->Bool) (a:Act) (w:World),L i=false->(∀ e∈o.after.toList,Region.binds .any e=true->L e.on=true)->G L a w ->
  ∀ K:Act->World->Prop,(∀ a w,G (Done L i) a w->K a w)->if Region.wanted o (yielded ops a.tmps) then o.wp P a w K Q else K (a.put o.dst undef) w
def StepAll (P:Program)(ops:Array Oper)(Q:Exit->Act->World->Prop)(G:(Nat->Bool)->Act->World->Prop):Nat->List Oper->Prop
 | _,[]=>True
 | i,o :: l=>StepOk P ops Q G i o/\StepAll P ops Q G (i+1) l
theorem StepAll.at_ {G:(Nat->Bool)->Act->World->Prop}:∀ (l:List Oper) (k:Nat),StepAll P ops Q G k l->∀ i o,l[i]? = some o->StepOk P ops Q G (k+i) o:=by
 intro l
 induction l with
 | nil=>intro k _ i o h;simp at h
 | cons x l ih=>
  intro k h i o hi
  cases i with
  | zero=>simp only[List.getElem?_cons_zero,Option.some.injEq]at hi;subst hi;exact h.1
  | succ i=>
   have:=ih (k+1) h.2 i o (by simpa using hi)
   rwa [show k+1+i=k+(i+1) by omega]at this
def edgesOk (ops:Array Oper):Bool:=(List.range ops.size).all fun i=>match ops[i]? with
 | none=>true
 | some o=>o.after.toList.all fun e=>decide (e.on<i) || !Region.binds .any e
theorem wpAny_inv (G:(Nat->Bool)->Act->World->Prop)(he:edgesOk ops=true)(hs:StepAll P ops Q G 0 ops.toList)(hq:∀ L a w,(∀ i,i<ops.size->L i=true)->G L a w->Q .normal a w) :
 ∀ (fuel:Nat) (listed:Array Bool) (a:Act) (w:World),listed.size=ops.size->(List.range ops.size).countP (fun i=>!listed.getD i false)<=fuel->G (fun i=>listed.getD i false) a w->wpAny P .any ops Q fuel listed a w:=by
 have edge:∀ i o,ops[i]? = some o->∀ e∈o.after.toList,Region.binds .any e=true->e.on<i:=by
  intro i o hi e hm hb;have hlt:i<ops.size:=(Array.getElem?_eq_some_iff.1 hi).1;unfold edgesOk at he;rw[List.all_eq_true]at he;have:=he i (List.mem_range.2 hlt);rw[hi]at this;simp only[List.all_eq_true,Bool.or_eq_true,Bool.not_eq_true',decide_eq_true_eq]at this;exact(this e hm).resolve_right (by simp[hb])
 have none_left:∀ listed:Array Bool,listed.size=ops.size->Region.ready .any ops listed=[]->∀ i,i<ops.size->listed.getD i false=true:=by
  intro listed hsz hr i
  induction i using Nat.strongRecOn with
  | _ i ih=>
   intro hi
   cases hl:listed.getD i false with
   | true=>rfl
   | false=>
    exfalso
    have hm:i∈Region.ready .any ops listed:=by
     refine mem_ready.2 ⟨?_,ops[i],Array.getElem?_eq_getElem hi,?_⟩
     ·have hi':i<listed.size:=by omega
      simp only[Array.getD_eq_getD_getElem?,Array.getElem?_eq_getElem hi',Option.getD_some]at hl ⊢;exact hl
     ·intro e hm hb
      have:=edge i ops[i] (Array.getElem?_eq_getElem hi) e (by simpa using hm) hb;exact ih e.on this (by omega)
    rw[hr]at hm
    cases hm
 intro fuel
 induction fuel with
 | zero=>
  intro listed a w hsz hc hG
  have all:∀ i,i<ops.size->listed.getD i false=true:=by
   intro i hi;have h0:=List.countP_eq_zero.1 (Nat.le_zero.1 hc) i (List.mem_range.2 hi)
   simpa using h0
  refine⟨?_,hq _ a w all hG⟩
  cases hr:Region.ready .any ops listed with
  | nil=>rfl
  | cons x l=>
   exfalso
   have hm:x∈Region.ready .any ops listed:=by rw[hr];simp
   obtain⟨h1,o,ho,_⟩:=mem_ready.1 hm;have hlt:x<ops.size:=(Array.getElem?_eq_some_iff.1 ho).1;have h2:=all x hlt
   have hi':x<listed.size:=by omega
   simp only[Array.getD_eq_getD_getElem?,Array.getElem?_eq_getElem hi',Option.getD_some]at h1 h2;rw[h1]at h2;cases h2
 | succ fuel ih=>
  intro listed a w hsz hc hG;refine⟨fun hr=>hq _ a w (none_left listed hsz hr) hG,fun i hi=>?_⟩;obtain⟨h1,o,ho,hall⟩:=mem_ready.1 hi;have hlt:i<ops.size:=(Array.getElem?_eq_some_iff.1 ho).1
  have hi':i<listed.size:=by omega
  have h1':listed.getD i false=false:=by
   simp only[Array.getD_eq_getD_getElem?,Array.getElem?_eq_getElem hi',Option.getD_some]at h1 ⊢;exact h1
  have hstep:=StepAll.at_ ops.toList 0 hs i o (by simpa using ho);rw[Nat.zero_add]at hstep;have hd:∀ e∈o.after.toList,Region.binds .any e=true->(fun j=>listed.getD j false) e.on=true:=fun e hm hb=>hall e (by simpa using hm) hb
  have hnew:(fun j=>(listed.setIfInBounds i true).getD j false)=Done (fun j=>listed.getD j false) i:=by
   funext j
   unfold Done
   by_cases hj:j=i
   ·subst hj
    simp[hi']
   ·simp only[hj,if_false]
    exact getD_set_ne false (Ne.symm hj)
  have hcount:(List.range ops.size).countP (fun j=>!(listed.setIfInBounds i true).getD j false)<=fuel:=by
   have key:∀ l:List Nat,l.Nodup->i∈l->l.countP (fun j=>!(listed.setIfInBounds i true).getD j false)+1<=l.countP (fun j=>!listed.getD j false):=by
    intro l
    induction l with
    | nil=>intro _ h;cases h
    | cons x l ihl=>
     intro hn hm;rw[List.nodup_cons]at hn
     by_cases hx:x=i
     ·subst hx
      have e:l.countP (fun j=>!(listed.setIfInBounds x true).getD j false)=l.countP (fun j=>!listed.getD j false):=by
       apply List.countP_congr;intro j hj;have:x≠j:=fun h=>hn.1 (h ▸ hj);rw[getD_set_ne false this]
      rw[List.countP_cons,List.countP_cons,e]
      have e1:(listed.setIfInBounds x true).getD x false=true:=by simp[hi']
      simp[e1,h1']
     ·have:=ihl hn.2 ((List.mem_cons.1 hm).resolve_left (Ne.symm hx))
      rw[List.countP_cons,List.countP_cons,getD_set_ne false (Ne.symm hx)];omega
   have:=key (List.range ops.size) List.nodup_range (List.mem_range.2 hlt);omega
  have:=hstep (fun j=>listed.getD j false) a w h1' hd hG (wpAny P .any ops Q fuel (listed.setIfInBounds i true)) (fun a' w' hG'=>ih _ a' w' (by simp[hsz]) hcount (by rw[hnew];exact hG'));unfold wpOp;simp only[ho]
  split
  ·rename_i hw;rw[if_pos hw]at this;exact .inl this
  ·rename_i hw;rw[if_neg hw]at this;exact this
theorem wp_region_inv {id:Nat}{l:List Oper}{a:Act}{w:World}(G:(Nat->Bool)->Act->World->Prop)(hm:P.follows .mixedOrders=true)(he:edgesOk l.toArray=true)
 (h0:G (fun _=>false) a w.drew)(hs:StepAll P l.toArray Q G 0 l)(hq:∀ L a w,(∀ i,i<l.length->L i=true)->G L a w->Q .normal a w):(Code.region id l.toArray true).wp P Q a w:=by
 refine wp_region_any hm ?_;refine wpAny_inv G he (by simpa using hs) (by simpa using hq) _ _ a _ (by simp) ?_ ?_
 ·exact Nat.le_trans List.countP_le_length (by simp)
 ·have e:(fun i=>(Array.replicate l.toArray.size false).getD i false)=fun _=>false:=by
   funext i
   rw[Array.getD_eq_getD_getElem?]
   cases h:(Array.replicate l.toArray.size false)[i]? with
   | none=>rfl
   | some b=>
    have:=Array.getElem?_eq_some_iff.1 h;obtain⟨h1,h2⟩:=this;rw[Array.getElem_replicate]at h2;exact h2.symm
  rw[e];exact h0
end
section
variable {κ : Type} [DecidableEq κ] {P : Program}
structure Keys (P:Program)(kt:TypeId)(mk:κ->Value)(d:TypeDesc):Prop where
 desc:P.underlying kt=some d
 same:∀ a b,Instr.sameNow d (mk a) (mk b)=some (decide (a=b))
 check:∀ (empty:Bool) (a:κ) (w:World),(Instr.checkKey empty 10000 kt (mk a)).run P w=.ok () w
 bits:∀ a,Instr.sameBits 10000 (mk a) (mk a)=true
abbrev Ent (κ:Type):Type:=κ × Value × Nat
def ents (mk:κ->Value)(l:List (Ent κ)):List MapEntry:=l.map fun p=>⟨mk p.1,p.2.1,p.2.2⟩
def MapAt (w:World)(b:Nat)(mk:κ->Value)(l:List (Ent κ))(clock:Nat):Prop:=w.heap[b]? = some (.map (ents mk l).toArray clock)
def keyPos (k:κ):List (Ent κ)->Nat->Option (Nat × Value)
 | [],_=>none
 | p :: l,i=>if k=p.1 then some (i,p.2.1) else keyPos k l (i+1)
theorem findNow_ents {kt:TypeId}{mk:κ->Value}{d:TypeDesc}(K:Keys P kt mk d)(k:κ):∀ (l:List (Ent κ)) (i:Nat),Instr.findNow d (mk k) (ents mk l) i=some (keyPos k l i):=by
 intro l
 induction l with
 | nil=>intro i;rfl
 | cons p l ih=>
  intro i;unfold ents;rw[List.map_cons];unfold Instr.findNow keyPos;rw[K.same]
  by_cases h:k=p.1
  ·simp[h]
  ·simp only[h,decide_false,if_false]
   exact ih (i+1)
theorem run_findKey {kt:TypeId}{mk:κ->Value}{d:TypeDesc}(K:Keys P kt mk d)(k:κ)(l:List (Ent κ))(w:World):(Instr.findKey kt (mk k) (ents mk l)).run P w=.ok (keyPos k l 0) w:=by
 unfold Instr.findKey;simp only[Sem.run_bind,run_underlying K.desc,Result.andThen_ok,findNow_ents K k l 0,Sem.run_pure]
theorem run_getMap {w:World}{b:Nat}{es:Array MapEntry}{c:Nat}(h:w.heap[b]? = some (.map es c)):(getObj b).run P w=.ok (.map es c) w:=by
 unfold getObj;simp[Sem.run,h]
theorem run_lookup_at {t kt e:TypeId}{mk:κ->Value}{d:TypeDesc}(K:Keys P kt mk d)(ht:P.underlying t=some (.map kt e)){w:World}{b:Nat}{l:List (Ent κ)}{c:Nat}(h:MapAt w b mk l c)(k:κ)(z:Value)(hz:(zeroValue e).run P w=.ok z w)(ok:Bool) :
 (Instr.lookup t (.map (some b)) (mk k) ok).run P w=.ok (let r:=match keyPos k l 0 with|some (_,v)=>(v,true)|none=>(z,false);if ok then .tuple #[r.1,.bool r.2] else r.1) w:=by
 unfold Instr.lookup;simp only[Sem.run_bind,run_underlying ht,Result.andThen_ok,run_getMap h,Sem.run_pure,K.check,run_findKey K]
 cases keyPos k l 0 with
 | none=>simp[hz]
 | some p=>simp[Sem.run_pure]
def setMap (w:World)(b:Nat)(es:Array MapEntry)(c:Nat):World:={ w with heap:=w.heap.setIfInBounds b (.map es c) }
theorem setMap_grown (w:World)(b:Nat)(es:Array MapEntry)(c:Nat):w.grownBy (setMap w b es c) (some b):=
 ⟨rfl,rfl,rfl,by simp[setMap],fun k _ hk=>by
  show(w.heap.setIfInBounds b _)[k]? = _
  rw[Array.getElem?_setIfInBounds_ne (fun e=>hk (by rw[e]))]⟩
theorem setMap_size (w:World)(b:Nat)(es:Array MapEntry)(c:Nat):(setMap w b es c).heap.size=w.heap.size:=by simp[setMap]
theorem setMap_at {w:World}{b:Nat}{o:Obj}(h:w.heap[b]? = some o)(es:Array MapEntry)(c:Nat):(setMap w b es c).heap[b]? = some (.map es c):=by
 have hlt:b<w.heap.size:=(Array.getElem?_eq_some_iff.1 h).1;show(w.heap.setIfInBounds b _)[b]? = _;simp[hlt]
theorem run_setMap {w:World}{b:Nat}{es0:Array MapEntry}{c0:Nat}(h:w.heap[b]? = some (.map es0 c0))(es:Array MapEntry)(c:Nat):(setObj b (.map es c)).run P w=.ok () (setMap w b es c):=by
 unfold setObj;simp[Sem.run,h,setMap]
def putEnt (k:κ)(v:Value)(c:Nat):List (Ent κ)->List (Ent κ)
 | []=>[(k,v,c)]
 | p :: l=>if k=p.1 then (p.1,v,p.2.2) :: l else p :: putEnt k v c l
def delEnt (k:κ):List (Ent κ)->List (Ent κ)
 | []=>[]
 | p :: l=>if k=p.1 then l else p :: delEnt k l
theorem keyPos_none (k:κ):∀ (l:List (Ent κ)) (i:Nat),keyPos k l i=none ↔ ∀ p∈l,k≠p.1:=by
 intro l
 induction l with
 | nil=>intro i;simp[keyPos]
 | cons p l ih=>
  intro i;unfold keyPos
  by_cases h:k=p.1
  ·simp[h]
  ·rw[if_neg h,ih];simp[h]
theorem putEnt_none (k:κ)(v:Value)(c:Nat):∀ (l:List (Ent κ)) (i:Nat),keyPos k l i=none->putEnt k v c l=l++[(k,v,c)]:=by
 intro l
 induction l with
 | nil=>intro i _;rfl
 | cons p l ih=>
  intro i h;unfold keyPos at h
  by_cases hk:k=p.1
  ·simp[hk]at h
  ·rw[if_neg hk]at h
   unfold putEnt;rw[if_neg hk,ih _ h];rfl
theorem keyPos_get {mk:κ->Value}(k:κ):∀ (l:List (Ent κ)) (i j:Nat) (v:Value),keyPos k l i=some (j,v)->∃ n,j=i+n/\n<l.length/\((ents mk l)[n]?).map (·.key)=some (mk k):=by
 intro l
 induction l with
 | nil=>intro i j v h;simp[keyPos]at h
 | cons p l ih=>
  intro i j v h;unfold keyPos at h
  by_cases hk:k=p.1
  ·rw[if_pos hk]at h
   simp only[Option.some.injEq,Prod.mk.injEq]at h;refine⟨0,by omega,by simp,?_⟩;unfold ents;simp[hk]
  ·rw[if_neg hk]at h
   obtain⟨n,h1,h2,h3⟩:=ih _ _ _ h;refine⟨n+1,by omega,by simp;omega,?_⟩;unfold ents at h3 ⊢
   simpa using h3
theorem putEnt_some {mk:κ->Value}(k:κ)(v:Value)(c:Nat):∀ (l:List (Ent κ)) (i n:Nat) (u:Value),keyPos k l i=some (i+n,u)->(ents mk l).modify n (fun e=>{ e with key:=mk k,val:=v })=ents mk (putEnt k v c l):=by
 intro l
 induction l with
 | nil=>intro i n u h;simp[keyPos]at h
 | cons p l ih=>
  intro i n u h;unfold keyPos at h;unfold putEnt
  by_cases hk:k=p.1
  ·rw[if_pos hk]at h
   simp only[Option.some.injEq,Prod.mk.injEq]at h
   obtain rfl:n=0:=by omega
   rw[if_pos hk];unfold ents;simp[hk]
  ·rw[if_neg hk]at h
   rw[if_neg hk]
   cases n with
   | zero=>
    obtain⟨m,hm,_⟩:=keyPos_get (mk:=mk) k l _ _ _ h;omega
   | succ n=>
    have:=ih (i+1) n u (by rw[show i+1+n=i+(n+1) by omega];exact h);unfold ents at this ⊢;simp only[List.map_cons,List.modify_succ_cons];rw[this]
theorem delEnt_some {mk:κ->Value}(k:κ):∀ (l:List (Ent κ)) (i n:Nat) (u:Value),keyPos k l i=some (i+n,u)->(ents mk l).eraseIdx n=ents mk (delEnt k l):=by
 intro l
 induction l with
 | nil=>intro i n u h;simp[keyPos]at h
 | cons p l ih=>
  intro i n u h;unfold keyPos at h;unfold delEnt
  by_cases hk:k=p.1
  ·rw[if_pos hk]at h
   simp only[Option.some.injEq,Prod.mk.injEq]at h
   obtain rfl:n=0:=by omega
   rw[if_pos hk];unfold ents;simp
  ·rw[if_neg hk]at h
   rw[if_neg hk]
   cases n with
   | zero=>
    obtain⟨m,hm,_⟩:=keyPos_get (mk:=mk) k l _ _ _ h;omega
   | succ n=>
    have:=ih (i+1) n u (by rw[show i+1+n=i+(n+1) by omega];exact h);unfold ents at this ⊢;simp only[List.map_cons,List.eraseIdx_cons_succ];rw[this]
theorem delEnt_none (k:κ):∀ (l:List (Ent κ)) (i:Nat),keyPos k l i=none->delEnt k l=l:=by
 intro l
 induction l with
 | nil=>intro i _;rfl
 | cons p l ih=>
  intro i h;unfold keyPos at h
  by_cases hk:k=p.1
  ·simp[hk]at h
  ·rw[if_neg hk]at h
   unfold delEnt;rw[if_neg hk,ih _ h]
def putClock (k:κ)(l:List (Ent κ))(c:Nat):Nat:=match keyPos k l 0 with
 | some _=>c
 | none=>c+1
theorem run_put_at {t kt e:TypeId}{mk:κ->Value}{d:TypeDesc}(K:Keys P kt mk d)(ht:P.underlying t=some (.map kt e)){w:World}{b:Nat}{l:List (Ent κ)}{c:Nat}(h:MapAt w b mk l c)(k:κ)(v:Value) :
 ∃ w',(Instr.mapUpdate t (.map (some b)) (mk k) v).run P w=.ok () w'/\MapAt w' b mk (putEnt k v c l) (putClock k l c)/\w.grownBy w' (some b)/\w'.heap.size=w.heap.size:=by
 unfold Instr.mapUpdate;simp only[Sem.run_bind,run_underlying ht,Result.andThen_ok,run_getMap h,K.check,run_findKey K];unfold putClock
 cases hp:keyPos k l 0 with
 | none=>
  refine⟨_,run_setMap h _ _,?_,setMap_grown _ _ _ _,setMap_size _ _ _ _⟩;unfold MapAt;rw[setMap_at h,putEnt_none k v c l 0 hp];unfold ents;simp
 | some q=>
  obtain⟨j,u⟩:=q;obtain⟨n,hj,hn,hkey⟩:=keyPos_get (mk:=mk) k l 0 j u hp;rw[Nat.zero_add]at hj;subst hj
  have hk2:(((ents mk l).toArray[j]?).map (·.key)).getD (mk k)=mk k:=by
   rw[List.getElem?_toArray,hkey];rfl
  simp only[hk2];unfold Instr.keyThatStays;simp only[K.bits,if_true,Sem.run_bind,Sem.run_pure,Result.andThen_ok];refine⟨_,run_setMap h _ _,?_,setMap_grown _ _ _ _,setMap_size _ _ _ _⟩;unfold MapAt;rw[setMap_at h];rw[<- putEnt_some (mk:=mk) k v c l 0 j u (by rw[Nat.zero_add];exact hp)];simp
theorem run_del_at {t kt e:TypeId}{mk:κ->Value}{d:TypeDesc}(K:Keys P kt mk d)(ht:P.underlying t=some (.map kt e)){w:World}{b:Nat}{l:List (Ent κ)}{c:Nat}(h:MapAt w b mk l c)(k:κ)(ty:TypeId) :
 ∃ w',(Builtin.delete_ #[t,kt] ty #[.map (some b),mk k]).run P w=.ok (.tuple #[]) w'/\MapAt w' b mk (delEnt k l) c/\w.grownBy w' (some b)/\w'.heap.size=w.heap.size:=by
 unfold Builtin.delete_;simp only[List.getElem?_toArray,List.getElem?_cons_zero,List.getElem?_cons_succ,Sem.run_bind,run_underlying ht,Result.andThen_ok,run_getMap h,K.check,run_findKey K]
 cases hp:keyPos k l 0 with
 | none=>
  refine⟨setMap w b (ents mk l).toArray c,by simp only[Sem.run_bind,run_setMap h,Result.andThen_ok,Sem.run_pure],?_,setMap_grown _ _ _ _,setMap_size _ _ _ _⟩;unfold MapAt;rw[setMap_at h,delEnt_none k l 0 hp]
 | some q=>
  obtain⟨j,u⟩:=q;refine⟨setMap w b ((ents mk l).toArray.eraseIdxIfInBounds j) c,by simp only[Sem.run_bind,run_setMap h,Result.andThen_ok,Sem.run_pure],?_,setMap_grown _ _ _ _,setMap_size _ _ _ _⟩;unfold MapAt;rw[setMap_at h,<- delEnt_some (mk:=mk) k l 0 j u (by rw[Nat.zero_add];exact hp)];obtain⟨n,hj,hn,_⟩:=keyPos_get (mk:=mk) k l 0 j u hp
  have hj':j<(ents mk l).length:=by unfold ents;rw[List.length_map];omega
  simp[Array.eraseIdxIfInBounds,hj']
end
section
variable {κ : Type} {P : Program}
def Stamped (l:List (Ent κ))(c:Nat):Prop:=(∀ p∈l,p.2.2<c)/\(l.map (·.2.2)).Nodup
def IterAt (w:World)(r b c:Nat)(seen:List Nat):Prop:=w.heap[r]? = some (.mapIter (some b) c seen.toArray c)
theorem run_range_at {t kt e:TypeId}{mk:κ->Value}(ht:P.underlying t=some (.map kt e)){w:World}{b:Nat}{l:List (Ent κ)}{c:Nat}(h:MapAt w b mk l c) :
 (Instr.range t (.map (some b))).run P w=.ok (.pointer (some ⟨w.heap.size,0,none⟩)) (w.alloc (.mapIter (some b) c #[] c)):=by
 unfold Instr.range;simp[Sem.run_bind,run_underlying ht,run_getMap h]
theorem run_getIter {w:World}{r b c:Nat}{seen:List Nat}(h:IterAt w r b c seen):(getObj r).run P w=.ok (.mapIter (some b) c seen.toArray c) w:=by
 unfold getObj;simp[Sem.run,IterAt]at h ⊢;rw[h]
def setIter (w:World)(r:Nat)(o:Obj):World:={ w with heap:=w.heap.setIfInBounds r o }
theorem run_setIter {w:World}{r b c:Nat}{seen:List Nat}(h:IterAt w r b c seen)(o:Obj):(setObj r o).run P w=.ok () (setIter w r o):=by
 unfold setObj;unfold IterAt at h;simp[Sem.run,h,setIter]
theorem left_filter (L:List MapEntry)(c:Nat)(h:∀ e∈L,e.born<c):(L.toArray.filter fun e=>decide (e.born<c))=L.toArray/\(L.toArray.filter fun e=>decide (e.born ≥ c))=#[]:=by
 constructor
 ·rw[List.filter_toArray,List.filter_eq_self.2 (fun e he=>by simpa using h e he)]
 ·rw[List.filter_toArray,List.filter_eq_nil_iff.2 (fun e he=>by have:=h e he;simp;omega)]
theorem find_ents (mk:κ->Value):∀ (l:List (Ent κ)),(l.map (·.2.2)).Nodup->∀ p∈l,(ents mk l).find? (fun e=>e.born == p.2.2)=some ⟨mk p.1,p.2.1,p.2.2⟩:=by
 intro l
 induction l with
 | nil=>intro _ p hp;cases hp
 | cons q l ih=>
  intro hn p hp;rw[List.map_cons,List.nodup_cons]at hn;unfold ents;rw[List.map_cons,List.find?_cons]
  rcases List.mem_cons.1 hp with rfl|hp'
  ·simp
  ·have hne:(q.2.2 == p.2.2)=false:=by
    rw[beq_eq_false_iff_ne];intro e;exact hn.1 (e ▸ List.mem_map.2 ⟨p,hp',rfl⟩)
   rw[hne];exact ih hn.2 p hp'
theorem run_pick (w:World)(n:Nat)(hn:0<n):∃ i w1,i<n/\(choose (.mapNext n)).run P w=.ok i w1/\(w1=w\/w1=w.drew):=by
 by_cases h:n<=1
 ·refine⟨0,w,hn,?_,.inl rfl⟩
  simp[choose,Sem.run,Question.forced,h]
 ·refine⟨(w.tape w.drawn (.mapNext n))%n,w.drew,Nat.mod_lt _ hn,?_,.inr rfl⟩
  simp[choose,Sem.run,Question.forced,Question.cut,h]
theorem run_next_at {mk:κ->Value}{w:World}{r b c:Nat}{l:List (Ent κ)}{seen:List Nat}(h:MapAt w b mk l c)(hs:Stamped l c)(hi:IterAt w r b c seen)(ty:TypeId) :
 ((∀ p∈l,p.2.2∈seen)/\(Instr.next (.pointer (some ⟨r,0,none⟩)) false ty).run P w=.ok (.tuple #[.bool false]) w) \/
 ∃ p∈l,p.2.2∉seen/\∃ w',(Instr.next (.pointer (some ⟨r,0,none⟩)) false ty).run P w=.ok (.tuple #[.bool true,mk p.1,p.2.1]) w'/\IterAt w' r b c (seen++[p.2.2])/\w.grownBy w' (some r)/\w'.heap.size=w.heap.size /\
  (b≠r->(Instr.entry (.pointer (some ⟨r,0,none⟩))).run P w'=.ok (.tuple #[mk p.1,p.2.1]) w'):=by
 have hall:(!seen.toArray.isEmpty && !(ents mk l).toArray.isEmpty && (ents mk l).toArray.all fun e=>decide (e.born ≥ c))=false:=by
  cases l with
  | nil=>simp[ents]
  | cons p l=>
   have:=hs.1 p (by simp);simp[ents];intro _ h0;omega
 generalize hL:(ents mk l).filter (fun e=>!seen.toArray.contains e.born)=L
 have hmem:∀ e∈L,∃ p∈l,e=⟨mk p.1,p.2.1,p.2.2⟩/\p.2.2∉seen:=by
  intro e he;rw[<- hL]at he;obtain⟨h1,h2⟩:=List.mem_filter.1 he;unfold ents at h1;obtain⟨p,hp,rfl⟩:=List.mem_map.1 h1;exact⟨p,hp,rfl,by simpa using h2⟩
 have hborn:∀ e∈L,e.born<c:=by
  intro e he;obtain⟨p,hp,rfl,_⟩:=hmem e he;exact hs.1 p hp
 have hf:=left_filter L c hborn
 have hfl:((ents mk l).toArray.filter fun e=>!seen.toArray.contains e.born)=L.toArray:=by rw[List.filter_toArray,hL]
 have hrun:(Instr.next (.pointer (some ⟨r,0,none⟩)) false ty).run P w=(do
  let candidates:Array (Option MapEntry):=(if L.toArray.isEmpty then #[none] else #[])++(L.toArray++#[]).map some
  match candidates[<- choose (.mapNext candidates.size)]? with
  | some (some e)=>do
   setObj r (.mapIter (some b) c (seen.toArray.push e.born) c)
   pure (.tuple #[.bool true,e.key,e.val])
  | some none=>pure (.tuple #[.bool false])
  | none=>stuck "Next: no such candidate" : Sem Value).run P w:=by
  unfold Instr.next;simp only[Sem.run_bind,run_getIter hi,run_getMap h,Result.andThen_ok,hall,Bool.false_eq_true,if_false,hfl,hf.1,hf.2];rfl
 rw[hrun];clear hrun
 cases L with
 | nil=>
  left
  refine⟨fun p hp=>?_,?_⟩
  ·have h0:=List.filter_eq_nil_iff.1 hL ⟨mk p.1,p.2.1,p.2.2⟩ (by unfold ents;exact List.mem_map.2 ⟨p,hp,rfl⟩)
   simpa using h0
  ·simp[choose,Sem.run,Question.forced,Sem.bind,bind,pure]
 | cons e L'=>
  right
  have hcand:(if (e :: L').toArray.isEmpty=true then #[none] else #[])++Array.map some ((e :: L').toArray++#[])=((e :: L').map some).toArray:=by simp
  simp only[hcand,Sem.run_bind];obtain⟨i,w1,hi',hpick,hw1⟩:=run_pick (P:=P) w ((e :: L').map some).toArray.size (by simp);rw[hpick];simp only[Result.andThen_ok]
  have hlt:i<(e :: L').length:=by simpa using hi'
  have hget:((e :: L').map some).toArray[i]? = some (some (e :: L')[i]):=by
   rw[List.getElem?_toArray,List.getElem?_map,List.getElem?_eq_getElem hlt];rfl
  rw[hget];obtain⟨p,hp,hpe,hns⟩:=hmem _ (List.getElem_mem hlt);rw[hpe]
  have hi1:IterAt w1 r b c seen:=by rcases hw1 with rfl|rfl <;> exact hi
  refine⟨p,hp,hns,setIter w1 r (.mapIter (some b) c (seen.toArray.push p.2.2) c),?_,?_,?_,?_,?_⟩
  ·simp only[Sem.run_bind,run_setIter hi1,Result.andThen_ok,Sem.run_pure]
  ·have hlt:r<w1.heap.size:=(Array.getElem?_eq_some_iff.1 hi1).1
   unfold IterAt;show(w1.heap.setIfInBounds r _)[r]? = _;simp[hlt]
  ·have hg:w1.grownBy (setIter w1 r (.mapIter (some b) c (seen.toArray.push p.2.2) c)) (some r):=⟨rfl,rfl,rfl,by simp[setIter],fun k _ hk=>by
    show(w1.heap.setIfInBounds r _)[k]? = _
    rw[Array.getElem?_setIfInBounds_ne (fun e=>hk (by rw[e]))]⟩
   rcases hw1 with rfl|rfl
   ·exact hg
   ·exact⟨hg.os,hg.tape,hg.output,hg.size,hg.block⟩
  ·rcases hw1 with rfl|rfl <;> simp[setIter] <;> rfl
  ·intro hbr
   have hlt:r<w1.heap.size:=(Array.getElem?_eq_some_iff.1 hi1).1
   have hm:(setIter w1 r (.mapIter (some b) c (seen.toArray.push p.2.2) c)).heap[b]? = some (.map (ents mk l).toArray c):=by
    show(w1.heap.setIfInBounds r _)[b]? = _;rw[Array.getElem?_setIfInBounds_ne (Ne.symm hbr)]
    rcases hw1 with rfl|rfl <;> exact h
   have hit:(getObj r).run P (setIter w1 r (.mapIter (some b) c (seen.toArray.push p.2.2) c))=.ok (.mapIter (some b) c (seen.toArray.push p.2.2) c) (setIter w1 r (.mapIter (some b) c (seen.toArray.push p.2.2) c)):=by
    unfold getObj
    have:(setIter w1 r (.mapIter (some b) c (seen.toArray.push p.2.2) c)).heap[r]? = some (.mapIter (some b) c (seen.toArray.push p.2.2) c):=by
     show(w1.heap.setIfInBounds r _)[r]? = _;simp[hlt]
    simp only[Sem.run,this]
   have hfind:(ents mk l).toArray.find? (fun e=>e.born == p.2.2)=some ⟨mk p.1,p.2.1,p.2.2⟩:=by
    rw[List.find?_toArray];exact find_ents mk l hs.2 p hp
   unfold Instr.entry;simp only[Sem.run_bind,hit,Result.andThen_ok]
   have hback:(seen.toArray.push p.2.2).back? = some p.2.2:=by simp
   simp only[hback,Sem.run_bind,run_getMap hm,Result.andThen_ok,bne_self_eq_false,Bool.false_eq_true,if_false,hfind,Sem.run_pure]
section
variable {ops : Array Oper} {rest : List Oper} {o : Oper} {a : Act} {K : Act -> World -> Prop} {Q : Exit -> Act -> World -> Prop} {w : World}
theorem wp_next_at {mk:κ->Value}{r b c:Nat}{l:List (Ent κ)}{seen:List Nat}(it:Operand)(hop:o.op=Op.next it false)(hit:a.eval it=.pointer (some ⟨r,0,none⟩))(h:MapAt w b mk l c)(hs:Stamped l c)(hi:IterAt w r b c seen)
 (hDone:(∀ p∈l,p.2.2∈seen)->K (a.put o.dst (.tuple #[.bool false])) w)
 (hMore:∀ p∈l,p.2.2∉seen->∀ w',IterAt w' r b c (seen++[p.2.2])->w.grownBy w' (some r)->w'.heap.size=w.heap.size->(b≠r->(Instr.entry (.pointer (some ⟨r,0,none⟩))).run P w'=.ok (.tuple #[mk p.1,p.2.1]) w')->K (a.put o.dst (.tuple #[.bool true,mk p.1,p.2.1])) w'):o.wp P a w K Q:=by
 unfold Oper.wp
 rcases run_next_at (P:=P) h hs hi o.type with ⟨h1,hrun⟩|⟨p,hp,hn,w',hrun,h2,h3,h4,h5⟩
 ·simp[execOp,hop,hit,hrun,Result.andThen,Oper.upon]
  exact hDone h1
 ·simp[execOp,hop,hit,hrun,Result.andThen,Oper.upon]
  exact hMore p hp hn w' h2 h3 h4 h5
theorem wpList_next_at {mk:κ->Value}{r b c:Nat}{l:List (Ent κ)}{seen:List Nat}(hg:o.guard=none)(it:Operand)(hop:o.op=Op.next it false)(hit:a.eval it=.pointer (some ⟨r,0,none⟩))(h:MapAt w b mk l c)(hs:Stamped l c)(hi:IterAt w r b c seen)
 (hDone:(∀ p∈l,p.2.2∈seen)->wpList P ops Q rest (a.put o.dst (.tuple #[.bool false])) w)
 (hMore:∀ p∈l,p.2.2∉seen->∀ w',IterAt w' r b c (seen++[p.2.2])->w.grownBy w' (some r)->w'.heap.size=w.heap.size->(b≠r->(Instr.entry (.pointer (some ⟨r,0,none⟩))).run P w'=.ok (.tuple #[mk p.1,p.2.1]) w')->wpList P ops Q rest (a.put o.dst (.tuple #[.bool true,mk p.1,p.2.1])) w'):wpList P ops Q (o :: rest) a w:=
 wpList_plain hg fun _ hK=>wp_next_at it hop hit h hs hi (fun h1=>hK _ _ (hDone h1)) (fun p hp hn w' h2 h3 h4 h5=>hK _ _ (hMore p hp hn w' h2 h3 h4 h5))
end
end
end Go.Proofs.Ytlhekbjidppijaa
