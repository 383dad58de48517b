/- Contracts of what TopFall reaches: what each function returns and leaves in memory. Conditions: as named. -/
import Derived.StillTail
import Derived.OrdersHeld
import Derived.WalkKit
import Derived.Lib.Hide
set_option linter.unusedVariables false
set_option linter.unusedSimpArgs false
set_option maxRecDepth 20000
set_option maxHeartbeats 8000000
namespace Go.Proofs.Ytlhekbjidppijaa
open Go.RowKit
theorem zqa {α:Type}{a:α}{l:List α}:(a :: l).length=l.length+1:=rfl
theorem zqb {α:Type}:([]:List α).length=0:=rfl
theorem zqc {α:Type}{a:α}{l:List α}{n:Nat}:(a :: l).drop (n+1)=l.drop n:=rfl
theorem zqd {α:Type}{l:List α}:l.drop 0=l:=rfl
section
variable {P : Program} {ops : Array Oper} {Q : Exit -> Act -> World -> Prop} {md : Region.Mode} {S : World -> Prop}
def QN:Exit->Act->World->Prop:=fun _ _ _=>False
theorem Oper.wp_QN {o:Oper}{a:Act}{w:World}{K:Act->World->Prop}(h:o.wp P a w K QN):o.wp P a w K Q:=by
 unfold Oper.wp at *;generalize (execOp a.eval o).run P w=r at *
 cases r with
 | ok n w'=>
  cases n <;> simp only[Oper.upon]at h ⊢ <;>
   first
    | exact h
    | exact Calls.mono h (fun e w'' he=>by
     cases e with
     | returned v=>exact he
     | panicked c=>exact he.elim
     | outgrown=>obtain⟨_,_,h⟩:=he;exact h.elim)
    | exact Rows.mono h (fun _ _ he=>he)
 | halt x w'=>cases x <;> simp only[Oper.upon]at h ⊢ <;> exact h.elim
theorem wpOp_QN {i:Nat}{K:Act->World->Prop}{a:Act}{w:World}(h:wpOp P ops QN i K a w):wpOp P ops Q i K a w:=by
 unfold wpOp at *
 split
 ·rename_i ho;simp only[ho]at h;exact h
 ·rename_i o ho
  simp only[ho]at h
  split
  ·rename_i hw
   simp only[hw,if_true]at h
   rcases h with h|⟨_,_,_,h⟩
   ·exact .inl (Oper.wp_QN h)
   ·exact h.elim
  ·rename_i hw;simp only[hw]at h;exact h
def wpHL (P:Program)(md:Region.Mode)(ops:Array Oper)(S:World->Prop)(n:Nat)(L:Array Bool->Act->World->Prop):Nat->Array Bool->Act->World->Prop
 | 0,listed,a,w=>L listed a w
 | f+1,listed,a,w=>
  Region.ready md ops listed≠[]/\∀ i∈Region.ready md ops listed,i<n/\wpOp P ops QN i (fun a' w'=>S w'/\wpHL P md ops S n L f (listed.setIfInBounds i true) a' w') a w
theorem wpAny_of_HL {n g:Nat}{L:Array Bool->Act->World->Prop}(hL:∀ listed a w,L listed a w->wpAny P md ops Q g listed a w) :
 ∀ (f:Nat) (listed:Array Bool) (a:Act) (w:World),wpHL P md ops S n L f listed a w->wpAny P md ops Q (f+g) listed a w
 | 0,listed,a,w,h=>by rw[Nat.zero_add];exact hL _ _ _ h
 | f+1,listed,a,w,h=>by
  rw[show f+1+g=(f+g)+1 by omega];exact⟨fun h0=>absurd h0 h.1,fun i hi=>wpOp_mono (fun a' w' h'=>wpAny_of_HL hL f _ a' w' h'.2) (wpOp_QN (h.2 i hi).2)⟩
theorem wpHL_first {n i:Nat}{oi:Oper}{v:Value}{L:Array Bool->Act->World->Prop}(hi:ops[i]? = some oi)(hsel:∀ (j:Nat) (o:Oper) cs b,ops[j]? = some o->o.op ≠ .select cs b)
 (hn:(n<ops.size/\Region.sinkB md ops n=true/\Region.chainB md ops n=true)\/n=ops.size)(hin:i<n)
 (hdone:∀ listed a w,L listed a w->∀ j∈Region.ready md ops listed,n<=j) :
 ∀ (f:Nat) (listed:Array Bool) (a:Act) (w:World),HeadInv md ops n listed ->
  (∀ j oj,ops[j]? = some oj->j≠i->listed.getD j true=false->(∀ e∈oj.after,Region.binds md e=true->e.on≠i)->oi.apart ops oj=true) ->
  i∈Region.ready md ops listed->YieldsIf P ops S oi v a->S w ->
  wpHL P md ops S n L f (listed.setIfInBounds i true) (a.put oi.dst v) w->wpHL P md ops S n L (f+1) listed a w:=by
 have tw:∀ (listed:Array Bool),HeadInv md ops n listed->listed.getD i true=false->∀ t,n<=t->t∉Region.ready md ops listed:=by
  intro listed inv hun t ht hr
  rcases hn with ⟨hn,hs,hc⟩|hn
  ·exact tail_waits hs hc hn inv _ i rfl hin hun t ht hr
  ·obtain⟨_,o,ho,_⟩:=mem_ready.1 hr
   have:=(Array.getElem?_eq_some_iff.1 ho).1;omega
 intro f
 induction f with
 | zero=>
  intro listed a w inv _ hr hy hS H;have hun:=(mem_ready.1 hr).1;refine⟨fun h=>(by rw[h]at hr;cases hr),fun j hj=>?_⟩
  have hjn:j<n:=by
   rcases Nat.lt_or_ge j n with h|h
   ·exact h
   ·exact absurd hj (tw listed inv hun j h)
  refine⟨hjn,?_⟩
  by_cases hji:j=i
  ·subst hji;exact hy.wpOp hi hS ⟨hS,H⟩
  ·have:=hdone _ _ _ H j (ready_mono hj hji)
   omega
 | succ f ih=>
  intro listed a w inv hfree hr hy hS H;have hun:=(mem_ready.1 hr).1;refine⟨fun h=>(by rw[h]at hr;cases hr),fun j hj=>?_⟩
  have hjn:j<n:=by
   rcases Nat.lt_or_ge j n with h|h
   ·exact h
   ·exact absurd hj (tw listed inv hun j h)
  refine⟨hjn,?_⟩
  by_cases hji:j=i
  ·subst hji;exact hy.wpOp hi hS ⟨hS,H⟩
  ·have h1:=(H.2 j (ready_mono hj hji)).2
   obtain⟨hjun,oj,hoj,hall⟩:=mem_ready.1 hj
   have hnot:∀ e∈oj.after,Region.binds md e=true->e.on≠i:=fun e he hb heq=>by
    have h1:=hall e he hb;rw[heq,getD_both hun]at h1
    cases h1
   have h2:=wpOp_putIf hoj (hfree j oj hoj hji hjun hnot) (fun cs b=>hsel i oi cs b hi) (fun cs b=>hsel j oj cs b hoj) (fun _ _ _ h=>h) hy h1
   have hfree':∀ k ok,ops[k]? = some ok->k≠i->(listed.setIfInBounds j true).getD k true=false ->
    (∀ e∈ok.after,Region.binds md e=true->e.on≠i)->oi.apart ops ok=true:=fun k ok hk hki hun hno=>by
    refine hfree k ok hk hki ?_ hno
    by_cases hjk:j=k
    ·subst hjk;exact hjun
    ·rw[getD_set_ne true hjk]at hun;exact hun
   refine wpOp_mono (fun a' w' h3=>⟨h3.2.1,ih (listed.setIfInBounds j true) a' w' (inv.set hj hjn) hfree' (ready_mono hr (Ne.symm hji)) h3.1 h3.2.1 ?_⟩) h2;rw[Array.setIfInBounds_comm _ _ hji];exact h3.2.2
def wpHd (P:Program)(ops:Array Oper)(S:World->Prop)(lo:List Nat)(R:Act->World->Prop):List Nat->Act->World->Prop
 | [],a,w=>R a w
 | k :: l,a,w=>∃ o,ops[k]? = some o /\
  if lo.contains k then ∀ K:Act->World->Prop,(∀ a' w',S w'->wpHd P ops S lo R l a' w'->K a' w')->if Region.wanted o (yielded ops a.tmps) then o.wp P a w K QN else K (a.put o.dst undef) w
  else ∃ v,YieldsIf P ops S o v a/\wpHd P ops S lo R l (a.put o.dst v) w
section
variable {lo : List Nat} {R : Act -> World -> Prop} {k : Nat} {o : Oper} {l : List Nat} {a : Act} {w : World} {v : Value}
theorem hd_take (ho:ops[k]? = some o)(hk:lo.contains k=false)
 (hw:Region.wanted o (yielded ops a.tmps)=true)(hy:∀ W,S W->(execOp a.eval o).run P W=.ok (.value v) W)
 (h:wpHd P ops S lo R l (a.put o.dst v) w):wpHd P ops S lo R (k :: l) a w:=by
 unfold wpHd;refine⟨o,ho,?_⟩;rw[if_neg (by rw[hk];simp)];exact⟨v,.inl ⟨hw,hy⟩,h⟩
theorem hd_skip (ho:ops[k]? = some o)(hk:lo.contains k=false)(hw:Region.wanted o (yielded ops a.tmps)=false)
 (h:wpHd P ops S lo R l (a.put o.dst undef) w):wpHd P ops S lo R (k :: l) a w:=by
 unfold wpHd;refine⟨o,ho,?_⟩;rw[if_neg (by rw[hk];simp)];exact⟨undef,.inr ⟨hw,rfl⟩,h⟩
theorem hd_loud (ho:ops[k]? = some o)(hk:lo.contains k=true)
 (h:∀ K:Act->World->Prop,(∀ a' w',S w'->wpHd P ops S lo R l a' w'->K a' w')->if Region.wanted o (yielded ops a.tmps) then o.wp P a w K QN else K (a.put o.dst undef) w):wpHd P ops S lo R (k :: l) a w:=by
 unfold wpHd;refine⟨o,ho,?_⟩;rw[if_pos hk];exact h
theorem hd_nil (h:R a w):wpHd P ops S lo R [] a w:=h
end
def lexLo (md:Region.Mode)(ops:Array Oper)(lo:List Nat)(g n:Nat):List Nat->Array Bool->Bool
 | [],listed=>Region.seqB md ops g n listed
 | k :: l,listed=>decide (k<n) && ((if lo.contains k then decide (Region.ready md ops listed=[k]) else (Region.ready md ops listed).contains k && Region.free md ops listed k) && lexLo md ops lo g n l (listed.setIfInBounds k true))
def headB (md:Region.Mode)(ops:Array Oper)(lo ord:List Nat):Bool:=
 Region.noSelect ops && ((decide (ord.length<ops.size) && Region.sinkB md ops ord.length && Region.chainB md ops ord.length) || decide (ord.length=ops.size)) && lexLo md ops lo (ops.size-ord.length) ord.length ord (Array.replicate ops.size false)
theorem wpHL_lex {n g:Nat}{lo:List Nat}{Lq:Act->World->Prop}(hsel:Region.noSelect ops=true)(hn:(n<ops.size/\Region.sinkB md ops n=true/\Region.chainB md ops n=true)\/n=ops.size) :
 ∀ (l:List Nat) (listed:Array Bool) (a:Act) (w:World),HeadInv md ops n listed ->
 lexLo md ops lo g n l listed=true->S w->wpHd P ops S lo Lq l a w ->
 wpHL P md ops S n (fun listed' a' w'=>Region.seqB md ops g n listed'=true/\Lq a' w') l.length listed a w
 | [],listed,a,w,_,hB,_,h=>⟨by simpa [lexLo] using hB,h⟩
 | k :: l,listed,a,w,inv,hB,hS,h=>by
  unfold wpHd at h;obtain⟨o,h0,h⟩:=h;simp only[lexLo,Bool.and_eq_true,decide_eq_true_eq]at hB;obtain⟨hkn,hb,hB'⟩:=hB
  cases hlo:lo.contains k with
  | true=>
   rw[if_pos hlo]at h;rw[if_pos hlo]at hb
   have hr:Region.ready md ops listed=[k]:=by simpa using hb
   have hmem:k∈Region.ready md ops listed:=by rw[hr];simp
   refine⟨by rw[hr];simp,fun i hi=>?_⟩;rw[hr]at hi
   have hik:i=k:=by simpa using hi
   subst hik;refine⟨hkn,?_⟩
   have:=h (fun a' w'=>S w'/\wpHL P md ops S n (fun listed' a' w'=>Region.seqB md ops g n listed'=true/\Lq a' w') l.length (listed.setIfInBounds i true) a' w') fun a' w' hS' h'=>
    ⟨hS',wpHL_lex hsel hn l _ a' w' (inv.set hmem hkn) hB' hS' h'⟩
   unfold wpOp;simp only[h0]
   split
   ·rename_i hw;rw[if_pos hw]at this;exact .inl this
   ·rename_i hw;rw[if_neg hw]at this;exact this
  | false=>
   rw[if_neg (by rw[hlo];simp)]at h;rw[if_neg (by rw[hlo];simp)]at hb;simp only[Bool.and_eq_true]at hb;obtain⟨v,hy,hK⟩:=h
   have hr':k∈Region.ready md ops listed:=by simpa using hb.1
   exact wpHL_first h0 (Region.noSelect_spec hsel) hn hkn (fun listed' a' w' hL=>seqB_ready hL.1) l.length listed a w inv (Region.free_spec h0 hb.2) hr' hy hS
    (wpHL_lex hsel hn l _ _ w (inv.set hr' hkn) hB' hS hK)
theorem wp_region_hd {id:Nat}{a:Act}{w:World}{l:List Oper}(lo ord:List Nat)(S:World->Prop)(hm:P.follows .mixedOrders=true)(hB:headB .any l.toArray lo ord=true)
 (hS:S w.drew)(h:wpHd P l.toArray S lo (fun a' w'=>wpList P l.toArray Q (l.drop ord.length) a' w') ord a w.drew):(Code.region id l.toArray true).wp P Q a w:=by
 obtain⟨n,hN⟩:∃ n,n=ord.length:=⟨_,rfl⟩;simp only[headB,Bool.and_eq_true,Bool.or_eq_true,decide_eq_true_eq]at hB;rw[<- hN]at hB h;obtain⟨⟨hsel,hn⟩,hlex⟩:=hB
 have hn:(n<l.toArray.size/\Region.sinkB .any l.toArray n=true/\Region.chainB .any l.toArray n=true)\/n=l.toArray.size:=by
  rcases hn with h|h
  ·exact .inl ⟨h.1.1,h.1.2,h.2⟩
  ·exact .inr h
 have hn':n<=l.length:=by rcases hn with h|h <;> simp at h <;> omega
 have hdl:(l.drop n).length=l.toArray.size-n:=by simp
 have inv0:HeadInv .any l.toArray n (Array.replicate l.toArray.size false):=
  ⟨by simp,fun j oj _ hl=>(by rw[getD_replicate_false]at hl;cases hl),fun t _ ht=>getD_in (by simpa using ht) (getD_replicate_false _ _)⟩
 have H:=wpHL_lex (md:=.any) (g:=l.toArray.size-n) hsel hn ord _ a w.drew inv0 hlex hS h;refine wp_region_any hm ?_
 have:=wpAny_of_HL (Q:=Q) (g:=l.toArray.size-n) (fun listed a' w' hL=>by
  have:=wpAny_of_seq (md:=.any) (Q':=Q) (l.drop n) n listed a' w' (fun j=>by simp[List.getElem?_drop]) (by rw[hdl];exact hL.1) hL.2
  rwa [hdl]at this) _ _ _ _ H
 rw[<- hN,show n+(l.toArray.size-n)=l.toArray.size by simp;omega]at this;exact this
end
structure Lid (p:Prop):Prop where
 out:p
section
variable {P : Program} {ops : Array Oper} {Q : Exit -> Act -> World -> Prop} {S : World -> Prop} {lo : List Nat}
theorem wpHd_mono {R R':Act->World->Prop}(h:∀ a w,R a w->R' a w):∀ (l:List Nat) (a:Act) (w:World),wpHd P ops S lo R l a w->wpHd P ops S lo R' l a w
 | [],a,w,H=>h a w H
 | k :: l,a,w,H=>by
  unfold wpHd at H ⊢;obtain⟨o,ho,H⟩:=H;refine⟨o,ho,?_⟩
  split at H
  ·rename_i hk
   rw[if_pos hk];exact fun K hK=>H K fun a' w' hS h'=>hK a' w' hS (wpHd_mono h l a' w' h')
  ·rename_i hk
   rw[if_neg hk];obtain⟨v,hy,H⟩:=H;exact⟨v,hy,wpHd_mono h l _ _ H⟩
theorem wp_region_hl {id:Nat}{a:Act}{w:World}{l:List Oper}(lo ord:List Nat)(S:World->Prop)(hm:P.follows .mixedOrders=true)(hB:headB .any l.toArray lo ord=true)
 (hS:S w.drew)(h:wpHd P l.toArray S lo (fun a' w'=>Lid (wpList P l.toArray Q (l.drop ord.length) a' w')) ord a w.drew):(Code.region id l.toArray true).wp P Q a w:=
 wp_region_hd lo ord S hm hB hS (wpHd_mono (fun _ _ h=>h.out) ord _ _ h)
theorem hd_end {R:Act->World->Prop}{a:Act}{w:World}(h:R a w):wpHd P ops S lo (fun a w=>Lid (R a w)) [] a w:=⟨h⟩
end
section
variable {P : Program} {ops : Array Oper} {S : World -> Prop} {lo : List Nat} {R : Act -> World -> Prop} {k : Nat} {o : Oper} {l : List Nat} {a : Act} {w : World}
theorem hd_ld (t:TypeId)(x:Operand)(ho:ops[k]? = some o)(hk:lo.contains k=false)
 (hw:Region.wanted o (yielded ops a.tmps)=true)(hop:o.op=.load t x)(p v:Value)(hx:a.eval x=p)(hS:∀ W,S W->(Instr.loadAt t p).run P W=.ok v W)
 (h:wpHd P ops S lo R l (a.put o.dst v) w):wpHd P ops S lo R (k :: l) a w:=
 hd_take ho hk hw (fun W hW=>by simp[execOp,hop,hx,hS W hW,Result.andThen]) h
theorem hd_st (t:TypeId)(x y:Operand)(ho:ops[k]? = some o)(hk:lo.contains k=true)(hw:Region.wanted o (yielded ops a.tmps)=true)(hop:o.op=.store t x y)(hd:o.dst=none)(p v:Value)(hx:a.eval x=p)(hy:a.eval y=v)(w':World)
 (hrun:(Instr.storeAt t p v).run P w=.ok () w')(hS:S w')(h:wpHd P ops S lo R l a w'):wpHd P ops S lo R (k :: l) a w:=by
 refine hd_loud ho hk fun K hK=>?_;rw[if_pos hw];unfold Oper.wp;simp[execOp,hop,hx,hy,hrun,Result.andThen,Oper.upon,hd,Act.put];exact hK _ _ hS h
end
inductive Plan
 | done
 | take (k:Nat) (p:Plan)
 | one (k:Nat) (p:Plan)
 | two (k1:Nat) (p1:Plan) (k2:Nat) (p2:Plan)
def Plan.len:Plan->Nat
 | .done=>0
 | .take _ p=>p.len+1
 | .one _ p=>p.len+1
 | .two _ p1 _ _=>p1.len+1
section
variable {P : Program} {ops : Array Oper} {Q : Exit -> Act -> World -> Prop} {md : Region.Mode} {S : World -> Prop} {R : Act -> World -> Prop}
def loudK (P:Program)(ops:Array Oper)(k:Nat)(N:(Act->World->Prop)->Prop)(a:Act)(w:World):Prop:=
 ∃ o,ops[k]? = some o/\∀ K:Act->World->Prop,N K->if Region.wanted o (yielded ops a.tmps) then o.wp P a w K QN else K (a.put o.dst undef) w
def wpPl (P:Program)(ops:Array Oper)(S:World->Prop)(R:Act->World->Prop):Plan->Act->World->Prop
 | .done,a,w=>R a w
 | .take k p,a,w=>∃ o,ops[k]? = some o/\∃ v,YieldsIf P ops S o v a/\wpPl P ops S R p (a.put o.dst v) w
 | .one k p,a,w=>loudK P ops k (fun K=>∀ a' w',S w'->wpPl P ops S R p a' w'->K a' w') a w
 | .two k1 p1 k2 p2,a,w=>loudK P ops k1 (fun K=>∀ a' w',S w'->wpPl P ops S R p1 a' w'->K a' w') a w/\loudK P ops k2 (fun K=>∀ a' w',S w'->wpPl P ops S R p2 a' w'->K a' w') a w
def planB (md:Region.Mode)(ops:Array Oper)(g n:Nat):Plan->Array Bool->Bool
 | .done,listed=>Region.seqB md ops g n listed
 | .take k p,listed=>decide (k<n) && ((Region.ready md ops listed).contains k && Region.free md ops listed k) && planB md ops g n p (listed.setIfInBounds k true)
 | .one k p,listed=>decide (k<n) && decide (Region.ready md ops listed=[k]) && planB md ops g n p (listed.setIfInBounds k true)
 | .two k1 p1 k2 p2,listed=>decide (k1<n) && decide (k2<n) && decide (p1.len=p2.len) && decide (Region.ready md ops listed=[k1,k2]) && planB md ops g n p1 (listed.setIfInBounds k1 true) && planB md ops g n p2 (listed.setIfInBounds k2 true)
def headP (md:Region.Mode)(ops:Array Oper)(p:Plan):Bool:=
 Region.noSelect ops && ((decide (p.len<ops.size) && Region.sinkB md ops p.len && Region.chainB md ops p.len) || decide (p.len=ops.size)) && planB md ops (ops.size-p.len) p.len p (Array.replicate ops.size false)
theorem loudK_wpOp {k:Nat}{N:(Act->World->Prop)->Prop}{K:Act->World->Prop}{a:Act}{w:World}(h:loudK P ops k N a w)(hK:N K):wpOp P ops QN k K a w:=by
 obtain⟨o,h0,h⟩:=h;have:=h K hK;unfold wpOp;simp only[h0]
 split
 ·rename_i hw;rw[if_pos hw]at this;exact .inl this
 ·rename_i hw;rw[if_neg hw]at this;exact this
theorem wpHL_plan {n g:Nat}{Lq:Act->World->Prop}(hsel:Region.noSelect ops=true)(hn:(n<ops.size/\Region.sinkB md ops n=true/\Region.chainB md ops n=true)\/n=ops.size) :
 ∀ (p:Plan) (listed:Array Bool) (a:Act) (w:World),HeadInv md ops n listed ->
 planB md ops g n p listed=true->S w->wpPl P ops S Lq p a w ->
 wpHL P md ops S n (fun listed' a' w'=>Region.seqB md ops g n listed'=true/\Lq a' w') p.len listed a w
 | .done,listed,a,w,_,hB,_,h=>⟨by simpa [planB] using hB,h⟩
 | .take k p,listed,a,w,inv,hB,hS,h=>by
  unfold wpPl at h;obtain⟨o,h0,v,hy,hK⟩:=h;simp only[planB,Bool.and_eq_true,decide_eq_true_eq]at hB;obtain⟨⟨hkn,hb⟩,hB'⟩:=hB
  have hr':k∈Region.ready md ops listed:=by simpa using hb.1
  exact wpHL_first h0 (Region.noSelect_spec hsel) hn hkn (fun listed' a' w' hL=>seqB_ready hL.1) p.len listed a w inv (Region.free_spec h0 hb.2) hr' hy hS
   (wpHL_plan hsel hn p _ _ w (inv.set hr' hkn) hB' hS hK)
 | .one k p,listed,a,w,inv,hB,hS,h=>by
  unfold wpPl at h;simp only[planB,Bool.and_eq_true,decide_eq_true_eq]at hB;obtain⟨⟨hkn,hr⟩,hB'⟩:=hB
  have hmem:k∈Region.ready md ops listed:=by rw[hr];simp
  refine⟨by rw[hr];simp,fun i hi=>?_⟩;rw[hr]at hi
  obtain rfl:i=k:=by simpa using hi
  exact⟨hkn,loudK_wpOp h fun a' w' hS' h'=>⟨hS',wpHL_plan hsel hn p _ a' w' (inv.set hmem hkn) hB' hS' h'⟩⟩
 | .two k1 p1 k2 p2,listed,a,w,inv,hB,hS,h=>by
  unfold wpPl at h;simp only[planB,Bool.and_eq_true,decide_eq_true_eq]at hB;obtain⟨⟨⟨⟨⟨hk1,hk2⟩,hlen⟩,hr⟩,hB1⟩,hB2⟩:=hB
  have m1:k1∈Region.ready md ops listed:=by rw[hr];simp
  have m2:k2∈Region.ready md ops listed:=by rw[hr];simp
  refine⟨by rw[hr];simp,fun i hi=>?_⟩;rw[hr]at hi
  rcases List.mem_cons.1 hi with rfl|hi
  ·exact⟨hk1,loudK_wpOp h.1 fun a' w' hS' h'=>⟨hS',wpHL_plan hsel hn p1 _ a' w' (inv.set m1 hk1) hB1 hS' h'⟩⟩
  ·obtain rfl:=List.mem_singleton.1 hi
   refine⟨hk2,loudK_wpOp h.2 fun a' w' hS' h'=>⟨hS',?_⟩⟩;have:=wpHL_plan hsel hn p2 _ a' w' (inv.set m2 hk2) hB2 hS' h'
   rwa [<- hlen]at this
theorem wp_region_pl {id:Nat}{a:Act}{w:World}{l:List Oper}(p:Plan)(S:World->Prop)(hm:P.follows .mixedOrders=true)(hB:headP .any l.toArray p=true)
 (hS:S w.drew)(h:wpPl P l.toArray S (fun a' w'=>Lid (wpList P l.toArray Q (l.drop p.len) a' w')) p a w.drew):(Code.region id l.toArray true).wp P Q a w:=by
 obtain⟨n,hN⟩:∃ n,n=p.len:=⟨_,rfl⟩;simp only[headP,Bool.and_eq_true,Bool.or_eq_true,decide_eq_true_eq]at hB;rw[<- hN]at hB h;obtain⟨⟨hsel,hn⟩,hlex⟩:=hB
 have hn:(n<l.toArray.size/\Region.sinkB .any l.toArray n=true/\Region.chainB .any l.toArray n=true)\/n=l.toArray.size:=by
  rcases hn with h|h
  ·exact .inl ⟨h.1.1,h.1.2,h.2⟩
  ·exact .inr h
 have hn':n<=l.length:=by rcases hn with h|h <;> simp at h <;> omega
 have hdl:(l.drop n).length=l.toArray.size-n:=by simp
 have inv0:HeadInv .any l.toArray n (Array.replicate l.toArray.size false):=
  ⟨by simp,fun j oj _ hl=>(by rw[getD_replicate_false]at hl;cases hl),fun t _ ht=>getD_in (by simpa using ht) (getD_replicate_false _ _)⟩
 have H:=wpHL_plan (md:=.any) (g:=l.toArray.size-n) hsel hn p _ a w.drew inv0 hlex hS h;refine wp_region_any hm ?_
 have:=wpAny_of_HL (Q:=Q) (g:=l.toArray.size-n) (fun listed a' w' hL=>by
  have:=wpAny_of_seq (md:=.any) (Q':=Q) (l.drop n) n listed a' w' (fun j=>by simp[List.getElem?_drop]) (by rw[hdl];exact hL.1) hL.2.out
  rwa [hdl]at this) _ _ _ _ H
 rw[<- hN,show n+(l.toArray.size-n)=l.toArray.size by simp;omega]at this;exact this
section
variable {k k1 k2 : Nat} {p p1 p2 : Plan} {o o1 o2 : Oper} {a : Act} {w : World} {v : Value}
theorem pl_take (ho:ops[k]? = some o)(hw:Region.wanted o (yielded ops a.tmps)=true)(hy:∀ W,S W->(execOp a.eval o).run P W=.ok (.value v) W)
 (h:wpPl P ops S R p (a.put o.dst v) w):wpPl P ops S R (.take k p) a w:=⟨o,ho,v,.inl ⟨hw,hy⟩,h⟩
theorem pl_one (ho:ops[k]? = some o)(h:∀ K:Act->World->Prop,(∀ a' w',S w'->wpPl P ops S R p a' w'->K a' w')->if Region.wanted o (yielded ops a.tmps) then o.wp P a w K QN else K (a.put o.dst undef) w):wpPl P ops S R (.one k p) a w:=⟨o,ho,h⟩
theorem pl_two (ho1:ops[k1]? = some o1)(ho2:ops[k2]? = some o2)
 (h1:∀ K:Act->World->Prop,(∀ a' w',S w'->wpPl P ops S R p1 a' w'->K a' w')->if Region.wanted o1 (yielded ops a.tmps) then o1.wp P a w K QN else K (a.put o1.dst undef) w)
 (h2:∀ K:Act->World->Prop,(∀ a' w',S w'->wpPl P ops S R p2 a' w'->K a' w')->if Region.wanted o2 (yielded ops a.tmps) then o2.wp P a w K QN else K (a.put o2.dst undef) w):wpPl P ops S R (.two k1 p1 k2 p2) a w:=⟨⟨o1,ho1,h1⟩,⟨o2,ho2,h2⟩⟩
theorem pl_end {R:Act->World->Prop}(h:R a w):wpPl P ops S (fun a w=>Lid (R a w)) .done a w:=⟨h⟩
end
end
end Go.Proofs.Ytlhekbjidppijaa
