/- Contracts of what TopFall reaches: what each function returns and leaves in memory. Conditions: as named. -/
import Derived.Test.YtlhekbjidppijaaGreatMAC
import Derived.Test.YtlhekbjidppijaaGreatMAN
set_option linter.unusedVariables false
set_option linter.unusedSimpArgs false
set_option maxRecDepth 20000
set_option maxHeartbeats 8000000
namespace Go.Proofs.Ytlhekbjidppijaa
open Lib (hid)
open Go.RowKit
theorem ints_new (w:World)(t:TypeId)(xs:List Int)(g:Nat)(hg:g=w.heap.size):Sl (w.alloc (.cells (xs.map (Value.int .i64)).toArray t)) (some ⟨g,0,none⟩) (xs.map (.int .i64)):=by
 subst hg;exact(Blk.new w t _).sl
theorem in139 (w:World)(g:Int)(A:Option Addr)(n c:Nat)(xs:List Int)(hs:Sl w A (xs.map (.int .i64)))(hn:xs.length=n)(h0:0<n)(hx:∀ x∈xs,0<=x/\x<=g)(hm:n<=1000) :
 Calls Tryz.prog 139 #[.int .i64 g,.slice A n c] w fun e w'=>e=.returned (.bool true)/\w=w':=by
 obtain⟨b,o,rfl,hc⟩:=hs (by intro e;simp at e;subst e;simp at hn;omega);have HC:Hid (∀ i (h:i<xs.length),w.cell? ⟨b,o+i,none⟩=some (.int .i64 xs[i])):=hid fun i h=>hc i _ (by simp[h]);have HX:Hid (∀ i (h:i<xs.length),0<=xs[i]/\xs[i]<=g):=hid fun i h=>hx _ (List.getElem_mem h);clear hs hc hx;go_enter Tryz.func139,Tryz.ntmps139
 go_wp2
 go_loop [9] (fun i=>∃ k:Nat,k<=n/\i=.int .i64 (k:Int)) (fun i=>n-(intOf i).toNat)
 case atStart=>exact⟨0,Nat.zero_le _,rfl⟩
 case round=>
  obtain⟨k,hk,rfl⟩:=hrel
  by_cases hlt:k<n
  ·have hkl:k<xs.length:=by omega
   have c0:=HC.out k hkl;obtain⟨e1,e2⟩:=HX.out k hkl;generalize hz:xs[k]=z at *
   have k1:(k:Int)<(n:Int):=by omega
   have k2:(0:Int)<=(k:Int):=by omega
   have k3:¬ (z<0):=by omega
   have k4:¬ (g<z):=by omega
   clear hz
   go_wp2
   go_round
   case rel=>exact⟨k+1,by omega,by go_num⟩
   case measure=>simp[intOf];omega
  ·obtain rfl:k=n:=by omega
   go_wp2
   go_ret;exact⟨rfl,rfl⟩
structure PMsg where
 kind:Nat
 src:Nat
 dst:Nat
 epoch:Nat
 tick:Nat
 id:Nat
 op:Nat
 key:ByteArray
 err:Nat
 ik:ByteArray
 iv:ByteArray
 ig:Bool
 members:List Nat
abbrev nils:Value:=.slice none 0 0
def msgV (m:PMsg)(vm:Value):List Value:=
 [.int .i64 (m.kind:Int),.int .i64 (m.src:Int),.int .i64 (m.dst:Int),.int .i64 (m.epoch:Int),.int .i64 (m.tick:Int),.int .i64 0,.int .i64 0,.int .i64 (m.id:Int),.int .i64 (m.op:Int),.string m.key,.int .i64 (m.err:Int),.bool false,.string m.ik,.string m.iv,.int .i64 0,.bool m.ig,.slice none 0 0,.slice none 0 0,vm,.int .i64 0,.slice none 0 0]
structure MOk (m:PMsg):Prop where
 k1:1<=m.kind
 k2:m.kind<=14
 ne:m.src≠m.dst
 src:m.src<=5
 dst:m.dst<=5
 epoch:m.epoch<=1099511627776
 tick:m.tick<=1099511627776
 id:m.id<=1099511627776
 op:m.op<=2
 key:m.key.size<=40
 err:m.err<=10
 item:(m.ik=⟨#[]⟩/\m.iv=⟨#[]⟩/\m.ig=false)\/itemOk m.ik m.iv m.ig=true
 iks:m.ik.size<=1099511627776
 ivs:m.iv.size<=200
 mem:m.members=[]\/NodesOk m.members
def Nms (w:World)(v:Value)(ns:List Nat):Prop:=∃ A c,v=.slice A ns.length c/\Sl w A (nnums ns)/\(A=none->ns.length=0)/\∀ a,A=some a->a.block<w.heap.size
theorem Nms.keep {w w':World}{v:Value}{ns:List Nat}(h:Nms w v ns)(hb:Below w.heap.size w w'):Nms w' v ns:=by
 obtain⟨A,c,rfl,hs,hA,ha⟩:=h;exact⟨A,c,rfl,Sl.keep hs hb,hA,fun a h=>Nat.lt_of_lt_of_le (ha a h) hb.size⟩
theorem lists141 (w:World)(m:PMsg)(vm:Value)(hm:m.members=[]\/NodesOk m.members)(hv:Nms w vm m.members) :
 Calls Tryz.prog 141 #[.agg (msgV m vm).toArray] w fun e w'=>e=.returned (.bool true)/\Below w.heap.size w w':=by
 obtain⟨A,c,rfl,hs,hA,ha⟩:=hv;unfold msgV;generalize hn:m.members.length=n at *
 have HM:Hid (∀ W,Below w.heap.size w W->0<n->Calls Tryz.prog 72 #[.slice A n c] W fun e w'=>e=.returned (.bool true)/\w'=W):=hid fun W hb h0=>by
  rcases hm with h|h
  ·rw[h]at hn;simp at hn;omega
  ·exact may72 W A n c m.members (Sl.keep hs hb) hn h
 have HB:Hid (n<=5):=hid (by
  rcases hm with h|h
  ·rw[h]at hn;simp at hn;omega
  ·have:=h.le;omega)
 clear hm hs hA ha hn;go_enter Tryz.func141,Tryz.ntmps141
 go_wp2
 go_loop [11] (fun i=>i=.int .i64 0) (fun _=>0)
 case atStart=>rfl
 case round=>
  obtain rfl:=hrel
  go_wp2
  go_loop [36] (fun i=>i=.int .i64 0) (fun _=>0)
  case atStart=>rfl
  case round=>
   obtain rfl:=hrel
   by_cases h0:n=0
   ·subst h0
    go_wp2
    go_ret;exact⟨rfl,(Below.refl _ w).alloc (Nat.le_refl _) _⟩
   ·have k0:¬ ((n:Int)=0):=by omega
    have k1:((n:Int) == 0)=false:=by rw[beq_eq_false_iff_ne];omega
    have h1:0<n:=by omega
    go_wp2_with (go_at_call 72;refine(HM.out _ ((Below.refl _ w).alloc (Nat.le_refl _) _) h1).mono ?_;rintro e w' ⟨rfl,hw⟩;obtain rfl:=hw.symm)
    go_ret;exact⟨rfl,(Below.refl _ w).alloc (Nat.le_refl _) _⟩
def MsgIn (W:World)(g:Nat)(m:PMsg)(vm:Value):Prop:=W.cell? ⟨g,0,none⟩=some (.int .i64 (m.kind:Int))/\W.cell? ⟨g,1,none⟩=some (.int .i64 (m.src:Int))/\W.cell? ⟨g,2,none⟩=some (.int .i64 (m.dst:Int))/\W.cell? ⟨g,3,none⟩=some (.int .i64 (m.epoch:Int))/\W.cell? ⟨g,4,none⟩=some (.int .i64 (m.tick:Int))/\W.cell? ⟨g,5,none⟩=some (.int .i64 0)/\W.cell? ⟨g,6,none⟩=some (.int .i64 0)/\W.cell? ⟨g,7,none⟩=some (.int .i64 (m.id:Int))/\W.cell? ⟨g,8,none⟩=some (.int .i64 (m.op:Int))/\W.cell? ⟨g,9,none⟩=some (.string m.key)/\W.cell? ⟨g,10,none⟩=some (.int .i64 (m.err:Int))/\W.cell? ⟨g,11,none⟩=some (.bool false)/\W.cell? ⟨g,12,none⟩=some (.string m.ik)/\W.cell? ⟨g,13,none⟩=some (.string m.iv)/\W.cell? ⟨g,14,none⟩=some (.int .i64 0)/\W.cell? ⟨g,15,none⟩=some (.bool m.ig)/\W.cell? ⟨g,16,none⟩=some (.slice none 0 0)/\W.cell? ⟨g,17,none⟩=some (.slice none 0 0)/\W.cell? ⟨g,18,none⟩=some (vm)/\W.cell? ⟨g,19,none⟩=some (.int .i64 0)/\W.cell? ⟨g,20,none⟩=some (.slice none 0 0)
theorem MsgIn.of {W:World}{g:Nat}{m:PMsg}{vm:Value}(h:Blk W g 182 (msgV m vm).toArray):MsgIn W g m vm:=
 ⟨h.cell 0,h.cell 1,h.cell 2,h.cell 3,h.cell 4,h.cell 5,h.cell 6,h.cell 7,h.cell 8,h.cell 9,h.cell 10,h.cell 11,h.cell 12,h.cell 13,h.cell 14,h.cell 15,h.cell 16,h.cell 17,h.cell 18,h.cell 19,h.cell 20⟩
theorem load_msg {W:World}{g:Nat}{m:PMsg}{vm:Value}(h:Blk W g 182 (msgV m vm).toArray):(Instr.loadAt 182 (.pointer (some ⟨g,0,none⟩))).run Tryz.prog W=.ok (.agg (msgV m vm).toArray) W:=
 run_loadAgg W 182 g 0 (msgV m vm) 21 (by kernel_rfl) (by kernel_rfl) rfl (fun j v hj=>by rw[Nat.zero_add,h.cell j,List.getElem?_toArray];exact hj)
theorem wpl_load {P:Program}{ops:Array Oper}{rest:List Oper}{o:Oper}{a:Act}{w:World}{Q:Exit->Act->World->Prop}(t:TypeId)(x:Operand)(ho:o.op=.load t x)
 (hw:Region.wanted o (yielded ops a.tmps)=true)(p v:Value)(hx:a.eval x=p)(hrun:(Instr.loadAt t p).run P w=.ok v w)(h:wpList P ops Q rest (a.put o.dst v) w):wpList P ops Q (o :: rest) a w:=by
 refine wpList_step fun K hK=>?_;rw[if_pos hw];unfold Oper.wp;simp[execOp,ho,hx,hrun,Result.andThen,Oper.upon];exact hK _ _ h
structure AtMsg (w W:World)(m:PMsg)(vm:Value):Prop where
 blk:Blk W w.heap.size 182 (msgV m vm).toArray
 below:Below w.heap.size w W
theorem AtMsg.alloc {w W:World}{m:PMsg}{vm:Value}(h:AtMsg w W m vm)(o:Obj):AtMsg w (W.alloc o) m vm:=⟨h.blk.alloc o,h.below.alloc h.below.size _⟩
theorem may104 (w:World)(m:PMsg)(vm:Value)(hm:MOk m)(hv:Nms w vm m.members) :
 Calls Tryz.prog 104 #[.agg (msgV m vm).toArray] w fun e w'=>e=.returned (.bool true)/\Below w.heap.size w w':=by
 have HL:Hid (∀ W,Below w.heap.size w W->Calls Tryz.prog 141 #[.agg (msgV m vm).toArray] W fun e w'=>e=.returned (.bool true)/\Below W.heap.size W w'):=hid fun W hb=>lists141 W m vm hm.mem (hv.keep hb);have H0:Hid (AtMsg w (w.alloc (.cells (msgV m vm).toArray 182)) m vm):=hid ⟨Blk.new _ _ _,(Below.refl _ w).alloc (Nat.le_refl _) _⟩;have HI:=hid hm.item;have HIK:=hid hm.iks;have HIV:=hid hm.ivs;obtain⟨k1,k2,ne,k3,k4,k5,k6,k7,k8,k9,k10,-,-,-,-⟩:=hm;clear hv;have HC:Hid (∀ W,AtMsg w W m vm->w.heap.size<W.heap.size/\MsgIn W w.heap.size m vm):=hid fun W h=>⟨h.blk.lt,MsgIn.of h.blk⟩;obtain⟨kind,src,dst,epoch,tick,id,op,key,err,ik,iv,ig,members⟩:=m;dsimp only at *;unfold MsgIn at HC;dsimp only at HC;unfold msgV at HL H0 ⊢;dsimp only at HL H0 ⊢
 have a1:¬ ((kind:Int)<1):=by omega
 have a2:¬ ((14:Int)<(kind:Int)):=by omega
 have a3:((src:Int) == (dst:Int))=false:=by rw[beq_eq_false_iff_ne];omega
 have a4:¬ ((40:Int)<(key.size:Int)):=by omega
 go_enter Tryz.func104,Tryz.ntmps104
 go_wp2_with fail
 refine(in139 _ _ _ 2 2 [(src:Int),(dst:Int)] (ints_new _ _ [(src:Int),(dst:Int)] _ (by simp)) rfl (by decide) (by intro x hx;simp at hx;omega) (by decide)).mono ?_;rintro e w' ⟨rfl,rfl⟩;generalize hW:World.alloc _ _=W;have HW:Hid (AtMsg w W ⟨kind,src,dst,epoch,tick,id,op,key,err,ik,iv,ig,members⟩ vm):=hid (by rw[<- hW];exact H0.out.alloc _);clear hW;obtain⟨hlt,c0,c1,c2,c3,c4,c5,c6,c7,c8,c9,c10,c11,c12,c13,c14,c15,c16,c17,c18,c19,c20⟩:=HC.out W HW.out
 go_wp2_with fail
 refine(in139 _ _ _ 5 5 [(epoch:Int),(tick:Int),0,(id:Int),0] (ints_new _ _ [(epoch:Int),(tick:Int),0,(id:Int),0] _ (by simp)) rfl (by decide) (by intro x hx;simp at hx;omega) (by decide)).mono ?_;rintro e w' ⟨rfl,rfl⟩;generalize hW:World.alloc _ _=W1;have HW1:Hid (AtMsg w W1 ⟨kind,src,dst,epoch,tick,id,op,key,err,ik,iv,ig,members⟩ vm):=hid (by rw[<- hW];exact HW.out.alloc _);clear hW hlt c0 c1 c2 c3 c4 c5 c6 c7 c8 c9 c10 c11 c12 c13 c14 c15 c16 c17 c18 c19 c20 HW;obtain⟨hlt,c0,c1,c2,c3,c4,c5,c6,c7,c8,c9,c10,c11,c12,c13,c14,c15,c16,c17,c18,c19,c20⟩:=HC.out W1 HW1.out
 go_wp2_with fail
 refine(in139 _ _ _ 1 1 [(0:Int)] (ints_new _ _ [(0:Int)] _ (by simp)) rfl (by decide) (by intro x hx;simp at hx;omega) (by decide)).mono ?_;rintro e w' ⟨rfl,rfl⟩;generalize hW:World.alloc _ _=W2;have HW2:Hid (AtMsg w W2 ⟨kind,src,dst,epoch,tick,id,op,key,err,ik,iv,ig,members⟩ vm):=hid (by rw[<- hW];exact HW1.out.alloc _);clear hW hlt c0 c1 c2 c3 c4 c5 c6 c7 c8 c9 c10 c11 c12 c13 c14 c15 c16 c17 c18 c19 c20 HW1;obtain⟨hlt,c0,c1,c2,c3,c4,c5,c6,c7,c8,c9,c10,c11,c12,c13,c14,c15,c16,c17,c18,c19,c20⟩:=HC.out W2 HW2.out
 go_wp2_with fail
 refine(in139 _ _ _ 1 1 [(op:Int)] (ints_new _ _ [(op:Int)] _ (by simp)) rfl (by decide) (by intro x hx;simp at hx;omega) (by decide)).mono ?_;rintro e w' ⟨rfl,rfl⟩;generalize hW:World.alloc _ _=W3;have HW3:Hid (AtMsg w W3 ⟨kind,src,dst,epoch,tick,id,op,key,err,ik,iv,ig,members⟩ vm):=hid (by rw[<- hW];exact HW2.out.alloc _);clear hW hlt c0 c1 c2 c3 c4 c5 c6 c7 c8 c9 c10 c11 c12 c13 c14 c15 c16 c17 c18 c19 c20 HW2;obtain⟨hlt,c0,c1,c2,c3,c4,c5,c6,c7,c8,c9,c10,c11,c12,c13,c14,c15,c16,c17,c18,c19,c20⟩:=HC.out W3 HW3.out
 go_wp2_with fail
 refine(in139 _ _ _ 1 1 [(err:Int)] (ints_new _ _ [(err:Int)] _ (by simp)) rfl (by decide) (by intro x hx;simp at hx;omega) (by decide)).mono ?_;rintro e w' ⟨rfl,rfl⟩;generalize hW:World.alloc _ _=W4;have HW4:Hid (AtMsg w W4 ⟨kind,src,dst,epoch,tick,id,op,key,err,ik,iv,ig,members⟩ vm):=hid (by rw[<- hW];exact HW3.out.alloc _);clear hW hlt c0 c1 c2 c3 c4 c5 c6 c7 c8 c9 c10 c11 c12 c13 c14 c15 c16 c17 c18 c19 c20 HW3;obtain⟨hlt,c0,c1,c2,c3,c4,c5,c6,c7,c8,c9,c10,c11,c12,c13,c14,c15,c16,c17,c18,c19,c20⟩:=HC.out W4 HW4.out;have HB:=hid HW4.out.blk
 rcases HI.out with ⟨rfl,rfl,rfl⟩|hi
 ·go_wp2_with (refine wpl_load 182 _ rfl (by kernel_rfl) _ _ rfl (load_msg HB.out) ?_)
  refine(HL.out _ HW4.out.below).mono ?_;rintro e w' ⟨rfl,hb⟩;have HB':=hid (HW4.out.below.trans (hb.mono HW4.out.below.size));clear hb
  go_wp2
  go_ret;exact⟨rfl,HB'.out⟩
 ·have h0:ik.size≠0:=by intro e;simp[itemOk,keyOk,e]at hi
  have hne:=bne_nil ik h0;clear h0
  go_wp2_with fail
  refine(may_any _ ik iv ig HIK.out HIV.out).mono ?_;rw[hi];rintro e w' ⟨rfl,hb⟩;have HX:Hid (AtMsg w w' ⟨kind,src,dst,epoch,tick,id,op,key,err,ik,iv,ig,members⟩ vm):=hid ⟨(hb.block _ HB.out.lt).trans HB.out,HW4.out.below.trans (hb.mono HW4.out.below.size)⟩;clear hb hi;have HB2:=hid HX.out.blk
  go_wp2_with (refine wpl_load 182 _ rfl (by kernel_rfl) _ _ rfl (load_msg HB2.out) ?_)
  refine(HL.out _ HX.out.below).mono ?_;rintro e w3 ⟨rfl,hb⟩;have HB':=hid (HX.out.below.trans (hb.mono HX.out.below.size));clear hb
  go_wp2
  go_ret;exact⟨rfl,HB'.out⟩
theorem run_loadVarAgg {P:Program}(w:World)(t:TypeId)(b o:Nat)(cs:List Value)(n:Nat)(hg:(isAgg t).run P w=.ok true w)(hs:(sizeOf t).run P w=.ok n w)(hn:cs.length=n)
 (hc:∀ j v,cs[j]? = some v->w.cell? ⟨b,o+j,none⟩=some v):(loadVar t ⟨b,o,none⟩).run P w=.ok (.agg cs.toArray) w:=by
 have h:=run_loadCells_list (P:=P) w ⟨b,o,none⟩ cs (fun j v hj=>by rw[add_none];exact hc j v hj);subst hn;unfold loadVar;simp only[Sem.run_bind,Sem.run_pure,Result.andThen_ok,hg,hs,h,if_true]
theorem results_cell {fn:Func}{s:Nat}{t:TypeId}(h:fn.results=#[.cell s t])(tmps:Array Value)(P:Program)(w:World)(p:Addr)(v:Value)(hp:tmps.getD s undef=.pointer (some p))(hl:(loadVar t p).run P w=.ok v w) :
 (results fn tmps).run P w=.ok v w:=by
 simp at hp;simp[results,h,hp,asAddr,hl,Result.andThen]
theorem results_cell2 {fn:Func}{s u:Nat}{t:TypeId}(h:fn.results=#[.cell s t,.tmp u])(tmps:Array Value)(P:Program)(w:World)(p:Addr)(v:Value)(hp:tmps.getD s undef=.pointer (some p))(hl:(loadVar t p).run P w=.ok v w) :
 (results fn tmps).run P w=.ok (.tuple #[v,tmps.getD u undef]) w:=by
 simp at hp;simp[results,h,hp,asAddr,hl,Result.andThen]
theorem loadVar_msg {W:World}{g:Nat}{m:PMsg}{vm:Value}(h:Blk W g 182 (msgV m vm).toArray):(loadVar 182 ⟨g,0,none⟩).run Tryz.prog W=.ok (.agg (msgV m vm).toArray) W:=
 run_loadVarAgg W 182 g 0 (msgV m vm) 21 (by kernel_rfl) (by kernel_rfl) rfl (fun j v hj=>by rw[Nat.zero_add,h.cell j,List.getElem?_toArray];exact hj)
theorem wpl_store {P:Program}{ops:Array Oper}{rest:List Oper}{o:Oper}{a:Act}{w:World}{Q:Exit->Act->World->Prop}(t:TypeId)(x y:Operand)(ho:o.op=.store t x y)(hd:o.dst=none)
 (hw:Region.wanted o (yielded ops a.tmps)=true)(p v:Value)(hx:a.eval x=p)(hy:a.eval y=v)(w':World)(hrun:(Instr.storeAt t p v).run P w=.ok () w')(h:wpList P ops Q rest a w'):wpList P ops Q (o :: rest) a w:=by
 refine wpList_step fun K hK=>?_;rw[if_pos hw];unfold Oper.wp;simp[execOp,ho,hx,hy,hrun,Result.andThen,Oper.upon,hd,Act.put];exact hK _ _ h
theorem store_msg {W:World}{g:Nat}{m:PMsg}{vm:Value}{cs:Array Value}(h:Blk W g 182 cs)(hs:cs.size=21)(hv:vm.oneCell'=true) :
 ∃ W2,(Instr.storeAt 182 (.pointer (some ⟨g,0,none⟩)) (.agg (msgV m vm).toArray)).run Tryz.prog W=.ok () W2/\Blk W2 g 182 (msgV m vm).toArray/\(∀ k,k≠g->W2.heap[k]? = W.heap[k]?)/\W2.heap.size=W.heap.size/\W2.os=W.os/\W2.tape=W.tape/\W2.output=W.output:=by
 obtain⟨W2,h1,h2,h3⟩:=run_storeAgg (P:=Tryz.prog) W 182 g 0 182 cs (msgV m vm) 21 (by kernel_rfl) rfl h (by rw[hs];simp[msgV]) (by intro u hu;simp only[msgV,List.mem_cons,List.not_mem_nil,or_false]at hu;rcases hu with rfl|rfl|rfl|rfl|rfl|rfl|rfl|rfl|rfl|rfl|rfl|rfl|rfl|rfl|rfl|rfl|rfl|rfl|rfl|rfl|rfl <;> first|rfl|exact hv);refine⟨W2,h1,?_,h3⟩
 have e:splice cs 0 (msgV m vm)=(msgV m vm).toArray:=by
  unfold splice;rw[List.take_zero,List.nil_append,List.drop_eq_nil_of_le (by simp[msgV,hs]),List.append_nil]
 rwa [e]at h2
theorem clone142z (w:World):Calls Tryz.prog 142 #[.slice none 0 0] w fun e w'=>e=.returned (.slice none 0 0)/\w'=w:=by
 have he:∀ (w:World) (a:Option Addr) (n c n' c':Nat),(binOp .eql 179 (.slice a n c) (.slice none n' c')).run Tryz.prog w=.ok (.bool a.isNone) w:=fun w a n c n' c'=>Lib.run_eql_slice_nil w _ 178 a n c n' c' (by kernel_rfl);go_enter Tryz.func142,Tryz.ntmps142
 go_wp2
 go_ret;exact⟨rfl,rfl⟩
theorem clone143z (w:World):Calls Tryz.prog 143 #[.slice none 0 0] w fun e w'=>e=.returned (.slice none 0 0)/\w'=w:=by
 have he:∀ (w:World) (a:Option Addr) (n c n' c':Nat),(binOp .eql 180 (.slice a n c) (.slice none n' c')).run Tryz.prog w=.ok (.bool a.isNone) w:=fun w a n c n' c'=>Lib.run_eql_slice_nil w _ 249 a n c n' c' (by kernel_rfl);go_enter Tryz.func143,Tryz.ntmps143
 go_wp2
 go_ret;exact⟨rfl,rfl⟩
theorem clone99z (w:World):Calls Tryz.prog 99 #[.slice none 0 0] w fun e w'=>e=.returned (.slice none 0 0)/\w'=w:=by
 have he:∀ (w:World) (a:Option Addr) (n c n' c':Nat),(binOp .eql 43 (.slice a n c) (.slice none n' c')).run Tryz.prog w=.ok (.bool a.isNone) w:=fun w a n c n' c'=>Lib.run_eql_slice_nil w _ 3 a n c n' c' (by kernel_rfl);go_enter Tryz.func99,Tryz.ntmps99
 go_wp2
 go_ret;exact⟨rfl,rfl⟩
theorem nms99 (w:World)(v:Value)(ns:List Nat)(h:Nms w v ns)(hn:ns.length<=5) :
 Calls Tryz.prog 99 #[v] w fun e w'=>∃ v',e=.returned v'/\w'.ownsRow w.heap.size 3 1 v' ns.length (nnums ns)/\Below w.heap.size w w':=by
 obtain⟨A,c,rfl,hs,hA,ha⟩:=h;exact clone99 w A ns.length c (nnums ns) (by simp[nnums]) hs (by simp[nnums,Value.oneCell']) hA (by omega)
theorem ownsRow_one {w:World}{b:Nat}{t:TypeId}{z n:Nat}{v:Value}{xs:List Value}(h:w.ownsRow b t z v n xs):v.oneCell'=true:=by
 rcases h.2 with ⟨rfl,_⟩|⟨g,cap,cur,rfl,_⟩ <;> rfl
theorem ownsRow_slice {w:World}{b:Nat}{t:TypeId}{z n:Nat}{v:Value}{xs:List Value}(h:w.ownsRow b t z v n xs):∃ A c,v=.slice A n c:=by
 rcases h.2 with ⟨rfl,rfl⟩|⟨g,cap,cur,rfl,_⟩
 ·exact⟨_,_,rfl⟩
 ·exact⟨_,_,rfl⟩
theorem ownsRow_eq {w W:World}{b:Nat}{t:TypeId}{z n:Nat}{v:Value}{xs:List Value}(h:w.ownsRow b t z v n xs)(he:∀ g,b<=g->v.ownBlock=some g->W.heap[g]? = w.heap[g]?):W.ownsRow b t z v n xs:=by
 refine⟨h.1,?_⟩
 rcases h.2 with hn|⟨g,cap,cur,rfl,hb,hgg,rest⟩
 ·exact .inl hn
 ·exact .inr ⟨g,cap,cur,rfl,hb,(he g hb rfl).trans hgg,rest⟩
def OwnS (w:World)(m:PMsg)(vm:Value)(W:World):Prop:=
 W.cell? ⟨w.heap.size,16,none⟩=some (.slice none 0 0)/\W.cell? ⟨w.heap.size,17,none⟩=some (.slice none 0 0)/\W.cell? ⟨w.heap.size,18,none⟩=some vm/\W.cell? ⟨w.heap.size,20,none⟩=some (.slice none 0 0) /\
 Blk W w.heap.size 182 (msgV m vm).toArray/\(∃ cs,Blk W (w.heap.size+1) 182 cs/\cs.size=21)/\Nms W vm m.members/\Below w.heap.size w W
theorem OwnS.of {w W:World}{m:PMsg}{vm:Value}(h1:Blk W w.heap.size 182 (msgV m vm).toArray)(h2:∃ cs,Blk W (w.heap.size+1) 182 cs/\cs.size=21)(h3:Nms W vm m.members)(h4:Below w.heap.size w W):OwnS w m vm W:=
 ⟨h1.cell 16,h1.cell 17,h1.cell 18,h1.cell 20,h1,h2,h3,h4⟩
theorem OwnS.below {w W W':World}{m:PMsg}{vm:Value}(h:OwnS w m vm W)(hb:Below W.heap.size W W'):OwnS w m vm W':=by
 obtain⟨-,-,-,-,h1,⟨cs,h2,h2'⟩,h3,h4⟩:=h;exact OwnS.of ((hb.block _ h1.lt).trans h1) ⟨cs,(hb.block _ h2.lt).trans h2,h2'⟩ (h3.keep hb) (h4.trans (hb.mono h4.size))
def set4 (W:World)(g:Nat)(v:Value):World:=(((W.setCell ⟨g,16,none⟩ (.slice none 0 0)).setCell ⟨g,17,none⟩ (.slice none 0 0)).setCell ⟨g,18,none⟩ v).setCell ⟨g,20,none⟩ (.slice none 0 0)
theorem set4_blk {W:World}{g:Nat}{m:PMsg}{vm:Value}(h:Blk W g 182 (msgV m vm).toArray)(v:Value):Blk (set4 W g v) g 182 (msgV m v).toArray:=((((h.set_ 16 _).set_ 17 _).set_ 18 v).set_ 20 _ :)
theorem set4_far {W:World}{g g':Nat}{t:TypeId}{cs:Array Value}(h:Blk W g' t cs)(hn:g'≠g)(v:Value):Blk (set4 W g v) g' t cs:=(((h.far hn _).far hn _).far hn _).far hn _
theorem set4_below {W:World}{g:Nat}(b:Nat)(hb:b<=g)(v:Value):Below b W (set4 W g v):=((((Below.refl b W).setCell (p:=⟨g,16,none⟩) hb _).setCell (p:=⟨g,17,none⟩) hb _).setCell (p:=⟨g,18,none⟩) hb _).setCell (p:=⟨g,20,none⟩) hb _
theorem OwnS.start {w:World}{m:PMsg}{vm:Value}(zs:Array Value)(hz:zs.size=21)(hv:Nms w vm m.members):OwnS w m vm ((w.alloc (.cells (msgV m vm).toArray 182)).alloc (.cells zs 182)).drew:=by
 have hb:Below w.heap.size w ((w.alloc (.cells (msgV m vm).toArray 182)).alloc (.cells zs 182)).drew:=Below.drew (((Below.refl _ w).alloc (Nat.le_refl _) _).alloc (by simp) _);refine OwnS.of ((Blk.new w 182 _).alloc _).drew ⟨zs,?_,hz⟩ (hv.keep hb) hb;have:=(Blk.new (w.alloc (.cells (msgV m vm).toArray 182)) 182 zs).drew
 simpa using this
theorem own105 (w:World)(m:PMsg)(vm:Value)(hm:m.members.length<=5)(hv:Nms w vm m.members) :
 Calls Tryz.prog 105 #[.agg (msgV m vm).toArray] w fun e w'=>∃ vm',e=.returned (.agg (msgV m vm').toArray)/\w'.ownsRow w.heap.size 3 1 vm' m.members.length (nnums m.members)/\Below w.heap.size w w':=by
 have HV:=hid hv;have HM:=hid hm;clear hv hm;go_enter Tryz.func105,Tryz.ntmps105
 go_wp2_with fail
 refine wp_region_hd [2,5,8,11] [0,1,3,4,6,7,9,10,2,12,5,8,11] (OwnS w m vm) (by kernel_rfl) (by kernel_rfl) ?_ ?_
 ·exact OwnS.start _ rfl HV.out
 repeat (refine hd_take (v:=?_) rfl rfl (by kernel_rfl) (fun W hW=>?_) ?_;rotate_left;(obtain⟨c16,c17,c18,c20,-⟩:=hW;first|(go_simp;done)|(go_simp;with_reducible rfl)))
 generalize hW:World.drew _=W0;have HS:Hid (OwnS w m vm W0):=hid (by rw[<- hW];exact OwnS.start _ rfl HV.out);clear hW;refine hd_loud rfl rfl fun K hK=>?_;go_simp;refine(clone142z W0).mono ?_;rintro e w1 ⟨rfl,h⟩;obtain rfl:=h.symm;refine hK _ _ HS.out ?_;clear hK;refine hd_take (v:=?_) rfl rfl (by kernel_rfl) (fun W hW=>?_) ?_
 rotate_left
 ·obtain⟨c16,c17,c18,c20,-⟩:=hW;first|(go_simp;done)|(go_simp;with_reducible rfl)
 refine hd_loud rfl rfl fun K hK=>?_;go_simp;refine(clone143z W0).mono ?_;rintro e w1 ⟨rfl,h⟩;obtain rfl:=h.symm;refine hK _ _ HS.out ?_;clear hK;refine hd_loud rfl rfl fun K hK=>?_;go_simp;refine(nms99 W0 vm m.members HS.out.2.2.2.2.2.2.1 HM.out).mono ?_;rintro e w1 ⟨v1,rfl,hn,hb⟩;obtain⟨A1,d1,rfl⟩:=ownsRow_slice hn;have HS1:=hid (HS.out.below hb);have HZ:Hid (w.heap.size+2<=W0.heap.size):=hid (by obtain⟨-,-,-,-,-,⟨cs,h2,-⟩,-⟩:=HS.out;have:=h2.lt;omega);have HN1:=hid hn;refine hK _ _ HS1.out ?_;clear hK hn hb HS;refine hd_loud rfl rfl fun K hK=>?_;go_simp;refine(clone99z w1).mono ?_;rintro e w2 ⟨rfl,h⟩;obtain rfl:=h.symm;refine hK _ _ HS1.out (hd_nil ?_);clear hK;simp only[zqa,zqb,zqc,zqd,Nat.zero_add,Nat.reduceAdd];have f16:=HS1.out.2.2.2.2.1.frozen 16;have f17:=HS1.out.2.2.2.2.1.frozen 17;have f18:=HS1.out.2.2.2.2.1.frozen 18;have f20:=HS1.out.2.2.2.2.1.frozen 20;obtain⟨c16,c17,c18,c20,hB,⟨cs,hC,hcs⟩,-,hbel⟩:=HS1.out;have HB:=hid (set4_blk hB (.slice A1 m.members.length d1));obtain⟨W2,hrun,hW2,hk,hsz,h1,h2,h3⟩:=store_msg (m:=m) (vm:=.slice A1 m.members.length d1) (set4_far (g:=w.heap.size) hC (by simp) (.slice A1 m.members.length d1)) hcs (ownsRow_one HN1.out);have HR:=hid hrun;have HB2:=hid hW2
 have HF:Hid (W2.ownsRow w.heap.size 3 1 (.slice A1 m.members.length d1) m.members.length (nnums m.members)/\Below w.heap.size w W2):=hid (by
  have hs4:=set4_below (W:=w1) (g:=w.heap.size) w.heap.size (Nat.le_refl _) (.slice A1 m.members.length d1)
  have hz4:(set4 w1 w.heap.size (.slice A1 m.members.length d1)).heap.size=w1.heap.size:=by simp[set4,World.setCell]
  have hb1:Below w.heap.size w1 W2:=hs4.trans ⟨h1,h2,h3,by omega,fun k hk'=>hk k (by omega)⟩;refine⟨?_,hbel.trans hb1⟩
  have:=ownsRow_eq (W:=W2) HN1.out fun g hg hv=>by
   have:=HZ.out;rw[hk g (by omega)];unfold set4;rw[Below.heap_setCell _ _ _ _ (by simp;omega),Below.heap_setCell _ _ _ _ (by simp;omega),Below.heap_setCell _ _ _ _ (by simp;omega),Below.heap_setCell _ _ _ _ (by simp;omega)]
  refine⟨this.1,?_⟩
  rcases this.2 with hn|⟨g,cap,cur,e,hb,rest⟩
  ·exact .inl hn
  ·exact .inr ⟨g,cap,cur,e,by have:=HZ.out;omega,rest⟩)
 clear hB hC hcs hbel hrun hW2 hk hsz h1 h2 h3;unfold set4 at HB HR
 rename (∀ (a:Act) (w:World),Code.wp _ _ _ a w->_)=>hKK
 have HK:=hid hKK;clear hKK
 go_wp2_with fail
 generalize hW4:World.setCell _ _ _=W4 at HB HR ⊢;clear hW4;refine HK.out _ _ ?_
 go_wp2_with (first|(refine wpl_load 182 _ rfl (by kernel_rfl) _ _ rfl (load_msg HB.out) ?_)|(refine wpl_store 182 _ _ rfl rfl (by kernel_rfl) _ _ rfl rfl W2 HR.out ?_))
 refine bodyPost_ret (results_cell rfl _ _ _ ⟨w.heap.size+1,0,none⟩ _ rfl (loadVar_msg HB2.out)) rfl ?_;exact⟨_,rfl,HF.out⟩
section
variable {P : Program} {ops : Array Oper} {rest : List Oper} {o : Oper} {a : Act} {w : World} {Q : Exit -> Act -> World -> Prop}
structure LoadQ (P:Program)(ops:Array Oper)(rest:List Oper)(o:Oper)(a:Act)(w:World)(Q:Exit->Act->World->Prop)(t:TypeId)(x:Operand):Prop where
 out:∃ p v,a.eval x=p/\Region.wanted o (yielded ops a.tmps)=true/\(Instr.loadAt t p).run P w=.ok v w/\wpList P ops Q rest (a.put o.dst v) w
theorem wpl_lq (t:TypeId)(x:Operand)(ho:o.op=.load t x)(h:LoadQ P ops rest o a w Q t x):wpList P ops Q (o :: rest) a w:=by
 obtain⟨p,v,h1,h2,h3,h4⟩:=h.out;exact wpl_load t x ho h2 p v h1 h3 h4
theorem lq (t:TypeId)(x:Operand)(p v:Value)(hx:a.eval x=p)(hw:Region.wanted o (yielded ops a.tmps)=true)(hr:(Instr.loadAt t p).run P w=.ok v w)(h:wpList P ops Q rest (a.put o.dst v) w):LoadQ P ops rest o a w Q t x:=⟨p,v,hx,hw,hr,h⟩
structure StoreQ (P:Program)(ops:Array Oper)(rest:List Oper)(o:Oper)(a:Act)(w:World)(Q:Exit->Act->World->Prop)(t:TypeId)(x y:Operand):Prop where
 out:∃ p v w',a.eval x=p/\a.eval y=v/\Region.wanted o (yielded ops a.tmps)=true/\(Instr.storeAt t p v).run P w=.ok () w'/\wpList P ops Q rest a w'
theorem wpl_sq (t:TypeId)(x y:Operand)(ho:o.op=.store t x y)(hd:o.dst=none)(h:StoreQ P ops rest o a w Q t x y):wpList P ops Q (o :: rest) a w:=by
 obtain⟨p,v,w',h1,h1',h2,h3,h4⟩:=h.out;exact wpl_store t x y ho hd h2 p v h1 h1' w' h3 h4
theorem sq (t:TypeId)(x y:Operand)(p v:Value)(w':World)(hx:a.eval x=p)(hy:a.eval y=v)(hw:Region.wanted o (yielded ops a.tmps)=true)(hr:(Instr.storeAt t p v).run P w=.ok () w')(h:wpList P ops Q rest a w'):StoreQ P ops rest o a w Q t x y:=⟨p,v,w',hx,hy,hw,hr,h⟩
end
end Go.Proofs.Ytlhekbjidppijaa
