/- Contracts of what TopFall reaches: what each function returns and leaves in memory. Conditions: as named. -/
import Derived.Test.YtlhekbjidppijaaGreatMAZ
import Derived.Test.YtlhekbjidppijaaGreatMBA
set_option linter.unusedVariables false
set_option linter.unusedSimpArgs false
set_option maxRecDepth 20000
set_option maxHeartbeats 8000000
namespace Go.Proofs.Ytlhekbjidppijaa
open Lib (hid)
open Go.RowKit
theorem index174 (w:World)(A:Option Addr)(n c:Nat)(ns:List Nat)(hs:Sl w A (nnums ns))(hn:ns.length=n)(h0:0<n)(hm:n<=1000)(x:Nat) :
 Calls Tryz.prog 174 #[.slice A n c,.int .i64 (x:Int)] w fun e w'=>(∃ i:Int,e=.returned (.int .i64 i)/\(0<=i ↔ x∈ns))/\w=w':=by
 obtain⟨b,o,rfl,hc⟩:=hs (by intro e;simp[nnums]at e;subst e;simp at hn;omega);have HC:Hid (∀ i (h:i<ns.length),w.cell? ⟨b,o+i,none⟩=some (.int .i64 (ns[i]:Int))):=hid fun i h=>hc i _ (nnums_get ns i h);clear hs hc;go_enter Tryz.func174,Tryz.ntmps174
 go_wp2
 go_loop [8] (fun i=>∃ k:Nat,k<=n/\i=.int .i64 (k:Int)/\∀ j (h:j<ns.length),j<k->ns[j]≠x) (fun i=>n-(intOf i).toNat)
 case atStart=>exact⟨0,Nat.zero_le _,rfl,fun j _ h=>absurd h (Nat.not_lt_zero _)⟩
 case round=>
  obtain⟨k,hk,rfl,hno⟩:=hrel
  by_cases hlt:k<n
  ·have hkl:k<ns.length:=by omega
   have c0:=HC.out k hkl;have HNo:=hid hno
   have HX:Hid (∀ z,ns[k]=z->(x=z->x∈ns)):=hid fun z hz e=>by rw[e,<- hz];exact List.getElem_mem hkl
   have HS:Hid (∀ z,ns[k]=z->x≠z->∀ j (h:j<ns.length),j<k+1->ns[j]≠x):=hid fun z hz e j h hj=>by
    by_cases hjk:j=k
    ·subst hjk;rw[hz];exact Ne.symm e
    ·exact hno j h (by omega)
   have hz0:∃ z,ns[k]=z:=⟨_,rfl⟩;obtain⟨z,hz⟩:=hz0;have HX2:=hid (HX.out z hz);have HS2:=hid (HS.out z hz);rw[hz]at c0;clear hno HX HS hz
   have k1:(k:Int)<(n:Int):=by omega
   have k2:(0:Int)<=(k:Int):=by omega
   by_cases he:x=z
   ·have e1:((x:Int) == (z:Int))=true:=by rw[beq_iff_eq];omega
    have e2:(x:Int)=(z:Int):=by omega
    have HY:=hid (HX2.out he);clear he
    go_wp2
    go_ret;exact⟨⟨_,rfl,⟨fun _=>HY.out,fun _=>by omega⟩⟩,rfl⟩
   ·have e1:((x:Int) == (z:Int))=false:=by rw[beq_eq_false_iff_ne];omega
    have e2:¬ ((x:Int)=(z:Int)):=by omega
    have HY:=hid (HS2.out he);clear he
    go_wp2
    go_round
    case rel=>exact⟨k+1,by omega,by go_num,HY.out⟩
    case measure=>simp[intOf];omega
  ·obtain rfl:k=n:=by omega
   have HY:Hid (¬ x∈ns):=hid fun h=>by
    obtain⟨j,hj,e⟩:=List.mem_iff_getElem.1 h;exact hno j hj (by omega) e
   clear hno
   go_wp2
   go_ret;exact⟨⟨_,rfl,⟨fun h=>absurd h (by decide),fun h=>absurd h HY.out⟩⟩,rfl⟩
theorem contains126 (w:World)(A:Option Addr)(n c:Nat)(ns:List Nat)(hs:Sl w A (nnums ns))(hn:ns.length=n)(h0:0<n)(hm:n<=1000)(x:Nat) :
 Calls Tryz.prog 126 #[.slice A n c,.int .i64 (x:Int)] w fun e w'=>e=.returned (.bool (decide (x∈ns)))/\w=w':=by
 have HI:=hid (index174 w A n c ns hs hn h0 hm x);clear hs;go_enter Tryz.func126,Tryz.ntmps126
 go_wp2_with (go_at_call 174;refine HI.out.mono ?_;rintro e w' ⟨⟨i,rfl,h⟩,rfl⟩)
 go_ret;exact⟨by rw[show decide (x∈ns)=decide (0<=i) by rw[decide_eq_decide];exact h.symm];rfl,rfl⟩
def upto (n:Nat):List Nat:=List.range' 1 n
theorem upto_ok (n:Nat)(h1:1<=n)(h5:n<=5):NodesOk (upto n):=by
 refine⟨by simp[upto];omega,by simp[upto];omega,fun i h=>?_,fun i h=>?_⟩
 ·simp[upto]at h ⊢;omega
 ·simp[upto]
theorem text101 (w:World)(U:Own)(t n c:Nat)(A:Option Addr)(hs:Sl w A (nnums (upto n)))(h1:1<=n)(h5:n<=5) :
 Calls Tryz.prog 101 #[.agg #[.int .i64 1,.int .i64 1,.slice A n c]] w fun e w'=>∃ v U',e=.returned v/\Rw w' U' t 5 1 v 3 (nbs [1,1,2 ^ (n+1)-2])/\Chg (· = t) w U w' U':=by
 obtain⟨b,o,rfl,hc⟩:=hs (by intro e;have:=congrArg List.length e;simp[nnums,upto]at this;omega)
 have HC:Hid (∀ k,k<n->w.cell? ⟨b,o+k,none⟩=some (.int .i64 ((k:Int)+1))):=hid fun k h=>by
  have:=hc k _ (nnums_get (upto n) k (by simp[upto];exact h));rw[this];simp[upto];omega
 have hlt:=World.block_lt_of_cell? w ⟨b,o+0,none⟩ (HC.out 0 (by omega))
 have HB:Hid (∀ W:World,W=w.alloc (.cells #[.int .i64 1,.int .i64 1,.slice (some ⟨b,o,none⟩) n c] 158)->∀ k,k<n->W.cell? ⟨b,o+k,none⟩=some (.int .i64 ((k:Int)+1))):=hid fun W hW k hk=>by
  rw[hW,<- HC.out k hk];exact World.cell?_of_block (a:=⟨b,o+k,none⟩) (Below.heap_alloc _ _ _ hlt)
 clear hs hc HC;obtain⟨W,hW⟩:∃ W,W=w.alloc (.cells #[.int .i64 1,.int .i64 1,.slice (some ⟨b,o,none⟩) n c] 158):=⟨_,rfl⟩;have HBW:=hid (HB.out W hW)
 have hblk:Blk W w.heap.size 158 #[.int .i64 1,.int .i64 1,.slice (some ⟨b,o,none⟩) n c]:=by rw[hW];exact Blk.new _ _ _
 have d0:=hblk.cell 0;have d1:=hblk.cell 1;have d2:=hblk.cell 2;have HW:=hid hW;clear HB hW hblk;go_enter Tryz.func101,Tryz.ntmps101
 go_wp2_with (rw[<- HW.out])
 go_loop [3,9] (fun b i=>∃ k:Nat,k<=n/\i=.int .i64 (k:Int)/\b=.int .i64 (((2 ^ (k+1)-2:Nat)):Int)) (fun _ i=>n-(intOf i).toNat)
 case atStart=>exact⟨0,Nat.zero_le _,rfl,rfl⟩
 case round=>
  obtain⟨k,hk,rfl,rfl⟩:=hrel
  by_cases hlt:k<n
  ·have c0:=HBW.out k hlt
   have k1:(k:Int)<(n:Int):=by omega
   obtain rfl|rfl|rfl|rfl|rfl:k=0\/k=1\/k=2\/k=3\/k=4:=by omega
   ·rw[Nat.add_zero]at c0
    go_wp2
    go_round
    case rel=>exact⟨1,by omega,by go_num,by kernel_rfl⟩
    case measure=>simp[intOf];omega
   ·go_wp2
    go_round
    case rel=>exact⟨2,by omega,by go_num,by kernel_rfl⟩
    case measure=>simp[intOf];omega
   ·go_wp2
    go_round
    case rel=>exact⟨3,by omega,by go_num,by kernel_rfl⟩
    case measure=>simp[intOf];omega
   ·go_wp2
    go_round
    case rel=>exact⟨4,by omega,by go_num,by kernel_rfl⟩
    case measure=>simp[intOf];omega
   ·go_wp2
    go_round
    case rel=>exact⟨5,by omega,by go_num,by kernel_rfl⟩
    case measure=>simp[intOf];omega
  ·obtain rfl:k=n:=by omega
   generalize hbits:2 ^ (k+1)-2=bits at *
   have hb64:bits<64:=by
    obtain rfl|rfl|rfl|rfl|rfl:k=1\/k=2\/k=3\/k=4\/k=5:=by omega
    all_goals simp at hbits;omega
   have HBits:=hid hbits;clear hbits
   go_wp2_with fail
   obtain⟨U1,hU1,hy⟩:∃ U1:Own,(∀ i,i<W.heap.size->U1 i=ext U w t i)/\U1 W.heap.size≠t:=⟨fun i=>if i<W.heap.size then ext U w t i else t+1,fun i hi=>if_pos hi,by simp⟩
   have hcw:Chg (· = t) w U (W.alloc (.cells #[.int .i64 1,.int .i64 1,.int .i64 (bits:Int)] 2)) U1:=by
    rw[HW.out];refine(((Chg.refl _ w U).alloc _).alloc _).reown fun i hi=>?_;rw[hU1 i (by rw[HW.out];simp;omega),ext_old hi]
   refine(putAllR _ U1 t _ 0 [] (Rw.nil _ _ _ _ _) _ 3 [1,1,bits] (Blk.new W 2 _).sl (fun a ha=>?_) (by simp) (by intro x hx;simp at hx;omega)).mono ?_
   ·injection ha with ha
    subst ha;exact⟨by simp,hy⟩
   rintro e w' ⟨v',U',rfl,hr,hc⟩;have HF:=hid (And.intro hr (hcw.trans hc));clear hr hc hcw hU1 hy
   go_wp2
   go_ret;refine⟨v',U',rfl,by rw[HBits.out];simpa using HF.out.1,HF.out.2⟩
structure CtlAt (w:World)(U:Own)(t C k n:Nat):Prop where
 ex:∃ s A c G l cc,Has w U t C 163 #[.pointer (some ⟨k,0,none⟩),s,.int .i64 1,.int .i64 1,.slice A n c,.int .i64 0,.int .i64 0,.slice none 0 0,.slice none 0 0,.int .i64 0,.slice none 0 0,.map (some G)] /\
  Rw w U (t+96) 3 1 (.slice A n c) n (nnums (upto n))/\MapAt w G mkI l cc/\U G=t
theorem CtlAt.keep {T:Nat->Prop}{w w':World}{U U':Own}{t C k n:Nat}(h:CtlAt w U t C k n)(hc:Chg T w U w' U')(h1:¬ T t)(h2:¬ T (t+96)):CtlAt w' U' t C k n:=by
 obtain⟨s,A,c,G,l,cc,a,b,d,e⟩:=h.ex;exact⟨s,A,c,G,l,cc,a.keep hc h1,b.keep hc h2,(hc.block G (Array.getElem?_eq_some_iff.1 d).1 (by rw[e];exact h1)).trans d,(hc.own G (Array.getElem?_eq_some_iff.1 d).1).trans e⟩
theorem upto_len (n:Nat):(upto n).length=n:=by simp[upto]
theorem members144 (w:World)(U:Own)(t C k n:Nat)(h:CtlAt w U t C k n)(h5:n<=5) :
 Calls Tryz.prog 144 #[.pointer (some ⟨C,0,none⟩)] w fun e w'=>∃ v,e=.returned v/\w'.ownsRow w.heap.size 3 1 v n (nnums (upto n))/\Below w.heap.size w w':=by
 obtain⟨s,A,c,G,l,cc,hC,hr,-,-⟩:=h.ex;obtain⟨A',c',e1,-,-,hlen,hs,hA,-⟩:=hr.slice
 injection e1 with e1 _ e2
 subst e1;have c4:=hC.cell 4;have HC:=hid (clone99 w A n c _ hlen hs (by simp[nnums,Value.oneCell']) (fun h=>(hA h).1) (by omega));clear h hC hr hs hlen hA e2;go_enter Tryz.func144,Tryz.ntmps144
 go_wp2_with (go_at_call 99;refine HC.out.mono ?_;rintro e w1 ⟨v1,rfl,h1,h2⟩)
 go_ret;exact⟨_,rfl,h1,h2⟩
def grantM (n kind to tick:Nat):PMsg:=⟨kind,0,to,1,tick,0,0,⟨#[]⟩,0,⟨#[]⟩,⟨#[]⟩,false,upto n⟩
theorem member147 (w:World)(U:Own)(t C k n kind to tick:Nat)(h:CtlAt w U t C k n)(h5:n<=5) :
 Calls Tryz.prog 147 #[.pointer (some ⟨C,0,none⟩),.int .i64 (kind:Int),.int .i64 (to:Int),.int .i64 (tick:Int)] w fun e w'=>∃ vm,e=.returned (.agg (msgV (grantM n kind to tick) vm).toArray)/\w'.ownsRow w.heap.size 3 1 vm n (nnums (upto n))/\Below w.heap.size w w':=by
 have HH:=hid h;obtain⟨s,A,c,G,l,cc,hC,hr,-,-⟩:=h.ex;have HCc:=hid hC;clear h hC hr;go_enter Tryz.func147,Tryz.ntmps147
 go_wp2_with fail
 generalize hW:World.alloc _ _=W0
 have hz:Blk W0.drew w.heap.size 182 zero182.toArray:=by rw[<- hW];exact(Blk.new _ _ _).drew
 have hc0:Chg (fun _=>False) w U W0.drew U:=by rw[<- hW];exact((Chg.refl _ _ _).alloc _).drew
 have hb0:Below w.heap.size w W0.drew:=by rw[<- hW];exact((Below.refl _ w).alloc (Nat.le_refl _) _).drew
 have HM:=hid (members144 W0.drew U t C k n (HH.out.keep hc0 id id) h5);have HZ:=hid hz;have HB0:=hid hb0;have S0:Hid (W0.drew.cell? ⟨C,2,none⟩=some (.int .i64 1)):=hid ((HCc.out.keep hc0 id).cell 2);clear hz hc0 hb0 hW;refine wp_region_hd [9] [0,1,2,3,4,5,6,7,8,9] (fun W=>W.cell? ⟨C,2,none⟩=some (.int .i64 1)) (by kernel_rfl) (by kernel_rfl) S0.out ?_
 iterate 9 (refine hd_take (v:=?_) rfl rfl (by kernel_rfl) (fun W hW=>?_) ?_;rotate_left;(first|(go_simp;done)|(go_simp;with_reducible rfl)))
 refine hd_loud rfl rfl fun K hK=>?_;go_simp;refine HM.out.mono ?_;rintro e w1 ⟨v1,rfl,ho1,hb1⟩;obtain⟨A1,d1,rfl⟩:=ownsRow_slice ho1;have S1:Hid (w1.cell? ⟨C,2,none⟩=some (.int .i64 1)):=hid ((World.cell?_of_block (a:=⟨C,2,none⟩) (hb1.block C (Nat.lt_of_lt_of_le HCc.out.lt HB0.out.size))).trans S0.out);obtain⟨W2,hrun,hW2,hk,hsz,q1,q2,q3⟩:=store_msg (m:=grantM n kind to tick) (vm:=.slice A1 n d1) ((hb1.block _ HZ.out.lt).trans HZ.out) rfl rfl;have HR:=hid hrun;have HB:=hid hW2
 have HF:Hid (W2.ownsRow w.heap.size 3 1 (.slice A1 n d1) n (nnums (upto n))/\Below w.heap.size w W2):=hid (by
  have hlt:=HZ.out.lt;have hb3:Below w.heap.size w1 W2:=⟨q1,q2,q3,by omega,fun j hj=>hk j (by omega)⟩;refine⟨?_,(HB0.out.trans (hb1.mono HB0.out.size)).trans hb3⟩;have:=ownsRow_eq (W:=W2) ho1 fun g hg hv=>hk g (by omega);refine⟨this.1,?_⟩
  rcases this.2 with hn|⟨g,cap,cur,e,hb,rest⟩
  ·exact .inl hn
  ·exact .inr ⟨g,cap,cur,e,by omega,rest⟩)
 clear hrun hW2 hk hsz q1 q2 q3 ho1 hb1;refine hK _ _ S1.out (hd_nil ?_);clear hK;simp only[zqa,zqb,zqc,zqd,Nat.zero_add,Nat.reduceAdd]
 go_wp2_with (refine wpl_store 182 _ _ rfl rfl (by kernel_rfl) _ _ rfl rfl W2 HR.out ?_)
 refine bodyPost_ret (results_cell rfl _ _ _ ⟨w.heap.size,0,none⟩ _ rfl (loadVar_msg HB.out)) rfl ?_;exact⟨_,rfl,HF.out⟩
theorem info137:(Tryz.prog.info? 137).map (fun i=>(i.zero.map Value.cells,i.size,i.bytes))=some (some #[.int .i64 0,.string ⟨#[]⟩,.bool false],3,32):=by kernel_rfl
theorem EntsT.put {w W:World}{U U':Own}{t:Nat}{L:List St}{l:List (Ent ByteArray)}(h:EntsT w U t L l)(k v:ByteArray)(c:Nat){u:Value}{g:Nat}(hu:u.ownBlock=some g)
 (hr:Rw W U' t 137 3 u ((rowsOf k L).length+1) ((rowsOf k L).flatMap ORw.cells++[.int .i64 ((L.length:Int)+1),.string v,.bool true]))
 (hg:(lookV k l).ownBlock=some g\/w.heap.size<=g)(hU:∀ i,i<w.heap.size->U' i=U i)
 (hk:∀ i,i<w.heap.size->U i=t->(lookV k l).ownBlock≠some i->W.heap[i]? = w.heap[i]?):EntsT W U' t (L++[⟨k,v,true⟩]) (putEnt k u c l):=by
 have hrk:rowsOf k (L++[⟨k,v,true⟩])=rowsOf k L++[⟨L.length+1,v,true⟩]:=by rw[rowsOf_snoc,if_pos rfl]
 have hro:∀ k',k'≠k->rowsOf k' (L++[⟨k,v,true⟩])=rowsOf k' L:=fun k' hk=>by rw[rowsOf_snoc,if_neg (fun e=>hk e.symm),List.append_nil]
 have hmem:=mem_putEnt k u c l h.nodup
 have hv0:(lookV k l).ownBlock=none\/∃ b,(k,lookV k l,b)∈l:=by
  unfold lookV
  cases hp:keyPos k l 0 with
  | none=>exact .inl rfl
  | some q=>
   obtain⟨j,v⟩:=q;obtain⟨b,hb⟩:=keyPos_mem k l 0 j v hp;exact .inr ⟨b,hb⟩
 have hne:∀ q∈l,q.1≠k->∀ i,q.2.1.ownBlock=some i->(lookV k l).ownBlock≠some i:=fun q hq hqk i hi e=>by
  rcases hv0 with h7|⟨b,h7⟩
  ·rw[h7]at e;cases e
  ·exact h.apart q hq _ h7 hqk (hi.trans e.symm)
 refine⟨?_,?_,?_,?_⟩
 ·rw[keys_putEnt]
  split
  ·exact h.nodup
  ·rename_i hk
   rw[List.nodup_append];exact⟨h.nodup,by simp,by simp only[List.mem_singleton];rintro a ha b rfl e;exact hk (e ▸ ha)⟩
 ·intro q hq
  rcases hmem q hq with ⟨h1,h2⟩|⟨h1,h2⟩
  ·rw[h1,h2,hrk,List.length_append,List.length_singleton,List.flatMap_append]
   exact hr
  ·rw[hro _ h2]
   have hq0:=h.each q h1;refine⟨⟨hq0.own.1,?_⟩,fun i hi=>(hU i (hq0.own.lt i hi).2).trans (hq0.tag i hi)⟩
   rcases hq0.own.2 with h3|⟨g',cap',cur,h3,h4,h5,h6⟩
   ·exact .inl h3
   ·refine .inr ⟨g',cap',cur,h3,h4,(hk g' (Array.getElem?_eq_some_iff.1 h5).1 (hq0.tag g' (by rw[h3];rfl)) (hne q h1 h2 g' (by rw[h3];rfl))).trans h5,h6⟩
 ·intro k' hk'
  have hne:k'≠k:=fun e=>by
   have:k∈(putEnt k u c l).map (·.1):=by
    rw[keys_putEnt]
    split
    ·assumption
    ·simp
   obtain⟨q,hq,he⟩:=List.mem_map.1 this;exact hk' q hq (he.trans e.symm)
  rw[hro _ hne];refine h.miss k' (fun q hq e=>?_)
  have:k'∈(putEnt k u c l).map (·.1):=by
   rw[keys_putEnt];have:k'∈l.map (·.1):=List.mem_map.2 ⟨q,hq,e⟩
   split
   ·exact this
   ·simp only[List.mem_append];exact .inl this
  obtain⟨q',hq',he⟩:=List.mem_map.1 this;exact hk' q' hq' he
 ·have key:∀ q∈l,q.1≠k->u.ownBlock≠q.2.1.ownBlock:=by
   intro q hq hqk e';rw[hu]at e'
   rcases hg with h7|h7
   ·exact hne q hq hqk g e'.symm h7
   ·have:=((h.each q hq).own.lt g e'.symm).2
    omega
  intro a ha b hb' hab
  rcases hmem a ha with ⟨h1,h2⟩|⟨h1,h2⟩ <;> rcases hmem b hb' with ⟨h3,h4⟩|⟨h3,h4⟩
  ·exact absurd (h1.trans h3.symm) hab
  ·rw[h2];exact key b h3 h4
  ·rw[h4];exact Ne.symm (key a h1 h2)
  ·exact h.apart a h1 b h3 hab
theorem EntsT.look {w:World}{U:Own}{t:Nat}{L:List St}{l:List (Ent ByteArray)}(h:EntsT w U t L l)(k:ByteArray):Rw w U t 137 3 (lookV k l) (rowsOf k L).length ((rowsOf k L).flatMap ORw.cells):=by
 unfold lookV
 cases hp:keyPos k l 0 with
 | none=>
  rw[h.miss k (fun p hp' e=>((keyPos_none k l 0).1 hp p hp') e.symm)];exact Rw.nil _ _ _ _ _
 | some q=>
  obtain⟨j,v⟩:=q;obtain⟨b,hb⟩:=keyPos_mem k l 0 j v hp;exact h.each _ hb
theorem run_look (W:World)(M:Nat)(l:List (Ent ByteArray))(c:Nat)(h:MapAt W M mkS l c)(k:ByteArray):(Instr.lookup 130 (.map (some M)) (.string k) false).run Tryz.prog W=.ok (lookV k l) W:=by
 have hr:=run_lookup_at (P:=Tryz.prog) keysS Tryz.underlying130 h k (.slice none 0 0) (zero135 W) false;unfold mkS at hr;rw[hr];unfold lookV
 cases keyPos k l 0 with
 | none=>rfl
 | some q=>obtain⟨j,v⟩:=q;rfl
def OrS66 (O M n:Nat)(l:List (Ent ByteArray))(c:Nat)(W:World):Prop:=W.cell? ⟨O,0,none⟩=some (.int .i64 ((n:Int)+1))/\W.cell? ⟨O,1,none⟩=some (.map (some M))/\MapAt W M mkS l c
theorem set66 (w:World)(U:Own)(t O:Nat)(L:List St)(h:OrgAt w U t O L)(hl:L.length<=1000)(k v:ByteArray) :
 Calls Tryz.prog 66 #[.pointer (some ⟨O,0,none⟩),.string k,.string v,.bool true] w fun e w'=>(∃ r,e=.returned r)/\∃ U',OrgAt w' U' t O (L++[⟨k,v,true⟩])/\Chg (T2 t) w U w' U':=by
 obtain⟨M,l,c,hO,hM,hUM,hE⟩:=h.ex;clear h;have c0:=hO.cell 0;have f0:=hO.frozen 0
 have k0:(L.length:Int)<=1000:=by omega
 have hrow:=hE.look k;have HRW:=hid hrow;have hrl:(rowsOf k L).length<=L.length:=rowsOf_le k L;obtain⟨A,cc,hv0,-⟩:=hrow.slice;have HV0:=hid hv0
 have hMO:M≠O:=fun e=>by
  have h1:=hO.blk;unfold Blk at h1;unfold MapAt at hM;rw[<- e,hM]at h1
  cases h1
 have HE:=hid hE;have HO:=hid hO;have HM:=hid hM;have HT:=hid hUM;clear hrow hv0 hE hO hM hUM;go_enter Tryz.func66,Tryz.ntmps66
 go_wp2_with fail
 generalize hW:World.setCell _ _ _=W0
 have hO0:Has W0 U t O 132 #[.int .i64 ((L.length:Int)+1),.map (some M)]:=by rw[<- hW];exact HO.out.set_ 0 _
 have hC0:Chg (· = t) w U W0 U:=by rw[<- hW];exact(Chg.refl _ _ _).setCell (p:=⟨O,0,none⟩) HO.out.own _
 have hM0:MapAt W0 M mkS l c:=by rw[<- hW];exact(Below.heap_setCell _ _ _ _ hMO).trans HM.out
 have HO0:=hid hO0;have HC0:=hid hC0;have HM0:=hid hM0;have hS0:Hid (OrS66 O M L.length l c W0.drew):=hid ⟨hO0.cell 0,hO0.cell 1,hM0⟩;clear hW hO0 hC0 hM0 c0 f0;refine wp_region_hd [18,19] [0,1,2,3,4,5,6,7,8,9,10,11,12,13,14,15,16,17,18,19] (OrS66 O M L.length l c) (by kernel_rfl) (by kernel_rfl) hS0.out ?_
 iterate 10 (refine hd_take (v:=?_) rfl rfl (by kernel_rfl) (fun W hW=>?_) ?_;rotate_left;(obtain⟨r0,r1,-⟩:=hW;first|(go_simp;done)|(go_simp;with_reducible rfl)))
 refine hd_take (v:=lookV k l) rfl rfl (by kernel_rfl) (fun W hW=>?_) ?_
 ·have hl:=run_look W M l c hW.2.2 k
  go_simp
 iterate 7 (refine hd_take (v:=?_) rfl rfl (by kernel_rfl) (fun W hW=>?_) ?_;rotate_left;(obtain⟨r0,r1,-⟩:=hW;first|(go_simp;done)|(go_simp;with_reducible rfl)))
 refine hd_loud rfl rfl fun K hK=>?_;go_simp;refine hK _ _ ⟨(HO0.out.drewN 1 |>.alloc _).cell 0,(HO0.out.drewN 1 |>.alloc _).cell 1,(Below.heap_alloc _ _ _ (Array.getElem?_eq_some_iff.1 HM0.out).1).trans HM0.out⟩ ?_;clear hK;refine hd_loud rfl rfl fun K hK=>?_;refine step_append_row3 rfl rfl U (t+96) (by kernel_rfl) info137 rfl (by decide) (by decide) rfl ((HRW.out.keep HC0.out (by omega)).drewN 1 |>.alloc _) rfl rfl (Blk.new _ _ _).sl (by simp[Value.oneCell']) (by omega) ?_;intro g cap W2 hr2 hc2 hg2 hgg;have hMlt:M<W0.heap.size:=(Array.getElem?_eq_some_iff.1 HM0.out).1;have hM1:MapAt (W0.alloc (.cells #[.int .i64 ((L.length:Int)+1),.string v,.bool true] 137)).drew M mkS l c:=(Below.heap_alloc _ _ _ hMlt).trans HM0.out;have hO1:Has (W0.alloc (.cells #[.int .i64 ((L.length:Int)+1),.string v,.bool true] 137)).drew U t O 132 #[.int .i64 ((L.length:Int)+1),.map (some M)]:=(HO0.out.alloc (.cells #[.int .i64 ((L.length:Int)+1),.string v,.bool true] 137)).drewN 1;have hC1:=(HC0.out.alloc (.cells #[.int .i64 ((L.length:Int)+1),.string v,.bool true] 137)).drew
 have hz1:(W0.alloc (.cells #[.int .i64 ((L.length:Int)+1),.string v,.bool true] 137)).drew.heap.size=W0.heap.size+1:=by simp
 generalize World.drew (W0.alloc _)=W1 at hr2 hc2 hg2 hgg hM1 hO1 hC1 hz1;have hU:∀ i,i<W1.heap.size->ext U W1 (t+96) i=U i:=fun i hi=>ext_old hi;generalize ext U W1 (t+96)=U2 at hr2 hc2 hU;have hM2:MapAt W2 M mkS l c:=(hc2.block M (by omega) (by rw[HT.out];omega)).trans hM1;have hO2:=hO1.keep hc2 (by omega);obtain⟨W3,hput,hmap3,hgr3,hsz3⟩:=run_put_at (P:=Tryz.prog) keysS Tryz.underlying130 hM2 k (.slice (some ⟨g,0,none⟩) ((rowsOf k L).length+1) cap);unfold mkS at hput
 have hc3:Chg (· = t) W2 U2 W3 U2:=Chg.grown (Chg.refl _ _ _) hgr3 fun q hq=>by
  injection hq with hq
  subst hq;exact .inr ((hU M (by omega)).trans HT.out)
 have hO3:Has W3 U2 t O 132 #[.int .i64 ((L.length:Int)+1),.map (some M)]:=⟨hO2.blk.grown hgr3 (fun e=>hMO (by injection e with e;exact e.symm)),hO2.own⟩;have hC3:Chg (T2 t) w U W3 U2:=((hC1.mono fun x h=>.inl h).trans (hc2.mono fun x h=>.inr h)).trans (hc3.mono fun x h=>.inl h);have hz0:w.heap.size<=W1.heap.size:=hC1.size
 have hF:OrgAt W3 U2 t O (L++[⟨k,v,true⟩]):=by
  refine⟨M,_,_,?_,hmap3,(hU M (by omega)).trans HT.out,HE.out.put k v c rfl ((hr2.keep hc3 (by omega)) ) ?_ (fun i hi=>hU i (by omega)) fun i hi h1 h2=>?_⟩
  ·rw[List.length_append,List.length_singleton]
   exact hO3
  ·rcases hgg with h|h
   ·exact .inl h
   ·exact .inr (by rw[h];exact hz0)
  ·have e3:=hgr3.block i (Nat.lt_of_lt_of_le hi (Nat.le_trans hz0 hc2.size)) (fun e=>by injection e with e;subst e;rw[HT.out]at h1;omega)
   have e2:=hg2.block i (by omega) (fun e=>h2 e.symm);have e1:=hC1.block i hi (by omega);exact(e3.trans e2).trans e1
 have HF:=hid (And.intro hF hC3);have d0:=hO3.cell 0;have S2:Hid (OrS66 O M L.length l c W2):=hid ⟨hO2.cell 0,hO2.cell 1,hM2⟩;clear hr2 hc2 hg2 hgg hM1 hO1 hC1 hz1 hU hM2 hO2 hmap3 hgr3 hsz3 hc3 hO3 hC3 hz0 hF hMlt;refine hK _ _ S2.out (hd_nil ?_);clear hK;simp only[zqa,zqb,zqc,zqd,Nat.zero_add,Nat.reduceAdd]
 go_wp2_with fail
 go_ret;exact⟨⟨_,rfl⟩,U2,HF.out⟩
theorem beat81 (w:World)(U:Own)(t C k n:Nat)(h:CtlAt w U t C k n):Calls Tryz.prog 81 #[.pointer (some ⟨C,0,none⟩)] w fun e w'=>e=.returned (.slice none 0 0)/\w=w':=by
 obtain⟨s,A,c,G,l,cc,hC,-⟩:=h.ex;have c5:=hC.cell 5;clear h hC;go_enter Tryz.func81,Tryz.ntmps81
 go_wp2
 go_ret;exact⟨rfl,rfl⟩
theorem keysI3:Keys Tryz.prog 3 mkI (.int .i64) where
 desc:=Tryz.underlying3
 same:=fun a b=>by unfold mkI Instr.sameNow;simp;rfl
 check:=fun empty a w=>Go.MapKept.run_checkKey Tryz.underlying3 (by unfold mkI;simp[MapKept.IsKey]) empty 9999
 bits:=fun a=>by unfold mkI;unfold Instr.sameBits;simp
theorem renew151 (w:World)(U:Own)(t tk C k n now:Nat)(h:CtlAt w U t C k n)(hk:ClockAt w U tk k now)(h1:1<=n)(h5:n<=5)(ht:t<95)(m:PMsg)(vm:Value)(hsrc:m.src∈upto n) :
 Calls Tryz.prog 151 #[.pointer (some ⟨C,0,none⟩),.agg (msgV m vm).toArray] w fun e w'=>∃ v U',e=.returned v/\Msgs w' U' (t+192) v [grantM n 2 m.src m.tick]/\CtlAt w' U' t C k n/\Chg (T2 t) w U w' U':=by
 have H:=hid h;have HK:=hid hk;have HSrc:=hid hsrc;obtain⟨s,A,c,G,l,cc,hC,hr,hG,hUG⟩:=h.ex;have HC:=hid hC;have HR:=hid hr;have HG:=hid hG;have HTG:=hid hUG;clear h hk hC hr hG hUG hsrc;go_enter Tryz.func151,Tryz.ntmps151
 go_wp2_with fail
 generalize hW:World.alloc _ _=W0
 have hB:Blk W0 w.heap.size 182 (msgV m vm).toArray:=by rw[<- hW];exact Blk.new _ _ _
 have hc0:Chg (fun _=>False) w U W0 U:=by rw[<- hW];exact(Chg.refl _ _ _).alloc _
 have HB:=hid hB;have HC0:=hid hc0;have hC0:=HC.out.keep hc0 id;have c2:=hC0.cell 2;have b5:=hB.cell 5;unfold msgV at b5;clear hW hB hc0 hC0
 go_quiet (fail)
 go_wp2_with fail
 clear c2 b5;generalize hW:World.drewN _ _=W1;have HB1:Hid (Blk W1 w.heap.size 182 (msgV m vm).toArray):=hid (by rw[<- hW];exact HB.out.drewN _);have HC1:Hid (Chg (fun _=>False) w U W1 U):=hid (by rw[<- hW];exact HC0.out.drewN _);clear hW HB HC0;have hS1:Hid (W1.drew.cell? ⟨C,4,none⟩=some (.slice A n c)/\W1.drew.cell? ⟨C,9,none⟩=some (.int .i64 0)/\W1.drew.cell? ⟨w.heap.size,1,none⟩=some (.int .i64 (m.src:Int))):=hid ⟨(HC.out.keep HC1.out id).cell 4,(HC.out.keep HC1.out id).cell 9,HB1.out.cell 1⟩
 have HSl:Hid (Sl W1.drew A (nnums (upto n))/\1<=m.src/\m.src<=5):=hid (by
  obtain⟨A',c',e1,-,-,-,hs,-,-⟩:=(HR.out.keep (HC1.out.drew) id).slice
  injection e1 with e1 _ e2
  rw[e1];have:=HSrc.out;simp[upto]at this
  exact⟨hs,by omega,by omega⟩)
 have HCt:=hid (contains126 W1.drew A n c (upto n) HSl.out.1 (upto_len n) (by omega) (by omega) m.src);rw[decide_eq_true HSrc.out]at HCt;obtain⟨e1,e2⟩:=HSl.out.2
 have e3:¬ ((m.src:Int)=0):=by omega
 have e4:((m.src:Int) == 0)=false:=by rw[beq_eq_false_iff_ne];omega
 refine wp_region_hl [7] [0,1,2,3,4,5,6,7,8,9,10,11,12,13,14,15] (fun W=>W.cell? ⟨C,4,none⟩=some (.slice A n c)/\W.cell? ⟨C,9,none⟩=some (.int .i64 0)/\W.cell? ⟨w.heap.size,1,none⟩=some (.int .i64 (m.src:Int))) (by kernel_rfl) (by kernel_rfl) hS1.out ?_
 iterate 7 (refine hd_take (v:=?_) rfl rfl (by kernel_rfl) (fun W hW=>?_) ?_;rotate_left;(obtain⟨r0,r1,r2⟩:=hW;first|(go_simp;done)|(go_simp;with_reducible rfl)))
 refine hd_loud rfl rfl fun K hK=>?_;go_simp;refine HCt.out.mono ?_;rintro e w1 ⟨rfl,rfl⟩;refine hK _ _ hS1.out ?_;clear hK
 iterate 7 (refine hd_take (v:=?_) rfl rfl (by kernel_rfl) (fun W hW=>?_) ?_;rotate_left;(obtain⟨r0,r1,r2⟩:=hW;first|(go_simp;done)|(go_simp;with_reducible rfl)))
 refine hd_take (v:=?_) rfl rfl (by kernel_rfl) (fun W hW=>?_) (hd_end ?_);rotate_left;(obtain⟨r0,r1,r2⟩:=hW;first|(go_simp;done)|(go_simp;with_reducible rfl));simp only[zqa,zqb,zqc,zqd,Nat.zero_add,Nat.reduceAdd]
 go_wp2_with fail
 clear e3 e4;generalize hW:World.drew _=W2;have HB2:Hid (Blk W2 w.heap.size 182 (msgV m vm).toArray):=hid (by rw[<- hW];exact HB1.out.drew);have HC2:Hid (Chg (fun _=>False) w U W2 U):=hid (by rw[<- hW];exact HC1.out.drew);clear hW HB1 HC1 hS1 HSl HCt;have hS2:Hid (W2.drew.cell? ⟨C,11,none⟩=some (.map (some G))/\W2.drew.cell? ⟨C,0,none⟩=some (.pointer (some ⟨k,0,none⟩))/\W2.drew.cell? ⟨w.heap.size,1,none⟩=some (.int .i64 (m.src:Int))):=hid ⟨(HC.out.keep HC2.out id).cell 11,(HC.out.keep HC2.out id).cell 0,HB2.out.cell 1⟩;have hGlt:G<w.heap.size:=(Array.getElem?_eq_some_iff.1 HG.out).1;have hG2:MapAt W2.drew G mkI l cc:=(HC2.out.block G hGlt id).trans HG.out;obtain⟨W3,hput,hmap3,hgr3,hsz3⟩:=run_put_at (P:=Tryz.prog) keysI3 Tryz.underlying161 hG2 (m.src:Int) (.int .i64 (now:Int));unfold mkI at hput;have hc3:Chg (· = t) w U W3 U:=((HC2.out.drew).mono (fun _ h=>h.elim)).trans (Chg.grown (Chg.refl _ _ _) hgr3 fun q hq=>by injection hq with hq;subst hq;exact .inr HTG.out);have hB3:Blk W3 w.heap.size 182 (msgV m vm).toArray:=HB2.out.drew.grown hgr3 (fun e=>by injection e with e;omega)
 have hC3:Has W3 U t C 163 #[.pointer (some ⟨k,0,none⟩),s,.int .i64 1,.int .i64 1,.slice A n c,.int .i64 0,.int .i64 0,.slice none 0 0,.slice none 0 0,.int .i64 0,.slice none 0 0,.map (some G)]:=
  ⟨(HC.out.keep (HC2.out.drew) id).blk.grown hgr3 (fun e=>by
   injection e with e
   have h1:=HC.out.blk;have h2:=HG.out;unfold Blk at h1;unfold MapAt at h2;rw[<- e,h1]at h2
   cases h2),HC.out.own⟩
 have HC3:=hid hc3;have HB3:=hid hB3;have HCt3:Hid (CtlAt W3 U t C k n):=hid ⟨s,A,c,G,_,_,hC3,HR.out.keep hc3 (by omega),hmap3,HTG.out⟩;have HNow:=hid (now61 W2.drew U tk k now (HK.out.keep HC2.out.drew id));clear hmap3 hgr3 hsz3 hc3 hB3 hC3 hG2;refine wp_region_hl [10] [0,1,2,3,4,5,6,7,8,9,10] (fun W=>W.cell? ⟨C,11,none⟩=some (.map (some G))/\W.cell? ⟨C,0,none⟩=some (.pointer (some ⟨k,0,none⟩))/\W.cell? ⟨w.heap.size,1,none⟩=some (.int .i64 (m.src:Int))) (by kernel_rfl) (by kernel_rfl) hS2.out ?_
 iterate 10 (refine hd_take (v:=?_) rfl rfl (by kernel_rfl) (fun W hW=>?_) ?_;rotate_left;(obtain⟨r0,r1,r2⟩:=hW;first|(go_simp;done)|(go_simp;with_reducible rfl)))
 refine hd_loud rfl rfl fun K hK=>?_;go_simp;refine HNow.out.mono ?_;rintro e w1 ⟨rfl,rfl⟩;refine hK _ _ hS2.out (hd_end ?_);clear hK;simp only[zqa,zqb,zqc,zqd,Nat.zero_add,Nat.reduceAdd];have b1:=HB3.out.cell 1;have b4:=HB3.out.cell 4;unfold msgV at b1 b4
 go_wp2_with fail
 refine(member147 W3 U t C k n 2 m.src m.tick HCt3.out h5).mono ?_;rintro e W4 ⟨v4,rfl,ho4,hb4⟩;have hc4:Chg (fun _=>False) W3 U W4 (ext U W3 (t+288)):=Chg.of_below hb4 (t+288);have hv4:Rw W4 (ext U W3 (t+288)) (t+288) 3 1 v4 n (nnums (upto n)):=Rw.of_new (w0:=W3) ho4 (Nat.le_refl _) _ _;have HC4:=hid hc4;have HV4:=hid hv4;have hlm:(msgV (grantM n 2 m.src m.tick) v4).length=21:=rfl;clear hc4 hv4 ho4 hb4;dsimp only
 rename (∀ (a:Act) (w:World),wpList _ _ _ _ a w->_)=>hKK
 refine hKK _ _ ?_;clear hKK;refine wpList_plain rfl fun K2 hK2=>?_;go_simp;generalize hcs:List.foldl _ _ _=cs
 obtain rfl:cs=(msgV (grantM n 2 m.src m.tick) v4).toArray:=by rw[<- hcs];exact build_msg (grantM n 2 m.src m.tick) v4
 clear hcs;refine hK2 _ _ ?_;clear hK2;refine wpl_app rfl rfl (ext U W3 (t+288)) (t+192) (by kernel_rfl) info182c rfl (by decide) (by decide) rfl (Rw.nil _ _ _ _ _) rfl rfl (Blk.new _ _ _).sl (encM_one (grantM n 2 m.src m.tick,v4) (ownsRow_one HV4.out.own)) (by omega) ?_;intro g6 cap6 W6 hr6 hc6 hg6;have hc6':Chg (fun _=>False) _ (ext U W3 (t+288)) W6 _:=(Chg.grown (Chg.refl _ _ _) hg6 (fun q hq=>by cases hq)).ext (t+192);generalize hU:ext (ext U W3 (t+288)) _ (t+192)=U6 at hr6 hc6';have hc36:Chg (fun _=>False) W3 U W6 U6:=(HC4.out.alloc _).trans hc6'
 have HF:Hid (Msgs W6 U6 (t+192) (.slice (some ⟨g6,0,none⟩) 1 cap6) [grantM n 2 m.src m.tick]/\CtlAt W6 U6 t C k n/\Chg (T2 t) w U W6 U6):=hid (by
  refine⟨⟨[(grantM n 2 m.src m.tick,v4)],rfl,by simpa [encM] using hr6,fun x hx=>?_⟩,HCt3.out.keep hc36 id id,(HC3.out.trans (hc36.mono fun _ h=>h.elim)).mono fun x h=>.inl h⟩
  ·obtain rfl:=List.mem_singleton.1 hx
   rw[show(grantM n 2 m.src m.tick,v4).1.members=upto n from rfl,upto_len]
   exact(HV4.out.alloc _).keep hc6' id)
 clear hr6 hc6 hg6 hc6' hU hc36
 go_wp2
 go_ret;exact⟨_,U6,rfl,HF.out⟩
theorem step115 (w:World)(U:Own)(t tk C k n now:Nat)(h:CtlAt w U t C k n)(hk:ClockAt w U tk k now)(h1:1<=n)(h5:n<=5)(ht:t<95)(m:PMsg)(vm:Value)(hsrc:m.src∈upto n)(hm:MOk m)(hv:Nms w vm m.members)(hd:m.dst=0)(hkd:m.kind=1) :
 Calls Tryz.prog 115 #[.pointer (some ⟨C,0,none⟩),.agg (msgV m vm).toArray] w fun e w'=>∃ v U',e=.returned v/\Msgs w' U' (t+192) v [grantM n 2 m.src m.tick]/\CtlAt w' U' t C k n/\Chg (T2 t) w U w' U':=by
 have HM:=hid (may104 (w.alloc (.cells (msgV m vm).toArray 182)) m vm hm (hv.keep ((Below.refl _ w).alloc (Nat.le_refl _) _)))
 have HR:Hid (∀ W,Below w.heap.size w W->Calls Tryz.prog 151 #[.pointer (some ⟨C,0,none⟩),.agg (msgV m vm).toArray] W fun e w'=>∃ v U',e=.returned v/\Msgs w' U' (t+192) v [grantM n 2 m.src m.tick]/\CtlAt w' U' t C k n/\Chg (T2 t) w U w' U'):=hid fun W hb=>by
  have hc:Chg (fun _=>False) w U W (ext U w t):=Chg.of_below hb t;refine(renew151 W (ext U w t) t tk C k n now (h.keep hc id id) (hk.keep hc id) h1 h5 ht m vm hsrc).mono ?_;rintro e w' ⟨v,U',rfl,a,b,c⟩;exact⟨v,U',rfl,a,b,(hc.mono fun _ h=>h.elim).trans c⟩
 have HB0:=hid (Blk.new w 182 (msgV m vm).toArray);obtain⟨W0,hW0⟩:∃ W,W=w.alloc (.cells (msgV m vm).toArray 182):=⟨_,rfl⟩
 have hbl0:Below w.heap.size w W0:=by rw[hW0];exact(Below.refl _ w).alloc (Nat.le_refl _) _
 rw[<- hW0]at HM HB0;have HW:=hid hW0;have HBl:=hid hbl0;have b0:=HB0.out.cell 0;have b2:=HB0.out.cell 2;obtain⟨kind,src,dst,epoch,tick,id,op,key,err,ik,iv,ig,members⟩:=m;dsimp only at hd hkd;subst hd;subst hkd;unfold msgV at b0 b2;clear hW0 hbl0 h hk hm hv;go_enter Tryz.func115,Tryz.ntmps115
 go_wp2_with (first|(refine wpl_load 182 _ rfl (by kernel_rfl) _ _ rfl (load_msg HB0.out) ?_)|(rw[<- HW.out])|(go_at_call 104;fail))
 refine HM.out.mono ?_;rintro e w1 ⟨rfl,hb1⟩;have HB1:=hid (HB0.out.below hb1 HB0.out.lt);have HBl1:=hid (HBl.out.trans (hb1.mono HBl.out.size));have b0:=HB1.out.cell 0;clear hb1;unfold msgV at b0
 go_wp2_with (first|(refine wpl_load 182 _ rfl (by kernel_rfl) _ _ rfl (load_msg HB1.out) ?_)|(go_at_call 151;fail))
 refine(HR.out _ HBl1.out).mono ?_;rintro e w2 ⟨v2,U2,rfl,hf⟩;have HF:=hid hf;clear hf
 go_wp2
 go_ret;exact⟨v2,U2,rfl,HF.out⟩
theorem make77 (w:World)(U:Own)(t tk td d n:Nat)(hD:DevAt w U td d 2 zeros Lasts)(A:Option Addr)(c:Nat)(hs:Sl w A (nnums (upto n)))(hA:∀ a,A=some a->a.block<w.heap.size)(h1:1<=n)(h5:n<=5)(ht:t<95)(htk:tk<95)(hne:tk≠t)(htd:td<95/\td≠t/\td≠tk) :
 Calls Tryz.prog 77 #[.pointer (some ⟨d,0,none⟩),.slice A n c] w fun e w'=>∃ C k U',e=.returned (.tuple #[.pointer (some ⟨C,0,none⟩),.int .i64 0])/\CtlAt w' U' t C k n/\ClockAt w' U' tk k 0/\Chg (· = td) w U w' U'/\∃ Z F,DevAt w' U' td d 2 Z F:=by
 have HM:=hid (may72 w A n c (upto n) hs (upto_len n) (upto_ok n h1 h5))
 have hs0:∀ W,Below w.heap.size w W->Calls Tryz.prog 99 #[.slice A n c] W fun e w'=>∃ v,e=.returned v/\w'.ownsRow W.heap.size 3 1 v n (nnums (upto n))/\Below W.heap.size W w':=fun W hb=>
  clone99 W A n c (nnums (upto n)) (by simp[nnums,upto_len]) (hs.keep hb) (by simp[nnums,Value.oneCell']) (fun e=>by
   obtain⟨b,o,h,_⟩:=hs (by intro e;have:=congrArg List.length e;simp[nnums,upto]at this;omega)
   rw[e]at h;cases h) (by omega)
 have HCl:=hid hs0;have HD:=hid hD;have hmm:=@run_makeMap Tryz.prog;clear hs hs0 hD hA;go_enter Tryz.func77,Tryz.ntmps77
 go_wp2_with (first|(go_at_call 72;refine HM.out.mono ?_;rintro e w' ⟨rfl,hw⟩;obtain rfl:=hw.symm)|(go_at_call 99;fail))
 refine(HCl.out _ ((Below.refl _ w).alloc (Nat.le_refl _) _)).mono ?_;rintro e w1 ⟨v1,rfl,ho1,hb1⟩;obtain⟨A1,d1,rfl⟩:=ownsRow_slice ho1
 go_wp2_with fail
 have hz1:w.heap.size+1<=w1.heap.size:=by have:=hb1.size;simpa using this
 obtain⟨W2,hW2⟩:∃ W,W=(w1.alloc (.map #[] 0)).alloc (.cells #[.pointer (some ⟨w.heap.size,0,none⟩),.pointer none,.int .i64 1,.int .i64 1,.slice A1 n d1,.int .i64 0,.int .i64 0,.slice none 0 0,.slice none 0 0,.int .i64 0,.slice none 0 0,.map (some w1.heap.size)] 163):=⟨_,rfl⟩
 obtain⟨U0,hUa,hUb,hUc,hUd⟩:∃ U0:Own,(∀ i,i<w.heap.size->U0 i=U i)/\U0 w.heap.size=tk/\(∀ i,w.heap.size<i->i<w1.heap.size->U0 i=t+96)/\(∀ i,w1.heap.size<=i->U0 i=t):=by
  refine⟨fun i=>if i<w.heap.size then U i else if i=w.heap.size then tk else if i<w1.heap.size then t+96 else t,fun i hi=>if_pos hi,by simp,fun i h1 h2=>?_,fun i hi=>?_⟩
  ·simp only[];rw[if_neg (by omega),if_neg (by omega),if_pos h2]
  ·simp only[];rw[if_neg (by omega),if_neg (by omega),if_neg (by omega)]
 have hbw:Below w.heap.size w w1:=((Below.refl _ w).alloc (Nat.le_refl _) _).trans (hb1.mono (by simp))
 have hbw2:Below w.heap.size w W2:=by rw[hW2];exact(hbw.alloc hbw.size _).alloc (by simp;omega) _
 have hb12:Below w1.heap.size w1 W2:=by rw[hW2];exact((Below.refl _ w1).alloc (Nat.le_refl _) _).alloc (by simp) _
 have hc2:Chg (fun _=>False) w U W2 U0:=⟨hbw2.os,hbw2.tape,hbw2.output,hbw2.size,fun i hi _=>hbw2.block i hi,hUa⟩;have hk2:Has W2 U0 tk w.heap.size 165 #[.int .i64 0]:=⟨((Blk.new w 165 #[.int .i64 0]).below hb1 (by simp)).below hb12 (by omega),hUb⟩
 have hr2:Rw W2 U0 (t+96) 3 1 (.slice A1 n d1) n (nnums (upto n)):=by
  refine⟨⟨ho1.1,?_⟩,fun g hg=>?_⟩
  ·rcases ho1.2 with hn|⟨g,cap,cur,e,hb,hg,rest⟩
   ·exact .inl hn
   ·exact .inr ⟨g,cap,cur,e,Nat.zero_le _,(hb12.block g (Array.getElem?_eq_some_iff.1 hg).1).trans hg,rest⟩
  ·obtain⟨h1,h2⟩:=ho1.lt g hg
   exact hUc g (by simp at h1;omega) h2
 have hC2:Has W2 U0 t (w1.heap.size+1) 163 #[.pointer (some ⟨w.heap.size,0,none⟩),.pointer none,.int .i64 1,.int .i64 1,.slice A1 n d1,.int .i64 0,.int .i64 0,.slice none 0 0,.slice none 0 0,.int .i64 0,.slice none 0 0,.map (some w1.heap.size)]:=by
  refine⟨?_,hUd _ (by omega)⟩;rw[hW2];have:=Blk.new (w1.alloc (.map #[] 0)) 163 #[.pointer (some ⟨w.heap.size,0,none⟩),.pointer none,.int .i64 1,.int .i64 1,.slice A1 n d1,.int .i64 0,.int .i64 0,.slice none 0 0,.slice none 0 0,.int .i64 0,.slice none 0 0,.map (some w1.heap.size)]
  simpa using this
 have hG2:MapAt W2 w1.heap.size mkI [] 0:=by
  rw[hW2];unfold MapAt;rw[Below.heap_alloc _ _ _ (by simp)];exact heap_alloc_new w1 _
 have hd2:=HD.out.keep hc2 id;obtain⟨y,hy1,hy2⟩:=fresh95 W2 U0
 have hs2:Sl W2 A1 (nnums (upto n)):=by
  obtain⟨A',c',e1,-,-,-,hs,-,-⟩:=hr2.slice
  injection e1 with e1 _ _
  rw[e1];exact hs
 rw[<- hW2];refine(text101 W2 U0 y n d1 A1 hs2 h1 h5).mono ?_;rintro e w3 ⟨v3,U3,rfl,hr3,hc3⟩;obtain⟨A3,d3,rfl,-,-,hl3,hs3,hA3,ha3⟩:=hr3.slice;have hk3:=hk2.keep hc3 (by omega);have hr3':=hr2.keep hc3 (by omega);have hC3:=hC2.keep hc3 (by omega);have hG3:MapAt w3 w1.heap.size mkI [] 0:=(hc3.block w1.heap.size (Array.getElem?_eq_some_iff.1 hG2).1 (by rw[hUd _ (Nat.le_refl _)];omega)).trans hG2;have hT3:U3 w1.heap.size=t:=(hc3.own _ (Array.getElem?_eq_some_iff.1 hG2).1).trans (hUd _ (Nat.le_refl _));have hd3:=hd2.keep hc3 (by omega);have hc03:Chg (· = y) w U w3 U3:=(hc2.mono fun _ h=>h.elim).trans hc3
 have HMk:=hid (make100 w3 U3 y 0 td d 2 zeros Lasts hd3 (fun k=>rfl) (by omega) (by decide) (by decide) A3 3 d3 [2,2,2*(2 ^ (n+1)-2)] rfl (by
  intro x hx;simp at hx
  obtain rfl|rfl|rfl|rfl|rfl:n=1\/n=2\/n=3\/n=4\/n=5:=by omega
  all_goals simp at hx;omega) (by decide) hs3 hA3 (fun a ha=>⟨(ha3 a ha).2.2.1,by rw[(ha3 a ha).2.2.2];omega⟩))
 have HX:=hid (And.intro hk3 (And.intro hr3' (And.intro hC3 (And.intro hG3 (And.intro hT3 hc03)))))
 have HY2:Hid (∀ i,i<w.heap.size->U i≠y):=hid fun i hi=>by rw[<- hUa i hi];exact hy2 i (Nat.lt_of_lt_of_le hi hc2.size)
 clear hk3 hr3' hC3 hG3 hT3 hd3 hc03 hr3 hl3 hs3 hA3 ha3 hc3 hs2 hy2 hd2 hG2 hC2 hr2 hk2 hc2 hb12 hbw2 hbw hUa hUb hUc hUd hW2 hb1 ho1 HD HM HCl
 go_wp2_with fail
 refine HMk.out.mono ?_;rintro e w4 ⟨s,U4,rfl,-,hd4,hc4,-⟩;obtain⟨hk3,hr3,hC3,hG3,hT3,hc03⟩:=HX.out;have hC4:=hC3.keep hc4 (by omega);have f1:=hC4.frozen 1;have e1:=hC4.cell 1
 have HF:Hid (∀ W,W=w4.setCell ⟨w1.heap.size+1,1,none⟩ (.pointer (some ⟨s,0,none⟩))->CtlAt W U4 t (w1.heap.size+1) w.heap.size n/\ClockAt W U4 tk w.heap.size 0/\Chg (· = td) w U W U4/\∃ Z F,DevAt W U4 td d 2 Z F):=hid fun W hW=>by
  have hc5:Chg (· = t) w4 U4 W U4:=by rw[hW];exact(Chg.refl _ _ _).setCell (p:=⟨w1.heap.size+1,1,none⟩) hC4.own _
  have hG4:MapAt w4 w1.heap.size mkI [] 0:=(hc4.block w1.heap.size (Array.getElem?_eq_some_iff.1 hG3).1 (by rw[hT3];omega)).trans hG3;refine⟨⟨_,A1,d1,w1.heap.size,[],0,by rw[hW];exact hC4.set_ 1 _,(hr3.keep hc4 (by omega)).keep hc5 (by omega),by rw[hW];exact(Below.heap_setCell _ _ _ _ (by simp)).trans hG4,(hc4.own _ (Array.getElem?_eq_some_iff.1 hG3).1).trans hT3⟩,(hk3.keep hc4 (by omega)).keep hc5 (by omega),?_,_,_,hd4.keep hc5 (by omega)⟩;have hcc:Chg (fun x=>x=y\/x=td\/x=t) w U W U4:=((hc03.mono fun x h=>.inl h).trans (hc4.mono fun x h=>h.elim .inl fun h=>.inr (.inl h))).trans (hc5.mono fun x h=>.inr (.inr h));refine⟨hcc.os,hcc.tape,hcc.output,hcc.size,fun i hi hn=>?_,hcc.own⟩
  have e5:W.heap[i]? = w4.heap[i]?:=by rw[hW];exact Below.heap_setCell _ _ _ _ (by simp;omega)
  have e4:=(hc03.mono (T':=fun x=>x=y\/x=td) fun x h=>.inl h).trans hc4;exact e5.trans (e4.block i hi fun h=>h.elim (HY2.out i hi) hn)
 clear hC4 hc4 hd4 hk3 hr3 hC3 hG3 hT3 hc03
 go_wp2
 go_ret2
 exact⟨_,_,U4,rfl,HF.out _ rfl⟩
theorem flat_gd {α:Type}{f:α->List Value}{C:Nat}(hC:∀ x,(f x).length=C)(h0:0<C):∀ (L:List α) (k:Nat),(L.flatMap f)[k]? = (L[k / C]?).bind fun x=>(f x)[k%C]?
 | [],k=>by simp
 | x :: L,k=>by
  rw[List.flatMap_cons,List.getElem?_append,hC]
  by_cases h:k<C
  ·rw[if_pos h,Nat.div_eq_of_lt h,Nat.mod_eq_of_lt h];rfl
  ·rw[if_neg h,flat_gd hC h0 L]
   obtain⟨j,rfl⟩:∃ j,k=j+C:=⟨k-C,by omega⟩;rw[Nat.add_sub_cancel,Nat.add_div_right _ h0,Nat.add_mod_right];rfl
theorem Rw.upd {α:Type}{f:α->List Value}{C:Nat}(hC:∀ x,(f x).length=C)(h0:0<C){w W:World}{U:Own}{t e g n c i:Nat}{L:List α}{cur cur':Array Value}{y:α}
 (hr:Rw w U t e C (.slice (some ⟨g,0,none⟩) n c) n (L.flatMap f))(hb:Blk w g e cur)(hi:i<L.length)(hW:Blk W g e cur')(hs:cur'.size=cur.size)
 (hout:∀ k,k<i*C\/i*C+C<=k->cur'[k]? = cur[k]?)(hin:∀ j,j<C->cur'[i*C+j]? = (f y)[j]?):Rw W U t e C (.slice (some ⟨g,0,none⟩) n c) n ((L.set i y).flatMap f):=by
 have hlen:=hr.own.1
 rcases hr.own.2 with ⟨h,_⟩|⟨g',cap',cur0,h,hb0,hg,hc,hm,hsz,htk⟩
 ·cases h
 simp only[Value.slice.injEq,Option.some.injEq,Addr.mk.injEq]at h;obtain⟨⟨rfl,-⟩,-,rfl⟩:=h
 have:cur0=cur:=by
  unfold Blk at hb;rw[hb]at hg
  injection hg with hg
  injection hg with hg
  exact hg.symm
 subst this;have hl2:=flat_length hC (L.set i y);have hl1:=flat_length hC L;rw[List.length_set]at hl2;refine⟨⟨by rw[hl2,<- hl1];exact hlen,.inr ⟨g,c,cur',rfl,Nat.zero_le _,hW,hc,hm,by rw[hs];exact hsz,?_⟩⟩,hr.tag⟩
 have hn:n=L.length:=by
  rw[hl1]at hlen;exact(Nat.eq_of_mul_eq_mul_right h0 hlen).symm
 apply List.ext_getElem?;intro k;rw[List.getElem?_take]
 by_cases hk:k<n*C
 ·rw[if_pos hk,Array.getElem?_toList,flat_gd hC h0]
  have hq:k / C<n:=(Nat.div_lt_iff_lt_mul h0).2 hk;have hr0:k%C<C:=Nat.mod_lt _ h0
  have hkd:k=k / C*C+k%C:=by rw[Nat.mul_comm];exact(Nat.div_add_mod k C).symm
  by_cases hki:k / C=i
  ·rw[hki,List.getElem?_set_self hi]
   rw[hki]at hkd
   conv=>lhs;rw[hkd]
   rw[hin _ hr0];rfl
  ·rw[List.getElem?_set_ne (Ne.symm hki),<- flat_gd hC h0,hout k,<- htk,List.getElem?_take,if_pos hk,Array.getElem?_toList]
   rcases Nat.lt_or_gt_of_ne hki with h|h
   ·left
    have:(k / C+1)*C<=i*C:=Nat.mul_le_mul_right _ h;rw[Nat.succ_mul]at this;omega
   ·right
    have:(i+1)*C<=k / C*C:=Nat.mul_le_mul_right _ h;rw[Nat.succ_mul]at this;omega
 ·rw[if_neg hk,eq_comm,List.getElem?_eq_none]
  rw[hl2];rw[hn]at hk;omega
theorem end108 (w:World)(U:Own)(t p pos i:Nat)(r:PReply)(cs:List PCall)(h:LgAt w U t p cs)(hn:cs.length<=1000)(hi:i<cs.length)(hri:r.id=i+1)(hd:cs[i].done=false)(hop:cs[i].op=r.op)(hkey:cs[i].key=r.key) :
 Calls Tryz.prog 108 #[.pointer (some ⟨p,0,none⟩),.agg (encR r).toArray,.int .i64 (pos:Int)] w fun e w'=>e=.returned (.bool true)/\LgAt w' U t p (cs.set i { cs[i] with done:=true,to:=pos,reply:=r })/\Chg (T2 t) w U w' U:=by
 obtain⟨v,hp,hr⟩:=h.ex
 obtain⟨g,c,cur,rfl,hb,hsz,htg,hcells⟩:∃ g c cur,v=.slice (some ⟨g,0,none⟩) cs.length c/\Blk w g 59 cur/\cs.length*13<=cur.size/\U g=t+96/\∀ j,j<13->w.cell? ⟨g,i*13+j,none⟩=(encC cs[i])[j]?:=by
  rcases hr.own.2 with ⟨_,h⟩|⟨g,cap,cur,rfl,-,hg,hc,hm,hsz,htk⟩
  ·omega
  ·refine⟨g,cap,cur,rfl,hg,?_,hr.tag g rfl,fun j hj=>?_⟩
   ·rw[hsz];exact Nat.mul_le_mul_right _ hc
   ·rw[Blk.cell hg,<- flat_get encC_len cs i j hi hj,<- htk,List.getElem?_take,if_pos (by omega),Array.getElem?_toList]
 have hgl:=hb.lt;have hpl:=hp.lt
 have hpg:p≠g:=by intro e;have:=hp.own;rw[e,htg]at this;omega
 have HH:=hid hp;have HR:=hid hr;have HB:=hid hb;have HS:=hid hsz;obtain⟨id,op,key,err,val,has⟩:=r;dsimp only at hri hop hkey;subst hri;generalize hx:cs[i]=x at *;obtain⟨xid,xop,xkey,xnode,xfrm,xto,xdone,xrep⟩:=x;dsimp only at hd hop hkey;subst hd;subst hop;subst hkey;have c1:=hcells 1 (by decide);have c2:=hcells 2 (by decide);have c5:=hcells 5 (by decide);have c6:=hcells 6 (by decide);have c7:=hcells 7 (by decide);have c8:=hcells 8 (by decide);have c9:=hcells 9 (by decide);have c10:=hcells 10 (by decide);have c11:=hcells 11 (by decide);have c12:=hcells 12 (by decide);have HCC:=hid hcells;unfold encC at c1 c2 c5 c6 c7 c8 c9 c10 c11 c12;have f5:=hb.frozen (i*13+5);have f6:=hb.frozen (i*13+6);have f7:=hb.frozen (i*13+7);have f8:=hb.frozen (i*13+8);have f9:=hb.frozen (i*13+9);have f10:=hb.frozen (i*13+10);have f11:=hb.frozen (i*13+11);have f12:=hb.frozen (i*13+12);have cp:=hp.cell 0
 have k1:decide ((i:Int)+1<1)=false:=by rw[decide_eq_false_iff_not];omega
 have k2:¬ ((cs.length:Int)<(i:Int)+1):=by omega
 have k3:(i:Int)<(cs.length:Int):=by omega
 have k4:(i:Int)<=1000:=by omega
 have k5:(0:Int)<=(i:Int):=by omega
 have k6:¬ (cs.length<i+1):=by omega
 have hne1:w.heap.size≠g:=by omega
 have hne2:g≠w.heap.size:=by omega
 have hne3:p≠w.heap.size:=by omega
 clear h hp hr hb hsz hcells;unfold encR;dsimp only;go_enter Tryz.func108,Tryz.ntmps108
 go_wp2_with fail
 go_quiet (fail)
 go_wp2_with fail
 go_quiet (fail)
 go_wp2_with fail
 go_quiet (fail)
 go_wp2_with fail
 generalize hW:World.drewN _ _=W0
 have hB0:Blk W0 g 59 cur:=by rw[<- hW];exact(((HB.out.alloc _).drewN _).drewN _).drewN _
 have hRp:Blk W0 w.heap.size 57 (encR ⟨i+1,xop,xkey,err,val,has⟩).toArray:=by rw[<- hW];exact(((Blk.new _ _ _).drewN _).drewN _).drewN _
 have hC0:Chg (fun _=>False) w U W0 U:=by rw[<- hW];exact((((Chg.refl _ _ _).alloc _).drewN _).drewN _).drewN _
 have HC0:=hid hC0;have HB0:=hid hB0;clear hW c1 c2 c5 c6 c7 c8 c9 c10 c11 c12 cp f5 f6 f7 f8 f9 f10 f11 f12;have cc:∀ j,j<13->W0.cell? ⟨g,i*13+j,none⟩=(encC ⟨xid,xop,xkey,xnode,xfrm,xto,false,xrep⟩)[j]?:=fun j hj=>(World.cell?_of_block (a:=⟨g,i*13+j,none⟩) (hC0.block g hgl id)).trans (HCC.out j hj);have c5:=cc 5 (by decide);have c6:=cc 6 (by decide);have c7:=cc 7 (by decide);have c8:=cc 8 (by decide);have c9:=cc 9 (by decide);have c10:=cc 10 (by decide);have c11:=cc 11 (by decide);have c12:=cc 12 (by decide);unfold encC at c5 c6 c7 c8 c9 c10 c11 c12;have f5:=hB0.frozen (i*13+5);have f6:=hB0.frozen (i*13+6);have f7:=hB0.frozen (i*13+7);have f8:=hB0.frozen (i*13+8);have f9:=hB0.frozen (i*13+9);have f10:=hB0.frozen (i*13+10);have f11:=hB0.frozen (i*13+11);have f12:=hB0.frozen (i*13+12);have HRp:=hid hRp;clear cc hC0 hB0 hRp;refine wp_region_hd [7,10] [0,1,2,3,4,5,6,7,8,9,10] (fun W=>Blk W w.heap.size 57 (encR ⟨i+1,xop,xkey,err,val,has⟩).toArray) (by kernel_rfl) (by kernel_rfl) HRp.out ?_
 iterate 7 (refine hd_take (v:=?_) rfl rfl (by kernel_rfl) (fun W hW=>?_) ?_;rotate_left;(have r0:=hW.cell 0;have r1:=hW.cell 1;have r2:=hW.cell 2;have r3:=hW.cell 3;have r4:=hW.cell 4;have r5:=hW.cell 5;unfold encR at r0 r1 r2 r3 r4 r5;dsimp only at r0 r1 r2 r3 r4 r5;clear hW;first|(go_simp;done)|(go_simp;with_reducible rfl)))
 refine hd_loud rfl rfl fun K hK=>?_;go_simp;refine hK _ _ (HRp.out.far hne1 _) ?_;clear hK
 iterate 2 (refine hd_take (v:=?_) rfl rfl (by kernel_rfl) (fun W hW=>?_) ?_;rotate_left;(clear hW;first|(go_simp;done)|(go_simp;with_reducible rfl)))
 refine hd_loud rfl rfl fun K hK=>?_;go_simp;refine hK _ _ ((HRp.out.far (p:=⟨g,i*13+6,none⟩) hne1 _).far (p:=⟨g,i*13+5,none⟩) hne1 _) (hd_nil ?_);clear hK;simp only[zqa,zqb,zqc,zqd,Nat.zero_add,Nat.reduceAdd]
 go_wp2_with fail
 go_ret
 have hcur:∀ j,j<13->cur[i*13+j]? = (encC ⟨xid,xop,xkey,xnode,xfrm,xto,false,xrep⟩)[j]?:=fun j hj=>by rw[<- HCC.out j hj];exact(HB.out.cell _).symm
 have hWB:=((((((((HB0.out.set_ (i*13+6) (.bool true)).set_ (i*13+5) (.int .i64 (pos:Int))).set_ (i*13+7) (.int .i64 ((i:Int)+1))).set_ (i*13+7+1) (.int .i64 (xop:Int))).set_ (i*13+7+2) (.string xkey)).set_ (i*13+7+3) (.int .i64 (err:Int))).set_ (i*13+7+4) (.string val)).set_ (i*13+7+5) (.bool has)).drew;have hch:=((((((((HC0.out.mono (T':=(· = t+96)) (fun _ h=>h.elim)).setCell (p:=⟨g,i*13+6,none⟩) htg (.bool true)).setCell (p:=⟨g,i*13+5,none⟩) htg (.int .i64 (pos:Int))).setCell (p:=⟨g,i*13+7,none⟩) htg (.int .i64 ((i:Int)+1))).setCell (p:=⟨g,i*13+7+1,none⟩) htg (.int .i64 (xop:Int))).setCell (p:=⟨g,i*13+7+2,none⟩) htg (.string xkey)).setCell (p:=⟨g,i*13+7+3,none⟩) htg (.int .i64 (err:Int))).setCell (p:=⟨g,i*13+7+4,none⟩) htg (.string val)).setCell (p:=⟨g,i*13+7+5,none⟩) htg (.bool has);have hsz:=HS.out
 have hi':i<cs.length:=by omega
 refine⟨rfl,⟨_,HH.out.keep hch.drew (by omega),?_⟩,hch.drew.mono fun x h=>.inr h⟩;rw[List.length_set];refine Rw.upd encC_len (by decide) HR.out HB.out hi' hWB (by simp) (fun k hk=>?_) fun j hj=>?_
 ·simp only[Array.getElem?_setIfInBounds]
  repeat rw[if_neg (by omega)]
 ·have h0:=hcur j hj
  have hsz13:(i+1)*13<=cs.length*13:=Nat.mul_le_mul_right _ hi';simp only[Array.getElem?_setIfInBounds,Array.size_setIfInBounds]
  obtain _|_|_|_|_|_|_|_|_|_|_|_|_|j:=j
  all_goals first|(exfalso;omega)|skip
  all_goals
   repeat (first|rw[if_pos (by omega)]|rw[if_neg (by omega)])
   first|rfl|exact h0
end Go.Proofs.Ytlhekbjidppijaa
