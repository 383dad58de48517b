/- Contracts of what TopFall reaches: what each function returns and leaves in memory. Conditions: as named. -/
import Derived.Test.YtlhekbjidppijaaGreatMAM
import Derived.Test.YtlhekbjidppijaaGreatMAQ
import Derived.Test.YtlhekbjidppijaaGreatMAU
set_option linter.unusedVariables false
set_option linter.unusedSimpArgs false
set_option maxRecDepth 20000
set_option maxHeartbeats 8000000
namespace Go.Proofs.Ytlhekbjidppijaa
open Lib (hid)
open Go.RowKit
section
variable {P : Program} {α : Type} {f : α -> List Value} {C : Nat}
theorem Rw.load (hC:∀ x,(f x).length=C)(hC0:0<C){w:World}{U:Own}{t e n g c i:Nat}{L:List α}(h:Rw w U t e C (.slice (some ⟨g,0,none⟩) n c) n (L.flatMap f))(hi:i<L.length)
 (ha:(isAgg e).run P w=.ok true w)(hs:(sizeOf e).run P w=.ok C w) :
 (Instr.loadAt e (.pointer (some ⟨g,i*C,none⟩))).run P w=.ok (.agg (f L[i]).toArray) w:=by
 obtain⟨A,c',e1,-,-,-,hsl,-,-⟩:=h.slice
 injection e1 with e1 _ _
 subst e1;obtain⟨b,off,e2,hc⟩:=Sl.flat hC hC0 hsl i hi
 injection e2 with e2
 injection e2 with e2 e3 _
 subst e2;subst e3
 exact run_loadAgg w e g (i*C) (f L[i]) C ha hs (hC _) fun j v hj=>by have:=hc j v hj;rwa [Nat.zero_add]at this
theorem flat_take (hC:∀ x,(f x).length=C):∀ (L:List α) (i:Nat),(L.flatMap f).take (i*C)=(L.take i).flatMap f
 | [],i=>by simp
 | x :: L,0=>by simp
 | x :: L,i+1=>by
  rw[List.flatMap_cons,List.take_append,hC,List.take_of_length_le (by rw[hC,Nat.succ_mul];omega),Nat.succ_mul,Nat.add_sub_cancel,flat_take hC L i,List.take_succ_cons,List.flatMap_cons]
theorem flat_drop (hC:∀ x,(f x).length=C):∀ (L:List α) (i:Nat),(L.flatMap f).drop (i*C)=(L.drop i).flatMap f
 | [],i=>by simp
 | x :: L,0=>by simp
 | x :: L,i+1=>by
  rw[List.flatMap_cons,List.drop_append,hC,List.drop_eq_nil_of_le (by rw[hC,Nat.succ_mul];omega),Nat.succ_mul,Nat.add_sub_cancel,flat_drop hC L i,List.drop_succ_cons,List.nil_append]
end
abbrev MV:=PMsg × Value
def encM (x:MV):List Value:=msgV x.1 x.2
theorem encM_len (x:MV):(encM x).length=21:=rfl
structure Msgs (w:World)(U:Own)(t:Nat)(v:Value)(ms:List PMsg):Prop where
 ex:∃ L:List MV,L.map (·.1)=ms/\Rw w U t 182 21 v ms.length (L.flatMap encM)/\∀ x∈L,Rw w U (t+96) 3 1 x.2 x.1.members.length (nnums x.1.members)
theorem Msgs.keep {T:Nat->Prop}{w w':World}{U U':Own}{t:Nat}{v:Value}{ms:List PMsg}(h:Msgs w U t v ms)(hc:Chg T w U w' U')(h1:¬ T t)(h2:¬ T (t+96)):Msgs w' U' t v ms:=by
 obtain⟨L,hL,hr,hm⟩:=h.ex;exact⟨L,hL,hr.keep hc h1,fun x hx=>(hm x hx).keep hc h2⟩
theorem Msgs.nil (w:World)(U:Own)(t:Nat):Msgs w U t (.slice none 0 0) []:=⟨[],rfl,Rw.nil _ _ _ _ _,fun x hx=>by cases hx⟩
theorem encM_one (x:MV)(h:x.2.oneCell'=true):∀ u∈encM x,u.oneCell'=true:=by
 intro u hu;simp only[encM,msgV,List.mem_cons,List.not_mem_nil,or_false]at hu
 rcases hu with rfl|rfl|rfl|rfl|rfl|rfl|rfl|rfl|rfl|rfl|rfl|rfl|rfl|rfl|rfl|rfl|rfl|rfl|rfl|rfl|rfl <;> first|rfl|exact h
abbrev T3 (t:Nat):Nat->Prop:=fun x=>x=t\/x=t+96\/x=t+192
structure NetAt (w:World)(U:Own)(t p:Nat)(ms:List PMsg):Prop where
 ex:∃ v,Has w U t p 128 #[v]/\Msgs w U (t+96) v ms
theorem NetAt.keep {T:Nat->Prop}{w w':World}{U U':Own}{t p:Nat}{ms:List PMsg}(h:NetAt w U t p ms)(hc:Chg T w U w' U')(h1:¬ T t)(h2:¬ T (t+96))(h3:¬ T (t+192)):NetAt w' U' t p ms:=by
 obtain⟨v,h,hm⟩:=h.ex;exact⟨v,h.keep hc h1,hm.keep hc h2 h3⟩
theorem new74 (w:World)(U:Own)(t:Nat):Calls Tryz.prog 74 #[] w fun e w'=>e=.returned (.pointer (some ⟨w.heap.size,0,none⟩))/\NetAt w' (ext U w t) t w.heap.size []/\Below w.heap.size w w':=by
 go_enter Tryz.func74,Tryz.ntmps74
 go_wp2
 go_ret;exact⟨rfl,⟨_,⟨Blk.new _ _ _,ext_new (Nat.le_refl _)⟩,Msgs.nil _ _ _⟩,(Below.refl _ w).alloc (Nat.le_refl _) _⟩
theorem len36 (w:World)(U:Own)(t p:Nat)(ms:List PMsg)(h:NetAt w U t p ms):Calls Tryz.prog 36 #[.pointer (some ⟨p,0,none⟩)] w fun e w'=>e=.returned (.int .i64 (ms.length:Int))/\w'=w:=by
 obtain⟨v,h,hm⟩:=h.ex;obtain⟨L,hL,hr,hm⟩:=hm.ex;obtain⟨A,c,rfl,-⟩:=hr.slice;have c0:=h.cell 0;clear h hr hm;go_enter Tryz.func36,Tryz.ntmps36
 go_wp2
 go_ret;exact⟨rfl,rfl⟩
theorem drop85 (w:World)(U:Own)(t p:Nat)(ms:List PMsg)(h:NetAt w U t p ms)(i:Nat)(hi:i<ms.length)(hn:ms.length<=1000) :
 Calls Tryz.prog 85 #[.pointer (some ⟨p,0,none⟩),.int .i64 (i:Int)] w fun e w'=>e=.returned (.bool true)/\NetAt w' U t p (ms.take i++ms.drop (i+1))/\Chg (T3 t) w U w' U:=by
 have HN:=hid (len36 w U t p ms h);obtain⟨v,h,hm⟩:=h.ex;obtain⟨L,hL,hr,hm⟩:=hm.ex
 have hlen:L.length=ms.length:=by rw[<- hL];simp
 have HD:=hid (del114 w U (t+96) v ms.length i (L.flatMap encM) hr hi (by omega) fun u hu=>by
  obtain⟨x,hx,hu⟩:=List.mem_flatMap.1 hu
  exact encM_one x (ownsRow_one (hm x hx).own) u hu)
 have HH:=hid h;have HM:=hid hm;have HL:=hid hL;have c0:=h.cell 0
 have k1:¬ ((i:Int)<0):=by omega
 have k2:¬ ((ms.length:Int)<=(i:Int)):=by omega
 have k3:(i:Int)<=1000:=by omega
 obtain⟨A,c,rfl,-⟩:=hr.slice;clear h hr hm hL;go_enter Tryz.func85,Tryz.ntmps85
 go_wp2_with (go_at_call 36;refine HN.out.mono ?_;rintro e w' ⟨rfl,hw⟩;obtain rfl:=hw.symm)
 refine HD.out.mono ?_;rintro e w2 ⟨v2,rfl,hr2,hc2⟩;obtain⟨A2,c2,rfl,-⟩:=hr2.slice;have hh:=HH.out.keep hc2 (by omega);have d0:=hh.cell 0;have f0:=hh.frozen 0
 have HF:Hid (∀ W,W=w2.setCell ⟨p,0,none⟩ (.slice A2 (ms.length-1) c2)->NetAt W U t p (ms.take i++ms.drop (i+1))/\Chg (T3 t) w U W U):=hid fun W hW=>by
  have hc3:Chg (· = t) w2 U W U:=by rw[hW];exact(Chg.refl _ _ _).setCell (p:=⟨p,0,none⟩) hh.own _
  have hcc:=hc2.mono (T':=T3 t) (fun x h=>.inr (.inl h));refine⟨⟨_,by rw[hW];exact hh.set_ 0 _,L.take i++L.drop (i+1),by rw[<- HL.out];simp[List.map_take,List.map_drop],?_,fun x hx=>?_⟩,hcc.trans (hc3.mono fun x h=>.inl h)⟩
  ·have:=hr2.keep hc3 (by omega)
   rw[flat_take encM_len,flat_drop encM_len,<- List.flatMap_append]at this
   rwa [show(ms.take i++ms.drop (i+1)).length=ms.length-1 by simp;omega]
  ·have hx':x∈L:=by
    rcases List.mem_append.1 hx with h|h
    ·exact List.mem_of_mem_take h
    ·exact List.mem_of_mem_drop h
   exact((HM.out x hx').keep hc2 (by omega)).keep hc3 (by omega)
 clear hh hr2 hc2 c0
 go_wp2
 go_ret;exact⟨rfl,HF.out _ rfl⟩
theorem Msgs.rows {w:World}{U:Own}{t:Nat}{v:Value}{ms:List PMsg}(h:Msgs w U t v ms)(i:Nat)(hi:i<ms.length) :
 ∃ g c vm,v=.slice (some ⟨g,0,none⟩) ms.length c/\U g=t/\g<w.heap.size/\Rw w U (t+96) 3 1 vm ms[i].members.length (nnums ms[i].members) /\
  (Instr.loadAt 182 (.pointer (some ⟨g,i*21,none⟩))).run Tryz.prog w=.ok (.agg (msgV ms[i] vm).toArray) w:=by
 obtain⟨L,rfl,hr,hm⟩:=h.ex
 have hl:i<L.length:=by simpa using hi
 obtain⟨A,c,rfl,-,-,-,-,hA,ha⟩:=hr.slice
 cases A with
 | none=>have:=(hA rfl).1;rw[this]at hi;omega
 | some a=>
  obtain⟨e1,e2,e3,e4⟩:=ha a rfl;obtain⟨g,o,sp⟩:=a;dsimp only at e1 e2 e3 e4;subst e1;subst e2;have hload:=Rw.load (P:=Tryz.prog) encM_len (by decide) hr hl (by kernel_rfl) (by kernel_rfl)
  have e:(L.map (·.1))[i]=L[i].1:=by simp
  refine⟨g,c,L[i].2,rfl,e4,e3,?_,?_⟩
  ·rw[e];exact hm _ (List.getElem_mem hl)
  ·rw[e];exact hload
theorem Rw.nms {w:World}{U:Own}{t:Nat}{v:Value}{ns:List Nat}(h:Rw w U t 3 1 v ns.length (nnums ns)):Nms w v ns:=by
 obtain⟨A,c,rfl,-,-,-,hs,hA,ha⟩:=h.slice;exact⟨A,c,rfl,hs,fun h=>(hA h).1,fun a h=>(ha a h).2.2.1⟩
theorem look84 (w:World)(U:Own)(t p:Nat)(ms:List PMsg)(h:NetAt w U t p ms)(i:Nat)(hi:i<ms.length)(hn:ms.length<=1000)(h5:ms[i].members.length<=5) :
 Calls Tryz.prog 84 #[.pointer (some ⟨p,0,none⟩),.int .i64 (i:Int)] w fun e w'=>∃ vm,e=.returned (.tuple #[.agg (msgV ms[i] vm).toArray,.bool true])/\w'.ownsRow w.heap.size 3 1 vm ms[i].members.length (nnums ms[i].members)/\Below w.heap.size w w':=by
 obtain⟨W1,hW1⟩:∃ W,W=w.alloc (.cells (zero182.toArray) 182):=⟨_,rfl⟩
 have hc1:Chg (fun _=>False) w U W1 U:=by rw[hW1];exact(Chg.refl _ _ _).alloc _
 have h1:=h.keep hc1 id id id;have HN:=hid (len36 W1 U t p ms h1);obtain⟨v,hp,hm⟩:=h1.ex;obtain⟨g,c,vm,rfl,-,-,hrow,hload⟩:=hm.rows i hi;have HO:=hid (own105 W1 ms[i] vm h5 hrow.nms);have HLd:=hid hload
 have hz:Blk W1 w.heap.size 182 zero182.toArray:=by rw[hW1];exact Blk.new _ _ _
 have HZ:=hid hz;have HW1:=hid hW1;have c0:=hp.cell 0
 have k1:¬ ((i:Int)<0):=by omega
 have k2:¬ ((ms.length:Int)<=(i:Int)):=by omega
 have k3:(i:Int)<=1000:=by omega
 have k4:(i:Int)<(ms.length:Int):=by omega
 have k5:(0:Int)<=(i:Int):=by omega
 clear h h1 hp hm hrow hload hz hW1 hc1;generalize hmm:ms[i]=m at *;clear hmm;unfold zero182 at HW1;go_enter Tryz.func84,Tryz.ntmps84
 have k6:¬ (ms.length<=i):=by omega
 go_wp2_with (first|(rw[<- HW1.out];go_at_call 36;refine HN.out.mono ?_;rintro e w' ⟨rfl,hw⟩;obtain rfl:=hw.symm)|(refine wpl_load 182 _ rfl (by kernel_rfl) _ _ rfl HLd.out ?_))
 refine HO.out.mono ?_;rintro e w2 ⟨v2,rfl,hr2,hb2⟩;obtain⟨W3,hrun,hW3,hk,hsz,h1,h2,h3⟩:=store_msg (m:=m) (vm:=v2) ((hb2.block _ HZ.out.lt).trans HZ.out) rfl (ownsRow_one hr2);have HR:=hid hrun;have HB:=hid hW3
 have HF:Hid (W3.ownsRow w.heap.size 3 1 v2 m.members.length (nnums m.members)/\Below w.heap.size w W3):=hid (by
  have hlt:=HZ.out.lt
  have hb0:Below w.heap.size w W1:=by rw[HW1.out];exact(Below.refl _ w).alloc (Nat.le_refl _) _
  have hb3:Below w.heap.size w2 W3:=⟨h1,h2,h3,by omega,fun k hk'=>hk k (by omega)⟩;refine⟨?_,(hb0.trans (hb2.mono hb0.size)).trans hb3⟩;have:=ownsRow_eq (W:=W3) hr2 fun g hg hv=>hk g (by omega);refine⟨this.1,?_⟩
  rcases this.2 with hn|⟨g,cap,cur,e,hb,rest⟩
  ·exact .inl hn
  ·exact .inr ⟨g,cap,cur,e,by omega,rest⟩)
 clear hrun hW3 hr2 hb2 hk hsz h1 h2 h3
 go_wp2_with (refine wpl_store 182 _ _ rfl rfl (by kernel_rfl) _ _ rfl rfl W3 HR.out ?_)
 refine bodyPost_ret (results_cell2 rfl _ _ _ ⟨w.heap.size,0,none⟩ _ rfl (loadVar_msg HB.out)) rfl ?_;exact⟨_,rfl,HF.out⟩
theorem info182c:(Tryz.prog.info? 182).map (fun i=>(i.zero.map Value.cells,i.size,i.bytes))=some (some zero182.toArray,21,256):=by kernel_rfl
theorem hd_load {P:Program}{ops:Array Oper}{S:World->Prop}{lo:List Nat}{R:Act->World->Prop}{k:Nat}{o:Oper}{l:List Nat}{a:Act}{w:World}(t:TypeId)(x:Operand)(ho:ops[k]? = some o)(hk:lo.contains k=false)
 (hw:Region.wanted o (yielded ops a.tmps)=true)(hop:o.op=.load t x)(p v:Value)(hx:a.eval x=p)(hS:∀ W,S W->(Instr.loadAt t p).run P W=.ok v W)
 (h:wpHd P ops S lo R l (a.put o.dst v) w):wpHd P ops S lo R (k :: l) a w:=
 hd_take ho hk hw (fun W hW=>by simp[execOp,hop,hx,hS W hW,Result.andThen]) h
theorem build_msg (m:PMsg)(v:Value):List.foldl (fun(cs:Array Value) (x:Value × Nat)=>cs.setIfInBounds x.snd x.fst) zero182.toArray (msgV m v).zipIdx=(msgV m v).toArray:=by kernel_rfl
def SendS (p B:Nat)(v:Value)(m:PMsg)(vm:Value)(W:World):Prop:=W.cell? ⟨p,0,none⟩=some v/\Blk W B 182 (msgV m vm).toArray
theorem send80 (w:World)(U:Own)(t s p:Nat)(v:Value)(ms ns:List PMsg)(h:NetAt w U t p ms)(hm:Msgs w U s v ns)(hok:∀ m∈ns,MOk m)(hl:ms.length+ns.length<300)
 (hs1:¬ T3 t s)(hs2:¬ T3 t (s+96)) :
 Calls Tryz.prog 80 #[.pointer (some ⟨p,0,none⟩),v] w fun e w'=>(∃ r,e=.returned r)/\∃ U',NetAt w' U' t p (ms++ns)/\Chg (T3 t) w U w' U':=by
 obtain⟨n,hn⟩:∃ n,n=ns.length:=⟨_,rfl⟩
 obtain⟨A,c,rfl⟩:∃ A c,v=.slice A n c:=by
  obtain⟨L,-,hr,-⟩:=hm.ex;obtain⟨A,c,rfl,-⟩:=hr.slice;exact⟨A,c,by rw[hn]⟩
 have HM:=hid hm;have HOK:=hid hok;obtain⟨v0,hp,hm0⟩:=h.ex
 obtain⟨A0,c0,rfl⟩:∃ A0 c0,v0=.slice A0 ms.length c0:=by
  obtain⟨L,-,hr,-⟩:=hm0.ex;obtain⟨A,c,rfl,-⟩:=hr.slice;exact⟨A,c,rfl⟩
 have cp:=hp.cell 0;have H:=hid h;have HNN:=hid hn;clear h hm hok hp hm0 hn;go_enter Tryz.func80,Tryz.ntmps80
 go_wp2_with fail
 go_loopw [17] (fun i wr=>∃ (k:Nat) (Ur:Own),k<=n/\i=.int .i64 (k:Int)/\NetAt wr Ur t p (ms++ns.take k)/\Chg (T3 t) w U wr Ur) (fun i _=>n-(intOf i).toNat)
 case atStart=>exact⟨0,U,Nat.zero_le _,rfl,by simpa using H.out,Chg.refl _ _ _⟩
 case round=>
  obtain⟨k,Ur,hk,rfl,hnet,hch⟩:=hrel
  by_cases hlt:k<n
  ·have hkn:k<ns.length:=by rw[<- HNN.out];exact hlt
   obtain⟨g,cg,vm,hv,-,-,hvm,hload⟩:=(HM.out.keep hch hs1 hs2).rows k hkn;rw[<- HNN.out]at hv
   injection hv with hA _ hc
   subst hA;subst hc;have hmo:=HOK.out _ (List.getElem_mem hkn);have HT:Hid (ns.take (k+1)=ns.take k++[ns[k]]):=hid (List.take_succ_eq_append_getElem hkn);generalize ns[k]=m at *;have HLd:=hid hload;have HN:=hid hnet;have HC:=hid hch;have HV:=hid hvm;have HMO:=hid hmo
   have k1:(k:Int)<(n:Int):=by omega
   have k2:(0:Int)<=(k:Int):=by omega
   clear hnet hch hvm hmo hload cp;obtain⟨W2,hrun,hW2,hk2,hsz,q1,q2,q3⟩:=store_msg (m:=m) (vm:=vm) (Blk.new wr 182 zero182.toArray) rfl (ownsRow_one HV.out.own);have hb2:Below wr.heap.size wr W2:=((Below.refl _ wr).alloc (Nat.le_refl _) _).trans ⟨q1,q2,q3,by omega,fun j hj=>hk2 j (by omega)⟩;have HR:=hid hrun;have HB2:=hid hW2;have HBl:=hid hb2;clear hrun hW2 hk2 hsz q1 q2 q3 hb2;unfold zero182 at HR
   go_wp2_with (first|(refine wpl_load 182 _ rfl (by kernel_rfl) _ _ rfl HLd.out ?_)|(refine wpl_store 182 _ _ rfl rfl (by kernel_rfl) _ _ rfl rfl W2 HR.out ?_)|(refine wpl_load 182 _ rfl (by kernel_rfl) _ _ rfl (load_msg HB2.out) ?_))
   refine(may104 W2 m vm HMO.out (HV.out.nms.keep HBl.out)).mono ?_;rintro e W3 ⟨rfl,hb3⟩;have hbl3:=HBl.out.trans (hb3.mono HBl.out.size);have hc3:Chg (fun _=>False) wr Ur W3 (ext Ur wr t):=Chg.of_below hbl3 t;have hB3:Blk W3 wr.heap.size 182 (msgV m vm).toArray:=(hb3.block _ HB2.out.lt).trans HB2.out;obtain⟨v1,hp1,hm1⟩:=(HN.out.keep hc3 id id id).ex;obtain⟨L1,hL1,hr1,hmm1⟩:=hm1.ex;obtain⟨A1,c1,rfl,-⟩:=hr1.slice
   have hz:(ms++ns.take k).length=ms.length+k:=by rw[List.length_append,List.length_take];have:=HNN.out;omega
   rw[hz]at hp1 hr1;have cp:=hp1.cell 0
   have k3:((ms.length:Int)+(k:Int))<300:=by have:=HNN.out;omega
   have k4:(((ms.length+k:Nat):Int))<300:=by have:=HNN.out;omega
   have HB3:=hid hB3;have HC3:=hid hc3;have HP1:=hid hp1;have HR1:=hid hr1;have HM1:=hid hmm1;have HL1:=hid hL1;have HV3:=hid (HV.out.keep (hc3) id);clear hbl3 hb3 hc3 hB3 hp1 hm1 hr1 hmm1 hL1 HR
   go_wp2_with fail
   refine wp_region_hd [6,7,8] [0,1,2,3,4,5,6,7,8] (SendS p wr.heap.size (.slice A1 (ms.length+k) c1) m vm) (by kernel_rfl) (by kernel_rfl) ⟨cp,HB3.out⟩ ?_
   iterate 5 (refine hd_take (v:=?_) rfl rfl (by kernel_rfl) (fun W hW=>?_) ?_;rotate_left;(obtain⟨c16,-⟩:=hW;first|(go_simp;done)|(go_simp;with_reducible rfl)))
   refine hd_load 182 _ rfl rfl (by kernel_rfl) rfl _ _ rfl (fun W hW=>load_msg hW.2) ?_;refine hd_loud rfl rfl fun K hK=>?_;go_simp
   have h5:m.members.length<=5:=by
    rcases HMO.out.mem with h|h
    ·rw[h];decide
    ·exact h.le
   refine(own105 W3.drew m vm h5 HV3.out.nms).mono ?_;rintro e W4 ⟨v4,rfl,hr4,hb4⟩;have hc4:Chg (fun _=>False) wr Ur W4 (ext (ext Ur wr t) W3 (t+192)):=(HC3.out.drew).trans (Chg.of_below hb4 (t+192));have hv4:Rw W4 (ext (ext Ur wr t) W3 (t+192)) (t+192) 3 1 v4 m.members.length (nnums m.members):=Rw.of_new (w0:=W3) hr4 (Nat.le_refl _) _ _;have HV4:=hid hv4;have HC4:=hid hc4;have h34:Chg (fun _=>False) W3 (ext Ur wr t) W4 (ext (ext Ur wr t) W3 (t+192)):=(Chg.refl _ _ _).drew.trans (Chg.of_below hb4 (t+192));have H34:=hid h34;have S4:Hid (SendS p wr.heap.size (.slice A1 (ms.length+k) c1) m vm W4):=hid ⟨(HP1.out.keep h34 id).cell 0,(hb4.block _ HB3.out.lt).trans HB3.out⟩;clear hr4 hb4 hc4 hv4 h34;refine hK _ _ S4.out ?_;clear hK;refine hd_loud rfl rfl fun K hK=>?_;have hlm:(msgV m v4).length=21:=rfl;go_simp;generalize hcs:List.foldl _ _ _=cs
   obtain rfl:cs=(msgV m v4).toArray:=by rw[<- hcs];exact build_msg m v4
   clear hcs;have S5:Hid (SendS p wr.heap.size (.slice A1 (ms.length+k) c1) m vm (W4.alloc (.cells (msgV m v4).toArray 182))):=hid ⟨((HP1.out.keep H34.out id).alloc _).cell 0,S4.out.2.alloc _⟩;refine hK _ _ S5.out ?_;clear hK;refine hd_loud rfl rfl fun K hK=>?_;obtain⟨i0,z0,hi,hz,hc,hs0,hb⟩:=info_cells info182c;refine step_append_row2 _ rfl _ _ 99 rfl (ext (ext Ur wr t) W3 (t+192)) (t+96) 182 i0 z0 21 256 (by kernel_rfl) hi hz hs0 hb (by rw[hc];rfl) (by decide) _ (ms.length+k) _ rfl ((HR1.out.keep H34.out id).alloc _) _ 1 1 (msgV m v4) rfl rfl (by decide) (Blk.new _ _ _).sl (encM_one (m,v4) (ownsRow_one HV4.out.own)) (by have:=HNN.out;omega) (by decide) ?_;intro g2 cap2 W6 hr6 hc6 hg6;generalize hU:ext (ext (ext Ur wr t) W3 (t+192)) _ (t+96)=U6 at hr6 hc6;clear hU hi hz hc hs0 hb;have h36:Chg (· = t+96) W3 (ext Ur wr t) W6 U6:=((H34.out.alloc _).mono (fun _ h=>h.elim)).trans hc6;have hp6:=HP1.out.keep h36 (by omega);have hB6:Has W6 U6 t wr.heap.size 182 (msgV m vm).toArray:=Has.keep ⟨HB3.out,ext_new (Nat.le_refl _)⟩ h36 (by omega);have f0:=hp6.frozen 0;have d0:=hp6.cell 0;have S6:Hid (SendS p wr.heap.size (.slice A1 (ms.length+k) c1) m vm W6):=hid ⟨d0,hB6.blk⟩
   have HF:Hid (∀ W,W=W6.setCell ⟨p,0,none⟩ (.slice (some ⟨g2,0,none⟩) (ms.length+k+1) cap2)->NetAt W U6 t p (ms++ns.take (k+1))/\Chg (T3 t) w U W U6):=hid fun W hW=>by
    have hc7:Chg (· = t) W6 U6 W U6:=by rw[hW];exact(Chg.refl _ _ _).setCell (p:=⟨p,0,none⟩) hp6.own _
    have e1:ms++ns.take (k+1)=(L1++[(m,v4)]).map (·.1):=by rw[HT.out,List.map_append,HL1.out,<- List.append_assoc];rfl
    refine⟨⟨_,by rw[hW];exact hp6.set_ 0 _,L1++[(m,v4)],e1.symm,?_,?_⟩,((HC.out.trans ((HC3.out.mono (fun _ h=>h.elim)))).trans (h36.mono fun x h=>.inr (.inl h))).trans (hc7.mono fun x h=>.inl h)⟩
    ·rw[List.flatMap_append,show(ms++ns.take (k+1)).length=ms.length+k+1 by rw[List.length_append,List.length_take];have:=HNN.out;omega]
     have:=hr6.keep hc7 (by omega)
     simpa [encM] using this
    ·intro x hx
     have hk6:¬ (t+96+96=t+96):=by omega
     rcases List.mem_append.1 hx with h|h
     ·exact((HM1.out x h).keep h36 hk6).keep hc7 (by omega)
     ·obtain rfl:=List.mem_singleton.1 h
      exact((HV4.out.alloc _).keep hc6 hk6).keep hc7 (by omega)
   clear hr6 hc6 hg6 h36 hp6 hB6;refine hK _ _ S6.out (hd_nil ?_);clear hK;simp only[zqa,zqb,zqc,zqd,Nat.zero_add,Nat.reduceAdd]
   go_wp2_with fail
   go_roundw
   case rel=>exact⟨k+1,U6,by omega,by go_num,HF.out _ rfl⟩
   case measure=>simp[intOf];omega
  ·obtain rfl:k=n:=by omega
   obtain⟨v1,hp1,hm1⟩:=hnet.ex
   obtain⟨A1,c1,rfl⟩:∃ A1 c1,v1=.slice A1 (ms++ns.take k).length c1:=by
    obtain⟨L,-,hr,-⟩:=hm1.ex;obtain⟨A,c,rfl,-⟩:=hr.slice;exact⟨A,c,rfl⟩
   have cp1:=hp1.cell 0;have HF:Hid (NetAt wr Ur t p (ms++ns)/\Chg (T3 t) w U wr Ur):=hid ⟨by rw[List.take_of_length_le (by have:=HNN.out;omega)]at hnet;exact hnet,hch⟩;clear hnet hch hp1 hm1
   go_wp2
   go_ret;exact⟨⟨_,rfl⟩,Ur,HF.out⟩
structure PReply where
 id:Nat
 op:Nat
 key:ByteArray
 err:Nat
 val:ByteArray
 has:Bool
structure PCall where
 id:Nat
 op:Nat
 key:ByteArray
 node:Nat
 frm:Nat
 to:Nat
 done:Bool
 reply:PReply
def encR (r:PReply):List Value:=[.int .i64 (r.id:Int),.int .i64 (r.op:Int),.string r.key,.int .i64 (r.err:Int),.string r.val,.bool r.has]
def encC (c:PCall):List Value:=[.int .i64 (c.id:Int),.int .i64 (c.op:Int),.string c.key,.int .i64 (c.node:Int),.int .i64 (c.frm:Int),.int .i64 (c.to:Int),.bool c.done,
 .int .i64 (c.reply.id:Int),.int .i64 (c.reply.op:Int),.string c.reply.key,.int .i64 (c.reply.err:Int),.string c.reply.val,.bool c.reply.has]
theorem encC_len (c:PCall):(encC c).length=13:=rfl
theorem encC_one (c:PCall):∀ u∈encC c,u.oneCell'=true:=by
 intro u hu;simp only[encC,List.mem_cons,List.not_mem_nil,or_false]at hu
 rcases hu with rfl|rfl|rfl|rfl|rfl|rfl|rfl|rfl|rfl|rfl|rfl|rfl|rfl <;> rfl
theorem flat_one {α:Type}{f:α->List Value}(h:∀ x,∀ u∈f x,u.oneCell'=true)(L:List α):∀ u∈L.flatMap f,u.oneCell'=true:=by
 intro u hu;obtain⟨x,_,hu⟩:=List.mem_flatMap.1 hu;exact h x u hu
abbrev T2 (t:Nat):Nat->Prop:=fun x=>x=t\/x=t+96
structure LgAt (w:World)(U:Own)(t p:Nat)(cs:List PCall):Prop where
 ex:∃ v,Has w U t p 111 #[v]/\Rw w U (t+96) 59 13 v cs.length (cs.flatMap encC)
theorem LgAt.keep {T:Nat->Prop}{w w':World}{U U':Own}{t p:Nat}{cs:List PCall}(h:LgAt w U t p cs)(hc:Chg T w U w' U')(h1:¬ T t)(h2:¬ T (t+96)):LgAt w' U' t p cs:=by
 obtain⟨v,h,hm⟩:=h.ex;exact⟨v,h.keep hc h1,hm.keep hc h2⟩
theorem info59:(Tryz.prog.info? 59).map (fun i=>(i.zero.map Value.cells,i.size,i.bytes))=some (some #[.int .i64 0,.int .i64 0,.string ⟨#[]⟩,.int .i64 0,.int .i64 0,.int .i64 0,.bool false,.int .i64 0,.int .i64 0,.string ⟨#[]⟩,.int .i64 0,.string ⟨#[]⟩,.bool false],13,128):=by kernel_rfl
theorem new76 (w:World)(U:Own)(t:Nat):Calls Tryz.prog 76 #[] w fun e w'=>e=.returned (.pointer (some ⟨w.heap.size,0,none⟩))/\LgAt w' (ext U w t) t w.heap.size []/\Below w.heap.size w w':=by
 go_enter Tryz.func76,Tryz.ntmps76
 go_wp2
 go_ret;exact⟨rfl,⟨_,⟨Blk.new _ _ _,ext_new (Nat.le_refl _)⟩,Rw.nil _ _ _ _ _⟩,(Below.refl _ w).alloc (Nat.le_refl _) _⟩
theorem clone43 (w:World)(A:Option Addr)(n c:Nat)(news:List Value)(hm:news.length=n*13)(hs:Sl w A news)(h1:∀ u∈news,u.oneCell'=true)(hA:A=none->n=0)(hn:n<=1073741824) :
 Calls Tryz.prog 43 #[.slice A n c] w fun e w'=>∃ v,e=.returned v/\w'.ownsRow w.heap.size 59 13 v n news/\Below w.heap.size w w':=by
 obtain⟨i0,z0,hi,hz,hc,hs0,hb⟩:=info_cells info59;have HI:=hid (And.intro hi (And.intro hz (And.intro hc (And.intro hs0 hb))));clear hi hz hc hs0 hb;have HS:=hid hs;have H1:=hid h1;have HM:=hid hm;clear hs h1 hm;have he:∀ (w:World) (a:Option Addr) (n c n' c':Nat),(binOp .eql 51 (.slice a n c) (.slice none n' c')).run Tryz.prog w=.ok (.bool a.isNone) w:=fun w a n c n' c'=>Lib.run_eql_slice_nil w _ 59 a n c n' c' (by kernel_rfl)
 cases A with
 | none=>
  obtain rfl:=hA rfl;go_enter Tryz.func43,Tryz.ntmps43
  go_wp2
  go_ret;have:news=[]:=List.eq_nil_of_length_eq_zero (by simpa using HM.out);subst this;exact⟨_,rfl,World.ownsRow_nil _ _ _ _,Below.refl _ _⟩
 | some a=>
  have hbs:∀ W:World,(Instr.buildSlice 51 0 #[]).run Tryz.prog W=.ok (.slice (some ⟨W.heap.size,0,none⟩) 0 0) (W.alloc (.cells #[] 59)):=fun W=>by kernel_rfl
  go_enter Tryz.func43,Tryz.ntmps43
  go_wp2_with (at_builtin;refine wpList_append_slN _ rfl _ _ 51 rfl w.heap.size 59 i0 z0 13 128 (by kernel_rfl) HI.out.1 HI.out.2.1 HI.out.2.2.2.1 HI.out.2.2.2.2 (by rw[HI.out.2.2.1];rfl) (by decide) _ 0 [] rfl (World.ownsRow_made w #[] 0 (Nat.le_refl _) (Nat.zero_le _) rfl) (some a) n c news rfl HM.out ?qc2 H1.out ?qc4 ?qc5 ?qc6 ?_)
  case qc2=>exact HS.out.keep ((Below.refl _ _).alloc (Nat.le_refl _) _)
  case qc4=>unfold maxLen;omega
  case qc5=>omega
  case qc6=>simp
  intro v' w1 hown hg;have HB:Hid (Below w.heap.size w w1):=hid (((Below.refl _ w).alloc (Nat.le_refl _) _).grown hg (by simp) (by intro k hk;simp[Value.ownBlock]at hk;omega));have HO:Hid (w1.ownsRow w.heap.size 59 13 v' n news):=hid (by simpa using hown);clear hown hg
  go_wp2
  go_ret;exact⟨v',rfl,HO.out,HB.out⟩
theorem all28 (w:World)(U:Own)(t p:Nat)(cs:List PCall)(h:LgAt w U t p cs)(hn:cs.length<=1000) :
 Calls Tryz.prog 28 #[.pointer (some ⟨p,0,none⟩)] w fun e w'=>∃ v,e=.returned v/\w'.ownsRow w.heap.size 59 13 v cs.length (cs.flatMap encC)/\Below w.heap.size w w':=by
 obtain⟨v,hp,hr⟩:=h.ex;obtain⟨A,c,rfl,-,-,hlen,hs,hA,-⟩:=hr.slice;have c0:=hp.cell 0;have HC:=hid (clone43 w A cs.length c _ hlen hs (flat_one encC_one cs) (fun h=>(hA h).1) (by omega));clear h hp hr hs hlen hA;go_enter Tryz.func28,Tryz.ntmps28
 go_wp2_with (go_at_call 43;refine HC.out.mono ?_;rintro e w1 ⟨v1,rfl,h1,h2⟩)
 go_ret;exact⟨_,rfl,h1,h2⟩
theorem begin90 (w:World)(U:Own)(t p op node pos:Nat)(key:ByteArray)(cs:List PCall)(h:LgAt w U t p cs)(hn:cs.length<=1000) :
 Calls Tryz.prog 90 #[.pointer (some ⟨p,0,none⟩),.int .i64 (op:Int),.string key,.int .i64 (node:Int),.int .i64 (pos:Int)] w fun e w'=>e=.returned (.int .i64 ((cs.length+1:Nat):Int)) /\
  ∃ U',LgAt w' U' t p (cs++[⟨cs.length+1,op,key,node,pos,0,false,⟨0,0,⟨#[]⟩,0,⟨#[]⟩,false⟩⟩])/\Chg (T2 t) w U w' U':=by
 obtain⟨v,hp,hr⟩:=h.ex;obtain⟨A,c,rfl,-⟩:=hr.slice;have c0:=hp.cell 0;have HP:=hid hp;have HR:=hid hr
 have k0:(cs.length:Int)<=1000:=by omega
 clear h hp hr;go_enter Tryz.func90,Tryz.ntmps90
 go_wp2_with (at_builtin;refine wpl_app rfl rfl U (t+96) (by kernel_rfl) info59 rfl (by decide) (by decide) rfl (HR.out.alloc _) rfl rfl (Blk.new _ _ _).sl (by simp[Value.oneCell']) (by omega) ?_)
 intro g cap w3 hr3 hc3 hg3;generalize hU:ext U _ (t+96)=U3 at hr3 hc3;have hp3:=(HP.out.alloc _).keep hc3 (by omega);have d0:=hp3.cell 0;have f0:=hp3.frozen 0
 have HF:Hid (∀ W,W=w3.setCell ⟨p,0,none⟩ (.slice (some ⟨g,0,none⟩) (cs.length+1) cap)->LgAt W U3 t p (cs++[⟨cs.length+1,op,key,node,pos,0,false,⟨0,0,⟨#[]⟩,0,⟨#[]⟩,false⟩⟩])/\Chg (T2 t) w U W U3):=hid fun W hW=>by
  have hc4:Chg (· = t) w3 U3 W U3:=by rw[hW];exact(Chg.refl _ _ _).setCell (p:=⟨p,0,none⟩) hp3.own _
  refine⟨⟨_,by rw[hW];exact hp3.set_ 0 _,?_⟩,((((Chg.refl (T2 t) w U).alloc _).trans (hc3.mono fun x h=>.inr h)).trans (hc4.mono fun x h=>.inl h))⟩;have:=hr3.keep hc4 (by omega);rw[List.flatMap_append,List.length_append]
  simpa [encC] using this
 clear hr3 hc3 hg3 hU hp3
 go_wp2
 go_ret;exact⟨rfl,U3,HF.out _ rfl⟩
structure Hd where
 S:Nat
 L:Nat
 id:Nat
 rg:Value
 T:Nat
 wv:Value
 rv:Value
 asked:Nat
def hdV (h:Hd)(mv pv:Value):List Value:=[.pointer (some ⟨h.S,0,none⟩),.pointer (some ⟨h.L,0,none⟩),.int .i64 (h.id:Int),h.rg,.pointer (some ⟨h.T,0,none⟩),.bool false,.slice none 0 0,.map none,.map none,h.wv,h.rv,.int .i64 (h.asked:Int),mv,pv]
def encN (m:PMsg):List Value:=msgV m (.slice none 0 0)
theorem encN_one (m:PMsg):∀ u∈encN m,u.oneCell'=true:=encM_one (m,.slice none 0 0) rfl
theorem encR_len (r:PReply):(encR r).length=6:=rfl
theorem encR_one (r:PReply):∀ u∈encR r,u.oneCell'=true:=by
 intro u hu;simp only[encR,List.mem_cons,List.not_mem_nil,or_false]at hu
 rcases hu with rfl|rfl|rfl|rfl|rfl|rfl <;> rfl
abbrev NRw (w:World)(U:Own)(t:Nat)(v:Value)(ms:List PMsg):Prop:=Rw w U t 182 21 v ms.length (ms.flatMap encN)
abbrev RRw (w:World)(U:Own)(t:Nat)(v:Value)(rs:List PReply):Prop:=Rw w U t 57 6 v rs.length (rs.flatMap encR)
abbrev TO (n:Nat):Nat->Prop:=fun x=>x=n\/x=n+288\/x=n+480
structure OutAt (w:World)(U:Own)(n N:Nat)(h:Hd)(ms:List PMsg)(rs:List PReply):Prop where
 ex:∃ mv pv,Has w U n N 104 (hdV h mv pv).toArray/\NRw w U (n+288) mv ms/\RRw w U (n+480) pv rs
theorem OutAt.keep {T:Nat->Prop}{w w':World}{U U':Own}{n N:Nat}{h:Hd}{ms:List PMsg}{rs:List PReply}(H:OutAt w U n N h ms rs)(hc:Chg T w U w' U')(h1:¬ T n)(h2:¬ T (n+288))(h3:¬ T (n+480)):OutAt w' U' n N h ms rs:=by
 obtain⟨mv,pv,a,b,c⟩:=H.ex;exact⟨mv,pv,a.keep hc h1,b.keep hc h2,c.keep hc h3⟩
theorem Rw.value {w:World}{U:Own}{t e size n:Nat}{v:Value}{xs:List Value}(h:Rw w U t e size v n xs):∃ A c,v=.slice A n c:=by
 obtain⟨A,c,rfl,-⟩:=h.slice;exact⟨A,c,rfl⟩
theorem did113 (w:World)(U:Own)(n N:Nat)(h:Hd)(ms:List PMsg)(rs:List PReply)(H:OutAt w U n N h ms rs) :
 Calls Tryz.prog 113 #[.pointer (some ⟨N,0,none⟩)] w fun e w'=>∃ mv pv,e=.returned (.agg #[mv,pv])/\OutAt w' U n N h [] []/\NRw w' U (n+288) mv ms/\RRw w' U (n+480) pv rs/\Chg (· = n) w U w' U:=by
 obtain⟨mv,pv,hN,hm,hp⟩:=H.ex;obtain⟨A,c,rfl⟩:=hm.value;obtain⟨B,d,rfl⟩:=hp.value;have c12:w.cell? ⟨N,12,none⟩=some (.slice A ms.length c):=hN.cell 12;have c13:w.cell? ⟨N,13,none⟩=some (.slice B rs.length d):=hN.cell 13;have f12:=hN.frozen 12;have f13:=hN.frozen 13;have hlt:=hN.lt
 have hne1:N≠w.heap.size:=by omega
 have hne2:N≠w.heap.size+1:=by omega
 have HN:=hid hN;have HM:=hid hm;have HP:=hid hp;clear H hN hm hp;go_enter Tryz.func113,Tryz.ntmps113
 go_wp2
 refine bodyPost_ret (results_cell rfl _ _ _ ⟨w.heap.size,0,none⟩ (.agg #[.slice A ms.length c,.slice B rs.length d]) rfl ?_) rfl ?_
 ·go_simp
 have hs:=(((HN.out.set_ 12 (.slice none 0 0)).set_ 13 (.slice none 0 0)).alloc (.cells #[.slice A ms.length c,.slice B rs.length d] 102)).alloc (.cells #[.slice A ms.length c,.slice B rs.length d] 102);have hc:=((((Chg.refl (· = n) w U).setCell (p:=⟨N,12,none⟩) HN.out.own (.slice none 0 0)).setCell (p:=⟨N,13,none⟩) HN.out.own (.slice none 0 0)).alloc (.cells #[.slice A ms.length c,.slice B rs.length d] 102)).alloc (.cells #[.slice A ms.length c,.slice B rs.length d] 102);exact⟨_,_,rfl,⟨_,_,hs,Rw.nil _ _ _ _ _,Rw.nil _ _ _ _ _⟩,HM.out.keep hc (by omega),HP.out.keep hc (by omega),hc⟩
def SayS (N b:Nat)(v:Value)(m:PMsg)(W:World):Prop:=W.cell? ⟨N,12,none⟩=some v/\Blk W b 182 (encN m).toArray
theorem sayNil (w:World)(N:Nat):Calls Tryz.prog 109 #[.pointer (some ⟨N,0,none⟩),.slice none 0 0] w fun e w'=>(∃ r,e=.returned r)/\w=w':=by
 go_enter Tryz.func109,Tryz.ntmps109
 go_wp2
 go_loop [8] (fun i=>i=.int .i64 0) (fun _=>0)
 case atStart=>rfl
 case round=>
  obtain rfl:=hrel
  go_wp2
  refine bodyPost_end (by first|rfl|(simp[results];rfl)) rfl ?_;exact⟨⟨_,rfl⟩,rfl⟩
theorem say109 (w:World)(U:Own)(n N:Nat)(h:Hd)(ms:List PMsg)(rs:List PReply)(H:OutAt w U n N h ms rs)(hl:ms.length<=1000)(b c:Nat)(m:PMsg)(hb:Blk w b 182 (encN m).toArray)(hU:¬ TO n (U b)) :
 Calls Tryz.prog 109 #[.pointer (some ⟨N,0,none⟩),.slice (some ⟨b,0,none⟩) 1 c] w fun e w'=>(∃ r,e=.returned r)/\∃ U',OutAt w' U' n N h (ms++[{ m with src:=h.id }]) rs/\Chg (TO n) w U w' U':=by
 have HH:=hid H;have HB:=hid hb;have HT:=hid hU;clear H hb hU;go_enter Tryz.func109,Tryz.ntmps109
 go_wp2
 go_loopw [8] (fun i wr=>(i=.int .i64 0/\wr=w)\/(i=.int .i64 1/\∃ Ur,OutAt wr Ur n N h (ms++[{ m with src:=h.id }]) rs/\Chg (TO n) w U wr Ur)) (fun i _=>1-(intOf i).toNat)
 case atStart=>exact .inl ⟨rfl,rfl⟩
 case round=>
  rcases hrel with ⟨rfl,hw⟩|⟨rfl,Ur,h1,h2⟩
  ·obtain rfl:=hw.symm
   clear hw;obtain⟨mv,pv,hN,hm,hp⟩:=HH.out.ex;obtain⟨A,d,rfl⟩:=hm.value;have hNl:=hN.lt;have c2:(w.alloc (.cells zero182.toArray 182)).cell? ⟨N,2,none⟩=some (.int .i64 (h.id:Int)):=(hN.alloc _).cell 2;obtain⟨W2,hrun,hW2,hk2,hsz,q1,q2,q3⟩:=store_msg (m:=m) (vm:=.slice none 0 0) (Blk.new w 182 zero182.toArray) rfl rfl;have hb2:Below w.heap.size w W2:=((Below.refl _ w).alloc (Nat.le_refl _) _).trans ⟨q1,q2,q3,by omega,fun j hj=>hk2 j (by omega)⟩;have c2':W2.cell? ⟨N,2,none⟩=some (.int .i64 (h.id:Int)):=(hN.blk.below hb2 hNl).cell 2;have c1':W2.cell? ⟨w.heap.size,1,none⟩=some (.int .i64 (m.src:Int)):=hW2.cell 1;have f1':=hW2.frozen 1;have HR:=hid hrun;have HW2:=hid hW2;have HBl:=hid hb2;have HN:=hid hN;have HM:=hid hm;have HP:=hid hp;clear hrun hW2 hk2 hsz q1 q2 q3 hb2 c2 hN hm hp;unfold zero182 at HR
   go_wp2_with (first|(refine wpl_load 182 _ rfl (by kernel_rfl) _ _ rfl (load_msg HB.out) ?_)|(refine wpl_store 182 _ _ rfl rfl (by kernel_rfl) _ _ rfl rfl W2 HR.out ?_))
   generalize hW:World.setCell _ _ _=W3
   have hB3:Blk W3 w.heap.size 182 (encN { m with src:=h.id }).toArray:=by rw[<- hW];exact HW2.out.set_ 1 (.int .i64 (h.id:Int))
   have hc3:Chg (fun _=>False) w U W3 (ext U w (n+864)):=by
    rw[<- hW];exact Chg.of_below (HBl.out.setCell (p:=⟨w.heap.size,1,none⟩) (Nat.le_refl _) _) _
   have hN3:=HN.out.keep hc3 id;have HB3:Hid (Has W3 (ext U w (n+864)) (n+864) w.heap.size 182 (encN { m with src:=h.id }).toArray):=hid ⟨hB3,ext_new (Nat.le_refl _)⟩;have HC3:=hid hc3;have HN3:=hid hN3;have S3:Hid (SayS N w.heap.size (.slice A ms.length d) { m with src:=h.id } W3.drew):=hid ⟨hN3.cell 12,hB3⟩;clear hW hB3 hc3 hN3 c2' c1' f1' HR;refine wp_region_hl [7,8] [0,1,2,3,4,5,6,7,8] (SayS N w.heap.size (.slice A ms.length d) { m with src:=h.id }) (by kernel_rfl) (by kernel_rfl) S3.out ?_
   iterate 6 (refine hd_take (v:=?_) rfl rfl (by kernel_rfl) (fun W hW=>?_) ?_;rotate_left;(obtain⟨r0,-⟩:=hW;first|(go_simp;done)|(go_simp;with_reducible rfl)))
   refine hd_load 182 _ rfl rfl (by kernel_rfl) rfl _ _ rfl (fun W hW=>load_msg hW.2) ?_;refine hd_loud rfl rfl fun K hK=>?_;have hlm:(msgV { m with src:=h.id } (.slice none 0 0)).length=21:=rfl;go_simp;generalize hcs:List.foldl _ _ _=cs
   obtain rfl:cs=(encN { m with src:=h.id }).toArray:=by rw[<- hcs];exact build_msg { m with src:=h.id } (.slice none 0 0)
   clear hcs;refine hK _ _ ⟨((HN3.out.drewN 1).alloc _).cell 12,HB3.out.blk.alloc _⟩ ?_;clear hK;refine hd_loud rfl rfl fun K hK=>?_;refine st_app rfl rfl (ext U w (n+864)) (n+288) (by kernel_rfl) info182c rfl (by decide) (by decide) rfl (((HM.out.keep HC3.out id).drewN 1).alloc _) rfl rfl (Blk.new _ _ _).sl (encN_one _) (by omega) ?_;intro g cap W6 hr6 hc6 hg6;generalize hU6:ext (ext U w (n+864)) _ (n+288)=U6 at hr6 hc6;have hN6:=(((HN3.out.drewN 1).alloc _).keep hc6 (by omega):Has W6 U6 n N 104 _);have hB6:=(((HB3.out.drewN 1).alloc _).keep hc6 (by omega):Has W6 U6 (n+864) w.heap.size 182 _);have d0:=hN6.cell 12;have g0:=hN6.frozen 12;have hcc:Chg (TO n) w U W6 U6:=((HC3.out.drew.alloc _).mono fun _ h=>h.elim).trans (hc6.mono fun x h=>.inr (.inl h))
   have HF:Hid (∀ W,W=W6.setCell ⟨N,12,none⟩ (.slice (some ⟨g,0,none⟩) (ms.length+1) cap)->OutAt W U6 n N h (ms++[{ m with src:=h.id }]) rs/\Chg (TO n) w U W U6):=hid fun W hW=>by
    have hc7:Chg (· = n) W6 U6 W U6:=by rw[hW];exact(Chg.refl _ _ _).setCell (p:=⟨N,12,none⟩) hN6.own _
    refine⟨⟨_,_,by rw[hW];exact hN6.set_ 12 _,?_,((((HP.out.keep HC3.out id).drewN 1).alloc _).keep hc6 (by omega)).keep hc7 (by omega)⟩,hcc.trans (hc7.mono fun x h=>.inl h)⟩;have:=hr6.keep hc7 (by omega);unfold NRw;rw[List.flatMap_append,List.length_append]
    simpa using this
   have S6:Hid (SayS N w.heap.size (.slice A ms.length d) { m with src:=h.id } W6):=hid ⟨d0,hB6.blk⟩;clear hN6 hB6 hcc hr6 hc6 hg6 hU6;refine hK _ _ S6.out (hd_end ?_);clear hK;simp only[zqa,zqb,zqc,zqd,Nat.zero_add,Nat.reduceAdd]
   go_wp2_with fail
   go_roundw
   case rel=>exact .inr ⟨rfl,U6,HF.out _ rfl⟩
   case measure=>simp[intOf]
  ·have HF:=hid (And.intro h1 h2)
   clear h1 h2
   go_wp2
   refine bodyPost_end (by first|rfl|(simp[results];rfl)) rfl ?_;exact⟨⟨_,rfl⟩,Ur,HF.out⟩
structure PWho where
 node:Nat
 id:Nat
 op:Nat
 key:ByteArray
def encW (x:PWho):List Value:=[.int .i64 (x.node:Int),.int .i64 (x.id:Int),.int .i64 (x.op:Int),.string x.key]
def tellR (x:PWho)(err:Nat)(val:ByteArray)(has:Bool):PReply:=⟨x.id,x.op,x.key,err,val,has⟩
def tellM (id:Nat)(x:PWho)(err:Nat)(val:ByteArray)(has:Bool):PMsg:=
 if x.op=1/\err=0 then ⟨14,id,x.node,0,0,x.id,0,⟨#[]⟩,err,x.key,val,!has,[]⟩ else ⟨14,id,x.node,0,0,x.id,0,⟨#[]⟩,err,⟨#[]⟩,⟨#[]⟩,false,[]⟩
theorem info57:(Tryz.prog.info? 57).map (fun i=>(i.zero.map Value.cells,i.size,i.bytes))=some (some #[.int .i64 0,.int .i64 0,.string ⟨#[]⟩,.int .i64 0,.string ⟨#[]⟩,.bool false],6,64):=by kernel_rfl
def TellS (N B:Nat)(v:Value)(x:PWho)(W:World):Prop:=W.cell? ⟨N,13,none⟩=some v/\W.cell? ⟨B,1,none⟩=some (.int .i64 (x.id:Int))/\W.cell? ⟨B,2,none⟩=some (.int .i64 (x.op:Int))/\W.cell? ⟨B,3,none⟩=some (.string x.key)
theorem TellS.of {N B:Nat}{v:Value}{x:PWho}{W:World}(h1:W.cell? ⟨N,13,none⟩=some v)(h2:Blk W B 106 (encW x).toArray):TellS N B v x W:=⟨h1,h2.cell 1,h2.cell 2,h2.cell 3⟩
theorem tellA (w:World)(U:Own)(n N:Nat)(h:Hd)(ms:List PMsg)(rs:List PReply)(H:OutAt w U n N h ms rs)(hl:rs.length<=1000)(x:PWho)(err:Nat)(val:ByteArray)(has:Bool)(hx:x.node=0) :
 Calls Tryz.prog 112 #[.pointer (some ⟨N,0,none⟩),.agg (encW x).toArray,.int .i64 (err:Int),.string val,.bool has] w fun e w'=>(∃ r,e=.returned r)/\∃ U',OutAt w' U' n N h ms (rs++[tellR x err val has])/\Chg (TO n) w U w' U':=by
 obtain⟨mv,pv,hN,hm,hp⟩:=H.ex;obtain⟨A,d,rfl⟩:=hp.value;have hNl:=hN.lt;obtain⟨W0,hW0⟩:∃ W,W=w.alloc (.cells (encW x).toArray 106):=⟨_,rfl⟩
 have hB:Blk W0 w.heap.size 106 (encW x).toArray:=by rw[hW0];exact Blk.new _ _ _
 have hc0:Chg (fun _=>False) w U W0 (ext U w (n+864)):=by rw[hW0];exact((Chg.refl _ _ _).alloc _).ext _
 have hN0:=hN.keep hc0 id;have S0:Hid (TellS N w.heap.size (.slice A rs.length d) x W0.drew):=hid (TellS.of (hN0.cell 13) hB);have HB:Hid (Has W0 (ext U w (n+864)) (n+864) w.heap.size 106 (encW x).toArray):=hid ⟨hB,ext_new (Nat.le_refl _)⟩;have HC0:=hid hc0;have HN0:=hid hN0;have HM:=hid hm;have HP:=hid hp;have b0:=hB.cell 0;have HW:=hid hW0;clear H hN hm hp hW0 hB hc0 hN0;obtain⟨xn,xi,xo,xk⟩:=x;dsimp only at hx;subst hx;unfold encW at b0 HW ⊢;dsimp only at b0 HW ⊢;go_enter Tryz.func112,Tryz.ntmps112
 go_wp2_with fail
 rw[<- (show W0=w.alloc (.cells #[.int .i64 0,.int .i64 (xi:Int),.int .i64 (xo:Int),.string xk] 106) from HW.out)];refine wp_region_hl [16,17] [0,1,2,3,4,5,6,7,8,9,10,11,12,13,14,15,16,17] (TellS N w.heap.size (.slice A rs.length d) ⟨0,xi,xo,xk⟩) (by kernel_rfl) (by kernel_rfl) S0.out ?_
 iterate 16 (refine hd_take (v:=?_) rfl rfl (by kernel_rfl) (fun W hW=>?_) ?_;rotate_left;(obtain⟨r0,r1,r2,r3⟩:=hW;first|(go_simp;done)|(go_simp;with_reducible rfl)))
 refine hd_loud rfl rfl fun K hK=>?_;go_simp;refine hK _ _ (TellS.of ((HN0.out.alloc _).cell 13) (HB.out.blk.alloc _)) ?_;clear hK;refine hd_loud rfl rfl fun K hK=>?_;refine st_app rfl rfl (ext U w (n+864)) (n+480) (by kernel_rfl) info57 rfl (by decide) (by decide) rfl (((HP.out.keep HC0.out id).drewN 1).alloc _) rfl rfl (Blk.new _ _ _).sl (by simp[Value.oneCell']) (by omega) ?_;intro g cap W6 hr6 hc6 hg6;generalize hU6:ext (ext U w (n+864)) _ (n+480)=U6 at hr6 hc6;have hN6:=(((HN0.out.drewN 1).alloc _).keep hc6 (by omega):Has W6 U6 n N 104 _);have hB6:=(((HB.out.drewN 1).alloc _).keep hc6 (by omega):Has W6 U6 (n+864) w.heap.size 106 _);have d0:=hN6.cell 13;have g0:=hN6.frozen 13;have hcc:Chg (TO n) w U W6 U6:=((HC0.out.drew.alloc _).mono fun _ h=>h.elim).trans (hc6.mono fun x h=>.inr (.inr h))
 have HF:Hid (∀ W,W=W6.setCell ⟨N,13,none⟩ (.slice (some ⟨g,0,none⟩) (rs.length+1) cap)->OutAt W U6 n N h ms (rs++[⟨xi,xo,xk,err,val,has⟩])/\Chg (TO n) w U W U6):=hid fun W hW=>by
  have hc7:Chg (· = n) W6 U6 W U6:=by rw[hW];exact(Chg.refl _ _ _).setCell (p:=⟨N,13,none⟩) hN6.own _
  refine⟨⟨_,_,by rw[hW];exact hN6.set_ 13 _,(((((HM.out.keep HC0.out id)).drewN 1).alloc _).keep hc6 (by omega)).keep hc7 (by omega),?_⟩,hcc.trans (hc7.mono fun x h=>.inl h)⟩;have:=hr6.keep hc7 (by omega);unfold RRw;rw[List.flatMap_append,List.length_append]
  simpa [encR] using this
 have S6:Hid (TellS N w.heap.size (.slice A rs.length d) ⟨0,xi,xo,xk⟩ W6):=hid (TellS.of d0 hB6.blk);clear hN6 hB6 hcc hr6 hc6 hg6 hU6;refine hK _ _ S6.out (hd_end ?_);clear hK;simp only[zqa,zqb,zqc,zqd,Nat.zero_add,Nat.reduceAdd]
 go_wp2_with fail
 refine bodyPost_ret (by first|exact results_none rfl _ _ _|rfl) rfl ?_;exact⟨⟨_,rfl⟩,U6,HF.out _ rfl⟩
theorem tellB (w:World)(U:Own)(n N:Nat)(h:Hd)(ms:List PMsg)(rs:List PReply)(H:OutAt w U n N h ms rs)(hl:ms.length<=1000)(x:PWho)(err:Nat)(val:ByteArray)(has:Bool)(hx:x.node≠0) :
 Calls Tryz.prog 112 #[.pointer (some ⟨N,0,none⟩),.agg (encW x).toArray,.int .i64 (err:Int),.string val,.bool has] w fun e w'=>(∃ r,e=.returned r)/\∃ U',OutAt w' U' n N h (ms++[tellM h.id x err val has]) rs/\Chg (TO n) w U w' U':=by
 have HS:Hid (∀ W m b,Below w.heap.size w W->Blk W b 182 (encN m).toArray->w.heap.size<=b->∀ c,Calls Tryz.prog 109 #[.pointer (some ⟨N,0,none⟩),.slice (some ⟨b,0,none⟩) 1 c] W fun e w'=>(∃ r,e=.returned r)/\∃ U',OutAt w' U' n N h (ms++[{ m with src:=h.id }]) rs/\Chg (TO n) w U w' U'):=hid fun W m b hb hB hz c=>by
  have hc:Chg (fun _=>False) w U W (ext U w (n+864)):=Chg.of_below hb _;refine(say109 W (ext U w (n+864)) n N h ms rs (H.keep hc id id id) hl b c m hB (by rw[ext_new hz];omega)).mono ?_;rintro e w' ⟨hr,U',a,b⟩;exact⟨hr,U',a,(hc.mono fun _ h=>h.elim).trans b⟩
 clear H;obtain⟨xn,xi,xo,xk⟩:=x;dsimp only at hx;obtain⟨W0,hW0⟩:∃ W,W=w.alloc (.cells #[.int .i64 (xn:Int),.int .i64 (xi:Int),.int .i64 (xo:Int),.string xk] 106):=⟨_,rfl⟩
 have hz0:W0.heap.size=w.heap.size+1:=by rw[hW0];simp
 have hB0:Blk W0 w.heap.size 106 #[.int .i64 (xn:Int),.int .i64 (xi:Int),.int .i64 (xo:Int),.string xk]:=by rw[hW0];exact Blk.new _ _ _
 obtain⟨W2,hrun,hW2,hk2,hsz,q1,q2,q3⟩:=store_msg (m:=⟨14,0,xn,0,0,xi,0,⟨#[]⟩,err,⟨#[]⟩,⟨#[]⟩,false,[]⟩) (vm:=.slice none 0 0) (Blk.new W0 182 zero182.toArray) rfl rfl;have hb02:Below W0.heap.size W0 W2:=((Below.refl _ W0).alloc (Nat.le_refl _) _).trans ⟨q1,q2,q3,by omega,fun j hj=>hk2 j (by omega)⟩
 have hbl:Below w.heap.size w W2:=by
  refine Below.trans ?_ (hb02.mono (by omega));rw[hW0];exact(Below.refl _ w).alloc (Nat.le_refl _) _
 have hz2:W2.heap.size=w.heap.size+2:=by rw[hsz];simp;omega
 have hB2:=hB0.below hb02 (by omega);rw[hz0]at hrun hW2;have b0:=hB0.cell 0;have b1:=hB0.cell 1;have d2:=hB2.cell 2;have d3:=hB2.cell 3;have e12:W2.cell? ⟨w.heap.size+1,12,none⟩=some (.string ⟨#[]⟩):=hW2.cell 12;have e13:W2.cell? ⟨w.heap.size+1,13,none⟩=some (.string ⟨#[]⟩):=hW2.cell 13;have e14:W2.cell? ⟨w.heap.size+1,14,none⟩=some (.int .i64 0):=hW2.cell 14;have e15:W2.cell? ⟨w.heap.size+1,15,none⟩=some (.bool false):=hW2.cell 15;have f12:=hW2.frozen 12;have f13:=hW2.frozen 13;have f14:=hW2.frozen 14;have f15:=hW2.frozen 15
 have k1:((xn:Int) == 0)=false:=by rw[beq_eq_false_iff_ne];omega
 have HR:=hid hrun;have HW2:=hid hW2;have HW:=hid hW0;have HBl:=hid hbl;have HZ2:=hid hz2;unfold zero182 at HR;clear hW0 hB0 hrun hW2 hk2 hsz q1 q2 q3 hb02 hbl hB2 hz2
 by_cases hc:xo=1/\err=0
 ·have HTM:Hid (tellM h.id ⟨xn,xi,xo,xk⟩ err val has={ (⟨14,0,xn,0,0,xi,0,⟨#[]⟩,err,xk,val,!has,[]⟩:PMsg) with src:=h.id }):=hid (by unfold tellM;rw[if_pos hc])
  have k3:((xo:Int) == 1)=true:=by rw[beq_iff_eq];omega
  have k4:((err:Int) == 0)=true:=by rw[beq_iff_eq];omega
  clear hc;unfold encW;have HB3:Hid (Blk ((((W2.setCell ⟨w.heap.size+1,12,none⟩ (.string xk)).setCell ⟨w.heap.size+1,13,none⟩ (.string val)).setCell ⟨w.heap.size+1,14,none⟩ (.int .i64 0)).setCell ⟨w.heap.size+1,15,none⟩ (.bool (!has))) (w.heap.size+1) 182 (msgV ⟨14,0,xn,0,0,xi,0,⟨#[]⟩,err,xk,val,!has,[]⟩ (.slice none 0 0)).toArray):=hid ((((HW2.out.set_ 12 (.string xk)).set_ 13 (.string val)).set_ 14 (.int .i64 0)).set_ 15 (.bool (!has)))
  have HBn:Hid (Blk (((((W2.setCell ⟨w.heap.size+1,12,none⟩ (.string xk)).setCell ⟨w.heap.size+1,13,none⟩ (.string val)).setCell ⟨w.heap.size+1,14,none⟩ (.int .i64 0)).setCell ⟨w.heap.size+1,15,none⟩ (.bool (!has))).alloc (.cells (encN ⟨14,0,xn,0,0,xi,0,⟨#[]⟩,err,xk,val,!has,[]⟩).toArray 182)) W2.heap.size 182 (encN ⟨14,0,xn,0,0,xi,0,⟨#[]⟩,err,xk,val,!has,[]⟩).toArray):=hid (by
   have:=Blk.new ((((W2.setCell ⟨w.heap.size+1,12,none⟩ (.string xk)).setCell ⟨w.heap.size+1,13,none⟩ (.string val)).setCell ⟨w.heap.size+1,14,none⟩ (.int .i64 0)).setCell ⟨w.heap.size+1,15,none⟩ (.bool (!has))) 182 (encN ⟨14,0,xn,0,0,xi,0,⟨#[]⟩,err,xk,val,!has,[]⟩).toArray
   simpa [World.setCell] using this)
  have hlm:(msgV (⟨14,0,xn,0,0,xi,0,⟨#[]⟩,err,xk,val,!has,[]⟩:PMsg) (.slice none 0 0)).length=21:=rfl;go_enter Tryz.func112,Tryz.ntmps112
  go_wp2_with (first|(refine wpl_sq 182 _ _ rfl rfl ?_;refine sq _ _ _ _ _ W2 rfl rfl (by kernel_rfl) HR.out ?_)|(rw[<- HW.out])|(refine wpl_lq 182 _ rfl ?_;refine lq _ _ _ _ rfl (by kernel_rfl) (load_msg HB3.out) ?_)|(go_at_call 109;fail))
  generalize hcs:List.foldl _ _ _=cs
  obtain rfl:cs=(encN ⟨14,0,xn,0,0,xi,0,⟨#[]⟩,err,xk,val,!has,[]⟩).toArray:=by rw[<- hcs];exact build_msg ⟨14,0,xn,0,0,xi,0,⟨#[]⟩,err,xk,val,!has,[]⟩ (.slice none 0 0)
  clear hcs;refine(HS.out _ ⟨14,0,xn,0,0,xi,0,⟨#[]⟩,err,xk,val,!has,[]⟩ _ ?_ ?_ ?_ 1).mono ?_
  ·exact(((((HBl.out.setCell (p:=⟨w.heap.size+1,12,none⟩) (by simp) _).setCell (p:=⟨w.heap.size+1,13,none⟩) (by simp) _).setCell (p:=⟨w.heap.size+1,14,none⟩) (by simp) _).setCell (p:=⟨w.heap.size+1,15,none⟩) (by simp) _).alloc (by have:=HBl.out.size;simpa [World.setCell] using this) _)
  ·exact HBn.out
  ·rw[HZ2.out];omega
  rintro e w5 ⟨⟨r,rfl⟩,U5,hf1,hf2⟩;have HF:=hid (And.intro hf1 hf2);clear hf1 hf2
  go_wp2
  refine bodyPost_end (by first|rfl|(simp[results];rfl)) rfl ?_;rw[HTM.out];exact⟨⟨_,rfl⟩,U5,HF.out⟩
 ·have HTM:Hid (tellM h.id ⟨xn,xi,xo,xk⟩ err val has={ (⟨14,0,xn,0,0,xi,0,⟨#[]⟩,err,⟨#[]⟩,⟨#[]⟩,false,[]⟩:PMsg) with src:=h.id }):=hid (by unfold tellM;rw[if_neg hc])
  have HB3:=HW2;have HBn:Hid (Blk (W2.alloc (.cells (encN ⟨14,0,xn,0,0,xi,0,⟨#[]⟩,err,⟨#[]⟩,⟨#[]⟩,false,[]⟩).toArray 182)) W2.heap.size 182 (encN ⟨14,0,xn,0,0,xi,0,⟨#[]⟩,err,⟨#[]⟩,⟨#[]⟩,false,[]⟩).toArray):=hid (Blk.new _ _ _);unfold encW
  by_cases h1:xo=1
  ·have k3:((xo:Int) == 1)=true:=by rw[beq_iff_eq];omega
   have k4:((err:Int) == 0)=false:=by rw[beq_eq_false_iff_ne];omega
   clear hc h1;have hlm:(msgV (⟨14,0,xn,0,0,xi,0,⟨#[]⟩,err,⟨#[]⟩,⟨#[]⟩,false,[]⟩:PMsg) (.slice none 0 0)).length=21:=rfl;go_enter Tryz.func112,Tryz.ntmps112
   go_wp2_with (first|(refine wpl_sq 182 _ _ rfl rfl ?_;refine sq _ _ _ _ _ W2 rfl rfl (by kernel_rfl) HR.out ?_)|(rw[<- HW.out])|(refine wpl_lq 182 _ rfl ?_;refine lq _ _ _ _ rfl (by kernel_rfl) (load_msg HB3.out) ?_)|(go_at_call 109;fail))
   generalize hcs:List.foldl _ _ _=cs
   obtain rfl:cs=(encN ⟨14,0,xn,0,0,xi,0,⟨#[]⟩,err,⟨#[]⟩,⟨#[]⟩,false,[]⟩).toArray:=by rw[<- hcs];exact build_msg ⟨14,0,xn,0,0,xi,0,⟨#[]⟩,err,⟨#[]⟩,⟨#[]⟩,false,[]⟩ (.slice none 0 0)
   clear hcs;refine(HS.out _ ⟨14,0,xn,0,0,xi,0,⟨#[]⟩,err,⟨#[]⟩,⟨#[]⟩,false,[]⟩ _ ?_ ?_ ?_ 1).mono ?_
   ·exact(HBl.out.alloc HBl.out.size _)
   ·exact HBn.out
   ·rw[HZ2.out];omega
   rintro e w5 ⟨⟨r,rfl⟩,U5,hf1,hf2⟩;have HF:=hid (And.intro hf1 hf2);clear hf1 hf2
   go_wp2
   refine bodyPost_end (by first|rfl|(simp[results];rfl)) rfl ?_;rw[HTM.out];exact⟨⟨_,rfl⟩,U5,HF.out⟩
  ·have k3:((xo:Int) == 1)=false:=by rw[beq_eq_false_iff_ne];omega
   clear hc h1;have hlm:(msgV (⟨14,0,xn,0,0,xi,0,⟨#[]⟩,err,⟨#[]⟩,⟨#[]⟩,false,[]⟩:PMsg) (.slice none 0 0)).length=21:=rfl;go_enter Tryz.func112,Tryz.ntmps112
   go_wp2_with (first|(refine wpl_sq 182 _ _ rfl rfl ?_;refine sq _ _ _ _ _ W2 rfl rfl (by kernel_rfl) HR.out ?_)|(rw[<- HW.out])|(refine wpl_lq 182 _ rfl ?_;refine lq _ _ _ _ rfl (by kernel_rfl) (load_msg HB3.out) ?_)|(go_at_call 109;fail))
   generalize hcs:List.foldl _ _ _=cs
   obtain rfl:cs=(encN ⟨14,0,xn,0,0,xi,0,⟨#[]⟩,err,⟨#[]⟩,⟨#[]⟩,false,[]⟩).toArray:=by rw[<- hcs];exact build_msg ⟨14,0,xn,0,0,xi,0,⟨#[]⟩,err,⟨#[]⟩,⟨#[]⟩,false,[]⟩ (.slice none 0 0)
   clear hcs;refine(HS.out _ ⟨14,0,xn,0,0,xi,0,⟨#[]⟩,err,⟨#[]⟩,⟨#[]⟩,false,[]⟩ _ ?_ ?_ ?_ 1).mono ?_
   ·exact(HBl.out.alloc HBl.out.size _)
   ·exact HBn.out
   ·rw[HZ2.out];omega
   rintro e w5 ⟨⟨r,rfl⟩,U5,hf1,hf2⟩;have HF:=hid (And.intro hf1 hf2);clear hf1 hf2
   go_wp2
   refine bodyPost_end (by first|rfl|(simp[results];rfl)) rfl ?_;rw[HTM.out];exact⟨⟨_,rfl⟩,U5,HF.out⟩
def tellMs (id:Nat)(x:PWho)(err:Nat)(val:ByteArray)(has:Bool)(ms:List PMsg):List PMsg:=if x.node=0 then ms else ms++[tellM id x err val has]
def tellRs (x:PWho)(err:Nat)(val:ByteArray)(has:Bool)(rs:List PReply):List PReply:=if x.node=0 then rs++[tellR x err val has] else rs
theorem tell112 (w:World)(U:Own)(n N:Nat)(h:Hd)(ms:List PMsg)(rs:List PReply)(H:OutAt w U n N h ms rs)(hl:ms.length<=1000)(hl2:rs.length<=1000)(x:PWho)(err:Nat)(val:ByteArray)(has:Bool) :
 Calls Tryz.prog 112 #[.pointer (some ⟨N,0,none⟩),.agg (encW x).toArray,.int .i64 (err:Int),.string val,.bool has] w fun e w'=>(∃ r,e=.returned r)/\∃ U',OutAt w' U' n N h (tellMs h.id x err val has ms) (tellRs x err val has rs)/\Chg (TO n) w U w' U':=by
 by_cases hx:x.node=0
 ·unfold tellMs tellRs
  rw[if_pos hx,if_pos hx];exact tellA w U n N h ms rs H hl2 x err val has hx
 ·unfold tellMs tellRs
  rw[if_neg hx,if_neg hx];exact tellB w U n N h ms rs H hl x err val has hx
end Go.Proofs.Ytlhekbjidppijaa
