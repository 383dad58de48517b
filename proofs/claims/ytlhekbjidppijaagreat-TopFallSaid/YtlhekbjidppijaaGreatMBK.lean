/- Contracts of what TopFall reaches: what each function returns and leaves in memory. Conditions: as named. -/
import Derived.Test.YtlhekbjidppijaaGreatMBJ
set_option linter.unusedVariables false
set_option linter.unusedSimpArgs false
set_option maxRecDepth 20000
set_option maxHeartbeats 8000000
namespace Go.Proofs.Ytlhekbjidppijaa
open Lib (hid)
open Go.RowKit
structure OutIs (w:World)(U:Own)(ts n N d k i:Nat)(v:Value)(s:PNode):Prop where
 ex:∃ mv pv h,v=.agg #[mv,pv]/\NodeAt w U ts n N d k i { s with ms:=[],rs:=[] } h/\NRw w U (n+288) mv s.ms/\RRw w U (n+480) pv s.rs
theorem OutIs.keep {T:Nat->Prop}{w w':World}{U U':Own}{ts n N d k i:Nat}{v:Value}{s:PNode}(H:OutIs w U ts n N d k i v s)(hc:Chg T w U w' U')(hn:n<95)(hT:∀ x,T x->¬ NT ts n x):OutIs w' U' ts n N d k i v s:=by
 obtain⟨mv,pv,h,e,a,b,c⟩:=H.ex;exact⟨mv,pv,h,e,a.keep hc hn hT,b.keep hc fun h=>hT _ h (.inr (by omega)),c.keep hc fun h=>hT _ h (.inr (by omega))⟩
theorem loadVar_out {W:World}{g:Nat}{mv pv:Value}(h:Blk W g 102 #[mv,pv]):(loadVar 102 ⟨g,0,none⟩).run Tryz.prog W=.ok (.agg #[mv,pv]) W:=
 run_loadVarAgg W 102 g 0 [mv,pv] 2 (by kernel_rfl) (by kernel_rfl) rfl (fun j v hj=>by rw[Nat.zero_add,h.cell j,<- hj];simp)
theorem NodeAt.did {w:World}{U:Own}{ts n N d k i:Nat}{s:PNode}{h:Hd}(H:NodeAt w U ts n N d k i s h)(hf:Far ts n) :
 Calls Tryz.prog 113 #[.pointer (some ⟨N,0,none⟩)] w fun e w'=>∃ A c B e',e=.returned (.agg #[.slice A s.ms.length c,.slice B s.rs.length e'])/\OutIs w' U ts n N d k i (.agg #[.slice A s.ms.length c,.slice B s.rs.length e']) s/\Chg (· = n) w U w' U:=by
 refine(nodeDid w U ts n N d k i s h H hf).mono ?_;rintro e w' ⟨mv,pv,rfl,a,b,c,hc⟩;obtain⟨A,cc,rfl⟩:=b.value;obtain⟨B,dd,rfl⟩:=c.value;exact⟨A,cc,B,dd,rfl,⟨_,_,h,rfl,a,b,c⟩,hc⟩
theorem ask89 (w:World)(U:Own)(ts n N d k i tk now ci op:Nat)(key:ByteArray)(s s':PNode)(h:Hd)(H:NodeAt w U ts n N d k i s h)(hk:ClockAt w U tk k now)(hf:Far ts n)(htk:¬ NT ts n tk)(ha:s.ask? i now ⟨0,ci,op,key⟩=some s') :
 Calls Tryz.prog 89 #[.pointer (some ⟨N,0,none⟩),.int .i64 (ci:Int),.int .i64 (op:Int),.string key] w fun e w'=>∃ v U',e=.returned v/\OutIs w' U' ts n N d k i v s'/\Chg (NT ts n) w U w' U':=by
 obtain⟨y,hy1,hy2⟩:=fresh95 w U;obtain⟨W1,hW1⟩:∃ W,W=w.alloc (.cells #[.slice none 0 0,.slice none 0 0] 102):=⟨_,rfl⟩
 have hc1:Chg (fun _=>False) w U W1 (ext U w y):=by rw[hW1];exact((Chg.refl _ _ _).alloc _).ext _
 have hO:Has W1 (ext U w y) y w.heap.size 102 #[.slice none 0 0,.slice none 0 0]:=⟨by rw[hW1];exact Blk.new _ _ _,ext_new (Nat.le_refl _)⟩;have HA:=hid (ask121 W1 (ext U w y) ts n N d k i tk now s s' h (H.keep hc1 hf.1 fun _ h=>h.elim) (hk.keep hc1 id) hf htk _ ha)
 have hy:¬ NT ts n y:=by obtain⟨g1,g2,g3⟩:=hf;unfold NT ST;omega
 have HY:=hid hy;have HF:=hid hf;have HC1:=hid hc1;have HO:=hid hO;have HW:=hid hW1;unfold encW at HA;clear H hk hf htk ha hc1 hO hW1 hy hy1 hy2;go_enter Tryz.func89,Tryz.ntmps89
 go_wp2_with (first|rw[<- HW.out]|(go_at_call 121;fail))
 refine HA.out.mono ?_;rintro e w2 ⟨⟨r,rfl⟩,h2,U2,hn2,hc2⟩;have HO2:=hid (HO.out.keep hc2 HY.out);have HD:=hid (hn2.did HF.out);have HC2:=hid ((HC1.out.mono fun _ h=>h.elim).trans hc2);clear hn2 hc2 HA
 go_wp2_with (go_at_call 113;fail)
 refine HD.out.mono ?_;rintro e w3 ⟨A,ca,B,cb,rfl,ho3,hc3⟩;have hO3:=HO2.out.keep hc3 (by intro e;exact HY.out (.inr (by have:=HF.out.1;omega)));have o0:w3.cell? ⟨w.heap.size,0,none⟩=some (.slice none 0 0):=hO3.cell 0;have o1:w3.cell? ⟨w.heap.size,1,none⟩=some (.slice none 0 0):=hO3.cell 1;have p0:=hO3.frozen 0;have p1:=hO3.frozen 1
 have HB:Hid (∀ W,W=(w3.setCell ⟨w.heap.size,0,none⟩ (.slice A s'.ms.length ca)).setCell ⟨w.heap.size,1,none⟩ (.slice B s'.rs.length cb)->Blk W w.heap.size 102 #[.slice A s'.ms.length ca,.slice B s'.rs.length cb]/\OutIs W U2 ts n N d k i (.agg #[.slice A s'.ms.length ca,.slice B s'.rs.length cb]) s'/\Chg (NT ts n) w U W U2):=hid fun W hW=>by
  have hc4:Chg (fun q=>q=y) w3 U2 W U2:=by rw[hW];exact((Chg.refl _ _ _).setCell (p:=⟨w.heap.size,0,none⟩) hO3.own _).setCell (p:=⟨w.heap.size,1,none⟩) hO3.own _
  have hc4':Chg (NT ts n) w U W U2:=by
   rw[hW];exact((HC2.out.trans (hc3.mono fun x hx=>(show NT ts n x from .inr (by have:=HF.out.1;omega)))).setNew (p:=⟨w.heap.size,0,none⟩) (Nat.le_refl _) _).setNew (p:=⟨w.heap.size,1,none⟩) (Nat.le_refl _) _
  exact⟨by rw[hW];exact((hO3.set_ 0 (.slice A s'.ms.length ca)).set_ 1 (.slice B s'.rs.length cb)).blk,ho3.keep hc4 HF.out.1 (fun x hx=>by rw[hx];exact HY.out),hc4'⟩
 clear ho3 hc3 hO3 HD HC2 HO2
 go_wp2
 refine bodyPost_ret (results_cell rfl _ _ _ ⟨w.heap.size,0,none⟩ (.agg #[.slice A s'.ms.length ca,.slice B s'.rs.length cb]) rfl ?_) rfl ?_
 ·exact loadVar_out (HB.out _ rfl).1
 exact⟨_,U2,rfl,(HB.out _ rfl).2⟩
theorem NodeAt.setReads2 {w w' W:World}{U:Own}{ts n N d k i:Nat}{s:PNode}{h:Hd}{v:Value}{R:List PRead}(H:NodeAt w U ts n N d k i s h)(hf:Far ts n)(hr:Rw w' U (n+192) 108 5 v R.length (R.flatMap encD))(hc:Chg (· = n+192) w U w' U)(hW:W=w'.setCell ⟨N,10,none⟩ v) :
 NodeAt W U ts n N d k i { s with reads:=R } { h with rv:=v }/\Chg (NN n) w U W U:=by
 have h3:=hf.1;exact H.setReads hf hr (H.toks.keep hc (by omega)) (hc.mono fun _ h=>.inl h) hW
def PNode.read1 (s:PNode)(p:Nat)(r:PRead)(t:TkS):PNode:={ s with reads:=s.reads.take p++s.reads.drop (p+1),toks:=s.toks.set (r.tok-1) ⟨t.key,t.good,true⟩ }
def PNode.setFs (s:PNode)(fs:FQ):PNode:={ s with fs:=fs }
def PNode.read? (s:PNode)(i now p:Nat)(val:ByteArray)(has:Bool):Option PNode:=
 if s.small && decide (val.size<=200) then
  match s.ring,s.reads[p]?,s.toks[(s.reads.getD p ⟨⟨0,0,0,⟨#[]⟩⟩,0⟩).tok-1]? with
  | some ns,some r,some t=>
   if decide (1<=r.tok) && !t.used && decide (r.w.key.size<=1000) then
    if has then
     if t.good && servesF s i now ns r.w.key then
      if (FRec.entry r.w.key val false).ok then (fput 129 s.fs r.w.key val).map fun fs=>((s.read1 p r t).setFs fs).tell i r.w 0 val true else none
     else some ((s.read1 p r t).tell i r.w 0 val true)
    else some ((s.read1 p r t).tell i r.w 0 ⟨#[]⟩ false)
   else none
  | _,_,_=>none
 else none
def RnS (N T rb:Nat)(x:PRead)(W:World):Prop:=W.cell? ⟨N,4,none⟩=some (.pointer (some ⟨T,0,none⟩))/\W.cell? ⟨rb,4,none⟩=some (.int .i64 (x.tok:Int))
def RnT (N S c rb:Nat)(x:PRead)(W:World):Prop:=W.cell? ⟨N,0,none⟩=some (.pointer (some ⟨S,0,none⟩))/\W.cell? ⟨S,0,none⟩=some (.pointer (some ⟨c,0,none⟩))/\W.cell? ⟨rb,3,none⟩=some (.string x.w.key)
structure RdA (w:World)(U:Own)(ts n N d k i tk now ob rb y:Nat)(x:PRead)(s:PNode)(h:Hd)(W:World)(U':Own):Prop where
 node:NodeAt W U' ts n N d k i s h
 clk:ClockAt W U' tk k now
 out:Has W U' y ob 102 #[.slice none 0 0,.slice none 0 0]
 rd:Has W U' y rb 108 (encD x).toArray
 chg:Chg (NT ts n) w U W U'
theorem RdA.step {w W W2:World}{U U1 U2:Own}{ts n N d k i tk now ob rb y:Nat}{x:PRead}{s s2:PNode}{h h2:Hd}{T:Nat->Prop}(A:RdA w U ts n N d k i tk now ob rb y x s h W U1)(H:NodeAt W2 U2 ts n N d k i s2 h2)(hc:Chg T W U1 W2 U2)(h1:∀ x,T x->NT ts n x)(h2':¬ NT ts n y)(h3:¬ NT ts n tk):RdA w U ts n N d k i tk now ob rb y x s2 h2 W2 U2:=
 ⟨H,A.clk.keep hc fun h=>h3 (h1 _ h),A.out.keep hc fun h=>h2' (h1 _ h),A.rd.keep hc fun h=>h2' (h1 _ h),A.chg.trans (hc.mono h1)⟩
def RdC (W:World)(N ob rb S T:Nat)(x:PRead):Prop:=W.cell? ⟨rb,0,none⟩=some (.int .i64 (x.w.node:Int))/\W.cell? ⟨rb,1,none⟩=some (.int .i64 (x.w.id:Int))/\W.cell? ⟨rb,2,none⟩=some (.int .i64 (x.w.op:Int))/\W.cell? ⟨rb,3,none⟩=some (.string x.w.key)/\W.cell? ⟨rb,4,none⟩=some (.int .i64 (x.tok:Int))/\W.cell? ⟨ob,0,none⟩=some (.slice none 0 0)/\W.cell? ⟨ob,1,none⟩=some (.slice none 0 0)/\W.cell? ⟨N,0,none⟩=some (.pointer (some ⟨S,0,none⟩))/\W.cell? ⟨N,4,none⟩=some (.pointer (some ⟨T,0,none⟩))
theorem RdA.cells {w W:World}{U U1:Own}{ts n N d k i tk now ob rb y:Nat}{x:PRead}{s:PNode}{h:Hd}(A:RdA w U ts n N d k i tk now ob rb y x s h W U1):RdC W N ob rb h.S h.T x:=by
 obtain⟨mv,pv,hN,-,-⟩:=A.node.out.ex;exact⟨A.rd.cell 0,A.rd.cell 1,A.rd.cell 2,A.rd.cell 3,A.rd.cell 4,A.out.cell 0,A.out.cell 1,hN.cell 0,hN.cell 4⟩
theorem read88 (w:World)(U:Own)(ts n N d k i tk now p:Nat)(val:ByteArray)(has:Bool)(s s':PNode)(h:Hd)(H:NodeAt w U ts n N d k i s h)(hk:ClockAt w U tk k now)(hf:Far ts n)(htk:¬ NT ts n tk)(ha:s.read? i now p val has=some s') :
 Calls Tryz.prog 88 #[.pointer (some ⟨N,0,none⟩),.int .i64 (p:Int),.string val,.bool has] w fun e w'=>∃ v U',e=.returned v/\OutIs w' U' ts n N d k i v s'/\Chg (NT ts n) w U w' U':=by
 unfold PNode.read? at ha
 split at ha
 case isFalse=>cases ha
 rename_i hg;simp only[Bool.and_eq_true,decide_eq_true_eq]at hg;obtain⟨hsm,hvs⟩:=hg
 split at ha
 case h_2=>cases ha
 rename_i ns r t hring hr ht
 split at ha
 case isFalse=>cases ha
 rename_i hg;simp only[Bool.and_eq_true,decide_eq_true_eq,Bool.not_eq_true']at hg;obtain⟨⟨htok,hused⟩,hks⟩:=hg;have HS:=hid (PNode.small_of hsm);have hp:p<s.reads.length:=(List.getElem?_eq_some_iff.1 hr).1;have hrp:s.reads[p]=r:=(List.getElem?_eq_some_iff.1 hr).2
 have hrd:s.reads.getD p ⟨⟨0,0,0,⟨#[]⟩⟩,0⟩=r:=by rw[List.getD_eq_getElem?_getD,hr];rfl
 rw[hrd]at ht;have htl:r.tok-1<s.toks.length:=(List.getElem?_eq_some_iff.1 ht).1;have htp:s.toks[r.tok-1]=t:=(List.getElem?_eq_some_iff.1 ht).2;obtain⟨y,hy1,hy2⟩:=fresh95 w U
 have hy:¬ NT ts n y:=by obtain⟨g1,g2,g3⟩:=hf;unfold NT ST;omega
 have HY:=hid hy;have HF:=hid hf;have HTK:=hid htk;obtain⟨W1,hW1⟩:∃ W,W=w.alloc (.cells #[.slice none 0 0,.slice none 0 0] 102):=⟨_,rfl⟩
 have hc1:Chg (fun _=>False) w U W1 (ext U w y):=by rw[hW1];exact((Chg.refl _ _ _).alloc _).ext _
 have hO1:Has W1 (ext U w y) y w.heap.size 102 #[.slice none 0 0,.slice none 0 0]:=⟨by rw[hW1];exact Blk.new _ _ _,ext_new (Nat.le_refl _)⟩;generalize ext U w y=U1 at hc1 hO1;obtain⟨W2,hW2⟩:∃ W,W=W1.alloc (.cells (encD r).toArray 108):=⟨_,rfl⟩
 have hc2:Chg (fun _=>False) W1 U1 W2 (ext U1 W1 y):=by rw[hW2];exact((Chg.refl _ _ _).alloc _).ext _
 have hc12:=hc1.trans hc2;have hA2:RdA w U ts n N d k i tk now w.heap.size W1.heap.size y r s h W2 (ext U1 W1 y):=⟨H.keep hc12 hf.1 fun _ h=>h.elim,hk.keep hc12 (fun h=>h),hO1.keep hc2 (fun h=>h),⟨by rw[hW2];exact Blk.new _ _ _,ext_new (Nat.le_refl _)⟩,hc12.mono fun _ h=>h.elim⟩;generalize ext U1 W1 y=U2 at hA2;obtain⟨A,c,hrv,-,-,-,hs,-,-⟩:=(H.reads.keep hc1 (fun h=>h)).slice;obtain⟨g,o,rfl,hcs⟩:=Sl.flat encD_len (by decide) hs p hp;rw[hrp]at hcs;have q0:W1.cell? ⟨g,o+p*5,none⟩=some (.int .i64 (r.w.node:Int)):=hcs 0 _ rfl;have q1:W1.cell? ⟨g,o+p*5+1,none⟩=some (.int .i64 (r.w.id:Int)):=hcs 1 _ rfl;have q2:W1.cell? ⟨g,o+p*5+2,none⟩=some (.int .i64 (r.w.op:Int)):=hcs 2 _ rfl;have q3:W1.cell? ⟨g,o+p*5+3,none⟩=some (.string r.w.key):=hcs 3 _ rfl;have q4:W1.cell? ⟨g,o+p*5+4,none⟩=some (.int .i64 (r.tok:Int)):=hcs 4 _ rfl;obtain⟨mv1,pv1,hNb1,-,-⟩:=(H.keep hc1 hf.1 fun _ h=>h.elim).out.ex
 have d10:W1.cell? ⟨N,10,none⟩=some (.slice (some ⟨g,o,none⟩) s.reads.length c):=by rw[<- hrv];exact hNb1.cell 10
 obtain⟨mv2,pv2,hNb2,-,-⟩:=hA2.node.out.ex
 have e10:W2.cell? ⟨N,10,none⟩=some (.slice (some ⟨g,o,none⟩) s.reads.length c):=by rw[<- hrv];exact hNb2.cell 10
 have k1:¬ ((p:Int)<0):=by omega
 have k2:¬ ((s.reads.length:Int)<=(p:Int)):=by omega
 have k3:(p:Int)<(s.reads.length:Int):=by omega
 have k4:(0:Int)<=(p:Int):=by omega
 have k5:(p:Int)<=1000:=by have:=HS.out.reads;omega
 have hr2:Rw W2 U2 (n+192) 108 5 (.slice (some ⟨g,o,none⟩) s.reads.length c) s.reads.length (s.reads.flatMap encD):=by rw[<- hrv];exact hA2.node.reads
 have HD:=hid (del117 W2 U2 (n+192) _ s.reads.length p _ hr2 hp (by have:=HS.out.reads;omega) (flat_one encD_one _));have HR:=hid (And.intro hring (And.intro hr (And.intro ht (And.intro htok (And.intro hused hks)))));have HV:=hid hvs;have HT:Hid (∃ h:r.tok-1<s.toks.length,s.toks[r.tok-1]=t):=hid ⟨htl,htp⟩;clear htp htl;have HAs:=hid ha;have HA2:=hid hA2;have HW1:=hid hW1;have HW2:=hid hW2;unfold encD at HW2;clear H hk hf htk ha hy hy1 hy2 hc1 hO1 hc2 hc12 hA2 hs hcs hrv hNb1 hNb2 hr2 hring hr ht htok hused hks hsm hvs hrp hrd hW1 hW2 hp;go_enter Tryz.func88,Tryz.ntmps88
 go_wp2_with (first|rw[<- HW1.out]|rw[<- HW2.out]|(go_at_call 117;fail))
 refine HD.out.mono ?_;rintro e w3 ⟨v3,rfl,hr3,hc3⟩;obtain⟨A3,c3,rfl,-⟩:=hr3.slice;rw[flat_take encD_len,flat_drop encD_len,<- List.flatMap_append]at hr3;obtain⟨R,hR⟩:∃ R,R=s.reads.take p++s.reads.drop (p+1):=⟨_,rfl⟩
 have hlen:s.reads.length-1=R.length:=by rw[hR];simp;omega
 rw[<- hR,hlen]at hr3;rw[hlen];obtain⟨W4,hW4⟩:∃ W,W=w3.setCell ⟨N,10,none⟩ (.slice A3 R.length c3):=⟨_,rfl⟩;obtain⟨hN4,hc4⟩:=HA2.out.node.setReads2 HF.out hr3 hc3 hW4;obtain⟨mv3,pv3,hNb3,-,-⟩:=HA2.out.node.out.ex;have hn95:=HF.out.1;have hNb3':=hNb3.keep hc3 (by omega);have f10:w3.cell? ⟨N,10,none⟩=some h.rv:=hNb3'.cell 10;have g10:=hNb3'.frozen 10;have hA4:=HA2.out.step hN4 hc4 (fun x hx=>.inr hx) HY.out HTK.out;have hC4:=hA4.cells;unfold RdC at hC4;obtain⟨r0,r1,r2,r3,r4,o0,o1,n0,n4⟩:=hC4;have S4:Hid (RnS N h.T W1.heap.size r W4.drew):=hid ⟨n4,r4⟩;obtain⟨htl,htp⟩:=HT.out;have hTU:=tokUse W4.drew U2 (n+672) h.T s.toks (r.tok-1) (hA4.node.toks.keep ((Chg.refl (fun _=>False) W4 U2).drew) (fun h=>h)) htl (by rw[htp];exact HR.out.2.2.2.2.1);rw[show r.tok-1+1=r.tok by have:=HR.out.2.2.2.1;omega,htp]at hTU;have HTU:=hid hTU;have HA4:=hid hA4;have HW4:=hid hW4;have HRs:=hid hR;clear htp htl;clear hN4 hc4 hA4 hTU hNb3 hNb3' hr3 hc3 hW4 hR hlen HD HA2 q0 q1 q2 q3 q4 d10 e10
 cases has with
 | false=>
  have hs:=HAs.out;rw[if_neg (by simp)]at hs
  injection hs with hs
  have HSEQ:Hid (s'=(s.read1 p r t).tell i r.w 0 ⟨#[]⟩ false):=hid hs.symm;clear hs HAs
  go_wp2_with (first|rw[<- HW4.out]|fail)
  refine wp_region_hl [6] [0,1,2,3,4,5,6,7,8,9,10] (RnS N h.T W1.heap.size r) (by kernel_rfl) (by kernel_rfl) S4.out ?_
  iterate 6 (refine hd_take (v:=?_) rfl rfl (by kernel_rfl) (fun W hW=>?_) ?_;rotate_left;(obtain⟨r0,r1⟩:=hW;first|(go_simp;done)|(go_simp;with_reducible rfl)))
  refine hd_loud rfl rfl fun K hK=>?_;go_simp;refine HTU.out.mono ?_;rintro e w5 ⟨rfl,ht5,hc5⟩;have hcd:Chg (fun x=>NT ts n x) W4 U2 w5 U2:=((Chg.refl (fun x=>NT ts n x) W4 U2).drew).trans (hc5.mono fun x hx=>.inr (by omega));have hN5:=HA4.out.node.setToks HF.out ht5 (((Chg.refl _ W4 U2).drew).trans hc5);have hA5:=HA4.out.step hN5 hcd (fun _ h=>h) HY.out HTK.out;have hC5:=hA5.cells;unfold RdC at hC5;obtain⟨r0,r1,r2,r3,r4,o0,o1,n0,n4⟩:=hC5;have S5:Hid (RnS N h.T W1.heap.size r w5):=hid ⟨n4,r4⟩;have HA5:=hid hA5;clear hcd hN5 hA5 ht5 hc5 HTU HA4 HW4;refine hK _ _ S5.out ?_;clear hK
  iterate 3 (refine hd_take (v:=?_) rfl rfl (by kernel_rfl) (fun W hW=>?_) ?_;rotate_left;(first|(go_simp;done)|(go_simp;with_reducible rfl)))
  refine hd_take (v:=?_) rfl rfl (by kernel_rfl) (fun W hW=>?_) (hd_end ?_)
  rotate_left
  ·first|(go_simp;done)|(go_simp;with_reducible rfl)
  simp only[zqa,zqb,zqc,zqd,Nat.zero_add,Nat.reduceAdd]
  have HX5:Hid (RdA w U ts n N d k i tk now w.heap.size W1.heap.size y r (s.read1 p r t) _ w5 U2):=hid (by
   have:=HA5.out;rw[HRs.out]at this
   exact this)
  clear HA5;generalize t.good=tg
  cases tg with
  | false=>
   have HTe:=hid (nodeTell w5 _ ts n N d k i _ _ HX5.out.node HF.out (by have:=HS.out.ms;simpa [PNode.read1,PNode.setFs] using (by omega:s.ms.length<=1000)) (by have:=HS.out.rs;simpa [PNode.read1,PNode.setFs] using (by omega:s.rs.length<=1000)) r.w 0 ⟨#[]⟩ false);unfold encW at HTe
   go_wp2_with (go_at_call 112;fail)
   refine HTe.out.mono ?_;rintro e w6 ⟨⟨v6,rfl⟩,U6,hn6,hc6⟩;have hc6':Chg (NT ts n) _ _ w6 U6:=hc6.mono fun x hx=>.inr (by rcases hx with e|e|e <;> omega);have hA6:=HX5.out.step hn6 hc6' (fun _ h=>h) HY.out HTK.out;have HDi:=hid (hn6.did HF.out);have HA6:=hid hA6;clear hn6 hc6 hc6' hA6 HTe
   go_wp2_with (go_at_call 113;fail)
   refine HDi.out.mono ?_;rintro e w7 ⟨A7,ca,B7,cb,rfl,ho7,hc7⟩;have hc7':Chg (NT ts n) _ _ w7 U6:=hc7.mono fun x hx=>.inr (by omega);have hO7:=HA6.out.out.keep hc7' HY.out;have u0:w7.cell? ⟨w.heap.size,0,none⟩=some (.slice none 0 0):=hO7.cell 0;have u1:w7.cell? ⟨w.heap.size,1,none⟩=some (.slice none 0 0):=hO7.cell 1;have p0:=hO7.frozen 0;have p1:=hO7.frozen 1;have HCC:=hid (HA6.out.chg.trans hc7');have HO7:=hid hO7;have HOu:=hid ho7;clear hc7 hc7' hO7 ho7 HDi;generalize hl1:List.length (PNode.ms _)=l1 at *;generalize hl2:List.length (PNode.rs _)=l2 at *
   have HB:Hid (∀ W,W=(w7.setCell ⟨w.heap.size,0,none⟩ (.slice A7 l1 ca)).setCell ⟨w.heap.size,1,none⟩ (.slice B7 l2 cb)->Blk W w.heap.size 102 #[.slice A7 l1 ca,.slice B7 l2 cb]/\OutIs W U6 ts n N d k i (.agg #[.slice A7 l1 ca,.slice B7 l2 cb]) s'/\Chg (NT ts n) w U W U6):=hid fun W hW=>by
    have hc8:Chg (fun q=>q=y) w7 U6 W U6:=by rw[hW];exact((Chg.refl _ _ _).setCell (p:=⟨w.heap.size,0,none⟩) HO7.out.own _).setCell (p:=⟨w.heap.size,1,none⟩) HO7.out.own _
    refine⟨by rw[hW];exact((HO7.out.set_ 0 (.slice A7 l1 ca)).set_ 1 (.slice B7 l2 cb)).blk,?_,?_⟩
    ·have:=HOu.out.keep hc8 HF.out.1 (fun x hx=>by rw[hx];exact HY.out)
     rw[HSEQ.out];exact this
    ·rw[hW]
     exact(HCC.out.setNew (p:=⟨w.heap.size,0,none⟩) (Nat.le_refl _) _).setNew (p:=⟨w.heap.size,1,none⟩) (Nat.le_refl _) _
   clear HOu HA6 hl1 hl2
   go_wp2
   refine bodyPost_ret (results_cell rfl _ _ _ ⟨w.heap.size,0,none⟩ (.agg #[.slice A7 l1 ca,.slice B7 l2 cb]) rfl ?_) rfl ?_
   ·exact loadVar_out (HB.out _ rfl).1
   exact⟨_,U6,rfl,(HB.out _ rfl).2⟩
  | true=>
   have HTe:=hid (nodeTell w5 _ ts n N d k i _ _ HX5.out.node HF.out (by have:=HS.out.ms;simpa [PNode.read1,PNode.setFs] using (by omega:s.ms.length<=1000)) (by have:=HS.out.rs;simpa [PNode.read1,PNode.setFs] using (by omega:s.rs.length<=1000)) r.w 0 ⟨#[]⟩ false);unfold encW at HTe
   go_wp2_with (go_at_call 112;fail)
   refine HTe.out.mono ?_;rintro e w6 ⟨⟨v6,rfl⟩,U6,hn6,hc6⟩;have hc6':Chg (NT ts n) _ _ w6 U6:=hc6.mono fun x hx=>.inr (by rcases hx with e|e|e <;> omega);have hA6:=HX5.out.step hn6 hc6' (fun _ h=>h) HY.out HTK.out;have HDi:=hid (hn6.did HF.out);have HA6:=hid hA6;clear hn6 hc6 hc6' hA6 HTe
   go_wp2_with (go_at_call 113;fail)
   refine HDi.out.mono ?_;rintro e w7 ⟨A7,ca,B7,cb,rfl,ho7,hc7⟩;have hc7':Chg (NT ts n) _ _ w7 U6:=hc7.mono fun x hx=>.inr (by omega);have hO7:=HA6.out.out.keep hc7' HY.out;have u0:w7.cell? ⟨w.heap.size,0,none⟩=some (.slice none 0 0):=hO7.cell 0;have u1:w7.cell? ⟨w.heap.size,1,none⟩=some (.slice none 0 0):=hO7.cell 1;have p0:=hO7.frozen 0;have p1:=hO7.frozen 1;have HCC:=hid (HA6.out.chg.trans hc7');have HO7:=hid hO7;have HOu:=hid ho7;clear hc7 hc7' hO7 ho7 HDi;generalize hl1:List.length (PNode.ms _)=l1 at *;generalize hl2:List.length (PNode.rs _)=l2 at *
   have HB:Hid (∀ W,W=(w7.setCell ⟨w.heap.size,0,none⟩ (.slice A7 l1 ca)).setCell ⟨w.heap.size,1,none⟩ (.slice B7 l2 cb)->Blk W w.heap.size 102 #[.slice A7 l1 ca,.slice B7 l2 cb]/\OutIs W U6 ts n N d k i (.agg #[.slice A7 l1 ca,.slice B7 l2 cb]) s'/\Chg (NT ts n) w U W U6):=hid fun W hW=>by
    have hc8:Chg (fun q=>q=y) w7 U6 W U6:=by rw[hW];exact((Chg.refl _ _ _).setCell (p:=⟨w.heap.size,0,none⟩) HO7.out.own _).setCell (p:=⟨w.heap.size,1,none⟩) HO7.out.own _
    refine⟨by rw[hW];exact((HO7.out.set_ 0 (.slice A7 l1 ca)).set_ 1 (.slice B7 l2 cb)).blk,?_,?_⟩
    ·have:=HOu.out.keep hc8 HF.out.1 (fun x hx=>by rw[hx];exact HY.out)
     rw[HSEQ.out];exact this
    ·rw[hW]
     exact(HCC.out.setNew (p:=⟨w.heap.size,0,none⟩) (Nat.le_refl _) _).setNew (p:=⟨w.heap.size,1,none⟩) (Nat.le_refl _) _
   clear HOu HA6 hl1 hl2
   go_wp2
   refine bodyPost_ret (results_cell rfl _ _ _ ⟨w.heap.size,0,none⟩ (.agg #[.slice A7 l1 ca,.slice B7 l2 cb]) rfl ?_) rfl ?_
   ·exact loadVar_out (HB.out _ rfl).1
   exact⟨_,U6,rfl,(HB.out _ rfl).2⟩
 | true=>
  have hs:=HAs.out;rw[if_pos rfl]at hs;have HAs2:=hid hs;clear hs HAs
  have kv:(val.size:Int)<=200:=by have:=HV.out;omega
  go_wp2_with (first|rw[<- HW4.out]|fail)
  refine wp_region_hl [6] [0,1,2,3,4,5,6,7,8,9,10] (RnS N h.T W1.heap.size r) (by kernel_rfl) (by kernel_rfl) S4.out ?_
  iterate 6 (refine hd_take (v:=?_) rfl rfl (by kernel_rfl) (fun W hW=>?_) ?_;rotate_left;(obtain⟨r0,r1⟩:=hW;first|(go_simp;done)|(go_simp;with_reducible rfl)))
  refine hd_loud rfl rfl fun K hK=>?_;go_simp;refine HTU.out.mono ?_;rintro e w5 ⟨rfl,ht5,hc5⟩;have hcd:Chg (fun x=>NT ts n x) W4 U2 w5 U2:=((Chg.refl (fun x=>NT ts n x) W4 U2).drew).trans (hc5.mono fun x hx=>.inr (by omega));have hN5:=HA4.out.node.setToks HF.out ht5 (((Chg.refl _ W4 U2).drew).trans hc5);have hA5:=HA4.out.step hN5 hcd (fun _ h=>h) HY.out HTK.out;have hC5:=hA5.cells;unfold RdC at hC5;obtain⟨r0,r1,r2,r3,r4,o0,o1,n0,n4⟩:=hC5;have S5:Hid (RnS N h.T W1.heap.size r w5):=hid ⟨n4,r4⟩;have HA5:=hid hA5;clear hcd hN5 hA5 ht5 hc5 HTU HA4 HW4;refine hK _ _ S5.out ?_;clear hK
  iterate 3 (refine hd_take (v:=?_) rfl rfl (by kernel_rfl) (fun W hW=>?_) ?_;rotate_left;(first|(go_simp;done)|(go_simp;with_reducible rfl)))
  refine hd_take (v:=?_) rfl rfl (by kernel_rfl) (fun W hW=>?_) (hd_end ?_)
  rotate_left
  ·first|(go_simp;done)|(go_simp;with_reducible rfl)
  simp only[zqa,zqb,zqc,zqd,Nat.zero_add,Nat.reduceAdd]
  have HX5:Hid (RdA w U ts n N d k i tk now w.heap.size W1.heap.size y r (s.read1 p r t) _ w5 U2):=hid (by
   have:=HA5.out;rw[HRs.out]at this
   exact this)
  clear HA5
  cases htg:t.good with
  | false=>
   have hs:=HAs2.out;rw[if_neg (by rw[htg];simp)]at hs
   injection hs with hs
   have HSEQ:Hid (s'=(s.read1 p r t).tell i r.w 0 val true):=hid hs.symm;clear hs HAs2 htg;have HTe:=hid (nodeTell w5 _ ts n N d k i _ _ HX5.out.node HF.out (by have:=HS.out.ms;simpa [PNode.read1,PNode.setFs] using (by omega:s.ms.length<=1000)) (by have:=HS.out.rs;simpa [PNode.read1,PNode.setFs] using (by omega:s.rs.length<=1000)) r.w 0 val true);unfold encW at HTe
   go_wp2_with (go_at_call 112;fail)
   refine HTe.out.mono ?_;rintro e w6 ⟨⟨v6,rfl⟩,U6,hn6,hc6⟩;have hc6':Chg (NT ts n) _ _ w6 U6:=hc6.mono fun x hx=>.inr (by rcases hx with e|e|e <;> omega);have hA6:=HX5.out.step hn6 hc6' (fun _ h=>h) HY.out HTK.out;have HDi:=hid (hn6.did HF.out);have HA6:=hid hA6;clear hn6 hc6 hc6' hA6 HTe
   go_wp2_with (go_at_call 113;fail)
   refine HDi.out.mono ?_;rintro e w7 ⟨A7,ca,B7,cb,rfl,ho7,hc7⟩;have hc7':Chg (NT ts n) _ _ w7 U6:=hc7.mono fun x hx=>.inr (by omega);have hO7:=HA6.out.out.keep hc7' HY.out;have u0:w7.cell? ⟨w.heap.size,0,none⟩=some (.slice none 0 0):=hO7.cell 0;have u1:w7.cell? ⟨w.heap.size,1,none⟩=some (.slice none 0 0):=hO7.cell 1;have p0:=hO7.frozen 0;have p1:=hO7.frozen 1;have HCC:=hid (HA6.out.chg.trans hc7');have HO7:=hid hO7;have HOu:=hid ho7;clear hc7 hc7' hO7 ho7 HDi;generalize hl1:List.length (PNode.ms _)=l1 at *;generalize hl2:List.length (PNode.rs _)=l2 at *
   have HB:Hid (∀ W,W=(w7.setCell ⟨w.heap.size,0,none⟩ (.slice A7 l1 ca)).setCell ⟨w.heap.size,1,none⟩ (.slice B7 l2 cb)->Blk W w.heap.size 102 #[.slice A7 l1 ca,.slice B7 l2 cb]/\OutIs W U6 ts n N d k i (.agg #[.slice A7 l1 ca,.slice B7 l2 cb]) s'/\Chg (NT ts n) w U W U6):=hid fun W hW=>by
    have hc8:Chg (fun q=>q=y) w7 U6 W U6:=by rw[hW];exact((Chg.refl _ _ _).setCell (p:=⟨w.heap.size,0,none⟩) HO7.out.own _).setCell (p:=⟨w.heap.size,1,none⟩) HO7.out.own _
    refine⟨by rw[hW];exact((HO7.out.set_ 0 (.slice A7 l1 ca)).set_ 1 (.slice B7 l2 cb)).blk,?_,?_⟩
    ·have:=HOu.out.keep hc8 HF.out.1 (fun x hx=>by rw[hx];exact HY.out)
     rw[HSEQ.out];exact this
    ·rw[hW]
     exact(HCC.out.setNew (p:=⟨w.heap.size,0,none⟩) (Nat.le_refl _) _).setNew (p:=⟨w.heap.size,1,none⟩) (Nat.le_refl _) _
   clear HOu HA6 hl1 hl2
   go_wp2
   refine bodyPost_ret (results_cell rfl _ _ _ ⟨w.heap.size,0,none⟩ (.agg #[.slice A7 l1 ca,.slice B7 l2 cb]) rfl ?_) rfl ?_
   ·exact loadVar_out (HB.out _ rfl).1
   exact⟨_,U6,rfl,(HB.out _ rfl).2⟩
  | true=>
   have hsv:=serves33 w5 U2 ts n N d k i tk now _ _ HX5.out.node HX5.out.clk ns HR.out.1 HS.out.f r.w.key HR.out.2.2.2.2.2 HF.out.1;have HSV:Hid (Calls Tryz.prog 33 #[.pointer (some ⟨N,0,none⟩),.string r.w.key] w5 fun e w'=>e=.returned (.bool (servesF s i now ns r.w.key))/\Below w5.heap.size w5 w'):=hid hsv;have HGd:=hid htg;clear htg hsv
   go_wp2_with (go_at_call 33;fail)
   refine HSV.out.mono ?_;rintro e w5b ⟨rfl,hb5⟩;have hcb:Chg (fun _=>False) w5 U2 w5b (ext U2 w5 0):=Chg.of_below hb5 _;have hAb:=HX5.out.step (HX5.out.node.keep hcb HF.out.1 fun _ h=>h.elim) hcb (fun _ h=>h.elim) HY.out HTK.out;have hCb:=hAb.cells;unfold RdC at hCb;obtain⟨r0,r1,r2,r3,r4,o0,o1,n0,n4⟩:=hCb;generalize ext U2 w5 0=U5 at hAb;have HX6:=hid hAb;clear hcb hAb hb5 HSV HX5
   cases hsv:servesF s i now ns r.w.key with
   | false=>
    have hs:=HAs2.out;rw[if_neg (by rw[hsv];simp)]at hs
    injection hs with hs
    have HSEQ:Hid (s'=(s.read1 p r t).tell i r.w 0 val true):=hid hs.symm;clear hs HAs2 hsv;have HTe:=hid (nodeTell w5b _ ts n N d k i _ _ HX6.out.node HF.out (by have:=HS.out.ms;simpa [PNode.read1,PNode.setFs] using (by omega:s.ms.length<=1000)) (by have:=HS.out.rs;simpa [PNode.read1,PNode.setFs] using (by omega:s.rs.length<=1000)) r.w 0 val true);unfold encW at HTe
    go_wp2_with (go_at_call 112;fail)
    refine HTe.out.mono ?_;rintro e w6 ⟨⟨v6,rfl⟩,U6,hn6,hc6⟩;have hc6':Chg (NT ts n) _ _ w6 U6:=hc6.mono fun x hx=>.inr (by rcases hx with e|e|e <;> omega);have hA6:=HX6.out.step hn6 hc6' (fun _ h=>h) HY.out HTK.out;have HDi:=hid (hn6.did HF.out);have HA6:=hid hA6;clear hn6 hc6 hc6' hA6 HTe
    go_wp2_with (go_at_call 113;fail)
    refine HDi.out.mono ?_;rintro e w7 ⟨A7,ca,B7,cb,rfl,ho7,hc7⟩;have hc7':Chg (NT ts n) _ _ w7 U6:=hc7.mono fun x hx=>.inr (by omega);have hO7:=HA6.out.out.keep hc7' HY.out;have u0:w7.cell? ⟨w.heap.size,0,none⟩=some (.slice none 0 0):=hO7.cell 0;have u1:w7.cell? ⟨w.heap.size,1,none⟩=some (.slice none 0 0):=hO7.cell 1;have p0:=hO7.frozen 0;have p1:=hO7.frozen 1;have HCC:=hid (HA6.out.chg.trans hc7');have HO7:=hid hO7;have HOu:=hid ho7;clear hc7 hc7' hO7 ho7 HDi;generalize hl1:List.length (PNode.ms _)=l1 at *;generalize hl2:List.length (PNode.rs _)=l2 at *
    have HB:Hid (∀ W,W=(w7.setCell ⟨w.heap.size,0,none⟩ (.slice A7 l1 ca)).setCell ⟨w.heap.size,1,none⟩ (.slice B7 l2 cb)->Blk W w.heap.size 102 #[.slice A7 l1 ca,.slice B7 l2 cb]/\OutIs W U6 ts n N d k i (.agg #[.slice A7 l1 ca,.slice B7 l2 cb]) s'/\Chg (NT ts n) w U W U6):=hid fun W hW=>by
     have hc8:Chg (fun q=>q=y) w7 U6 W U6:=by rw[hW];exact((Chg.refl _ _ _).setCell (p:=⟨w.heap.size,0,none⟩) HO7.out.own _).setCell (p:=⟨w.heap.size,1,none⟩) HO7.out.own _
     refine⟨by rw[hW];exact((HO7.out.set_ 0 (.slice A7 l1 ca)).set_ 1 (.slice B7 l2 cb)).blk,?_,?_⟩
     ·have:=HOu.out.keep hc8 HF.out.1 (fun x hx=>by rw[hx];exact HY.out)
      rw[HSEQ.out];exact this
     ·rw[hW]
      exact(HCC.out.setNew (p:=⟨w.heap.size,0,none⟩) (Nat.le_refl _) _).setNew (p:=⟨w.heap.size,1,none⟩) (Nat.le_refl _) _
    clear HOu HA6 hl1 hl2
    go_wp2
    refine bodyPost_ret (results_cell rfl _ _ _ ⟨w.heap.size,0,none⟩ (.agg #[.slice A7 l1 ca,.slice B7 l2 cb]) rfl ?_) rfl ?_
    ·exact loadVar_out (HB.out _ rfl).1
    exact⟨_,U6,rfl,(HB.out _ rfl).2⟩
   | true=>
    have hs:=HAs2.out;rw[if_pos (by rw[hsv,HGd.out];rfl)]at hs
    split at hs
    case isFalse=>cases hs
    rename_i hok;obtain⟨fs',hfs,hs⟩:=Option.map_eq_some_iff.1 hs;have HSEQ:Hid (s'=((s.read1 p r t).setFs fs').tell i r.w 0 val true):=hid hs.symm;have HPU:=hid (And.intro hok hfs);clear hs HAs2 hsv hok hfs;obtain⟨cf,jf,kp,lf,Z,hSt,hFl,-,hDv,hfl,-⟩:=HX6.out.node.store.flash;have hcd:Chg (fun _=>False) w5b U5 w5b.drew U5:=(Chg.refl _ _ _).drew;have S6:Hid (RnT N h.S cf W1.heap.size r w5b.drew):=hid ⟨n0,hSt.cell 0,r3⟩;have HPt:=hid (put119 w5b.drew U5 (ts+6) (ts+9) cf d 162 129 1200 lf s.fs fs' Z Lasts r.w.key val (hFl.quiet hcd) (hDv.keep hcd (fun h=>h)) (by have:=HF.out.2.1;omega) HPU.out.1 HPU.out.2);have HFL:=hid hfl;have HST:=hid hSt;clear hSt hFl hDv hfl hcd
    go_wp2_with fail
    refine wp_region_hl [] [0,1,2,3,4,5,6,7,8,9,10,11] (RnT N h.S cf W1.heap.size r) (by kernel_rfl) (by kernel_rfl) S6.out ?_
    iterate 11 (refine hd_take (v:=?_) rfl rfl (by kernel_rfl) (fun W hW=>?_) ?_;rotate_left;(obtain⟨r0,r1,r2⟩:=hW;first|(go_simp;done)|(go_simp;with_reducible rfl)))
    refine hd_take (v:=?_) rfl rfl (by kernel_rfl) (fun W hW=>?_) (hd_end ?_)
    rotate_left
    ·obtain⟨r0,r1,r2⟩:=hW;first|(go_simp;done)|(go_simp;with_reducible rfl)
    simp only[zqa,zqb,zqc,zqd,Nat.zero_add,Nat.reduceAdd]
    go_wp2_with (go_at_call 119;fail)
    refine HPt.out.mono ?_;rintro e w7p ⟨rfl,U7,Z7,F7,hf7,hd7,hz7,hc7p⟩;have hcF:Chg (FT (ts+6) (ts+9)) w5b U5 w7p U7:=((Chg.refl _ w5b U5).drew).trans hc7p
    have hcS:Chg (ST ts) w5b U5 w7p U7:=hcF.mono fun x hx=>by unfold FT at hx;have:=HF.out.2.1;unfold ST;omega
    have hy7:¬ ST ts y:=fun e=>HY.out (.inl e)
    have hn7:¬ ST ts n:=by obtain⟨g1,g2,g3⟩:=HF.out;unfold ST;omega
    have hrd:=HX6.out.rd.keep hcS hy7;have hou:=HX6.out.out.keep hcS hy7;obtain⟨mv7,pv7,hNb,-,-⟩:=HX6.out.node.out.ex;have hNk:=hNb.keep hcS hn7;have hS7:=HST.out.keep hcF (by have:=HF.out.2.1;unfold FT;omega);have hCb:RdC w7p N w.heap.size W1.heap.size h.S h.T r:=⟨hrd.cell 0,hrd.cell 1,hrd.cell 2,hrd.cell 3,hrd.cell 4,hou.cell 0,hou.cell 1,hNk.cell 0,hNk.cell 4⟩;unfold RdC at hCb;obtain⟨r0,r1,r2,r3,r4,o0,o1,n0,n4⟩:=hCb;have s0:w7p.cell? ⟨h.S,0,none⟩=some (.pointer (some ⟨cf,0,none⟩)):=hS7.cell 0;have HFu:=hid (flush120 w7p U7 (ts+6) (ts+9) cf d 162 129 1200 lf fs' Z7 F7 hf7 hd7 (by have:=HF.out.2.1;omega));have HCF:=hid (And.intro hcF hz7);clear hf7 hd7 hz7 hc7p hcS hcF hy7 hn7 hrd hou hNb hNk hS7 HPt HST
    go_wp2_with (go_at_call 120;fail)
    refine HFu.out.mono ?_;rintro e w8 ⟨rfl,hf8,hd8,hc8p⟩;have hcF8:Chg (FT (ts+6) (ts+9)) w5b U5 w8 U7:=HCF.out.1.trans (hc8p.mono fun x hx=>.inr hx)
    have hcS8:Chg (ST ts) w5b U5 w8 U7:=hcF8.mono fun x hx=>by unfold FT at hx;have:=HF.out.2.1;unfold ST;omega
    have hA8:=HX6.out.step (HX6.out.node.setStore HF.out (HFL.out fs' Z7 w8 U7 hf8 hd8 HCF.out.2 hcF8) hcS8) hcS8 (fun x hx=>.inl hx) HY.out HTK.out;have hCb:=hA8.cells;unfold RdC at hCb;obtain⟨r0,r1,r2,r3,r4,o0,o1,n0,n4⟩:=hCb;have HX8:Hid (RdA w U ts n N d k i tk now w.heap.size W1.heap.size y r ((s.read1 p r t).setFs fs') _ w8 U7):=hid hA8;clear hf8 hd8 hc8p hcF8 hcS8 hA8 HFu HFL HX6 HCF s0;have HTe:=hid (nodeTell w8 _ ts n N d k i _ _ HX8.out.node HF.out (by have:=HS.out.ms;simpa [PNode.read1,PNode.setFs] using (by omega:s.ms.length<=1000)) (by have:=HS.out.rs;simpa [PNode.read1,PNode.setFs] using (by omega:s.rs.length<=1000)) r.w 0 val true);unfold encW at HTe
    go_wp2_with (go_at_call 112;fail)
    refine HTe.out.mono ?_;rintro e w6 ⟨⟨v6,rfl⟩,U6,hn6,hc6⟩;have hc6':Chg (NT ts n) _ _ w6 U6:=hc6.mono fun x hx=>.inr (by rcases hx with e|e|e <;> omega);have hA6:=HX8.out.step hn6 hc6' (fun _ h=>h) HY.out HTK.out;have HDi:=hid (hn6.did HF.out);have HA6:=hid hA6;clear hn6 hc6 hc6' hA6 HTe
    go_wp2_with (go_at_call 113;fail)
    refine HDi.out.mono ?_;rintro e w7 ⟨A7,ca,B7,cb,rfl,ho7,hc7⟩;have hc7':Chg (NT ts n) _ _ w7 U6:=hc7.mono fun x hx=>.inr (by omega);have hO7:=HA6.out.out.keep hc7' HY.out;have u0:w7.cell? ⟨w.heap.size,0,none⟩=some (.slice none 0 0):=hO7.cell 0;have u1:w7.cell? ⟨w.heap.size,1,none⟩=some (.slice none 0 0):=hO7.cell 1;have p0:=hO7.frozen 0;have p1:=hO7.frozen 1;have HCC:=hid (HA6.out.chg.trans hc7');have HO7:=hid hO7;have HOu:=hid ho7;clear hc7 hc7' hO7 ho7 HDi;generalize hl1:List.length (PNode.ms _)=l1 at *;generalize hl2:List.length (PNode.rs _)=l2 at *
    have HB:Hid (∀ W,W=(w7.setCell ⟨w.heap.size,0,none⟩ (.slice A7 l1 ca)).setCell ⟨w.heap.size,1,none⟩ (.slice B7 l2 cb)->Blk W w.heap.size 102 #[.slice A7 l1 ca,.slice B7 l2 cb]/\OutIs W U6 ts n N d k i (.agg #[.slice A7 l1 ca,.slice B7 l2 cb]) s'/\Chg (NT ts n) w U W U6):=hid fun W hW=>by
     have hc8:Chg (fun q=>q=y) w7 U6 W U6:=by rw[hW];exact((Chg.refl _ _ _).setCell (p:=⟨w.heap.size,0,none⟩) HO7.out.own _).setCell (p:=⟨w.heap.size,1,none⟩) HO7.out.own _
     refine⟨by rw[hW];exact((HO7.out.set_ 0 (.slice A7 l1 ca)).set_ 1 (.slice B7 l2 cb)).blk,?_,?_⟩
     ·have:=HOu.out.keep hc8 HF.out.1 (fun x hx=>by rw[hx];exact HY.out)
      rw[HSEQ.out];exact this
     ·rw[hW]
      exact(HCC.out.setNew (p:=⟨w.heap.size,0,none⟩) (Nat.le_refl _) _).setNew (p:=⟨w.heap.size,1,none⟩) (Nat.le_refl _) _
    clear HOu HA6 hl1 hl2
    go_wp2
    refine bodyPost_ret (results_cell rfl _ _ _ ⟨w.heap.size,0,none⟩ (.agg #[.slice A7 l1 ca,.slice B7 l2 cb]) rfl ?_) rfl ?_
    ·exact loadVar_out (HB.out _ rfl).1
    exact⟨_,U6,rfl,(HB.out _ rfl).2⟩
theorem field45_2 (a b c:Int)(f:Bool)(W:World):(Instr.field 45 (.agg #[.int .i64 a,.int .i64 b,.int .i64 c,.bool f]) 2).run Tryz.prog W=.ok (.int .i64 c) W:=by kernel_rfl
theorem next111z (w:World):Calls Tryz.prog 111 #[.pointer none] w fun e w'=>e=.returned (.slice none 0 0)/\w=w':=by
 go_enter Tryz.func111,Tryz.ntmps111
 go_wp2
 go_ret;exact⟨rfl,rfl⟩
theorem look95 (q:Int)(W:World):(Instr.lookup 95 (.map none) (.int .i64 q) false).run Tryz.prog W=.ok (.pointer none) W:=by kernel_rfl
def renewM (i now ep:Nat):PMsg:=⟨1,i,0,ep,now,0,0,⟨#[]⟩,0,⟨#[]⟩,⟨#[]⟩,false,[]⟩
def PNode.beat1 (s:PNode)(i now:Nat):PNode:={ s with ms:=s.ms++[renewM i now s.m.e] }
def PNode.setW (s:PNode)(L:List PWait):PNode:={ s with waits:=L }
def PNode.beat? (s:PNode)(i now:Nat):Option PNode:=
 if s.small && decide (s.m.r=0) && decide (now<=1099511627776) then
  match s.waits with
  | []=>some (s.beat1 i now)
  | [x]=>if x.when_<=now then if now-x.when_<60 then some (s.beat1 i now) else some (((s.beat1 i now).tell i x.w 10 ⟨#[]⟩ false).setW []) else none
  | _=>none
 else none
structure BtA (w:World)(U:Own)(ts n N d k i tk now ob y:Nat)(s:PNode)(h:Hd)(W:World)(U':Own):Prop where
 node:NodeAt W U' ts n N d k i s h
 clk:ClockAt W U' tk k now
 out:Has W U' y ob 102 #[.slice none 0 0,.slice none 0 0]
 chg:Chg (NT ts n) w U W U'
theorem BtA.step {w W W2:World}{U U1 U2:Own}{ts n N d k i tk now ob y:Nat}{s s2:PNode}{h h2:Hd}{T:Nat->Prop}(A:BtA w U ts n N d k i tk now ob y s h W U1)(H:NodeAt W2 U2 ts n N d k i s2 h2)(hc:Chg T W U1 W2 U2)(h1:∀ x,T x->NT ts n x)(h2':¬ NT ts n y)(h3:¬ NT ts n tk):BtA w U ts n N d k i tk now ob y s2 h2 W2 U2:=
 ⟨H,A.clk.keep hc fun h=>h3 (h1 _ h),A.out.keep hc fun h=>h2' (h1 _ h),A.chg.trans (hc.mono h1)⟩
def BtS (N S L kp:Nat)(W:World):Prop:=W.cell? ⟨N,0,none⟩=some (.pointer (some ⟨S,0,none⟩))/\W.cell? ⟨N,1,none⟩=some (.pointer (some ⟨L,0,none⟩))/\W.cell? ⟨S,2,none⟩=some (.pointer (some ⟨kp,0,none⟩))
def BtT (N L k xb:Nat)(x:PWait)(W:World):Prop:=W.cell? ⟨N,1,none⟩=some (.pointer (some ⟨L,0,none⟩))/\W.cell? ⟨L,0,none⟩=some (.pointer (some ⟨k,0,none⟩))/\W.cell? ⟨xb,6,none⟩=some (.int .i64 (x.when_:Int))
theorem beat83 (w:World)(U:Own)(ts n N d k i tk now:Nat)(s s':PNode)(h:Hd)(H:NodeAt w U ts n N d k i s h)(hk:ClockAt w U tk k now)(hf:Far ts n)(htk:¬ NT ts n tk)(ha:s.beat? i now=some s') :
 Calls Tryz.prog 83 #[.pointer (some ⟨N,0,none⟩)] w fun e w'=>∃ v U',e=.returned v/\OutIs w' U' ts n N d k i v s'/\Chg (NT ts n) w U w' U':=by
 unfold PNode.beat? at ha
 split at ha
 case isFalse=>cases ha
 rename_i hg;simp only[Bool.and_eq_true,decide_eq_true_eq]at hg;obtain⟨⟨hsm,hr0⟩,hnow⟩:=hg;have HS:=hid (PNode.small_of hsm);obtain⟨y,hy1,hy2⟩:=fresh95 w U
 have hy:¬ NT ts n y:=by obtain⟨g1,g2,g3⟩:=hf;unfold NT ST;omega
 obtain⟨W1,hW1⟩:∃ W,W=w.alloc (.cells #[.slice none 0 0,.slice none 0 0] 102):=⟨_,rfl⟩
 have hc1:Chg (fun _=>False) w U W1 (ext U w y):=by rw[hW1];exact((Chg.refl _ _ _).alloc _).ext _
 have hA1:BtA w U ts n N d k i tk now w.heap.size y s h W1 (ext U w y):=⟨H.keep hc1 hf.1 fun _ h=>h.elim,hk.keep hc1 (fun h=>h),⟨by rw[hW1];exact Blk.new _ _ _,ext_new (Nat.le_refl _)⟩,hc1.mono fun _ h=>h.elim⟩;generalize ext U w y=U1 at hA1;have hcd:Chg (fun _=>False) W1 U1 W1.drew U1:=(Chg.refl _ _ _).drew;have hA2:=hA1.step (hA1.node.keep hcd hf.1 fun _ h=>h.elim) hcd (fun _ h=>h.elim) hy htk;obtain⟨mv,pv,hNb,-,-⟩:=hA2.node.out.ex;obtain⟨cf,jf,kp,lf,lj,Z,hSS,-,-,hKK,-⟩:=hA2.node.store.ex
 have HC:Hid (∀ W,Below W1.drew.heap.size W1.drew W->BtS N h.S h.L kp W/\∃ U',BtA w U ts n N d k i tk now w.heap.size y s h W U'/\KeeperAt W U' (ts+1) kp d 0 s.tn s.m):=hid fun W hb=>by
  have hc:Chg (fun _=>False) W1.drew U1 W (ext U1 W1.drew 0):=Chg.of_below hb _;have a1:=hNb.keep hc id;exact⟨⟨a1.cell 0,a1.cell 1,(hSS.keep hc id).cell 2⟩,_,hA2.step (hA2.node.keep hc hf.1 fun _ h=>h.elim) hc (fun _ h=>h.elim) hy htk,hKK.keep hc id id⟩
 have S2:=hid (HC.out _ (Below.refl _ _)).1;have HAk:=hid (ask110 W1.drew U1 (n+576) h.L k s.ep s.en s.top tk now hA2.node.lease hA2.clk)
 have HMe:Hid (∀ W,Below W1.drew.heap.size W1.drew W->Calls Tryz.prog 48 #[.pointer (some ⟨kp,0,none⟩)] W fun e w'=>e=.returned (.agg #[.int .i64 (s.m.b:Int),.int .i64 (s.m.e:Int),.int .i64 0,.bool s.m.f])/\Below W.heap.size W w'):=hid fun W hb=>by
  obtain⟨-,U',-,h2⟩:=HC.out W hb;have:=meta48 W U' (ts+1) kp d 0 s.tn s.m h2;rw[hr0]at this;exact this
 have HF:=hid (And.intro hf (And.intro hy htk));have HAs:=hid ha;have HW1:=hid hW1;have HNw:=hid hnow;have hf1:=field45_1;have hf2:=field45_2;have hlk:=look95;clear H hk hf htk ha hsm hr0 hnow hy1 hy2 hy hW1 hc1 hA1 hcd hA2 hNb hSS hKK;go_enter Tryz.func83,Tryz.ntmps83
 go_wp2_with (first|rw[<- HW1.out]|fail)
 refine wp_region_hl [5,13,22,25] [0,1,2,3,4,6,7,8,9,10,11,12,15,16,17,18,19,20,21,5,13,14,22,23,24,25] (BtS N h.S h.L kp) (by kernel_rfl) (by kernel_rfl) S2.out ?_
 iterate 19 (refine hd_take (v:=?_) rfl rfl (by kernel_rfl) (fun W hW=>?_) ?_;rotate_left;(obtain⟨r0,r1,r2⟩:=hW;first|(go_simp;done)|(go_simp;with_reducible rfl)))
 refine hd_loud rfl rfl fun K hK=>?_;go_simp;refine HAk.out.mono ?_;rintro e w2 ⟨rfl,rfl⟩;refine hK _ _ S2.out ?_;clear hK;refine hd_loud rfl rfl fun K hK=>?_;go_simp;refine(HMe.out _ (Below.refl _ _)).mono ?_;rintro e w3 ⟨rfl,hb3⟩;have HB3:=hid hb3;clear hb3;refine hK _ _ (HC.out w3 HB3.out).1 ?_;clear hK;refine hd_take (v:=?_) rfl rfl (by kernel_rfl) (fun W hW=>?_) ?_
 rotate_left
 ·first|(go_simp;done)|(go_simp;with_reducible rfl)
 refine hd_loud rfl rfl fun K hK=>?_;go_simp;refine(HMe.out _ HB3.out).mono ?_;rintro e w4 ⟨rfl,hb4⟩;have HB4:=hid (HB3.out.trans (hb4.mono HB3.out.size));clear hb4;refine hK _ _ (HC.out w4 HB4.out).1 ?_;clear hK;refine hd_take (v:=?_) rfl rfl (by kernel_rfl) (fun W hW=>?_) ?_
 rotate_left
 ·first|(go_simp;done)|(go_simp;with_reducible rfl)
 obtain⟨M,hM⟩:∃ M:PMsg,M=⟨1,0,0,s.m.e,now,0,0,⟨#[]⟩,0,⟨#[]⟩,⟨#[]⟩,false,[]⟩:=⟨_,rfl⟩;have HMs:=hid hM;clear hM;refine hd_take (v:=.agg (msgV M nils).toArray) rfl rfl (by kernel_rfl) (fun W hW=>?_) ?_
 ·rw[HMs.out]
  go_simp;rfl
 refine hd_loud rfl rfl fun K hK=>?_;have hlm:(msgV M nils).length=21:=rfl;go_simp;generalize hcs:List.foldl _ _ _=cs
 obtain rfl:cs=(msgV M nils).toArray:=by rw[<- hcs];exact build_msg M nils
 clear hcs;have hb5:=HB4.out.alloc HB4.out.size (.cells (msgV M nils).toArray 182);obtain⟨S5,U4,hA4,-⟩:=HC.out w4 HB4.out;have hc5:Chg (fun _=>False) w4 U4 (w4.alloc (.cells (msgV M nils).toArray 182)) (ext U4 w4 (n+864)):=((Chg.refl _ _ _).alloc _).ext _;have hA5:=hA4.step (hA4.node.keep hc5 HF.out.1.1 fun _ h=>h.elim) hc5 (fun _ h=>h.elim) HF.out.2.1 HF.out.2.2;have hn95:=HF.out.1.1;have HSy:=hid (nodeSay _ _ ts n N d k i s h hA5.node HF.out.1 (by have:=HS.out.ms;omega) w4.heap.size 1 M (Blk.new _ _ _) (by rw[ext_new (Nat.le_refl _)];omega));have HA5:=hid hA5;clear S5 hA4 hc5 hA5;refine hK _ _ (HC.out _ hb5).1 (hd_end ?_);clear hK;simp only[zqa,zqb,zqc,zqd,Nat.zero_add,Nat.reduceAdd]
 go_wp2_with (go_at_call 109;fail)
 refine HSy.out.mono ?_;rintro e w6 ⟨⟨v6,rfl⟩,U6,hn6,hc6⟩;have hA6:=HA5.out.step hn6 hc6 (fun x hx=>.inr (by rcases hx with e|e|e <;> omega)) HF.out.2.1 HF.out.2.2
 have e6:({ s with ms:=s.ms++[{ M with src:=i }] }:PNode)=s.beat1 i now:=by rw[HMs.out];rfl
 rw[e6]at hA6;obtain⟨mv6,pv6,hNb6,-,-⟩:=hA6.node.out.ex;have n7:w6.cell? ⟨N,7,none⟩=some (.map none):=hNb6.cell 7;have n9:w6.cell? ⟨N,9,none⟩=some h.wv:=hNb6.cell 9;have HNx:Hid (∀ W,Calls Tryz.prog 111 #[.pointer none] W fun e w'=>e=.returned (.slice none 0 0)/\W=w'):=hid next111z;have HSn:Hid (∀ W,Calls Tryz.prog 109 #[.pointer (some ⟨N,0,none⟩),.slice none 0 0] W fun e w'=>(∃ r,e=.returned r)/\W=w'):=hid fun W=>sayNil W N;have HA6:=hid hA6;clear hn6 hc6 e6 hA6 hNb6 HSy HA5 hb5 hlm
 go_wp2
 go_loop [3] (fun q=>∃ j:Nat,1<=j/\j<=6/\q=.int .i64 (j:Int)) (fun q=>6-(intOf q).toNat)
 case atStart=>exact⟨1,Nat.le_refl _,by omega,rfl⟩
 case round=>
  obtain⟨j,hj1,hj2,rfl⟩:=hrel
  by_cases hlt:j<=5
  ·have k1:(j:Int)<=5:=by omega
   have k2:(0:Int)<=(j:Int):=by omega
   go_wp2_with (go_at_call 111;fail)
   refine(HNx.out _).mono ?_;rintro e w7 ⟨rfl,rfl⟩
   go_wp2_with (go_at_call 109;fail)
   refine(HSn.out _).mono ?_;rintro e w8 ⟨⟨v8,rfl⟩,rfl⟩
   go_wp2
   go_round
   case rel=>exact⟨j+1,by omega,by omega,by go_num⟩
   case measure=>simp[intOf];omega
  ·obtain rfl:j=6:=by omega
   have HAs':=HAs.out;obtain⟨Aw,cw,hwv,-,-,-,hsw,-,-⟩:=HA6.out.node.waits.slice
   change h.wv=.slice Aw s.waits.length cw at hwv
   change Sl w6 Aw (s.waits.flatMap encT) at hsw
   rw[hwv]at n9
   have hfin:∀ (s2:PNode) (h2:Hd) (W:World) (U2:Own) (L:List PWait) (v:Value),BtA w U ts n N d k i tk now w.heap.size y s2 h2 W U2->Rw W U2 (n+96) 212 7 v L.length (L.flatMap encT)->s2.setW L=s'->(∃ A c,v=.slice A L.length c)/\∃ old,W.cell? ⟨N,9,none⟩=some old/\W.frozen? ⟨N,9,none⟩=false/\∀ W',W'=W.setCell ⟨N,9,none⟩ v->∃ h3,BtA w U ts n N d k i tk now w.heap.size y s' h3 W' U2:=by
    intro s2 h2 W U2 L v hA hr hs;obtain⟨mv2,pv2,hNb2,-,-⟩:=hA.node.out.ex;refine⟨hr.value,h2.wv,hNb2.cell 9,hNb2.frozen 9,fun W' hW'=>?_⟩;obtain⟨k1,k2⟩:=hA.node.setWaits2 HF.out.1 hr (Chg.refl _ _ _) hW';refine⟨{ h2 with wv:=v },?_⟩;rw[<- hs];exact hA.step k1 k2 (fun x hx=>.inr hx) HF.out.2.1 HF.out.2.2
   have HFin:=hid hfin;clear hfin
   cases hws:s.waits with
   | nil=>
    rw[hws]at HAs n9;simp only[List.length_nil]at n9;have hs:=HAs.out
    injection hs with hs
    have hs2:(s.beat1 i now).setW []=s':=by
     rw[<- hs];obtain⟨a1,a2,a3,a4,a5,a6,a7,a8,a9,a10,a11,a12,a13,a14⟩:=s;dsimp only at hws;subst hws;rfl
    obtain⟨⟨A3,c3,hv3⟩,old,x9,f9,hst⟩:=HFin.out (s.beat1 i now) h w6 U6 [] (.slice none 0 0) HA6.out (Rw.nil _ _ _ _ _) hs2;have HSt:=hid hst;clear hs hs2 hst hws hsw HAs' hwv
    go_wp2
    go_loop [4,55] (fun l q=>l=.slice none 0 0/\q=.int .i64 0) (fun _ _=>0)
    case atStart=>exact⟨rfl,rfl⟩
    case round=>
     obtain⟨rfl,rfl⟩:=hrel;obtain⟨W7,hW7⟩:∃ W,W=w6.setCell ⟨N,9,none⟩ (.slice none 0 0):=⟨_,rfl⟩;obtain⟨h3,hA7⟩:=HSt.out W7 hW7;have HW7:=hid hW7;have HX:=hid hA7;have HDi:=hid (hA7.node.did HF.out.1);clear hW7 hA7
     go_wp2_with (first|rw[<- HW7.out]|(go_at_call 113;fail))
     refine HDi.out.mono ?_;rintro e w7 ⟨A7,ca,B7,cb,rfl,ho7,hc7⟩;have hc7':Chg (NT ts n) _ _ w7 _:=hc7.mono fun x hx=>.inr (by omega);have hO7:=HX.out.out.keep hc7' HF.out.2.1;have u0:w7.cell? ⟨w.heap.size,0,none⟩=some (.slice none 0 0):=hO7.cell 0;have u1:w7.cell? ⟨w.heap.size,1,none⟩=some (.slice none 0 0):=hO7.cell 1;have p0:=hO7.frozen 0;have p1:=hO7.frozen 1;have HCC:=hid (HX.out.chg.trans hc7');have HO7:=hid hO7;have HOu:=hid ho7;clear hc7 hc7' hO7 ho7 HDi;generalize hl1:List.length (PNode.ms _)=l1 at *;generalize hl2:List.length (PNode.rs _)=l2 at *
     have HB:Hid (∀ W,W=(w7.setCell ⟨w.heap.size,0,none⟩ (.slice A7 l1 ca)).setCell ⟨w.heap.size,1,none⟩ (.slice B7 l2 cb)->Blk W w.heap.size 102 #[.slice A7 l1 ca,.slice B7 l2 cb]/\OutIs W U6 ts n N d k i (.agg #[.slice A7 l1 ca,.slice B7 l2 cb]) s'/\Chg (NT ts n) w U W U6):=hid fun W hW=>by
      have hc8:Chg (fun q=>q=y) w7 U6 W U6:=by rw[hW];exact((Chg.refl _ _ _).setCell (p:=⟨w.heap.size,0,none⟩) HO7.out.own _).setCell (p:=⟨w.heap.size,1,none⟩) HO7.out.own _
      refine⟨by rw[hW];exact((HO7.out.set_ 0 (.slice A7 l1 ca)).set_ 1 (.slice B7 l2 cb)).blk,?_,?_⟩
      ·exact HOu.out.keep hc8 HF.out.1.1 (fun x hx=>by rw[hx];exact HF.out.2.1)
      ·rw[hW]
       exact(HCC.out.setNew (p:=⟨w.heap.size,0,none⟩) (Nat.le_refl _) _).setNew (p:=⟨w.heap.size,1,none⟩) (Nat.le_refl _) _
     clear HOu HX hl1 hl2
     go_wp2
     refine bodyPost_ret (results_cell rfl _ _ _ ⟨w.heap.size,0,none⟩ (.agg #[.slice A7 l1 ca,.slice B7 l2 cb]) rfl ?_) rfl ?_
     ·exact loadVar_out (HB.out _ rfl).1
     exact⟨_,U6,rfl,(HB.out _ rfl).2⟩
   | cons x xs=>
    rw[hws]at HAs n9 hsw
    cases xs with
    | cons x2 xs=>
     have hs:=HAs.out
     cases hs
    | nil=>
     have hs:=HAs.out;dsimp only at hs
     split at hs
     case isFalse=>cases hs
     rename_i hwhen;simp only[List.length_cons,List.length_nil,Nat.zero_add]at n9;obtain⟨g,o,rfl,hcs⟩:=Sl.flat encT_len (by decide) hsw 0 (by simp);simp only[Nat.zero_mul,Nat.zero_add,List.getElem_cons_zero]at hcs;have q0:w6.cell? ⟨g,o,none⟩=some (.int .i64 (x.w.node:Int)):=hcs 0 _ rfl;have q1:w6.cell? ⟨g,o+1,none⟩=some (.int .i64 (x.w.id:Int)):=hcs 1 _ rfl;have q2:w6.cell? ⟨g,o+2,none⟩=some (.int .i64 (x.w.op:Int)):=hcs 2 _ rfl;have q3:w6.cell? ⟨g,o+3,none⟩=some (.string x.w.key):=hcs 3 _ rfl;have q4:w6.cell? ⟨g,o+4,none⟩=some (.int .i64 (x.id:Int)):=hcs 4 _ rfl;have q5:w6.cell? ⟨g,o+5,none⟩=some (.int .i64 (x.tw:Int)):=hcs 5 _ rfl;have q6:w6.cell? ⟨g,o+6,none⟩=some (.int .i64 (x.when_:Int)):=hcs 6 _ rfl;obtain⟨dd,hdd⟩:∃ dd:Nat,dd=now-x.when_:=⟨_,rfl⟩
     have hsub:(now:Int)-(x.when_:Int)=(dd:Int):=by omega
     have kd:(dd:Int)<=1099511627776:=by have:=HNw.out;omega
     have kd0:(0:Int)<=(dd:Int):=by omega
     have HDd:=hid hdd;have HSs:=hid hs;have HWs:=hid hws;obtain⟨W8,hW8⟩:∃ W,W=w6.alloc (.cells (encT x).toArray 212):=⟨_,rfl⟩
     have hc8:Chg (fun _=>False) w6 U6 W8 (ext U6 w6 (n+864)):=by rw[hW8];exact((Chg.refl _ _ _).alloc _).ext _
     have hA8:=HA6.out.step (HA6.out.node.keep hc8 hn95 fun _ h=>h.elim) hc8 (fun _ h=>h.elim) HF.out.2.1 HF.out.2.2;have hX8:Has W8 (ext U6 w6 (n+864)) (n+864) w6.heap.size 212 (encT x).toArray:=⟨by rw[hW8];exact Blk.new _ _ _,ext_new (Nat.le_refl _)⟩;generalize ext U6 w6 (n+864)=U8 at hA8 hX8;obtain⟨mv8,pv8,hNb8,-,-⟩:=hA8.node.out.ex;have S8:Hid (BtT N h.L k w6.heap.size x W8.drew):=hid ⟨hNb8.cell 1,hA8.node.lease.cell 0,hX8.cell 6⟩;have x0:W8.drew.cell? ⟨w6.heap.size,0,none⟩=some (.int .i64 (x.w.node:Int)):=hX8.cell 0;have x1:W8.drew.cell? ⟨w6.heap.size,1,none⟩=some (.int .i64 (x.w.id:Int)):=hX8.cell 1;have x2:W8.drew.cell? ⟨w6.heap.size,2,none⟩=some (.int .i64 (x.w.op:Int)):=hX8.cell 2;have x3:W8.drew.cell? ⟨w6.heap.size,3,none⟩=some (.string x.w.key):=hX8.cell 3;have x4:W8.drew.cell? ⟨w6.heap.size,4,none⟩=some (.int .i64 (x.id:Int)):=hX8.cell 4;have x5:W8.drew.cell? ⟨w6.heap.size,5,none⟩=some (.int .i64 (x.tw:Int)):=hX8.cell 5;have x6:W8.drew.cell? ⟨w6.heap.size,6,none⟩=some (.int .i64 (x.when_:Int)):=hX8.cell 6;have hcd:Chg (fun _=>False) W8 U8 W8.drew U8:=(Chg.refl _ _ _).drew;have hA9:=hA8.step (hA8.node.keep hcd hn95 fun _ h=>h.elim) hcd (fun _ h=>h.elim) HF.out.2.1 HF.out.2.2;have HNo:=hid (now61 W8.drew U8 tk k now hA9.clk);have HA9:=hid hA9;have HW8:=hid hW8;unfold encT at HW8;clear hs hsw hcs hws hwhen hdd hW8 hc8 hA8 hX8 hNb8 hcd hA9 HAs' hwv
     go_wp2
     go_loopw [4,55] (fun l q wr=>(l=.slice none 0 0/\q=.int .i64 0/\wr=w6)\/(q=.int .i64 1/\∃ s2 h2 U2 L,BtA w U ts n N d k i tk now w.heap.size y s2 h2 wr U2/\Rw wr U2 (n+96) 212 7 l L.length (L.flatMap encT)/\s2.setW L=s')) (fun _ q _=>1-(intOf q).toNat)
     case atStart=>exact .inl ⟨rfl,rfl,rfl⟩
     case round=>
      rcases hrel with ⟨rfl,rfl,hwr⟩|⟨rfl,s2,h2,U2,L,hA,hr,hs2⟩
      ·obtain rfl:=hwr.symm
       clear hwr
       go_wp2_with (first|rw[<- HW8.out]|fail)
       refine wp_region_hl [7] [0,1,2,3,4,5,6,8,9,7] (BtT N h.L k w6.heap.size x) (by kernel_rfl) (by kernel_rfl) S8.out ?_
       iterate 9 (refine hd_take (v:=?_) rfl rfl (by kernel_rfl) (fun W hW=>?_) ?_;rotate_left;(obtain⟨r0,r1,r2⟩:=hW;first|(go_simp;done)|(go_simp;with_reducible rfl)))
       refine hd_loud rfl rfl fun K hK=>?_;go_simp;refine HNo.out.mono ?_;rintro e w9 ⟨rfl,rfl⟩;refine hK _ _ S8.out (hd_end ?_);clear hK;simp only[zqa,zqb,zqc,zqd,Nat.zero_add,Nat.reduceAdd]
       by_cases h60:dd<60
       ·have k60:(dd:Int)<60:=by omega
        have hs:=HSs.out;rw[if_pos (by rw[<- HDd.out];exact h60)]at hs
        injection hs with hs
        have HSe:=hid hs;clear hs h60
        go_wp2_with (at_builtin;refine wpl_app (news:=[.int .i64 (x.w.node:Int),.int .i64 (x.w.id:Int),.int .i64 (x.w.op:Int),.string x.w.key,.int .i64 (x.id:Int),.int .i64 (x.tw:Int),.int .i64 (x.when_:Int)]) rfl rfl U8 (n+96) (by kernel_rfl) info212 rfl (by decide) (by decide) rfl (Rw.nil _ _ _ _ _) rfl rfl (sl_at (by simp)) (encT_one x) (by omega) ?_)
        intro g10 cap10 w10 hr10 hc10 hg10;have hca:Chg (fun _=>False) W8.drew U8 (W8.alloc (.cells (encT x).toArray 212)).drew U8:=(Chg.refl (fun _=>False) W8.drew U8).alloc (.cells (encT x).toArray 212);have hcn:=(hca.grown hg10 (fun k hk=>by cases hk)).reown (U2:=ext U8 (W8.alloc (.cells (encT x).toArray 212)).drew (n+96)) (fun k hk=>ext_old (by have:k<W8.heap.size:=hk;simp;omega));have hA10:=HA9.out.step (HA9.out.node.keep hcn hn95 fun _ h=>h.elim) hcn (fun _ h=>h.elim) HF.out.2.1 HF.out.2.2
        have hr11:Rw w10 (ext U8 (W8.alloc (.cells (encT x).toArray 212)).drew (n+96)) (n+96) 212 7 (.slice (some ⟨g10,0,none⟩) 1 cap10) [x].length ([x].flatMap encT):=by
         rw[show [x].flatMap encT=encT x by simp];exact hr10
        generalize ext U8 (W8.alloc (.cells (encT x).toArray 212)).drew (n+96)=U10 at hA10 hr11;have HA10:=hid hA10;have HR11:=hid hr11
        have HSx:Hid ((s.beat1 i now).setW [x]=s'):=hid (by
         have hws:=HWs.out;rw[<- HSe.out];obtain⟨a1,a2,a3,a4,a5,a6,a7,a8,a9,a10,a11,a12,a13,a14⟩:=s;dsimp only at hws;subst hws
         rfl)
        clear hca hcn hA10 hr11 hr10 hc10 hg10
        go_wp2
        go_roundw
        case rel=>exact .inr ⟨rfl,_,_,U10,[x],HA10.out,HR11.out,HSx.out⟩
        case measure=>simp[intOf]
       ·have k60:¬ ((dd:Int)<60):=by omega
        have hs:=HSs.out;rw[if_neg (by rw[<- HDd.out];exact h60)]at hs
        injection hs with hs
        have HSe:=hid hs;have HTe:=hid (nodeTell W8.drew U8 ts n N d k i _ h HA9.out.node HF.out.1 (by have:=HS.out.ms;simp[PNode.beat1];omega) (by have:=HS.out.rs;simpa [PNode.beat1] using (by omega:s.rs.length<=1000)) x.w 10 ⟨#[]⟩ false);unfold encW at HTe;clear hs h60
        go_wp2_with (go_at_call 112;fail)
        refine HTe.out.mono ?_;rintro e w10 ⟨⟨v10,rfl⟩,U10,hn10,hc10⟩;have hA10:=HA9.out.step hn10 hc10 (fun x hx=>.inr (by rcases hx with e|e|e <;> omega)) HF.out.2.1 HF.out.2.2;have HA10:=hid hA10;clear hn10 hc10 hA10 HTe
        go_wp2
        go_roundw
        case rel=>exact .inr ⟨rfl,_,_,U10,[],HA10.out,Rw.nil _ _ _ _ _,HSe.out⟩
        case measure=>simp[intOf]
      ·obtain⟨⟨A3,c3,rfl⟩,old,x9,f9,hst⟩:=HFin.out s2 h2 wr U2 L _ hA hr hs2
       have HSt:=hid hst;clear hst hA hr hs2;obtain⟨W7,hW7⟩:∃ W,W=wr.setCell ⟨N,9,none⟩ (.slice A3 L.length c3):=⟨_,rfl⟩;obtain⟨h3,hA7⟩:=HSt.out W7 hW7;have HW7:=hid hW7;have HX:=hid hA7;have HDi:=hid (hA7.node.did HF.out.1);clear hW7 hA7
       go_wp2_with (first|rw[<- HW7.out]|(go_at_call 113;fail))
       refine HDi.out.mono ?_;rintro e w7 ⟨A7,ca,B7,cb,rfl,ho7,hc7⟩;have hc7':Chg (NT ts n) _ _ w7 _:=hc7.mono fun x hx=>.inr (by omega);have hO7:=HX.out.out.keep hc7' HF.out.2.1;have u0:w7.cell? ⟨w.heap.size,0,none⟩=some (.slice none 0 0):=hO7.cell 0;have u1:w7.cell? ⟨w.heap.size,1,none⟩=some (.slice none 0 0):=hO7.cell 1;have p0:=hO7.frozen 0;have p1:=hO7.frozen 1;have HCC:=hid (HX.out.chg.trans hc7');have HO7:=hid hO7;have HOu:=hid ho7;clear hc7 hc7' hO7 ho7 HDi;generalize hl1:List.length (PNode.ms _)=l1 at *;generalize hl2:List.length (PNode.rs _)=l2 at *
       have HB:Hid (∀ W,W=(w7.setCell ⟨w.heap.size,0,none⟩ (.slice A7 l1 ca)).setCell ⟨w.heap.size,1,none⟩ (.slice B7 l2 cb)->Blk W w.heap.size 102 #[.slice A7 l1 ca,.slice B7 l2 cb]/\OutIs W U2 ts n N d k i (.agg #[.slice A7 l1 ca,.slice B7 l2 cb]) s'/\Chg (NT ts n) w U W U2):=hid fun W hW=>by
        have hc8:Chg (fun q=>q=y) w7 U2 W U2:=by rw[hW];exact((Chg.refl _ _ _).setCell (p:=⟨w.heap.size,0,none⟩) HO7.out.own _).setCell (p:=⟨w.heap.size,1,none⟩) HO7.out.own _
        refine⟨by rw[hW];exact((HO7.out.set_ 0 (.slice A7 l1 ca)).set_ 1 (.slice B7 l2 cb)).blk,?_,?_⟩
        ·exact HOu.out.keep hc8 HF.out.1.1 (fun x hx=>by rw[hx];exact HF.out.2.1)
        ·rw[hW]
         exact(HCC.out.setNew (p:=⟨w.heap.size,0,none⟩) (Nat.le_refl _) _).setNew (p:=⟨w.heap.size,1,none⟩) (Nat.le_refl _) _
       clear HOu HX hl1 hl2
       go_wp2
       refine bodyPost_ret (results_cell rfl _ _ _ ⟨w.heap.size,0,none⟩ (.agg #[.slice A7 l1 ca,.slice B7 l2 cb]) rfl ?_) rfl ?_
       ·exact loadVar_out (HB.out _ rfl).1
       exact⟨_,U2,rfl,(HB.out _ rfl).2⟩
end Go.Proofs.Ytlhekbjidppijaa
