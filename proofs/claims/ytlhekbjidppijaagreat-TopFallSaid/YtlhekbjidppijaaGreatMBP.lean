/- Contracts of what TopFall reaches: what each function returns and leaves in memory. Conditions: as named. -/
import Derived.Test.YtlhekbjidppijaaGreatMBC
import Derived.Test.YtlhekbjidppijaaGreatMBO
set_option linter.unusedVariables false
set_option linter.unusedSimpArgs false
set_option maxRecDepth 20000
set_option maxHeartbeats 8000000
namespace Go.Proofs.Ytlhekbjidppijaa
open Lib (hid)
open Go.RowKit
def PW.pass? (s:PW):List Nat->Option PW
 | []=>some s
 | a :: l=>match s.c.nodes[a-1]? with
  | some p=>if p.reads.length=0 then s.pass? l else if 1000<p.reads.length then none else match s.step? 5 a 0 ⟨#[]⟩ ⟨#[]⟩ false with
   | some s'=>s'.pass? l
   | none=>none
  | none=>s.pass? l
def PW.askL? (rd:Bool):Nat->PW->Option PW
 | 0,s=>some s
 | f+1,s=>match s.drain? 300 with
  | some s1=>if s1.c.fewReads then (if !rd || decide (s1.c.nreads 5=0) then some s1 else match s1.pass? (List.range' 1 5) with
   | some s2=>s2.askL? rd f
   | none=>none) else none
  | none=>none
def PW.ask? (s:PW)(fn a:Nat)(key:ByteArray)(rd:Bool):Option (PW × PCall):=match s.step? fn a 0 key ⟨#[]⟩ false with
 | some s1=>match s1.askL? rd 20 with
  | some s2=>if 1<=s1.c.log.length/\s1.c.log.length<=1000/\s2.c.log.length<=1000 then (s2.c.log[s1.c.log.length-1]?).map fun z=>(s2,z) else none
  | none=>none
 | none=>none
theorem loadVar_rep {W:World}{g:Nat}{r:PReply}(h:Blk W g 57 (encR r).toArray):(loadVar 57 ⟨g,0,none⟩).run Tryz.prog W=.ok (.agg (encR r).toArray) W:=
 run_loadVarAgg W 57 g 0 (encR r) 6 (by kernel_rfl) (by kernel_rfl) rfl (fun j v hj=>by rw[Nat.zero_add,h.cell j,List.getElem?_toArray];exact hj)
theorem store_blk {P:Program}(w:World)(t g:Nat)(cur:Array Value)(cs:List Value)(hs:(sizeOf t).run P w=.ok cs.length w)(hb:Blk w g t cur)(hz:cur.size=cs.length)(h1:∀ v∈cs,v.oneCell'=true) :
 ∃ W2,(Instr.storeAt t (.pointer (some ⟨g,0,none⟩)) (.agg cs.toArray)).run P w=.ok () W2/\Blk W2 g t cs.toArray/\(∀ k,k≠g->W2.heap[k]? = w.heap[k]?)/\W2.heap.size=w.heap.size/\W2.os=w.os/\W2.tape=w.tape/\W2.output=w.output:=by
 obtain⟨W2,a,b,c,d,e,f,q⟩:=run_storeAgg (P:=P) w t g 0 t cur cs cs.length hs rfl hb (by omega) h1;rw[splice_all _ _ hz]at b;exact⟨W2,a,b,c,d,e,f,q⟩
theorem load_rep {W:World}{g:Nat}{z:PCall}(h:Blk W g 59 (encC z).toArray):(Instr.loadAt 57 (.pointer (some ⟨g,7,none⟩))).run Tryz.prog W=.ok (.agg (encR z.reply).toArray) W:=
 run_loadAgg W 57 g 7 (encR z.reply) 6 (by kernel_rfl) (by kernel_rfl) rfl (fun j v hj=>by
  have hj6:j<6:=by have:=(List.getElem?_eq_some_iff.1 hj).1;simpa [encR] using this
  rw[h.cell,<- hj]
  obtain rfl|rfl|rfl|rfl|rfl|rfl:j=0\/j=1\/j=2\/j=3\/j=4\/j=5:=by omega
  all_goals rfl)
def z57:Array Value:=#[.int .i64 0,.int .i64 0,.string ⟨#[]⟩,.int .i64 0,.string ⟨#[]⟩,.bool false]
structure AsA (w:World)(U:Own)(t x c b:Nat)(L:CL)(s:PW)(W:World)(U':Own):Prop where
 tat:TAt W U' t x c L s
 blk:Has W U' 94 b 57 z57
 chg:Chg TX w U W U'
theorem AsA.step {w W W2:World}{U U1 U2:Own}{t x c b:Nat}{L:CL}{s s2:PW}(h:AsA w U t x c b L s W U1)(ht:TAt W2 U2 t x c L s2)(hc:Chg TX W U1 W2 U2):AsA w U t x c b L s2 W2 U2:=
 ⟨ht,h.blk.keep hc (by unfold TX;decide),h.chg.trans hc⟩
theorem ask31 (w:World)(U:Own)(t x c:Nat)(L:CL)(s s':PW)(z:PCall)(H:TAt w U t x c L s)(fn a:Nat)(key:ByteArray)(rd:Bool)(ha:s.ask? fn a key rd=some (s',z)) :
 Calls Tryz.prog 31 #[ptr t,.int .i64 (fn:Int),.int .i64 (a:Int),.string key,.bool rd] w fun e w'=>e=.returned (.tuple #[.agg (encR z.reply).toArray,.bool z.done])/\∃ U',TAt w' U' t x c L s'/\Chg TX w U w' U':=by
 unfold PW.ask? at ha
 split at ha
 case h_2=>cases ha
 rename_i s1 hs1
 split at ha
 case h_2=>cases ha
 rename_i s2 hs2
 split at ha
 case isFalse=>cases ha
 rename_i hcond;obtain⟨zz,hz,hzz⟩:=Option.map_eq_some_iff.1 ha
 injection hzz with e1 e2
 subst e1;rw[e2]at hz;clear e2;obtain⟨W1,hW1⟩:∃ W,W=w.alloc (.cells z57 57):=⟨_,rfl⟩
 have hc1:Chg (fun _=>False) w U W1 (ext U w 94):=by rw[hW1];exact((Chg.refl _ _ _).alloc _).ext _
 have hA1:AsA w U t x c w.heap.size L s W1 (ext U w 94):=⟨H.keep hc1 fun _ h=>h.elim,⟨by rw[hW1];exact Blk.new _ _ _,ext_new (Nat.le_refl _)⟩,hc1.mono fun _ h=>h.elim⟩;generalize ext U w 94=U1 at hA1;have HSt:=hid (step23 W1 U1 t x c L s s1 hA1.tat fn a 0 key ⟨#[]⟩ false hs1);have HA1:=hid hA1;have HX:=hid (And.intro hs2 (And.intro hcond hz));have HW1:=hid hW1;unfold z57 at HW1;unfold stepV at HSt;clear H ha hs1 hs2 hcond hz hW1 hc1 hA1;go_enter Tryz.func31,Tryz.ntmps31
 go_wp2_with (first|rw[<- HW1.out]|(go_at_call 23;fail))
 refine HSt.out.mono ?_;rintro e w2 ⟨⟨v2,rfl⟩,U2,h2,hc2⟩;have hA2:=HA1.out.step h2 hc2;have HA2:=hid hA2;have t0:=h2.blk.cell 0;have t1:=h2.blk.cell 1;have q0:=h2.wat.cells.1;have HLg:=hid (log27 w2 U2 c L s1.c h2.wat.clu);have HAl:=hid (all28 w2 U2 85 L.log s1.c.log h2.wat.clu.log HX.out.2.1.2.1);clear h2 hc2 hA2 HSt HA1 HW1
 go_wp2_with (first|(go_at_call 27;refine HLg.out.mono ?_;rintro e w' ⟨rfl,hw⟩;obtain rfl:=hw)|(go_at_call 28;fail))
 refine HAl.out.mono ?_;rintro e w3 ⟨v3,rfl,ho3,hb3⟩;obtain⟨A3,c3,rfl⟩:=ownsRow_slice ho3;have hc3:Chg (fun _=>False) w2 U2 w3 (ext U2 w2 94):=Chg.of_below hb3 94;have hA3:=HA2.out.step (HA2.out.tat.keep hc3 fun _ h=>h.elim) (hc3.mono fun _ h=>h.elim);generalize ext U2 w2 94=U3 at hA3;have HA3:=hid hA3;obtain⟨m,hn1⟩:∃ m,m+1=s1.c.log.length:=⟨s1.c.log.length-1,by have:=HX.out.2.1.1;omega⟩;have HN1:Hid (s2.c.log[m]? = some z/\m<=1000):=hid ⟨by have:=HX.out.2.2;rwa [<- hn1,Nat.add_sub_cancel]at this,by have:=HX.out.2.1.2.1;omega⟩;rw[<- hn1];clear ho3 hb3 hc3 hA3 HA2 t0 t1 q0 HLg HAl hn1
 go_wp2_with fail
 go_loopw [13] (fun v wr=>∃ (f:Nat) (Ur:Own) (sr:PW),f<=20/\v=.int .i64 (f:Int)/\sr.askL? rd (20-f)=some s2/\AsA w U t x c w.heap.size L sr wr Ur) (fun v _=>20-(intOf v).toNat)
 case atStart=>exact⟨0,U3,s1,by omega,rfl,HX.out.1,HA3.out⟩
 case' round=>
  obtain⟨f,Ur,sr,hf,rfl,hl,hA⟩:=hrel;clear HA3
  by_cases hlt:f<20
  focus(
   rw[show 20-f=(20-f-1)+1 by omega]at hl;unfold PW.askL? at hl
   split at hl
   case h_2=>cases hl
   rename_i sd hsd
   split at hl
   case isFalse=>cases hl
   rename_i hfew
   have k1:(f:Int)<20:=by omega
   have HA4:=hid hA;have HL:=hid (And.intro hl (And.intro hfew hsd));clear hA hl hfew hsd
   go_wp2_with fail
   go_loopw [14] (fun v wr2=>∃ (k:Nat) (Uk:Own) (sk:PW),k<=300/\v=.int .i64 (k:Int)/\sk.drain? (300-k)=some sd/\AsA w U t x c w.heap.size L sk wr2 Uk) (fun v _=>300-(intOf v).toNat)
   case atStart=>exact⟨0,Ur,sr,by omega,rfl,HL.out.2.2,HA4.out⟩
   case' round=>
    obtain⟨k,Uk,sk,hk,rfl,hdr,hAk⟩:=hrel;clear HA4;have t0:=hAk.tat.blk.cell 0;have q0:=hAk.tat.wat.cells.1;have HNe:=hid (net35 _ Uk c L sk.c hAk.tat.wat.clu);have HLe:=hid (len36 _ Uk 83 L.net sk.c.net hAk.tat.wat.clu.net)
    have hk3:k<300/\¬ sk.c.net.length=0\/sk=sd/\(k<300/\sk.c.net.length=0\/k=300):=by
     by_cases hk3:k<300
     ·by_cases hn:sk.c.net.length=0
      ·rw[show 300-k=(300-k-1)+1 by omega]at hdr
       unfold PW.drain? at hdr;rw[if_pos hn]at hdr
       injection hdr with hdr
       exact .inr ⟨hdr,.inl ⟨hk3,hn⟩⟩
      ·exact .inl ⟨hk3,hn⟩
     ·obtain rfl:k=300:=by omega
      rw[Nat.sub_self]at hdr;unfold PW.drain? at hdr
      injection hdr with hdr
      exact .inr ⟨hdr,.inr rfl⟩
    rcases hk3 with ⟨hk3,hn⟩|⟨rfl,hk3⟩
    focus(
     rw[show 300-k=(300-k-1)+1 by omega]at hdr;unfold PW.drain? at hdr;rw[if_neg hn]at hdr
     split at hdr
     case h_2=>cases hdr
     rename_i sl hsl;have HST:=hid (step34 _ Uk x c L sk sl hAk.tat.wat 2 0 0 ⟨#[]⟩ ⟨#[]⟩ false hsl);have HE:=hid (And.intro hAk hdr)
     have k2:(k:Int)<300:=by omega
     have k3:(0:Int)<(sk.c.net.length:Int):=by omega
     clear hAk hdr hsl;unfold stepV at HST
     go_wp2_with (first|(go_at_call 35;refine HNe.out.mono ?_;rintro e w' ⟨rfl,hw⟩;obtain rfl:=hw)|(go_at_call 36;refine HLe.out.mono ?_;rintro e w' ⟨rfl,hw⟩;obtain rfl:=hw.symm)|(go_at_call 34;fail))
     refine HST.out.mono ?_;rintro e w4 ⟨rfl,U4,h4,hc4⟩;have HE4:=hid (HE.out.1.step (HE.out.1.tat.setW h4 hc4) (hc4.mono fun z hz=>WX.tx hz));clear h4 hc4
     go_wp2_with fail
     go_roundw
     case rel=>exact⟨k+1,U4,sl,by omega,by go_num,by rw[show 300-(k+1)=300-k-1 by omega];exact HE.out.2,HE4.out⟩
     case measure=>simp[intOf];omega)
    have HD:=hid hAk;clear hAk hdr
    rcases hk3 with ⟨hk3,hn⟩|rfl
    focus(
     have k2:(k:Int)<300:=by omega
     rw[hn]at HLe;clear hn hk3
     go_upto_region 12 with (first|(go_at_call 35;refine HNe.out.mono ?_;rintro e w' ⟨rfl,hw⟩;obtain rfl:=hw)|(go_at_call 36;refine HLe.out.mono ?_;rintro e w' ⟨rfl,hw⟩;obtain rfl:=hw.symm)))
    rotate_left
    focus(go_upto_region 12 with fail)
    all_goals (
     have HRd:=hid (reads45 _ Uk t x c L sk HD.out.tat HL.out.2.1);clear HNe HLe t0 q0
     cases rd with
     | false=>
      have hl:=HL.out.1;rw[if_pos (by simp)]at hl
      injection hl with hl
      subst hl;have HD2:=HD;have t0:=HD2.out.tat.blk.cell 0;have q0:=HD2.out.tat.wat.cells.1;have HLg:=hid (log27 _ Uk c L sk.c HD2.out.tat.wat.clu);have HAl:=hid (all28 _ Uk 85 L.log sk.c.log HD2.out.tat.wat.clu.log HX.out.2.1.2.2)
      go_wp2_with (first|(go_at_call 27;refine HLg.out.mono ?_;rintro e w' ⟨rfl,hw⟩;obtain rfl:=hw)|(go_at_call 28;fail))
      refine HAl.out.mono ?_;rintro e w7 ⟨v7,rfl,ho7,hb7⟩;obtain⟨A7,c7,rfl⟩:=ownsRow_slice ho7;have hc7:Chg (fun _=>False) _ Uk w7 (ext Uk _ 94):=Chg.of_below hb7 94;have hrw:Rw w7 (ext Uk _ 94) 94 59 13 (.slice A7 sk.c.log.length c7) sk.c.log.length (sk.c.log.flatMap encC):=Rw.of_new ho7 (Nat.le_refl _) Uk 94;have hA7:=HD2.out.step (HD2.out.tat.keep hc7 fun _ h=>h.elim) (hc7.mono fun _ h=>h.elim);generalize ext Uk _ 94=U7 at hrw hA7;have hml:=(List.getElem?_eq_some_iff.1 HN1.out.1).1
      obtain⟨g7,rfl⟩:∃ g,A7=some ⟨g,0,none⟩:=by
       obtain⟨A',c',e1,-,-,-,-,hA,ha⟩:=hrw.slice
       injection e1 with e1 _ _
       subst e1
       cases A7 with
       | none=>have:=(hA rfl).1;omega
       | some a=>
        obtain⟨b0,o0,s0⟩:=a;obtain⟨rfl,rfl,_⟩:=ha _ rfl;exact⟨b0,rfl⟩
      have hld:=Rw.load (P:=Tryz.prog) encC_len (by decide) hrw hml (by kernel_rfl) (by kernel_rfl)
      have hze:sk.c.log[m]=z:=by have:=(List.getElem?_eq_some_iff.1 HN1.out.1).2;exact this
      rw[hze]at hld;obtain⟨W8,hst,hb8,hbl8,hsz8⟩:=store_fresh (P:=Tryz.prog) w7 59 #[.int .i64 0,.int .i64 0,.string ⟨#[]⟩,.int .i64 0,.int .i64 0,.int .i64 0,.bool false,.int .i64 0,.int .i64 0,.string ⟨#[]⟩,.int .i64 0,.string ⟨#[]⟩,.bool false] (encC z) (fun W=>by kernel_rfl) rfl (encC_one z);have HLd:=hid hld;have HSt:=hid hst
      have kml:(m:Int)<(sk.c.log.length:Int):=by omega
      have kml2:m<sk.c.log.length:=hml
      have km9:(m:Int)<=1000:=by have:=HN1.out.2;omega
      have HA7:=hid hA7;clear ho7 hb7 hc7 hrw hA7 hld hst t0 q0 HLg HAl HD HD2 hze
      go_wp2_with (first|(refine wpl_lq 59 _ rfl ?_;refine lq 59 _ _ _ rfl (by kernel_rfl) HLd.out ?_)|(refine wpl_sq 59 _ _ rfl rfl ?_;refine sq 59 _ _ _ _ W8 rfl rfl (by kernel_rfl) HSt.out ?_))
      have hcd:Chg (fun _=>False) w7 U7 W8.drew (ext U7 w7 94):=(Chg.of_below hbl8 94).drew;have hA8:=HA7.out.step (HA7.out.tat.keep hcd fun _ h=>h.elim) (hcd.mono fun _ h=>h.elim);have hb8d:Blk W8.drew w7.heap.size 59 (encC z).toArray:=hb8.drewN 1;have hlt7:w.heap.size<w7.heap.size:=HA7.out.blk.lt;generalize ext U7 w7 94=U8 at hcd hA8;have S8:Hid (Blk W8.drew w7.heap.size 59 (encC z).toArray):=hid hb8d;obtain⟨W9,hst9,hb9,hk9,hsz9,p1,p2,p3⟩:=store_blk (P:=Tryz.prog) W8.drew 57 w.heap.size z57 (encR z.reply) (by kernel_rfl) hA8.blk.blk rfl (encR_one z.reply);have hc9:Chg (fun _=>True) W8.drew U8 W9 U8:=⟨p1,p2,p3,by omega,fun k hk hn=>absurd trivial hn,fun _ _=>rfl⟩;have hc94:Chg (· = 94) W8.drew U8 W9 U8:=⟨p1,p2,p3,by omega,fun k hk hn=>hk9 k (by rintro rfl;exact hn hA8.blk.own),fun _ _=>rfl⟩;have HF:Hid (TAt W9 U8 t x c L sk/\Chg TX w U W9 U8/\Blk W9 w.heap.size 57 (encR z.reply).toArray):=hid ⟨hA8.tat.keep hc94 fun y hy=>by rw[hy];unfold TX;decide,⟨p1.trans hA8.chg.os,p2.trans hA8.chg.tape,p3.trans hA8.chg.output,by have:=hA8.chg.size;omega,fun k hk hn=>(hk9 k (by omega)).trans (hA8.chg.block k hk hn),hA8.chg.own⟩,hb9⟩;have HSt9:=hid hst9
      have hb9':Blk W9 w7.heap.size 59 (encC z).toArray:=by
       have:=hk9 w7.heap.size (by omega);exact this.trans hb8d
      have HB9:=hid hb9';clear hcd hA8 hb8d hst9 hb9 hk9 hsz9 p1 p2 p3 hc9 hc94 hb9' hb8 hbl8 hsz8 HA7 HLd HSt hlt7;refine wp_region_hl [4] [0,1,2,3,4] (fun W=>Blk W w7.heap.size 59 (encC z).toArray) (by kernel_rfl) (by kernel_rfl) S8.out ?_;refine hd_take (v:=?_) rfl rfl (by kernel_rfl) (fun W hW=>?_) ?_
      rotate_left
      ·first|(go_simp;done)|(go_simp;with_reducible rfl)
      refine hd_load 57 (.tmp 117) rfl rfl (by kernel_rfl) rfl (.pointer (some ⟨w7.heap.size,7,none⟩)) (.agg (encR z.reply).toArray) (by go_simp) (fun W hW=>load_rep hW) ?_;refine hd_take (v:=?_) rfl rfl (by kernel_rfl) (fun W hW=>?_) ?_
      rotate_left
      ·first|(go_simp;done)|(go_simp;with_reducible rfl)
      refine hd_take (v:=.bool z.done) rfl rfl (by kernel_rfl) (fun W hW=>?_) ?_
      ·have d6:W.cell? ⟨w7.heap.size,6,none⟩=some (.bool z.done):=hW.cell 6
       first|(go_simp;done)|(go_simp;with_reducible rfl)
      refine hd_st 57 (.tmp 10) (.tmp 118) rfl rfl (by kernel_rfl) rfl rfl (.pointer (some ⟨w.heap.size,0,none⟩)) (.agg (encR z.reply).toArray) (by go_simp) (by go_simp) W9 HSt9.out HB9.out (hd_end ?_);simp only[zqa,zqb,zqc,zqd,Nat.zero_add,Nat.reduceAdd]
      go_wp2_with fail
      refine bodyPost_ret (results_cell2 rfl _ _ _ ⟨w.heap.size,0,none⟩ _ rfl (loadVar_rep HF.out.2.2)) rfl ?_;exact⟨rfl,U8,HF.out.1,HF.out.2.1⟩
     | true=>
      go_wp2_with (go_at_call 45;fail)
      refine HRd.out.mono ?_;rintro e w5 ⟨rfl,U5,h5,hc5⟩;have hA5:=HD.out.step h5 (hc5.mono fun _ h=>h.elim);have HA5:=hid hA5;clear h5 hc5 hA5 HRd HD;have hl:=HL.out.1
      by_cases hz0:sk.c.nreads 5=0
      ·rw[if_pos (by rw[hz0];rfl)]at hl
       injection hl with hl
       subst hl;rw[hz0];have HD2:=HA5;have t0:=HD2.out.tat.blk.cell 0;have q0:=HD2.out.tat.wat.cells.1;have HLg:=hid (log27 _ U5 c L sk.c HD2.out.tat.wat.clu);have HAl:=hid (all28 _ U5 85 L.log sk.c.log HD2.out.tat.wat.clu.log HX.out.2.1.2.2)
       go_wp2_with (first|(go_at_call 27;refine HLg.out.mono ?_;rintro e w' ⟨rfl,hw⟩;obtain rfl:=hw)|(go_at_call 28;fail))
       refine HAl.out.mono ?_;rintro e w7 ⟨v7,rfl,ho7,hb7⟩;obtain⟨A7,c7,rfl⟩:=ownsRow_slice ho7;have hc7:Chg (fun _=>False) _ U5 w7 (ext U5 _ 94):=Chg.of_below hb7 94;have hrw:Rw w7 (ext U5 _ 94) 94 59 13 (.slice A7 sk.c.log.length c7) sk.c.log.length (sk.c.log.flatMap encC):=Rw.of_new ho7 (Nat.le_refl _) U5 94;have hA7:=HD2.out.step (HD2.out.tat.keep hc7 fun _ h=>h.elim) (hc7.mono fun _ h=>h.elim);generalize ext U5 _ 94=U7 at hrw hA7;have hml:=(List.getElem?_eq_some_iff.1 HN1.out.1).1
       obtain⟨g7,rfl⟩:∃ g,A7=some ⟨g,0,none⟩:=by
        obtain⟨A',c',e1,-,-,-,-,hA,ha⟩:=hrw.slice
        injection e1 with e1 _ _
        subst e1
        cases A7 with
        | none=>have:=(hA rfl).1;omega
        | some a=>
         obtain⟨b0,o0,s0⟩:=a;obtain⟨rfl,rfl,_⟩:=ha _ rfl;exact⟨b0,rfl⟩
       have hld:=Rw.load (P:=Tryz.prog) encC_len (by decide) hrw hml (by kernel_rfl) (by kernel_rfl)
       have hze:sk.c.log[m]=z:=by have:=(List.getElem?_eq_some_iff.1 HN1.out.1).2;exact this
       rw[hze]at hld;obtain⟨W8,hst,hb8,hbl8,hsz8⟩:=store_fresh (P:=Tryz.prog) w7 59 #[.int .i64 0,.int .i64 0,.string ⟨#[]⟩,.int .i64 0,.int .i64 0,.int .i64 0,.bool false,.int .i64 0,.int .i64 0,.string ⟨#[]⟩,.int .i64 0,.string ⟨#[]⟩,.bool false] (encC z) (fun W=>by kernel_rfl) rfl (encC_one z);have HLd:=hid hld;have HSt:=hid hst
       have kml:(m:Int)<(sk.c.log.length:Int):=by omega
       have kml2:m<sk.c.log.length:=hml
       have km9:(m:Int)<=1000:=by have:=HN1.out.2;omega
       have HA7:=hid hA7;clear ho7 hb7 hc7 hrw hA7 hld hst t0 q0 HLg HAl HA5 HD2 hze
       go_wp2_with (first|(refine wpl_lq 59 _ rfl ?_;refine lq 59 _ _ _ rfl (by kernel_rfl) HLd.out ?_)|(refine wpl_sq 59 _ _ rfl rfl ?_;refine sq 59 _ _ _ _ W8 rfl rfl (by kernel_rfl) HSt.out ?_))
       have hcd:Chg (fun _=>False) w7 U7 W8.drew (ext U7 w7 94):=(Chg.of_below hbl8 94).drew;have hA8:=HA7.out.step (HA7.out.tat.keep hcd fun _ h=>h.elim) (hcd.mono fun _ h=>h.elim);have hb8d:Blk W8.drew w7.heap.size 59 (encC z).toArray:=hb8.drewN 1;have hlt7:w.heap.size<w7.heap.size:=HA7.out.blk.lt;generalize ext U7 w7 94=U8 at hcd hA8;have S8:Hid (Blk W8.drew w7.heap.size 59 (encC z).toArray):=hid hb8d;obtain⟨W9,hst9,hb9,hk9,hsz9,p1,p2,p3⟩:=store_blk (P:=Tryz.prog) W8.drew 57 w.heap.size z57 (encR z.reply) (by kernel_rfl) hA8.blk.blk rfl (encR_one z.reply);have hc9:Chg (fun _=>True) W8.drew U8 W9 U8:=⟨p1,p2,p3,by omega,fun k hk hn=>absurd trivial hn,fun _ _=>rfl⟩;have hc94:Chg (· = 94) W8.drew U8 W9 U8:=⟨p1,p2,p3,by omega,fun k hk hn=>hk9 k (by rintro rfl;exact hn hA8.blk.own),fun _ _=>rfl⟩;have HF:Hid (TAt W9 U8 t x c L sk/\Chg TX w U W9 U8/\Blk W9 w.heap.size 57 (encR z.reply).toArray):=hid ⟨hA8.tat.keep hc94 fun y hy=>by rw[hy];unfold TX;decide,⟨p1.trans hA8.chg.os,p2.trans hA8.chg.tape,p3.trans hA8.chg.output,by have:=hA8.chg.size;omega,fun k hk hn=>(hk9 k (by omega)).trans (hA8.chg.block k hk hn),hA8.chg.own⟩,hb9⟩;have HSt9:=hid hst9
       have hb9':Blk W9 w7.heap.size 59 (encC z).toArray:=by
        have:=hk9 w7.heap.size (by omega);exact this.trans hb8d
       have HB9:=hid hb9';clear hcd hA8 hb8d hst9 hb9 hk9 hsz9 p1 p2 p3 hc9 hc94 hb9' hb8 hbl8 hsz8 HA7 HLd HSt hlt7;refine wp_region_hl [4] [0,1,2,3,4] (fun W=>Blk W w7.heap.size 59 (encC z).toArray) (by kernel_rfl) (by kernel_rfl) S8.out ?_;refine hd_take (v:=?_) rfl rfl (by kernel_rfl) (fun W hW=>?_) ?_
       rotate_left
       ·first|(go_simp;done)|(go_simp;with_reducible rfl)
       refine hd_load 57 (.tmp 117) rfl rfl (by kernel_rfl) rfl (.pointer (some ⟨w7.heap.size,7,none⟩)) (.agg (encR z.reply).toArray) (by go_simp) (fun W hW=>load_rep hW) ?_;refine hd_take (v:=?_) rfl rfl (by kernel_rfl) (fun W hW=>?_) ?_
       rotate_left
       ·first|(go_simp;done)|(go_simp;with_reducible rfl)
       refine hd_take (v:=.bool z.done) rfl rfl (by kernel_rfl) (fun W hW=>?_) ?_
       ·have d6:W.cell? ⟨w7.heap.size,6,none⟩=some (.bool z.done):=hW.cell 6
        first|(go_simp;done)|(go_simp;with_reducible rfl)
       refine hd_st 57 (.tmp 10) (.tmp 118) rfl rfl (by kernel_rfl) rfl rfl (.pointer (some ⟨w.heap.size,0,none⟩)) (.agg (encR z.reply).toArray) (by go_simp) (by go_simp) W9 HSt9.out HB9.out (hd_end ?_);simp only[zqa,zqb,zqc,zqd,Nat.zero_add,Nat.reduceAdd]
       go_wp2_with fail
       refine bodyPost_ret (results_cell2 rfl _ _ _ ⟨w.heap.size,0,none⟩ _ rfl (loadVar_rep HF.out.2.2)) rfl ?_;exact⟨rfl,U8,HF.out.1,HF.out.2.1⟩
      ·rw[if_neg (by simp[hz0])]at hl
       split at hl
       case h_2=>cases hl
       rename_i s3 hs3
       have kz:((sk.c.nreads 5:Int) == 0)=false:=by rw[beq_eq_false_iff_ne];omega
       have HL3:=hid (And.intro hs3 hl);clear hs3 hl hz0
       go_wp2_with fail
       go_loopw [15] (fun v wr3=>∃ (q:Nat) (Uq:Own) (sq:PW),1<=q/\q<=6/\v=.int .i64 (q:Int)/\sq.pass? (List.range' q (6-q))=some s3/\AsA w U t x c w.heap.size L sq wr3 Uq) (fun v _=>6-(intOf v).toNat)
       case atStart=>exact⟨1,U5,sk,Nat.le_refl _,by omega,rfl,HL3.out.1,HA5.out⟩
       case round=>
        obtain⟨q,Uq,sq,hq1,hq6,rfl,hps,hAq⟩:=hrel;clear HA5
        by_cases hq5:q<=5
        ·have kq:(q:Int)<=5:=by omega
         have t0:=hAq.tat.blk.cell 0;have q0:=hAq.tat.wat.cells.1;have HNd:=hid (node24 _ Uq c L sq.c hAq.tat.wat.clu q hq1 hq5);rw[show 6-q=(5-q)+1 by omega,List.range'_succ]at hps;unfold PW.pass? at hps;have hlen:=hAq.tat.wat.clu.len
         split at hps
         ·rename_i p hp
          have hpl:=(List.getElem?_eq_some_iff.1 hp).1
          have hnd:ndV L sq.c.n q=ptr (L.nd q):=by unfold ndV;rw[if_pos (by omega)]
          rw[hnd]at HNd;obtain⟨-,-,h,hN⟩:=hAq.tat.wat.clu.node q p hq1 hp
          by_cases hr0:p.reads.length=0
          ·rw[if_pos hr0]at hps
           have HRq:=hid (reads25 _ Uq _ _ _ _ _ q p h hN (by omega) (by omega));rw[hr0]at HRq;have HE:=hid (And.intro hAq hps);clear hAq hps hp hpl hnd hlen hN hr0
           go_wp2_with (first|(go_at_call 24;refine HNd.out.mono ?_;rintro e w' ⟨rfl,hw⟩;obtain rfl:=hw)|(go_at_call 25;fail))
           refine HRq.out.mono ?_;rintro e w6 ⟨v6,rfl,ho6,hb6⟩;obtain⟨A6,c6,rfl⟩:=ownsRow_slice ho6;have hc6:Chg (fun _=>False) _ Uq w6 (ext Uq _ 94):=Chg.of_below hb6 94;have HE6:=hid (HE.out.1.step (HE.out.1.tat.keep hc6 fun _ h=>h.elim) (hc6.mono fun _ h=>h.elim));clear ho6 hb6 hc6
           go_wp2_with fail
           go_roundw
           case rel=>exact⟨q+1,_,sq,by omega,by omega,by go_num,by rw[show 6-(q+1)=5-q by omega];exact HE.out.2,HE6.out⟩
           case measure=>simp[intOf];omega
          ·rw[if_neg hr0]at hps
           split at hps
           ·cases hps
           rename_i hr1
           split at hps
           case h_2=>cases hps
           rename_i sl hsl;have HRq:=hid (reads25 _ Uq _ _ _ _ _ q p h hN (by omega) (by omega))
           have kr:(0:Int)<(p.reads.length:Int):=by omega
           have HE:=hid (And.intro hAq (And.intro hps hsl));clear hAq hps hp hpl hnd hlen hN hr0 hr1 hsl
           go_wp2_with (first|(go_at_call 24;refine HNd.out.mono ?_;rintro e w' ⟨rfl,hw⟩;obtain rfl:=hw)|(go_at_call 25;fail))
           refine HRq.out.mono ?_;rintro e w6 ⟨v6,rfl,ho6,hb6⟩;obtain⟨A6,c6,rfl⟩:=ownsRow_slice ho6;have hc6:Chg (fun _=>False) _ Uq w6 (ext Uq _ 94):=Chg.of_below hb6 94;have hA6:=HE.out.1.step (HE.out.1.tat.keep hc6 fun _ h=>h.elim) (hc6.mono fun _ h=>h.elim);generalize ext Uq _ 94=U6 at hA6;have HST:=hid (step23 w6 U6 t x c L sq sl hA6.tat 5 q 0 ⟨#[]⟩ ⟨#[]⟩ false HE.out.2.2);have HA6:=hid hA6;unfold stepV at HST;clear ho6 hb6 hc6 hA6
           go_wp2_with (go_at_call 23;fail)
           refine HST.out.mono ?_;rintro e w8 ⟨⟨v8,rfl⟩,U8,h8,hc8⟩;have HE8:=hid (HA6.out.step h8 hc8);clear h8 hc8
           go_wp2_with fail
           go_roundw
           case rel=>exact⟨q+1,U8,sl,by omega,by omega,by go_num,by rw[show 6-(q+1)=5-q by omega];exact HE.out.2.1,HE8.out⟩
           case measure=>simp[intOf];omega
         ·rename_i hp
          have hge:=List.getElem?_eq_none_iff.1 hp
          have hnd:ndV L sq.c.n q=.pointer none:=by unfold ndV;rw[if_neg (by omega)]
          rw[hnd]at HNd;have HE:=hid (And.intro hAq hps);clear hAq hps hp hge hnd hlen
          go_wp2_with (go_at_call 24;refine HNd.out.mono ?_;rintro e w' ⟨rfl,hw⟩;obtain rfl:=hw)
          go_roundw
          case rel=>exact⟨q+1,Uq,sq,by omega,by omega,by go_num,by rw[show 6-(q+1)=5-q by omega];exact HE.out.2,HE.out.1⟩
          case measure=>simp[intOf];omega
        ·obtain rfl:q=6:=by omega
         have hpe:sq=s3:=by
          have:List.range' 6 (6-6)=[]:=rfl;rw[this]at hps;unfold PW.pass? at hps;injection hps
         subst hpe;have HE:=hid hAq;clear hAq hps
         go_wp2_with fail
         go_roundw
         case rel=>exact⟨f+1,Uq,sq,by omega,by go_num,by rw[show 20-(f+1)=20-f-1 by omega];exact HL3.out.2,HE.out⟩
         case measure=>simp[intOf];omega))
  obtain rfl:f=20:=by omega
  rw[Nat.sub_self]at hl;unfold PW.askL? at hl
  injection hl with hl
  subst hl;have HD2:=hid hA;have t0:=HD2.out.tat.blk.cell 0;have q0:=HD2.out.tat.wat.cells.1;have HLg:=hid (log27 _ Ur c L sr.c HD2.out.tat.wat.clu);have HAl:=hid (all28 _ Ur 85 L.log sr.c.log HD2.out.tat.wat.clu.log HX.out.2.1.2.2)
  go_wp2_with (first|(go_at_call 27;refine HLg.out.mono ?_;rintro e w' ⟨rfl,hw⟩;obtain rfl:=hw)|(go_at_call 28;fail))
  refine HAl.out.mono ?_;rintro e w7 ⟨v7,rfl,ho7,hb7⟩;obtain⟨A7,c7,rfl⟩:=ownsRow_slice ho7;have hc7:Chg (fun _=>False) _ Ur w7 (ext Ur _ 94):=Chg.of_below hb7 94;have hrw:Rw w7 (ext Ur _ 94) 94 59 13 (.slice A7 sr.c.log.length c7) sr.c.log.length (sr.c.log.flatMap encC):=Rw.of_new ho7 (Nat.le_refl _) Ur 94;have hA7:=HD2.out.step (HD2.out.tat.keep hc7 fun _ h=>h.elim) (hc7.mono fun _ h=>h.elim);generalize ext Ur _ 94=U7 at hrw hA7;have hml:=(List.getElem?_eq_some_iff.1 HN1.out.1).1
  obtain⟨g7,rfl⟩:∃ g,A7=some ⟨g,0,none⟩:=by
   obtain⟨A',c',e1,-,-,-,-,hA,ha⟩:=hrw.slice
   injection e1 with e1 _ _
   subst e1
   cases A7 with
   | none=>have:=(hA rfl).1;omega
   | some a=>
    obtain⟨b0,o0,s0⟩:=a;obtain⟨rfl,rfl,_⟩:=ha _ rfl;exact⟨b0,rfl⟩
  have hld:=Rw.load (P:=Tryz.prog) encC_len (by decide) hrw hml (by kernel_rfl) (by kernel_rfl)
  have hze:sr.c.log[m]=z:=by have:=(List.getElem?_eq_some_iff.1 HN1.out.1).2;exact this
  rw[hze]at hld;obtain⟨W8,hst,hb8,hbl8,hsz8⟩:=store_fresh (P:=Tryz.prog) w7 59 #[.int .i64 0,.int .i64 0,.string ⟨#[]⟩,.int .i64 0,.int .i64 0,.int .i64 0,.bool false,.int .i64 0,.int .i64 0,.string ⟨#[]⟩,.int .i64 0,.string ⟨#[]⟩,.bool false] (encC z) (fun W=>by kernel_rfl) rfl (encC_one z);have HLd:=hid hld;have HSt:=hid hst
  have kml:(m:Int)<(sr.c.log.length:Int):=by omega
  have kml2:m<sr.c.log.length:=hml
  have km9:(m:Int)<=1000:=by have:=HN1.out.2;omega
  have HA7:=hid hA7;clear ho7 hb7 hc7 hrw hA7 hld hst t0 q0 HLg HAl hA HD2 hze
  go_wp2_with (first|(refine wpl_lq 59 _ rfl ?_;refine lq 59 _ _ _ rfl (by kernel_rfl) HLd.out ?_)|(refine wpl_sq 59 _ _ rfl rfl ?_;refine sq 59 _ _ _ _ W8 rfl rfl (by kernel_rfl) HSt.out ?_))
  have hcd:Chg (fun _=>False) w7 U7 W8.drew (ext U7 w7 94):=(Chg.of_below hbl8 94).drew;have hA8:=HA7.out.step (HA7.out.tat.keep hcd fun _ h=>h.elim) (hcd.mono fun _ h=>h.elim);have hb8d:Blk W8.drew w7.heap.size 59 (encC z).toArray:=hb8.drewN 1;have hlt7:w.heap.size<w7.heap.size:=HA7.out.blk.lt;generalize ext U7 w7 94=U8 at hcd hA8;have S8:Hid (Blk W8.drew w7.heap.size 59 (encC z).toArray):=hid hb8d;obtain⟨W9,hst9,hb9,hk9,hsz9,p1,p2,p3⟩:=store_blk (P:=Tryz.prog) W8.drew 57 w.heap.size z57 (encR z.reply) (by kernel_rfl) hA8.blk.blk rfl (encR_one z.reply);have hc9:Chg (fun _=>True) W8.drew U8 W9 U8:=⟨p1,p2,p3,by omega,fun k hk hn=>absurd trivial hn,fun _ _=>rfl⟩;have hc94:Chg (· = 94) W8.drew U8 W9 U8:=⟨p1,p2,p3,by omega,fun k hk hn=>hk9 k (by rintro rfl;exact hn hA8.blk.own),fun _ _=>rfl⟩;have HF:Hid (TAt W9 U8 t x c L sr/\Chg TX w U W9 U8/\Blk W9 w.heap.size 57 (encR z.reply).toArray):=hid ⟨hA8.tat.keep hc94 fun y hy=>by rw[hy];unfold TX;decide,⟨p1.trans hA8.chg.os,p2.trans hA8.chg.tape,p3.trans hA8.chg.output,by have:=hA8.chg.size;omega,fun k hk hn=>(hk9 k (by omega)).trans (hA8.chg.block k hk hn),hA8.chg.own⟩,hb9⟩;have HSt9:=hid hst9
  have hb9':Blk W9 w7.heap.size 59 (encC z).toArray:=by
   have:=hk9 w7.heap.size (by omega);exact this.trans hb8d
  have HB9:=hid hb9';clear hcd hA8 hb8d hst9 hb9 hk9 hsz9 p1 p2 p3 hc9 hc94 hb9' hb8 hbl8 hsz8 HA7 HLd HSt hlt7;refine wp_region_hl [4] [0,1,2,3,4] (fun W=>Blk W w7.heap.size 59 (encC z).toArray) (by kernel_rfl) (by kernel_rfl) S8.out ?_;refine hd_take (v:=?_) rfl rfl (by kernel_rfl) (fun W hW=>?_) ?_
  rotate_left
  ·first|(go_simp;done)|(go_simp;with_reducible rfl)
  refine hd_load 57 (.tmp 117) rfl rfl (by kernel_rfl) rfl (.pointer (some ⟨w7.heap.size,7,none⟩)) (.agg (encR z.reply).toArray) (by go_simp) (fun W hW=>load_rep hW) ?_;refine hd_take (v:=?_) rfl rfl (by kernel_rfl) (fun W hW=>?_) ?_
  rotate_left
  ·first|(go_simp;done)|(go_simp;with_reducible rfl)
  refine hd_take (v:=.bool z.done) rfl rfl (by kernel_rfl) (fun W hW=>?_) ?_
  ·have d6:W.cell? ⟨w7.heap.size,6,none⟩=some (.bool z.done):=hW.cell 6
   first|(go_simp;done)|(go_simp;with_reducible rfl)
  refine hd_st 57 (.tmp 10) (.tmp 118) rfl rfl (by kernel_rfl) rfl rfl (.pointer (some ⟨w.heap.size,0,none⟩)) (.agg (encR z.reply).toArray) (by go_simp) (by go_simp) W9 HSt9.out HB9.out (hd_end ?_);simp only[zqa,zqb,zqc,zqd,Nat.zero_add,Nat.reduceAdd]
  go_wp2_with fail
  refine bodyPost_ret (results_cell2 rfl _ _ _ ⟨w.heap.size,0,none⟩ _ rfl (loadVar_rep HF.out.2.2)) rfl ?_;exact⟨rfl,U8,HF.out.1,HF.out.2.1⟩
def PW.set? (s:PW)(k v:ByteArray):Option PW:=s.step? 6 0 0 k v true
def PW.get? (s:PW)(a:Nat)(k v:ByteArray)(rd:Bool):Option PW:=(s.ask? 7 a k rd).bind fun z=>if z.2.done && decide (z.2.reply.err=0) && z.2.reply.has && decide (z.2.reply.val=v) then some z.1 else none
def PW.kil? (s:PW)(a:Nat)(k:ByteArray)(rd:Bool):Option PW:=(s.ask? 8 a k rd).bind fun z=>if z.2.done && decide (z.2.reply.err=0) then some z.1 else none
structure TR (w0 w:World)(U:Own)(t x c:Nat)(L:CL)(s:PW):Prop where
 tat:TAt w U t x c L s
 chg:Chg TX w0 (fun _=>94) w U
section
variable {w0 w : World} {U : Own} {t x c : Nat} {L : CL} {s s' : PW}
theorem TR.cells (H:TR w0 w U t x c L s):w.cell? ⟨t,0,none⟩=some (ptr x)/\w.cell? ⟨t,1,none⟩=some (.bool true)/\w.cell? ⟨x,0,none⟩=some (ptr c):=⟨H.tat.blk.cell 0,H.tat.blk.cell 1,H.tat.wat.cells.1⟩
theorem TR.below (H:TR w0 w U t x c L s):Below w0.heap.size w0 w:=H.chg.tx_below
theorem TR.go {w':World}{U':Own}(H:TR w0 w U t x c L s)(h:TAt w' U' t x c L s')(hc:Chg TX w U w' U'):TR w0 w' U' t x c L s':=⟨h,H.chg.trans hc⟩
theorem TR.quiet {w':World}{U':Own}(H:TR w0 w U t x c L s)(hc:Chg (fun _=>False) w U w' U'):TR w0 w' U' t x c L s:=H.go (H.tat.keep hc fun _ h=>h.elim) (hc.mono fun _ h=>h.elim)
theorem TR.keep {w':World}(H:TR w0 w U t x c L s)(hb:Below w.heap.size w w'):TR w0 w' (ext U w 94) t x c L s:=H.quiet (Chg.of_below hb 94)
abbrev TRs (w0 w:World)(t x c:Nat)(L:CL)(s:PW):Prop:=∃ U,TR w0 w U t x c L s
theorem tset (H:TR w0 w U t x c L s)(key val:ByteArray)(ha:s.set? key val=some s') :
 Calls Tryz.prog 16 #[ptr t,.string key,.string val] w fun e w'=>(∃ r,e=.returned r)/\TRs w0 w' t x c L s':=
 (set16 w U t x c L s s' H.tat key val ha).mono fun e w' ⟨h,U',h1,hc⟩=>⟨h,U',H.go h1 hc⟩
theorem trounds (H:TR w0 w U t x c L s)(n:Nat)(hn:n<=1000)(ha:s.rounds? n=some s') :
 Calls Tryz.prog 29 #[ptr t,.int .i64 (n:Int)] w fun e w'=>(∃ r,e=.returned r)/\TRs w0 w' t x c L s':=
 (rounds29 w U t x c L s s' H.tat n hn ha).mono fun e w' ⟨h,U',h1,hc⟩=>⟨h,U',H.go h1 hc⟩
theorem task {z:PCall}(H:TR w0 w U t x c L s)(fn a:Nat)(key:ByteArray)(rd:Bool)(ha:s.ask? fn a key rd=some (s',z)) :
 Calls Tryz.prog 31 #[ptr t,.int .i64 (fn:Int),.int .i64 (a:Int),.string key,.bool rd] w fun e w'=>e=.returned (.tuple #[.agg (encR z.reply).toArray,.bool z.done])/\TRs w0 w' t x c L s':=
 (ask31 w U t x c L s s' z H.tat fn a key rd ha).mono fun e w' ⟨h,U',h1,hc⟩=>⟨h,U',H.go h1 hc⟩
theorem tright (H:TR w0 w U t x c L s)(ha:s.right=true):Calls Tryz.prog 21 #[ptr x] w fun e w'=>e=.returned (.bool true)/\TRs w0 w' t x c L s:=
 (right21 w U x c L s H.tat.wat ha).mono fun e w' ⟨h,U',h1,hc⟩=>⟨h,U',H.quiet hc⟩
end
section
variable {w0 w : World} {U : Own} {t x c : Nat} {L : CL} {s s' : PW}
theorem tget (H:TR w0 w U t x c L s)(a:Nat)(key val:ByteArray)(ha:s.get? a key val true=some s') :
 Calls Tryz.prog 19 #[ptr t,.int .i64 (a:Int),.string key,.string val] w fun e w'=>e=.returned (.bool true)/\TRs w0 w' t x c L s':=by
 unfold PW.get? at ha;obtain⟨⟨s1,z⟩,hz,hc⟩:=Option.bind_eq_some_iff.1 ha
 split at hc
 case isFalse=>cases hc
 rename_i hg
 injection hc with hc
 simp only[Bool.and_eq_true,decide_eq_true_eq]at hg;dsimp only at hc hg;subst hc;have HA:=hid (task H 7 a key true hz);have HG:=hid hg;clear H ha hz hg;go_enter Tryz.func19,Tryz.ntmps19
 go_wp2_with (go_at_call 31;fail)
 refine HA.out.mono ?_;rintro e w2 ⟨rfl,U2,h2⟩;obtain⟨W3,hst,hb3,hbl,-⟩:=store_fresh (P:=Tryz.prog) w2 57 z57 (encR z.reply) (fun W=>by kernel_rfl) rfl (encR_one z.reply);have H3:=h2.keep hbl;have HSt:=hid hst;have t1:=H3.cells.2.1;have z3:W3.cell? ⟨w2.heap.size,3,none⟩=some (.int .i64 (z.reply.err:Int)):=hb3.cell 3;have z4:W3.cell? ⟨w2.heap.size,4,none⟩=some (.string z.reply.val):=hb3.cell 4;have z5:W3.cell? ⟨w2.heap.size,5,none⟩=some (.bool z.reply.has):=hb3.cell 5;obtain⟨⟨⟨g1,g2⟩,g3⟩,g4⟩:=HG.out;rw[g2]at z3;rw[g3]at z5;rw[g4]at z4;rw[g1];have HF:=hid H3;clear hst hb3 hbl H3 h2 HA HG g1 g2 g3 g4
 go_wp2_with (refine wpl_sq 57 _ _ rfl rfl ?_;refine sq 57 _ _ _ _ W3 rfl rfl (by kernel_rfl) HSt.out ?_)
 go_ret;exact⟨rfl,_,HF.out⟩
theorem twarm (H:TR w0 w U t x c L s)(a:Nat)(key val:ByteArray)(ha:s.get? a key val false=some s') :
 Calls Tryz.prog 30 #[ptr t,.int .i64 (a:Int),.string key,.string val] w fun e w'=>e=.returned (.bool true)/\TRs w0 w' t x c L s':=by
 unfold PW.get? at ha;obtain⟨⟨s1,z⟩,hz,hc⟩:=Option.bind_eq_some_iff.1 ha
 split at hc
 case isFalse=>cases hc
 rename_i hg
 injection hc with hc
 simp only[Bool.and_eq_true,decide_eq_true_eq]at hg;dsimp only at hc hg;subst hc;have HA:=hid (task H 7 a key false hz);have HG:=hid hg;clear H ha hz hg;go_enter Tryz.func30,Tryz.ntmps30
 go_wp2_with (go_at_call 31;fail)
 refine HA.out.mono ?_;rintro e w2 ⟨rfl,U2,h2⟩;obtain⟨W3,hst,hb3,hbl,-⟩:=store_fresh (P:=Tryz.prog) w2 57 z57 (encR z.reply) (fun W=>by kernel_rfl) rfl (encR_one z.reply);have H3:=h2.keep hbl;have HSt:=hid hst;have t1:=H3.cells.2.1;have z3:W3.cell? ⟨w2.heap.size,3,none⟩=some (.int .i64 (z.reply.err:Int)):=hb3.cell 3;have z4:W3.cell? ⟨w2.heap.size,4,none⟩=some (.string z.reply.val):=hb3.cell 4;have z5:W3.cell? ⟨w2.heap.size,5,none⟩=some (.bool z.reply.has):=hb3.cell 5;obtain⟨⟨⟨g1,g2⟩,g3⟩,g4⟩:=HG.out;rw[g2]at z3;rw[g3]at z5;rw[g4]at z4;rw[g1];have HF:=hid H3;clear hst hb3 hbl H3 h2 HA HG g1 g2 g3 g4
 go_wp2_with (refine wpl_sq 57 _ _ rfl rfl ?_;refine sq 57 _ _ _ _ W3 rfl rfl (by kernel_rfl) HSt.out ?_)
 go_ret;exact⟨rfl,_,HF.out⟩
theorem tkill (H:TR w0 w U t x c L s)(a:Nat)(key:ByteArray)(ha:s.kil? a key true=some s') :
 Calls Tryz.prog 20 #[ptr t,.int .i64 (a:Int),.string key] w fun e w'=>e=.returned (.bool true)/\TRs w0 w' t x c L s':=by
 unfold PW.kil? at ha;obtain⟨⟨s1,z⟩,hz,hc⟩:=Option.bind_eq_some_iff.1 ha
 split at hc
 case isFalse=>cases hc
 rename_i hg
 injection hc with hc
 simp only[Bool.and_eq_true,decide_eq_true_eq]at hg;dsimp only at hc hg;subst hc;have HA:=hid (task H 8 a key true hz);have HG:=hid hg;clear H ha hz hg;go_enter Tryz.func20,Tryz.ntmps20
 go_wp2_with (go_at_call 31;fail)
 refine HA.out.mono ?_;rintro e w2 ⟨rfl,U2,h2⟩;obtain⟨W3,hst,hb3,hbl,-⟩:=store_fresh (P:=Tryz.prog) w2 57 z57 (encR z.reply) (fun W=>by kernel_rfl) rfl (encR_one z.reply);have H3:=h2.keep hbl;have HSt:=hid hst;have t1:=H3.cells.2.1;have z3:W3.cell? ⟨w2.heap.size,3,none⟩=some (.int .i64 (z.reply.err:Int)):=hb3.cell 3;have z4:W3.cell? ⟨w2.heap.size,4,none⟩=some (.string z.reply.val):=hb3.cell 4;have z5:W3.cell? ⟨w2.heap.size,5,none⟩=some (.bool z.reply.has):=hb3.cell 5;obtain⟨g1,g2⟩:=HG.out;rw[g2]at z3;clear z5;clear z4;rw[g1];have HF:=hid H3;clear hst hb3 hbl H3 h2 HA HG g1 g2
 go_wp2_with (refine wpl_sq 57 _ _ rfl rfl ?_;refine sq 57 _ _ _ _ W3 rfl rfl (by kernel_rfl) HSt.out ?_)
 go_ret;exact⟨rfl,_,HF.out⟩
end
def optB {α:Type}(o:Option α)(f:α->Bool):Bool:=match o with
 | some a=>f a
 | none=>false
theorem optB_ex {α:Type}{o:Option α}{f:α->Bool}(h:optB o f=true):∃ a,o=some a/\f a=true:=by
 cases o with
 | none=>cases h
 | some a=>exact⟨a,rfl,h⟩
-- TopLease
-- TopTime
-- TopAbsent
-- TopLostAsk
-- TopAnswerLate
-- TopSpread
-- TopFill
-- TopKill
theorem wf_i64 {a:Int}(h:(Lit.int .i64 a).wf=true) : -9223372036854775808<=a/\a<=9223372036854775807:=by
 simpa [Lit.wf,IntKind.min,IntKind.max,IntKind.signed,IntKind.bits] using h
theorem smallF_lt (a:Int)(k:Nat)(h:0<k):smallF a k<k:=by
 unfold smallF;have h1:a.tmod (k:Int)<(k:Int):=Int.tmod_lt_of_pos _ (by omega)
 have h2 : -(k:Int)<a.tmod (k:Int):=by
  have h:=Int.tmod_lt_of_pos (-a) (b:=(k:Int)) (by omega);rw[Int.neg_tmod]at h;omega
 omega
theorem tsmall (w:World)(x:Int)(k:Nat)(h0:0<k)(hk:k<=1000)(hx:(Lit.int .i64 x).wf=true):Calls Tryz.prog 14 #[.int .i64 x,.int .i64 (k:Int)] w fun e w'=>(∃ j,j<k/\j=smallF x k/\e=.returned (.int .i64 (j:Int)))/\w=w':=
 (small14 w x k h0 hk (wf_i64 hx).1 (wf_i64 hx).2).mono fun e w' ⟨h,hw⟩=>⟨⟨_,smallF_lt x k h0,rfl,h⟩,hw⟩
theorem tmade (w0 w:World)(hb:Below w0.heap.size w0 w)(n:Nat)(cs:Array Value)(hcs:cs=(nnums (upto n)).toArray)(h1:1<=n)(h5:n<=5)(s:PW)(ha:(PW.new n).rounds? 3=some s) :
 Calls Tryz.prog 15 #[.slice (some ⟨w.heap.size,0,none⟩) n n] (w.alloc (.cells cs 3)) fun e w'=>∃ t x c L,e=.returned (ptr t)/\TRs w0 w' t x c L s:=by
 have hc:Chg (fun _=>False) w0 (fun _=>94) (w.alloc (.cells cs 3)) (fun _=>94):=((Chg.same_own (U:=fun _=>94) hb).trans ((Chg.refl _ _ _).alloc _));refine(made15 (w.alloc (.cells cs 3)) (fun _=>94) n n (some ⟨w.heap.size,0,none⟩) s (by have:=(Blk.new w 3 cs).sl;rw[hcs]at this ⊢;simpa using this) (fun a ha=>by injection ha with ha;subst ha;exact⟨by simp,by unfold CT;decide⟩) h1 h5 ha).mono ?_;rintro e w' ⟨t,x,c,L,U',rfl,h1,h2⟩;exact⟨t,x,c,L,rfl,U',h1,(hc.mono fun _ h=>h.elim).trans h2⟩
section
variable {w0 w : World} {U : Own} {t x c : Nat} {L : CL} {s s' : PW}
end
section
variable {w0 w : World} {U : Own} {t x c : Nat} {L : CL} {s s' : PW}
theorem tkey (H:TR w0 w U t x c L s)(i:Nat)(hi:i<40):Calls Tryz.prog 17 #[.int .i64 (i:Int)] w fun e w'=>e=.returned (.string (keyB i))/\TRs w0 w' t x c L s:=
 (key17 w i hi).mono fun e w' ⟨h1,h2⟩=>⟨h1,_,H.keep h2⟩
theorem tval (H:TR w0 w U t x c L s)(i n:Nat)(hi:i<40)(hn:n<10):Calls Tryz.prog 18 #[.int .i64 (i:Int),.int .i64 (n:Int)] w fun e w'=>e=.returned (.string (valB i n))/\TRs w0 w' t x c L s:=
 (val18 w i n hi hn).mono fun e w' ⟨h1,h2⟩=>⟨h1,_,H.keep h2⟩
end
def CL.setD (L:CL)(v:Nat):CL:={ L with dv:=fun q=>if q=1 then v else L.dv q }
structure DownAt (w:World)(U:Own)(c:Nat)(L:CL)(s:PCl)(p:PNode):Prop where
 clen:s.cks.length=6
 blk:Has w U 86 c 89 ((cluV L 1).toArray.setIfInBounds 4 (.pointer none))
 ctl:CtlAt w U 80 L.ctl L.cc 1
 ck0:∀ k,s.cks[0]? = some k->ClockAt w U 81 L.cc k
 dev:∃ Z,DevAt w U 9 (L.dv 1) 1200 Z Lasts/\StoreOn Z p.fs p.cnt p.tn p.m
 ck:∀ i k,1<=i->i<=5->s.cks[i]? = some k->ClockAt w U (16*(i-1)+11) (L.ck i) k
 net:NetAt w U 83 L.net s.net
 org:OrgAt w U 84 L.org s.org
 log:LgAt w U 85 L.log s.log
theorem DownAt.keep {w w':World}{U U':Own}{c:Nat}{L:CL}{s:PCl}{p:PNode}{T:Nat->Prop}(H:DownAt w U c L s p)(hc:Chg T w U w' U')(hT:∀ x,T x->¬ CT x):DownAt w' U' c L s p:=by
 have k (x:Nat) (hx:x%96<=86):¬ T x:=fun h=>hT x h hx;obtain⟨Z,hd,hs⟩:=H.dev
 exact⟨H.clen,H.blk.keep hc (k _ (by decide)),H.ctl.keep hc (k _ (by decide)) (k _ (by decide)),fun q hq=>(H.ck0 q hq).keep hc (k _ (by decide)),⟨Z,hd.keep hc (k _ (by decide)),hs⟩,fun i q h1 h5 hq=>(H.ck i q h1 h5 hq).keep hc (k _ (by omega)),
  H.net.keep hc (k _ (by decide)) (k _ (by decide)) (k _ (by decide)),H.org.keep hc (k _ (by decide)) (k _ (by decide)),H.log.keep hc (k _ (by decide)) (k _ (by decide))⟩
def CdS (c d:Nat)(W:World):Prop:=W.cell? ⟨c,10,none⟩=some (ptr d)
def CeS (c a b:Nat)(W:World):Prop:=W.cell? ⟨c,29,none⟩=some (ptr a)/\W.cell? ⟨c,28,none⟩=some (ptr b)
theorem crash68 (w:World)(U:Own)(c:Nat)(L:CL)(s:PCl)(p:PNode)(K:Value)(H:CluAt w U c L s)(hn:s.n=1)(hp:s.nodes=[p])(hb:p.m.b=1)(hd:doneL s.log=true)(hl:s.log.length<=1000) :
 Calls Tryz.prog 68 #[ptr c,.int .i64 1,K] w fun e w'=>e=.returned (.int .i64 0)/\∃ L' U',DownAt w' U' c L' s p/\Chg CT w U w' U':=by
 have HN:=hid (node24 w U c L s H 1 (by decide) (by decide))
 have e1:ndV L s.n 1=ptr (L.nd 1):=by unfold ndV;rw[if_pos (by rw[hn];decide)]
 rw[e1]at HN;obtain⟨-,-,h,hNd⟩:=H.node 1 p (Nat.le_refl _) (by rw[hp];rfl);obtain⟨Z,hdv,hst⟩:=hNd.store.fallen hb;have hcd:Chg (fun _=>False) w U w.drew U:=(Chg.refl _ _ _).drew;have hH:=H.keep hcd fun _ h=>h.elim;have hdvd:=hdv.keep hcd id;have HCr:=hid (crash92 w.drew U 9 (L.dv 1) 1200 Z hdvd (by decide) (by decide) K);have hblk:=hH.blk;rw[hn]at hblk;have c10:CdS c (L.dv 1) w.drew:=hblk.cell 10;have S5:=hid c10;have HX:=hid (And.intro hH (And.intro hn (And.intro hst (And.intro hd hl))));have HC0:=hid hcd;clear H hNd hdv hst hH hdvd hblk c10 hcd hd hp;go_enter Tryz.func68,Tryz.ntmps68
 go_wp2_with (go_at_call 24;refine HN.out.mono ?_;rintro e w' ⟨rfl,hw⟩;obtain rfl:=hw)
 refine wp_region_hl [11,15] [0,1,2,3,4,5,6,7,8,9,10,12,13,16,17,11,14,15] (CdS c (L.dv 1)) (by kernel_rfl) (by kernel_rfl) S5.out ?_
 iterate 15 (refine hd_take (v:=?_) rfl rfl (by kernel_rfl) (fun W hW=>?_) ?_;rotate_left;(have r0:=hW;unfold CdS at r0;first|(go_simp;done)|(go_simp;with_reducible rfl)))
 refine hd_loud rfl rfl fun K2 hK=>?_;go_simp;refine HCr.out.mono ?_;rintro e w2 ⟨d2,rfl,hd2,hb2,-⟩;have hc2:Chg (fun _=>False) w.drew U w2 (ext U w.drew 9):=Chg.of_below hb2 9;generalize ext U w.drew 9=U2 at hd2 hc2;have h2:=HX.out.1.keep hc2 fun _ h=>h.elim;have hbl2:=h2.blk;rw[HX.out.2.1]at hbl2;have c4:w2.cell? ⟨c,4,none⟩=some (ptr (L.nd 1)):=hbl2.cell 4;have f4:=hbl2.frozen 4;have HS2:=hid (And.intro h2 (And.intro hd2 (And.intro (HC0.out.trans hc2) hbl2)));refine hK _ _ (hbl2.cell 10) ?_;clear hK hd2 hb2 hc2 h2 hbl2 HCr S5;refine hd_take (v:=?_) rfl rfl (by kernel_rfl) (fun W hW=>?_) ?_
 rotate_left
 ·first|(go_simp;done)|(go_simp;with_reducible rfl)
 refine hd_loud rfl rfl fun K2 hK=>?_;go_simp;have hb3:=HS2.out.2.2.2.set_ 4 (.pointer none);have c10:(w2.setCell ⟨c,4,none⟩ (.pointer none)).cell? ⟨c,10,none⟩=some (ptr (L.dv 1)):=hb3.cell 10;have f10:=hb3.frozen 10;have HB3:=hid hb3;have hc3:Chg (· = 86) w2 U2 (w2.setCell ⟨c,4,none⟩ (.pointer none)) U2:=(Chg.refl _ _ _).setCell (p:=⟨c,4,none⟩) HS2.out.2.2.2.own _;have HC3:=hid hc3;generalize w2.setCell ⟨c,4,none⟩ (.pointer none)=w3 at *;refine hK _ _ c10 (hd_end ?_);clear hK hb3 hc3 c4 f4;simp only[zqa,zqb,zqc,zqd,Nat.zero_add,Nat.reduceAdd]
 have HDn:Hid (∀ W,W=w3.setCell ⟨c,10,none⟩ (ptr d2)->DownAt W U2 c (L.setD d2) s p/\Chg CT w U W U2):=hid fun W hW=>by
  obtain⟨h2,hd2,hc2,-⟩:=HS2.out;have hc4:Chg (· = 86) w2 U2 W U2:=HC3.out.trans (by rw[hW];exact(Chg.refl _ _ _).setCell (p:=⟨c,10,none⟩) HB3.out.own _);have hb:=HB3.out.set_ 10 (ptr d2);rw[<- hW]at hb;refine⟨⟨h2.clen,hb,?_,fun q hq=>(h2.ck0 q hq).keep hc4 (by decide),⟨Z,hd2.keep hc4 (by decide),HX.out.2.2.1⟩,fun i q i1 i5 hq=>(h2.ck i q i1 i5 hq).keep hc4 (by omega),h2.net.keep hc4 (by decide) (by decide) (by decide),h2.org.keep hc4 (by decide) (by decide),h2.log.keep hc4 (by decide) (by decide)⟩,(hc2.mono fun _ h=>h.elim).trans (hc4.mono fun x e=>by subst e;unfold CT;decide)⟩;have:=h2.ctl;rw[HX.out.2.1]at this;exact this.keep hc4 (by decide) (by decide)
 obtain⟨W4,hW4⟩:∃ W,W=w3.setCell ⟨c,10,none⟩ (ptr d2):=⟨_,rfl⟩;obtain⟨hD4,hC4⟩:=HDn.out W4 hW4;have HW4:=hid hW4;have hcd4:Chg (fun _=>False) W4 U2 W4.drew U2:=(Chg.refl _ _ _).drew;have hD5:=hD4.keep hcd4 fun _ h=>h.elim;have S6:Hid (CeS c L.log L.org W4.drew):=hid ⟨hD5.blk.cell 29,hD5.blk.cell 28⟩;have HNow:=hid (now91 W4.drew U2 84 L.org s.org hD5.org);have HDr:=hid (drop93 W4.drew U2 85 L.log s.org.length 1 s.log hD5.log HX.out.2.2.2.2 HX.out.2.2.2.1);have HD5:=hid (And.intro hD5 (hC4.trans (hcd4.mono fun _ h=>h.elim)));clear hW4 hD4 hC4 hcd4 hD5 HS2 HB3 HC3 HDn
 go_wp2_with (first|rw[<- HW4.out]|fail)
 refine wp_region_hl [9] [0,1,2,3,4,5,6,7,8,9] (CeS c L.log L.org) (by kernel_rfl) (by kernel_rfl) S6.out ?_
 iterate 9 (refine hd_take (v:=?_) rfl rfl (by kernel_rfl) (fun W hW=>?_) ?_;rotate_left;(obtain⟨r0,r1⟩:=hW;first|(go_simp;done)|(go_simp;with_reducible rfl)))
 refine hd_loud rfl rfl fun K2 hK=>?_;go_simp;refine HNow.out.mono ?_;rintro e w5 ⟨rfl,rfl⟩;refine hK _ _ S6.out (hd_end ?_);clear hK;simp only[zqa,zqb,zqc,zqd,Nat.zero_add,Nat.reduceAdd]
 go_wp2_with (go_at_call 93;fail)
 refine HDr.out.mono ?_;rintro e w6 ⟨rfl,hb6⟩;have hc6:Chg (fun _=>False) W4.drew U2 w6 (ext U2 W4.drew 95):=Chg.of_below hb6 95;have HF:=hid (And.intro (HD5.out.1.keep hc6 fun _ h=>h.elim) (HD5.out.2.trans (hc6.mono fun _ h=>h.elim)));clear hb6 hc6
 go_wp2_with fail
 go_ret;exact⟨rfl,L.setD d2,_,HF.out⟩
structure FallB (s:PCl)(p:PNode):Prop where
 n:s.n=1
 b:p.m.b=1
 done:doneL s.log=true
 log:s.log.length<=1000
 cnt:p.cnt<=12
 pk:(pack (p.fs.recs.map FRec.bytes)).length<=12
 tn:p.tn+1<=1000000
 ok:p.m.ok=true
 ok2:(⟨p.m.b+1,p.m.e,p.m.r,p.m.f⟩:MS).ok=true
def PNode.rise (p:PNode):PNode:=PNode.new p.fs p.cnt (p.tn+1) ⟨p.m.b+1,p.m.e,p.m.r,p.m.f⟩
theorem open102 (w:World)(U:Own)(n d k:Nat)(s:PCl)(p:PNode)(hF:FallB s p)(hD:∃ Z,DevAt w U 9 d 1200 Z Lasts/\StoreOn Z p.fs p.cnt p.tn p.m)(hn:n<95) :
 Calls Tryz.prog 102 #[.int .i64 1,.pointer (some ⟨d,0,none⟩),.pointer (some ⟨k,0,none⟩)] w fun e w'=>∃ N h U',e=.returned (.tuple #[.pointer (some ⟨N,0,none⟩),.int .i64 0])/\NodeAt w' U' 0 n N d k 1 p.rise h/\Chg (ST 0) w U w' U':=by
 obtain⟨Z,hd,hs⟩:=hD;have HM:=hid (open136 w U 0 d p.cnt p.tn p.fs p.m Z Lasts hd (by decide) hs hF.cnt hF.pk hF.tn (by rw[hF.b];decide) hF.ok hF.ok2);clear hd hs hF;go_enter Tryz.func102,Tryz.ntmps102
 go_wp2_with (go_at_call 136;fail)
 refine HM.out.mono ?_;rintro e w1 ⟨S,U1,rfl,hs,hc⟩;have HB:=hid (begin137 w1 U1 0 n S d k 1 _ _ _ _ hs hn);have HC:=hid hc;clear hs hc
 go_wp2_with (go_at_call 137;fail)
 refine HB.out.mono ?_;rintro e w2 ⟨N,h,U2,rfl,hN,hc2⟩;have HF:=hid (And.intro hN (HC.out.trans (hc2.mono fun _ h=>h.elim)));clear hN hc2
 go_wp2
 go_ret2
 exact⟨N,h,U2,rfl,HF.out⟩
theorem cluV_rise (L:CL)(v:Nat):(((cluV L 1).toArray.setIfInBounds 4 (.pointer none)).setIfInBounds 4 (ptr v)).setIfInBounds 22 (.bool true)=(cluV (L.setNd 1 v) 1).toArray:=rfl
def CgS (c d k:Nat)(W:World):Prop:=W.cell? ⟨c,10,none⟩=some (ptr d)/\W.cell? ⟨c,16,none⟩=some (ptr k)
theorem start78b (w:World)(U:Own)(c:Nat)(L:CL)(s:PCl)(p:PNode)(H:DownAt w U c L s p)(hF:FallB s p) :
 Calls Tryz.prog 78 #[ptr c,.int .i64 1] w fun e w'=>e=.returned (.int .i64 0)/\∃ L' U',CluAt w' U' c L' { s with nodes:=[p.rise] }/\Chg CT w U w' U':=by
 have c22:w.cell? ⟨c,22,none⟩=some (.bool true):=H.blk.cell 22;have hcd:Chg (fun _=>False) w U w.drew U:=(Chg.refl _ _ _).drew;have hd:=H.keep hcd fun _ h=>h.elim;have S1:Hid (CgS c (L.dv 1) (L.ck 1) w.drew):=hid ⟨hd.blk.cell 10,hd.blk.cell 16⟩;have HM:=hid (open102 w.drew U 10 (L.dv 1) (L.ck 1) s p hF hd.dev (by decide));have HX:=hid (And.intro hd (And.intro hcd hF));clear H hcd hd hF;go_enter Tryz.func78,Tryz.ntmps78
 go_wp2_with fail
 refine wp_region_hl [13] [0,1,2,3,4,5,6,7,8,9,10,11,12,13,14,15,16,17] (CgS c (L.dv 1) (L.ck 1)) (by kernel_rfl) (by kernel_rfl) S1.out ?_
 iterate 13 (refine hd_take (v:=?_) rfl rfl (by kernel_rfl) (fun W hW=>?_) ?_;rotate_left;(obtain⟨r0,r1⟩:=hW;first|(go_simp;done)|(go_simp;with_reducible rfl)))
 refine hd_loud rfl rfl fun K hK=>?_;go_simp;refine HM.out.mono ?_;rintro e w2 ⟨v,h,U2,rfl,hN2,hc2⟩;have hb2:=HX.out.1.blk.keep hc2 (by unfold ST;decide);have S2:Hid (CgS c (L.dv 1) (L.ck 1) w2):=hid ⟨hb2.cell 10,hb2.cell 16⟩;have HN:=hid (And.intro hN2 hc2);have HB2:=hid hb2;clear hN2 hc2 hb2;refine hK _ _ S2.out ?_;clear hK
 iterate 3 (refine hd_take (v:=?_) rfl rfl (by kernel_rfl) (fun W hW=>?_) ?_;rotate_left;(first|(go_simp;done)|(go_simp;with_reducible rfl)))
 refine hd_take (v:=?_) rfl rfl (by kernel_rfl) (fun W hW=>?_) (hd_end ?_)
 rotate_left
 ·first|(go_simp;done)|(go_simp;with_reducible rfl)
 simp only[zqa,zqb,zqc,zqd,Nat.zero_add,Nat.reduceAdd];have hbd:=HB2.out.drewN 1;have e4:w2.drew.cell? ⟨c,4,none⟩=some (.pointer none):=hbd.cell 4;have f4:w2.drew.frozen? ⟨c,4,none⟩=false:=hbd.frozen 4
 have HFin:Hid (∀ W,W=(w2.drew.setCell ⟨c,4,none⟩ (ptr v)).setCell ⟨c,22,none⟩ (.bool true)->CluAt W U2 c (L.setNd 1 v) { s with nodes:=[p.rise] }/\Chg CT w U W U2):=hid fun W hW=>by
  have hcd2:Chg (fun _=>False) w2 U2 w2.drew U2:=(Chg.refl _ _ _).drew
  have hcs:Chg (· = 86) w2 U2 W U2:=by rw[hW];exact((hcd2.mono fun _ h=>h.elim).setCell (p:=⟨c,4,none⟩) HB2.out.own _).setCell (p:=⟨c,22,none⟩) HB2.out.own _
  have hb:=(hbd.set_ 4 (ptr v)).set_ 22 (.bool true)
  have hb':Has W U2 86 c 89 ((((cluV L 1).toArray.setIfInBounds 4 (.pointer none)).setIfInBounds 4 (ptr v)).setIfInBounds 22 (.bool true)):=by rw[hW];exact hb
  rw[cluV_rise]at hb';have hcc:Chg (fun x=>ST 0 x\/x=86) w.drew U W U2:=(HN.out.2.mono fun _ h=>.inl h).trans (hcs.mono fun _ h=>.inr h)
  have r (x:Nat) (hx:¬ x%96<=9) (h86:x≠86):¬ (ST 0 x\/x=86):=by unfold ST;omega
  have hD:=HX.out.1;refine⟨⟨by rw[HX.out.2.2.n];decide,by rw[HX.out.2.2.n];decide,by show 1=s.n;rw[HX.out.2.2.n],hD.clen,?_,?_,fun q hq=>(hD.ck0 q hq).keep hcc (r _ (by decide) (by decide)),fun i q h1 hq=>?_,fun i q h1 h5 hq=>(hD.ck i q h1 h5 hq).keep hcc (r _ (by omega) (by omega)),hD.net.keep hcc (r _ (by decide) (by decide)) (r _ (by decide) (by decide)) (r _ (by decide) (by decide)),hD.org.keep hcc (r _ (by decide) (by decide)) (r _ (by decide) (by decide)),hD.log.keep hcc (r _ (by decide) (by decide)) (r _ (by decide) (by decide))⟩,?_⟩
  ·show Has W U2 86 c 89 (cluV (L.setNd 1 v) s.n).toArray
   rw[HX.out.2.2.n];exact hb'
  ·show CtlAt W U2 80 L.ctl L.cc s.n
   rw[HX.out.2.2.n];exact hD.ctl.keep hcc (r _ (by decide) (by decide)) (r _ (by decide) (by decide))
  ·have hi:i-1=0:=by
    have:=(List.getElem?_eq_some_iff.1 hq).1
    simpa using this
   have hq':([p.rise]:List PNode)[i-1]? = some q:=hq;rw[hi]at hq';simp at hq';subst hq'
   obtain rfl:i=1:=by omega
   refine⟨rfl,rfl,h,?_⟩
   have e:(L.setNd 1 v).nd 1=v:=by unfold CL.setNd;simp
   show NodeAt W U2 0 10 ((L.setNd 1 v).nd 1) (L.dv 1) (L.ck 1) 1 p.rise h;rw[e]
   exact HN.out.1.keep hcs (by decide) fun x hx hy=>by unfold NT ST at hy;omega
  ·exact(HX.out.2.1.mono fun _ h=>h.elim).trans (hcc.mono fun x hx=>by unfold ST at hx;unfold CT;omega)
 clear hbd S2
 go_wp2_with fail
 refine wp_region_hl [8] [0,1,2,3,4,5,6,7,9,10,8,11] (fun _=>True) (by kernel_rfl) (by kernel_rfl) trivial ?_;have HBD:=hid (HB2.out.drewN 1).blk;clear HB2 HN
 change Hid (Blk w2.drew c 89 _) at HBD
 generalize w2.drew=wd at *
 iterate 10 (refine hd_take (v:=?_) rfl rfl (by kernel_rfl) (fun W hW=>?_) ?_;rotate_left;(first|(go_simp;done)|(go_simp;with_reducible rfl)))
 refine hd_loud rfl rfl fun K hK=>?_;go_simp;generalize hW3:World.setCell _ _ _=W3;have hb3:=HBD.out.set_ 4 (ptr v);rw[hW3]at hb3;have e6:W3.cell? ⟨c,22,none⟩=some (.bool true):=hb3.cell 22;have f6:W3.frozen? ⟨c,22,none⟩=false:=hb3.frozen _;have HF3:Hid (∀ W,W=W3.setCell ⟨c,22,none⟩ (.bool true)->CluAt W U2 c (L.setNd 1 v) { s with nodes:=[p.rise] }/\Chg CT w U W U2):=hid fun W hW=>HFin.out W (by rw[hW,<- hW3]);clear hW3 hb3 e4 f4 HFin;refine hK _ _ trivial ?_;clear hK;refine hd_take (v:=?_) rfl rfl (by kernel_rfl) (fun W hW=>?_) (hd_end ?_)
 rotate_left
 ·first|(go_simp;done)|(go_simp;with_reducible rfl)
 simp only[zqa,zqb,zqc,zqd,Nat.zero_add,Nat.reduceAdd]
 go_wp2_with fail
 go_ret;exact⟨rfl,_,U2,HF3.out _ rfl⟩
theorem rise69 (w:World)(U:Own)(c:Nat)(L:CL)(s:PCl)(p:PNode)(H:DownAt w U c L s p)(hF:FallB s p) :
 Calls Tryz.prog 69 #[ptr c,.int .i64 1] w fun e w'=>e=.returned (.int .i64 0)/\∃ L' U',CluAt w' U' c L' { s with nodes:=[p.rise] }/\Chg CT w U w' U':=by
 have HS:=hid (start78b w U c L s p H hF);have c4:w.cell? ⟨c,4,none⟩=some (.pointer none):=H.blk.cell 4;clear H hF;go_enter Tryz.func69,Tryz.ntmps69
 go_wp2_with (go_at_call 78;fail)
 refine HS.out.mono ?_;rintro e w1 ⟨rfl,h⟩;have HE:=hid h;clear h
 go_wp2_with fail
 go_ret;exact⟨rfl,HE.out⟩
end Go.Proofs.Ytlhekbjidppijaa
