/- Contracts of what TopFall reaches: what each function returns and leaves in memory. Conditions: as named. -/
import Derived.Test.YtlhekbjidppijaaGreatMBP
set_option linter.unusedVariables false
set_option linter.unusedSimpArgs false
set_option maxRecDepth 20000
set_option maxHeartbeats 8000000
namespace Go.Proofs.Ytlhekbjidppijaa
open Lib (hid)
open Go.RowKit
theorem e0s:(⟨#[]⟩:ByteArray).size=0:=rfl
theorem e0e:((⟨#[]⟩:ByteArray)=ByteArray.empty)=True:=by simp;rfl
theorem ask_in {s:PW}{fn a:Nat}{k:ByteArray}{rd:Bool}{P:PW->PCall->Prop}(h:∃ s1,s.step? fn a 0 k ⟨#[]⟩ false=some s1/\∃ s2,s1.askL? rd 20=some s2/\(1<=s1.c.log.length/\s1.c.log.length<=1000/\s2.c.log.length<=1000)/\∃ z,s2.c.log[s1.c.log.length-1]? = some z/\P s2 z):∃ s2 z,s.ask? fn a k rd=some (s2,z)/\P s2 z:=by
 obtain⟨s1,h1,s2,h2,hc,z,hz,hp⟩:=h;refine⟨s2,z,?_,hp⟩;unfold PW.ask?;simp only[h1,h2];rw[if_pos hc,hz];rfl
theorem drain_nil {s:PW}(h:s.c.net.length=0):s.drain? 300=some s:=by unfold PW.drain?;rw[if_pos h]
theorem drain_in {s:PW}{f:Nat}{P:PW->Prop}(h:¬ s.c.net.length=0)(h2:∃ s1,s.step? 2 0 0 ⟨#[]⟩ ⟨#[]⟩ false=some s1/\∃ s2,s1.drain? f=some s2/\P s2):∃ s2,s.drain? (f+1)=some s2/\P s2:=by
 obtain⟨s1,h1,s2,h2,hp⟩:=h2;refine⟨s2,?_,hp⟩;unfold PW.drain?;rw[if_neg h,h1];exact h2
theorem drain_end {s:PW}{f:Nat}{P:PW->Prop}(h:s.c.net.length=0)(hp:P s):∃ s2,s.drain? (f+1)=some s2/\P s2:=⟨s,by unfold PW.drain?;rw[if_pos h],hp⟩
theorem askL_end {s:PW}{f:Nat}{P:PW->Prop}(h:∃ s1,s.drain? 300=some s1/\s1.c.fewReads=true/\s1.c.nreads 5=0/\P s1):∃ s2,s.askL? true (f+1)=some s2/\P s2:=by
 obtain⟨s1,h1,h2,h3,hp⟩:=h;refine⟨s1,?_,hp⟩;unfold PW.askL?;simp[h1,h2,h3]
theorem askL_in {s:PW}{f:Nat}{P:PW->Prop}(h:∃ s1,s.drain? 300=some s1/\s1.c.fewReads=true/\¬ s1.c.nreads 5=0/\∃ s3,s1.pass? [1,2,3,4,5]=some s3/\∃ s2,s3.askL? true f=some s2/\P s2):∃ s2,s.askL? true (f+1)=some s2/\P s2:=by
 obtain⟨s1,h1,h2,h3,s3,h4,s2,h5,hp⟩:=h;refine⟨s2,?_,hp⟩;have h4':s1.pass? (List.range' 1 5)=some s3:=h4;unfold PW.askL?;simp only[h1,h2,h3,h4',h5];simp
theorem askL_off {s:PW}{f:Nat}{P:PW->Prop}(h1:s.c.net.length=0)(h2:s.c.fewReads=true)(hp:P s):∃ s2,s.askL? false (f+1)=some s2/\P s2:=by
 refine⟨s,?_,hp⟩;unfold PW.askL?;rw[drain_nil h1];simp[h2]
structure QP where
 b:Nat
 tn:Nat
 ep:Nat
 en:Nat
 top:Nat
 k:Nat
def qN (p:QP)(F:FQ)(cnt:Nat)(T:List TkS):PNode:=⟨F,cnt,p.tn,⟨p.b,1,0,false⟩,p.ep,p.en,p.top,some [1],T,[],[],0,[],[]⟩
def qW (p:QP)(F:FQ)(cnt:Nat)(T:List TkS)(org:List St)(log:List PCall)(low:List Nat):PW:=⟨⟨1,[qN p F cnt T],[p.k,p.k,p.k,p.k,p.k,p.k],[],org,log⟩,low⟩
structure QS (cnt:Nat)(T:List TkS)(org:List St)(log:List PCall)(low:List Nat):Prop where
 qc:cnt<20
 qt:T.length<=800
 qo:org.length<=800
 ql:log.length<=800
 qw:low.length=log.length
attribute [local simp] PNode.setFs PW.step? stepOk PCl.step? PCl.call? PCl.read? PCl.small qW qN PNode.ask? PNode.read? PNode.read1 PNode.get PNode.killF liveR servesF PNode.small PNode.tell tellMs tellRs tellR PCl.back? PNode.clear PCl.setNode PCl.came? endAll? endC? itemOk hurt1 hit e0s e0e and_assoc
section
variable {p : QP} {F F' : FQ} {cnt : Nat} {T : List TkS} {org : List St} {log : List PCall} {low : List Nat} {key val : ByteArray}
theorem q_set (hs:QS cnt T org log low)(hk:key.size<=45)(hv:val.size<=60):(qW p F cnt T org log low).set? key val=some (qW p F cnt T (org++[⟨key,val,true⟩]) log low):=by
 have h1:=hs.ql;have h2:=hs.qw;have h3:=hs.qo
 have e1:org.length<=1000:=by omega
 have e2:log.length<=1000:=by omega
 have e3:log.length<=900:=by omega
 have e4:low.length<=900:=by omega
 have e5:¬ log.length=low.length+1:=by omega
 simp[PW.set?,hk,hv,e1,e2,e3,e4,e5]
def gotC (n:Nat)(key:ByteArray)(pos:Nat)(val:ByteArray)(has:Bool):PCall:=⟨n+1,1,key,1,pos,pos,true,⟨n+1,1,key,0,val,has⟩⟩
def kilC (n:Nat)(key:ByteArray)(pos:Nat):PCall:=⟨n+1,2,key,1,pos,pos,true,⟨n+1,2,key,0,⟨#[]⟩,false⟩⟩
theorem get_last {α:Type}(l:List α)(a:α):(l++[a])[l.length]? = some a:=by simp
theorem q_miss (hs:QS cnt T org log low)(hk:key.size<=40)(hko:keyOk key=true)(ho:ownerK [1] key=1)(hg:goodF p.ep p.en p.k 1=true)(hfe:fentry F key=some none)(hrec:(FRec.entry key val false).ok=true)(hfp:fput 129 F key val=some F')(hat:atS org org.length key=(val,true))(hv:val.size<=60) :
 (qW p F cnt T org log low).get? 1 key val true=some (qW p F' cnt (T++[⟨key,true,true⟩]) org (log++[gotC log.length key org.length val true]) (low++[lowOf log key])):=by
 have h1:=hs.ql;have h2:=hs.qw;have h3:=hs.qo;have h4:=hs.qt;have h5:=hs.qc
 have e1:org.length<=1000:=by omega
 have e2:log.length<=1000:=by omega
 have e3:log.length<=900:=by omega
 have e4:low.length<=900:=by omega
 have e5:log.length+1<=1000:=by omega
 have e6:T.length<=900:=by omega
 have e7:key.size<=1000:=by omega
 have e8:key.size<=45:=by omega
 have e9:T.length+1<=900:=by omega
 have e10:val.size<=200:=by omega
 have e11:log.length+1<=900:=by omega
 have e12:¬ log.length+1=log.length+1+1:=by omega
 obtain⟨s2,z,hq,hd,hz⟩:∃ s2 z,(qW p F cnt T org log low).ask? 7 1 key true=some (s2,z)/\s2=qW p F' cnt (T++[⟨key,true,true⟩]) org (log++[gotC log.length key org.length val true]) (low++[lowOf log key])/\z=gotC log.length key org.length val true:=by
  refine ask_in ?_;simp[hko,ho,hg,hfe,h2,e1,e2,e3,e4,e5,e6,e7,e8,e9,h5];refine askL_in ?_;refine drain_end (by simp) ?_;refine⟨by simp[PCl.fewReads],by simp[PCl.nreads],?_⟩;simp[PW.pass?,hko,ho,hg,hfe,h2,hat,hrec,hfp,e1,e2,e3,e4,e5,e6,e7,e8,e9,e10,e11,e12,h5];refine askL_end ?_;refine drain_end (by simp) ?_;refine⟨by simp[PCl.fewReads],by simp[PCl.nreads],?_⟩;simp[gotC]
  try omega
 unfold PW.get?;rw[hq];subst hd;subst hz;simp[gotC]
theorem q_hit (hs:QS cnt T org log low)(hk:key.size<=40)(hko:keyOk key=true)(ho:ownerK [1] key=1)(hg:goodF p.ep p.en p.k 1=true)(hfe:fentry F key=some (some (key,val,false)))(hit:itemOk key val false=true) :
 (qW p F cnt T org log low).get? 1 key val false=some (qW p F cnt T org (log++[gotC log.length key org.length val true]) (low++[lowOf log key])):=by
 have h1:=hs.ql;have h2:=hs.qw;have h3:=hs.qo;have h4:=hs.qt;have h5:=hs.qc
 have e1:org.length<=1000:=by omega
 have e2:log.length<=1000:=by omega
 have e3:log.length<=900:=by omega
 have e4:low.length<=900:=by omega
 have e5:log.length+1<=1000:=by omega
 have e6:T.length<=900:=by omega
 have e7:key.size<=1000:=by omega
 have e8:key.size<=45:=by omega
 obtain⟨s2,z,hq,hd,hz⟩:∃ s2 z,(qW p F cnt T org log low).ask? 7 1 key false=some (s2,z)/\s2=qW p F cnt T org (log++[gotC log.length key org.length val true]) (low++[lowOf log key])/\z=gotC log.length key org.length val true:=by
  refine ask_in ?_
  have hl:liveR (some (key,val,false))=some (key,val,false):=by simp only[liveR,hit];rfl
  simp[-liveR,-itemOk,hl,hko,ho,hg,hfe,h2,e1,e2,e3,e4,e5,e6,e7,e8,h5];refine askL_off (by simp) (by simp[PCl.fewReads]) ?_;simp[gotC]
  try omega
 unfold PW.get?;rw[hq];subst hd;subst hz;simp[gotC]
theorem q_kill (hs:QS cnt T org log low)(hk:key.size<=40)(hko:keyOk key=true)(ho:ownerK [1] key=1)(hg:goodF p.ep p.en p.k 1=true)(hfd:fdrop 129 F key=some F') :
 (qW p F cnt T org log low).kil? 1 key true=some (qW p F' (cnt+1) (T.map (hurt1 fun k=>decide (k=key))) org (log++[kilC log.length key org.length]) (low++[lowOf log key])):=by
 have h1:=hs.ql;have h2:=hs.qw;have h3:=hs.qo;have h4:=hs.qt;have h5:=hs.qc
 have e1:org.length<=1000:=by omega
 have e2:log.length<=1000:=by omega
 have e3:log.length<=900:=by omega
 have e4:low.length<=900:=by omega
 have e5:log.length+1<=1000:=by omega
 have e6:T.length<=900:=by omega
 have e7:key.size<=1000:=by omega
 have e8:key.size<=45:=by omega
 obtain⟨s2,z,hq,hd,hz⟩:∃ s2 z,(qW p F cnt T org log low).ask? 8 1 key true=some (s2,z)/\s2=qW p F' (cnt+1) (T.map (hurt1 fun k=>decide (k=key))) org (log++[kilC log.length key org.length]) (low++[lowOf log key])/\z=kilC log.length key org.length:=by
  refine ask_in ?_;simp[-hurt1,hko,ho,hg,hfd,h2,e1,e2,e3,e4,e5,e6,e7,e8,h5];refine askL_end ?_;refine drain_end (by simp) ?_;refine⟨by simp[PCl.fewReads],by simp[PCl.nreads],?_⟩;simp[kilC]
  try omega
 unfold PW.kil?;rw[hq];subst hd;subst hz;simp[kilC]
end
end Go.Proofs.Ytlhekbjidppijaa
namespace Go.Proofs.Ytlhekbjidppijaa
open Lib (hid)
open Go.RowKit
def stepK (fn:Nat)(K:Value):List Value:=[.int .i64 (fn:Int),.int .i64 1,.int .i64 0,.string ⟨#[]⟩,.string ⟨#[]⟩,.bool false,K]
theorem step53c (w:World)(U:Own)(c m ca:Nat)(A:Option Addr)(L:CL)(s:PCl)(p:PNode)(H:CluAt w U c L s)(hp:s.nodes=[p])(hF:FallB s p) :
 Calls Tryz.prog 53 #[ptr c,.agg (stepK 9 (.slice A m ca)).toArray] w fun e w'=>e=.returned (.int .i64 0)/\∃ U',(∃ L',DownAt w' U' c L' s p)/\Chg CT w U w' U':=by
 obtain⟨W1,hW1⟩:∃ W,W=w.alloc (.cells (stepK 9 (.slice A m ca)).toArray 39):=⟨_,rfl⟩
 have hc1:Chg (fun _=>False) w U W1 (ext U w 95):=by rw[hW1];exact((Chg.refl _ _ _).alloc _).ext _
 have hO1:Blk W1 w.heap.size 39 (stepK 9 (.slice A m ca)).toArray:=by rw[hW1];exact Blk.new _ _ _
 have HT:=hid (crash68 W1 _ c L s p (.slice A m ca) (H.keep hc1 fun _ h=>h.elim) hF.n hp hF.b hF.done hF.log);have b0:W1.cell? ⟨w.heap.size,0,none⟩=some (.int .i64 9):=hO1.cell 0;have b1:W1.cell? ⟨w.heap.size,1,none⟩=some (.int .i64 1):=hO1.cell 1;have b6:W1.cell? ⟨w.heap.size,6,none⟩=some (.slice A m ca):=hO1.cell 6;have HC1:=hid hc1;have HW1:=hid hW1;clear H hp hF hW1 hc1 hO1;go_enter Tryz.func53,Tryz.ntmps53
 go_wp2_with (first|rw[<- HW1.out]|(go_at_call 68;fail))
 refine HT.out.mono ?_;rintro e w2 ⟨rfl,L',U2,h2,h3⟩;have HG:=hid (And.intro h2 ((HC1.out.mono fun _ h=>h.elim).trans h3));clear h2 h3
 go_wp2
 go_ret;exact⟨rfl,U2,⟨L',HG.out.1⟩,HG.out.2⟩
theorem step53r (w:World)(U:Own)(c m ca:Nat)(A:Option Addr)(L:CL)(s:PCl)(p:PNode)(H:DownAt w U c L s p)(hF:FallB s p) :
 Calls Tryz.prog 53 #[ptr c,.agg (stepK 10 (.slice A m ca)).toArray] w fun e w'=>e=.returned (.int .i64 0)/\∃ U',(∃ L',CluAt w' U' c L' { s with nodes:=[p.rise] })/\Chg CT w U w' U':=by
 obtain⟨W1,hW1⟩:∃ W,W=w.alloc (.cells (stepK 10 (.slice A m ca)).toArray 39):=⟨_,rfl⟩
 have hc1:Chg (fun _=>False) w U W1 (ext U w 95):=by rw[hW1];exact((Chg.refl _ _ _).alloc _).ext _
 have hO1:Blk W1 w.heap.size 39 (stepK 10 (.slice A m ca)).toArray:=by rw[hW1];exact Blk.new _ _ _
 have HT:=hid (rise69 W1 _ c L s p (H.keep hc1 fun _ h=>h.elim) hF);have b0:W1.cell? ⟨w.heap.size,0,none⟩=some (.int .i64 10):=hO1.cell 0;have b1:W1.cell? ⟨w.heap.size,1,none⟩=some (.int .i64 1):=hO1.cell 1;have HC1:=hid hc1;have HW1:=hid hW1;clear H hF hW1 hc1 hO1;go_enter Tryz.func53,Tryz.ntmps53
 go_wp2_with (first|rw[<- HW1.out]|(go_at_call 69;fail))
 refine HT.out.mono ?_;rintro e w2 ⟨rfl,L',U2,h2,h3⟩;have HG:=hid (And.intro h2 ((HC1.out.mono fun _ h=>h.elim).trans h3));clear h2 h3
 go_wp2
 go_ret;exact⟨rfl,U2,⟨L',HG.out.1⟩,HG.out.2⟩
def WB (w:World)(U:Own)(x c:Nat)(low:List Nat):Prop:=∃ v cs,Has w U 87 x 48 cs/\cs[0]? = some (ptr c)/\cs[1]? = some v/\Rw w U 183 3 1 v low.length (nnums low)
theorem WB.keep {w w':World}{U U':Own}{x c:Nat}{low:List Nat}{T:Nat->Prop}(h:WB w U x c low)(hc:Chg T w U w' U')(h1:¬ T 87)(h2:¬ T 183):WB w' U' x c low:=by
 obtain⟨v,cs,a,b,d,e⟩:=h;exact⟨v,cs,a.keep hc h1,b,d,e.keep hc h2⟩
structure Over (P:World->Own->Prop):Prop where
 keep:∀ {W W':World} {U U':Own} {T:Nat->Prop},P W U->Chg T W U W' U'->(∀ x,T x->¬ CT x)->P W' U'
structure OvA (w:World)(U:Own)(x c b y:Nat)(P:World->Own->Prop)(low:List Nat)(sv:List Value)(W:World)(U':Own):Prop where
 clu:P W U'
 wb:WB W U' x c low
 stp:Has W U' y b 39 sv.toArray
 chg:Chg WX w U W U'
theorem log27k (w:World)(c lg:Nat)(h:w.cell? ⟨c,29,none⟩=some (ptr lg)):Calls Tryz.prog 27 #[ptr c] w fun e w'=>e=.returned (ptr lg)/\w=w':=by
 go_enter Tryz.func27,Tryz.ntmps27
 go_wp2
 go_ret;exact⟨rfl,rfl⟩
theorem WB.cells {w:World}{U:Own}{x c:Nat}{low:List Nat}(h:WB w U x c low):w.cell? ⟨x,0,none⟩=some (ptr c)/\∃ A ca,w.cell? ⟨x,1,none⟩=some (.slice A low.length ca):=by
 obtain⟨v,cs,a,b,d,e⟩:=h;obtain⟨A,ca,rfl,-⟩:=e.slice;exact⟨(a.cell 0).trans b,A,ca,(a.cell 1).trans d⟩
theorem step34k (w:World)(U:Own)(x c fn m ca lg:Nat)(A:Option Addr)(P Q:World->Own->Prop)(low:List Nat)(log:List PCall)(hfn:fn=9\/fn=10)(hm:m<=80)(hP:Over P)(hQ:Over Q)(hp:P w U)(hw:WB w U x c low)
 (hs:∀ W U',P W U'->Calls Tryz.prog 53 #[ptr c,.agg (stepK fn (.slice A m ca)).toArray] W fun e w'=>e=.returned (.int .i64 0)/\∃ U2,Q w' U2/\Chg CT W U' w' U2)
 (hl:∀ W U',Q W U'->∃ lg,W.cell? ⟨c,29,none⟩=some (ptr lg)/\LgAt W U' 85 lg log)(hll:log.length<=900)(hlw:log.length=low.length) :
 Calls Tryz.prog 34 #[ptr x,.agg (stepK fn (.slice A m ca)).toArray] w fun e w'=>e=.returned (.int .i64 0)/\∃ U',Q w' U'/\WB w' U' x c low/\Chg WX w U w' U':=by
 obtain⟨y,hy1,hy2⟩:=fresh95 w U;obtain⟨W1,hW1⟩:∃ W,W=w.alloc (.cells (stepK fn (.slice A m ca)).toArray 39):=⟨_,rfl⟩
 have hc1:Chg (fun _=>False) w U W1.drew (ext U w y):=by rw[hW1];exact(((Chg.refl _ _ _).alloc _).ext _).drew
 have hA1:OvA w U x c w.heap.size y P low (stepK fn (.slice A m ca)) W1.drew (ext U w y):=⟨hP.keep hp hc1 fun _ h=>h.elim,hw.keep hc1 id id,⟨by rw[hW1];exact(Blk.new _ _ _).drewN 1,ext_new (Nat.le_refl _)⟩,hc1.mono fun _ h=>h.elim⟩;generalize ext U w y=U1 at hA1;have S1:Hid (PsS w.heap.size ⟨#[]⟩ ⟨#[]⟩ W1.drew):=hid ⟨hA1.stp.cell 3,hA1.stp.cell 4⟩;have HC1:Hid (∀ W,Calls Tryz.prog 52 #[.string ⟨#[]⟩,.int .i64 45] W fun e w'=>e=.returned (.string ⟨#[]⟩)/\W=w'):=hid fun W=>cut52 W ⟨#[]⟩ 45 (by decide) (by decide);have HC2:Hid (∀ W,Calls Tryz.prog 52 #[.string ⟨#[]⟩,.int .i64 60] W fun e w'=>e=.returned (.string ⟨#[]⟩)/\W=w'):=hid fun W=>cut52 W ⟨#[]⟩ 60 (by decide) (by decide)
 have HSA:Hid (∀ W,W=((W1.drew.setCell ⟨w.heap.size,3,none⟩ (.string ⟨#[]⟩)).setCell ⟨w.heap.size,4,none⟩ (.string ⟨#[]⟩)).setCell ⟨w.heap.size,4,none⟩ (.string ⟨#[]⟩)->OvA w U x c w.heap.size y P low (stepK fn (.slice A m ca)) W U1):=hid fun W hW=>by
  have hh:=((hA1.stp.set_ 3 (.string ⟨#[]⟩)).set_ 4 (.string ⟨#[]⟩)).set_ 4 (.string ⟨#[]⟩);have hcc:=(((Chg.refl (· = y) W1.drew U1).setCell (p:=⟨w.heap.size,3,none⟩) hA1.stp.own (.string ⟨#[]⟩)).setCell (p:=⟨w.heap.size,4,none⟩) hA1.stp.own (.string ⟨#[]⟩)).setCell (p:=⟨w.heap.size,4,none⟩) hA1.stp.own (.string ⟨#[]⟩);have hcw:=((hA1.chg.setNew (p:=⟨w.heap.size,3,none⟩) (Nat.le_refl _) (.string ⟨#[]⟩)).setNew (p:=⟨w.heap.size,4,none⟩) (Nat.le_refl _) (.string ⟨#[]⟩)).setNew (p:=⟨w.heap.size,4,none⟩) (Nat.le_refl _) (.string ⟨#[]⟩);rw[hW];exact⟨hP.keep hA1.clu hcc fun z hz=>by rw[hz];unfold CT;omega,hA1.wb.keep hcc (by omega) (by omega),hh,hcw⟩
 have hB1:=hid hA1.stp.blk;have HX:=hid (And.intro hll (And.intro hlw hy1));have HH:=hid (And.intro hP (And.intro hQ (And.intro hs hl)));have HW1:=hid hW1
 have km:(m:Int)<=80:=by omega
 have kf1:((fn:Int) == 1)=false:=by rw[beq_eq_false_iff_ne];omega
 have kf7:((fn:Int) == 7)=false:=by rw[beq_eq_false_iff_ne];omega
 have kf8:((fn:Int) == 8)=false:=by rw[beq_eq_false_iff_ne];omega
 clear hp hw hs hl hll hlw hy1 hy2 hW1 hc1 hA1 hP hQ hfn;go_enter Tryz.func34,Tryz.ntmps34
 go_wp2_with (first|rw[<- HW1.out]|fail)
 refine wp_region_hl [2,5] [0,1,3,4,2,6,5] (PsS w.heap.size ⟨#[]⟩ ⟨#[]⟩) (by kernel_rfl) (by kernel_rfl) S1.out ?_
 iterate 4 (refine hd_take (v:=?_) rfl rfl (by kernel_rfl) (fun W hW=>?_) ?_;rotate_left;(obtain⟨r0,r1⟩:=hW;first|(go_simp;done)|(go_simp;with_reducible rfl)))
 refine hd_loud rfl rfl fun K hK=>?_;go_simp;refine(HC1.out _).mono ?_;rintro e w2 ⟨rfl,rfl⟩;refine hK _ _ S1.out ?_;clear hK;refine hd_take (v:=?_) rfl rfl (by kernel_rfl) (fun W hW=>?_) ?_
 rotate_left
 (first|(go_simp;done)|(go_simp;with_reducible rfl))
 refine hd_loud rfl rfl fun K hK=>?_;go_simp;refine(HC2.out _).mono ?_;rintro e w2 ⟨rfl,rfl⟩;refine hK _ _ S1.out (hd_end ?_);clear hK;simp only[zqa,zqb,zqc,zqd,Nat.zero_add,Nat.reduceAdd];have hb:=hB1.out;generalize W1.drew=wd at *;have e3:=hb.cell 3;have e4:=hb.cell 4;have e5:=hb.cell 5;have e6:=hb.cell 6;have e0:=hb.cell 0;simp only[stepK,List.getElem?_toArray,List.getElem?_cons_succ,List.getElem?_cons_zero]at e3 e4 e5 e6 e0;have g3:=hb.frozen 3;have g4:=hb.frozen 4;clear hb hB1 S1
 go_upto_region 20 with fail
 generalize hW2:World.setCell (World.setCell (World.setCell wd _ _) _ _) _ _=W2;have HA2:=hid (HSA.out W2 hW2.symm);clear hW2 HSA e3 e4 e5 e6 e0 g3 g4 HC1 HC2 HW1;have hcd:Chg (fun _=>False) W2 U1 W2.drew U1:=(Chg.refl _ _ _).drew;have q1:=HA2.out.wb.keep hcd id id;have q2:=HA2.out.stp.keep hcd id;have S20:Hid (PsT x w.heap.size (ptr c) (stepK fn (.slice A m ca)) W2.drew):=hid ⟨q1.cells.1,q2.blk⟩;have HST:=hid (HH.out.2.2.1 W2.drew U1 (HH.out.1.keep HA2.out.clu hcd fun _ h=>h.elim));have HWB:=hid (And.intro q1 (HA2.out.chg.trans (hcd.mono fun _ h=>h.elim)));clear hcd q1 q2 HA2;refine wp_region_hl [] [0,1,2,3,4] (PsT x w.heap.size (ptr c) (stepK fn (.slice A m ca))) (by kernel_rfl) (by kernel_rfl) S20.out ?_
 iterate 4 (refine hd_take (v:=?_) rfl rfl (by kernel_rfl) (fun W hW=>?_) ?_;rotate_left;(obtain⟨r0,-⟩:=hW;first|(go_simp;done)|(go_simp;with_reducible rfl)))
 refine hd_load 39 (.tmp 3) rfl rfl (by kernel_rfl) rfl (ptr w.heap.size) (.agg (stepK fn (.slice A m ca)).toArray) (by go_simp) (fun W hW=>load_blk (by kernel_rfl) (by kernel_rfl) hW.2) (hd_end ?_);simp only[zqa,zqb,zqc,zqd,Nat.zero_add,Nat.reduceAdd]
 go_wp2_with (go_at_call 53;fail)
 refine HST.out.mono ?_;rintro e w6 ⟨rfl,U6,h6c,hc6⟩;have hw6:=HWB.out.1.keep hc6 (by unfold CT;decide) (by unfold CT;decide);obtain⟨q0,A6,c6,q1⟩:=hw6.cells;obtain⟨lg,hl1,hl2⟩:=HH.out.2.2.2 w6 U6 h6c;have HLg:=hid (log27k w6 c lg hl1);have HAl:=hid (all28 w6 U6 85 lg log hl2 (by have:=HX.out.1;omega));have HW6:=hid (And.intro h6c (And.intro hw6 (HWB.out.2.trans (hc6.mono fun x h=>by unfold CT at h;unfold WX;omega))));clear h6c hc6 hw6 HST HWB hl1 hl2 S20
 go_wp2_with (go_at_call 27;refine HLg.out.mono ?_;rintro e w' ⟨rfl,hw⟩;obtain rfl:=hw)
 refine HAl.out.mono ?_;rintro e w7 ⟨v7,rfl,ho7,hb7⟩;obtain⟨A7,c7,rfl⟩:=ownsRow_slice ho7;have hc7:Chg (fun _=>False) w6 U6 w7 (ext U6 w6 94):=Chg.of_below hb7 94;have hq7:=HH.out.2.1.keep HW6.out.1 hc7 fun _ h=>h.elim;have hw7:=HW6.out.2.1.keep hc7 id id;generalize ext U6 w6 94=U7 at hc7 hq7 hw7;obtain⟨q0',A8,c8,q1'⟩:=hw7.cells;have HW7:=hid (And.intro hq7 (And.intro hw7 (HW6.out.2.2.trans (hc7.mono fun _ h=>h.elim))));have hlen:=HX.out.2.1;have hll:=HX.out.1
 have kl:((log.length:Int) == (low.length:Int)+1)=false:=by rw[beq_eq_false_iff_ne];omega
 have klw:(low.length:Int)<=900:=by omega
 clear ho7 hb7 hc7 hq7 hw7 q0 q1 HLg HAl HW6 hlen hll
 go_wp2_with fail
 go_ret;exact⟨rfl,U7,HW7.out⟩
def KsS (t b:Nat)(a:Value)(sv:List Value)(W:World):Prop:=W.cell? ⟨t,0,none⟩=some a/\W.cell? ⟨t,1,none⟩=some (.bool true)/\Blk W b 39 sv.toArray
theorem step23k (w:World)(U:Own)(t x c fn m ca:Nat)(A:Option Addr)(P Q:World->Own->Prop)(low:List Nat)(log:List PCall)(hfn:fn=9\/fn=10)(hm:m<=80)(hP:Over P)(hQ:Over Q)(hp:P w U)(hw:WB w U x c low)(ht:Has w U 88 t 33 #[ptr x,.bool true])
 (hs:∀ W U',P W U'->Calls Tryz.prog 53 #[ptr c,.agg (stepK fn (.slice A m ca)).toArray] W fun e w'=>e=.returned (.int .i64 0)/\∃ U2,Q w' U2/\Chg CT W U' w' U2)
 (hl:∀ W U',Q W U'->∃ lg,W.cell? ⟨c,29,none⟩=some (ptr lg)/\LgAt W U' 85 lg log)(hll:log.length<=900)(hlw:log.length=low.length) :
 Calls Tryz.prog 23 #[ptr t,.agg (stepK fn (.slice A m ca)).toArray] w fun e w'=>(∃ r,e=.returned r)/\∃ U',Q w' U'/\WB w' U' x c low/\Has w' U' 88 t 33 #[ptr x,.bool true]/\Chg TX w U w' U':=by
 obtain⟨W1,hW1⟩:∃ W,W=w.alloc (.cells (stepK fn (.slice A m ca)).toArray 39):=⟨_,rfl⟩
 have hc1:Chg (fun _=>False) w U W1.drew (ext U w 94):=by rw[hW1];exact(((Chg.refl _ _ _).alloc _).ext _).drew
 have hp1:=hP.keep hp hc1 fun _ h=>h.elim;have hw1:=hw.keep hc1 id id;have ht1:=ht.keep hc1 id
 have hb:Blk W1.drew w.heap.size 39 (stepK fn (.slice A m ca)).toArray:=by rw[hW1];exact(Blk.new _ _ _).drewN 1
 generalize ext U w 94=U1 at hc1 hp1 hw1 ht1;have S1:Hid (KsS t w.heap.size (ptr x) (stepK fn (.slice A m ca)) W1.drew):=hid ⟨ht1.cell 0,ht1.cell 1,hb⟩;have HS:=hid (step34k W1.drew U1 x c fn m ca 0 A P Q low log hfn hm hP hQ hp1 hw1 hs hl hll hlw);have HH:=hid (And.intro ht1 (hc1.mono (T':=TX) fun _ h=>h.elim));have HW1:=hid hW1;clear hp hw ht hs hl hll hlw hW1 hc1 hp1 hw1 ht1 hb hfn hm hP hQ;go_enter Tryz.func23,Tryz.ntmps23
 go_wp2_with (first|rw[<- HW1.out]|fail)
 refine wp_region_hl [] [0,1,2,3,4,5,6,7,8,9] (KsS t w.heap.size (ptr x) (stepK fn (.slice A m ca))) (by kernel_rfl) (by kernel_rfl) S1.out ?_
 iterate 9 (refine hd_take (v:=?_) rfl rfl (by kernel_rfl) (fun W hW=>?_) ?_;rotate_left;(obtain⟨r0,r1,-⟩:=hW;first|(go_simp;done)|(go_simp;with_reducible rfl)))
 refine hd_load 39 (.tmp 3) rfl rfl (by kernel_rfl) rfl (ptr w.heap.size) (.agg (stepK fn (.slice A m ca)).toArray) (by go_simp) (fun W hW=>load_blk (by kernel_rfl) (by kernel_rfl) hW.2.2) (hd_end ?_);simp only[zqa,zqb,zqc,zqd,Nat.zero_add,Nat.reduceAdd]
 go_wp2_with (go_at_call 34;fail)
 refine HS.out.mono ?_;rintro e w2 ⟨rfl,U2,h2,h3,hc2⟩;have HE:=hid (And.intro h2 (And.intro h3 (And.intro (HH.out.1.keep hc2 (by unfold WX;decide)) (HH.out.2.trans (hc2.mono fun z hz=>WX.tx hz)))));clear h2 h3 hc2
 go_wp2
 refine bodyPost_end (by first|exact results_none rfl _ _ _|rfl|(simp[results];rfl)) rfl ?_;exact⟨⟨_,rfl⟩,U2,HE.out⟩
structure TDown (w:World)(U:Own)(t x c:Nat)(s:PW)(p:PNode):Prop where
 down:∃ L,DownAt w U c L s.c p
 wb:WB w U x c s.low
 blk:Has w U 88 t 33 #[ptr x,.bool true]
theorem fall23 (w:World)(U:Own)(t x c m ca:Nat)(A:Option Addr)(L:CL)(s:PW)(p:PNode)(H:TAt w U t x c L s)(hp:s.c.nodes=[p])(hF:FallB s.c p)(hm:m<=80)(hll:s.c.log.length<=900)(hlw:s.c.log.length=s.low.length) :
 Calls Tryz.prog 23 #[ptr t,.agg (stepK 9 (.slice A m ca)).toArray] w fun e w'=>(∃ r,e=.returned r)/\∃ U',TDown w' U' t x c s p/\Chg TX w U w' U':=by
 refine(step23k w U t x c 9 m ca A (fun W U'=>CluAt W U' c L s.c) (fun W U'=>∃ L',DownAt W U' c L' s.c p) s.low s.c.log (.inl rfl) hm ⟨fun h hc hT=>h.keep hc hT⟩ ⟨fun⟨L',h⟩ hc hT=>⟨L',h.keep hc hT⟩⟩ H.wat.clu H.wat.ex H.blk (fun W U' h=>step53c W U' c m ca A L s.c p h hp hF) (fun W U' ⟨L',h⟩=>⟨L'.log,h.blk.cell 29,h.log⟩) hll hlw).mono ?_;rintro e w' ⟨hr,U',h1,h2,h3,h4⟩;exact⟨hr,U',⟨h1,h2,h3⟩,h4⟩
theorem rise23 (w:World)(U:Own)(t x c m ca:Nat)(A:Option Addr)(s:PW)(p:PNode)(H:TDown w U t x c s p)(hF:FallB s.c p)(hm:m<=80)(hll:s.c.log.length<=900)(hlw:s.c.log.length=s.low.length) :
 Calls Tryz.prog 23 #[ptr t,.agg (stepK 10 (.slice A m ca)).toArray] w fun e w'=>(∃ r,e=.returned r)/\∃ L' U',TAt w' U' t x c L' ⟨{ s.c with nodes:=[p.rise] },s.low⟩/\Chg TX w U w' U':=by
 obtain⟨L,hL⟩:=H.down;refine(step23k w U t x c 10 m ca A (fun W U'=>DownAt W U' c L s.c p) (fun W U'=>∃ L',CluAt W U' c L' { s.c with nodes:=[p.rise] }) s.low s.c.log (.inr rfl) hm ⟨fun h hc hT=>h.keep hc hT⟩ ⟨fun⟨L',h⟩ hc hT=>⟨L',h.keep hc hT⟩⟩ hL H.wb H.blk (fun W U' h=>step53r W U' c m ca A L s.c p h hF) (fun W U' ⟨L',h⟩=>⟨L'.log,h.blk.cell 29,h.log⟩) hll hlw).mono ?_;rintro e w' ⟨hr,U',⟨L',h1⟩,h2,h3,h4⟩;exact⟨hr,L',U',⟨⟨h1,h2⟩,h3⟩,h4⟩
def fs0:FQ:=⟨[.wipe],List.replicate 16 Place.zero,0,0⟩
def P1:QP:=⟨1,3,1,23,1,3⟩
def P2:QP:=⟨2,4,1,25,1,5⟩
def orgN:Nat->List St
 | 0=>[]
 | i+1=>orgN i++[⟨keyB i,valB i 1,true⟩,⟨keyB i,valB i 2,true⟩]
theorem orgN_len (i:Nat):(orgN i).length=2*i:=by
 induction i with
 | zero=>rfl
 | succ i ih=>simp only[orgN,List.length_append,ih,List.length_cons,List.length_nil];omega
def putB (i v:Nat)(F:FQ):Option FQ:=if fentry F (keyB i)=some none then fput 129 F (keyB i) (valB i v) else none
def leafB:Nat->List Bool->FQ->Bool
 | _,[],_=>true
 | i,true :: l,F=>optB (putB i 2 F) fun G=>leafB (i+1) l G
 | i,false :: l,F=>decide (fentry F (keyB i)=some (some (keyB i,valB i 1,false))) && leafB (i+1) l F
def sideB (F:FQ):Bool:=decide ((F.pl.filter (·.has)).length<=12) && decide ((pack (F.recs.map FRec.bytes)).length<=12)
def treeB:Nat->Nat->List Bool->FQ->Bool
 | 0,_,_,_=>true
 | f+1,i,l,F=>optB (putB i 1 F) fun G=>(leafB 0 (l++[false]) G && sideB G && treeB f (i+1) (l++[false]) G) && optB (fdrop 129 G (keyB i)) fun H=>leafB 0 (l++[true]) H && sideB H && treeB f (i+1) (l++[true]) H
theorem kb_ok:∀ i,i<12->((keyB i).size<=40/\keyOk (keyB i)=true)/\((valB i 1).size<=60/\(valB i 2).size<=60)/\((FRec.entry (keyB i) (valB i 1) false).ok=true/\(FRec.entry (keyB i) (valB i 2) false).ok=true)/\itemOk (keyB i) (valB i 1) false=true/\ownerK [1] (keyB i)=1:=by decide +kernel
theorem kb_inj:∀ i,i<12->∀ j,j<12->keyB i=keyB j->i=j:=by decide +kernel
theorem at_one:∀ i,i<12->atS (orgN i++[⟨keyB i,valB i 1,true⟩]) (2*i+1) (keyB i)=(valB i 1,true):=by decide +kernel
theorem at_two:∀ n,n<13->∀ i,i<n->atS (orgN n) (2*n) (keyB i)=(valB i 2,true):=by decide +kernel
theorem held_one:∀ n,n<13->∀ i,i<n->heldB (orgN n) (keyB i) (valB i 1) true 0 (2*i+1)=true/\heldB (orgN n) (keyB i) (valB i 1) true 0 (2*n)=true:=by decide +kernel
theorem held_two (n i lo:Nat)(hn:n<13)(hi:i<n)(hlo:lo<=2*n):heldB (orgN n) (keyB i) (valB i 2) true lo (2*n)=true:=by
 unfold heldB;rw[List.any_eq_true];refine⟨2*n,List.mem_range.2 (by omega),?_⟩;rw[at_two n hn i hi];simp[hlo]
inductive GC (kl:Nat->Bool)(m n:Nat):Nat->PCall->Nat->Prop
 | got (i j:Nat):i<m->GC kl m n j (gotC j (keyB i) (2*i+1) (valB i 1) true) 0
 | kil (i j lo:Nat):i<m->kl i=true->GC kl m n j (kilC j (keyB i) (2*i+2)) lo
 | new (i j lo:Nat):i<m->kl i=true->lo<=2*n->GC kl m n j (gotC j (keyB i) (2*n) (valB i 2) true) lo
 | old (i j:Nat):i<m->kl i=false->GC kl m n j (gotC j (keyB i) (2*n) (valB i 1) true) 0
theorem GC.more {kl:Nat->Bool}{m m' n j:Nat}{z:PCall}{lo:Nat}(h:GC kl m n j z lo)(hm:m<=m'):GC kl m' n j z lo:=by
 cases h with
 | got i j h1=>exact .got i _ (by omega)
 | kil i j lo h1 h2=>exact .kil i _ lo (by omega) h2
 | new i j lo h1 h2 h3=>exact .new i _ lo (by omega) h2 h3
 | old i j h1 h2=>exact .old i _ (by omega) h2
def Calls2 (kl:Nat->Bool)(m n:Nat)(log:List PCall)(low:List Nat):Prop:=low.length=log.length/\∀ j z lo,log[j]? = some z->low[j]? = some lo->GC kl m n j z lo
theorem Calls2.mem {kl:Nat->Bool}{m n:Nat}{log:List PCall}{low:List Nat}(h:Calls2 kl m n log low):∀ z∈log,∃ j lo,GC kl m n j z lo:=fun z hz=>by
 obtain⟨j,hj,rfl⟩:=List.mem_iff_getElem.1 hz
 have hl:j<low.length:=by rw[h.1];exact hj
 exact⟨j,low[j],h.2 j _ _ (List.getElem?_eq_getElem hj) (List.getElem?_eq_getElem hl)⟩
theorem Calls2.done {kl:Nat->Bool}{m n:Nat}{log:List PCall}{low:List Nat}(h:Calls2 kl m n log low):doneL log=true:=by
 unfold doneL;refine List.all_eq_true.2 fun j hj=>?_;have hj:=List.mem_range.1 hj
 have hl:j<low.length:=by rw[h.1];exact hj
 have hg:=h.2 j _ _ (List.getElem?_eq_getElem hj) (List.getElem?_eq_getElem hl);rw[List.getElem?_eq_getElem hj];generalize log[j]=z at hg;generalize low[j]=lo at hg
 cases hg <;> simp[gotC,kilC]
theorem Calls2.snoc {kl:Nat->Bool}{m n:Nat}{log:List PCall}{low:List Nat}{z:PCall}{lo:Nat}(h:Calls2 kl m n log low)(hz:GC kl m n log.length z lo):Calls2 kl m n (log++[z]) (low++[lo]):=by
 refine⟨by simp[h.1],fun j y l hy hl=>?_⟩
 rcases Nat.lt_trichotomy j log.length with hj|hj|hj
 ·rw[List.getElem?_append_left hj]at hy
  rw[List.getElem?_append_left (by rw[h.1];exact hj)]at hl;exact h.2 j y l hy hl
 ·subst hj
  rw[get_last]at hy;rw[<- h.1,get_last]at hl
  injection hy with hy
  injection hl with hl
  rw[<- hy,<- hl];exact hz
 ·rw[List.getElem?_eq_none (by simp;omega)]at hy
  cases hy
theorem Calls2.more {kl:Nat->Bool}{m m' n:Nat}{log:List PCall}{low:List Nat}(h:Calls2 kl m n log low)(hm:m<=m'):Calls2 kl m' n log low:=⟨h.1,fun j z lo h1 h2=>(h.2 j z lo h1 h2).more hm⟩
theorem low1_le (key:ByteArray)(b:Nat):∀ (l:List PCall) (a:Nat),a<=b->(∀ z∈l,z.frm<=b)->l.foldl (low1 key) a<=b
 | [],a,ha,_=>ha
 | z :: l,a,ha,h=>by
  refine low1_le key b l _ ?_ fun y hy=>h y (by simp[hy]);have:=h z (by simp);unfold low1
  split <;> omega
theorem low1_zero (key:ByteArray):∀ (l:List PCall) (a:Nat),(∀ z∈l,z.op=2->z.key≠key)->l.foldl (low1 key) a=a
 | [],a,_=>rfl
 | z :: l,a,h=>by
  have e:low1 key a z=a:=by
   unfold low1;rw[if_neg];intro hc;simp only[Bool.and_eq_true,decide_eq_true_eq]at hc;exact h z (by simp) hc.1.1.1 hc.1.1.2
  show l.foldl (low1 key) (low1 key a z)=a;rw[e];exact low1_zero key l a fun y hy=>h y (by simp[hy])
theorem Calls2.low_le {kl:Nat->Bool}{m n:Nat}{log:List PCall}{low:List Nat}(h:Calls2 kl m n log low)(hm:m<=n)(key:ByteArray):lowOf log key<=2*n:=by
 refine low1_le key _ log 0 (Nat.zero_le _) fun z hz=>?_;obtain⟨j,lo,hg⟩:=h.mem z hz
 cases hg <;> simp only[gotC,kilC] <;> omega
theorem Calls2.low_zero {kl:Nat->Bool}{m n i:Nat}{log:List PCall}{low:List Nat}(h:Calls2 kl m n log low)(hm:m<=12)(hi:i<12)(hk:m<=i\/kl i=false):lowOf log (keyB i)=0:=by
 refine low1_zero _ log 0 fun z hz=>?_;obtain⟨j,lo,hg⟩:=h.mem z hz
 cases hg with
 | got i' j h1=>intro e;simp only[gotC]at e;omega
 | kil i' j lo h1 h2=>
  intro _ e;have:=kb_inj i' (by omega) i hi e;subst this
  rcases hk with hk|hk
  ·omega
  ·rw[h2]at hk;cases hk
 | new i' j lo h1 h2 h3=>intro e;simp only[gotC]at e;omega
 | old i' j h1 h2=>intro e;simp only[gotC]at e;omega
def patt (kl:Nat->Bool)(m:Nat):List Bool:=(List.range m).map kl
theorem patt_succ (kl:Nat->Bool)(m:Nat):patt kl (m+1)=patt kl m++[kl m]:=by simp[patt,List.range_succ]
theorem patt_drop (kl:Nat->Bool)(n i:Nat)(h:i<n):(patt kl n).drop i=kl i :: (patt kl n).drop (i+1):=by
 rw[List.drop_eq_getElem_cons (by simpa [patt] using h)];simp[patt]
structure In1 (kl:Nat->Bool)(n m:Nat)(s:PW):Prop where
 ex:∃ F cnt T log low,s=qW P1 F cnt T (orgN m) log low/\cnt<=m/\T.length<=m/\log.length<=2*m/\Calls2 kl m n log low/\treeB (12-m) m (patt kl m) F=true/\(0<m->leafB 0 (patt kl m) F=true/\sideB F=true)
structure In2 (kl:Nat->Bool)(n i:Nat)(s:PW):Prop where
 ex:∃ F cnt T log low,s=qW P2 F cnt T (orgN n) log low/\cnt<=n/\T.length<=i/\log.length<=2*n+i/\Calls2 kl n n log low/\leafB i ((patt kl n).drop i) F=true
theorem fall_one {kl:Nat->Bool}{n i:Nat}{s:PW}(h:In1 kl n i s)(hi:i<n)(hn:n<13):∃ s1 s2 s3,s.set? (keyB i) (valB i 1)=some s1/\s1.get? 1 (keyB i) (valB i 1) true=some s2/\s2.set? (keyB i) (valB i 2)=some s3/\(kl i=false->In1 kl n (i+1) s3)/\(kl i=true->∃ s4,s3.kil? 1 (keyB i) true=some s4/\In1 kl n (i+1) s4):=by
 obtain⟨F,cnt,T,log,low,rfl,h1,h2,h3,h4,h5,-⟩:=h.ex;obtain⟨⟨k1,k2⟩,⟨k3,k4⟩,⟨k5,k6⟩,k7,k8⟩:=kb_ok i (by omega);obtain⟨f,hf⟩:∃ f,12-i=f+1:=⟨11-i,by omega⟩
 have hf2:f=12-(i+1):=by omega
 rw[hf]at h5;unfold treeB at h5;obtain⟨G,hG,h5⟩:=optB_ex h5;rw[Bool.and_eq_true]at h5;obtain⟨hA,hB⟩:=h5;obtain⟨H,hH,hB⟩:=optB_ex hB;simp only[Bool.and_eq_true]at hA hB;unfold putB at hG
 split at hG
 case isFalse=>cases hG
 rename_i hfe;have hol:=orgN_len i;have q1:QS cnt T (orgN i) log low:=⟨by omega,by omega,by omega,by omega,h4.1⟩;have q2:QS cnt T (orgN i++[⟨keyB i,valB i 1,true⟩]) log low:=⟨by omega,by omega,by simp;omega,by omega,h4.1⟩
 have e1:(orgN i++([⟨keyB i,valB i 1,true⟩]:List St)).length=2*i+1:=by simp[hol]
 have g2:=q_miss (p:=P1) q2 k1 k2 k8 (by decide) hfe k5 hG (by rw[e1];exact at_one i (by omega)) k3;rw[e1,h4.low_zero (by omega) (by omega) (.inl (Nat.le_refl _))]at g2;have q3:QS cnt (T++[⟨keyB i,true,true⟩]) (orgN i++[⟨keyB i,valB i 1,true⟩]) (log++[gotC log.length (keyB i) (2*i+1) (valB i 1) true]) (low++[0]):=⟨by omega,by simp;omega,by omega,by simp;omega,by simp[h4.1]⟩;have g3:=q_set (p:=P1) (F:=G) q3 (key:=keyB i) (val:=valB i 2) (by omega) k4
 have eo:orgN i++[⟨keyB i,valB i 1,true⟩]++[⟨keyB i,valB i 2,true⟩]=orgN (i+1):=by simp[orgN]
 rw[eo]at g3;have c5:Calls2 kl (i+1) n (log++[gotC log.length (keyB i) (2*i+1) (valB i 1) true]) (low++[0]):=(h4.more (by omega)).snoc (.got i _ (by omega));refine⟨_,_,_,q_set q1 (by omega) k3,g2,g3,fun hk=>⟨_,_,_,_,_,rfl,by omega,by simp;omega,by simp;omega,c5,?_,fun _=>?_⟩,fun hk=>?_⟩
 ·rw[<- hf2,patt_succ,hk];exact hA.2
 ·rw[patt_succ,hk];exact hA.1
 ·have q4:QS cnt (T++[⟨keyB i,true,true⟩]) (orgN (i+1)) (log++[gotC log.length (keyB i) (2*i+1) (valB i 1) true]) (low++[0]):=⟨by omega,by simp;omega,by rw[orgN_len];omega,by simp;omega,by simp[h4.1]⟩
  have g4:=q_kill (p:=P1) q4 k1 k2 k8 (by decide) hH;refine⟨_,g4,_,_,_,_,_,rfl,by omega,by simp;omega,by simp;omega,c5.snoc ?_,?_,fun _=>?_⟩
  ·rw[orgN_len]
   exact .kil i _ _ (by omega) hk
  ·rw[<- hf2,patt_succ,hk];exact hB.2
  ·rw[patt_succ,hk];exact hB.1
theorem fall_two {kl:Nat->Bool}{n i:Nat}{s:PW}(h:In2 kl n i s)(hi:i<n)(hn:n<13):(kl i=true->∃ s',s.get? 1 (keyB i) (valB i 2) true=some s'/\In2 kl n (i+1) s')/\(kl i=false->∃ s',s.get? 1 (keyB i) (valB i 1) false=some s'/\In2 kl n (i+1) s'):=by
 obtain⟨F,cnt,T,log,low,rfl,h1,h2,h3,h4,h5⟩:=h.ex;obtain⟨⟨k1,k2⟩,⟨k3,k4⟩,⟨k5,k6⟩,k7,k8⟩:=kb_ok i (by omega);have hol:=orgN_len n;have q1:QS cnt T (orgN n) log low:=⟨by omega,by omega,by omega,by omega,h4.1⟩;rw[patt_drop kl n i hi]at h5;refine⟨fun hk=>?_,fun hk=>?_⟩
 ·rw[hk]at h5
  unfold leafB at h5;obtain⟨G,hG,h5⟩:=optB_ex h5;unfold putB at hG
  split at hG
  case isFalse=>cases hG
  rename_i hfe;refine⟨_,q_miss (p:=P2) q1 k1 k2 k8 (by decide) hfe k6 hG (by rw[hol];exact at_two n hn i hi) k4,_,_,_,_,_,rfl,h1,by simp;omega,by simp;omega,h4.snoc ?_,h5⟩;rw[hol];exact .new i _ _ hi hk (h4.low_le (Nat.le_refl _) _)
 ·rw[hk]at h5
  unfold leafB at h5;rw[Bool.and_eq_true,decide_eq_true_eq]at h5;refine⟨_,q_hit (p:=P2) q1 k1 k2 k8 (by decide) h5.1 k7,_,_,_,_,_,rfl,h1,by omega,by simp;omega,h4.snoc ?_,h5.2⟩;rw[hol,h4.low_zero (by omega) (by omega) (.inr hk)];exact .old i _ hi hk
theorem fall_end {kl:Nat->Bool}{n:Nat}{s:PW}(h:In2 kl n n s)(hn:n<13):s.right=true:=by
 obtain⟨F,cnt,T,log,low,rfl,h1,h2,h3,h4,h5⟩:=h.ex;have hol:=orgN_len n;unfold PW.right
 have e1:(qW P2 F cnt T (orgN n) log low).c.small=true:=by
  show(decide ((orgN n).length<=1000) && decide (log.length<=1000))=true;rw[decide_eq_true (by omega),decide_eq_true (by omega)];rfl
 rw[e1,Bool.and_eq_true,Bool.and_eq_true];refine⟨⟨rfl,by rw[decide_eq_true_eq];exact h4.1⟩,List.all_eq_true.2 fun j hj=>?_⟩;have hj:=List.mem_range.1 hj;replace hj:j<log.length:=hj
 have hjl:j<low.length:=by rw[h4.1];exact hj
 have ez:(qW P2 F cnt T (orgN n) log low).c.log[j]? = some log[j]:=List.getElem?_eq_getElem hj;have el:(qW P2 F cnt T (orgN n) log low).low[j]? = some low[j]:=List.getElem?_eq_getElem hjl;have hg:=h4.2 j _ _ (List.getElem?_eq_getElem hj) (List.getElem?_eq_getElem hjl);rw[ez];show callOk _ j log[j]=true;unfold callOk;rw[el];generalize log[j]=z at hg;generalize low[j]=lo at hg;have eo:(qW P2 F cnt T (orgN n) log low).c.org=orgN n:=rfl;rw[eo]
 cases hg with
 | got i j hi=>obtain⟨a,-⟩:=held_one n hn i hi;simp[gotC,a,hol];omega
 | kil i j lo hi hk=>simp[kilC,hol];omega
 | new i j lo hi hk hlo=>simp[gotC,held_two n i lo hn hi hlo,hol]
 | old i j hi hk=>obtain⟨-,a⟩:=held_one n hn i hi;simp[gotC,a,hol]
end Go.Proofs.Ytlhekbjidppijaa
namespace Go.Proofs.Ytlhekbjidppijaa
open Lib (hid)
open Go.RowKit
theorem rounds_in {s:PW}{n:Nat}{P:PW->Prop}(h:∃ s1,s.step? 1 0 0 ⟨#[]⟩ ⟨#[]⟩ false=some s1/\∃ s2,s1.drain? 500=some s2/\∃ s3,s2.rounds? n=some s3/\P s3):∃ s3,s.rounds? (n+1)=some s3/\P s3:=by
 obtain⟨s1,h1,s2,h2,s3,h3,hp⟩:=h;refine⟨s3,?_,hp⟩;unfold PW.rounds?;rw[h1];dsimp only;rw[h2];exact h3
theorem drain_two {s:PW}{P:PW->Prop}(h:¬ s.c.net.length=0)(h2:∃ s1,s.step? 2 0 0 ⟨#[]⟩ ⟨#[]⟩ false=some s1/\¬ s1.c.net.length=0/\∃ s2,s1.step? 2 0 0 ⟨#[]⟩ ⟨#[]⟩ false=some s2/\s2.c.net.length=0/\P s2):∃ s2,s.drain? 500=some s2/\P s2:=by
 obtain⟨s1,h1,h3,s2,h4,h5,hp⟩:=h2;refine drain_in (f:=499) h ⟨s1,h1,?_⟩;refine drain_in (f:=498) h3 ⟨s2,h4,?_⟩;exact drain_end (f:=497) h5 hp
theorem range6:List.range 6=[0,1,2,3,4,5]:=rfl
attribute [local simp] range6 PW.step? stepOk PCl.step? PCl.ticks? PCl.tick? PNode.beat? PNode.beat1 renewM PNode.small PCl.small PCl.back? PNode.clear PCl.setNode PCl.came? endAll? PMsg.okB itemOk PCl.mail? PCl.hear? grantM nodesB upto PNode.step? PNode.grant? PNode.adopt? noStrange PNode.take takeF PNode.new qN qW e0s e0e and_assoc
theorem q_rise (F:FQ)(cnt:Nat)(org:List St)(log:List PCall)(low:List Nat)(h1:cnt<20)(h2:org.length<=800)(h3:log.length<=800)(h4:low.length=log.length)(hh:(F.pl.filter (·.has)).length<=12)(P:PW->Prop)(hP:P (qW P2 F cnt [] org log low)) :
 ∃ s,(⟨⟨1,[PNode.new F cnt 4 ⟨2,1,0,false⟩],[3,3,3,3,3,3],[],org,log⟩,low⟩:PW).rounds? 2=some s/\P s:=by
 have e1:org.length<=1000:=by omega
 have e2:log.length<=1000:=by omega
 have e3:log.length<=900:=by omega
 have e4:low.length<=900:=by omega
 have e5:¬ log.length=log.length+1:=by omega
 refine rounds_in ?_;simp[e1,e2,e3,e4,h1];refine drain_two (by simp) ?_;simp[e1,e2,e3,e4,h4,e5,h1,hh];refine rounds_in ?_;simp[e1,e2,e3,e4,h4,e5,h1];refine drain_two (by simp) ?_;simp[e1,e2,e3,e4,h4,e5,h1,hh];exact⟨_,rfl,hP⟩
theorem fall_mid {kl:Nat->Bool}{n:Nat}{s:PW}(h:In1 kl n n s)(h0:0<n)(hn:n<13):∃ p,s.c.nodes=[p]/\FallB s.c p/\s.c.log.length<=900/\s.c.log.length=s.low.length/\∃ s2,(⟨{ s.c with nodes:=[p.rise] },s.low⟩:PW).rounds? 2=some s2/\In2 kl n 0 s2:=by
 obtain⟨F,cnt,T,log,low,rfl,h1,h2,h3,h4,-,h6⟩:=h.ex;obtain⟨hl,hs⟩:=h6 h0;simp only[sideB,Bool.and_eq_true,decide_eq_true_eq]at hs;refine⟨_,rfl,⟨rfl,rfl,h4.done,by show log.length<=1000;omega,by show cnt<=12;omega,hs.2,by show 3+1<=1000000;decide,by show(⟨1,1,0,false⟩:MS).ok=true;decide,by show(⟨1+1,1,0,false⟩:MS).ok=true;decide⟩,by show log.length<=900;omega,h4.1.symm,?_⟩;refine q_rise F cnt (orgN n) log low (by omega) (by rw[orgN_len];omega) (by omega) h4.1 hs.1 (In2 kl n 0) ⟨F,cnt,[],log,low,rfl,h1,by simp,by omega,h4,hl⟩
set_option maxRecDepth 100000 in
theorem made_one:(PW.new 1).rounds? 3=some (qW P1 fs0 0 [] [] [] []):=by kernel_rfl
end Go.Proofs.Ytlhekbjidppijaa
namespace Go.Proofs.Ytlhekbjidppijaa
open Lib (hid)
open Go.RowKit
def treeC:List Bool->Nat->Nat->List Bool->FQ->Bool
 | [],f,i,l,F=>treeB f i l F
 | _ :: _,0,_,_,_=>true
 | true :: sel,f+1,i,l,F=>optB (putB i 1 F) fun G=>optB (fdrop 129 G (keyB i)) fun H=>leafB 0 (l++[true]) H && sideB H && treeC sel f (i+1) (l++[true]) H
 | false :: sel,f+1,i,l,F=>optB (putB i 1 F) fun G=>leafB 0 (l++[false]) G && sideB G && treeC sel f (i+1) (l++[false]) G
theorem tree_of:∀ (d f i:Nat) (l:List Bool) (F:FQ),(∀ sel:List Bool,sel.length=d->treeC sel f i l F=true)->treeB f i l F=true
 | 0,f,i,l,F,h=>h [] rfl
 | d+1,0,i,l,F,_=>rfl
 | d+1,f+1,i,l,F,h=>by
  have ht:∀ sel:List Bool,sel.length=d->∃ G H,putB i 1 F=some G/\fdrop 129 G (keyB i)=some H/\leafB 0 (l++[true]) H=true/\sideB H=true/\treeC sel f (i+1) (l++[true]) H=true:=fun sel hs=>by
   have:=h (true :: sel) (by simp[hs]);unfold treeC at this;obtain⟨G,hG,this⟩:=optB_ex this;obtain⟨H,hH,this⟩:=optB_ex this;simp only[Bool.and_eq_true]at this;exact⟨G,H,hG,hH,this.1.1,this.1.2,this.2⟩
  have hf:∀ sel:List Bool,sel.length=d->∃ G,putB i 1 F=some G/\leafB 0 (l++[false]) G=true/\sideB G=true/\treeC sel f (i+1) (l++[false]) G=true:=fun sel hs=>by
   have:=h (false :: sel) (by simp[hs]);unfold treeC at this;obtain⟨G,hG,this⟩:=optB_ex this;simp only[Bool.and_eq_true]at this;exact⟨G,hG,this.1.1,this.1.2,this.2⟩
  obtain⟨G,H,hG,hH,a1,a2,-⟩:=ht (List.replicate d true) (by simp);obtain⟨G',hG',b1,b2,-⟩:=hf (List.replicate d true) (by simp);rw[hG]at hG'
  injection hG' with e
  subst e
  have c1:treeB f (i+1) (l++[false]) G=true:=tree_of d f (i+1) _ _ fun sel hs=>by
   obtain⟨G2,h1,-,-,h2⟩:=hf sel hs;rw[hG]at h1
   injection h1 with e
   subst e;exact h2
  have c2:treeB f (i+1) (l++[true]) H=true:=tree_of d f (i+1) _ _ fun sel hs=>by
   obtain⟨G2,H2,h1,h3,-,-,h2⟩:=ht sel hs;rw[hG]at h1
   injection h1 with e
   subst e;rw[hH]at h3
   injection h3 with e
   subst e;exact h2
  unfold treeB;rw[hG];show((leafB 0 (l++[false]) G && sideB G && treeB f (i+1) (l++[false]) G) && optB (fdrop 129 G (keyB i)) _)=true;rw[hH];show((leafB 0 (l++[false]) G && sideB G && treeB f (i+1) (l++[false]) G) && (leafB 0 (l++[true]) H && sideB H && treeB f (i+1) (l++[true]) H))=true;rw[a1,a2,b1,b2,c1,c2];rfl
end Go.Proofs.Ytlhekbjidppijaa
