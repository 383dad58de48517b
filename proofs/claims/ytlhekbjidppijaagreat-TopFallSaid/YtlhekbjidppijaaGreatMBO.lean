/- Contracts of what TopFall reaches: what each function returns and leaves in memory. Conditions: as named. -/
import Derived.Test.YtlhekbjidppijaaGreatMBN
set_option linter.unusedVariables false
set_option linter.unusedSimpArgs false
set_option maxRecDepth 20000
set_option maxHeartbeats 8000000
namespace Go.Proofs.Ytlhekbjidppijaa
open Lib (hid)
open Go.RowKit
def heldB (L:List St)(k v:ByteArray)(h:Bool)(a b:Nat):Bool:=(List.range (b+1)).any fun p=>decide (a<=p) && decide ((atS L p k).1=v) && decide ((atS L p k).2=h)
theorem heldB_ok {L:List St}{k v:ByteArray}{h:Bool}{a b:Nat}(hh:heldB L k v h a b=true):heldS L k v h a b:=by
 obtain⟨p,hp,h2⟩:=List.any_eq_true.1 hh;simp only[Bool.and_eq_true,decide_eq_true_eq]at h2;exact⟨p,h2.1.1,by have:=List.mem_range.1 hp;omega,Prod.ext h2.1.2 h2.2⟩
def callOk (s:PW)(i:Nat)(z:PCall):Bool:=
 !z.done || (decide (z.frm<=z.to) && decide (z.reply.key=z.key) && decide (z.reply.id=z.id) && decide (z.to<=s.c.org.length) &&
  (!(decide (z.op=1) && decide (z.reply.err=0)) || match s.low[i]? with
    | some lo=>heldB s.c.org z.key z.reply.val z.reply.has lo z.to
    | none=>false))
def PW.right (s:PW):Bool:=s.c.small && decide (s.low.length=s.c.log.length) && (List.range s.c.log.length).all fun i=>match s.c.log[i]? with
 | some z=>callOk s i z
 | none=>false
def RiS (x b lb lo k:Nat)(pc lv:Value)(z:PCall)(low:Nat)(W:World):Prop:=W.cell? ⟨x,0,none⟩=some pc/\W.cell? ⟨x,1,none⟩=some lv/\W.cell? ⟨lb,lo+k,none⟩=some (.int .i64 (low:Int))/\W.cell? ⟨b,1,none⟩=some (.int .i64 1)/\W.cell? ⟨b,2,none⟩=some (.string z.key)/\W.cell? ⟨b,5,none⟩=some (.int .i64 (z.to:Int))/\W.cell? ⟨b,10,none⟩=some (.int .i64 0)/\W.cell? ⟨b,12,none⟩=some (.bool z.reply.has)
theorem right21 (w:World)(U:Own)(x c:Nat)(L:CL)(s:PW)(H:WAt w U x c L s)(ha:s.right=true) :
 Calls Tryz.prog 21 #[ptr x] w fun e w'=>e=.returned (.bool true)/\∃ U',WAt w' U' x c L s/\Chg (fun _=>False) w U w' U':=by
 simp only[PW.right,PCl.small,Bool.and_eq_true,decide_eq_true_eq,List.all_eq_true]at ha;obtain⟨⟨⟨ho,hlg⟩,hll⟩,hall⟩:=ha;obtain⟨y,hy1,hy2⟩:=fresh95 w U;obtain⟨q0,A1,c1,q1⟩:=H.cells;have HLg:=hid (log27 w U c L s.c H.clu);have HAl:=hid (all28 w U 85 L.log s.c.log H.clu.log hlg);have HX:=hid (And.intro H (And.intro ho (And.intro hlg (And.intro hll (And.intro hall hy1)))))
 have klw:(s.c.log.length:Int)<=1000:=by omega
 have kll:(s.low.length:Int)=(s.c.log.length:Int):=by omega
 clear H ho hlg hll hall hy1 hy2;go_enter Tryz.func21,Tryz.ntmps21
 go_wp2_with (go_at_call 27;refine HLg.out.mono ?_;rintro e w' ⟨rfl,hw⟩;obtain rfl:=hw)
 refine HAl.out.mono ?_;rintro e w1 ⟨v1,rfl,ho1,hb1⟩;obtain⟨A,ca,rfl⟩:=ownsRow_slice ho1;have hc1:Chg (fun _=>False) w U w1 (ext U w y):=Chg.of_below hb1 y;have hrw:Rw w1 (ext U w y) y 59 13 (.slice A s.c.log.length ca) s.c.log.length (s.c.log.flatMap encC):=Rw.of_new ho1 (Nat.le_refl _) U y;have hwa:=HX.out.1.keep hc1 fun _ h=>h.elim;generalize ext U w y=U1 at hc1 hrw hwa;obtain⟨q0',A1',c1',q1'⟩:=hwa.cells;have HW1:=hid (And.intro hwa (And.intro hrw hc1));clear ho1 hb1 hc1 hrw hwa HAl HLg q0 q1;obtain⟨N,hN⟩:∃ N,N=s.c.log.length:=⟨_,rfl⟩;have HNN:=hid hN;rw[<- hN]at klw kll ⊢;clear hN
 go_wp2_with fail
 go_loopw [4] (fun v wr=>∃ (k:Nat) (Ur:Own),k<=N/\v=.int .i64 (k:Int)/\WAt wr Ur x c L s/\Rw wr Ur y 59 13 (.slice A N ca) N (s.c.log.flatMap encC)/\Chg (fun _=>False) w U wr Ur) (fun v _=>N-(intOf v).toNat)
 case atStart=>exact⟨0,U1,Nat.zero_le _,rfl,HW1.out.1,by rw[HNN.out];exact HW1.out.2.1,HW1.out.2.2⟩
 case round=>
  obtain⟨k,Ur,hk,rfl,hwr,hrr,hch⟩:=hrel
  by_cases hlt:k<N
  ·have hkl:k<s.c.log.length:=by rw[<- HNN.out];exact hlt
   obtain⟨g,rfl⟩:∃ g,A=some ⟨g,0,none⟩:=by
    obtain⟨A',c',e1,-,-,-,-,hA,ha⟩:=hrr.slice
    injection e1 with e1 _ _
    subst e1
    cases A with
    | none=>have:=(hA rfl).1;omega
    | some a=>
     obtain⟨b0,o0,s0⟩:=a;obtain⟨rfl,rfl,_⟩:=ha _ rfl;exact⟨b0,rfl⟩
   have hld:=Rw.load (P:=Tryz.prog) encC_len (by decide) hrr (by rw[<- HNN.out];exact hlt) (by kernel_rfl) (by kernel_rfl);have hok:=HX.out.2.2.2.2.1 k (List.mem_range.2 hkl);rw[List.getElem?_eq_getElem hkl]at hok;dsimp only at hok;generalize s.c.log[k]=z at hld hok;obtain⟨W3,hst,hb3,hbl3,hsz3⟩:=store_fresh (P:=Tryz.prog) _ 59 #[.int .i64 0,.int .i64 0,.string ⟨#[]⟩,.int .i64 0,.int .i64 0,.int .i64 0,.bool false,.int .i64 0,.int .i64 0,.string ⟨#[]⟩,.int .i64 0,.string ⟨#[]⟩,.bool false] (encC z) (fun W=>by kernel_rfl) rfl (encC_one z);have HLd:=hid hld;have HSt:=hid hst;have hc3:Chg (fun _=>False) _ Ur W3 (ext Ur _ y):=Chg.of_below hbl3 _;have hwa3:=hwr.keep hc3 fun _ h=>h.elim;have hrr3:=hrr.keep hc3 id;have HA3:=hid (And.intro hwa3 (And.intro hrr3 (hch.trans hc3)));have HB3:=hid hb3;have HOK:=hid hok;have b6:W3.cell? ⟨wr.heap.size,6,none⟩=some (.bool z.done):=hb3.cell 6
   have k1:(k:Int)<(N:Int):=by omega
   have k2:(0:Int)<=(k:Int):=by omega
   have kk9:(k:Int)<=1000:=by omega
   clear hwr hrr hch hok hld hst hc3 hwa3 hrr3 hbl3 hsz3 HW1
   cases hd:z.done with
   | false=>
    rw[hd]at b6;clear hd hb3
    go_wp2_with (first|(refine wpl_lq 59 _ rfl ?_;refine lq 59 _ _ _ rfl (by kernel_rfl) HLd.out ?_)|(refine wpl_sq 59 _ _ rfl rfl ?_;refine sq 59 _ _ _ _ W3 rfl rfl (by kernel_rfl) HSt.out ?_))
    go_roundw
    case rel=>exact⟨k+1,_,by omega,by go_num,HA3.out⟩
    case measure=>simp[intOf];omega
   | true=>
    have hok:=HOK.out;simp only[callOk,hd,Bool.not_true,Bool.false_or,Bool.and_eq_true,decide_eq_true_eq]at hok;obtain⟨⟨⟨⟨h1,h2⟩,h3⟩,h4⟩,h5⟩:=hok;have b0:W3.cell? ⟨wr.heap.size,0,none⟩=some (.int .i64 (z.id:Int)):=hb3.cell 0;have b1:W3.cell? ⟨wr.heap.size,1,none⟩=some (.int .i64 (z.op:Int)):=hb3.cell 1;have b2:W3.cell? ⟨wr.heap.size,2,none⟩=some (.string z.key):=hb3.cell 2;have b4:W3.cell? ⟨wr.heap.size,4,none⟩=some (.int .i64 (z.frm:Int)):=hb3.cell 4;have b5:W3.cell? ⟨wr.heap.size,5,none⟩=some (.int .i64 (z.to:Int)):=hb3.cell 5
    have b7:W3.cell? ⟨wr.heap.size,7,none⟩=some (.int .i64 (z.id:Int)):=by rw[<- h3];exact hb3.cell 7
    have b9:W3.cell? ⟨wr.heap.size,9,none⟩=some (.string z.key):=by rw[<- h2];exact hb3.cell 9
    have b10:W3.cell? ⟨wr.heap.size,10,none⟩=some (.int .i64 (z.reply.err:Int)):=hb3.cell 10;have b11:W3.cell? ⟨wr.heap.size,11,none⟩=some (.string z.reply.val):=hb3.cell 11;have b12:W3.cell? ⟨wr.heap.size,12,none⟩=some (.bool z.reply.has):=hb3.cell 12
    have k3:¬ ((z.to:Int)<(z.frm:Int)):=by omega
    rw[hd]at b6
    have hg:(((z.op:Int) == 1)=false)\/(z.op=1/\((z.reply.err:Int) == 0)=false)\/(z.op=1/\z.reply.err=0):=by
     by_cases e1:z.op=1
     ·by_cases e2:z.reply.err=0
      ·exact .inr (.inr ⟨e1,e2⟩)
      ·exact .inr (.inl ⟨e1,by rw[beq_eq_false_iff_ne];omega⟩)
     ·exact .inl (by rw[beq_eq_false_iff_ne];omega)
    have H5:=hid (And.intro h4 h5);clear hb3 h1 h2 h3 h4 h5 hd HOK
    rcases hg with hg|⟨e1,hg⟩|⟨e1,e2⟩
    ·go_wp2_with (first|(refine wpl_lq 59 _ rfl ?_;refine lq 59 _ _ _ rfl (by kernel_rfl) HLd.out ?_)|(refine wpl_sq 59 _ _ rfl rfl ?_;refine sq 59 _ _ _ _ W3 rfl rfl (by kernel_rfl) HSt.out ?_))
     go_quiet (fail)
     go_wp2_with fail
     go_roundw
     case rel=>exact⟨k+1,_,by omega,by go_num,HA3.out.1.keep ((Chg.refl (fun _=>False) _ _).drewN nq) (fun _ h=>h.elim),HA3.out.2.1.keep ((Chg.refl (fun _=>False) _ _).drewN nq) id,HA3.out.2.2.drewN nq⟩
     case measure=>simp[intOf];omega
    ·rw[e1]at b1
     clear e1
     go_wp2_with (first|(refine wpl_lq 59 _ rfl ?_;refine lq 59 _ _ _ rfl (by kernel_rfl) HLd.out ?_)|(refine wpl_sq 59 _ _ rfl rfl ?_;refine sq 59 _ _ _ _ W3 rfl rfl (by kernel_rfl) HSt.out ?_))
     go_quiet (fail)
     go_wp2_with fail
     go_roundw
     case rel=>exact⟨k+1,_,by omega,by go_num,HA3.out.1.keep ((Chg.refl (fun _=>False) _ _).drewN nq) (fun _ h=>h.elim),HA3.out.2.1.keep ((Chg.refl (fun _=>False) _ _).drewN nq) id,HA3.out.2.2.drewN nq⟩
     case measure=>simp[intOf];omega
    ·rw[e1]at b1
     rw[e2]at b10;have h5:=H5.out.2;rw[e1,e2]at h5;simp only[decide_true,Bool.and_self,Bool.not_true,Bool.false_or]at h5
     split at h5
     case h_2=>cases h5
     rename_i lo hlo;clear e1 e2;have hcd:Chg (fun _=>False) W3 (ext Ur wr y) W3.drew (ext Ur wr y):=(Chg.refl _ _ _).drew;have hwd:=HA3.out.1.keep hcd fun _ h=>h.elim;have HD:=hid (And.intro hwd (And.intro (HA3.out.2.1.keep hcd id) (HA3.out.2.2.trans hcd)));obtain⟨-,vl,cs,hx,hx0,hx1,hlw⟩:=hwd;obtain⟨AL,cL,rfl,-,-,-,hsl,-,-⟩:=hlw.slice
     have hkl2:k<s.low.length:=by have:=HX.out.2.2.2.1;omega
     obtain⟨lb,lof,rfl,hls⟩:=hsl (by intro e;have:=congrArg List.length e;simp[nnums]at this;rw[this]at hkl2;simp at hkl2)
     have hlk:s.low[k]=lo:=by have:=(List.getElem?_eq_some_iff.1 hlo).2;exact this
     have hcell:=hls k _ (nnums_get s.low k hkl2);rw[hlk]at hcell;have S3:Hid (RiS x wr.heap.size lb lof k (ptr c) (.slice (some ⟨lb,lof,none⟩) s.low.length cL) z lo W3.drew):=hid ⟨(hx.cell 0).trans hx0,(hx.cell 1).trans hx1,hcell,b1,b2,b5,b10,b12⟩;have HOr:=hid (org39 W3.drew _ c L s.c HD.out.1.clu);have HHe:=hid (held40 W3.drew _ 84 L.org s.c.org HD.out.1.clu.org HX.out.2.1 z.key z.reply.val z.reply.has lo z.to H5.out.1);have HHB:=hid (heldB_ok h5)
     have kl1:(k:Int)<(s.low.length:Int):=by omega
     have kl3:k<s.low.length:=hkl2;clear hcd hx hx0 hx1 hlw hsl hls hlk hcell hlo h5 hkl2
     go_wp2_with (first|(refine wpl_lq 59 _ rfl ?_;refine lq 59 _ _ _ rfl (by kernel_rfl) HLd.out ?_)|(refine wpl_sq 59 _ _ rfl rfl ?_;refine sq 59 _ _ _ _ W3 rfl rfl (by kernel_rfl) HSt.out ?_))
     clear b0 b1 b2 b4 b5 b6 b7 b9 b10 b11 b12;refine wp_region_hl [14] [0,1,2,3,4,5,6,7,8,9,10,11,12,13,15,16,17,18,19,20,21,22,23,24,25,26,27,28,29,14] (RiS x wr.heap.size lb lof k (ptr c) (.slice (some ⟨lb,lof,none⟩) s.low.length cL) z lo) (by kernel_rfl) (by kernel_rfl) S3.out ?_
     iterate 29 (refine hd_take (v:=?_) rfl rfl (by kernel_rfl) (fun W hW=>?_) ?_;rotate_left;(obtain⟨r0,r1,r2,r3,r4,r5,r6,r7⟩:=hW;first|(go_simp;done)|(go_simp;with_reducible rfl)))
     refine hd_loud rfl rfl fun K hK=>?_;go_simp;refine HOr.out.mono ?_;rintro e w4 ⟨rfl,rfl⟩;refine hK _ _ S3.out (hd_end ?_);clear hK;simp only[zqa,zqb,zqc,zqd,Nat.zero_add,Nat.reduceAdd]
     go_wp2_with (go_at_call 40;fail)
     refine HHe.out.mono ?_;rintro e w5 ⟨r,rfl,hr,hb5⟩;obtain rfl:r=true:=hr.2 HHB.out;have hc5:Chg (fun _=>False) W3.drew (ext Ur wr y) w5 (ext (ext Ur wr y) W3.drew 94):=Chg.of_below hb5 94;have HE5:=hid (And.intro (HD.out.1.keep hc5 fun _ h=>h.elim) (And.intro (HD.out.2.1.keep hc5 id) (HD.out.2.2.trans hc5)));clear hr hb5 hc5
     go_wp2_with fail
     go_roundw
     case rel=>exact⟨k+1,_,by omega,by go_num,HE5.out⟩
     case measure=>simp[intOf];omega
  ·obtain rfl:k=N:=by omega
   have HE:=hid (And.intro hwr hch);clear hwr hrr hch HW1
   go_wp2_with fail
   go_ret;exact⟨rfl,Ur,HE.out⟩
def begun?:Option PW:=((((PW.new 1).rounds? 3).bind fun s=>s.step? 6 0 0 ⟨#[107]⟩ ⟨#[118]⟩ true).bind fun s=>s.step? 7 1 0 ⟨#[107]⟩ ⟨#[]⟩ false).bind fun s=>s.step? 5 1 0 ⟨#[]⟩ ⟨#[]⟩ false
def begunC (s:PW):Bool:=s.right && (match s.c.log with
 | [z]=>z.done && decide (z.reply.val=⟨#[118]⟩)
 | _=>false)
set_option maxRecDepth 100000 in
theorem begun_true:begun?.map begunC=some true:=by decide +kernel
theorem begun_ex:∃ s1 s2 s3 s4 z,(PW.new 1).rounds? 3=some s1/\s1.step? 6 0 0 ⟨#[107]⟩ ⟨#[118]⟩ true=some s2/\s2.step? 7 1 0 ⟨#[107]⟩ ⟨#[]⟩ false=some s3/\s3.step? 5 1 0 ⟨#[]⟩ ⟨#[]⟩ false=some s4/\s4.right=true/\s4.c.log=[z]/\z.done=true/\z.reply.val=⟨#[118]⟩:=by
 obtain⟨s4,h4,hc⟩:=Option.map_eq_some_iff.1 begun_true;unfold begun? at h4;obtain⟨s3,h3,e4⟩:=Option.bind_eq_some_iff.1 h4;obtain⟨s2,h2,e3⟩:=Option.bind_eq_some_iff.1 h3;obtain⟨s1,e1,e2⟩:=Option.bind_eq_some_iff.1 h2;simp only[begunC,Bool.and_eq_true]at hc;obtain⟨hr,hz⟩:=hc
 cases hl:s4.c.log with
 | nil=>rw[hl]at hz;cases hz
 | cons z l=>
  cases l with
  | cons y l=>rw[hl]at hz;cases hz
  | nil=>
   rw[hl]at hz;simp only[Bool.and_eq_true,decide_eq_true_eq]at hz;exact⟨s1,s2,s3,s4,z,e1,e2,e3,e4,hr,hl,hz.1,hz.2⟩
theorem Chg.wx_below {w w':World}{U':Own}(h:Chg WX w (fun _=>94) w' U'):Below w.heap.size w w':=⟨h.os,h.tape,h.output,h.size,fun k hk=>h.block k hk (by unfold WX;decide)⟩
theorem begun54 (w:World):Calls Tryz.prog 54 #[] w fun e w'=>e=.returned (.bool true)/\Below w.heap.size w w':=by
 obtain⟨s1,s2,s3,s4,z,hE⟩:=begun_ex;have HE:=hid hE;obtain⟨W1,hW1⟩:∃ W,W=w.alloc (.cells #[.int .i64 1] 3):=⟨_,rfl⟩
 have hc1:Chg (fun _=>False) w (fun _=>94) W1 (fun _=>94):=by rw[hW1];exact(Chg.refl _ _ _).alloc _
 have hs1:Sl W1 (some ⟨w.heap.size,0,none⟩) (nnums (upto 1)):=by rw[hW1];exact(Blk.new w 3 #[.int .i64 1]).sl
 have HNw:=hid (new38 W1 (fun _=>94) 1 1 (some ⟨w.heap.size,0,none⟩) hs1 (fun a ha=>by injection ha with ha;subst ha;exact⟨by rw[hW1];simp,by unfold CT;decide⟩) (by decide) (by decide));have HW1:=hid (And.intro hW1 hc1);clear hE hW1 hc1 hs1;go_enter Tryz.func54,Tryz.ntmps54
 go_wp2_with (first|rw[<- HW1.out.1]|(go_at_call 38;fail))
 refine HNw.out.mono ?_;rintro e w2 ⟨x,c,L,U2,rfl,h2,hc2⟩;obtain⟨q0,-⟩:=h2.cells;have H2:=hid (And.intro h2 ((HW1.out.2.mono (T':=WX) fun _ h=>h.elim).trans (hc2.mono fun x h=>by unfold CT at h;unfold WX;omega)));have HN1:=hid (node24 w2 U2 c L _ h2.clu 1 (by decide) (by decide));have HN2:=hid (node24 w2 U2 c L _ h2.clu 2 (by decide) (by decide));have HCt:=hid (ctl71 w2 U2 c L _ h2.clu);have HRo:=hid (rounds44 w2 U2 x c L _ s1 h2 3 (by decide) HE.out.1);have n1:ndV L (PW.new 1).c.n 1=ptr (L.nd 1):=rfl;have n2:ndV L (PW.new 1).c.n 2=.pointer none:=rfl;rw[n1]at HN1;rw[n2]at HN2;clear h2 hc2 HNw n1 n2
 go_wp2_with (go_at_call 24;fail)
 refine HN1.out.mono ?_;rintro e w' ⟨rfl,hw⟩;obtain rfl:=hw
 go_wp2_with (go_at_call 24;fail)
 refine HN2.out.mono ?_;rintro e w' ⟨rfl,hw⟩;obtain rfl:=hw
 go_wp2_with (go_at_call 71;fail)
 refine HCt.out.mono ?_;rintro e w' ⟨rfl,hw⟩;obtain rfl:=hw
 go_wp2_with (go_at_call 44;fail)
 refine HRo.out.mono ?_;rintro e w3 ⟨⟨v3,rfl⟩,U3,h3,hc3⟩;have HSe:=hid (step34 w3 U3 x c L s1 s2 h3 6 0 0 ⟨#[107]⟩ ⟨#[118]⟩ true HE.out.2.1);have H3:=hid (H2.out.2.trans hc3);unfold stepV at HSe;clear h3 hc3 H2 HRo HN1 HN2 HCt q0
 go_wp2_with (go_at_call 34;fail)
 refine HSe.out.mono ?_;rintro e w4 ⟨rfl,U4,h4,hc4⟩;have HGe:=hid (step34 w4 U4 x c L s2 s3 h4 7 1 0 ⟨#[107]⟩ ⟨#[]⟩ false HE.out.2.2.1);have H4:=hid (H3.out.trans hc4);unfold stepV at HGe;clear h4 hc4 H3 HSe
 go_wp2_with (go_at_call 34;fail)
 refine HGe.out.mono ?_;rintro e w5 ⟨rfl,U5,h5,hc5⟩;have HRe:=hid (step34 w5 U5 x c L s3 s4 h5 5 1 0 ⟨#[]⟩ ⟨#[]⟩ false HE.out.2.2.2.1);have H5:=hid (H4.out.trans hc5);unfold stepV at HRe;clear h5 hc5 H4 HGe
 go_wp2_with (go_at_call 34;fail)
 refine HRe.out.mono ?_;rintro e w6 ⟨rfl,U6,h6,hc6⟩;obtain⟨q0,-⟩:=h6.cells;have HLg:=hid (log27 w6 U6 c L s4.c h6.clu);have HAl:=hid (all28 w6 U6 85 L.log s4.c.log h6.clu.log (by rw[HE.out.2.2.2.2.2.1];simp));have H6:=hid (And.intro h6 (H5.out.trans hc6));rw[HE.out.2.2.2.2.2.1]at HAl;clear h6 hc6 H5 HRe
 go_wp2_with (first|(go_at_call 27;refine HLg.out.mono ?_;rintro e w' ⟨rfl,hw⟩;obtain rfl:=hw)|(go_at_call 28;fail))
 refine HAl.out.mono ?_;rintro e w7 ⟨v7,rfl,ho7,hb7⟩;have hc7:Chg (fun _=>False) w6 U6 w7 (ext U6 w6 94):=Chg.of_below hb7 94;have hrw:Rw w7 (ext U6 w6 94) 94 59 13 v7 [z].length ([z].flatMap encC):=Rw.of_new ho7 (Nat.le_refl _) _ _;have h7:=H6.out.1.keep hc7 fun _ h=>h.elim;generalize ext U6 w6 94=U7 at hc7 hrw h7;obtain⟨A,ca,rfl,-,-,-,hsl,-,-⟩:=hrw.slice;obtain⟨g,o,rfl,hcs⟩:=Sl.flat encC_len (by decide) hsl 0 (by simp);simp only[Nat.zero_mul,Nat.zero_add,List.getElem_cons_zero]at hcs
 have c6:w7.cell? ⟨g,o+6,none⟩=some (.bool true):=by have:=hcs 6 (.bool z.done) rfl;rwa [HE.out.2.2.2.2.2.2.1]at this
 have c11:w7.cell? ⟨g,o+11,none⟩=some (.string ⟨#[118]⟩):=by have:=hcs 11 (.string z.reply.val) rfl;rwa [HE.out.2.2.2.2.2.2.2]at this
 have HRi:=hid (right21 w7 U7 x c L s4 h7 HE.out.2.2.2.2.1);have H7:=hid (H6.out.2.trans (hc7.mono fun _ h=>h.elim));clear ho7 hb7 hc7 hrw h7 hsl hcs q0 HLg HAl H6;simp only[List.length_cons,List.length_nil,Nat.zero_add]
 go_wp2_with (go_at_call 21;fail)
 refine HRi.out.mono ?_;rintro e w8 ⟨rfl,U8,h8,hc8⟩;obtain⟨q0,-⟩:=h8.cells;have HSz:=hid (step53z w8 c);have H8:=hid (H7.out.trans (hc8.mono fun _ h=>h.elim));unfold stepV at HSz;clear h8 hc8 HRi H7
 go_wp2_with (go_at_call 53;fail)
 refine HSz.out.mono ?_;rintro e w9 ⟨rfl,hb9⟩;have H9:Hid (Below w.heap.size w w9):=hid (H8.out.wx_below.trans (hb9.mono H8.out.size));clear hb9
 go_wp2_with fail
 go_ret;exact⟨rfl,H9.out⟩
theorem begun37 (w:World):Calls Tryz.prog 37 #[] w fun e w'=>e=.returned (.bool true)/\Below w.heap.size w w':=by
 have HB:=hid (begun54 w);go_enter Tryz.func37,Tryz.ntmps37
 go_wp2_with (go_at_call 54;fail)
 refine HB.out.mono ?_;rintro e w1 ⟨rfl,h1⟩;have H1:=hid h1;clear h1
 go_wp2
 go_ret;exact⟨rfl,H1.out⟩
theorem begun13 (w:World):Calls Tryz.prog 13 #[] w fun e w'=>e=.returned (.bool true)/\Below w.heap.size w w':=by
 have HB:=hid (begun37 w);go_enter Tryz.func13,Tryz.ntmps13
 go_wp2_with (go_at_call 37;fail)
 refine HB.out.mono ?_;rintro e w1 ⟨rfl,h1⟩;have H1:=hid h1;clear h1
 go_wp2
 go_ret;exact⟨rfl,H1.out⟩
structure TAt (w:World)(U:Own)(t x c:Nat)(L:CL)(s:PW):Prop where
 wat:WAt w U x c L s
 blk:Has w U 88 t 33 #[ptr x,.bool true]
def TX (x:Nat):Prop:=x%96<=88
theorem TAt.keep {T:Nat->Prop}{w w':World}{U U':Own}{t x c:Nat}{L:CL}{s:PW}(H:TAt w U t x c L s)(hc:Chg T w U w' U')(hT:∀ x,T x->¬ TX x):TAt w' U' t x c L s:=
 ⟨H.wat.keep hc fun z hz hy=>hT z hz (by unfold WX at hy;unfold TX;omega),H.blk.keep hc fun h=>hT _ h (by unfold TX;decide)⟩
theorem TAt.setW {w w':World}{U U':Own}{t x c:Nat}{L:CL}{s s':PW}(H:TAt w U t x c L s)(hw:WAt w' U' x c L s')(hc:Chg WX w U w' U'):TAt w' U' t x c L s':=⟨hw,H.blk.keep hc (by unfold WX;decide)⟩
theorem WX.tx {x:Nat}(h:WX x):TX x:=by unfold WX at h;unfold TX;omega
theorem Chg.tx_below {w w':World}{U':Own}(h:Chg TX w (fun _=>94) w' U'):Below w.heap.size w w':=⟨h.os,h.tape,h.output,h.size,fun k hk=>h.block k hk (by unfold TX;decide)⟩
theorem rounds29 (w:World)(U:Own)(t x c:Nat)(L:CL)(s s':PW)(H:TAt w U t x c L s)(n:Nat)(hn:n<=1000)(ha:s.rounds? n=some s') :
 Calls Tryz.prog 29 #[ptr t,.int .i64 (n:Int)] w fun e w'=>(∃ r,e=.returned r)/\∃ U',TAt w' U' t x c L s'/\Chg TX w U w' U':=by
 have HR:=hid (rounds44 w U x c L s s' H.wat n hn ha);have c0:w.cell? ⟨t,0,none⟩=some (ptr x):=H.blk.cell 0;have c1:w.cell? ⟨t,1,none⟩=some (.bool true):=H.blk.cell 1;have HH:=hid H;clear H ha;go_enter Tryz.func29,Tryz.ntmps29
 go_wp2_with (go_at_call 44;fail)
 refine HR.out.mono ?_;rintro e w2 ⟨⟨v2,rfl⟩,U2,h2,hc2⟩;have HE:=hid (And.intro (HH.out.setW h2 hc2) (hc2.mono fun z hz=>WX.tx hz));clear h2 hc2
 go_wp2
 refine bodyPost_end (by first|exact results_none rfl _ _ _|rfl|(simp[results];rfl)) rfl ?_;exact⟨⟨_,rfl⟩,U2,HE.out⟩
theorem made15 (w:World)(U:Own)(n ca:Nat)(A:Option Addr)(s:PW)(hs:Sl w A (nnums (upto n)))(hA:∀ a,A=some a->a.block<w.heap.size/\¬ CT (U a.block))(h1:1<=n)(h5:n<=5)(ha:(PW.new n).rounds? 3=some s) :
 Calls Tryz.prog 15 #[.slice A n ca] w fun e w'=>∃ t x c L U',e=.returned (ptr t)/\TAt w' U' t x c L s/\Chg TX w U w' U':=by
 have HN:=hid (new38 w U n ca A hs hA h1 h5);have HA:=hid ha;clear hs hA h1 h5 ha;go_enter Tryz.func15,Tryz.ntmps15
 go_wp2_with (go_at_call 38;fail)
 refine HN.out.mono ?_;rintro e w2 ⟨x,c,L,U2,rfl,h2,hc2⟩;have H2:=hid (And.intro h2 (hc2.mono (T':=TX) fun z hz=>by unfold CT at hz;unfold TX;omega));clear h2 hc2 HN
 go_wp2_with (go_at_call 29;fail)
 generalize hW3:World.alloc w2 _=w3
 have hc3:Chg (fun _=>False) w2 U2 w3 (ext U2 w2 88):=by rw[<- hW3];exact((Chg.refl _ _ _).alloc _).ext _
 have ht3:TAt w3 (ext U2 w2 88) w2.heap.size x c L (PW.new n):=⟨H2.out.1.keep hc3 fun _ h=>h.elim,⟨by rw[<- hW3];exact Blk.new _ _ _,ext_new (Nat.le_refl _)⟩⟩;generalize ext U2 w2 88=U3 at hc3 ht3;have HR:=hid (rounds29 w3 U3 w2.heap.size x c L (PW.new n) s ht3 3 (by decide) HA.out);have H3:=hid (H2.out.2.trans (hc3.mono fun _ h=>h.elim));clear hc3 ht3 hW3 H2;refine HR.out.mono ?_;rintro e w4 ⟨⟨v4,rfl⟩,U4,h4,hc4⟩;have HE:=hid (And.intro h4 (H3.out.trans hc4));clear h4 hc4
 go_wp2
 go_ret;exact⟨_,x,c,L,U4,rfl,HE.out⟩
def TsS (t b:Nat)(a:Value)(sv:List Value)(W:World):Prop:=W.cell? ⟨t,0,none⟩=some a/\W.cell? ⟨t,1,none⟩=some (.bool true)/\Blk W b 39 sv.toArray
theorem step23 (w:World)(U:Own)(t x c:Nat)(L:CL)(s s':PW)(H:TAt w U t x c L s)(fn a n:Nat)(key val:ByteArray)(on:Bool)(ha:s.step? fn a n key val on=some s') :
 Calls Tryz.prog 23 #[ptr t,.agg (stepV fn a n key val on).toArray] w fun e w'=>(∃ r,e=.returned r)/\∃ U',TAt w' U' t x c L s'/\Chg TX w U w' U':=by
 obtain⟨W1,hW1⟩:∃ W,W=w.alloc (.cells (stepV fn a n key val on).toArray 39):=⟨_,rfl⟩
 have hc1:Chg (fun _=>False) w U W1.drew (ext U w 94):=by rw[hW1];exact(((Chg.refl _ _ _).alloc _).ext _).drew
 have h1:=H.keep hc1 fun _ h=>h.elim
 have hb:Blk W1.drew w.heap.size 39 (stepV fn a n key val on).toArray:=by rw[hW1];exact(Blk.new _ _ _).drewN 1
 generalize ext U w 94=U1 at hc1 h1;have S1:Hid (TsS t w.heap.size (ptr x) (stepV fn a n key val on) W1.drew):=hid ⟨h1.blk.cell 0,h1.blk.cell 1,hb⟩;have HS:=hid (step34 W1.drew U1 x c L s s' h1.wat fn a n key val on ha);have HH:=hid (And.intro h1 (hc1.mono (T':=TX) fun _ h=>h.elim));have HW1:=hid hW1;clear H ha hW1 hc1 h1 hb;go_enter Tryz.func23,Tryz.ntmps23
 go_wp2_with (first|rw[<- HW1.out]|fail)
 refine wp_region_hl [] [0,1,2,3,4,5,6,7,8,9] (TsS t w.heap.size (ptr x) (stepV fn a n key val on)) (by kernel_rfl) (by kernel_rfl) S1.out ?_
 iterate 9 (refine hd_take (v:=?_) rfl rfl (by kernel_rfl) (fun W hW=>?_) ?_;rotate_left;(obtain⟨r0,r1,-⟩:=hW;first|(go_simp;done)|(go_simp;with_reducible rfl)))
 refine hd_load 39 (.tmp 3) rfl rfl (by kernel_rfl) rfl (ptr w.heap.size) (.agg (stepV fn a n key val on).toArray) (by go_simp) (fun W hW=>load_blk (by kernel_rfl) (by kernel_rfl) hW.2.2) (hd_end ?_);simp only[zqa,zqb,zqc,zqd,Nat.zero_add,Nat.reduceAdd]
 go_wp2_with (go_at_call 34;fail)
 refine HS.out.mono ?_;rintro e w2 ⟨rfl,U2,h2,hc2⟩;have HE:=hid (And.intro (HH.out.1.setW h2 hc2) (HH.out.2.trans (hc2.mono fun z hz=>WX.tx hz)));clear h2 hc2
 go_wp2
 refine bodyPost_end (by first|exact results_none rfl _ _ _|rfl|(simp[results];rfl)) rfl ?_;exact⟨⟨_,rfl⟩,U2,HE.out⟩
theorem set16 (w:World)(U:Own)(t x c:Nat)(L:CL)(s s':PW)(H:TAt w U t x c L s)(key val:ByteArray)(ha:s.step? 6 0 0 key val true=some s') :
 Calls Tryz.prog 16 #[ptr t,.string key,.string val] w fun e w'=>(∃ r,e=.returned r)/\∃ U',TAt w' U' t x c L s'/\Chg TX w U w' U':=by
 have HS:=hid (step23 w U t x c L s s' H 6 0 0 key val true ha);clear H ha;unfold stepV at HS;go_enter Tryz.func16,Tryz.ntmps16
 go_wp2_with (go_at_call 23;fail)
 refine HS.out.mono ?_;rintro e w2 ⟨⟨v2,rfl⟩,h2⟩;have HE:=hid h2;clear h2
 go_wp2
 refine bodyPost_end (by first|exact results_none rfl _ _ _|rfl|(simp[results];rfl)) rfl ?_;exact⟨⟨_,rfl⟩,HE.out⟩
def PCl.nreads (s:PCl)(k:Nat):Nat:=(s.nodes.take k).foldl (fun n p=>n+p.reads.length) 0
theorem nreads_succ (s:PCl)(k:Nat):s.nreads (k+1)=s.nreads k+(match s.nodes[k]? with
 | some p=>p.reads.length
 | none=>0):=by
 unfold PCl.nreads
 cases h:s.nodes[k]? with
 | none=>rw[List.take_of_length_le (by have:=List.getElem?_eq_none_iff.1 h;omega),List.take_of_length_le (List.getElem?_eq_none_iff.1 h)];simp
 | some p=>
  obtain⟨hk,rfl⟩:=List.getElem?_eq_some_iff.1 h;rw[List.take_succ_eq_append_getElem hk,List.foldl_append];rfl
def PCl.fewReads (s:PCl):Bool:=s.nodes.all fun p=>decide (p.reads.length<=100)
theorem reads45 (w:World)(U:Own)(t x c:Nat)(L:CL)(s:PW)(H:TAt w U t x c L s)(hf:s.c.fewReads=true) :
 Calls Tryz.prog 45 #[ptr t] w fun e w'=>e=.returned (.int .i64 (s.c.nreads 5:Int))/\∃ U',TAt w' U' t x c L s/\Chg (fun _=>False) w U w' U':=by
 have HH:=hid (And.intro H hf);clear H hf;go_enter Tryz.func45,Tryz.ntmps45
 go_wp2_with fail
 go_loopw [3,4] (fun m v wr=>∃ (a:Nat) (Ur:Own),1<=a/\a<=6/\v=.int .i64 (a:Int)/\m=.int .i64 (s.c.nreads (a-1):Int)/\s.c.nreads (a-1)<=100*(a-1)/\TAt wr Ur t x c L s/\Chg (fun _=>False) w U wr Ur) (fun _ v _=>6-(intOf v).toNat)
 case atStart=>exact⟨1,U,Nat.le_refl _,by omega,rfl,rfl,by simp[PCl.nreads],HH.out.1,Chg.refl _ _ _⟩
 case round=>
  obtain⟨a,Ur,h1,h6,rfl,rfl,hle,hT,hch⟩:=hrel
  by_cases hlt:a<=5
  ·have k1:(a:Int)<=5:=by omega
   have k2:(s.c.nreads (a-1):Int)<=500:=by omega
   have t0:=hT.blk.cell 0;have q0:=hT.wat.cells.1;have HNd:=hid (node24 _ Ur c L s.c hT.wat.clu a h1 hlt);have hsu:=nreads_succ s.c (a-1);rw[show a-1+1=a by omega]at hsu;have hlen:=hT.wat.clu.len
   cases hp:s.c.nodes[a-1]? with
   | none=>
    have hge:=List.getElem?_eq_none_iff.1 hp
    have hnd:ndV L s.c.n a=.pointer none:=by unfold ndV;rw[if_neg (by omega)]
    rw[hnd]at HNd;rw[hp]at hsu;have HE:=hid (And.intro hT (And.intro hch (And.intro hsu hle)));clear hT hch hsu hle hlen hge hnd hp
    go_wp2_with (go_at_call 24;refine HNd.out.mono ?_;rintro e w' ⟨rfl,hw⟩;obtain rfl:=hw)
    go_roundw
    case rel=>exact⟨a+1,Ur,by omega,by omega,by go_num,by rw[show a+1-1=a by omega,HE.out.2.2.1];rfl,by have:=HE.out.2.2.1;have:=HE.out.2.2.2;rw[show a+1-1=a by omega];(try dsimp only at *);omega,HE.out.1,HE.out.2.1⟩
    case measure=>simp[intOf];omega
   | some p=>
    have hpl:=(List.getElem?_eq_some_iff.1 hp).1
    have hnd:ndV L s.c.n a=ptr (L.nd a):=by unfold ndV;rw[if_pos (by omega)]
    rw[hnd]at HNd;rw[hp]at hsu
    have hfew:p.reads.length<=100:=by
     have:=List.all_eq_true.1 HH.out.2 p (List.mem_of_getElem? hp)
     simpa using this
    obtain⟨-,-,h,hN⟩:=hT.wat.clu.node a p h1 hp;have HRd:=hid (reads25 _ Ur _ _ _ _ _ a p h hN (by omega) (by omega))
    have k3:(p.reads.length:Int)<=100:=by omega
    have HE:=hid (And.intro hT (And.intro hch (And.intro hsu (And.intro hle hfew))));clear hT hch hsu hle hlen hpl hnd hp hN hfew
    go_wp2_with (first|(go_at_call 24;refine HNd.out.mono ?_;rintro e w' ⟨rfl,hw⟩;obtain rfl:=hw)|(go_at_call 25;fail))
    refine HRd.out.mono ?_;rintro e w2 ⟨v2,rfl,ho2,hb2⟩;obtain⟨A2,c2,rfl⟩:=ownsRow_slice ho2;have hc2:Chg (fun _=>False) _ Ur w2 (ext Ur _ 94):=Chg.of_below hb2 94;have HE2:=hid (And.intro (HE.out.1.keep hc2 fun _ h=>h.elim) (HE.out.2.1.trans hc2));clear ho2 hb2 hc2
    go_wp2_with fail
    go_roundw
    case rel=>exact⟨a+1,_,by omega,by omega,by go_num,by rw[show a+1-1=a by omega,HE.out.2.2.1];go_num,by have:=HE.out.2.2.1;have:=HE.out.2.2.2.1;have:=HE.out.2.2.2.2;rw[show a+1-1=a by omega];(try dsimp only at *);omega,HE2.out.1,HE2.out.2⟩
    case measure=>simp[intOf];omega
  ·obtain rfl:a=6:=by omega
   have HE:=hid (And.intro hT hch);clear hT hch
   go_wp2_with fail
   go_ret;exact⟨rfl,Ur,HE.out⟩
end Go.Proofs.Ytlhekbjidppijaa
