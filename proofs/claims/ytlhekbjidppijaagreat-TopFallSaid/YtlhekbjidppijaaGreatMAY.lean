/- Contracts of what TopFall reaches: what each function returns and leaves in memory. Conditions: as named. -/
import Derived.Test.YtlhekbjidppijaaGreatMAX
set_option linter.unusedVariables false
set_option linter.unusedSimpArgs false
set_option maxRecDepth 20000
set_option maxHeartbeats 8000000
namespace Go.Proofs.Ytlhekbjidppijaa
open Lib (hid)
open Go.RowKit
def tkn (u i:Nat):Prop:=i=0\/48*i-6<u
instance (u i:Nat):Decidable (tkn u i):=by unfold tkn;exact inferInstance
structure MW (w:World)(U:Own)(t td lp d from_ segs n nxt g tg rc gen bs rn:Nat)(fr:Bool)(vL:Value)(Z:Cont)(F:Nat->Prop)(lb:List Nat)(B:Option Addr)(c:Nat)(W:World)(U':Own):Prop where
 hl:Has W U' t lp 328 #[ptr d,.int .i64 (from_:Int),.int .i64 (segs:Int),vL,.int .i64 (nxt:Int),.int .i64 (rc:Int),.bool fr]
 hg:Has W U' tg g 353 #[.int .i64 (gen:Int),.int .i64 (bs:Int),.int .i64 (rn:Int),.slice B lb.length c,.slice none 0 0]
 hb:Rw W U' tg 5 1 (.slice B lb.length c) lb.length (bv lb)
 hd:DevAt W U' td d n Z F
 ht:t<95/\td<95/\td≠t/\tg%96=t/\tg≠t
 hc:Chg (fun x=>x=t\/x=tg) w U W U'
section
variable {w W W' : World} {U U' U2 : Own} {t td lp d from_ segs n nxt g tg rc gen bs rn c : Nat} {fr : Bool} {vL : Value} {Z : Cont} {F : Nat -> Prop} {lb : List Nat} {B : Option Addr}
theorem MW.quiet (h:MW w U t td lp d from_ segs n nxt g tg rc gen bs rn fr vL Z F lb B c W U')(hc:Chg (fun _=>False) W U' W' U2):MW w U t td lp d from_ segs n nxt g tg rc gen bs rn fr vL Z F lb B c W' U2:=
 ⟨h.hl.keep hc id,h.hg.keep hc id,h.hb.keep hc id,h.hd.keep hc id,h.ht,h.hc.trans (hc.mono fun _ e=>e.elim)⟩
theorem MW.drewN (h:MW w U t td lp d from_ segs n nxt g tg rc gen bs rn fr vL Z F lb B c W U')(m:Nat):MW w U t td lp d from_ segs n nxt g tg rc gen bs rn fr vL Z F lb B c (W.drewN m) U':=h.quiet ((Chg.refl _ _ _).drewN m)
theorem MW.set5 (h:MW w U t td lp d from_ segs n nxt g tg rc gen bs rn fr vL Z F lb B c W U')(rc':Nat):MW w U t td lp d from_ segs n nxt g tg rc' gen bs rn fr vL Z F lb B c (W.setCell ⟨lp,5,none⟩ (.int .i64 (rc':Int))) U':=by
 have ht:=h.ht;have hc:Chg (· = t) W U' (W.setCell ⟨lp,5,none⟩ (.int .i64 (rc':Int))) U':=(Chg.refl _ W U').setCell (p:=⟨lp,5,none⟩) h.hl.own _;exact⟨by have:=h.hl.set_ 5 (.int .i64 (rc':Int));simpa using this,h.hg.keep hc ht.2.2.2.2,h.hb.keep hc ht.2.2.2.2,h.hd.keep hc ht.2.2.1,ht,h.hc.trans (hc.mono fun x e=>.inl e)⟩
theorem MW.take {lb':List Nat}{B':Option Addr}{c' gen' bs' rn':Nat}(h:MW w U t td lp d from_ segs n nxt g tg rc gen bs rn fr vL Z F lb B c W U')(hg:Has W' U2 tg g 353 #[.int .i64 (gen':Int),.int .i64 (bs':Int),.int .i64 (rn':Int),.slice B' lb'.length c',.slice none 0 0])
 (hb:Rw W' U2 tg 5 1 (.slice B' lb'.length c') lb'.length (bv lb'))(hc:Chg (· = tg) W U' W' U2):MW w U t td lp d from_ segs n nxt g tg rc gen' bs' rn' fr vL Z F lb' B' c' W' U2:=by
 have ht:=h.ht;exact⟨h.hl.keep hc (Ne.symm ht.2.2.2.2),hg,hb,h.hd.keep hc (by omega),ht,h.hc.trans (hc.mono fun x e=>.inr e)⟩
end
def RdT (lp g gen segs:Nat)(W:World):Prop:=W.cell? ⟨g,0,none⟩=some (.int .i64 (gen:Int))/\W.cell? ⟨lp,2,none⟩=some (.int .i64 (segs:Int))
theorem take_chunk (l:List Nat)(i:Nat):l.take (48*i-6)++chunk i l=l.take (48*(i+1)-6):=by
 unfold chunk
 have e:48*(i+1)-6=(48*i-6)+(if i=0 then 42 else 48):=by split <;> omega
 rw[e,List.take_add]
theorem read_w (w:World)(U:Own)(t td lp d from_ segs n nxt k rc j0:Nat)(fr:Bool)(vL:Value)(Z:Cont)(F:Nat->Prop)(bodies:List (List UInt8))(hl:Has w U t lp 328 #[ptr d,.int .i64 (from_:Int),.int .i64 (segs:Int),vL,.int .i64 (nxt:Int),.int .i64 (rc:Int),.bool fr])
 (hd:DevAt w U td d n Z F)(ht:t<95/\td<95/\td≠t)(hn:from_+k*8+8<=n)(hn2:n<=2048)(hk:k<segs)(hz:∀ i,i<8->Z (from_+k*8+i)=segOn k j0 bodies i)(hrc:rc=1\/rc=2)
 (hne:bodies≠[])(hu:used bodies<=378)(hj:j0<=100000)(hbs:bodies.length<=1000)(hok:∀ l∈bodies,1<=l.length/\l.length<=300) :
 Calls Tryz.prog 274 #[.pointer (some ⟨lp,0,none⟩),.int .i64 (k:Int)] w fun e w'=>∃ g U',e=.returned (.pointer (some ⟨g,0,none⟩))/\Has w' U' t lp 328 #[ptr d,.int .i64 (from_:Int),.int .i64 (segs:Int),vL,.int .i64 (nxt:Int),.int .i64 2,.bool fr] /\
  SegAt w' U' (t+96*(k+3)) (t+192) g k none j0 bodies/\DevAt w' U' td d n Z F/\Chg (fun x=>x=t\/x=t+96*(k+3)) w U w' U':=by
 obtain⟨g,hg⟩:∃ g,g=w.heap.size:=⟨_,rfl⟩;obtain⟨tg,htg⟩:∃ tg,tg=t+96*(k+3):=⟨_,rfl⟩;obtain⟨lb,hlb⟩:∃ l,l=segB none j0 bodies:=⟨_,rfl⟩;obtain⟨u,hud⟩:∃ u,u=used bodies:=⟨_,rfl⟩
 have hll:lb.length=u:=by rw[hlb,segB_len,hud]
 have hlt:∀ x∈lb,x<256:=by rw[hlb];exact segB_lt _ _ _
 have hu0:0<u:=by
  cases bodies with
  | nil=>exact absurd rfl hne
  | cons l ls=>rw[hud,used];omega
 obtain⟨W1,hW1⟩:∃ W,W=w.alloc (.cells #[.int .i64 0,.int .i64 0,.int .i64 0,.slice none 0 0,.slice none 0 0] 353):=⟨_,rfl⟩
 have hch:Chg (fun _=>False) w U W1 (ext U w tg):=by rw[hW1];exact((Chg.refl _ _ _).alloc _).ext tg
 have HB:Hid (MW w U t td lp d from_ segs n nxt g tg rc 0 0 0 fr vL Z F [] none 0 W1 (ext U w tg)):=hid ⟨hl.keep hch id,by rw[hW1,hg];exact⟨Blk.new _ _ _,ext_new (Nat.le_refl _)⟩,Rw.nil _ _ _ _ _,hd.keep hch id,by omega,hch.mono fun _ e=>e.elim⟩
 have HZ:Hid (∀ i,i<8->(tkn u i->SecOk (Z (from_+k*8+i)) k (j0+1) 1 i (chunk i lb)/\0<(chunk i lb).length/\(lb.take (48*i-6)).length=48*i-6)/\(¬ tkn u i->Z (from_+k*8+i)=List.replicate 64 0/\i≠0)):=hid fun i hi=>by
  rw[hz i hi];unfold segOn tkn;rw[<- hlb,<- hud];refine⟨fun h=>?_,fun h=>?_⟩
  ·rw[if_pos h]
   exact⟨sec_ok k (j0+1) 1 i lb hi hlt,by rw[chunk_len,hll];split <;> omega,by rw[List.length_take,hll];omega⟩
  ·rw[if_neg h]
   exact⟨rfl,fun e=>h (.inl e)⟩
 have HN:Hid (from_+k*8+8<=n/\n<=2048/\k<segs/\j0<=100000):=hid ⟨hn,hn2,hk,hj⟩;have HLL:Hid (lb.length=u/\u<=378/\0<u/\∀ x∈lb,x<256):=hid ⟨hll,by rw[hud];exact hu,hu0,hlt⟩;have HRC:Hid (rc=1\/rc=2):=hid hrc;have HFIN:Hid (lb=segB none j0 bodies/\u=used bodies/\tg=t+96*(k+3)/\bodies.length<=1000/\∀ l∈bodies,1<=l.length/\l.length<=300):=hid ⟨hlb,hud,htg,hbs,hok⟩;have HW:=hid hW1;have HG:=hid hg;have HT:Hid (t<95/\td<95/\td≠t/\tg%96=t/\tg≠t):=hid (by omega);clear hl hd hz hW1 hg hch hn hn2 hk hj hll hlt hu0 hlb hud hu hbs hok hne hrc htg ht;go_enter Tryz.func274,Tryz.ntmps274
 go_wp2
 rw[<- HW.out,<- HG.out]
 go_loopw [6,12] (fun a b wr=>∃ (i:Nat) (wh:Bool) (U4:Own) (B:Option Addr) (c:Nat),i<=8/\a=.bool wh/\b=.int .i64 i/\wh=decide (i=0\/tkn u (i-1))/\MW w U t td lp d from_ segs n nxt g tg (if i=0 then rc else 2) (if i=0 then 0 else k+1) (if i=0 then 0 else j0+1) (if i=0 then 0 else 1) fr vL Z F (lb.take (48*i-6)) B c wr U4) (fun _ b _=>8-(intOf b).toNat)
 case atStart=>exact⟨0,true,_,none,0,Nat.zero_le _,rfl,rfl,rfl,HB.out⟩
 case round=>
  obtain⟨i,wh,U4,B,c,hi,rfl,rfl,hwh,hb⟩:=hrel;clear HB;have HB:=hid hb;have HWH:=hid hwh;clear hb hwh
  by_cases hlt:i<8
  ·have k1:(i:Int)<8:=by omega
   have k2:(0:Int)<=(i:Int):=by omega
   have hnn:=HN.out;have HXN:Hid (from_+k*8+i<n):=hid (by omega);have x1:IntKind.i64.wrap ((k:Int)*8)=(k:Int)*8:=IntWalk.i64_in _ ⟨by omega,by omega⟩;have x2:IntKind.i64.wrap ((from_:Int)+(k:Int)*8)=(from_:Int)+(k:Int)*8:=IntWalk.i64_in _ ⟨by omega,by omega⟩
   have x3:IntKind.i64.wrap ((from_:Int)+(k:Int)*8+(i:Int))=((from_+k*8+i:Nat):Int):=by rw[IntWalk.i64_in _ ⟨by omega,by omega⟩];omega
   obtain⟨q,hq⟩:∃ q,q=if i=0 then rc else 2:=⟨_,rfl⟩
   obtain⟨x,hx⟩:∃ x,x=Z (from_+k*8+i):=⟨_,rfl⟩
   obtain⟨r,hr1,hr2⟩:∃ r:Nat,(∀ W b cc,Sl W (some ⟨b,0,none⟩) (bv x)->Calls Tryz.prog 295 #[.slice (some ⟨b,10,none⟩) 4 cc] W fun e w'=>e=.returned (.int .u64 (r:Int))/\W=w')/\r=if tkn u i then 1 else 0:=by
    have hz:=HZ.out i hlt
    by_cases h:tkn u i
    ·refine⟨1,fun W b cc hs=>get_part W b 10 4 cc 1 x hs ?_ (by decide) (by decide),by rw[if_pos h]⟩
     rw[hx];exact(hz.1 h).1.run
    ·refine⟨0,fun W b cc hs=>?_,by rw[if_neg h]⟩
     rw[hx,(hz.2 h).1]at hs;exact get_zero W b 10 4 cc hs (by decide) (by decide)
   have HGR:=hid hr1;have HX:=hid hx;obtain⟨q2,hq2⟩:∃ q2,q2=max q (r+1):=⟨_,rfl⟩
   have HQ:Hid (q2=2):=hid (by
    rw[hq2,hq,hr2];have:=HRC.out
    by_cases h0:i=0
    ·rw[if_pos h0,if_pos (show tkn u i from .inl h0)];omega
    ·rw[if_neg h0];split <;> omega)
   have hr9:r<=1:=by rw[hr2];split <;> omega
   have hq9:1<=q/\q<=2:=by rw[hq];have:=HRC.out;split <;> omega
   have hcmp:(r+1<=q/\q2=q)\/(¬ r+1<=q/\q2=r+1):=by omega
   have HBq:Hid (MW w U t td lp d from_ segs n nxt g tg q (if i=0 then 0 else k+1) (if i=0 then 0 else j0+1) (if i=0 then 0 else 1) fr vL Z F (lb.take (48*i-6)) B c wr U4):=hid (by rw[hq];exact HB.out);clear hnn hr1 hx hq2 hq HB hr2;have jw:IntKind.i64.wrap (r:Int)=(r:Int):=IntWalk.i64_in _ ⟨by omega,by omega⟩;have jw2:IntKind.i64.wrap ((r:Int)+1)=(r:Int)+1:=IntWalk.i64_in _ ⟨by omega,by omega⟩;obtain⟨qi,hqi,hcmp2⟩:∃ qi:Int,((q2:Nat):Int)=qi/\(((r:Int)+1<=(q:Int)/\qi=(q:Int))\/(¬ ((r:Int)+1<=(q:Int))/\qi=(r:Int)+1)):=⟨_,rfl,by omega⟩;have HQI:=hid hqi;clear hqi hcmp hq9 hr9
   rcases hcmp2 with ⟨jc,rfl⟩|⟨jc,rfl⟩
   all_goals (
    go_wp2_with fail
    have HB0:=hid (HBq.out.drewN 1);have S0:Hid (RdS lp d from_ q wr.drew):=hid ⟨HB0.out.hl.cell 0,HB0.out.hl.cell 1,HB0.out.hl.cell 5⟩;refine wp_region_hl [13] [0,1,2,3,4,5,6,7,8,9,10,11,12,13,14,15,16,17] (RdS lp d from_ q) (by kernel_rfl) (by kernel_rfl) S0.out ?_
    iterate 13 (refine hd_take (v:=?_) rfl rfl (by kernel_rfl) (fun W hW=>?_) ?_;rotate_left;(obtain⟨r0,r1,r2⟩:=hW;first|(go_simp;done)|(go_simp;with_reducible rfl)))
    refine hd_loud rfl rfl fun K hK=>?_;go_simp;refine(read_any _ _ td d n Z F HB0.out.hd (from_+k*8+i) HXN.out).mono ?_;rintro e w1 ⟨v,rfl,l4,l5⟩;rw[<- HX.out]at l4;obtain⟨bx,cx,rfl,-,h6⟩:=l4.form (by decide);have hle:=(l4.lt bx rfl).1;have hmr:=HB0.out.quiet (Chg.of_below l5 95);obtain⟨A,cc,e,hcx,-,-,hsx,-⟩:=(Rw.of_new l4 (Nat.le_refl _) U4 95).slice
    cases e
    have hxo:ext U4 (wr.drewN 1) 95 bx=95:=ext_new hle;have HXB:Hid (bx≠g/\bx≠lp/\ext U4 (wr.drewN 1) 95 bx≠tg/\bx<w1.heap.size/\64<=cx):=hid ⟨by have:=HB0.out.hg.lt;rintro rfl;omega,by have:=HB0.out.hl.lt;rintro rfl;omega,by rw[hxo];have:=HT.out;omega,h6,hcx⟩;refine hK _ _ ⟨hmr.hl.cell 0,hmr.hl.cell 1,hmr.hl.cell 5⟩ ?_;clear hK l4 l5
    iterate 4 (refine hd_take (v:=?_) rfl rfl (by kernel_rfl) (fun W hW=>?_) ?_;rotate_left;(obtain⟨r0,r1,r2⟩:=hW;first|(go_simp;done)|(go_simp;with_reducible rfl)))
    refine hd_end ?_;simp only[zqa,zqb,zqc,zqd,Nat.zero_add,Nat.reduceAdd];clear HBq HB0 x1 x2 x3 S0
    have j1:(64:Int)<=(cx:Int):=by omega
    have j2:cx≠10:=by omega
    have j3:(14:Int)<=(cx:Int):=by omega
    have j4:(10:Int)<=(cx:Int):=by omega
    have HM1:=hid (And.intro (show Sl (w1.drewN 1) (some ⟨bx,0,none⟩) (bv x) from hsx) (hmr.drewN 1));have S1:Hid (RdS lp d from_ q w1.drew):=hid ⟨HM1.out.2.hl.cell 0,HM1.out.2.hl.cell 1,HM1.out.2.hl.cell 5⟩;clear hsx hmr hle hcx h6 hxo;generalize ext U4 (wr.drewN 1) 95=U5 at *
    go_wp2_with fail
    refine wp_region_hl [7,10] [0,1,2,3,4,5,6,7,8,9,10] (RdS lp d from_ q) (by kernel_rfl) (by kernel_rfl) S1.out ?_
    iterate 7 (refine hd_take (v:=?_) rfl rfl (by kernel_rfl) (fun W hW=>?_) ?_;rotate_left;(obtain⟨r0,r1,r2⟩:=hW;first|(go_simp;done)|(go_simp;with_reducible rfl)))
    refine hd_loud rfl rfl fun K hK=>?_;go_simp;refine(HGR.out _ bx _ HM1.out.1).mono ?_;rintro e w2 ⟨rfl,rfl⟩;refine hK _ _ S1.out ?_;clear hK
    iterate 2 (refine hd_take (v:=?_) rfl rfl (by kernel_rfl) (fun W hW=>?_) ?_;rotate_left;(obtain⟨r0,r1,r2⟩:=hW;first|(go_simp;done)|(go_simp;with_reducible rfl)))
    refine hd_loud rfl rfl fun K hK=>?_;go_simp;refine hK _ _ S1.out (hd_end ?_);clear hK;simp only[zqa,zqb,zqc,zqd,Nat.zero_add,Nat.reduceAdd];have hf:=HM1.out.2.hl.frozen 5;have hc3:=HM1.out.2.hl.cell 5;have HM2:=hid (And.intro (HM1.out.1.set_ (p:=⟨lp,5,none⟩) (by rintro a ha;cases ha;exact HXB.out.2.1) (.int .i64 ((q2:Nat):Int))) (HM1.out.2.set5 q2));rw[HQI.out]at HM2;have HSZ:Hid ((World.setCell (w1.drewN 1) ⟨lp,5,none⟩ (.int .i64 ((q2:Nat):Int))).heap.size=w1.heap.size):=hid (by simp[World.setCell]);rw[HQI.out]at HSZ;clear HM1 S1
    by_cases ht1:tkn u i
    ·have hz:=(HZ.out i hlt).1 ht1
     rw[<- HX.out]at hz
     have hwt:wh=true:=by rw[HWH.out,decide_eq_true_eq];unfold tkn at *;omega
     subst hwt
     go_wp2_with fail
     clear hf hc3;generalize World.setCell (w1.drewN 1) _ _=wx at HM2 HSZ ⊢;have hnn:=HN.out;refine(take_yes wx U5 tg g bx cx i k (j0+1) 1 (if i=0 then 0 else k+1) (if i=0 then 0 else j0+1) (if i=0 then 0 else 1) c x (chunk i lb) (lb.take (48*i-6)) B (.slice none 0 0) hz.1 hlt HXB.out.2.2.2.2 hz.2.1 (by rw[chunk_len];omega) (by omega) (by omega) (by decide) (by split <;> omega) (fun h=>if_neg h) (by split <;> omega) HXB.out.1 HXB.out.2.2.1 (by have:=HXB.out.2.2.2.1;have h9:=HM2.out.2.hg.lt;have h8:=HSZ.out;omega) hz.2.2 (fun y hy=>HLL.out.2.2.2 y (List.mem_of_mem_take hy)) HM2.out.2.hg HM2.out.2.hb HM2.out.1).mono ?_;rintro e w5 ⟨rfl,U6,B6,c6,hg6,hb6,hc6⟩;have hm3:=HM2.out.2.take hg6 hb6 hc6
     have hbb:(if i=0 then j0+1 else if i=0 then 0 else j0+1)=j0+1:=by split <;> rfl
     rw[take_chunk,HQ.out,hbb]at hm3;have HM3:=hid hm3;clear hm3 hg6 hb6 hc6 HM2 hbb hnn hz
     go_wp2
     go_roundw
     case rel=>exact⟨i+1,true,U6,B6,c6,by omega,rfl,by go_num,by rw[eq_comm,decide_eq_true_eq];exact .inr ht1,by rw[if_neg (Nat.succ_ne_zero i),if_neg (Nat.succ_ne_zero i),if_neg (Nat.succ_ne_zero i),if_neg (Nat.succ_ne_zero i)];exact HM3.out⟩
     case measure=>simp[intOf];omega
    ·obtain⟨hz,hi0⟩:=(HZ.out i hlt).2 ht1
     rw[<- HX.out]at hz
     have hde2:((i:Int) == 0)=false:=by rw[beq_eq_false_iff_ne];omega
     have hde3:¬ ((i:Int)=0):=by omega
     have HTK:Hid (lb.take (48*i-6)=lb.take (48*(i+1)-6)):=hid (by
      have h1:=HLL.out.1;unfold tkn at ht1
      rw[List.take_of_length_le (by omega),List.take_of_length_le (by omega)])
     have HRL:Hid (∀ W U9 B9 c9,MW w U t td lp d from_ segs n nxt g tg q2 (if i=0 then 0 else k+1) (if i=0 then 0 else j0+1) (if i=0 then 0 else 1) fr vL Z F (lb.take (48*i-6)) B9 c9 W U9->MW w U t td lp d from_ segs n nxt g tg (if i+1=0 then rc else 2) (if i+1=0 then 0 else k+1) (if i+1=0 then 0 else j0+1) (if i+1=0 then 0 else 1) fr vL Z F (lb.take (48*(i+1)-6)) B9 c9 W U9):=hid fun W U9 B9 c9 h=>by
      rw[if_neg hi0,if_neg hi0,if_neg hi0,HQ.out,HTK.out]at h;rw[if_neg (Nat.succ_ne_zero i),if_neg (Nat.succ_ne_zero i),if_neg (Nat.succ_ne_zero i),if_neg (Nat.succ_ne_zero i)];exact h
     have HF1:Hid (false=decide (i+1=0\/tkn u (i+1-1))):=hid (by rw[eq_comm,decide_eq_false_iff_not];rintro(h|h);omega;exact ht1 h)
     by_cases hp:tkn u (i-1)
     ·have hwt:wh=true:=by rw[HWH.out,decide_eq_true_eq];exact .inr hp
      subst hwt
      go_wp2_with fail
      clear hf hc3;generalize World.setCell (w1.drewN 1) _ _=wx at HM2 ⊢;have hsx:=HM2.out.1;rw[hz]at hsx;refine(take_zi wx g bx i cx hsx (by omega) hlt HXB.out.2.2.2.2).mono ?_;rintro e w5 ⟨rfl,hb5⟩;have HM3:=hid (HM2.out.2.quiet (Chg.same_own hb5));clear HM2 hb5 hsx
      go_wp2
      go_roundw
      case rel=>exact⟨i+1,false,U5,B,c,by omega,rfl,by go_num,HF1.out,HRL.out _ _ _ _ HM3.out⟩
      case measure=>simp[intOf];omega
     ·have hwf:wh=false:=by rw[HWH.out,decide_eq_false_iff_not];rintro(h|h);exact hi0 h;exact hp h
      subst hwf
      go_wp2
      go_roundw
      case rel=>exact⟨i+1,false,U5,B,c,by omega,rfl,by go_num,HF1.out,HRL.out _ _ _ _ HM2.out.2⟩
      case measure=>simp[intOf];omega)
  ·obtain rfl:i=8:=by omega
   have hm:=HB.out;simp only[show ¬ (8=0) by decide,if_false]at hm;rw[List.take_of_length_le (by have:=HLL.out;omega)]at hm;have HM:=hid hm;have HMn:=hid (hm.drewN);have c1:wr.cell? ⟨g,0,none⟩=some (.int .i64 ((k+1:Nat):Int)):=hm.hg.cell 0;have c2:wr.cell? ⟨lp,2,none⟩=some (.int .i64 (segs:Int)):=hm.hl.cell 2;have hnn:=HN.out
   have k1:(1:Int)<=(k:Int)+1:=by omega
   have kw:IntKind.i64.wrap (k:Int)=(k:Int):=IntWalk.i64_in _ ⟨by omega,by omega⟩
   have kz:¬ (segs=0):=by omega
   have k2:(((k+1:Nat):Int)-1)%(segs:Int)=(k:Int):=by rw[show((k+1:Nat):Int)-1=(k:Int) by omega];exact Int.emod_eq_of_lt (by omega) (by omega)
   have k3:¬ ((segs:Int)=0):=by omega
   have k4:IntKind.i64.wrap (((k+1:Nat):Int)-1)=(k:Int):=by rw[IntWalk.i64_in _ ⟨by omega,by omega⟩];omega
   have k5:(k:Int)%(segs:Int)=(k:Int):=Int.emod_eq_of_lt (by omega) (by omega)
   have k6:(0:Int)<=(k:Int):=by omega
   have k7:(k:Int)<=4096:=by omega
   have k8:(segs:Int)<=100000\/True:=.inr trivial;clear hm HB hnn k8
   go_wp2_with fail
   have S14:Hid (RdT lp g (k+1) segs wr.drew):=hid ⟨c1,c2⟩;refine wp_region_hl [] [0,1,2,3,4,5,6,7,8,9,10,11,12,13,14,15,16] (RdT lp g (k+1) segs) (by kernel_rfl) (by kernel_rfl) S14.out ?_
   iterate 4 (refine hd_take (v:=?_) rfl rfl (by kernel_rfl) (fun W hW=>?_) ?_;rotate_left;(obtain⟨r0,r1⟩:=hW;first|(go_simp;done)|(go_simp;with_reducible rfl)))
   refine hd_take (v:=.bool false) rfl rfl (by kernel_rfl) (fun W hW=>by obtain⟨r0,r1⟩:=hW;go_simp) ?_
   iterate 5 (refine hd_take (v:=?_) rfl rfl (by kernel_rfl) (fun W hW=>?_) ?_;rotate_left;(obtain⟨r0,r1⟩:=hW;first|(go_simp;done)|(go_simp;with_reducible rfl)))
   iterate 7 (refine hd_take (v:=?_) rfl rfl (by kernel_rfl) (fun W hW=>?_) ?_;rotate_left;(obtain⟨r0,r1⟩:=hW;first|(go_simp;done)|(go_simp;with_reducible rfl)))
   refine hd_end ?_;simp only[zqa,zqb,zqc,zqd,Nat.zero_add,Nat.reduceAdd];have hm:=HMn.out 1;have hf:=HFIN.out;rw[hf.1]at hm;have hg9:=hm.hg;have hb9:=hm.hb;rw[segB_len]at hg9 hb9;have hj:=HN.out.2.2.2;have HREC:=hid (rec297 (wr.drewN 1) U4 tg (t+192) g k 1 j0 c none B bodies (by omega) (by rw[<- hf.2.1];exact HLL.out.2.1) hj hf.2.2.2.1 hf.2.2.2.2 hg9 hb9);have HMO:=hid hm;clear hm hf hj S14 c1 c2 hg9 hb9
   go_wp2_with fail
   refine HREC.out.mono ?_;rintro e w5 ⟨⟨v,rfl⟩,U6,hsg,hc6⟩;have HF:=hid (And.intro hsg hc6);clear hsg hc6 HREC
   go_wp2
   go_ret;have hm:=HMO.out;have ht:=HT.out;have hx:=HFIN.out.2.2.1;obtain⟨f1,f2⟩:=HF.out;rw[hx]at f1;exact⟨g,U6,rfl,hm.hl.keep f2 (Ne.symm ht.2.2.2.2),f1,hm.hd.keep f2 (by omega),(hm.hc.trans (f2.mono fun x e=>.inr e)).mono fun x e=>by rw[<- hx];exact e⟩
def CpS (a b x y:Nat)(W:World):Prop:=W.cell? ⟨a,0,none⟩=some (.int .i64 (x:Int))/\W.cell? ⟨b,0,none⟩=some (.int .i64 (y:Int))
theorem cmp276 (w:World)(a b x y:Nat)(h1:w.cell? ⟨a,0,none⟩=some (.int .i64 (x:Int)))(h2:w.cell? ⟨b,0,none⟩=some (.int .i64 (y:Int)))(hlt:y<x)(hs:x<=100000) :
 Calls Tryz.prog 276 #[.pointer (some ⟨a,0,none⟩),.pointer (some ⟨b,0,none⟩)] w fun e w'=>e=.returned (.int .i64 1)/\w'=w.drew:=by
 have S0:Hid (CpS a b x y w.drew):=hid ⟨h1,h2⟩;have x1:IntKind.i64.wrap ((x:Int)-(y:Int))=(x:Int)-(y:Int):=IntWalk.i64_in _ ⟨by omega,by omega⟩
 have x2:(-1:Int)<=(x:Int)-(y:Int):=by omega
 have x3:(1:Int)<=(x:Int)-(y:Int):=by omega
 clear h1 h2;go_enter Tryz.func276,Tryz.ntmps276
 go_wp2_with fail
 refine wp_region_hl [] [0,1,2,3,4,5,6,7] (CpS a b x y) (by kernel_rfl) (by kernel_rfl) S0.out ?_
 iterate 8 (refine hd_take (v:=?_) rfl rfl (by kernel_rfl) (fun W hW=>?_) ?_;rotate_left;(obtain⟨r0,r1⟩:=hW;first|(go_simp;done)|(go_simp;with_reducible rfl)))
 refine hd_end ?_;simp only[zqa,zqb,zqc,zqd,Nat.zero_add,Nat.reduceAdd]
 go_wp2
 all_goals
  go_ret;exact⟨by first|rfl|exact congrArg (fun z=>Ending.returned (Value.int IntKind.i64 z)) (by omega),rfl⟩
def InS (b o1 o2:Nat)(q1 q2:Value)(W:World):Prop:=W.cell? ⟨b,o1,none⟩=some q1/\W.cell? ⟨b,o2,none⟩=some q2
theorem ins316 (w:World)(A:Option Addr)(n c:Nat)(xs:List Value)(hs:Sl w A xs)(hn:xs.length=n)(hm:n<=1000)
 (hF:∀ m i (h:i+1<xs.length),Calls Tryz.prog 276 #[xs[i+1],xs[i]] (w.drewN m) fun e w'=>e=.returned (.int .i64 1)/\∃ m',w'=w.drewN m') :
 Calls Tryz.prog 316 #[.slice A n c,.int .i64 0,.int .i64 (n:Int),.func (.func 276) #[] #[]] w fun e w'=>(∃ v,e=.returned v)/\∃ m,w'=w.drewN m:=by
 have HS:=hid hs;have HF:=hid hF;clear hs hF;go_enter Tryz.func316,Tryz.ntmps316
 go_wp2
 go_loopw [8] (fun i wr=>∃ k m:Nat,k<=n+1/\1<=k/\i=.int .i64 k/\wr=w.drewN m) (fun i _=>n+1-(intOf i).toNat)
 case atStart=>exact⟨1,0,by omega,Nat.le_refl _,rfl,rfl⟩
 case round=>
  obtain⟨k,m,hk,hk1,rfl,rfl⟩:=hrel
  by_cases hlt:k<n
  ·have k1:(k:Int)<(n:Int):=by omega
   have k2:(0:Int)<(k:Int):=by omega
   have k3:(0:Int)<=(k:Int):=by omega
   obtain⟨j,rfl⟩:∃ j,k=j+1:=⟨k-1,by omega⟩;obtain⟨b,off,rfl,hcs⟩:=HS.out (by intro e;subst e;simp at hn;omega);have hc1:(w.drewN m).cell? ⟨b,off+(j+1),none⟩=some xs[j+1]:=hcs (j+1) _ (List.getElem?_eq_getElem (by omega));have hc2:(w.drewN m).cell? ⟨b,off+j,none⟩=some xs[j]:=hcs j _ (List.getElem?_eq_getElem (by omega));clear hcs;have HQ:=hid (HF.out (m+1) j (by omega));generalize xs[j+1]=q1 at *;generalize xs[j]=q2 at *;obtain⟨k',hk'⟩:∃ k',k'=j+1:=⟨_,rfl⟩
   have e1:((k':Nat):Int)-1=(j:Int):=by omega
   have e2:(0:Int)<=(j:Int):=by omega
   have e3:(j:Int)<(n:Int):=by omega
   have e4:IntKind.i64.wrap ((k':Nat):Int)=((k':Nat):Int):=IntWalk.i64_in _ ⟨by omega,by omega⟩;rw[<- hk']at hc1 k1 k2 k3 ⊢;have HK:=hid hk';clear hk'
   go_wp2_with fail
   go_loopw [9] (fun i wr=>i=.int .i64 (k':Int)/\wr=w.drewN m) (fun _ _=>0)
   case atStart=>exact⟨rfl,rfl⟩
   case round=>
    obtain⟨rfl,rfl⟩:=hrel;have S4:Hid (InS b (off+k') (off+j) q1 q2 (w.drewN m).drew):=hid ⟨hc1,hc2⟩
    have e5:((k':Nat):Int).toNat=k':=by omega
    have e6:((j:Nat):Int).toNat=j:=by omega
    have e7:0<k':=by omega
    have e8:IntKind.i64.wrap ((j:Nat):Int)=(j:Int):=IntWalk.i64_in _ ⟨by omega,by omega⟩;clear hc1 hc2
    go_wp2_with fail
    refine wp_region_hl [] [0,1,2,3,4,5,6,7,8,9,10,11,12,13] (InS b (off+k') (off+j) q1 q2) (by kernel_rfl) (by kernel_rfl) S4.out ?_
    iterate 2 (refine hd_take (v:=?_) rfl rfl (by kernel_rfl) (fun W hW=>?_) ?_;rotate_left;(obtain⟨r0,r1⟩:=hW;first|(go_simp;done)|(go_simp;with_reducible rfl)))
    refine hd_take (v:=.bool true) rfl rfl (by kernel_rfl) (fun W hW=>by obtain⟨r0,r1⟩:=hW;go_simp) ?_
    iterate 11 (refine hd_take (v:=?_) rfl rfl (by kernel_rfl) (fun W hW=>?_) ?_;rotate_left;(obtain⟨r0,r1⟩:=hW;first|(go_simp;done)|(go_simp;with_reducible rfl)))
    refine hd_end ?_;simp only[zqa,zqb,zqc,zqd,Nat.zero_add,Nat.reduceAdd]
    go_wp2_with fail
    refine HQ.out.mono ?_;rintro e w1 ⟨rfl,m',rfl⟩;have HK2:Hid ((k':Int)+1=((k'+1:Nat):Int)/\k'<n):=hid ⟨by omega,by omega⟩;clear HQ S4
    go_wp2
    go_roundw
    case rel=>exact⟨k'+1,m',by have:=HK2.out.2;omega,by omega,by go_num,rfl⟩
    case measure=>simp[intOf];have:=HK2.out.2;omega
  ·have k1:¬ ((k:Int)<(n:Int)):=by omega
   go_wp2
   refine bodyPost_end (by first|rfl|(simp[results];rfl)) rfl ?_;exact⟨⟨_,rfl⟩,m,rfl⟩
theorem len289 (w:World)(n:Nat)(hn:n<=12):Calls Tryz.prog 289 #[.int .u64 (n:Int)] w fun e w'=>(∃ v:Int,e=.returned (.int .i64 v))/\w'=w:=by
 have h:n=0\/n=1\/n=2\/n=3\/n=4\/n=5\/n=6\/n=7\/n=8\/n=9\/n=10\/n=11\/n=12:=by omega
 rcases h with rfl|rfl|rfl|rfl|rfl|rfl|rfl|rfl|rfl|rfl|rfl|rfl|rfl
 all_goals
  go_enter Tryz.func289,Tryz.ntmps289
  go_wp2
  go_ret;exact⟨⟨_,rfl⟩,rfl⟩
theorem len262 (w:World)(n:Nat)(hn:n<=12):Calls Tryz.prog 262 #[.int .u64 (n:Int)] w fun e w'=>(∃ v:Int,e=.returned (.int .i64 v))/\w'=w:=by
 have H:=hid (len289 w n hn);go_enter Tryz.func262,Tryz.ntmps262
 go_wp2_with fail
 refine H.out.mono ?_;rintro e w1 ⟨⟨v,rfl⟩,rfl⟩
 go_wp2
 go_ret;exact⟨⟨v,rfl⟩,rfl⟩
theorem pdq298 (w:World)(A:Option Addr)(n c:Nat)(L:Int)(xs:List Value)(hs:Sl w A xs)(hn:xs.length=n)(hm:n<=12)
 (hF:∀ m i (h:i+1<xs.length),Calls Tryz.prog 276 #[xs[i+1],xs[i]] (w.drewN m) fun e w'=>e=.returned (.int .i64 1)/\∃ m',w'=w.drewN m') :
 Calls Tryz.prog 298 #[.slice A n c,.int .i64 0,.int .i64 (n:Int),.int .i64 L,.func (.func 276) #[] #[]] w fun e w'=>(∃ v,e=.returned v)/\∃ m,w'=w.drewN m:=by
 have H:=hid (ins316 w A n c xs hs hn (by omega) hF)
 have k1:(n:Int)<=12:=by omega
 have k0:(0:Int)<=(n:Int):=by omega
 clear hs hF hn;go_enter Tryz.func298,Tryz.ntmps298
 go_wp2
 go_loopw [1,2,3] (fun a b c wr=>a=.int .i64 0/\b=.int .i64 (n:Int)/\c=.int .i64 L/\wr=w) (fun _ _ _ _=>0)
 case atStart=>exact⟨rfl,rfl,rfl,rfl⟩
 case round=>
  obtain⟨rfl,rfl,rfl,rfl⟩:=hrel
  go_wp2_with fail
  refine H.out.mono ?_;rintro e w1 ⟨⟨v,rfl⟩,m,rfl⟩
  go_wp2
  refine bodyPost_ret (by first|exact results_none rfl _ _ _|exact Great.results_none rfl _ _ _|rfl) rfl ?_;exact⟨⟨_,rfl⟩,m,rfl⟩
theorem sort275 (w:World)(A:Option Addr)(n c:Nat)(xs:List Value)(hs:Sl w A xs)(hn:xs.length=n)(hm:n<=12)
 (hF:∀ m i (h:i+1<xs.length),Calls Tryz.prog 276 #[xs[i+1],xs[i]] (w.drewN m) fun e w'=>e=.returned (.int .i64 1)/\∃ m',w'=w.drewN m') :
 Calls Tryz.prog 275 #[.slice A n c,.func (.func 276) #[] #[]] w fun e w'=>(∃ v,e=.returned v)/\∃ m,w'=w.drewN m:=by
 have H:=hid fun L=>pdq298 w A n c L xs hs hn hm hF;have H2:=hid (len262 w n hm)
 have k1:(n:Int)<=12:=by omega
 have k0:(0:Int)<=(n:Int):=by omega
 clear hs hF hn;go_enter Tryz.func275,Tryz.ntmps275
 go_wp2_with fail
 refine H2.out.mono ?_;rintro e w1 ⟨⟨L,rfl⟩,rfl⟩
 go_wp2_with fail
 refine(H.out L).mono ?_;rintro e w1 ⟨⟨v,rfl⟩,m,rfl⟩
 go_wp2
 refine bodyPost_end (by first|rfl|(simp[results];rfl)) rfl ?_;exact⟨⟨_,rfl⟩,m,rfl⟩
def C7S (gx vg bl g kx k segs:Nat)(W:World):Prop:=W.cell? ⟨gx,0,none⟩=some (.int .i64 ((kx+1:Nat):Int))/\W.cell? ⟨vg,0,none⟩=some (.pointer (some ⟨g,0,none⟩))/\W.cell? ⟨g,0,none⟩=some (.int .i64 ((k+1:Nat):Int))/\W.cell? ⟨bl,0,none⟩=some (.int .i64 (segs:Int))
theorem open277 (w:World)(gx vg bl g segs kx k:Nat)(h1:w.cell? ⟨gx,0,none⟩=some (.int .i64 ((kx+1:Nat):Int)))(h2:w.cell? ⟨vg,0,none⟩=some (.pointer (some ⟨g,0,none⟩)))(h3:w.cell? ⟨g,0,none⟩=some (.int .i64 ((k+1:Nat):Int)))
 (h4:w.cell? ⟨bl,0,none⟩=some (.int .i64 (segs:Int)))(hk:k<segs)(hs:segs<=1000) :
 Calls Tryz.prog 277 #[.pointer (some ⟨gx,0,none⟩),.pointer (some ⟨vg,0,none⟩),.pointer (some ⟨bl,0,none⟩)] w fun e w'=>e=.returned (.bool false)/\w'=w.drew:=by
 have S0:Hid (C7S gx vg bl g kx k segs w.drew):=hid ⟨h1,h2,h3,h4⟩;have x1:IntKind.i64.wrap ((k:Int)+1-(segs:Int))=(k:Int)+1-(segs:Int):=IntWalk.i64_in _ ⟨by omega,by omega⟩
 have x2:decide ((kx:Int)+1<=(k:Int)+1-(segs:Int))=false:=by rw[decide_eq_false_iff_not];omega
 clear h1 h2 h3 h4;go_enter Tryz.func277,Tryz.ntmps277
 go_wp2_with fail
 refine wp_region_hl [] [0,1,2,3,4,5,6,7,8,9] (C7S gx vg bl g kx k segs) (by kernel_rfl) (by kernel_rfl) S0.out ?_
 iterate 10 (refine hd_take (v:=?_) rfl rfl (by kernel_rfl) (fun W hW=>?_) ?_;rotate_left;(obtain⟨r0,r1,r2,r3⟩:=hW;first|(go_simp;done)|(go_simp;with_reducible rfl)))
 refine hd_end ?_;simp only[zqa,zqb,zqc,zqd,Nat.zero_add,Nat.reduceAdd]
 go_wp2
 go_ret;exact⟨rfl,rfl⟩
theorem idx292b (w:World)(A:Option Addr)(n c:Nat)(xs:List Value)(x1:Value)(x2:Value)(hs:Sl w A xs)(hn:xs.length=n)(hm:n<=1000000)
 (hF:∀ m i (h:i<xs.length),Calls Tryz.prog 277 #[xs[i],x1,x2] (w.drewN m) fun e w'=>e=.returned (.bool false)/\∃ m',w'=w.drewN m') :
 Calls Tryz.prog 292 #[.slice A n c,.func (.func 277) #[] #[x1,x2]] w fun e w'=>e=.returned (.int .i64 (-1))/\∃ m,w'=w.drewN m:=by
 have HS:=hid hs;have HF:=hid hF;clear hs hF;go_enter Tryz.func292,Tryz.ntmps292
 go_wp2
 go_loopw [8] (fun i wr=>∃ k m:Nat,k<=n/\i=.int .i64 k/\wr=w.drewN m) (fun i _=>n-(intOf i).toNat)
 case atStart=>exact⟨0,0,Nat.zero_le _,rfl,rfl⟩
 case round=>
  obtain⟨k,m,hk,rfl,rfl⟩:=hrel
  by_cases hlt:k<n
  ·have k1:(k:Int)<(n:Int):=by omega
   have k2:(0:Int)<=(k:Int):=by omega
   obtain⟨b,off,rfl,hcs⟩:=HS.out (by intro e;subst e;simp at hn;omega);have hc:w.cell? ⟨b,off+k,none⟩=some xs[k]:=hcs k _ (List.getElem?_eq_getElem (by omega));have hc':(w.drewN m).cell? ⟨b,off+k,none⟩=some xs[k]:=hc;clear hcs;have HQ:=hid (HF.out m k (by omega));generalize xs[k]=q at *
   go_wp2_with fail
   refine HQ.out.mono ?_;rintro e w1 ⟨rfl,m',rfl⟩;clear HQ hc hc'
   go_wp2
   go_roundw
   case rel=>exact⟨k+1,m',by omega,by go_num,rfl⟩
   case measure=>simp[intOf];omega
  ·obtain rfl:k=n:=by omega
   go_wp2
   go_ret;exact⟨rfl,m,rfl⟩
theorem del268b (w:World)(A:Option Addr)(n c:Nat)(xs:List Value)(x1:Value)(x2:Value)(hs:Sl w A xs)(hn:xs.length=n)(hm:n<=1000000)
 (hF:∀ m i (h:i<xs.length),Calls Tryz.prog 277 #[xs[i],x1,x2] (w.drewN m) fun e w'=>e=.returned (.bool false)/\∃ m',w'=w.drewN m') :
 Calls Tryz.prog 268 #[.slice A n c,.func (.func 277) #[] #[x1,x2]] w fun e w'=>e=.returned (.slice A n c)/\∃ m,w'=w.drewN m:=by
 have HQ:=hid (idx292b w A n c xs x1 x2 hs hn hm hF);clear hs hF;go_enter Tryz.func268,Tryz.ntmps268
 go_wp2_with fail
 refine HQ.out.mono ?_;rintro e w1 ⟨rfl,m,rfl⟩
 go_wp2
 go_ret;exact⟨rfl,m,rfl⟩
end Go.Proofs.Ytlhekbjidppijaa
