/- Contracts of what TopFall reaches: what each function returns and leaves in memory. Conditions: as named. -/
import Derived.Test.YtlhekbjidppijaaGreatMAR
import Derived.Test.YtlhekbjidppijaaGreatMAS
import Derived.Test.YtlhekbjidppijaaGreatMAZ
set_option linter.unusedVariables false
set_option linter.unusedSimpArgs false
set_option maxRecDepth 20000
set_option maxHeartbeats 8000000
namespace Go.Proofs.Ytlhekbjidppijaa
open Lib (hid)
open Go.RowKit
def SupOn (Z:Cont)(a tn:Nat)(m:MS):Prop:=∃ m0:MS,(m0.b<64/\m0.e<64/\m0.r<64)/\2<=tn/\Z (a+(tn+1)%2)=supB tn (mbytes m)/\Z (a+tn%2)=supB (tn-1) (mbytes m0)
theorem mbytes_len (m:MS):(mbytes m).length=4:=rfl
theorem SupOn.reads {Z:Cont}{a tn:Nat}{m:MS}(h:SupOn Z a tn m)(hm:m.b<64/\m.e<64/\m.r<64)(htn:tn<=1000000):∃ N X,(∀ k,k<2->SupOk (Z (a+k)) (N k) (X k))/\(∀ k,N k<=1000000)/\(∀ k,(X k).length<=40)/\supSt N X 2=(tn,(tn+1)%2,mbytes m):=by
 obtain⟨m0,h0,h2,h3,h4⟩:=h;have s1:=sup_ok tn (mbytes m) (by rw[mbytes_len];decide) (mbytes_lt m hm);have s0:=sup_ok (tn-1) (mbytes m0) (by rw[mbytes_len];decide) (mbytes_lt m0 h0);rw[<- h3]at s1;rw[<- h4]at s0;refine⟨fun k=>if k=(tn+1)%2 then tn else tn-1,fun k=>if k=(tn+1)%2 then mbytes m else mbytes m0,fun k hk=>?_,fun k=>?_,fun k=>?_,?_⟩
 ·by_cases he:k=(tn+1)%2
  ·simp only[he,if_true];exact s1
  ·simp only[he,if_false]
   have:k=tn%2:=by omega
   rw[this];exact s0
 ·dsimp only;split <;> omega
 ·dsimp only;split <;> (rw[mbytes_len];decide)
 ·have hp:tn%2=0\/tn%2=1:=by omega
  rcases hp with hp|hp
  ·have e1:(tn+1)%2=1:=by omega
   have a1:0<tn-1:=by omega
   have a2:tn-1<tn:=by omega
   simp[supSt,e1,a1,a2]
  ·have e1:(tn+1)%2=0:=by omega
   have a1:0<tn:=by omega
   have a2:¬ tn<tn-1:=by omega
   simp[supSt,e1,a1,a2]
theorem open180 (w:World)(U:Own)(tk at_ td d n tn:Nat)(m:MS)(Z:Cont)(F:Nat->Prop)(hD:DevAt w U td d n Z F)(htk:tk+1<95)(htd:td<95/\td≠tk/\td≠tk+1)(hn:n<=2048)(hat:at_+1<n)(hon:SupOn Z at_ tn m)(hok:m.ok=true)(htn:tn<=1000000) :
 Calls Tryz.prog 180 #[.pointer (some ⟨d,0,none⟩),.int .i64 (at_:Int)] w fun e w'=>∃ k U',e=.returned (.tuple #[.pointer (some ⟨k,0,none⟩),.int .i64 0])/\KeeperAt w' U' tk k d at_ tn m/\Chg (fun _=>False) w U w' U':=by
 have hmk:m.b<64/\m.e<64/\m.r<64:=by simp only[MS.ok,Bool.and_eq_true,decide_eq_true_eq]at hok;exact hok.2
 obtain⟨N,X,x1,x2,x3,x4⟩:=hon.reads hmk htn
 have x5:1<=(supSt N X 2).1:=by rw[x4];have:=hon.choose_spec.2.1;show 1<=tn;omega
 have HO:=open122 w U (tk+1) at_ td d n Z F N X hD (by omega) hn hat x1 x2 x3 x5;rw[x4]at HO;replace HO:=hid HO;have HK:=hid (And.intro htk (And.intro hmk hok));clear hD htd hn hat hon htn x1 x2 x3 x4 x5 hok;obtain⟨mb,me,mr,mf⟩:=m;dsimp only at hmk;go_enter Tryz.func180,Tryz.ntmps180
 go_wp2_with fail
 refine HO.out.mono ?_;rintro e w1 ⟨s,y,v,U1,rfl,hy,h1,h2,h3⟩;obtain⟨A,cA,rfl,-,-,-,hsl,hA0,-⟩:=h2.slice;clear HO;obtain⟨kp,hkp⟩:∃ kp,kp=w1.heap.size:=⟨_,rfl⟩;obtain⟨W2,hW2⟩:∃ W,W=w1.alloc (.cells #[ptr s,.int .i64 0,.int .i64 0,.int .i64 0,.bool false] 147):=⟨_,rfl⟩;obtain⟨fb,hfb⟩:∃ fb,fb=W2.heap.size:=⟨_,rfl⟩;obtain⟨W3,hW3⟩:∃ W,W=W2.alloc (.cells #[.int .i64 0] 2):=⟨_,rfl⟩
 have hq2:Chg (fun _=>False) w1 U1 W2 (ext U1 w1 tk):=by rw[hW2];exact((Chg.refl _ _ _).alloc _).ext tk
 have hk2:Has W2 (ext U1 w1 tk) tk kp 147 #[ptr s,.int .i64 0,.int .i64 0,.int .i64 0,.bool false]:=by rw[hW2,hkp];exact⟨Blk.new _ _ _,ext_new (Nat.le_refl _)⟩
 generalize ext U1 w1 tk=U2 at hq2 hk2
 have hq3:Chg (fun _=>False) W2 U2 W3 (ext U2 W2 95):=by rw[hW3];exact((Chg.refl _ _ _).alloc _).ext 95
 have hf3:Has W3 (ext U2 W2 95) 95 fb 2 #[.int .i64 0]:=by rw[hW3,hfb];exact⟨Blk.new _ _ _,ext_new (Nat.le_refl _)⟩
 generalize ext U2 W2 95=U3 at hq3 hf3;have hk3:=hk2.keep hq3 id;have hs3:=(h1.keep hq2 id).keep hq3 id;have hr3:=(h2.keep hq2 id).keep hq3 id;obtain⟨A',cA',e',-,-,-,hsl3,-⟩:=hr3.slice
 cases e'
 have HT:=hid (text123 W3 s 4 cA A (mbytes ⟨mb,me,mr,mf⟩) (hs3.cell 3) rfl hsl3 (fun e=>by have:=(hA0 e).1;simp[mbytes]at this) (by decide));have HP:=hid (And.intro hkp (And.intro hW2 (And.intro hfb hW3)));have H3:=hid (And.intro hk3 (And.intro hf3 (And.intro hs3 (h3.trans (hq2.trans hq3)))));have HY:=hid hy;have HSZ:Hid (w.heap.size<=w1.heap.size):=hid h3.size;clear h1 h2 h3 hsl hA0 hkp hW2 hfb hW3 hq2 hk2 hq3 hf3 hk3 hs3 hr3 hsl3 hy
 go_wp2_with (first|rw[<- HP.out.1,<- HP.out.2.1]|rw[<- HP.out.2.2.1,<- HP.out.2.2.2]|fail)
 refine HT.out.mono ?_;rintro e w4 ⟨v4,rfl,ho,hb4⟩;obtain⟨A4,cb,e4,hcb4,hcb9,-⟩:=(Rw.of_new ho (Nat.le_refl _) U3 95).slice;rw[mbytes_eq]at ho;obtain⟨b,cc,hv,hsl4,hge,hlt4⟩:=mtext_row ⟨mb,me,mr,mf⟩ _ _ _ ho HK.out.2.1;rw[hv]at e4
 cases e4
 subst hv;have hcc:4<=cb:=hcb4;have hc4:Chg (fun _=>False) W3 U3 w4 (ext U3 W3 95):=Chg.of_below hb4 95;have HT4:=hid (And.intro hsl4 (And.intro hge (And.intro hlt4 (And.intro hc4 (And.intro hcb9 hcc)))));clear ho hb4 hsl4 hge hlt4 hc4 hcb4 hcb9 HT
 go_wp2_with fail
 refine wp_region_hl [13,14] [0,1,2,3,4,5,6,7,8,9,10,11,12,13,14,15,16,17,18] (fun _=>True) (by kernel_rfl) (by kernel_rfl) trivial ?_
 iterate 13 (refine hd_take (v:=?_) rfl rfl (by kernel_rfl) (fun W hW=>?_) ?_;rotate_left;(first|(go_simp;done)|(go_simp;with_reducible rfl)))
 refine hd_loud rfl rfl fun K hK=>?_;go_simp;refine hK _ _ trivial ?_;clear hK;refine hd_loud rfl rfl fun K hK=>?_;go_simp;generalize hV0:World.drew _=V0;have HKP:Hid (w.heap.size<=kp):=hid (by rw[HP.out.1];exact HSZ.out)
 obtain⟨fz,hfz⟩:∃ fz:Nat,fz=if mf then 1 else 0:=⟨_,rfl⟩
 have hm:=HK.out.2.1
 have hA:Calls Tryz.prog 124 #[.slice (some ⟨b,0,none⟩) 4 cb,.slice (some ⟨w4.heap.size,0,none⟩) 4 4] V0 fun e w'=>∃ UV,e=.returned (.tuple #[.int .i64 4,.int .i64 0])/\Has w' UV tk kp 147 #[ptr s,.int .i64 (mb:Int),.int .i64 (me:Int),.int .i64 (mr:Int),.bool false]/\Has w' UV 95 fb 2 #[.int .i64 (fz:Int)]/\Has w' UV (tk+1) s 238 #[ptr d,.int .i64 (at_:Int),.int .i64 (tn:Int),.slice A 4 cA,.int .i64 (((tn+1)%2:Nat):Int)]/\Chg (fun _=>False) w U w' UV:=by
  have hcV:Chg (fun _=>False) W3 U3 V0 (ext (ext U3 W3 95) w4 95):=by rw[<- hV0];exact(((HT4.out.2.2.2.1).trans (((Chg.refl _ _ _).alloc _).ext 95)).drewN 1)
  have kQ:Has V0 (ext (ext U3 W3 95) w4 95) 95 w4.heap.size 228 #[.pointer (some ⟨kp,1,none⟩),.pointer (some ⟨kp,2,none⟩),.pointer (some ⟨kp,3,none⟩),.pointer (some ⟨fb,0,none⟩)]:=by rw[<- hV0];exact⟨(Blk.new _ _ _).drewN 1,ext_new (Nat.le_refl _)⟩
  have kT:Sl V0 (some ⟨b,0,none⟩) (bv (mbytes ⟨mb,me,mr,mf⟩)):=by rw[<- hV0];exact HT4.out.1.keep (((Below.refl _ _).alloc (Nat.le_refl _) _).drew)
  have kK:=H3.out.1.keep hcV id;have kF:=H3.out.2.1.keep hcV id;have kS:=H3.out.2.2.1.keep hcV id;have l1:=H3.out.1.lt;have l2:=H3.out.2.1.lt;have l3:=HT4.out.2.1;have l4:=HT4.out.2.2.1
  have n1:fb≠kp:=fun e=>by have h1:=H3.out.1.own;have h2:=H3.out.2.1.own;rw[e,h1]at h2;have:=HK.out.1;omega
  have n2:s≠kp:=fun e=>by have h1:=H3.out.1.own;have h2:=H3.out.2.2.1.own;rw[e,h1]at h2;omega
  have n3:s≠fb:=fun e=>by have h1:=H3.out.2.1.own;have h2:=H3.out.2.2.1.own;rw[e,h1]at h2;have:=HK.out.1;omega
  have n4:b≠kp:=by omega
  have n5:b≠fb:=by omega
  have n6:w4.heap.size≠kp:=by omega
  have n7:w4.heap.size≠fb:=by omega
  have hchg:=H3.out.2.2.2.trans hcV
  have lw:w.heap.size<=kp/\w.heap.size<=fb:=by
   refine⟨?_,?_⟩
   ·rw[HP.out.1];exact HSZ.out
   ·rw[HP.out.2.2.1,HP.out.2.1];have:=HSZ.out;simp;omega
  generalize ext (ext U3 W3 95) w4 95=UV at *;have q (p:Addr) (hp:p.block≠b) {V:World} (h:Sl V (some ⟨b,0,none⟩) (bv (mbytes ⟨mb,me,mr,mf⟩))) (u:Value):Sl (V.setCell p u) (some ⟨b,0,none⟩) (bv (mbytes ⟨mb,me,mr,mf⟩)):=h.set_ (by rintro a ha;cases ha;exact fun e=>hp e.symm) u;have K1:=kK.set_ 1 (.int .i64 (mb:Int));have K2:=K1.set_ 2 (.int .i64 (me:Int));have K3:=K2.set_ 3 (.int .i64 (mr:Int));have F1:=kF.far (p:=⟨kp,1,none⟩) n1 (.int .i64 (mb:Int));have F2:=F1.far (p:=⟨kp,2,none⟩) n1 (.int .i64 (me:Int));have F3:=F2.far (p:=⟨kp,3,none⟩) n1 (.int .i64 (mr:Int));have Q1:=kQ.far (p:=⟨kp,1,none⟩) n6 (.int .i64 (mb:Int));have Q2:=Q1.far (p:=⟨kp,2,none⟩) n6 (.int .i64 (me:Int));have Q3:=Q2.far (p:=⟨kp,3,none⟩) n6 (.int .i64 (mr:Int));have T1:=q ⟨kp,1,none⟩ n4.symm kT (.int .i64 (mb:Int));have T2:=q ⟨kp,2,none⟩ n4.symm T1 (.int .i64 (me:Int));have T3:=q ⟨kp,3,none⟩ n4.symm T2 (.int .i64 (mr:Int));refine(all124 V0 b 4 cb w4.heap.size 4 (fun k=>match k with|0=>mb|1=>me|2=>mr|_=>fz) (fun k=>match k with|0=>⟨kp,1,none⟩|1=>⟨kp,2,none⟩|2=>⟨kp,3,none⟩|_=>⟨fb,0,none⟩) (fun k=>match k with|0=>V0|1=>V0.setCell ⟨kp,1,none⟩ (.int .i64 (mb:Int))|2=>(V0.setCell ⟨kp,1,none⟩ (.int .i64 (mb:Int))).setCell ⟨kp,2,none⟩ (.int .i64 (me:Int))|3=>((V0.setCell ⟨kp,1,none⟩ (.int .i64 (mb:Int))).setCell ⟨kp,2,none⟩ (.int .i64 (me:Int))).setCell ⟨kp,3,none⟩ (.int .i64 (mr:Int))|_=>(((V0.setCell ⟨kp,1,none⟩ (.int .i64 (mb:Int))).setCell ⟨kp,2,none⟩ (.int .i64 (me:Int))).setCell ⟨kp,3,none⟩ (.int .i64 (mr:Int))).setCell ⟨fb,0,none⟩ (.int .i64 (fz:Int))) (Nat.le_refl _) HT4.out.2.2.2.2.2 (by decide) (by have:=HT4.out.2.2.2.2.1;unfold maxLen at this;omega) rfl ?_).mono ?_
  ·intro k hk
   obtain rfl|rfl|rfl|rfl:k=0\/k=1\/k=2\/k=3:=by omega
   ·exact⟨hm.1,sl_cell kT 0 _ rfl,kQ.cell 0,⟨0,kK.cell 1⟩,kK.frozen 1,rfl⟩
   ·exact⟨hm.2.1,sl_cell T1 1 _ rfl,Q1.cell 1,⟨0,K1.cell 2⟩,K1.frozen 2,rfl⟩
   ·exact⟨hm.2.2,sl_cell T2 2 _ rfl,Q2.cell 2,⟨0,K2.cell 3⟩,K2.frozen 3,rfl⟩
   ·exact⟨by show fz<64;rw[hfz];split <;> decide,by rw[hfz];exact sl_cell T3 3 _ rfl,Q3.cell 3,⟨0,F3.cell 0⟩,F3.frozen 0,rfl⟩
  ·rintro e w' ⟨rfl,rfl⟩
   refine⟨UV,rfl,?_,F3.set_ 0 (.int .i64 (fz:Int)),(((kS.far (p:=⟨kp,1,none⟩) n2 _).far (p:=⟨kp,2,none⟩) n2 _).far (p:=⟨kp,3,none⟩) n2 _).far (p:=⟨fb,0,none⟩) n3 _,?_⟩
   ·exact K3.far (p:=⟨fb,0,none⟩) n1.symm _
   ·exact(((hchg.setNew (p:=⟨kp,1,none⟩) lw.1 _).setNew (p:=⟨kp,2,none⟩) lw.1 _).setNew (p:=⟨kp,3,none⟩) lw.1 _).setNew (p:=⟨fb,0,none⟩) lw.2 _
 have HFZ:=hid hfz;clear hV0 hfz hm HT4 H3 HP;refine hA.mono ?_;clear hA;rintro e w5 ⟨UV,rfl,k1,k2,k3,k4⟩;refine hK _ _ trivial ?_;clear hK
 iterate 4 (refine hd_take (v:=?_) rfl rfl (by kernel_rfl) (fun W hW=>?_) ?_;rotate_left;(first|(go_simp;done)|(go_simp;with_reducible rfl)))
 refine hd_end ?_;simp only[zqa,zqb,zqc,zqd,Nat.zero_add,Nat.reduceAdd]
 have hz:(mf=true/\fz=1)\/(mf=false/\fz=0):=by rw[HFZ.out];cases mf <;> simp
 have HK6:Hid (∀ W,W=w5.setCell ⟨kp,4,none⟩ (.bool mf)->(∃ U',KeeperAt W U' tk kp d at_ tn ⟨mb,me,mr,mf⟩/\Chg (fun _=>False) w U W U')/\W.cell? ⟨kp,1,none⟩=some (.int .i64 (mb:Int))/\W.cell? ⟨kp,2,none⟩=some (.int .i64 (me:Int))/\W.cell? ⟨kp,3,none⟩=some (.int .i64 (mr:Int))/\W.cell? ⟨kp,4,none⟩=some (.bool mf)):=hid fun W hW=>by
  have k5:=k1.set_ 4 (.bool mf);rw[<- hW]at k5
  have hc5:Chg (· = tk) w5 UV W UV:=by rw[hW];exact(Chg.refl _ _ _).setCell (p:=⟨kp,4,none⟩) k1.own _
  have hle:w.heap.size<=kp:=HKP.out;refine⟨⟨UV,⟨⟨s,by simpa using k5,⟨A,4,cA,k3.keep hc5 (by omega)⟩⟩,HK.out.2.1⟩,by rw[hW];exact k4.setNew (p:=⟨kp,4,none⟩) hle _⟩,k5.cell 1,k5.cell 2,k5.cell 3,k5.cell 4⟩
 have c4:=k1.cell 4;have f4:=k1.frozen 4;have c0:w5.cell? ⟨fb,0,none⟩=some (.int .i64 (fz:Int)):=k2.cell 0;have HOKM:=hid HK.out.2.2;clear HFZ k1 k2 k3 k4 HK hmk
 rcases hz with ⟨rfl,rfl⟩|⟨rfl,rfl⟩
 all_goals (
  go_upto_region 9 with fail
  generalize hW6:World.setCell _ _ _=W6;obtain⟨hkk,e1,e2,e3,e4⟩:=HK6.out W6 hW6.symm;have HF:=hid hkk;clear hkk HK6 hW6 c4 f4 c0;have HMY:=hid (may224 W6 _ HOKM.out);dsimp only at HMY
  go_wp2_with fail
  refine HMY.out.mono ?_;rintro e w7 ⟨rfl,hb7⟩;have HB7:=hid hb7;clear hb7 HMY e1 e2 e3 e4
  go_wp2_with fail
  go_ret2
  obtain⟨U',h1,h2⟩:=HF.out;have hc7:Chg (fun _=>False) W6 U' w7 (ext U' W6 95):=Chg.of_below HB7.out 95
  exact⟨kp,_,rfl,h1.keep hc7 id id,h2.trans hc7⟩)
inductive FRec where
 | entry (k v:ByteArray) (g:Bool)
 | wipe
def FRec.bytes:FRec->List UInt8
 | .entry k v g=>1 :: ibs k v (if g then 1 else 0)
 | .wipe=>[2]
def FRec.ok:FRec->Bool
 | .entry k v g=>itemOk k v g && decide (k.size<64) && decide (v.size<64)
 | .wipe=>true
theorem FRec.ok_len (r:FRec)(h:r.ok=true):1<=r.bytes.length/\r.bytes.length<=200:=by
 cases r with
 | wipe=>simp[FRec.bytes]
 | entry k v g=>
  simp only[FRec.ok,Bool.and_eq_true,decide_eq_true_eq]at h;simp only[FRec.bytes,List.length_cons,ibs_length];omega
structure FQ where
 recs:List FRec
 pl:List Place
 n:Nat
 used:Nat
def FT (tc td x:Nat):Prop:=(tc<=x%96/\x%96<=tc+2)\/x=td
structure FlashR (w:World)(U:Own)(tc c d from_ segs n:Nat)(f:Lf)(Z:Cont)(s:FQ):Prop where
 ex:∃ lp x fr,Has w U tc c 274 #[.pointer (some ⟨lp,0,none⟩),.pointer (some ⟨x,0,none⟩)]/\LogAt w U (tc+2) lp d from_ segs fr f Z (s.recs.map FRec.bytes)/\IndexAt w U (tc+1) x s.pl s.n s.used
 lt:tc+2<95
 ok:∀ r∈s.recs,r.ok=true
 room:from_+segs*8<=n/\n<=2048
 le:s.recs.length<=segs
 pk:PlOk s.pl
section
variable {T : Nat -> Prop} {w w' : World} {U U' : Own} {tc c d from_ segs n : Nat} {f : Lf} {Z : Cont} {s : FQ}
theorem FlashR.keep (h:FlashR w U tc c d from_ segs n f Z s)(hc:Chg T w U w' U')(hT:∀ x,T x->¬ (tc<=x%96/\x%96<=tc+2)):FlashR w' U' tc c d from_ segs n f Z s:=by
 obtain⟨lp,x,fr,h1,h2,h3⟩:=h.ex;have:=h.lt;exact⟨⟨lp,x,fr,h1.keep hc (fun e=>hT _ e (by omega)),h2.keep hc (fun y e he=>hT _ e (by omega)),h3.keep hc (fun e=>hT _ e (by omega))⟩,h.lt,h.ok,h.room,h.le,h.pk⟩
theorem FlashR.quiet (h:FlashR w U tc c d from_ segs n f Z s)(hc:Chg (fun _=>False) w U w' U'):FlashR w' U' tc c d from_ segs n f Z s:=h.keep hc fun _ e=>e.elim
end
theorem read258 (w:World)(b c m:Nat)(k v:ByteArray)(g:Bool)(hok:(FRec.entry k v g).ok=true)(hm:m=(FRec.entry k v g).bytes.length)(hmc:m<=c)(hc:c<=9223372036854775807)
 (hs:Sl w (some ⟨b,0,none⟩) (ub (FRec.entry k v g).bytes)) :
 Calls Tryz.prog 258 #[.slice (some ⟨b,0,none⟩) m c] w fun e w'=>e=.returned (.tuple #[.agg #[.string k,.string v,.int .i64 0,.bool g],.bool true])/\Below w.heap.size w w':=by
 simp only[FRec.ok,Bool.and_eq_true,decide_eq_true_eq]at hok;obtain⟨⟨ho,hk⟩,hv⟩:=hok
 have hlen:(FRec.entry k v g).bytes.length=k.size+v.size+5:=by simp[FRec.bytes,ibs_length]
 rw[hlen]at hm
 have hcell:∀ W,Below w.heap.size w W->∀ j u,(ub (1 :: ibs k v (if g then 1 else 0)))[j]? = some u->W.cell? ⟨b,j,none⟩=some u:=fun W hb j u hu=>by
  obtain⟨b',o',e,hcc⟩:=(hs.keep hb) (by simp[FRec.bytes,ub])
  cases e
  have:=hcc j u hu
  rwa [Nat.zero_add]at this
 have HD:Hid (∀ W,Below w.heap.size w W->Calls Tryz.prog 278 #[.slice (some ⟨b,1,none⟩) (k.size+v.size+4) (c-1)] W fun e w'=>∃ r,e=.returned (.tuple #[r,.int .i64 0])/\w'.ownsRow W.heap.size 178 4 r 1 [.string k,.string v,.int .i64 0,.bool g]/\Below W.heap.size W w'):=hid fun W hb=>
  decode_big W b 1 (c-1) k v g (if g then 1 else 0) rfl ho hk hv (by omega) (by omega) (fun j u hu=>by
   have:=hcell W hb (1+j) u (by simp only[ub,List.map_cons];rw[Nat.add_comm,List.getElem?_cons_succ];exact hu)
   exact this)
 have c0:∀ W,Below w.heap.size w W->W.cell? ⟨b,0,none⟩=some (.int .u8 1):=fun W hb=>hcell W hb 0 _ (by simp[ub]);have HC0:=hid c0;have d0:=c0 (w.alloc (.cells #[.string ⟨#[]⟩,.string ⟨#[]⟩,.int .i64 0,.bool false] 178)) ((Below.refl _ _).alloc (Nat.le_refl _) _);have HB0:Hid (Below w.heap.size w (w.alloc (.cells #[.string ⟨#[]⟩,.string ⟨#[]⟩,.int .i64 0,.bool false] 178))):=hid ((Below.refl _ _).alloc (Nat.le_refl _) _)
 have k9:(c:Int)<=9223372036854775807:=by omega
 have k1:(1:Int)<=(m:Int):=by omega
 have k2:¬ ((m:Int)<1):=by omega
 have k3:decide ((m:Int)<1)=false:=by rw[decide_eq_false_iff_not];exact k2
 have k4:(0:Int)<(m:Int):=by omega
 have k5:(m:Int)<=(c:Int):=by omega
 have k6:c≠1:=by omega
 clear hcell c0 hs hlen;go_enter Tryz.func258,Tryz.ntmps258
 go_wp2_with fail
 have hb:=Blk.new w 178 #[.string ⟨#[]⟩,.string ⟨#[]⟩,.int .i64 0,.bool false];refine(HD.out _ HB0.out).mono ?_;rintro e w1 ⟨r,rfl,ho1,hb1⟩;obtain⟨r0,cr,rfl,hcr,hlt⟩:=ho1.form (by decide);have hr:=ho1.cells (g:=r0) rfl
 have q0:w1.cell? ⟨r0,0,none⟩=some (.string k):=by have:=hr 0 _ rfl;rw[add_none,Nat.zero_add]at this;exact this
 have q1:w1.cell? ⟨r0,1,none⟩=some (.string v):=by have:=hr 1 _ rfl;rw[add_none,Nat.zero_add]at this;exact this
 have q2:w1.cell? ⟨r0,2,none⟩=some (.int .i64 0):=by have:=hr 2 _ rfl;rw[add_none,Nat.zero_add]at this;exact this
 have q3:w1.cell? ⟨r0,3,none⟩=some (.bool g):=by have:=hr 3 _ rfl;rw[add_none,Nat.zero_add]at this;exact this
 have hge:=(ho1.lt r0 rfl).1;have hbk:Blk w1 w.heap.size 178 #[.string ⟨#[]⟩,.string ⟨#[]⟩,.int .i64 0,.bool false]:=(hb1.block _ (by simp)).trans hb
 have hne:r0≠w.heap.size:=by simp at hge;omega
 have HB1:Hid (Below w.heap.size w w1):=hid (HB0.out.trans (hb1.mono HB0.out.size));have s0:w1.cell? ⟨w.heap.size,0,none⟩=some (.string ⟨#[]⟩):=hbk.cell 0;have s1:w1.cell? ⟨w.heap.size,1,none⟩=some (.string ⟨#[]⟩):=hbk.cell 1;have s2:w1.cell? ⟨w.heap.size,2,none⟩=some (.int .i64 0):=hbk.cell 2;have s3:w1.cell? ⟨w.heap.size,3,none⟩=some (.bool false):=hbk.cell 3;have f0:=hbk.frozen 0;have f1:=hbk.frozen 1;have f2:=hbk.frozen 2;have f3:=hbk.frozen 3;have HBK:=hid hbk;clear hr ho1 hb1 hb hbk d0 HD HB0 HC0 hge
 go_wp2
 have hB4:=(((HBK.out.set_ 0 (.string k)).set_ 1 (.string v)).set_ 2 (.int .i64 0)).set_ 3 (.bool g);have hsz:∀ j,w.heap.size<=(⟨w.heap.size,j,none⟩:Addr).block:=fun j=>Nat.le_refl _;have hfin:Below w.heap.size w ((((w1.setCell ⟨w.heap.size,0,none⟩ (.string k)).setCell ⟨w.heap.size,1,none⟩ (.string v)).setCell ⟨w.heap.size,2,none⟩ (.int .i64 0)).setCell ⟨w.heap.size,3,none⟩ (.bool g)):=(((HB1.out.setCell (hsz 0) _).setCell (hsz 1) _).setCell (hsz 2) _).setCell (hsz 3) _;generalize (((w1.setCell ⟨w.heap.size,0,none⟩ (.string k)).setCell ⟨w.heap.size,1,none⟩ (.string v)).setCell ⟨w.heap.size,2,none⟩ (.int .i64 0)).setCell ⟨w.heap.size,3,none⟩ (.bool g)=Wf at hB4 hfin ⊢;have z0:Wf.cell? ⟨w.heap.size,0,none⟩=some (.string k):=hB4.cell 0;have z1:Wf.cell? ⟨w.heap.size,1,none⟩=some (.string v):=hB4.cell 1;have z2:Wf.cell? ⟨w.heap.size,2,none⟩=some (.int .i64 0):=hB4.cell 2;have z3:Wf.cell? ⟨w.heap.size,3,none⟩=some (.bool g):=hB4.cell 3;exact bodyPost_ret (v:=.tuple #[.agg #[.string k,.string v,.int .i64 0,.bool g],.bool true]) (by simp[results,Tryz.results258,go_sem,z0,z1,z2,z3]) rfl ⟨rfl,hfin⟩
def mcs (f:Lf):Nat->List ByteArray->List Value
 | _,[]=>[]
 | b,k :: ks=>.int .i64 ((b+1:Nat):Int) :: .string k :: .int .i64 ((pz f b:Nat):Int) :: mcs f (b+1) ks
theorem mcs_length (f:Lf)(b:Nat)(ks:List ByteArray):(mcs f b ks).length=ks.length*3:=by
 induction ks generalizing b with
 | nil=>rfl
 | cons v l ih=>simp only[mcs,List.length_cons,ih];omega
theorem mcs_snoc (f:Lf)(b:Nat)(ks:List ByteArray)(k:ByteArray):mcs f b (ks++[k])=mcs f b ks++[.int .i64 ((b+ks.length+1:Nat):Int),.string k,.int .i64 ((pz f (b+ks.length):Nat):Int)]:=by
 induction ks generalizing b with
 | nil=>simp[mcs]
 | cons x l ih=>simp only[List.cons_append,mcs,ih,List.length_cons];rw[show b+1+l.length=b+(l.length+1) by omega]
theorem mcs_get (f:Lf)(b:Nat)(ks:List ByteArray)(i:Nat)(h:i<ks.length):(mcs f b ks)[i*3]? = some (.int .i64 ((b+i+1:Nat):Int))/\(mcs f b ks)[i*3+1]? = some (.string ks[i])/\(mcs f b ks)[i*3+2]? = some (.int .i64 ((pz f (b+i):Nat):Int)):=by
 induction ks generalizing b i with
 | nil=>simp at h
 | cons x l ih=>
  cases i with
  | zero=>simp[mcs]
  | succ i=>
   have:=ih (b+1) i (by simpa using h);rw[show(i+1)*3=i*3+1+1+1 by omega];rw[show b+(i+1)=b+1+i by omega];refine⟨?_,?_,?_⟩
   ·simp only[mcs,List.getElem?_cons_succ];exact this.1
   ·rw[show i*3+1+1+1+1=i*3+1+1+1+1 from rfl]
    simp only[mcs,List.getElem?_cons_succ,List.getElem_cons_succ];exact this.2.1
   ·rw[show i*3+1+1+1+2=i*3+2+1+1+1 from rfl]
    simp only[mcs,List.getElem?_cons_succ];exact this.2.2
def mbs:Nat->List ByteArray->List (List UInt8)
 | _,[]=>[]
 | b,k :: ks=>(u8n (b+1) :: k.data.toList) :: mbs (b+1) ks
theorem mbs_length (b:Nat)(ks:List ByteArray):(mbs b ks).length=ks.length:=by
 induction ks generalizing b with
 | nil=>rfl
 | cons v l ih=>simp only[mbs,List.length_cons,ih]
theorem mbs_snoc (b:Nat)(ks:List ByteArray)(k:ByteArray):mbs b (ks++[k])=mbs b ks++[u8n (b+ks.length+1) :: k.data.toList]:=by
 induction ks generalizing b with
 | nil=>simp[mbs]
 | cons x l ih=>simp only[List.cons_append,mbs,ih,List.length_cons];rw[show b+1+l.length=b+(l.length+1) by omega]
theorem mbs_get (b:Nat)(ks:List ByteArray)(i:Nat)(h:i<ks.length):(mbs b ks)[i]? = some (u8n (b+i+1) :: ks[i].data.toList):=by
 induction ks generalizing b i with
 | nil=>simp at h
 | cons x l ih=>
  cases i with
  | zero=>simp[mbs]
  | succ i=>
   have:=ih (b+1) i (by simpa using h);rw[show b+(i+1)=b+1+i by omega]
   simpa [mbs] using this
structure JournalAt (w:World)(U:Own)(tj j d from_ segs n:Nat)(f:Lf)(Z:Cont)(cnt:Nat):Prop where
 ex:∃ (lp:Nat) (fr:Bool) (vM:Value) (keys:List ByteArray),keys.length=cnt/\(∀ k∈keys,0<k.size/\k.size<=40)/\Has w U tj j 299 #[.pointer (some ⟨lp,0,none⟩),vM]/\Rw w U (tj+1) 301 3 vM cnt (mcs f 0 keys)/\LogAt w U (tj+2) lp d from_ segs fr f Z (mbs 0 keys)
 lt:tj+2<95
 room:from_+segs*8<=n/\n<=2048
 le:cnt<=segs
section
variable {T : Nat -> Prop} {w w' : World} {U U' : Own} {tj j d from_ segs n cnt : Nat} {f : Lf} {Z : Cont}
theorem JournalAt.keep (h:JournalAt w U tj j d from_ segs n f Z cnt)(hc:Chg T w U w' U')(hT:∀ x,T x->¬ (tj<=x%96/\x%96<=tj+2)):JournalAt w' U' tj j d from_ segs n f Z cnt:=by
 obtain⟨lp,fr,vM,keys,h1,h2,h3,h4,h5⟩:=h.ex;have:=h.lt;exact⟨⟨lp,fr,vM,keys,h1,h2,h3.keep hc (fun e=>hT _ e (by omega)),h4.keep hc (fun e=>hT _ e (by omega)),h5.keep hc (fun y e he=>hT _ e (by omega))⟩,h.lt,h.room,h.le⟩
end
theorem seq188 (w:World)(U:Own)(f:Lf)(j lp cnt tj:Nat)(vM:Value)(keys:List ByteArray)(hj:w.cell? ⟨j,1,none⟩=some vM)(hR:Rw w U tj 301 3 vM cnt (mcs f 0 keys))(hk:keys.length=cnt)(hm:cnt<=1000) :
 Calls Tryz.prog 188 #[.pointer (some ⟨j,0,none⟩)] w fun e w'=>e=.returned (.int .i64 (cnt:Int))/\∃ m,w'=w.drewN m:=by
 obtain⟨A,c,rfl,-,-,-,hs,hA,-⟩:=hR.slice
 by_cases h0:cnt=0
 ·subst h0
  clear hR hs hA hk;go_enter Tryz.func188,Tryz.ntmps188
  go_wp2
  go_ret;exact⟨rfl,0,rfl⟩
 ·obtain⟨i,rfl⟩:∃ i,cnt=i+1:=⟨cnt-1,by omega⟩
  obtain⟨b,o,rfl,hc⟩:=hs (by intro e;have:=mcs_length f 0 keys;rw[e,hk]at this;simp at this);have c1:w.cell? ⟨b,o+i*3,none⟩=some (.int .i64 ((0+i+1:Nat):Int)):=hc _ _ (mcs_get f 0 keys i (by omega)).1
  have k1:(0:Int)<=(i:Int):=by omega
  have k2:(i:Int)<(i:Int)+1:=by omega
  have k3:(i:Int)<=1000:=by omega
  have k4:¬ ((i:Int)+1=0):=by omega
  have k5:((i:Int)+1 == 0)=false:=by rw[beq_eq_false_iff_ne];exact k4
  have HE:Hid ((0+i+1:Nat)=i+1):=hid (by omega);rw[HE.out]at c1;clear hR hs hA hk hc;go_enter Tryz.func188,Tryz.ntmps188
  go_wp2_with fail
  go_quiet (fail)
  go_wp2
  go_ret;exact⟨rfl,nq,rfl⟩
theorem add251 (w:World)(a p:Nat)(k:ByteArray)(bl j lp:Nat)(h1:w.cell? ⟨bl,0,none⟩=some (.pointer (some ⟨j,0,none⟩)))(h2:w.cell? ⟨j,0,none⟩=some (.pointer (some ⟨lp,0,none⟩)))
 (hF:∀ W,Below w.heap.size w W->Calls Tryz.prog 213 #[.pointer (some ⟨lp,0,none⟩)] W fun e w'=>e=.returned (.int .i64 1)/\w'=W)(hp:1<=p) :
 Calls Tryz.prog 251 #[.agg #[.int .i64 (a:Int),.string k,.int .i64 (p:Int)],.pointer (some ⟨bl,0,none⟩)] w fun e w'=>e=.returned (.bool false)/\Below w.heap.size w w':=by
 have hB1:Below w.heap.size w (w.alloc (.cells #[.int .i64 (a:Int),.string k,.int .i64 (p:Int)] 301)):=(Below.refl _ _).alloc (Nat.le_refl _) _;have hlt:∀ x y v,w.cell? ⟨x,y,none⟩=some v->x<w.heap.size:=fun x y v h=>World.block_lt_of_cell? w ⟨x,y,none⟩ h;have d1:=(hB1.cell (p:=⟨bl,0,none⟩) (hlt _ _ _ h1)).trans h1;have d2:=(hB1.cell (p:=⟨j,0,none⟩) (hlt _ _ _ h2)).trans h2
 have HF:Hid (∀ m,Calls Tryz.prog 213 #[.pointer (some ⟨lp,0,none⟩)] ((w.alloc (.cells #[.int .i64 (a:Int),.string k,.int .i64 (p:Int)] 301)).drewN m) fun e w''=>e=.returned (.int .i64 1)/\∃ m',w''=(w.alloc (.cells #[.int .i64 (a:Int),.string k,.int .i64 (p:Int)] 301)).drewN m'):=hid fun m=>
  (hF ((w.alloc (.cells #[.int .i64 (a:Int),.string k,.int .i64 (p:Int)] 301)).drewN m) ⟨hB1.os,hB1.tape,hB1.output,hB1.size,hB1.block⟩).mono fun e w' ⟨h1,h2⟩=>⟨h1,m,h2⟩
 have k1:decide ((p:Int)<1)=false:=by rw[decide_eq_false_iff_not];omega
 have HB1:=hid hB1;clear hF h1 h2 hlt hB1;go_enter Tryz.func251,Tryz.ntmps251
 go_wp2_with fail
 go_quiet (exact HF.out _)
 go_wp2
 go_ret;exact⟨rfl,⟨HB1.out.os,HB1.out.tape,HB1.out.output,HB1.out.size,HB1.out.block⟩⟩
theorem idx271 (w:World)(f:Lf)(A:Option Addr)(n c b0:Nat)(keys:List ByteArray)(bl:Nat)(hs:Sl w A (mcs f b0 keys))(hn:keys.length=n)(hm:n<=1000000)
 (hF:∀ W,Below w.heap.size w W->∀ i k,keys[i]? = some k->Calls Tryz.prog 251 #[.agg #[.int .i64 ((b0+i+1:Nat):Int),.string k,.int .i64 ((pz f (b0+i):Nat):Int)],.pointer (some ⟨bl,0,none⟩)] W fun e w'=>e=.returned (.bool false)/\Below W.heap.size W w') :
 Calls Tryz.prog 271 #[.slice A n c,.func (.func 251) #[] #[.pointer (some ⟨bl,0,none⟩)]] w fun e w'=>e=.returned (.int .i64 (-1))/\Below w.heap.size w w':=by
 have HS:=hid hs;have HF:=hid hF;clear hs hF;go_enter Tryz.func271,Tryz.ntmps271
 go_wp2
 go_loopw [8] (fun i wr=>∃ k:Nat,k<=n/\i=.int .i64 k/\Below w.heap.size w wr) (fun i _=>n-(intOf i).toNat)
 case atStart=>exact⟨0,Nat.zero_le _,rfl,Below.refl _ _⟩
 case round=>
  obtain⟨k,hk,rfl,hb⟩:=hrel;have HB:=hid hb;clear hb
  by_cases hlt:k<n
  ·have k1:(k:Int)<(n:Int):=by omega
   have k2:(0:Int)<=(k:Int):=by omega
   have hkl:k<keys.length:=by omega
   obtain⟨b,off,rfl,hcs⟩:=(HS.out.keep HB.out) (by intro e;have:=mcs_length f b0 keys;rw[e]at this;simp at this;omega);obtain⟨m0,m1,m2⟩:=mcs_get f b0 keys k hkl;have c0:wr.cell? ⟨b,off+k*3,none⟩=some (.int .i64 ((b0+k+1:Nat):Int)):=hcs _ _ m0;have c1:wr.cell? ⟨b,off+k*3+1,none⟩=some (.string keys[k]):=hcs _ _ m1;have c2:wr.cell? ⟨b,off+k*3+2,none⟩=some (.int .i64 ((pz f (b0+k):Nat):Int)):=hcs _ _ m2;have HQ:=hid (HF.out wr HB.out k keys[k] (List.getElem?_eq_getElem hkl));clear hcs m0 m1 m2;generalize keys[k]=q at *;generalize ((b0+k+1:Nat):Int)=z at *;generalize ((pz f (b0+k):Nat):Int)=z2 at *
   go_wp2_with fail
   refine HQ.out.mono ?_;rintro e w1 ⟨rfl,hb⟩;have HB1:=hid (HB.out.trans (hb.mono HB.out.size));clear HQ c0 c1 c2 hb
   go_wp2
   go_roundw
   case rel=>exact⟨k+1,by omega,by go_num,HB1.out⟩
   case measure=>simp[intOf];omega
  ·obtain rfl:k=n:=by omega
   go_wp2
   go_ret;exact⟨rfl,HB.out⟩
theorem del250 (w:World)(f:Lf)(A:Option Addr)(n c b0:Nat)(keys:List ByteArray)(bl:Nat)(hs:Sl w A (mcs f b0 keys))(hn:keys.length=n)(hm:n<=1000000)
 (hF:∀ W,Below w.heap.size w W->∀ i k,keys[i]? = some k->Calls Tryz.prog 251 #[.agg #[.int .i64 ((b0+i+1:Nat):Int),.string k,.int .i64 ((pz f (b0+i):Nat):Int)],.pointer (some ⟨bl,0,none⟩)] W fun e w'=>e=.returned (.bool false)/\Below W.heap.size W w') :
 Calls Tryz.prog 250 #[.slice A n c,.func (.func 251) #[] #[.pointer (some ⟨bl,0,none⟩)]] w fun e w'=>e=.returned (.slice A n c)/\Below w.heap.size w w':=by
 have HQ:=hid (idx271 w f A n c b0 keys bl hs hn hm hF);clear hs hF;go_enter Tryz.func250,Tryz.ntmps250
 go_wp2_with fail
 refine HQ.out.mono ?_;rintro e w1 ⟨rfl,hb⟩;have HB:=hid hb;clear hb
 go_wp2
 go_ret;exact⟨rfl,HB.out⟩
def JoS (bl j lp:Nat)(W:World):Prop:=W.cell? ⟨bl,0,none⟩=some (.pointer (some ⟨j,0,none⟩))/\W.cell? ⟨j,0,none⟩=some (.pointer (some ⟨lp,0,none⟩))
def JoT (bl j n c:Nat)(A:Option Addr)(W:World):Prop:=W.cell? ⟨bl,0,none⟩=some (.pointer (some ⟨j,0,none⟩))/\W.cell? ⟨j,1,none⟩=some (.slice A n c)
theorem info301:(Tryz.prog.info? 301).map (fun i=>(i.zero.map Value.cells,i.size,i.bytes))=some (some #[.int .i64 0,.string ⟨#[]⟩,.int .i64 0],3,32):=by kernel_rfl
theorem step_append_text {P:Program}(w:World){ops:Array Oper}{o:Oper}{a:Act}{K:Act->World->Prop}{Q:Exit->Act->World->Prop}{E:Prop}(hgd:o.guard=none)(sl x:Operand)(st u:TypeId)
 (ho:o.op=.call { callee:=.builtin .append,args:=#[sl,x],argTypes:=#[st,u] })(U:Own)(t:Nat)
 (e:TypeId)(i:TypeInfo)(ht:P.underlying st=some (.slice e))(hu:P.underlying u=some .string)(hi:P.info? e=some i)(hz:i.zero=some (.int .u8 0))
 (hsize:i.size=1)(hby:i.bytes=1)
 (v:Value)(n:Nat)(xs:List Value)(hs:a.eval sl=v)(hown:Rw w U t e 1 v n xs)(s:ByteArray)(hx:a.eval x=.string s)(h63:n+s.size<=1073741824)
 (h:∀ v' w',Rw w' (ext U w t) t e 1 v' (n+s.size) (xs++Lib.strCells s)->Chg (· = t) w U w' (ext U w t)->K (a.put o.dst v') w') :
 if Region.wanted o (yielded ops a.tmps)=true then Oper.wp P o a w K Q else E:=by
 have hw:Region.wanted o (yielded ops a.tmps)=true:=by simp[Region.wanted,hgd]
 rw[if_pos hw];obtain⟨v',w',hr,h2,h3⟩:=run_append_text (P:=P) w U t st u o.type e i ht hu hi hz hsize hby v n xs hown s h63;unfold Oper.wp execOp;simp only[ho,resolve,invoke,builtin,Sem.run_bind,Sem.run_pure,Result.andThen_ok,List.map_toArray,List.map_cons,List.map_nil,hs,hx,hr];exact h v' w' h2 h3
structure JX (w1:World)(U1:Own)(tj td y y2 j d from_ segs n lp bl:Nat)(f:Lf)(Z:Cont)(F:Nat->Prop)(bodies:List (List UInt8))(vc vr:Value)(keys:List ByteArray)(W:World)(U':Own):Prop where
 hj:Has W U' tj j 299 #[.pointer (some ⟨lp,0,none⟩),vc]
 hR:Rw W U' (tj+1) 301 3 vr keys.length (mcs f 0 keys)
 hlog:∃ fr,LogAt W U' (tj+2) lp d from_ segs fr f Z bodies
 hd:DevAt W U' td d n Z F
 hb:Has W U' y bl 116 #[.pointer (some ⟨j,0,none⟩)]
 hch:Chg (fun x=>FT tj td x\/x=y\/x=y2) w1 U1 W U'
def JT (tj td y y2:Nat):Prop:=tj+2<95/\td<95/\(td<tj\/tj+2<td)/\y%96=95/\y2%96=95/\y≠y2
section
variable {w1 W W' : World} {U1 U' U2 : Own} {tj td y y2 j d from_ segs n lp bl : Nat} {f : Lf} {Z Z' : Cont} {F F' : Nat -> Prop} {bodies bodies' : List (List UInt8)} {vc vr : Value} {keys keys' : List ByteArray}
theorem JX.quiet (h:JX w1 U1 tj td y y2 j d from_ segs n lp bl f Z F bodies vc vr keys W U')(hc:Chg (fun _=>False) W U' W' U2):JX w1 U1 tj td y y2 j d from_ segs n lp bl f Z F bodies vc vr keys W' U2 where
 hj:=h.hj.keep hc id
 hR:=h.hR.keep hc id
 hlog:=by obtain⟨fr,hl⟩:=h.hlog;exact⟨fr,hl.keep hc (fun _ e=>e.elim)⟩
 hd:=h.hd.keep hc id
 hb:=h.hb.keep hc id
 hch:=h.hch.trans (hc.mono fun _ e=>e.elim)
theorem JX.alloc (h:JX w1 U1 tj td y y2 j d from_ segs n lp bl f Z F bodies vc vr keys W U')(o:Obj):JX w1 U1 tj td y y2 j d from_ segs n lp bl f Z F bodies vc vr keys (W.alloc o) (ext U' W y):=h.quiet (((Chg.refl _ _ _).alloc o).ext y)
theorem JX.yy (h:JX w1 U1 tj td y y2 j d from_ segs n lp bl f Z F bodies vc vr keys W U')(hc:Chg (· = y2) W U' W' U2)(ht:JT tj td y y2):JX w1 U1 tj td y y2 j d from_ segs n lp bl f Z F bodies vc vr keys W' U2:=by
 obtain⟨h1,h2,h3,h4,h5,h6⟩:=ht
 exact {
  hj:=h.hj.keep hc (by omega)
  hR:=h.hR.keep hc (by omega)
  hlog:=by obtain⟨fr,hl⟩:=h.hlog;exact⟨fr,hl.keep hc (fun z e=>by subst e;omega)⟩
  hd:=h.hd.keep hc (by omega)
  hb:=h.hb.keep hc (by omega)
  hch:=h.hch.trans (hc.mono fun _ e=>.inr (.inr e)) }
theorem JX.log (h:JX w1 U1 tj td y y2 j d from_ segs n lp bl f Z F bodies vc vr keys W U')(ha:LogAt W' U2 (tj+2) lp d from_ segs false f Z' bodies')(hd:DevAt W' U2 td d n Z' F')(hc:Chg (fun x=>x%96=tj+2\/x=td) W U' W' U2)(ht:JT tj td y y2):JX w1 U1 tj td y y2 j d from_ segs n lp bl f Z' F' bodies' vc vr keys W' U2:=by
 obtain⟨h1,h2,h3,h4,h5,h6⟩:=ht
 exact {
  hj:=h.hj.keep hc (by omega)
  hR:=h.hR.keep hc (by omega)
  hlog:=⟨false,ha⟩
  hd:=hd
  hb:=h.hb.keep hc (by omega)
  hch:=h.hch.trans (hc.mono fun z e=>.inl (e.imp (fun e=>by omega) id)) }
theorem JX.row (h:JX w1 U1 tj td y y2 j d from_ segs n lp bl f Z F bodies vc vr keys W U'){v:Value}(hR:Rw W' U2 (tj+1) 301 3 v keys'.length (mcs f 0 keys'))(hc:Chg (· = tj+1) W U' W' U2)(ht:JT tj td y y2):JX w1 U1 tj td y y2 j d from_ segs n lp bl f Z F bodies vc v keys' W' U2:=by
 obtain⟨h1,h2,h3,h4,h5,h6⟩:=ht
 exact {
  hj:=h.hj.keep hc (by omega)
  hR:=hR
  hlog:=by obtain⟨fr,hl⟩:=h.hlog;exact⟨fr,hl.keep hc (fun z e=>by subst e;omega)⟩
  hd:=h.hd.keep hc (by omega)
  hb:=h.hb.keep hc (by omega)
  hch:=h.hch.trans (hc.mono fun z e=>.inl (.inl (by subst e;omega))) }
theorem JX.set (h:JX w1 U1 tj td y y2 j d from_ segs n lp bl f Z F bodies vc vr keys W U')(ht:JT tj td y y2)(v:Value)(hv:v=vr):JX w1 U1 tj td y y2 j d from_ segs n lp bl f Z F bodies vr vr keys (W.setCell ⟨j,1,none⟩ v) U':=by
 obtain⟨h1,h2,h3,h4,h5,h6⟩:=ht;have hc:Chg (· = tj) W U' (W.setCell ⟨j,1,none⟩ v) U':=(Chg.refl _ _ _).setCell (p:=⟨j,1,none⟩) h.hj.own v;subst hv
 exact {
  hj:=by have:=h.hj.set_ 1 v;simpa using this
  hR:=h.hR.keep hc (by omega)
  hlog:=by obtain⟨fr,hl⟩:=h.hlog;exact⟨fr,hl.keep hc (fun z e=>by subst e;omega)⟩
  hd:=h.hd.keep hc (by omega)
  hb:=h.hb.keep hc (by omega)
  hch:=h.hch.trans (hc.mono fun z e=>.inl (.inl (by subst e;omega))) }
end
theorem add220 (w:World)(U:Own)(tj td j d from_ segs n cnt:Nat)(f:Lf)(Z:Cont)(F:Nat->Prop)(k:ByteArray)(KB ko ck:Nat)(hJ:JournalAt w U tj j d from_ segs n f Z cnt)(hD:DevAt w U td d n Z F)(htd:td<95/\(td<tj\/tj+2<td))(hk:keyOk k=true)(hks:k.size<64)(hcs:cnt<segs/\cnt<62)
 (hkey:w.cell? ⟨KB,ko,none⟩=some (.string k))(hKB:KB<w.heap.size) :
 Calls Tryz.prog 220 #[.pointer (some ⟨j,0,none⟩),.slice (some ⟨KB,ko,none⟩) 1 ck] w fun e w'=>e=.returned (.tuple #[.int .i64 ((cnt+1:Nat):Int),.int .i64 0])/\∃ U' Z',JournalAt w' U' tj j d from_ segs n f Z' (cnt+1)/\DevAt w' U' td d n Z' Lasts/\(∀ i,(i<from_\/from_+segs*8<=i)->Z' i=Z i)/\Chg (FT tj td) w U w' U':=by
 obtain⟨y,hy1,hy2⟩:=fresh95 w U;obtain⟨lp,fr0,vM,keys,hkl,hk40,g1,g2,g3'⟩:=hJ.ex;obtain⟨bodies,hbo⟩:∃ b,b=mbs 0 keys:=⟨_,rfl⟩
 have hbl:bodies.length=cnt:=by rw[hbo,mbs_length,hkl]
 have g3:LogAt w U (tj+2) lp d from_ segs fr0 f Z bodies:=by rw[hbo];exact g3'
 clear g3';obtain⟨A,c0,rfl,-⟩:=g2.slice;obtain⟨bl,hbl0⟩:∃ b,b=w.heap.size:=⟨_,rfl⟩;obtain⟨w1,hw1⟩:∃ W,W=w.alloc (.cells #[.pointer (some ⟨j,0,none⟩)] 116):=⟨_,rfl⟩;obtain⟨U1,hU1⟩:∃ t:Own,t=ext U w y:=⟨_,rfl⟩
 have hc1:Chg (fun _=>False) w U w1 U1:=by rw[hw1,hU1];exact((Chg.refl _ _ _).alloc _).ext y
 have hBl:Has w1 U1 y bl 116 #[.pointer (some ⟨j,0,none⟩)]:=by rw[hw1,hU1,hbl0];exact⟨Blk.new _ _ _,ext_new (Nat.le_refl _)⟩
 obtain⟨y2,hz1,hz2⟩:=fresh95 w1 U1
 have hyy:y≠y2:=by rintro rfl;exact hz2 bl hBl.lt hBl.own
 have hlt:=hJ.lt;have HT:Hid (JT tj td y y2):=hid ⟨hlt,htd.1,htd.2,hy1,hz1,hyy⟩;have hdl:k.data.toList.length=k.size:=Array.length_toList
 have hko:0<k.size/\k.size<=40:=by unfold keyOk at hk;exact of_decide_eq_true hk
 have HC:Hid (cnt+1<64/\k.size<=40/\bodies.length<segs/\bodies.length=cnt/\(from_+segs*8<=n/\n<=2048)/\keys.length=cnt):=hid ⟨by omega,hko.2,by omega,hbl,hJ.room,hkl⟩;have HDL:=hid hdl;have HJ1:Hid (JX w1 U1 tj td y y2 j d from_ segs n lp bl f Z F bodies (.slice A cnt c0) (.slice A cnt c0) keys w1 U1):=hid ⟨g1.keep hc1 id,by rw[hkl];exact g2.keep hc1 id,⟨fr0,g3.keep hc1 (fun _ e=>e.elim)⟩,hD.keep hc1 id,hBl,Chg.refl _ _ _⟩
 have HFIN:Hid (∀ W U' Z' b c,JX w1 U1 tj td y y2 j d from_ segs n lp bl f Z' Lasts (bodies++[u8n (cnt+1) :: k.data.toList]) (.slice (some ⟨b,0,none⟩) (cnt+1) c) (.slice (some ⟨b,0,none⟩) (cnt+1) c) (keys++[k]) W U'->∃ U',JournalAt W U' tj j d from_ segs n f Z' (cnt+1)/\DevAt W U' td d n Z' Lasts/\Chg (FT tj td) w U W U'):=hid fun W U' Z' b c h=>by
  obtain⟨fr,hl⟩:=h.hlog;have hr:=h.hR;rw[List.length_append,hkl]at hr;refine⟨U',⟨⟨lp,fr,_,keys++[k],by simp[hkl],fun q hq=>?_,h.hj,hr,by rw[mbs_snoc,Nat.zero_add,hkl,<- hbo];exact hl⟩,hlt,hJ.room,by omega⟩,h.hd,?_⟩
  ·rcases List.mem_append.1 hq with hq|hq
   ·exact hk40 q hq
   ·simp at hq;subst hq;omega
  refine((hc1.mono fun _ e=>e.elim).trans h.hch).fresh (T:=FT tj td) fun i hi e=>?_
  rcases e with e|e|e
  ·exact e
  ·exact absurd e (hy2 i hi)
  ·refine absurd ?_ (hz2 i (by rw[hw1];simp;omega))
   rw[hc1.own i hi];exact e
 have HTX:Hid (∀ (W:World) (U9:Own) (v:Value),Rw W U9 y2 5 1 v (1+k.size) (nbs [cnt+1]++Lib.strCells k)->∃ b c,v=.slice (some ⟨b,0,none⟩) (1+k.size) c/\Sl W (some ⟨b,0,none⟩) (ub (u8n (cnt+1) :: k.data.toList))/\b<W.heap.size/\U9 b=y2):=hid fun W U9 v h=>by
  obtain⟨A,c,rfl,-,-,-,hs,hA,hA2⟩:=h.slice
  cases A with
  | none=>exact absurd (hA rfl).1 (by omega)
  | some a=>
   obtain⟨b,o,sp⟩:=a;obtain⟨rfl,rfl,h1,h2⟩:=hA2 _ rfl;refine⟨b,c,rfl,?_,h1,h2⟩
   have e:nbs [cnt+1]++Lib.strCells k=ub (u8n (cnt+1) :: k.data.toList):=by
    have:=u8n_val (cnt+1) (by omega);simp only[nbs,ub,List.map_cons,this];simp[Lib.strCells]
   rw[<- e];exact hs
 have hne:=bne_nil k (by omega)
 have kk1:¬ ((40:Int)<(k.size:Int)):=by omega
 have kk2:decide ((40:Int)<(k.size:Int))=false:=by rw[decide_eq_false_iff_not];exact kk1
 have hkey1:w1.cell? ⟨KB,ko,none⟩=some (.string k):=(World.cell?_of_block (by rw[hw1];exact Below.heap_alloc _ _ _ hKB)).trans hkey
 have hkey0:(w.alloc (.cells #[.pointer (some ⟨j,0,none⟩)] 116)).cell? ⟨KB,ko,none⟩=some (.string k):=by rw[<- hw1];exact hkey1
 obtain⟨i0,hi,hz0,hz1',hz2'⟩:=info_parts info5v;have HI:=hid (And.intro hi (And.intro hz0 (And.intro hz1' hz2')));have HW1:=hid hw1;have HBL0:=hid hbl0;clear hbo hk40 hJ hD htd hk hks hcs hkl hbl g1 g2 g3 hbl0 hw1 hU1 hc1 hBl hz1 hz2 hyy hlt hdl hko hy1 hy2 hi hz0 hz1' hz2' hKB hkey;go_enter Tryz.func220,Tryz.ntmps220
 go_wp2
 rw[<- HW1.out,<- HBL0.out];clear hkey0
 go_loop [18] (fun i=>∃ q:Nat,q<=1/\i=.int .i64 (q:Int)) (fun i=>1-(intOf i).toNat)
 case atStart=>exact⟨0,by decide,rfl⟩
 case round=>
  obtain⟨q,hq,rfl⟩:=hrel
  by_cases hq0:q=0
  ·subst hq0
   go_wp2
   go_round
   case rel=>exact⟨1,by decide,rfl⟩
   case measure=>simp[intOf]
  ·obtain rfl:q=1:=by omega
   go_wp2
   go_loopw [32] (fun i wr=>(i=.int .i64 0/\w1=wr)\/(i=.int .i64 1/\∃ (A:Option Addr) (c0 b c:Nat) (U3:Own) (Z':Cont) (F':Nat->Prop),(∀ i,(i<from_\/from_+segs*8<=i)->Z' i=Z i)/\JX w1 U1 tj td y y2 j d from_ segs n lp bl f Z' F' (bodies++[u8n (cnt+1) :: k.data.toList]) (.slice (some ⟨b,0,none⟩) (cnt+1) c) (.slice (some ⟨b,0,none⟩) (cnt+1) c) (keys++[k]) wr U3)) (fun i _=>1-(intOf i).toNat)
   case atStart=>exact .inl ⟨rfl,rfl⟩
   case round=>
    rcases hrel with ⟨rfl,rfl⟩|⟨rfl,_,_,b,c,U3,Z3,F3,hz3,hjx⟩
    ·have cb:w1.cell? ⟨bl,0,none⟩=some (.pointer (some ⟨j,0,none⟩)):=HJ1.out.hb.cell 0
     have hrow:=HJ1.out.hR;rw[HC.out.2.2.2.2.2]at hrow;have HSQ:=hid (seq188 w1 U1 f j lp cnt (tj+1) _ keys (HJ1.out.hj.cell 1) hrow HC.out.2.2.2.2.2 (by have:=HC.out.1;omega))
     have hcn:(cnt:Int)<=62:=by have:=HC.out.1;omega
     clear hrow
     go_wp2_with fail
     refine HSQ.out.mono ?_;rintro e w2 ⟨rfl,m,rfl⟩;have HJ2:=hid (HJ1.out.quiet ((Chg.refl _ _ _).drewN m));clear HSQ cb HJ1;generalize w1.drewN m=w2 at *
     go_wp2_with fail
     have HB0:=hid (HJ2.out.quiet ((Chg.refl _ _ _).drewN 1));clear HJ2;have hJS:∀ W U' Z' F' bo vc vr ks,JX w1 U1 tj td y y2 j d from_ segs n lp bl f Z' F' bo vc vr ks W U'->JoS bl j lp W:=fun _ _ _ _ _ _ _ _ h=>⟨h.hb.cell 0,h.hj.cell 0⟩;have HJS:=hid hJS;have S0:=hid (hJS _ _ _ _ _ _ _ _ HB0.out);clear hJS;refine wp_region_hl [5,6,8,9] [0,1,2,3,4,7,5,6,8,9,10,11,12,13] (JoS bl j lp) (by kernel_rfl) (by kernel_rfl) S0.out ?_
     iterate 6 (refine hd_take (v:=?_) rfl rfl (by kernel_rfl) (fun W hW=>?_) ?_;rotate_left;(obtain⟨r0,r1⟩:=hW;first|(go_simp;done)|(go_simp;with_reducible rfl)))
     refine hd_loud rfl rfl fun K hK=>?_;go_simp;refine hK _ _ (HJS.out _ _ _ _ _ _ _ _ (HB0.out.alloc _)) ?_;clear hK;refine hd_loud rfl rfl fun K hK=>?_;go_simp;have hjx1:=HB0.out.alloc (.cells #[.int .i64 ((cnt+1:Nat):Int)] 2);refine(putAllR _ (ext U1 w2.drew y) y2 (.slice none 0 0) 0 [] (Rw.nil _ _ _ _ _) (some ⟨w2.heap.size,0,none⟩) 1 [cnt+1] (Blk.new w2.drew 2 #[.int .i64 ((cnt+1:Nat):Int)]).sl (by rintro a ha;cases ha;exact⟨by simp,fun e=>HT.out.2.2.2.2.2 ((show ext U1 w2.drew y w2.heap.size=y from ext_new (Nat.le_refl _)).symm.trans e)⟩) (by simp) (by intro z hz;rw[List.mem_singleton.1 hz];exact HC.out.1)).mono ?_;rintro e w3 ⟨v',U2,rfl,hr,hc⟩;have HS:=hid (And.intro (by simpa using hr:Rw w3 U2 y2 5 1 v' 1 (nbs [cnt+1])) (hjx1.yy hc HT.out));clear hr hc hjx1;refine hK _ _ (HJS.out _ _ _ _ _ _ _ _ HS.out.2) ?_;clear hK;refine hd_loud rfl rfl fun K hK=>?_;refine step_append_text _ rfl (.tmp 46) (.tmp 47) 74 9 rfl U2 y2 5 i0 (by kernel_rfl) (by kernel_rfl) HI.out.1 HI.out.2.1 HI.out.2.2.1 HI.out.2.2.2 v' 1 _ rfl HS.out.1 k rfl (by have:=HC.out.2.1;omega) ?_;intro v3 w4 hR hC;obtain⟨b',c',rfl,hsl',hlt',hty'⟩:=HTX.out w4 _ v3 hR;have HX1:=hid (HS.out.2.yy hC HT.out);have HSL:=hid (And.intro hsl' (And.intro hlt' hty'));refine hK _ _ (HJS.out _ _ _ _ _ _ _ _ HX1.out) ?_;clear hK hR hC hsl' hlt' hty' HS;refine hd_loud rfl rfl fun K hK=>?_;go_simp;obtain⟨fr,hlog⟩:=HX1.out.hlog;have h9:=HT.out;unfold JT at h9;refine(append211 _ _ (tj+2) td lp d from_ segs n fr f bodies Z F (u8n (cnt+1) :: k.data.toList) b' 0 (1+k.size) c' hlog HX1.out.hd h9.2.1 (by omega) HC.out.2.2.1 HC.out.2.2.2.2.1.1 HC.out.2.2.2.2.1.2 (by rw[List.length_cons,HDL.out];omega) (by omega) (by have:=HC.out.2.1;omega) HSL.out.1 HSL.out.2.1 (by rw[HSL.out.2.2];omega) (by rw[HSL.out.2.2];omega)).mono ?_
     rintro e w5 ⟨rfl,U5,Z5,F5,ha,hd2,hz5,hc2⟩;have HZ5:=hid hz5;clear hz5;have HB1:=hid (HX1.out.log ha hd2 hc2 HT.out);rw[HC.out.2.2.2.1];refine hK _ _ (HJS.out _ _ _ _ _ _ _ _ HB1.out) ?_;clear hK ha hd2 hc2 hlog h9 HX1 HSL
     iterate 4 (refine hd_take (v:=?_) rfl rfl (by kernel_rfl) (fun W hW=>?_) ?_;rotate_left;(obtain⟨r0,r1⟩:=hW;first|(go_simp;done)|(go_simp;with_reducible rfl)))
     refine hd_end ?_;simp only[zqa,zqb,zqc,zqd,Nat.zero_add,Nat.reduceAdd];clear HB0 HTX S0 HJS;obtain⟨i1,z1,hi1⟩:=info_cells info301;have HI:=hid hi1;clear hi1
     go_wp2_with fail
     have HB0:=hid (HB1.out.quiet ((Chg.refl _ _ _).drewN 1));clear HB1;have S1:Hid (JoT bl j cnt c0 A w5.drew):=hid ⟨HB0.out.hb.cell 0,HB0.out.hj.cell 1⟩;refine wp_region_hl [10,11] [0,1,2,3,4,5,6,7,8,9,10,11] (JoT bl j cnt c0 A) (by kernel_rfl) (by kernel_rfl) S1.out ?_
     iterate 10 (refine hd_take (v:=?_) rfl rfl (by kernel_rfl) (fun W hW=>?_) ?_;rotate_left;(obtain⟨r0,r1⟩:=hW;first|(go_simp;done)|(go_simp;with_reducible rfl)))
     refine hd_loud rfl rfl fun K hK=>?_;go_simp;have HB2:=hid (HB0.out.alloc (.cells #[.int .i64 ((cnt+1:Nat):Int),.string k,.int .i64 ((pz f cnt:Nat):Int)] 301));refine hK _ _ ⟨HB2.out.hb.cell 0,HB2.out.hj.cell 1⟩ ?_;clear hK;refine hd_loud rfl rfl fun K hK=>?_;have hrow:=HB2.out.hR;rw[HC.out.2.2.2.2.2]at hrow;refine step_append_row2 _ rfl (.tmp 59) (.tmp 65) 297 rfl _ (tj+1) 301 i1 z1 3 32 (by kernel_rfl) HI.out.1 HI.out.2.1 HI.out.2.2.2.1 HI.out.2.2.2.2 (by rw[HI.out.2.2.1];rfl) (by decide) (.slice A cnt c0) cnt (mcs f 0 keys) rfl hrow ⟨w5.heap.size,0,none⟩ 1 1 _ rfl rfl (by decide) (Blk.new w5.drew 301 #[.int .i64 ((cnt+1:Nat):Int),.string k,.int .i64 ((pz f cnt:Nat):Int)]).sl (by intro u hu;simp at hu;rcases hu with rfl|rfl|rfl <;> rfl) (by have:=HC.out.1;omega) (by decide) ?_;intro g' cap w' hR hC hG
     have e1:mcs f 0 keys++[.int .i64 ((cnt+1:Nat):Int),.string k,.int .i64 ((pz f cnt:Nat):Int)]=mcs f 0 (keys++[k]):=by rw[mcs_snoc,HC.out.2.2.2.2.2,Nat.zero_add]
     rw[e1]at hR;have HB3:=hid (HB2.out.row (keys':=keys++[k]) (by rw[List.length_append,HC.out.2.2.2.2.2];exact hR) hC HT.out);refine hK _ _ ⟨HB3.out.hb.cell 0,HB3.out.hj.cell 1⟩ (hd_end ?_);clear hK hR hC hG hrow e1;simp only[zqa,zqb,zqc,zqd,Nat.zero_add,Nat.reduceAdd];have hf:=HB3.out.hj.frozen 1;have hc3:=HB3.out.hj.cell 1;have HS:=hid (HB3.out.set HT.out (.slice (some ⟨g',0,none⟩) (cnt+1) cap) rfl)
     go_wp2_with fail
     clear hf hc3 HB3 HB2 HB0 HI i1 z1 S1;generalize World.setCell _ _ _=w6 at HS ⊢
     go_wp2
     go_roundw
     case rel=>exact .inr ⟨rfl,A,c0,_,_,_,Z5,F5,HZ5.out,HS.out⟩
     case measure=>simp[intOf]
    ·have HB3:=hid hjx
     have HZ3:=hid hz3;clear hjx hz3 HJ1 HTX
     have HDEL:Hid (∀ W U',JX w1 U1 tj td y y2 j d from_ segs n lp bl f Z3 F3 (bodies++[u8n (cnt+1) :: k.data.toList]) (.slice (some ⟨b,0,none⟩) (cnt+1) c) (.slice (some ⟨b,0,none⟩) (cnt+1) c) (keys++[k]) W U'->Calls Tryz.prog 250 #[.slice (some ⟨b,0,none⟩) (cnt+1) c,.func (.func 251) #[] #[.pointer (some ⟨bl,0,none⟩)]] W fun e w'=>e=.returned (.slice (some ⟨b,0,none⟩) (cnt+1) c)/\Below W.heap.size W w'):=hid fun W U' h=>by
      have hrow:=h.hR;rw[List.length_append,HC.out.2.2.2.2.2]at hrow;obtain⟨A',c',e,-,-,-,hs,-⟩:=hrow.slice
      cases e
      refine del250 W f _ (cnt+1) c 0 (keys++[k]) bl hs (by rw[List.length_append,HC.out.2.2.2.2.2];rfl) (by have:=HC.out.1;omega) fun W' hb i kk hkk=>?_;have h':=h.quiet (Chg.same_own hb);refine add251 W' (0+i+1) (pz f (0+i)) kk bl j lp (h'.hb.cell 0) (h'.hj.cell 0) (fun W'' hb''=>?_) (pz_pos _ _);obtain⟨fr,hl⟩:=(h'.quiet (Chg.same_own hb'')).hlog;exact first213 W'' U' (tj+2) lp d from_ segs fr f _ _ hl
     go_wp2_with fail
     have HB4:=hid (HB3.out.quiet ((Chg.refl _ _ _).drewN 1));clear HB3;have hmf:∀ fn first cap w,(Instr.makeFunc fn first cap).run Tryz.prog w=.ok (.func fn first cap) w:=fun _ _ _ _=>rfl;have S4:Hid (JoT bl j (cnt+1) c (some ⟨b,0,none⟩) _):=hid ⟨HB4.out.hb.cell 0,HB4.out.hj.cell 1⟩;refine wp_region_hl [6] [0,1,2,3,4,5,6] (JoT bl j (cnt+1) c (some ⟨b,0,none⟩)) (by kernel_rfl) (by kernel_rfl) S4.out ?_
     iterate 6 (refine hd_take (v:=?_) rfl rfl (by kernel_rfl) (fun W hW=>?_) ?_;rotate_left;(obtain⟨r0,r1⟩:=hW;first|(go_simp;done)|(go_simp;with_reducible rfl)))
     refine hd_loud rfl rfl fun K hK=>?_;go_simp;refine(HDEL.out _ _ HB4.out).mono ?_;rintro e wx ⟨rfl,hb1⟩;have HB5:=hid (HB4.out.quiet (Chg.same_own hb1));refine hK _ _ ⟨HB5.out.hb.cell 0,HB5.out.hj.cell 1⟩ (hd_end ?_);clear hK hmf hb1;simp only[zqa,zqb,zqc,zqd,Nat.zero_add,Nat.reduceAdd];have hf:=HB5.out.hj.frozen 1;have hc3:=HB5.out.hj.cell 1;have HS:=hid (HB5.out.set HT.out (.slice (some ⟨b,0,none⟩) (cnt+1) c) rfl);have c0':=HS.out.hb.cell 0;have c1':=HS.out.hj.cell 0
     go_wp2_with fail
     clear hf hc3 HB5 HB4 HDEL S4 c0' c1';generalize World.setCell _ _ _=wy at HS ⊢;have HB5:=HS;clear HS;obtain⟨fr,hlog⟩:=HB5.out.hlog;have HFL:=hid (flush163 wy U3 (tj+2) td lp d from_ segs n fr f _ _ _ hlog HB5.out.hd HT.out.2.1 (by have:=HT.out;unfold JT at this;omega) HC.out.2.2.2.2.1.2);refine HFL.out.mono ?_;rintro e w8 ⟨rfl,h7,h8,h9⟩;have ht:=HT.out;unfold JT at ht;have HB6:Hid (JX w1 U1 tj td y y2 j d from_ segs n lp bl f Z3 Lasts (bodies++[u8n (cnt+1) :: k.data.toList]) (.slice (some ⟨b,0,none⟩) (cnt+1) c) (.slice (some ⟨b,0,none⟩) (cnt+1) c) (keys++[k]) w8 U3):=hid ⟨HB5.out.hj.keep h9 (by omega),HB5.out.hR.keep h9 (by omega),⟨fr,h7⟩,h8,HB5.out.hb.keep h9 (by omega),HB5.out.hch.trans (h9.mono fun z e=>.inl (.inr e))⟩;clear hlog h7 h8 h9 HFL HB5 ht;have c0':w8.cell? ⟨bl,0,none⟩=some (.pointer (some ⟨j,0,none⟩)):=HB6.out.hb.cell 0;have hrow:=HB6.out.hR;rw[List.length_append,HC.out.2.2.2.2.2]at hrow;have HSQ:=hid (seq188 w8 U3 f j lp (cnt+1) (tj+1) _ (keys++[k]) (HB6.out.hj.cell 1) hrow (by rw[List.length_append,HC.out.2.2.2.2.2];rfl) (by have:=HC.out.1;omega));clear hrow
     go_wp2_with fail
     refine HSQ.out.mono ?_;rintro e w9 ⟨rfl,m,rfl⟩;clear c0' HSQ;have HB7:=hid (HB6.out.quiet ((Chg.refl _ _ _).drewN m));clear HB6
     go_wp2
     go_ret2
     obtain⟨U4,h1,h2,h3⟩:=HFIN.out _ U3 Z3 b c HB7.out;exact⟨rfl,U4,Z3,h1,h2,HZ3.out,h3⟩
structure JL (w0:World)(U0:Own)(tj j lp:Nat)(f:Lf)(keys:List ByteArray)(k:Nat)(W:World):Prop where
 ex:∃ U' vM,Has W U' tj j 299 #[.pointer (some ⟨lp,0,none⟩),vM]/\Rw W U' (tj+1) 301 3 vM k (mcs f 0 (keys.take k))/\Chg (fun z=>z=tj\/z=tj+1) w0 U0 W U'
def JlS (j b1 Yb k c n cy:Nat)(p:Int)(A:Option Addr)(q:ByteArray)(W:World):Prop:=W.cell? ⟨j,1,none⟩=some (.slice A k c)/\W.cell? ⟨b1,0,none⟩=some (.int .i64 p)/\W.cell? ⟨b1,1,none⟩=some (.slice (some ⟨Yb,0,none⟩) n cy)/\(convert 74 9 (.slice (some ⟨Yb,1,none⟩) q.size (cy-1))).run Tryz.prog W=.ok (.string q) W
theorem open225 (w:World)(U:Own)(tj td d n from_ segs:Nat)(Z:Cont)(F:Nat->Prop)(keys:List ByteArray)(hD:DevAt w U td d n Z F)(ht:tj+2<95)(htd:td<95/\(td<tj\/tj+2<td))(hs:20<=segs)(hs2:segs<=200)(hn:from_+segs*8<=n)(hn2:n<=2048)
 (hon:OnDisk Z from_ segs (mbs 0 keys))(hpk:(pack (mbs 0 keys)).length<=12)(hok:∀ k∈keys,0<k.size/\k.size<=40)(hle:keys.length<=segs)(hl62:keys.length<=62) :
 Calls Tryz.prog 225 #[.pointer (some ⟨d,0,none⟩),.int .i64 (from_:Int),.int .i64 (segs:Int)] w fun e w'=>∃ c U',e=.returned (.tuple #[.pointer (some ⟨c,0,none⟩),.int .i64 0])/\JournalAt w' U' tj c d from_ segs n (if mbs 0 keys=[] then none else some (mbs 0 keys).length) Z keys.length/\DevAt w' U' td d n Z F/\Chg (fun x=>tj<=x%96/\x%96<=tj+2) w U w' U':=by
 have hbl:∀ (i:Nat) (l:List UInt8),(mbs 0 keys)[i]? = some l->∃ k,keys[i]? = some k/\l=u8n (i+1) :: k.data.toList:=fun i l hl=>by
  have hi:i<keys.length:=by have:=(List.getElem?_eq_some_iff.1 hl).1;rwa [mbs_length]at this
  rw[mbs_get 0 keys i hi]at hl
  injection hl with hl
  rw[Nat.zero_add]at hl;exact⟨_,List.getElem?_eq_getElem hi,hl.symm⟩
 have hbl2:∀ l∈mbs 0 keys,1<=l.length/\l.length<=41:=fun l hl=>by
  obtain⟨i,hi⟩:=List.mem_iff_getElem?.1 hl;obtain⟨k,hk,rfl⟩:=hbl i l hi;have:=hok k (List.mem_of_getElem? hk);have e:k.data.toList.length=k.size:=Array.length_toList;rw[List.length_cons,e];omega
 obtain⟨lf,hlf⟩:∃ lf:Lf,lf=if mbs 0 keys=[] then none else some (mbs 0 keys).length:=⟨_,rfl⟩
 have HOP:=hid (open255 w U (tj+2) td d n from_ segs Z F (mbs 0 keys) hD ht htd.1 (by omega) (by omega) hs2 hn hn2 hon hpk (by rw[mbs_length];omega) (fun l hl=>by have:=hbl2 l hl;omega));rw[<- hlf]at HOP ⊢;have HN:Hid ((tj+2<95/\from_+segs*8<=n/\n<=2048)/\(∀ k∈keys,0<k.size/\k.size<=40)/\keys.length<=segs):=hid ⟨⟨ht,hn,hn2⟩,hok,hle⟩;have HTD:=hid htd;have HBL:=hid hbl;have HBL2:=hid hbl2
 have k1:¬ ((segs:Int)<20):=by omega
 clear hD ht htd hs hs2 hn hn2 hon hpk hok hle hlf hbl hbl2;go_enter Tryz.func225,Tryz.ntmps225
 go_wp2_with fail
 refine HOP.out.mono ?_;rintro e w1 ⟨lp,U1,rfl,a1,a2,a3⟩;have hq:Chg (fun _=>False) w1 U1 (w1.alloc (.cells #[.pointer (some ⟨lp,0,none⟩),.slice none 0 0] 299)) (ext U1 w1 tj):=((Chg.refl _ _ _).alloc _).ext tj;obtain⟨j,hj⟩:∃ j,j=w1.heap.size:=⟨_,rfl⟩
 have HF:Hid (LogAt (w1.alloc (.cells #[.pointer (some ⟨lp,0,none⟩),.slice none 0 0] 299)) (ext U1 w1 tj) (tj+2) lp d from_ segs true lf Z (mbs 0 keys)/\Has (w1.alloc (.cells #[.pointer (some ⟨lp,0,none⟩),.slice none 0 0] 299)) (ext U1 w1 tj) tj j 299 #[.pointer (some ⟨lp,0,none⟩),.slice none 0 0]/\DevAt (w1.alloc (.cells #[.pointer (some ⟨lp,0,none⟩),.slice none 0 0] 299)) (ext U1 w1 tj) td d n Z F/\Chg (fun x=>x%96=tj+2) w U (w1.alloc (.cells #[.pointer (some ⟨lp,0,none⟩),.slice none 0 0] 299)) (ext U1 w1 tj)):=hid
  ⟨a1.keep hq (fun _ e=>e.elim),by rw[hj];exact⟨Blk.new _ _ _,ext_new (Nat.le_refl _)⟩,a2.keep hq id,a3.trans (hq.mono fun _ e=>e.elim)⟩
 have HJJ:=hid hj;clear a1 a2 a3 HOP hq hj
 go_wp2_with fail
 rw[<- HJJ.out];clear HJJ;generalize w1.alloc (.cells #[.pointer (some ⟨lp,0,none⟩),.slice none 0 0] 299)=W3 at *;generalize ext U1 w1 tj=U3 at *;refine(all256 W3 U3 (tj+2) lp d from_ segs true lf Z _ HF.out.1 (by rw[mbs_length];omega) (fun l hl=>by have:=HBL2.out l hl;omega)).mono ?_;rintro e w4 ⟨v,y,U4,rfl,hy,hR,hc4⟩;obtain⟨vs,-,v2,-⟩:=hR.ex;obtain⟨A,cA,rfl,-⟩:=v2.slice
 have hy2:¬ (y=tj\/y=tj+1):=by have:=HN.out.1.1;omega
 have HREC:=hid fun k l hl=>hR.at (T:=fun z=>z=tj\/z=tj+1) hy2 k l hl;have HC4:=hid hc4;have HJL:Hid (JL w4 U4 tj j lp lf keys 0 w4):=hid ⟨U4,_,HF.out.2.1.keep hc4 id,Rw.nil _ _ _ _ _,Chg.refl _ _ _⟩;rw[mbs_length];clear hR hc4 hy vs v2 hy2
 go_wp2
 go_loopw [38] (fun i wr=>∃ k:Nat,k<=keys.length/\i=.int .i64 (k:Int)/\JL w4 U4 tj j lp lf keys k wr) (fun i _=>keys.length-(intOf i).toNat)
 case atStart=>exact⟨0,Nat.zero_le _,rfl,HJL.out⟩
 case round=>
  obtain⟨k,hk,rfl,hol⟩:=hrel;obtain⟨U',vM,h1,h2,h4⟩:=hol.ex;clear hol HJL
  by_cases hlt:k<keys.length
  ·obtain⟨l,hl⟩:∃ l,(mbs 0 keys)[k]? = some l:=⟨_,List.getElem?_eq_getElem (by rw[mbs_length];exact hlt)⟩
   obtain⟨q,hq,hlq⟩:=HBL.out k l hl;obtain⟨B,o,Yb,cy,rfl,y0,y1,y2,hW⟩:=HREC.out k l hl;obtain⟨d1,d2,d3,d4⟩:=hW wr U' h4;obtain⟨A',c',rfl,-,-,-,hsA,hA0,-⟩:=h2.slice
   have k2:(0:Int)<=(k:Int):=by omega
   have k3:(k:Int)<(keys.length:Int):=by omega
   have k4:(k:Int)<=62:=by omega
   have hll:l.length=1+q.size:=by rw[hlq,List.length_cons];have e:q.data.toList.length=q.size:=Array.length_toList;omega
   obtain⟨b1,hb1⟩:∃ b,b=wr.heap.size:=⟨_,rfl⟩;obtain⟨wa,hwa⟩:∃ W,W=wr.alloc (.cells #[.int .i64 ((pz lf k:Nat):Int),.slice (some ⟨Yb,0,none⟩) l.length cy] 359):=⟨_,rfl⟩
   have hqa:Chg (fun _=>False) wr U' wa (ext U' wr 95):=by rw[hwa];exact((Chg.refl _ _ _).alloc _).ext 95
   have hka:Has wa (ext U' wr 95) 95 b1 359 #[.int .i64 ((pz lf k:Nat):Int),.slice (some ⟨Yb,0,none⟩) l.length cy]:=by rw[hwa,hb1];exact⟨Blk.new _ _ _,ext_new (Nat.le_refl _)⟩
   have hsl:Sl wa (some ⟨Yb,0,none⟩) (ub l):=d3.keep hqa.below
   have hc0:wa.cell? ⟨Yb,0,none⟩=some (.int .u8 ((2*(k+1):Nat):Int)):=by
    obtain⟨b',o',e,hcc⟩:=hsl (by rw[hlq];simp[ub])
    cases e
    have:=hcc 0 (.int .u8 ((u8n (k+1)).toNat:Int)) (by rw[hlq];simp[ub]);rw[u8n_val _ (by omega)]at this;exact this
   have hj1:=h1.keep hqa id;have hr1:=h2.keep hqa id;have HSQ:=hid (seq188 wa (ext U' wr 95) lf j lp k (tj+1) _ (keys.take k) (hj1.cell 1) hr1 (by rw[List.length_take];omega) (by omega));have HGN:=hid (getN_any wa Yb 0 l.length cy (k+1) (by omega) (by omega) hc0);have HO:=hid (And.intro h4 (And.intro hqa (And.intro hj1 (And.intro hr1 (And.intro hka (And.intro hsl hll))))));have HWA:=hid (And.intro hwa hb1);have HQQ:=hid (And.intro hq (And.intro hl hlq));have c1:wa.cell? ⟨j,1,none⟩=some (.slice A' k c'):=hj1.cell 1;have HHW:=hid hW;have HYY:=hid (And.intro y0 (And.intro y1 y2));clear h1 h2 h4 hqa hka hwa hb1 hsl hc0 hj1 hr1 d3 d4 hll hW hq hl hlq hsA hA0 y0 HREC
   go_wp2_with fail
   rw[<- HWA.out.1,<- HWA.out.2];refine HGN.out.mono ?_;rintro e wb ⟨rfl,rfl⟩;clear HGN d1 d2
   go_upto_region 13 with fail
   go_cut [65] (fun s65 wx=>s65=.bool true/\∃ m,wx=wa.drewN m)
   case first=>
    rcases Nat.eq_zero_or_pos k with h0|h0
    ·subst h0
     go_wp2_with fail
     go_meet
     exact⟨rfl,0,rfl⟩
    ·have e1:((k:Int) == 0)=false:=by rw[beq_eq_false_iff_ne];omega
     have e2:¬ k=0:=by omega
     go_wp2_with fail
     refine HSQ.out.mono ?_;rintro e wb ⟨rfl,m,rfl⟩
     go_wp2_with fail
     go_meet
     exact⟨rfl,m,rfl⟩
   case rest=>
    obtain⟨rfl,m,rfl⟩:=hcut;obtain⟨h4,hqa,hj1,hr1,hka,hsl,hll⟩:=HO.out;obtain⟨hq,hl,hlq⟩:=HQQ.out;have hqs:=HN.out.2.1 q (List.mem_of_getElem? hq)
    have hconv:∀ W U2,Chg (· = tj+1) wa (ext U' wr 95) W U2->(convert 74 9 (.slice (some ⟨Yb,1,none⟩) q.size (cy-1))).run Tryz.prog W=.ok (.string q) W:=fun W U2 hc=>by
     obtain⟨-,-,z3,-⟩:=HHW.out W U2 ((h4.trans (hqa.mono fun _ e=>e.elim)).trans (hc.mono fun _ e=>.inr e))
     have h:=run_convert_bytes_back (P:=Tryz.prog) W 74 9 5 ⟨Yb,1,none⟩ (cy-1) q.data.toList (by kernel_rfl) (by kernel_rfl) (by kernel_rfl) (fun i hi=>by
      obtain⟨b',o',e,hcc⟩:=z3 (by rw[hlq];simp[ub])
      cases e
      rw[add_none];have:=hcc (1+i) (.int .u8 ((q.data.toList[i]).toNat:Int)) (by rw[hlq];simp only[ub,List.map_cons];rw[show 1+i=i+1 from Nat.add_comm 1 i,List.getElem?_cons_succ,List.getElem?_map,List.getElem?_eq_getElem hi];rfl)
      rwa [Nat.zero_add]at this)
     have e1:q.data.toList.length=q.size:=Array.length_toList
     have e2:(⟨q.data.toList.toArray⟩:ByteArray)=q:=by cases q;rfl
     rw[e1,e2]at h;exact h
    obtain⟨wb,hwb⟩:∃ W,W=wa.drewN m:=⟨_,rfl⟩
    have hcb:Chg (fun _=>False) wa (ext U' wr 95) wb.drew (ext U' wr 95):=by rw[hwb];exact((Chg.refl _ _ _).drewN m).drewN 1
    rw[<- hwb];clear hwb;generalize ext U' wr 95=Ua at *;have HJ0:Hid (∀ W U2,Chg (· = tj+1) wa Ua W U2->JlS j b1 Yb k c' l.length cy ((pz lf k:Nat):Int) A' q W):=hid fun W U2 hc=>⟨(hj1.keep hc (by omega)).cell 1,(hka.keep hc (by have:=HN.out.1.1;omega)).cell 0,(hka.keep hc (by have:=HN.out.1.1;omega)).cell 1,hconv W U2 hc⟩;have S0:Hid (JlS j b1 Yb k c' l.length cy ((pz lf k:Nat):Int) A' q wb.drew):=hid (HJ0.out _ _ (hcb.mono fun _ e=>e.elim));have hca:Chg (fun _=>False) wb.drew Ua (wb.drew.alloc (.cells #[.int .i64 ((k:Int)+1),.string q,.int .i64 ((pz lf k:Nat):Int)] 301)) Ua:=(Chg.refl _ _ _).alloc _;have hrow:=(hr1.keep hcb id).keep hca id;have HRW:=hid hrow;have HCA:=hid (hcb.trans hca);have HTK:Hid (keys.take (k+1)=keys.take k++[q]/\(keys.take k).length=k):=hid ⟨by rw[List.take_add_one,hq];rfl,by rw[List.length_take];omega⟩;have HH2:=hid (And.intro h4 (And.intro hqa hj1));obtain⟨i1,z1,hi1⟩:=info_cells info301;have HI:=hid hi1;have y9:=HYY.out
    have n1:cy≠1:=by have:=hqs.1;omega
    have n2:(1:Int)<=(l.length:Int):=by omega
    have n3:(l.length:Int)<=(cy:Int):=by omega
    have n4:(1:Int)<=(q.size:Int)+1:=by omega
    have n5:(1:Int)<=1+(q.size:Int):=by omega
    clear hconv hcb hca hrow h4 hqa hj1 hr1 hka hsl hi1 y9 hq hl
    go_upto_region 14 with fail
    refine wp_region_hl [15,16] [0,1,2,3,4,5,6,7,8,9,10,11,12,13,14,15,16] (JlS j b1 Yb k c' l.length cy ((pz lf k:Nat):Int) A' q) (by kernel_rfl) (by kernel_rfl) S0.out ?_
    iterate 15 (refine hd_take (v:=?_) rfl rfl (by kernel_rfl) (fun W hW=>?_) ?_;rotate_left;(obtain⟨r0,r1,r2,r3⟩:=hW;first|(go_simp;done)|(go_simp;with_reducible rfl)))
    refine hd_loud rfl rfl fun K hK=>?_;go_simp;refine hK _ _ (HJ0.out _ _ (HCA.out.mono fun _ e=>e.elim)) ?_;clear hK;refine hd_loud rfl rfl fun K hK=>?_;refine step_append_row2 _ rfl (.tmp 70) (.tmp 81) 297 rfl _ (tj+1) 301 i1 z1 3 32 (by kernel_rfl) HI.out.1 HI.out.2.1 HI.out.2.2.2.1 HI.out.2.2.2.2 (by rw[HI.out.2.2.1];rfl) (by decide) (.slice A' k c') k (mcs lf 0 (keys.take k)) rfl HRW.out ⟨wb.heap.size,0,none⟩ 1 1 _ rfl rfl (by decide) (Blk.new wb.drew 301 #[.int .i64 ((k:Int)+1),.string q,.int .i64 ((pz lf k:Nat):Int)]).sl (by intro u hu;simp at hu;rcases hu with rfl|rfl|rfl <;> rfl) (by omega) (by decide) ?_;intro g' cap w' hR hC hG
    have e1:mcs lf 0 (keys.take k)++[.int .i64 ((k:Int)+1),.string q,.int .i64 ((pz lf k:Nat):Int)]=mcs lf 0 (keys.take (k+1)):=by rw[HTK.out.1,mcs_snoc,HTK.out.2,Nat.zero_add,Int.natCast_succ]
    rw[e1]at hR;have hca:Chg (· = tj+1) wa Ua w' (ext Ua _ (tj+1)):=(HCA.out.mono fun _ e=>e.elim).trans hC;refine hK _ _ (HJ0.out _ _ hca) (hd_end ?_);generalize ext Ua _ (tj+1)=Uw at hR hC hca;have hjw:=HH2.out.2.2.keep hca (by omega);have HJW:=hid (And.intro hjw (And.intro hR hca));have f1:=hjw.frozen 1;have u1:=hjw.cell 1;clear hK hR hC hG hca hjw e1 HJ0 S0 HRW HCA;simp only[zqa,zqb,zqc,zqd,Nat.zero_add,Nat.reduceAdd]
    go_wp2_with fail
    go_roundw
    case rel=>
     obtain⟨a1,a2,a3⟩:=HJW.out;have hcs:Chg (· = tj) w' Uw (w'.setCell ⟨j,1,none⟩ (.slice (some ⟨g',0,none⟩) (k+1) cap)) Uw:=(Chg.refl _ _ _).setCell (p:=⟨j,1,none⟩) a1.own _;refine⟨k+1,by omega,by go_num,⟨Uw,.slice (some ⟨g',0,none⟩) (k+1) cap,?_,a2.keep hcs (by omega),(((HH2.out.1.trans (HH2.out.2.1.mono fun _ e=>e.elim)).trans (a3.mono fun _ e=>.inr e)).trans (hcs.mono fun _ e=>.inl e))⟩⟩;have:=a1.set_ 1 (.slice (some ⟨g',0,none⟩) (k+1) cap)
     simpa using this
    case measure=>simp[intOf];omega
  ·obtain rfl:k=keys.length:=by omega
   rw[List.take_length]at h2;have HO:=hid (And.intro h1 (And.intro h2 h4));clear h1 h2 h4 HREC
   go_wp2
   go_ret2
   obtain⟨h1,h2,h4⟩:=HO.out;obtain⟨i1,-,i4,i5⟩:=HF.out;have hn:=HN.out;have hc:=(HC4.out.mono (T':=fun z=>z=tj\/z=tj+1) fun _ e=>e.elim).trans h4;exact⟨j,U',rfl,⟨⟨lp,true,vM,keys,rfl,hn.2.1,h1,h2,i1.keep hc (fun z e=>by omega)⟩,hn.1.1,hn.1.2,hn.2.2⟩,i4.keep hc (by have:=HTD.out;omega),(i5.mono (T':=fun z=>tj<=z%96/\z%96<=tj+2) fun z e=>by omega).trans (hc.mono (T':=fun z=>tj<=z%96/\z%96<=tj+2) fun z e=>by omega)⟩
end Go.Proofs.Ytlhekbjidppijaa
