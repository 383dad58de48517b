/- Contracts of what TopFall reaches: what each function returns and leaves in memory. Conditions: as named. -/
import Derived.Test.YtlhekbjidppijaaGreatMAV
import Derived.Test.YtlhekbjidppijaaGreatMAW
set_option linter.unusedVariables false
set_option linter.unusedSimpArgs false
set_option maxRecDepth 20000
set_option maxHeartbeats 8000000
namespace Go.Proofs.Ytlhekbjidppijaa
open Lib (hid)
open Go.RowKit
structure Recs (w:World)(U:Own)(y:Nat)(v:Value)(f:Lf)(bodies:List (List UInt8)):Prop where
 ex:∃ vs:List Value,vs.length=bodies.length/\Rw w U y 359 2 v bodies.length (rcells f 0 vs)/\∀ (i:Nat) (l:List UInt8),bodies[i]? = some l->∃ u:Value,vs[i]? = some u/\BodyAt w U y u l
structure AL (w:World)(U:Own)(y:Nat)(v:Value)(f:Lf)(bs:List (List UInt8))(W:World)(U':Own):Prop where
 recs:Recs W U' y v f bs
 hc:Chg (· = y) w U W U'
theorem Recs.keep {T:Nat->Prop}{w w':World}{U U':Own}{y:Nat}{v:Value}{f:Lf}{bs:List (List UInt8)}(h:Recs w U y v f bs)(hc:Chg T w U w' U')(hT:¬ T y):Recs w' U' y v f bs:=by
 obtain⟨vs,a,b,c⟩:=h.ex;exact⟨vs,a,b.keep hc hT,fun i l hl=>by obtain⟨u,h1,h2⟩:=c i l hl;exact⟨u,h1,h2.keep hc hT⟩⟩
theorem AL.quiet {w W W':World}{U U' U2:Own}{y:Nat}{v:Value}{f:Lf}{bs:List (List UInt8)}(h:AL w U y v f bs W U')(hc:Chg (fun _=>False) W U' W' U2):AL w U y v f bs W' U2:=⟨h.recs.keep hc id,h.hc.trans (hc.mono fun _ e=>e.elim)⟩
def AlS (rb:Nat)(p:Nat)(v:Value)(W:World):Prop:=W.cell? ⟨rb,0,none⟩=some (.int .i64 (p:Int))/\W.cell? ⟨rb,1,none⟩=some v
theorem all256 (w:World)(U:Own)(t lp d from_ segs:Nat)(fr:Bool)(f:Lf)(Z:Cont)(bodies:List (List UInt8))(hL:LogAt w U t lp d from_ segs fr f Z bodies)(hm:bodies.length<=1000)(hy3:∀ l∈bodies,l.length<=100000) :
 Calls Tryz.prog 256 #[.pointer (some ⟨lp,0,none⟩)] w fun e w'=>∃ v y U',e=.returned v/\y%96=95/\Recs w' U' y v f bodies/\Chg (fun _=>False) w U w' U':=by
 obtain⟨y,hy1,hy2⟩:=fresh95 w U;obtain⟨S,hS,hfl,hnn,-⟩:=hL.ex;obtain⟨vL,h1,h2⟩:=hS.ex;obtain⟨A,c,rfl,hcc,-,-,hsl,hA,hA2⟩:=h2.slice;have p1:w.cell? ⟨lp,3,none⟩=some (.slice A S.length c):=h1.cell 3
 have hslen:S.length<=1000:=by have:=segs_le S hnn;rw[hfl]at this;omega
 have HSEG:Hid (∀ (k:Nat) (q:Nat × List (List UInt8)),S[k]? = some q->∃ (b a:Nat),A=some ⟨b,a,none⟩/\∃ (X:Option Addr) (cx:Nat) (vs:List Value),vs.length=q.2.length /\
  (∀ W,Below w.heap.size w W->W.cell? ⟨b,a+k,none⟩=some (.pointer (some ⟨q.1,0,none⟩))/\W.cell? ⟨q.1,4,none⟩=some (.slice X q.2.length cx)/\Sl W X (rcells f ((S.take k).flatMap (·.2)).length vs)) /\
  ∀ (i:Nat) (l:List UInt8),q.2[i]? = some l->∃ (Y:Option Addr) (cy:Nat),vs[i]? = some (.slice Y l.length cy)/\(Y=none->l.length=0)/\0<l.length/\l.length<=100000/\∀ W,Below w.heap.size w W->Sl W Y (ub l)):=hid (by
  intro k q hq;have hk:=(List.getElem?_eq_some_iff.1 hq).1
  have e:S.ptrs[k]? = some (ptr q.1):=by simp[Segs.ptrs,hq]
  have hne:S.ptrs≠[]:=by intro h;rw[h]at e;cases e
  obtain⟨b,a,rfl,-⟩:=hsl hne;refine⟨b,a,rfl,?_⟩;obtain⟨bvv,rr,rvv,vs,a1,-,-,a5,a6,a7⟩:=(hS.seg k q hq).ex;obtain⟨X,cx,rfl,-,-,-,hx,-,-⟩:=a5.slice;refine⟨X,cx,vs,a6,fun W hbl=>⟨?_,?_,hx.keep hbl⟩,fun i l hl=>?_⟩
  ·obtain⟨b',a',e',hc⟩:=(hsl.keep hbl) hne
   cases e'
   exact hc _ _ e
  ·exact(hbl.cell (p:=⟨q.1,4,none⟩) a1.lt).trans (a1.cell 4)
  ·obtain⟨v',hv',hbd⟩:=a7 i l hl
   obtain⟨Y,cy,rfl,-,-,-,h5,h6,-⟩:=hbd.row.slice
   exact⟨Y,cy,hv',fun e=>(h6 e).1,hbd.pos,hy3 l (by rw[<- hfl];exact List.mem_flatMap.2 ⟨q,List.mem_of_getElem? hq,List.mem_of_getElem? hl⟩),fun W hbl=>h5.keep hbl⟩)
 have HFL:Hid (S.flatMap (·.2)=bodies/\S.length<=1000/\bodies.length<=1000):=hid ⟨hfl,hslen,hm⟩;have HFR:Hid (∀ W U',Chg (· = y) w U W U'->Chg (fun _=>False) w U W U'):=hid fun W U' h=>h.fresh fun i hi e=>hy2 i hi e;have HP1:Hid (w.cell? ⟨lp,3,none⟩=some (.slice A S.length c)/\lp<w.heap.size):=hid ⟨p1,h1.lt⟩;have HY:=hid hy1;clear hL hS h1 h2 hcc hsl hA hA2 hnn hfl hy1 hy2 hy3;go_enter Tryz.func256,Tryz.ntmps256
 go_wp2
 go_loopw [3,15] (fun o i wr=>∃ (k:Nat) (U':Own),k<=S.length/\i=.int .i64 k/\AL w U y o f ((S.take k).flatMap (·.2)) wr U') (fun _ i _=>S.length-(intOf i).toNat)
 case atStart=>exact⟨0,U,Nat.zero_le _,rfl,⟨[],rfl,Rw.nil _ _ _ _ _,fun i l hl=>by simp at hl⟩,Chg.refl _ _ _⟩
 case round=>
  obtain⟨k,U',hk,rfl,hal⟩:=hrel;have HAL:=hid hal;clear hal p1
  by_cases hlt:k<S.length
  ·obtain⟨q,hq⟩:∃ q,S[k]? = some q:=⟨_,List.getElem?_eq_getElem hlt⟩
   obtain⟨b,a,rfl,X,cx,vs,hv1,hW,hbd⟩:=HSEG.out k q hq;obtain⟨c1,c2,-⟩:=hW wr (HFR.out _ _ HAL.out.hc).below;have HQ:=hid hq;have HW:=hid hW;have HBD:=hid hbd;have HV1:=hid hv1
   have k1:(k:Int)<(S.length:Int):=by omega
   have k2:(0:Int)<=(k:Int):=by omega
   have hfa:=flat_at S k q hq
   have hql:q.2.length<=1000:=by
    have h2:=congrArg (fun x=>(x.flatMap (·.2)).length) (List.take_append_drop (k+1) S);simp only[List.flatMap_append,List.length_append]at h2;rw[hfa,List.length_append,HFL.out.1]at h2;have:=HFL.out.2.2;omega
   have HFA:=hid hfa;obtain⟨bb,hbb⟩:∃ bb,bb=(S.take k).flatMap (·.2):=⟨_,rfl⟩;rw[<- hbb]at HAL HW HFA;clear hW hbd hv1 hfa hbb hq;obtain⟨g,bs⟩:=q;replace c1:wr.cell? ⟨b,a+k,none⟩=some (.pointer (some ⟨g,0,none⟩)):=c1;replace c2:wr.cell? ⟨g,4,none⟩=some (.slice X bs.length cx):=c2;replace hql:bs.length<=1000:=hql
   go_wp2_with fail
   clear c1 c2
   go_loopw [3,24] (fun o i wr=>∃ (j:Nat) (U':Own),j<=bs.length/\i=.int .i64 j/\AL w U y o f (bb++bs.take j) wr U') (fun _ i _=>bs.length-(intOf i).toNat)
   case atStart=>exact⟨0,U',Nat.zero_le _,rfl,by rw[List.take_zero,List.append_nil];exact HAL.out⟩
   case round=>
    obtain⟨j,U',hj,rfl,hal⟩:=hrel;clear HAL;have HAL:=hid hal;clear hal
    by_cases hlj:j<bs.length
    ·have j1:(j:Int)<(bs.length:Int):=by omega
     have j2:(0:Int)<=(j:Int):=by omega
     obtain⟨l,hl⟩:∃ l,l=bs[j]:=⟨_,rfl⟩;obtain⟨Y,cy,hvy,hy0,hl0,hl1,hys⟩:=HBD.out j l (by rw[hl];exact List.getElem?_eq_getElem hlj);have hbl:=(HFR.out _ _ HAL.out.hc).below;obtain⟨-,-,d3⟩:=HW.out wr hbl;obtain⟨hvl,hve⟩:=List.getElem?_eq_some_iff.1 hvy;have hrg:=rcells_get f bb.length vs j hvl;rw[hve]at hrg;obtain⟨B,o,rfl,hcx⟩:=d3 (by intro e;rw[e]at hrg;simp at hrg);have d1:=hcx _ _ hrg.1;have d2:=hcx _ _ hrg.2;rw[<- Nat.add_assoc]at d2;rw[Nat.mul_comm]at d1 d2;obtain⟨p,hp⟩:∃ p,p=pz f (bb.length+j):=⟨_,rfl⟩;rw[<- hp]at d1;have HPL:=hid (And.intro hp (And.intro hl hvl));clear hcx d3 hrg hve hp hl hvy hvl
     go_wp2_with fail
     obtain⟨rb,hrb⟩:∃ b,b=wr.heap.size:=⟨_,rfl⟩;obtain⟨w1,hw1⟩:∃ W,W=wr.alloc (.cells #[.int .i64 (p:Int),.slice Y l.length cy] 359):=⟨_,rfl⟩;rw[<- hw1,<- hrb]
     have hq:Chg (fun _=>False) wr U' w1 (ext U' wr 95):=by rw[hw1];exact((Chg.refl _ _ _).alloc _).ext 95
     have HA1:=hid ((HAL.out.quiet hq).quiet (Chg.refl (fun _=>False) w1 (ext U' wr 95)).drew)
     have hbk:Has w1.drew (ext U' wr 95) 95 rb 359 #[.int .i64 (p:Int),.slice Y l.length cy]:=by rw[hw1,hrb];exact⟨(Blk.new _ _ _).drewN 1,ext_new (Nat.le_refl _)⟩
     have S0:Hid (AlS rb p (.slice Y l.length cy) w1.drew):=hid ⟨hbk.cell 0,hbk.cell 1⟩;have HBK:=hid hbk;clear hq hbk hw1 hrb d1 d2 hbl;generalize ext U' wr 95=U1 at *;refine wp_region_hl [5,7] [0,1,2,3,4,5,6,7] (AlS rb p (.slice Y l.length cy)) (by kernel_rfl) (by kernel_rfl) S0.out ?_
     iterate 5 (refine hd_take (v:=?_) rfl rfl (by kernel_rfl) (fun W hW=>?_) ?_;rotate_left;(obtain⟨r0,r1⟩:=hW;first|(go_simp;done)|(go_simp;with_reducible rfl)))
     refine hd_loud rfl rfl fun K hK=>?_;go_simp;refine(clone172 w1.drew Y l.length cy (ub l) (by simp[ub_length]) (hys _ (HFR.out _ _ HA1.out.hc).below) (ub_one l) hy0 (by omega)).mono ?_;rintro e w5 ⟨u,rfl,ho,hbl⟩;have hch:=Chg.of_below (T:=fun _=>False) (U:=U1) hbl y;have hbd5:BodyAt w5 (ext U1 w1.drew y) y u l:=⟨Rw.of_new ho (Nat.le_refl _) U1 y,hl0⟩;obtain⟨Av,cv,rfl,-⟩:=hbd5.row.slice;have H5:=hid (And.intro (HA1.out.quiet hch) (And.intro hbd5 (HBK.out.keep hch id)));refine hK _ _ ⟨H5.out.2.2.cell 0,H5.out.2.2.cell 1⟩ ?_;clear hK ho hbl hch hbd5;generalize ext U1 w1.drew y=U5 at *;refine hd_take (v:=?_) rfl rfl (by kernel_rfl) (fun W hW=>?_) ?_;rotate_left;(obtain⟨r0,r1⟩:=hW;first|(go_simp;done)|(go_simp;with_reducible rfl));refine hd_loud rfl rfl fun K hK=>?_;go_simp;have hqa:Chg (fun _=>False) w5 U5 (w5.alloc (.cells #[.int .i64 (p:Int),.slice Av l.length cv] 359)) (ext U5 w5 95):=((Chg.refl _ _ _).alloc _).ext 95;have H6:=hid (And.intro (H5.out.1.quiet hqa) (And.intro (H5.out.2.1.keep hqa id) (H5.out.2.2.keep hqa id)));refine hK _ _ ⟨H6.out.2.2.cell 0,H6.out.2.2.cell 1⟩ (hd_end ?_);clear hK hqa;simp only[zqa,zqb,zqc,zqd,Nat.zero_add,Nat.reduceAdd];obtain⟨vs6,g1,g2,g3⟩:=H6.out.1.recs.ex;obtain⟨nn,hnn⟩:∃ nn,nn=(bb++bs.take j).length:=⟨_,rfl⟩;have HL6:Hid (vs6.length=bb.length+j):=hid (by rw[g1,List.length_append,List.length_take,Nat.min_eq_left (Nat.le_of_lt hlj)])
     have g1b:(bb++bs.take j).length<=3000:=by
      have h2:=congrArg (fun x=>(x.flatMap (·.2)).length) (List.take_append_drop (k+1) S);simp only[List.flatMap_append,List.length_append]at h2;rw[HFA.out,List.length_append,HFL.out.1]at h2;have:=HFL.out.2.2;rw[List.length_append,List.length_take];omega
     rw[<- hnn]at g1 g2 g1b;have HNN:=hid hnn;clear hnn
     go_wp2_with (at_builtin;refine wpl_app rfl rfl (ext U5 w5 95) y (by kernel_rfl) info359 rfl (by decide) (by decide) rfl g2 rfl rfl (Blk.new w5 359 #[.int .i64 (p:Int),.slice Av l.length cv]).sl (by intro u hu;simp at hu;rcases hu with rfl|rfl <;> rfl) (by omega) ?_)
     intro b3 cc3 w6 hR hC hG
     have e1:rcells f 0 vs6++[.int .i64 (p:Int),.slice Av l.length cv]=rcells f 0 (vs6++[.slice Av l.length cv]):=by rw[rcells_snoc,Nat.zero_add,HL6.out,<- HPL.out.1]
     have e2:bb++bs.take (j+1)=(bb++bs.take j)++[l]:=by rw[List.take_succ_eq_append_getElem hlj,<- List.append_assoc,<- HPL.out.2.1]
     rw[e1]at hR
     have HNEW:=hid (show AL w U y (.slice (some ⟨b3,0,none⟩) (nn+1) cc3) f (bb++bs.take (j+1)) w6 _ from by
      rw[e2];have hnn:=HNN.out
      have e3:((bb++bs.take j)++[l]).length=nn+1:=by rw[hnn,List.length_append (bs:=[l])];rfl
      refine⟨⟨vs6++[.slice Av l.length cv],by rw[e3,List.length_append,g1];rfl,by rw[e3];exact hR,fun i l' hl'=>?_⟩,H6.out.1.hc.trans hC⟩;have hn:(bb++bs.take j).length=vs6.length:=hnn.symm.trans g1.symm
      by_cases hi:i<(bb++bs.take j).length
      ·rw[List.getElem?_append_left hi]at hl'
       obtain⟨u,h1,h2⟩:=g3 i l' hl';exact⟨u,by rw[List.getElem?_append_left (by omega)];exact h1,⟨h2.row.grown hG (g2.apart h2.row (by decide)) y,h2.pos⟩⟩
      ·have hi2:i=(bb++bs.take j).length:=by
        have:=(List.getElem?_eq_some_iff.1 hl').1;rw[List.length_append]at this;simp only[List.length_cons,List.length_nil]at this;omega
       subst hi2;rw[List.getElem?_append_right (Nat.le_refl _),Nat.sub_self]at hl';simp only[List.getElem?_cons_zero,Option.some.injEq]at hl';subst hl';refine⟨_,?_,⟨H6.out.2.1.row.grown hG (g2.apart H6.out.2.1.row (by decide)) y,H6.out.2.1.pos⟩⟩;rw[hn,List.getElem?_append_right (Nat.le_refl _),Nat.sub_self]
       rfl)
     clear hR hC hG e1 e2 g1 g2 g3 g1b H6 H5 HBK S0 HA1 HL6
     go_wp2
     go_roundw
     case rel=>exact⟨j+1,_,by omega,by go_num,HNEW.out⟩
     case measure=>simp[intOf];omega
    ·obtain rfl:j=bs.length:=by omega
     go_wp2
     go_roundw
     case rel=>exact⟨k+1,U',by omega,by go_num,by rw[HFA.out];have:=HAL.out;rwa [List.take_length]at this⟩
     case measure=>simp[intOf];omega
  ·obtain rfl:k=S.length:=by omega
   go_wp2
   go_ret;exact⟨_,y,U',rfl,HY.out,by have:=HAL.out.recs;rwa [List.take_length,HFL.out.1]at this,HFR.out _ _ HAL.out.hc⟩
theorem Recs.at {T:Nat->Prop}{w:World}{U:Own}{y cA:Nat}{A:Option Addr}{f:Lf}{bodies:List (List UInt8)}(h:Recs w U y (.slice A bodies.length cA) f bodies)(hT:¬ T y)(k:Nat)(l:List UInt8)(hl:bodies[k]? = some l) :
 ∃ B o Yb cy,A=some ⟨B,o,none⟩/\1<=l.length/\l.length<=cy/\cy<=9223372036854775807/\∀ W U',Chg T w U W U' ->
  W.cell? ⟨B,o+k*2,none⟩=some (.int .i64 ((pz f k:Nat):Int))/\W.cell? ⟨B,o+k*2+1,none⟩=some (.slice (some ⟨Yb,0,none⟩) l.length cy)/\Sl W (some ⟨Yb,0,none⟩) (ub l)/\Yb<W.heap.size:=by
 obtain⟨vs,v1,v2,v3⟩:=h.ex;obtain⟨u,hu,hb⟩:=v3 k _ hl;obtain⟨Y,cy,rfl,y1,y2,-,y3,y4,y5⟩:=hb.row.slice;have hp:=hb.pos
 cases Y with
 | none=>have:=(y4 rfl).1;omega
 | some Y=>
  obtain⟨yo,ys,yl,-⟩:=y5 Y rfl;obtain⟨Yb,Yo,Ys⟩:=Y;obtain rfl:Yo=0:=yo;obtain rfl:Ys=none:=ys;obtain⟨vl,ve⟩:=List.getElem?_eq_some_iff.1 hu;have hrg:=rcells_get f 0 vs k vl;rw[ve,Nat.zero_add]at hrg
  have hq:∀ W U',Chg T w U W U'->Sl W A (rcells f 0 vs)/\Sl W (some ⟨Yb,0,none⟩) (ub l)/\Yb<W.heap.size:=fun W U' hc=>by
   obtain⟨A',c',e',-,-,-,z3,-⟩:=(v2.keep hc hT).slice
   cases e'
   obtain⟨A2,c2,e2,-,-,-,z4,-⟩:=(hb.row.keep hc hT).slice
   cases e2
   exact⟨z3,z4,Nat.lt_of_lt_of_le yl hc.size⟩
  obtain⟨B,o,rfl,-⟩:=(hq w U (Chg.refl _ _ _)).1 (by intro e;rw[e]at hrg;simp at hrg);refine⟨B,o,Yb,cy,rfl,hp,y1,by unfold maxLen at y2;omega,fun W U' hc=>?_⟩;obtain⟨z1,z2,z3⟩:=hq W U' hc;obtain⟨B',o',e',hcx⟩:=z1 (by intro e;rw[e]at hrg;simp at hrg)
  cases e'
  have d1:=hcx _ _ hrg.1;have d2:=hcx _ _ hrg.2;rw[<- Nat.add_assoc]at d2;rw[Nat.mul_comm]at d1 d2;exact⟨d1,d2,z2,z3⟩
theorem used_append (a b:List (List UInt8)):used (a++b)=used a+used b:=by
 induction a with
 | nil=>simp[used]
 | cons x a ih=>simp only[List.cons_append,used,ih];omega
theorem segB_append (f:Lf)(b:Nat)(xs ys:List (List UInt8)):segB f b (xs++ys)=segB f b xs++segB f (b+xs.length) ys:=by
 induction xs generalizing b with
 | nil=>simp[segB]
 | cons x xs ih=>simp only[List.cons_append,segB,ih,List.length_cons,List.append_assoc];rw[show b+1+xs.length=b+(xs.length+1) by omega]
theorem segB_at (f:Lf)(b:Nat)(ls:List (List UInt8))(j:Nat)(hj:j<ls.length):∃ r,(segB f b ls).drop (used (ls.take j))=recB (pz f (b+j)) ls[j]++r:=by
 have e:ls=ls.take j++ls[j] :: ls.drop (j+1):=by rw[<- List.drop_eq_getElem_cons hj,List.take_append_drop]
 have h:segB f b ls=segB f b (ls.take j)++(recB (pz f (b+j)) ls[j]++segB f (b+j+1) (ls.drop (j+1))):=by
  have h2:=congrArg (segB f b) e;rw[segB_append,segB,List.length_take,Nat.min_eq_left (Nat.le_of_lt hj)]at h2;exact h2
 refine⟨segB f (b+j+1) (ls.drop (j+1)),?_⟩;rw[h,<- segB_len f b (ls.take j),List.drop_left]
theorem used_take (ls:List (List UInt8))(j:Nat)(hj:j<ls.length):used (ls.take (j+1))=used (ls.take j)+8+ls[j].length/\used (ls.take (j+1))<=used ls:=by
 have e:ls=ls.take j++ls[j] :: ls.drop (j+1):=by rw[<- List.drop_eq_getElem_cons hj,List.take_append_drop]
 have h1:used (ls.take (j+1))=used (ls.take j)+8+ls[j].length:=by rw[List.take_succ_eq_append_getElem hj,used_append];simp only[used];omega
 refine⟨h1,?_⟩;have h2:=congrArg used e;rw[used_append,used]at h2;omega
theorem recB_parts (p:Nat)(l:List UInt8)(r:List Nat):(recB p l++r).take 2=be 2 l.length/\((recB p l++r).drop 2).take 6=be 6 p/\((recB p l++r).drop 8).take l.length=l.map UInt8.toNat:=by
 unfold recB;refine⟨?_,?_,?_⟩
 ·rw[List.append_assoc,List.append_assoc,List.take_left' (be_len _ _)]
 ·rw[List.append_assoc,List.append_assoc,List.drop_left' (be_len _ _),List.take_left' (be_len _ _)]
 ·rw[List.append_assoc,List.drop_left' (by rw[List.length_append,be_len,be_len]),List.take_left' (by simp)]
structure RC (w:World)(U:Own)(tg tb g k rn nb c base:Nat)(f:Lf)(B:Option Addr)(bodies:List (List UInt8))(vs:List Value)(rv rvr:Value)(j:Nat)(W:World)(U':Own):Prop where
 hg:Has W U' tg g 353 #[.int .i64 ((k+1:Nat):Int),.int .i64 ((pz f base:Nat):Int),.int .i64 (rn:Int),.slice B nb c,rv]
 hb:Rw W U' tg 5 1 (.slice B nb c) nb (bv (segB f base bodies))
 hq:Rw W U' tg 359 2 rvr j (rcells f base vs)
 hl:vs.length=j
 hv:∀ (i:Nat) (l:List UInt8),(bodies.take j)[i]? = some l->∃ v:Value,vs[i]? = some v/\BodyAt W U' tb v l
 hc:Chg (· = tg) w U W U'
section
variable {w W W' : World} {U U' U2 : Own} {tg tb g k rn nb c base j : Nat} {f : Lf} {B : Option Addr} {bodies : List (List UInt8)} {vs : List Value} {rv rvr : Value}
theorem RC.quiet (h:RC w U tg tb g k rn nb c base f B bodies vs rv rvr j W U')(hc:Chg (fun _=>False) W U' W' U2):RC w U tg tb g k rn nb c base f B bodies vs rv rvr j W' U2:=
 ⟨h.hg.keep hc id,h.hb.keep hc id,h.hq.keep hc id,h.hl,fun i l hl=>by obtain⟨v,a,b⟩:=h.hv i l hl;exact⟨v,a,b.keep hc id⟩,h.hc.trans (hc.mono fun _ e=>e.elim)⟩
theorem RC.drewN (h:RC w U tg tb g k rn nb c base f B bodies vs rv rvr j W U')(m:Nat):RC w U tg tb g k rn nb c base f B bodies vs rv rvr j (W.drewN m) U':=h.quiet ((Chg.refl _ _ _).drewN m)
theorem RC.setG (h:RC w U tg tb g k rn nb c base f B bodies vs rv rvr j W U')(htb:tb≠tg)(i:Nat)(u rv':Value)
 (he:(#[.int .i64 ((k+1:Nat):Int),.int .i64 ((pz f base:Nat):Int),.int .i64 (rn:Int),.slice B nb c,rv]:Array Value).setIfInBounds i u=#[.int .i64 ((k+1:Nat):Int),.int .i64 ((pz f base:Nat):Int),.int .i64 (rn:Int),.slice B nb c,rv']) :
 RC w U tg tb g k rn nb c base f B bodies vs rv' rvr j (W.setCell ⟨g,i,none⟩ u) U':=by
 have hc:Chg (· = tg) W U' (W.setCell ⟨g,i,none⟩ u) U':=(Chg.refl _ W U').setCell (p:=⟨g,i,none⟩) h.hg.own u;refine⟨by have:=h.hg.set_ i u;rwa [he]at this,h.hb.far_ne (p:=⟨g,i,none⟩) (h.hb.not h.hg (.inr (by decide))) u,h.hq.far_ne (p:=⟨g,i,none⟩) (h.hq.not h.hg (.inr (by decide))) u,h.hl,fun i l hl=>?_,h.hc.trans hc⟩;obtain⟨v,a,b⟩:=h.hv i l hl;exact⟨v,a,b.keep hc htb⟩
theorem RC.app (h:RC w U tg tb g k rn nb c base f B bodies vs rv rvr j W U')(htb:tb≠tg)(hj:j<bodies.length){v u:Value}(hu:BodyAt W U' tb u bodies[j])
 (hR:Rw W' (ext U' W tg) tg 359 2 v (j+1) (rcells f base (vs++[u])))(hc:Chg (· = tg) W U' W' (ext U' W tg))(hg:W.grownBy W' rvr.ownBlock) :
 RC w U tg tb g k rn nb c base f B bodies (vs++[u]) rv v (j+1) W' (ext U' W tg):=by
 refine⟨h.hg.grown hg (h.hq.not h.hg (.inr (by decide))) _,h.hb.grown hg (h.hq.apart h.hb (by decide)) _,hR,by rw[List.length_append,h.hl];rfl,fun i l hl=>?_,h.hc.trans hc⟩;rw[List.take_succ_eq_append_getElem hj]at hl
 have htl:(bodies.take j).length=j:=by rw[List.length_take];omega
 by_cases hi:i<j
 ·rw[List.getElem?_append_left (by omega)]at hl
  obtain⟨v,a,b⟩:=h.hv i l hl;exact⟨v,by rw[List.getElem?_append_left (by rw[h.hl];exact hi)];exact a,b.keep hc htb⟩
 ·have hi2:i=j:=by
   have:=(List.getElem?_eq_some_iff.1 hl).1;rw[List.length_append,htl]at this;simp at this;omega
  subst hi2;rw[List.getElem?_append_right (by omega),htl,Nat.sub_self]at hl;simp only[List.getElem?_cons_zero,Option.some.injEq]at hl;subst hl;refine⟨u,?_,hu.keep hc htb⟩;rw[List.getElem?_append_right (by rw[h.hl];exact Nat.le_refl _),h.hl,Nat.sub_self];rfl
end
def RcS (g nb c:Nat)(B:Option Addr)(rv:Value)(W:World):Prop:=W.cell? ⟨g,3,none⟩=some (.slice B nb c)/\W.cell? ⟨g,4,none⟩=some rv
theorem rec297 (w:World)(U:Own)(tg tb g k rn base c:Nat)(f:Lf)(B:Option Addr)(bodies:List (List UInt8))(htb:tb≠tg)(hu:used bodies<=378)(hbase:base<=100000)(hbs:bodies.length<=1000)(hok:∀ l∈bodies,1<=l.length/\l.length<=300)
 (hG:Has w U tg g 353 #[.int .i64 ((k+1:Nat):Int),.int .i64 ((pz f base:Nat):Int),.int .i64 (rn:Int),.slice B (used bodies) c,.slice none 0 0])(hB:Rw w U tg 5 1 (.slice B (used bodies) c) (used bodies) (bv (segB f base bodies))) :
 Calls Tryz.prog 297 #[.pointer (some ⟨g,0,none⟩)] w fun e w'=>(∃ v,e=.returned v)/\∃ U',SegAt w' U' tg tb g k f base bodies/\Chg (· = tg) w U w' U':=by
 obtain⟨nb,hnb⟩:∃ nb,nb=used bodies:=⟨_,rfl⟩;rw[<- hnb]at hG hB hu;have HB0:Hid (RC w U tg tb g k rn nb c base f B bodies [] (.slice none 0 0) (.slice none 0 0) 0 w U):=hid ⟨hG,hB,Rw.nil _ _ _ _ _,rfl,fun i l hl=>by simp at hl,Chg.refl _ _ _⟩;have HT:Hid (tb≠tg/\nb<=378/\bodies.length<=1000/\nb=used bodies):=hid ⟨htb,hu,hbs,hnb⟩;have HOK:=hid hok;have HBA:=hid hbase
 have HCAP:Hid (nb<=c/\(0<nb->∃ ab,B=some ⟨ab,0,none⟩)/\c<=maxLen):=hid (by
  obtain⟨A,c',e,h1,h2,-,-,h3,h4⟩:=hB.slice
  cases e
  refine⟨h1,fun hp=>?_,h2⟩
  cases B with
  | none=>exact absurd (h3 rfl).1 (by omega)
  | some a=>
   obtain⟨b,o,s⟩:=a;obtain⟨rfl,rfl,_⟩:=h4 _ rfl
   exact⟨b,rfl⟩)
 clear hG hB htb hu hbs hok hbase hnb;go_enter Tryz.func297,Tryz.ntmps297
 go_wp2_with fail
 go_loopw [2] (fun i wr=>∃ (j:Nat) (vs:List Value) (rv:Value) (U4:Own),j<=bodies.length/\i=.int .i64 ((used (bodies.take j):Nat):Int)/\RC w U tg tb g k rn nb c base f B bodies vs rv rv j wr U4) (fun i _=>400-(intOf i).toNat)
 case atStart=>exact⟨0,[],_,U,Nat.zero_le _,rfl,HB0.out⟩
 case round=>
  obtain⟨j,vs,rv,U4,hj,rfl,hrc⟩:=hrel;clear HB0;have HB:=hid hrc;clear hrc;have c3:=HB.out.hg.cell 3
  by_cases hlt:j<bodies.length
  ·obtain⟨at_,hat⟩:∃ a,a=used (bodies.take j):=⟨_,rfl⟩
   obtain⟨body,hbody⟩:∃ b,b=bodies[j]:=⟨_,rfl⟩;obtain⟨m,hm⟩:∃ m,m=body.length:=⟨_,rfl⟩;obtain⟨p,hp⟩:∃ p,p=pz f (base+j):=⟨_,rfl⟩;have hut:=used_take bodies j hlt;rw[<- hat,<- hbody,<- hm,<- HT.out.2.2.2]at hut;have hmo:=HOK.out bodies[j] (List.getElem_mem hlt);rw[<- hbody,<- hm]at hmo;have hn:=HT.out.2.1;have hc:=HCAP.out.1;obtain⟨ab,rfl⟩:=HCAP.out.2.1 (by omega);obtain⟨r,hr⟩:=segB_at f base bodies j hlt;rw[<- hat,<- hbody,<- hp]at hr;obtain⟨r1,r2,r3⟩:=recB_parts p body r
   have hp6:p<256 ^ 6:=by have:=pz_le f (base+j);have:=HBA.out;have:=HT.out.2.2.1;omega
   rw[<- hat];obtain⟨lb,hlb⟩:∃ l,l=segB f base bodies:=⟨_,rfl⟩;rw[<- hlb]at hr;have HG2:Hid (∀ W,Sl W (some ⟨ab,0,none⟩) (bv lb)->Calls Tryz.prog 295 #[.slice (some ⟨ab,at_,none⟩) 2 (c-at_)] W fun e w'=>e=.returned (.int .u64 (m:Int))/\W=w'):=hid fun W h=>get_part W ab at_ 2 (c-at_) m lb h (by rw[hr,r1,hm]) (by omega) (by decide);have HG6:Hid (∀ W,Sl W (some ⟨ab,0,none⟩) (bv lb)->Calls Tryz.prog 295 #[.slice (some ⟨ab,at_+2,none⟩) 6 (c-(at_+2))] W fun e w'=>e=.returned (.int .u64 (p:Int))/\W=w'):=hid fun W h=>get_part W ab (at_+2) 6 (c-(at_+2)) p lb h (by rw[<- List.drop_drop,hr,r2]) hp6 (by decide)
   have HBD:Hid (∀ W,Sl W (some ⟨ab,0,none⟩) (bv lb)->Sl W (some ⟨ab,at_+8,none⟩) (ub body)):=hid fun W h=>by
    have h1:=sl_part h (at_+8) m;rw[<- List.drop_drop,hr,hm,r3]at h1
    have e:ub body=bv (body.map UInt8.toNat):=by simp[ub,bv]
    rwa [e]
   have HSL:Hid (∀ W U' vs rv rvr j,RC w U tg tb g k rn nb c base f (some ⟨ab,0,none⟩) bodies vs rv rvr j W U'->Sl W (some ⟨ab,0,none⟩) (bv lb)):=hid fun W U' vs rv rvr j h=>by
    rw[hlb];obtain⟨A,c',e,h1,h2,-,h3,-⟩:=h.hb.slice
    cases e
    exact h3
   have HM:Hid (at_=used (bodies.take j)/\body=bodies[j]/\m=body.length/\p=pz f (base+j)):=hid ⟨hat,hbody,hm,hp⟩;have HU:=hid hut;have HC:=hid hc
   have k1:(8:Int)<=(nb:Int)-(at_:Int):=by omega
   have k2:(0:Int)<=(at_:Int):=by omega
   have k3:(at_:Int)+2<=(c:Int):=by omega
   have k4:(at_:Int)+8<=(c:Int):=by omega
   have k5:(at_:Int)+8+(m:Int)<=(c:Int):=by omega
   have k6:c≠at_:=by omega
   have k7:c≠at_+2:=by omega
   have k8:c≠at_+8:=by omega
   have k9:(at_:Int)<=400:=by omega
   have k10:(nb:Int)<=400:=by omega
   have m1:(1:Int)<=(m:Int):=by omega
   have m2:(m:Int)<=300:=by omega
   have m3:(m:Int)<=(nb:Int)-(at_:Int)-8:=by omega
   have p1:(p:Int)<=1000000:=by have:=pz_le f (base+j);have:=HBA.out;have:=HT.out.2.2.1;omega
   have p2:(0:Int)<=(p:Int):=by omega
   have em:IntKind.i64.wrap (m:Int)=(m:Int):=IntWalk.i64_in _ ⟨by omega,by omega⟩;have ep:IntKind.i64.wrap (p:Int)=(p:Int):=IntWalk.i64_in _ ⟨by omega,by omega⟩;have x1:IntKind.i64.wrap ((at_:Int)+8)=(at_:Int)+8:=IntWalk.i64_in _ ⟨by omega,by omega⟩;have x2:IntKind.i64.wrap ((at_:Int)+8+(m:Int))=(at_:Int)+8+(m:Int):=IntWalk.i64_in _ ⟨by omega,by omega⟩
   have x3:(0:Int)<=(at_:Int)+8+(m:Int):=by omega
   have x4:(0:Int)<=(at_:Int)+8:=by omega
   have x5:(at_:Int)+8<=(at_:Int)+8+(m:Int):=by omega
   have t1:((at_:Int)+8).toNat=at_+8:=by omega
   have t2:((at_:Int)+8+(m:Int)).toNat=at_+8+m:=by omega
   have d1:decide ((m:Int)<1)=false:=by rw[decide_eq_false_iff_not];omega
   have d2:decide ((300:Int)<(m:Int))=false:=by rw[decide_eq_false_iff_not];omega
   have d3:decide ((nb:Int)-(at_:Int)-8<(m:Int))=false:=by rw[decide_eq_false_iff_not];omega
   clear hat hbody hm hp hut hmo hn hc hr r1 r2 r3 hp6 hlb
   go_wp2_with fail
   refine(HG2.out _ (HSL.out _ _ _ _ _ _ HB.out)).mono ?_;rintro e w1 ⟨rfl,rfl⟩
   go_wp2_with fail
   refine(HG6.out _ (HSL.out _ _ _ _ _ _ HB.out)).mono ?_;rintro e w1 ⟨rfl,rfl⟩
   go_wp2_with fail
   have HBd:=hid (HB.out.drewN 1);obtain⟨i0,z0,hi0⟩:=info_cells info359;have HI:=hid hi0;clear hi0 c3;have S5:Hid (RcS g nb c (some ⟨ab,0,none⟩) rv wr.drew):=hid ⟨HBd.out.hg.cell 3,HBd.out.hg.cell 4⟩;refine wp_region_hl [17,19,20] [0,1,2,3,4,5,6,7,8,9,10,11,12,13,14,15,16,17,18,19,20] (RcS g nb c (some ⟨ab,0,none⟩) rv) (by kernel_rfl) (by kernel_rfl) S5.out ?_
   iterate 17 (refine hd_take (v:=?_) rfl rfl (by kernel_rfl) (fun W hW=>?_) ?_;rotate_left;(obtain⟨r0,r1⟩:=hW;first|(go_simp;done)|(go_simp;with_reducible rfl)))
   refine hd_loud rfl rfl fun K hK=>?_;go_simp;refine(clone172 _ (some ⟨ab,at_+8,none⟩) m (c-(at_+8)) (ub body) (by simp[ub_length,HM.out.2.2.1]) (HBD.out _ (HSL.out _ _ _ _ _ _ HBd.out)) (ub_one body) (by intro e;cases e) (by omega)).mono ?_;rintro e w5 ⟨v,rfl,ho,hbl⟩
   have hm0:0<body.length:=by have:=HM.out.2.2.1;omega
   have hrc5:=HBd.out.quiet (Chg.of_below hbl tb);have hbd5:BodyAt w5 (ext U4 wr.drew tb) tb v body:=⟨by have h:=Rw.of_new ho (Nat.le_refl _) U4 tb;rw[HM.out.2.2.1]at h;exact h,hm0⟩;obtain⟨Av,cv,rfl,-⟩:=hbd5.row.slice;have H5:=hid (And.intro hrc5 hbd5);refine hK _ _ ⟨hrc5.hg.cell 3,hrc5.hg.cell 4⟩ ?_;clear hK ho hbl hrc5 hbd5 hm0;refine hd_take (v:=?_) rfl rfl (by kernel_rfl) (fun W hW=>?_) ?_;rotate_left;(obtain⟨r0,r1⟩:=hW;first|(go_simp;done)|(go_simp;with_reducible rfl));refine hd_loud rfl rfl fun K hK=>?_;go_simp;have hqa:Chg (fun _=>False) w5 (ext U4 wr.drew tb) (w5.alloc (.cells #[.int .i64 (p:Int),.slice Av body.length cv] 359)) (ext (ext U4 wr.drew tb) w5 tb):=((Chg.refl _ _ _).alloc _).ext tb;have HB6:=hid (H5.out.1.quiet hqa);have HD6:=hid (H5.out.2.keep hqa id);refine hK _ _ ⟨HB6.out.hg.cell 3,HB6.out.hg.cell 4⟩ ?_;clear hK hqa;refine hd_loud rfl rfl fun K hK=>?_;refine step_append_row2 _ rfl (.tmp 56) (.tmp 71) 351 rfl _ tg 359 i0 z0 2 32 (by kernel_rfl) HI.out.1 HI.out.2.1 HI.out.2.2.2.1 HI.out.2.2.2.2 (by rw[HI.out.2.2.1];rfl) (by decide) rv j (rcells f base vs) (by go_simp) HB6.out.hq ⟨w5.heap.size,0,none⟩ 1 1 [.int .i64 (p:Int),.slice Av body.length cv] (by go_simp) (by rfl) (by decide) (Blk.new w5 359 #[.int .i64 (p:Int),.slice Av body.length cv]).sl (by intro u hu;simp at hu;rcases hu with rfl|rfl <;> rfl) (by have:=HT.out.2.2.1;omega) (by decide) ?_;intro b3 c3 w6 hR hC hG
   have e1:rcells f base vs++[.int .i64 (p:Int),.slice Av body.length cv]=rcells f base (vs++[.slice Av body.length cv]):=by rw[rcells_snoc,HB6.out.hl,HM.out.2.2.2]
   rw[e1]at hR;have HB7:=hid (HB6.out.app HT.out.1 hlt (by rw[<- HM.out.2.1];exact HD6.out) hR hC hG);refine hK _ _ ⟨HB7.out.hg.cell 3,HB7.out.hg.cell 4⟩ (hd_end ?_);clear hK hR hC hG e1 HB6 HD6 H5 HBd;simp only[zqa,zqb,zqc,zqd,Nat.zero_add,Nat.reduceAdd];have hf:=HB7.out.hg.frozen 4;have hc3:=HB7.out.hg.cell 4;have HB8:=hid (HB7.out.setG HT.out.1 4 _ (.slice (some ⟨b3,0,none⟩) (j+1) c3) rfl);have HU1:Hid ((at_:Int)+(8+(m:Int))=((used (bodies.take (j+1)):Nat):Int)):=hid (by have:=HU.out.1;omega);have y1:IntKind.i64.wrap (8+(m:Int))=8+(m:Int):=IntWalk.i64_in _ ⟨by omega,by omega⟩;have y2:IntKind.i64.wrap ((at_:Int)+(8+(m:Int)))=(at_:Int)+(8+(m:Int)):=IntWalk.i64_in _ ⟨by omega,by omega⟩;clear HB7 HI i0 z0 S5
   go_wp2
   go_roundw
   case rel=>exact⟨j+1,_,_,_,by omega,by rw[<- HU1.out],HB8.out⟩
   case measure=>simp only[intOf];have:=HU.out;have:=HT.out.2.1;omega
  ·obtain rfl:j=bodies.length:=by omega
   rw[List.take_length,<- HT.out.2.2.2];have hn:=HT.out.2.1;have hcc:=HCAP.out.1;have hcm:=HCAP.out.2.2;unfold maxLen at hcm
   have k0:(nb:Int)<=(c:Int):=by omega
   have k1:(0:Int)<=(nb:Int):=by omega
   have k2:(nb:Int)<=400:=by omega
   clear hcc hcm hn;have hf:=HB.out.hg.frozen 3;have HB2:=hid (HB.out.setG HT.out.1 3 (.slice B nb c) rv rfl)
   go_wp2
   refine bodyPost_end (by first|rfl|(simp[results];rfl)) rfl ?_;have h:=HB2.out;refine⟨⟨_,rfl⟩,U4,⟨.slice B nb c,rn,rv,vs,h.hg,?_,?_,h.hq,h.hl,fun i l hl=>h.hv i l (by rw[List.take_length];exact hl)⟩,h.hc⟩
   ·rw[<- HT.out.2.2.2];exact h.hb
   ·rw[<- HT.out.2.2.2];exact HT.out.2.1
def RdS (lp d from_ rc:Nat)(W:World):Prop:=W.cell? ⟨lp,0,none⟩=some (.pointer (some ⟨d,0,none⟩))/\W.cell? ⟨lp,1,none⟩=some (.int .i64 (from_:Int))/\W.cell? ⟨lp,5,none⟩=some (.int .i64 (rc:Int))
structure MR (w:World)(U:Own)(t td lp d from_ segs n nxt g y rc:Nat)(fr:Bool)(vL:Value)(Z:Cont)(F:Nat->Prop)(W:World):Prop where
 hl:Has W (ext U w y) t lp 328 #[ptr d,.int .i64 (from_:Int),.int .i64 (segs:Int),vL,.int .i64 (nxt:Int),.int .i64 (rc:Int),.bool fr]
 hg:Has W (ext U w y) y g 353 #[.int .i64 0,.int .i64 0,.int .i64 0,.slice none 0 0,.slice none 0 0]
 hd:DevAt W (ext U w y) td d n Z F
 hne:t≠y/\td≠y/\t≠td
 hc:Chg (fun x=>x=t\/x=y) w U W (ext U w y)
section
variable {w W W' : World} {U : Own} {t td lp d from_ segs n nxt g y rc : Nat} {fr : Bool} {vL : Value} {Z : Cont} {F : Nat -> Prop}
theorem MR.drewN (h:MR w U t td lp d from_ segs n nxt g y rc fr vL Z F W)(m:Nat):MR w U t td lp d from_ segs n nxt g y rc fr vL Z F (W.drewN m):=⟨h.hl.drewN m,h.hg.drewN m,h.hd.drewN m,h.hne,h.hc.drewN m⟩
theorem MR.below (h:MR w U t td lp d from_ segs n nxt g y rc fr vL Z F W)(hb:Below W.heap.size W W'):MR w U t td lp d from_ segs n nxt g y rc fr vL Z F W':=by
 have hc:Chg (fun _=>False) W (ext U w y) W' (ext U w y):=Chg.same_own hb;exact⟨h.hl.keep hc id,h.hg.keep hc id,h.hd.keep hc id,h.hne,h.hc.trans (hc.mono fun _ e=>e.elim)⟩
theorem MR.set5 (h:MR w U t td lp d from_ segs n nxt g y rc fr vL Z F W):MR w U t td lp d from_ segs n nxt g y rc fr vL Z F (W.setCell ⟨lp,5,none⟩ (.int .i64 (rc:Int))) where
 hl:=by have:=h.hl.set_ 5 (.int .i64 (rc:Int));simpa using this
 hg:=h.hg.far (h.hg.other h.hl (.inr (by decide))) _
 hd:=h.hd.far (by show ext U w y lp≠_;rw[h.hl.own];exact h.hne.2.2) _
 hne:=h.hne
 hc:=h.hc.setCell (p:=⟨lp,5,none⟩) (.inl h.hl.own) _
theorem MR.set0 (h:MR w U t td lp d from_ segs n nxt g y rc fr vL Z F W):MR w U t td lp d from_ segs n nxt g y rc fr vL Z F (W.setCell ⟨g,0,none⟩ (.int .i64 0)) where
 hl:=h.hl.far (h.hl.other h.hg (.inr (by decide))) _
 hg:=by have:=h.hg.set_ 0 (.int .i64 0);simpa using this
 hd:=h.hd.far (by show ext U w y g≠_;rw[h.hg.own];exact Ne.symm h.hne.2.1) _
 hne:=h.hne
 hc:=h.hc.setCell (p:=⟨g,0,none⟩) (.inr h.hg.own) _
theorem MR.read (h:MR w U t td lp d from_ segs n nxt g y rc fr vL Z F W){v:Value}{l:List Nat}(l1:l.length=64)(l2:l=List.replicate 64 0)(ho:W'.ownsRow W.heap.size 5 1 v 64 (bv l))(hb:Below W.heap.size W W') :
 ∃ bx cx,v=.slice (some ⟨bx,0,none⟩) 64 cx/\64<=cx/\bx≠g/\bx≠lp/\Sl W' (some ⟨bx,0,none⟩) (bv (List.replicate 64 0))/\MR w U t td lp d from_ segs n nxt g y rc fr vL Z F W':=by
 obtain⟨bx,cx,rfl,h5,h6⟩:=ho.form (by decide);have hle:=ho.lt bx rfl;have h1:=h.hg.lt;have h2:=h.hl.lt;subst l2;have hr:=Rw.of_new ho (Nat.le_refl _) (ext U w y) y;obtain⟨A,c,e,hc,-,-,hs,-⟩:=hr.slice
 cases e
 exact⟨bx,cx,rfl,hc,by omega,by omega,hs,h.below hb⟩
theorem MR.take (h:MR w U t td lp d from_ segs n nxt g y rc fr vL Z F W){b:Nat}(h':MT W (ext U w y) y g b W'):MR w U t td lp d from_ segs n nxt g y rc fr vL Z F W':=
 ⟨h.hl.keep h'.hc h.hne.1,h'.hg,h.hd.keep h'.hc h.hne.2.1,h.hne,h.hc.trans (h'.hc.mono fun _ e=>.inr e)⟩
end
theorem read274 (w:World)(U:Own)(t td lp d from_ segs n nxt k rc:Nat)(fr:Bool)(vL:Value)(Z:Cont)(F:Nat->Prop)(hl:Has w U t lp 328 #[ptr d,.int .i64 (from_:Int),.int .i64 (segs:Int),vL,.int .i64 (nxt:Int),.int .i64 (rc:Int),.bool fr])
 (hd:DevAt w U td d n Z F)(hne:t≠td)(hn:from_+k*8+8<=n)(hn2:n<=2048)(hz:∀ i,i<8->Z (from_+k*8+i)=List.replicate 64 0)(hrc:1<=rc/\rc<=1000000) :
 Calls Tryz.prog 274 #[.pointer (some ⟨lp,0,none⟩),.int .i64 (k:Int)] w fun e w'=>e=.returned (.pointer none)/\∃ U',Has w' U' t lp 328 #[ptr d,.int .i64 (from_:Int),.int .i64 (segs:Int),vL,.int .i64 (nxt:Int),.int .i64 (rc:Int),.bool fr]/\DevAt w' U' td d n Z F/\Chg (· = t) w U w' U':=by
 obtain⟨y,hy1,hy2⟩:=fresh95 w U
 have hty:t≠y:=by rintro rfl;exact hy2 _ hl.lt hl.own
 have htd:td≠y:=by rintro rfl;exact hy2 _ hd.own.1 hd.own.2
 obtain⟨g,hg⟩:∃ g,g=w.heap.size:=⟨_,rfl⟩;obtain⟨W1,hW1⟩:∃ W,W=w.alloc (.cells #[.int .i64 0,.int .i64 0,.int .i64 0,.slice none 0 0,.slice none 0 0] 353):=⟨_,rfl⟩
 have hch:Chg (fun _=>False) w U W1 (ext U w y):=by rw[hW1];exact((Chg.refl _ _ _).alloc _).ext y
 have HB:Hid (MR w U t td lp d from_ segs n nxt g y rc fr vL Z F W1):=hid ⟨hl.keep hch id,by rw[hW1,hg];exact⟨Blk.new _ _ _,ext_new (Nat.le_refl _)⟩,hd.keep hch id,⟨hty,htd,hne⟩,hch.mono fun _ e=>e.elim⟩;have HFIN:Hid (∀ W,MR w U t td lp d from_ segs n nxt g y rc fr vL Z F W->∃ U',Has W U' t lp 328 #[ptr d,.int .i64 (from_:Int),.int .i64 (segs:Int),vL,.int .i64 (nxt:Int),.int .i64 (rc:Int),.bool fr]/\DevAt W U' td d n Z F/\Chg (· = t) w U W U'):=hid fun W h=>⟨_,h.hl,h.hd,h.hc.fresh fun i hi e=>e.elim id fun e=>absurd e (hy2 i hi)⟩;have HZ:=hid hz;have HN:Hid (from_+k*8+8<=n/\n<=2048):=hid ⟨hn,hn2⟩;have HRC:Hid ((1:Int)<=(rc:Int)):=hid (by omega);have HW:=hid hW1;have HG:=hid hg;clear hl hd hz hW1 hg hy1 hy2 hty htd hch hn hn2;go_enter Tryz.func274,Tryz.ntmps274
 go_wp2
 rw[<- HW.out,<- HG.out]
 go_loopw [6,12] (fun a b wr=>∃ i:Nat,i<=8/\a=.bool (decide (i=0))/\b=.int .i64 i/\MR w U t td lp d from_ segs n nxt g y rc fr vL Z F wr) (fun _ b _=>8-(intOf b).toNat)
 case atStart=>exact⟨0,Nat.zero_le _,rfl,rfl,HB.out⟩
 case round=>
  obtain⟨i,hi,rfl,rfl,hb⟩:=hrel;clear HB;have HB:=hid hb;clear hb
  by_cases hlt:i<8
  ·have k1:(i:Int)<8:=by omega
   have k2:(0:Int)<=(i:Int):=by omega
   have hnn:=HN.out;have HX0:Hid (from_+k*8+i<n/\Z (from_+k*8+i)=List.replicate 64 0):=hid ⟨by omega,HZ.out i hlt⟩;have x1:IntKind.i64.wrap ((k:Int)*8)=(k:Int)*8:=IntWalk.i64_in _ ⟨by omega,by omega⟩;have x2:IntKind.i64.wrap ((from_:Int)+(k:Int)*8)=(from_:Int)+(k:Int)*8:=IntWalk.i64_in _ ⟨by omega,by omega⟩
   have x3:IntKind.i64.wrap ((from_:Int)+(k:Int)*8+(i:Int))=((from_+k*8+i:Nat):Int):=by rw[IntWalk.i64_in _ ⟨by omega,by omega⟩];omega
   clear hnn
   go_wp2_with fail
   have HB0:=hid (HB.out.drewN 1);have hRS:∀ W,MR w U t td lp d from_ segs n nxt g y rc fr vL Z F W->RdS lp d from_ rc W:=fun W h=>⟨h.hl.cell 0,h.hl.cell 1,h.hl.cell 5⟩;have HRS:=hid hRS;have S0:=hid (hRS _ HB0.out);clear hRS;refine wp_region_hl [13] [0,1,2,3,4,5,6,7,8,9,10,11,12,13,14,15,16,17] (RdS lp d from_ rc) (by kernel_rfl) (by kernel_rfl) S0.out ?_
   iterate 13 (refine hd_take (v:=?_) rfl rfl (by kernel_rfl) (fun W hW=>?_) ?_;rotate_left;(obtain⟨r0,r1,r2⟩:=hW;first|(go_simp;done)|(go_simp;with_reducible rfl)))
   refine hd_loud rfl rfl fun K hK=>?_;go_simp;refine(read_any _ _ td d n Z F HB0.out.hd (from_+k*8+i) HX0.out.1).mono ?_;rintro e w1 ⟨v,rfl,l4,l5⟩;rw[HX0.out.2]at l4;obtain⟨bx,cx,rfl,hcx,hbg,hbl,hsx,hmr⟩:=HB0.out.read List.length_replicate rfl l4 l5;refine hK _ _ (HRS.out _ hmr) ?_;clear hK l4 l5
   iterate 4 (refine hd_take (v:=?_) rfl rfl (by kernel_rfl) (fun W hW=>?_) ?_;rotate_left;(obtain⟨r0,r1,r2⟩:=hW;first|(go_simp;done)|(go_simp;with_reducible rfl)))
   refine hd_end ?_;simp only[zqa,zqb,zqc,zqd,Nat.zero_add,Nat.reduceAdd];clear HB HB0 x1 x2 x3;have HM1:=hid (And.intro hsx hmr);have HNE:Hid (bx≠g/\bx≠lp):=hid ⟨hbg,hbl⟩
   have j1:(64:Int)<=(cx:Int):=by omega
   have jr:=HRC.out
   have jw0:IntKind.i64.wrap 0=0:=by decide
   have jw1:IntKind.i64.wrap 1=1:=by decide
   have j2:cx≠10:=by omega
   have j3:(14:Int)<=(cx:Int):=by omega
   have j4:(10:Int)<=(cx:Int):=by omega
   have HCX:=hid hcx;have S1:=hid (HRS.out _ (hmr.drewN 1));have HM1d:=hid (And.intro (show Sl (w1.drewN 1) (some ⟨bx,0,none⟩) (bv (List.replicate 64 0)) from hsx) (hmr.drewN 1));clear hsx hmr hbg hbl hcx
   go_wp2_with fail
   refine wp_region_hl [7,10] [0,1,2,3,4,5,6,7,8,9,10] (RdS lp d from_ rc) (by kernel_rfl) (by kernel_rfl) S1.out ?_
   iterate 7 (refine hd_take (v:=?_) rfl rfl (by kernel_rfl) (fun W hW=>?_) ?_;rotate_left;(obtain⟨r0,r1,r2⟩:=hW;first|(go_simp;done)|(go_simp;with_reducible rfl)))
   refine hd_loud rfl rfl fun K hK=>?_;go_simp;refine(get_zero _ bx 10 4 (cx-10) HM1d.out.1 (by decide) (by decide)).mono ?_;rintro e w2 ⟨rfl,rfl⟩;refine hK _ _ S1.out ?_;clear hK
   iterate 2 (refine hd_take (v:=?_) rfl rfl (by kernel_rfl) (fun W hW=>?_) ?_;rotate_left;(obtain⟨r0,r1,r2⟩:=hW;first|(go_simp;done)|(go_simp;with_reducible rfl)))
   refine hd_loud rfl rfl fun K hK=>?_;go_simp;refine hK _ _ S1.out (hd_end ?_);clear hK;simp only[zqa,zqb,zqc,zqd,Nat.zero_add,Nat.reduceAdd];have hf:=HM1d.out.2.hl.frozen 5;have hc3:=HM1d.out.2.hl.cell 5;have HM2:Hid (Sl _ (some ⟨bx,0,none⟩) (bv (List.replicate 64 0))/\MR w U t td lp d from_ segs n nxt g y rc fr vL Z F _):=hid (And.intro (HM1d.out.1.set_ (p:=⟨lp,5,none⟩) (by rintro a ha;cases ha;exact HNE.out.2) (.int .i64 (rc:Int))) (HM1d.out.2.set5));clear HM1 HM1d S0 S1
   by_cases hi0:i=0
   ·subst hi0
    go_wp2_with fail
    clear hf hc3;generalize (w1.drewN 1).setCell ⟨lp,5,none⟩ (.int .i64 (rc:Int))=wx at HM2 ⊢;have HT:=hid (take296 wx (ext U w y) y g bx cx ⟨HM2.out.2.hg,HM2.out.1,HNE.out.1,Chg.refl _ _ _⟩ HCX.out);refine HT.out.mono ?_;rintro e w5 ⟨rfl,hmt⟩;have HM3:=hid (HM2.out.2.take hmt);have c1:w5.cell? ⟨g,0,none⟩=some (.int .i64 0):=HM3.out.hg.cell 0;have c2:=HM3.out.hg.frozen 0;have HM4:=hid (HM3.out.set0);clear hmt HM2 HT
    go_wp2
    go_roundw
    case rel=>exact⟨1,by omega,rfl,rfl,HM4.out⟩
    case measure=>simp[intOf]
   ·have hde:decide (i=0)=false:=by simp[hi0]
    have hde2:((i:Int) == 0)=false:=by rw[beq_eq_false_iff_ne];omega
    have hde3:¬ ((i:Int)=0):=by omega
    go_wp2
    go_roundw
    case rel=>exact⟨i+1,by omega,by simp,by go_num,HM2.out.2⟩
    case measure=>simp[intOf];omega
  ·obtain rfl:i=8:=by omega
   have HB1:=hid (HB.out.drewN 1);have c1:wr.cell? ⟨g,0,none⟩=some (.int .i64 0):=HB.out.hg.cell 0;have c2:wr.cell? ⟨lp,2,none⟩=some (.int .i64 (segs:Int)):=HB.out.hl.cell 2
   go_wp2_with fail
   go_quiet (fail)
   have HB2:=hid (HB.out.drewN nq);clear c1 c2 HB HB1
   go_wp2
   go_ret;exact⟨rfl,HFIN.out _ HB2.out⟩
end Go.Proofs.Ytlhekbjidppijaa
