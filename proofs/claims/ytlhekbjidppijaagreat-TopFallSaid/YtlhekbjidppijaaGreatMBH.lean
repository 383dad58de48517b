/- Contracts of what TopFall reaches: what each function returns and leaves in memory. Conditions: as named. -/
import Derived.Test.YtlhekbjidppijaaGreatMBE
import Derived.Test.YtlhekbjidppijaaGreatMBG
set_option linter.unusedVariables false
set_option linter.unusedSimpArgs false
set_option maxRecDepth 20000
set_option maxHeartbeats 8000000
namespace Go.Proofs.Ytlhekbjidppijaa
open Lib (hid)
open Go.RowKit
def pts8 (n k:Nat):List (Nat × Nat):=(List.range k).map fun i:Nat=>(Plain.stir (pt (n:Int) (i:Int)),n)
def ptsAll (ns:List Nat):List (Nat × Nat):=ns.flatMap (pts8 · 8)
theorem pts8_succ (n k:Nat):pts8 n (k+1)=pts8 n k++[(Plain.stir (pt (n:Int) (k:Int)),n)]:=by simp[pts8,List.range_succ]
theorem pts8_len (n k:Nat):(pts8 n k).length=k:=by simp[pts8]
theorem ptsAll_len:∀ ns,(ptsAll ns).length=ns.length*8
 | []=>rfl
 | n :: ns=>by rw[ptsAll,List.flatMap_cons,List.length_append,pts8_len];have:=ptsAll_len ns;rw[ptsAll]at this;rw[this,List.length_cons];omega
theorem ptsAll_snoc (ns:List Nat)(n:Nat):ptsAll (ns++[n])=ptsAll ns++pts8 n 8:=by simp[ptsAll]
theorem info170:(Tryz.prog.info? 170).map (fun i=>(i.zero.map Value.cells,i.size,i.bytes))=some (some #[.int .u64 0,.int .i64 0],2,16):=by kernel_rfl
theorem of235 (w:World)(U:Own)(t:Nat)(A:Option Addr)(n c:Nat)(ns:List Nat)(hs:Sl w A (nnums ns))(hn:ns.length=n)(hok:NodesOk ns)(hA:∀ a,A=some a->a.block<w.heap.size/\U a.block≠t) :
 Calls Tryz.prog 235 #[.slice A n c] w fun e w'=>∃ v U',e=.returned v/\Rw w' U' t 170 2 v (n*8) ((sortP (ptsAll ns)).flatMap encP)/\Chg (· = t) w U w' U':=by
 obtain⟨i0,z0,hi,hz,hc,hs0,hb⟩:=info_cells info170;have HI:=hid (And.intro hi (And.intro hz (And.intro hc (And.intro hs0 hb))));clear hi hz hc hs0 hb;have HOK:=hid hok;have h1:=hok.ne;have h2:=hok.le;obtain⟨b,o,rfl,hcs⟩:=hs (by intro e;have:=congrArg List.length e;simp[nnums]at this;subst this;simp at h1);have HM:=hid (may72 w (some ⟨b,o,none⟩) n c ns hs hn hok);obtain⟨hb1,hb2⟩:=hA _ rfl
 have HC:Hid (∀ W U',Chg (· = t) w U W U'->∀ i (h:i<ns.length),W.cell? ⟨b,o+i,none⟩=some (.int .i64 (ns[i]:Int))):=hid fun W U' hc i h=>
  (World.cell?_of_block (a:=⟨b,o+i,none⟩) (hc.block b hb1 hb2)).trans (hcs i _ (nnums_get ns i h))
 have k0:0<n:=by omega
 clear hs hok hcs hb1 hb2 hA;have HN:=hid hn;go_enter Tryz.func235,Tryz.ntmps235
 go_wp2_with (go_at_call 72;refine HM.out.mono ?_;rintro e w' ⟨rfl,hw⟩;obtain rfl:=hw.symm)
 go_loopw [3,12] (fun l i wr=>∃ (k:Nat) (Ur:Own),k<=n/\i=.int .i64 (k:Int)/\Rw wr Ur t 170 2 l (k*8) ((ptsAll (ns.take k)).flatMap encP)/\Chg (· = t) w U wr Ur) (fun _ i _=>n-(intOf i).toNat)
 case atStart=>exact⟨0,U,Nat.zero_le _,rfl,by simpa [ptsAll] using Rw.nil w U t 170 2,Chg.refl _ _ _⟩
 case round=>
  obtain⟨k,Ur,hk,rfl,hrw,hch⟩:=hrel;have HR:=hid hrw;have HB:=hid hch;clear hrw hch
  by_cases hlt:k<n
  ·have hkl:k<ns.length:=by omega
   have c0:=HC.out wr Ur HB.out k hkl;obtain⟨e1,e2⟩:=HOK.out.each k hkl;have HT:Hid (ptsAll (ns.take (k+1))=ptsAll (ns.take k)++pts8 ns[k] 8):=hid (by rw[List.take_succ_eq_append_getElem hkl,ptsAll_snoc]);generalize hz:ns[k]=z at *
   have k1:(k:Int)<(n:Int):=by omega
   have k2:(0:Int)<=(k:Int):=by omega
   have k5:(k:Int)<=5:=by omega
   clear hz
   go_wp2
   go_loopw [3,16] (fun l i wq=>∃ (j:Nat) (Uq:Own),j<=8/\i=.int .i64 (j:Int)/\Rw wq Uq t 170 2 l (k*8+j) ((ptsAll (ns.take k)++pts8 z j).flatMap encP)/\Chg (· = t) w U wq Uq) (fun _ i _=>8-(intOf i).toNat)
   case atStart=>exact⟨0,Ur,Nat.zero_le _,rfl,by simpa [pts8] using HR.out,HB.out⟩
   case round=>
    obtain⟨j,Uq,hj,rfl,hrw,hch⟩:=hrel;have HR2:=hid hrw;have HB2:=hid hch;clear hrw hch c0
    by_cases hlt2:j<8
    ·have j1:(j:Int)<8:=by omega
     have j2:(0:Int)<=(j:Int):=by omega
     have HP:=hid (point_any (z:Int) (j:Int));obtain⟨q,hq⟩:∃ q,q=Plain.stir (pt (z:Int) (j:Int)):=⟨_,rfl⟩;rw[<- hq]at HP
     have HT2:Hid ((ptsAll (ns.take k)++pts8 z j).flatMap encP++[.int .u64 (q:Int),.int .i64 (z:Int)]=(ptsAll (ns.take k)++pts8 z (j+1)).flatMap encP):=hid (by
      rw[pts8_succ,hq,<- List.append_assoc,List.flatMap_append (xs:=ptsAll (ns.take k)++pts8 z j)];rfl)
     clear hq
     go_wp2_with (first|(go_at_call 263;refine(HP.out _).mono ?_;rintro e w' ⟨rfl,rfl⟩)|(at_builtin;refine wpList_append_row2 _ rfl _ _ 166 rfl Uq t 170 i0 z0 2 16 (by kernel_rfl) HI.out.1 HI.out.2.1 HI.out.2.2.2.1 HI.out.2.2.2.2 (by rw[HI.out.2.2.1];rfl) (by decide) _ (k*8+j) _ (by rfl) (HR2.out.alloc _) ⟨_,0,none⟩ 1 1 [.int .u64 (q:Int),.int .i64 (z:Int)] (by rfl) rfl (by decide) (Blk.new _ _ _).sl (by simp[Value.oneCell']) (by omega) (by decide) ?_;intro g cap w3 hr3 hc3 hg3))
     rw[HT2.out]at hr3;have HR3:=hid hr3;have HB3:=hid ((HB2.out.alloc _).trans hc3);clear hr3 hc3 hg3
     go_wp2
     go_roundw
     case rel=>exact⟨j+1,_,by omega,by go_num,by have:=HR3.out;rwa [show k*8+j+1=k*8+(j+1) by omega]at this,HB3.out⟩
     case measure=>simp[intOf];omega
    ·obtain rfl:j=8:=by omega
     go_wp2
     go_roundw
     case rel=>exact⟨k+1,_,by omega,by go_num,by have:=HR2.out;rw[<- HT.out]at this;rwa [show(k+1)*8=k*8+8 by omega],HB2.out⟩
     case measure=>simp[intOf];omega
  ·obtain rfl:k=n:=by omega
   have HS:=hid (sort264 wr Ur t (k*8) _ (ptsAll ns) (by have:=HR.out;rw[List.take_of_length_le (by have:=HN.out;omega)]at this;exact this) (by omega) (by omega) of265)
   go_wp2_with (go_at_call 264;refine HS.out.mono ?_;rintro e w' ⟨rfl,U2,hr2,hc2⟩)
   go_ret;exact⟨_,U2,rfl,hr2,HB.out.trans hc2⟩
structure RingAt (w:World)(U:Own)(t r epoch:Nat)(ns:List Nat):Prop where
 ex:∃ vn vl,Has w U t r 168 #[.int .i64 (epoch:Int),vn,vl]/\Rw w U t 3 1 vn ns.length (nnums ns)/\Rw w U t 170 2 vl (ns.length*8) ((sortP (ptsAll ns)).flatMap encP)
theorem RingAt.keep {T:Nat->Prop}{w w':World}{U U':Own}{t r epoch:Nat}{ns:List Nat}(h:RingAt w U t r epoch ns)(hc:Chg T w U w' U')(ht:¬ T t):RingAt w' U' t r epoch ns:=by
 obtain⟨vn,vl,h1,h2,h3⟩:=h.ex;exact⟨vn,vl,h1.keep hc ht,h2.keep hc ht,h3.keep hc ht⟩
theorem ring195 (w:World)(U:Own)(t epoch:Nat)(A:Option Addr)(n c:Nat)(ns:List Nat)(hs:Sl w A (nnums ns))(hn:ns.length=n)(hok:NodesOk ns)(hA:∀ a,A=some a->a.block<w.heap.size)(he:1<=epoch)(he2:epoch<64) :
 Calls Tryz.prog 195 #[.int .i64 (epoch:Int),.slice A n c] w fun e w'=>∃ r U',e=.returned (.pointer (some ⟨r,0,none⟩))/\RingAt w' U' t r epoch ns/\w.heap.size<=r/\Chg (fun _=>False) w U w' U'/\∀ k,w.heap.size<=k->U' k=t:=by
 have HM:=hid (may72 w A n c ns hs hn hok);have hlen:=hok.le;have h1:=hok.ne
 have hAn:A=none->n=0:=by
  intro e;obtain⟨b,o,h,_⟩:=hs (by intro e;have:=congrArg List.length e;simp[nnums]at this;subst this;simp at h1);rw[e]at h;cases h
 have HCL:=hid (clone99 w A n c (nnums ns) (by simp[nnums,hn]) hs (by simp[nnums,Value.oneCell']) hAn (by omega));have HS:=hid hs;have HOK:=hid hok;have HA:=hid hA
 have k1:¬ ((epoch:Int)<1):=by omega
 have k2:¬ ((1099511627776:Int)<(epoch:Int)):=by omega
 clear hs hok hA h1 hAn;go_enter Tryz.func195,Tryz.ntmps195
 go_wp2_with (go_at_call 72;refine HM.out.mono ?_;rintro e w' ⟨rfl,hw⟩;obtain rfl:=hw.symm)
 refine HCL.out.mono ?_;rintro e w1 ⟨v1,rfl,ho1,hb1⟩;obtain⟨y,hy1,hy2⟩:=fresh95 w U;have HG1:Hid (∀ g,v1.ownBlock=some g->w.heap.size<=g):=hid fun g hg=>(ho1.lt g hg).1;have hr1:=Rw.of_new (w0:=w) ho1 (Nat.le_refl _) U (y+1);have hc1:Chg (fun _=>False) w U w1 (ext U w (y+1)):=Chg.of_below hb1 (y+1);have HR1:=hid hr1;have HC1:=hid hc1;have HS1:Hid (Sl w1 A (nnums ns)):=hid (HS.out.keep hb1);have HY:=hid hy2;clear ho1 hb1 HM HCL hr1 hc1 hy1 hy2
 go_wp2_with fail
 refine(of235 w1 (ext U w (y+1)) y A n c ns HS1.out hn HOK.out fun a ha=>⟨Nat.lt_of_lt_of_le (HA.out a ha) HC1.out.size,by rw[ext_old (HA.out a ha)];exact HY.out _ (HA.out a ha)⟩).mono ?_;rintro e w2 ⟨v2,U2,rfl,hr2,hc2⟩;obtain⟨A2,c2,rfl,-⟩:=hr2.slice;obtain⟨A1,c1,rfl,-⟩:=HR1.out.slice;obtain⟨W3,hW3⟩:∃ W,W=w2.alloc (.cells #[.int .i64 (epoch:Int),.slice A1 n c1,.slice A2 (n*8) c2] 168):=⟨_,rfl⟩
 have HF:Hid (RingAt W3 (ext U w t) t w2.heap.size epoch ns/\w.heap.size<=w2.heap.size/\Chg (fun _=>False) w U W3 (ext U w t)/\∀ k,w.heap.size<=k->ext U w t k=t):=hid (by
  have hs:=Nat.le_trans HC1.out.size hc2.size
  have hc3:Chg (fun _=>False) w2 U2 W3 U2:=by rw[hW3];exact(Chg.refl _ _ _).alloc _
  have hr1:=(HR1.out.keep hc2 (by omega)).keep hc3 id;have hr2:=hr2.keep hc3 id;have hold:∀ k,k<w.heap.size->U2 k=U k:=fun k hk=>(hc2.own k (Nat.lt_of_lt_of_le hk HC1.out.size)).trans (ext_old hk);have hch:Chg (fun _=>False) w U w2 U2:=((HC1.out.mono (T':=(· = y)) fun _ h=>h.elim).trans hc2).fresh fun i hi e=>absurd e (HY.out i hi);refine⟨⟨_,_,⟨by rw[hW3];exact Blk.new _ _ _,ext_new hs⟩,?_,?_⟩,hs,((hch.trans hc3).reown fun k hk=>ext_old hk),fun k hk=>ext_new hk⟩
  ·rw[hn]
   refine⟨hr1.own,fun g hg=>?_⟩;exact ext_new (HG1.out g hg)
  ·rw[hn]
   refine⟨hr2.own,fun g hg=>?_⟩
   rcases Nat.lt_or_ge g w.heap.size with h|h
   ·have:=hr2.tag g hg
    rw[hold g h]at this;exact absurd this (HY.out g h)
   ·exact ext_new h)
 have HW:=hid hW3;clear hr2 hc2 hW3 HR1 HC1 HS1 HS HOK HA HG1 HY
 go_wp2
 go_ret;rw[<- HW.out];exact⟨_,_,rfl,HF.out.1,HF.out.2.1,HF.out.2.2⟩
def ownL (h:Nat):List (Nat × Nat)->Option Nat
 | []=>none
 | p :: l=>if h<=p.1 then some p.2 else ownL h l
def owner (ns:List Nat)(h:Nat):Nat:=(ownL h (sortP (ptsAll ns))).getD (((sortP (ptsAll ns)).map (·.2)).headD 0)
theorem ownL_snoc (h:Nat):∀ (l:List (Nat × Nat)) (p:Nat × Nat),ownL h l=none->ownL h (l++[p])=if h<=p.1 then some p.2 else none
 | [],p,_=>rfl
 | q :: l,p,e=>by
  unfold ownL at e
  by_cases hq:h<=q.1
  ·rw[if_pos hq]at e;cases e
  ·rw[if_neg hq]at e
   rw[List.cons_append];unfold ownL;rw[if_neg hq];exact ownL_snoc h l p e
theorem ownL_app (h:Nat)(b:Nat):∀ (l l':List (Nat × Nat)),ownL h l=some b->ownL h (l++l')=some b
 | [],_,e=>by cases e
 | q :: l,l',e=>by
  rw[List.cons_append];unfold ownL at e ⊢
  by_cases hq:h<=q.1
  ·rw[if_pos hq]at e ⊢;exact e
  ·rw[if_neg hq]at e ⊢;exact ownL_app h b l l' e
theorem owner60 (w:World)(U:Own)(t r epoch h:Nat)(ns:List Nat)(hr:RingAt w U t r epoch ns)(hok:NodesOk ns) :
 Calls Tryz.prog 60 #[.pointer (some ⟨r,0,none⟩),.int .u64 (h:Int)] w fun e w'=>e=.returned (.int .i64 (owner ns h:Int))/\Below w.heap.size w w':=by
 obtain⟨vn,vl,h1,h2,h3⟩:=hr.ex;obtain⟨A,c,rfl,-,-,hl,hs,-,-⟩:=h3.slice;obtain⟨N,hN⟩:∃ N,N=ns.length*8:=⟨_,rfl⟩;have hn0:=hok.ne;have hn5:=hok.le;obtain⟨L,hL⟩:∃ L,L=sortP (ptsAll ns):=⟨_,rfl⟩
 have hLN:L.length=N:=by rw[hL,(sortP_perm _).length_eq,ptsAll_len,hN]
 rw[<- hL]at hs hl;rw[<- hN]at hl h1;obtain⟨b,o,rfl,hcs⟩:=hs (by intro e;rw[e]at hl;simp at hl;omega);have c2:=h1.cell 2
 have HC:Hid (∀ W,Below w.heap.size w W->W.cell? ⟨r,2,none⟩=some (.slice (some ⟨b,o,none⟩) N c)/\∀ k (hk:k<L.length),W.cell? ⟨b,o+k*2,none⟩=some (.int .u64 (L[k].1:Int))/\W.cell? ⟨b,o+k*2+1,none⟩=some (.int .i64 (L[k].2:Int))):=hid (by
  intro W hb;refine⟨(World.cell?_of_block (a:=⟨r,2,none⟩) (hb.block r h1.lt)).trans c2,fun k hk=>?_⟩
  have g:∀ j u,(L.flatMap encP)[j]? = some u->W.cell? ⟨b,o+j,none⟩=some u:=fun j u hu=>
   (Sl.keep (w:=w) (w':=W) (A:=some ⟨b,o,none⟩) (xs:=L.flatMap encP) (fun _=>⟨b,o,rfl,hcs⟩) hb (by intro e;rw[e]at hu;simp at hu)).elim fun b' h=>h.elim fun o' h=>by
     obtain⟨h,h'⟩:=h
     cases h
     exact h' j u hu
  refine⟨g (k*2) _ ?_,g (k*2+1) _ ?_⟩
  ·rw[flatP_get,Nat.mul_div_cancel _ (by omega),Nat.mul_mod_left,List.getElem?_eq_getElem hk];rfl
  ·rw[flatP_get,show(k*2+1) / 2=k by omega,show(k*2+1)%2=1 by omega,List.getElem?_eq_getElem hk];rfl)
 have HO:Hid (∀ h,owner ns h=(ownL h L).getD ((L.map (·.2)).headD 0)):=hid fun h=>by rw[hL];rfl
 clear h1 h2 h3 hs hcs hr hL
 have k0:(0:Int)<(N:Int):=by omega
 go_enter Tryz.func60,Tryz.ntmps60
 go_wp2
 go_loopw [14] (fun i wr=>∃ k:Nat,k<=N/\i=.int .i64 (k:Int)/\Below w.heap.size w wr/\ownL h (L.take k)=none) (fun i _=>N-(intOf i).toNat)
 case atStart=>exact⟨0,Nat.zero_le _,rfl,Below.refl _ _,rfl⟩
 case round=>
  obtain⟨k,hk,rfl,hbl,hno⟩:=hrel;obtain⟨cr,hcs⟩:=HC.out wr hbl;have HB:=hid hbl
  by_cases hlt:k<N
  ·have hkl:k<L.length:=by omega
   obtain⟨p1,p2⟩:=hcs k hkl;have HT:Hid (L.take (k+1)=L.take k++[L[k]]):=hid (List.take_succ_eq_append_getElem hkl)
   have k1:(k:Int)<(N:Int):=by omega
   have k2:(0:Int)<=(k:Int):=by omega
   have HD:Hid (L=L.take k++(L[k] :: L.drop (k+1))):=hid (by rw[List.getElem_cons_drop,List.take_append_drop]);generalize L[k]=q at *;obtain⟨x,y⟩:=q;dsimp only at p1 p2;clear hcs c2 cr
   by_cases hx:h<=x
   ·have x1:(h:Int)<=(x:Int):=by omega
    have HW:Hid (owner ns h=y):=hid (by
     have:ownL h L=some y:=by
      rw[HD.out,<- List.singleton_append,<- List.append_assoc];exact ownL_app h y _ _ (by rw[ownL_snoc h _ _ hno];exact if_pos hx)
     rw[HO.out,this];rfl)
    go_wp2
    go_ret;exact⟨by rw[HW.out];rfl,HB.out.alloc HB.out.size _⟩
   ·have x1:(x:Int)<(h:Int):=by omega
    go_wp2
    go_roundw
    case rel=>exact⟨k+1,by omega,by go_num,HB.out.alloc HB.out.size _,by rw[HT.out,ownL_snoc h _ _ hno];exact if_neg hx⟩
    case measure=>simp[intOf];omega
  ·obtain rfl:k=N:=by omega
   obtain⟨p1,p2⟩:=hcs 0 (by omega)
   have HW:Hid (owner ns h=(L[0]'(by omega)).2):=hid (by
    rw[List.take_of_length_le (by omega)]at hno;rw[HO.out,hno]
    cases L with
    | nil=>simp at hLN;omega
    | cons q l=>rfl)
   clear hcs c2
   go_wp2
   go_ret;exact⟨by rw[HW.out];rfl,HB.out⟩
theorem of46 (w:World)(U:Own)(t r epoch:Nat)(k:ByteArray)(ns:List Nat)(hr:RingAt w U t r epoch ns)(hok:NodesOk ns)(hk:k.size<=9223372036854775807) :
 Calls Tryz.prog 46 #[.pointer (some ⟨r,0,none⟩),.string k] w fun e w'=>e=.returned (.int .i64 (owner ns (Plain.mix [nb k]):Int))/\Below w.heap.size w w':=by
 have HR:=hid hr;clear hr;go_enter Tryz.func46,Tryz.ntmps46
 go_wp2_with fail
 refine(of_any (some ⟨w.heap.size,0,none⟩) 1 1 [k] _ (Blk.new w 9 #[.string k]).sl rfl (by decide) (fun s hs=>by simp at hs;subst hs;exact hk)).mono ?_;rintro e w1 ⟨rfl,rfl⟩
 go_wp2_with fail
 refine(owner60 _ U t r epoch (Plain.mix ([k].map nb)) ns ?_ hok).mono ?_
 ·obtain⟨vn,vl,h1,h2,h3⟩:=HR.out.ex
  exact⟨vn,vl,⟨h1.blk.alloc _,h1.own⟩,h2.alloc _,h3.alloc _⟩
 rintro e w2 ⟨rfl,hb⟩;have HB:Hid (Below w.heap.size w w2):=hid (((Below.refl _ w).alloc (Nat.le_refl _) _).trans (hb.mono (by simp)));clear hb
 go_wp2
 go_ret;exact⟨rfl,HB.out⟩
def rb (h:Nat)(s:Nat × Nat)(q:Nat × Nat):Nat × Nat:=if h<=q.1/\(s.1=0\/q.1<s.2\/q.1=s.2/\q.2<s.1) then (q.2,q.1) else s
end Go.Proofs.Ytlhekbjidppijaa
