/- Contracts of what TopFall reaches: what each function returns and leaves in memory. Conditions: as named. -/
import Derived.Test.YtlhekbjidppijaaGreatMBM
set_option linter.unusedVariables false
set_option linter.unusedSimpArgs false
set_option maxRecDepth 20000
set_option maxHeartbeats 8000000
namespace Go.Proofs.Ytlhekbjidppijaa
open Lib (hid)
open Go.RowKit
def PCl.new (n:Nat):PCl:=⟨n,List.replicate n pn0,List.replicate 6 0,[],[],[]⟩
theorem PreAt.full {w:World}{U:Own}{c n:Nat}{L:CL}(H:PreAt w U c L n 5 n)(h1:1<=n)(h5:n<=5):CluAt w U c L (PCl.new n):=by
 have hrep:∀ i q,(List.replicate 6 0)[i]? = some q->q=0:=fun i q h=>by
  rw[List.getElem?_replicate]at h
  split at h
  ·injection h with h;exact h.symm
  ·cases h
 refine⟨h1,h5,by simp[PCl.new],by simp[PCl.new],H.blk,H.ctl,fun q hq=>by rw[hrep 0 q hq];exact H.ck0,fun i p hi hp=>?_,fun i q hi1 hi5 hq=>by rw[hrep i q hq];exact H.ck i hi1 hi5,H.net,H.org,H.log⟩;have hp':(List.replicate n pn0)[i-1]? = some p:=hp;rw[List.getElem?_replicate]at hp'
 split at hp'
 ·injection hp' with hp'
  subst hp';exact⟨rfl,rfl,H.node i hi (by omega)⟩
 ·cases hp'
theorem upto_get (n i:Nat)(h:i<n):(nnums (upto n))[i]? = some (.int .i64 ((i+1:Nat):Int)):=by
 rw[nnums_get _ _ (by simpa [upto] using h)];simp[upto];omega
def CL.setDv (L:CL)(i d k:Nat):CL:={ L with dv:=fun q=>if q=i then d else L.dv q,ck:=fun q=>if q=i then k else L.ck q }
theorem preV_dv (L:CL)(i d k:Nat)(h1:1<=i)(h5:i<=5):(((preV L true (i-1) 0).toArray.setIfInBounds (9+i) (ptr d)).setIfInBounds (15+i) (ptr k))=(preV (L.setDv i d k) true i 0).toArray:=by
 obtain rfl|rfl|rfl|rfl|rfl:i=1\/i=2\/i=3\/i=4\/i=5:=by omega
 all_goals rfl
theorem PreAt.dvck {w W:World}{U U':Own}{c n i d k:Nat}{L:CL}(H:PreAt w U c L n (i-1) 0)(h1:1<=i)(h5:i<=5)(hcc:Chg (· = 86) w U W U')(hb:Has W U' 86 c 89 (((preV L true (i-1) 0).toArray.setIfInBounds (9+i) (ptr d)).setIfInBounds (15+i) (ptr k)))(hD:DevAt W U' (16*(i-1)+9) d 1200 zeros Lasts)(hK:ClockAt W U' (16*(i-1)+11) k 0) :
 PreAt W U' c (L.setDv i d k) n i 0:=by
 refine⟨?_,H.ctl.keep hcc (by omega) (by omega),H.ck0.keep hcc (by omega),fun q hq1 hq2=>?_,fun q hq1 hq2=>?_,fun q hq1 hq2=>absurd hq2 (by omega),H.net.keep hcc (by omega) (by omega) (by omega),H.org.keep hcc (by omega) (by omega),H.log.keep hcc (by omega) (by omega)⟩
 ·rw[preV_dv L i d k h1 h5]at hb
  exact hb
 ·by_cases he:q=i
  ·subst he
   have e:(L.setDv q d k).dv q=d:=by unfold CL.setDv;simp
   rw[e];exact hD
  ·have e:(L.setDv i d k).dv q=L.dv q:=by unfold CL.setDv;simp[he]
   rw[e];exact(H.dev q hq1 (by omega)).keep hcc (by omega)
 ·by_cases he:q=i
  ·subst he
   have e:(L.setDv q d k).ck q=k:=by unfold CL.setDv;simp
   rw[e];exact hK
  ·have e:(L.setDv i d k).ck q=L.ck q:=by unfold CL.setDv;simp[he]
   rw[e];exact(H.ck q hq1 (by omega)).keep hcc (by omega)
structure MkA (w:World)(U:Own)(c:Nat)(cs:Array Value)(W:World)(U':Own):Prop where
 blk:Has W U' 86 c 89 cs
 chg:Chg (· = 86) w U W U'
theorem MkA.quiet {w W W2:World}{U U1 U2:Own}{c:Nat}{cs:Array Value}(h:MkA w U c cs W U1)(hc:Chg (fun _=>False) W U1 W2 U2):MkA w U c cs W2 U2:=⟨h.blk.keep hc id,h.chg.trans (hc.mono fun _ h=>h.elim)⟩
theorem MkA.set_ {w W:World}{U U1:Own}{c:Nat}{cs:Array Value}(h:MkA w U c cs W U1)(i:Nat)(v:Value):MkA w U c (cs.setIfInBounds i v) (W.setCell ⟨c,i,none⟩ v) U1:=⟨h.blk.set_ i v,h.chg.setCell (p:=⟨c,i,none⟩) h.blk.own v⟩
theorem PreAt.cells2 {w:World}{U:Own}{c n i k:Nat}{L:CL}(H:PreAt w U c L n k 0)(h1:1<=i)(h5:i<=5) :
 (∃ v,w.cell? ⟨c,9+i,none⟩=some v)/\(∃ v,w.cell? ⟨c,15+i,none⟩=some v):=by
 rw[H.blk.cell,H.blk.cell]
 obtain rfl|rfl|rfl|rfl|rfl:i=1\/i=2\/i=3\/i=4\/i=5:=by omega
 all_goals exact⟨⟨_,rfl⟩,⟨_,rfl⟩⟩
theorem new55 (w:World)(U:Own)(n ca:Nat)(A:Option Addr)(hs:Sl w A (nnums (upto n)))(hA:∀ a,A=some a->a.block<w.heap.size/\¬ CT (U a.block))(h1:1<=n)(h5:n<=5) :
 Calls Tryz.prog 55 #[.slice A n ca] w fun e w'=>∃ c L U',e=.returned (ptr c)/\CluAt w' U' c L (PCl.new n)/\Chg CT w U w' U':=by
 have HMy:=hid (may72 w A n ca (upto n) hs (upto_len n) (upto_ok n h1 h5))
 have HSl:Hid (∀ w' U',Chg CT w U w' U'->Sl w' A (nnums (upto n))):=hid fun w' U' hc=>by
  obtain⟨b,o,rfl,hcs⟩:=hs (by intro e;have:=congrArg List.length e;simp[nnums,upto]at this;omega);obtain⟨a1,a2⟩:=hA _ rfl;refine Sl.of_cells fun j u hu=>?_;rw[add_none,<- hcs j u hu];exact World.cell?_of_block (a:=⟨b,o+j,none⟩) (hc.block b a1 a2)
 have HA:=hid hA;have HN:=hid (And.intro h1 h5)
 have kn:(n:Int)<=5:=by omega
 have HD0:=hid (new_any w U 82 2 (by decide) (by decide));clear hs hA h1 h5;go_enter Tryz.func55,Tryz.ntmps55
 go_wp2_with (first|(go_at_call 72;refine HMy.out.mono ?_;rintro e w' ⟨rfl,hw⟩;obtain rfl:=hw.symm)|(go_at_call 73;fail))
 refine HD0.out.mono ?_;rintro e w1 ⟨d,rfl,hd1,hb1,hle1⟩;have hc1:Chg (fun _=>False) w U w1 (ext U w 82):=Chg.of_below hb1 _;generalize ext U w 82=U1 at hd1 hc1;have HD1:=hid (And.intro hd1 hc1);clear hd1 hc1 hb1 hle1 HD0 HMy
 go_wp2_with (go_at_call 74;fail)
 refine(new74 w1 U1 83).mono ?_;rintro e w2 ⟨rfl,hn2,hb2⟩;have hc2:Chg (fun _=>False) w1 U1 w2 (ext U1 w1 83):=Chg.of_below hb2 _;generalize ext U1 w1 83=U2 at hn2 hc2;have HD2:=hid (And.intro (HD1.out.1.keep hc2 id) (And.intro (HD1.out.2.trans hc2) hn2));clear hn2 hc2 hb2 HD1;generalize w1.heap.size=nt at *
 go_wp2_with (go_at_call 75;fail)
 refine(new75 w2 U2 84).mono ?_;rintro e w3 ⟨O,rfl,ho3,hb3⟩;have hc3:Chg (fun _=>False) w2 U2 w3 (ext U2 w2 84):=Chg.of_below hb3 _;generalize ext U2 w2 84=U3 at ho3 hc3;have HD3:=hid (And.intro (HD2.out.1.keep hc3 id) (And.intro (HD2.out.2.1.trans hc3) (And.intro (HD2.out.2.2.keep hc3 id id id) ho3)));clear ho3 hc3 hb3 HD2
 go_wp2_with (go_at_call 76;fail)
 refine(new76 w3 U3 85).mono ?_;rintro e w4 ⟨rfl,hl4,hb4⟩;have hc4:Chg (fun _=>False) w3 U3 w4 (ext U3 w3 85):=Chg.of_below hb4 _;generalize ext U3 w3 85=U4 at hl4 hc4;have HD4:=hid (And.intro (HD3.out.1.keep hc4 id) (And.intro (HD3.out.2.1.trans hc4) (And.intro (HD3.out.2.2.1.keep hc4 id id id) (And.intro (HD3.out.2.2.2.keep hc4 id id) hl4))));clear hl4 hc4 hb4 HD3;generalize w3.heap.size=lg at *
 go_wp2_with (go_at_call 77;fail)
 generalize hW5:World.alloc _ _=W5;obtain⟨L0,hL0⟩:∃ L0:CL,L0=⟨0,d,0,fun _=>0,fun _=>0,fun _=>0,nt,O,lg⟩:=⟨_,rfl⟩
 have hblk:Blk W5 w4.heap.size 89 (preV L0 false 0 0).toArray:=by rw[<- hW5,hL0];exact Blk.new _ _ _
 have hc5:Chg (fun _=>False) w4 U4 W5 (ext U4 w4 86):=by rw[<- hW5];exact((Chg.refl _ _ _).alloc _).ext _
 have hh5:Has W5 (ext U4 w4 86) 86 w4.heap.size 89 (preV L0 false 0 0).toArray:=⟨hblk,ext_new (Nat.le_refl _)⟩;generalize ext U4 w4 86=U5 at hc5 hh5;have HD5:=hid (And.intro (HD4.out.1.keep hc5 id) (And.intro (HD4.out.2.1.trans hc5) (And.intro (HD4.out.2.2.1.keep hc5 id id id) (And.intro (HD4.out.2.2.2.1.keep hc5 id id) (And.intro (HD4.out.2.2.2.2.keep hc5 id id) hh5)))));clear hblk hc5 hh5 hW5 HD4;generalize w4.heap.size=c at *;refine(make77 W5 U5 80 81 82 d n HD5.out.1 A ca (HSl.out W5 U5 (HD5.out.2.1.mono fun _ h=>h.elim)) (fun a ha=>Nat.lt_of_lt_of_le (HA.out a ha).1 HD5.out.2.1.size) HN.out.1 HN.out.2 (by decide) (by decide) (by decide) (by decide)).mono ?_;rintro e w6 ⟨C,k,U6,rfl,hC6,hk6,hc6,-⟩;have hb6:=HD5.out.2.2.2.2.2.keep hc6 (by decide);obtain⟨cs,cA,cc,cG,cl,ccc,hCb,-⟩:=hC6.ex;have q0:w6.cell? ⟨C,0,none⟩=some (.pointer (some ⟨k,0,none⟩)):=hCb.cell 0;have q1:w6.cell? ⟨c,0,none⟩=some (.pointer none):=hb6.cell 0;have q2:w6.cell? ⟨c,2,none⟩=some (.pointer none):=hb6.cell 2;have f1:=hb6.frozen 0;have f2:=hb6.frozen 2;obtain⟨L1,hL1⟩:∃ L1:CL,L1={ L0 with ctl:=C,cc:=k }:=⟨_,rfl⟩
 have HPr:Hid (∀ W,W=(w6.setCell ⟨c,0,none⟩ (ptr C)).setCell ⟨c,2,none⟩ (ptr k)->PreAt W U6 c L1 n 0 0/\Chg CT w U W U6):=hid fun W hW=>by
  have hcw:Chg (· = 86) w6 U6 W U6:=by rw[hW];exact((Chg.refl _ _ _).setCell (p:=⟨c,0,none⟩) hb6.own _).setCell (p:=⟨c,2,none⟩) hb6.own _
  have hcc:Chg (fun x=>x=82\/x=86) W5 U5 W U6:=(hc6.mono fun _ h=>.inl h).trans (hcw.mono fun _ h=>.inr h);refine⟨⟨?_,?_,?_,fun i hi1 hi2=>absurd hi2 (by omega),fun i hi1 hi2=>absurd hi2 (by omega),fun i hi1 hi2=>absurd hi2 (by omega),?_,?_,?_⟩,(HD5.out.2.1.mono fun _ h=>h.elim).trans (hcc.mono fun x h=>by unfold CT;omega)⟩
  ·have:=(hb6.set_ 0 (ptr C)).set_ 2 (ptr k)
   rw[<- hW]at this;rw[hL1];exact this
  ·rw[hL1];exact hC6.keep hcw (by decide) (by decide)
  ·rw[hL1];exact hk6.keep hcw (by decide)
  ·rw[hL1,hL0];exact HD5.out.2.2.1.keep hcc (by decide) (by decide) (by decide)
  ·rw[hL1,hL0];exact HD5.out.2.2.2.1.keep hcc (by decide) (by decide)
  ·rw[hL1,hL0];exact HD5.out.2.2.2.2.1.keep hcc (by decide) (by decide)
 clear hC6 hk6 hc6 hb6 hCb HD5 hL1 hL0
 go_wp2_with fail
 generalize hW7:World.setCell _ _ _=W7;have H7:=hid (HPr.out W7 hW7.symm);clear hW7 HPr q0 q1 q2 f1 f2
 go_loopw [6] (fun v wr=>∃ (q:Nat) (Ur:Own) (Lr:CL),1<=q/\q<=6/\v=.int .i64 (q:Int)/\PreAt wr Ur c Lr n (q-1) 0/\Chg CT w U wr Ur) (fun v _=>6-(intOf v).toNat)
 case atStart=>exact⟨1,U6,L1,Nat.le_refl _,by omega,rfl,H7.out⟩
 case round=>
  obtain⟨q,Ur,Lr,hq1,hq6,rfl,hP,hC⟩:=hrel
  by_cases hq5:q<=5
  ·have k1:(0:Int)<=(q:Int):=by omega
   have k2:(q:Int)<6:=by omega
   have k3:(q:Int)<=5:=by omega
   have k4:q<6:=by omega
   have hcd:Chg (fun _=>False) wr Ur wr.drew Ur:=(Chg.refl _ _ _).drew;have HMk:Hid (MkA wr Ur c (preV Lr true (q-1) 0).toArray wr.drew Ur):=hid ⟨hP.blk.keep hcd id,hcd.mono fun _ h=>h.elim⟩;have HFin:Hid (∀ W Ux dd kk,MkA wr Ur c (((preV Lr true (q-1) 0).toArray.setIfInBounds (9+q) (ptr dd)).setIfInBounds (15+q) (ptr kk)) W Ux->DevAt W Ux (16*(q-1)+9) dd 1200 zeros Lasts->ClockAt W Ux (16*(q-1)+11) kk 0->∃ Ux Lx,PreAt W Ux c Lx n q 0/\Chg CT w U W Ux):=hid fun W Ux dd kk hm hd hk=>⟨Ux,_,hP.dvck hq1 hq5 hm.chg hm.blk hd hk,hC.trans (hm.chg.mono fun x h=>by unfold CT;omega)⟩;obtain⟨⟨v9,hv9⟩,⟨v15,hv15⟩⟩:=hP.cells2 hq1 hq5
   have HV:Hid (∀ W Ux cs,MkA wr Ur c cs W Ux->(preV Lr true (q-1) 0).toArray.size=cs.size->(∃ v,W.cell? ⟨c,9+q,none⟩=some v)/\(∃ v,W.cell? ⟨c,15+q,none⟩=some v)/\W.frozen? ⟨c,9+q,none⟩=false/\W.frozen? ⟨c,15+q,none⟩=false):=hid fun W Ux cs hm hsz=>by
    have z:cs.size=30:=hsz.symm;exact⟨⟨_,by rw[hm.blk.cell];exact Array.getElem?_eq_getElem (by omega)⟩,⟨_,by rw[hm.blk.cell];exact Array.getElem?_eq_getElem (by omega)⟩,hm.blk.frozen _,hm.blk.frozen _⟩
   have hlt:c<wr.heap.size:=hP.blk.lt;clear hP hC hcd hv9 hv15
   go_wp2_with fail
   refine wp_region_pl (.take 0 (.take 1 (.take 2 (.take 3 (.take 5 (.take 7 (.take 8 (.take 11 (.take 12 (.two 4 (.take 9 (.two 6 (.one 10 .done) 10 (.one 6 .done))) 6 (.one 4 (.take 9 (.one 10 .done))))))))))))) (fun _=>True) (by kernel_rfl) (by kernel_rfl) trivial ?_;generalize wr.drew=wd at *
   iterate 9 (refine pl_take (v:=?_) rfl (by kernel_rfl) (fun W hW=>?_) ?_;rotate_left;(first|(go_simp;done)|(go_simp;with_reducible rfl)))
   refine pl_two rfl rfl (fun K hK=>?_) (fun K hK=>?_)
   ·have HN:=hid (new_any wd Ur (16*(q-1)+9) 1200 (by decide) (by decide))
    go_simp;refine HN.out.mono ?_;rintro e w2 ⟨dd,rfl,hd2,hb2,-⟩;have hc2:Chg (fun _=>False) wd Ur w2 (ext Ur wd (16*(q-1)+9)):=Chg.of_below hb2 _;generalize ext Ur wd (16*(q-1)+9)=U2 at hd2 hc2;have HM2:=hid (And.intro (HMk.out.quiet hc2) hd2);clear hd2 hb2 hc2 HN HMk;refine hK _ _ trivial ?_;clear hK;refine pl_take (v:=?_) rfl (by kernel_rfl) (fun W hW=>?_) ?_
    rotate_left
    ·first|(go_simp;done)|(go_simp;with_reducible rfl)
    refine pl_two rfl rfl (fun K hK=>?_) (fun K hK=>?_)
    ·go_simp
     refine hK _ _ trivial ?_;clear hK;generalize hW3:World.alloc w2 _=w3
     have hc3:Chg (fun _=>False) w2 U2 w3 (ext U2 w2 (16*(q-1)+11)):=by rw[<- hW3];exact((Chg.refl _ _ _).alloc _).ext _
     have hk3:ClockAt w3 (ext U2 w2 (16*(q-1)+11)) (16*(q-1)+11) w2.heap.size 0:=⟨by rw[<- hW3];exact Blk.new _ _ _,ext_new (Nat.le_refl _)⟩;generalize ext U2 w2 (16*(q-1)+11)=U3 at hc3 hk3;have HM3:=hid (And.intro (HM2.out.1.quiet hc3) (And.intro (HM2.out.2.keep hc3 id) hk3));clear hc3 hk3 hW3 HM2;generalize w2.heap.size=kk at *;obtain⟨⟨v9,hv9⟩,-,hf9,-⟩:=HV.out w3 _ _ HM3.out.1 rfl;refine pl_one rfl fun K hK=>?_;go_simp;refine hK _ _ trivial (pl_end ?_);clear hK hv9 hf9;generalize hW4:World.setCell w3 _ _=w4
     have HM4:Hid (MkA wr Ur c ((preV Lr true (q-1) 0).toArray.setIfInBounds (9+q) (ptr dd)) w4 U3/\DevAt w4 U3 (16*(q-1)+9) dd 1200 zeros Lasts/\ClockAt w4 U3 (16*(q-1)+11) kk 0):=hid (by
      have hc4:Chg (· = 86) w3 U3 w4 U3:=by rw[<- hW4];exact(Chg.refl _ _ _).setCell (p:=⟨c,9+q,none⟩) HM3.out.1.blk.own _
      exact⟨by rw[<- hW4];exact HM3.out.1.set_ _ _,HM3.out.2.1.keep hc4 (by omega),HM3.out.2.2.keep hc4 (by omega)⟩)
     clear hW4 HM3;obtain⟨-,⟨v15,hv15⟩,-,hf15⟩:=HV.out w4 _ _ HM4.out.1 (by simp);simp only[Plan.len,List.drop_succ_cons,List.drop_zero,Nat.zero_add,Nat.reduceAdd]
     go_wp2_with fail
     generalize hWf:World.setCell w4 _ _=Wf
     have hcf:Chg (· = 86) w4 U3 Wf U3:=by rw[<- hWf];exact(Chg.refl _ _ _).setCell (p:=⟨c,15+q,none⟩) HM4.out.1.blk.own _
     obtain⟨Ux,Lx,hE⟩:=HFin.out Wf U3 dd kk (by rw[<- hWf];exact HM4.out.1.set_ _ _) (HM4.out.2.1.keep hcf (by omega)) (HM4.out.2.2.keep hcf (by omega));have HE:=hid hE;clear hE hcf hWf HM4 hv15 hf15 HFin HV
     go_roundw
     case rel=>exact⟨q+1,Ux,Lx,by omega,by omega,by go_num,HE.out⟩
     case measure=>simp[intOf];omega
    ·obtain⟨⟨v9,hv9⟩,-,hf9,-⟩:=HV.out w2 _ _ HM2.out.1 rfl
     go_simp;refine hK _ _ trivial ?_;clear hK hv9 hf9;generalize hW3:World.setCell w2 _ _=w3
     have HM3:Hid (MkA wr Ur c ((preV Lr true (q-1) 0).toArray.setIfInBounds (9+q) (ptr dd)) w3 U2/\DevAt w3 U2 (16*(q-1)+9) dd 1200 zeros Lasts):=hid (by
      have hc3:Chg (· = 86) w2 U2 w3 U2:=by rw[<- hW3];exact(Chg.refl _ _ _).setCell (p:=⟨c,9+q,none⟩) HM2.out.1.blk.own _
      exact⟨by rw[<- hW3];exact HM2.out.1.set_ _ _,HM2.out.2.keep hc3 (by omega)⟩)
     clear hW3 HM2;refine pl_one rfl fun K hK=>?_;go_simp;refine hK _ _ trivial (pl_end ?_);clear hK;generalize hW4:World.alloc w3 _=w4
     have hc4:Chg (fun _=>False) w3 U2 w4 (ext U2 w3 (16*(q-1)+11)):=by rw[<- hW4];exact((Chg.refl _ _ _).alloc _).ext _
     have hk4:ClockAt w4 (ext U2 w3 (16*(q-1)+11)) (16*(q-1)+11) w3.heap.size 0:=⟨by rw[<- hW4];exact Blk.new _ _ _,ext_new (Nat.le_refl _)⟩;generalize ext U2 w3 (16*(q-1)+11)=U3 at hc4 hk4;have HM4:=hid (And.intro (HM3.out.1.quiet hc4) (And.intro (HM3.out.2.keep hc4 id) hk4));clear hc4 hk4 hW4 HM3;generalize w3.heap.size=kk at *;obtain⟨-,⟨v15,hv15⟩,-,hf15⟩:=HV.out w4 _ _ HM4.out.1 (by simp);simp only[Plan.len,List.drop_succ_cons,List.drop_zero,Nat.zero_add,Nat.reduceAdd]
     go_wp2_with fail
     generalize hWf:World.setCell w4 _ _=Wf
     have hcf:Chg (· = 86) w4 U3 Wf U3:=by rw[<- hWf];exact(Chg.refl _ _ _).setCell (p:=⟨c,15+q,none⟩) HM4.out.1.blk.own _
     obtain⟨Ux,Lx,hE⟩:=HFin.out Wf U3 dd kk (by rw[<- hWf];exact HM4.out.1.set_ _ _) (HM4.out.2.1.keep hcf (by omega)) (HM4.out.2.2.keep hcf (by omega));have HE:=hid hE;clear hE hcf hWf HM4 hv15 hf15 HFin HV
     go_roundw
     case rel=>exact⟨q+1,Ux,Lx,by omega,by omega,by go_num,HE.out⟩
     case measure=>simp[intOf];omega
   ·go_simp
    refine hK _ _ trivial ?_;clear hK;generalize hW2:World.alloc wd _=w2
    have hc2:Chg (fun _=>False) wd Ur w2 (ext Ur wd (16*(q-1)+11)):=by rw[<- hW2];exact((Chg.refl _ _ _).alloc _).ext _
    have hk2:ClockAt w2 (ext Ur wd (16*(q-1)+11)) (16*(q-1)+11) wd.heap.size 0:=⟨by rw[<- hW2];exact Blk.new _ _ _,ext_new (Nat.le_refl _)⟩;generalize ext Ur wd (16*(q-1)+11)=U2 at hc2 hk2;have HM2:=hid (And.intro (HMk.out.quiet hc2) hk2);clear hc2 hk2 hW2 HMk;generalize wd.heap.size=kk at *;have HN:=hid (new_any w2 U2 (16*(q-1)+9) 1200 (by decide) (by decide));refine pl_one rfl fun K hK=>?_;go_simp;refine HN.out.mono ?_;rintro e w3 ⟨dd,rfl,hd3,hb3,-⟩;have hc3:Chg (fun _=>False) w2 U2 w3 (ext U2 w2 (16*(q-1)+9)):=Chg.of_below hb3 _;generalize ext U2 w2 (16*(q-1)+9)=U3 at hd3 hc3;have HM3:=hid (And.intro (HM2.out.1.quiet hc3) (And.intro hd3 (HM2.out.2.keep hc3 id)));clear hd3 hb3 hc3 HN HM2;refine hK _ _ trivial ?_;clear hK;refine pl_take (v:=?_) rfl (by kernel_rfl) (fun W hW=>?_) ?_
    rotate_left
    ·first|(go_simp;done)|(go_simp;with_reducible rfl)
    obtain⟨⟨v9,hv9⟩,-,hf9,-⟩:=HV.out w3 _ _ HM3.out.1 rfl;refine pl_one rfl fun K hK=>?_;go_simp;refine hK _ _ trivial (pl_end ?_);clear hK hv9 hf9;generalize hW4:World.setCell w3 _ _=w4
    have HM4:Hid (MkA wr Ur c ((preV Lr true (q-1) 0).toArray.setIfInBounds (9+q) (ptr dd)) w4 U3/\DevAt w4 U3 (16*(q-1)+9) dd 1200 zeros Lasts/\ClockAt w4 U3 (16*(q-1)+11) kk 0):=hid (by
     have hc4:Chg (· = 86) w3 U3 w4 U3:=by rw[<- hW4];exact(Chg.refl _ _ _).setCell (p:=⟨c,9+q,none⟩) HM3.out.1.blk.own _
     exact⟨by rw[<- hW4];exact HM3.out.1.set_ _ _,HM3.out.2.1.keep hc4 (by omega),HM3.out.2.2.keep hc4 (by omega)⟩)
    clear hW4 HM3;obtain⟨-,⟨v15,hv15⟩,-,hf15⟩:=HV.out w4 _ _ HM4.out.1 (by simp);simp only[Plan.len,List.drop_succ_cons,List.drop_zero,Nat.zero_add,Nat.reduceAdd]
    go_wp2_with fail
    generalize hWf:World.setCell w4 _ _=Wf
    have hcf:Chg (· = 86) w4 U3 Wf U3:=by rw[<- hWf];exact(Chg.refl _ _ _).setCell (p:=⟨c,15+q,none⟩) HM4.out.1.blk.own _
    obtain⟨Ux,Lx,hE⟩:=HFin.out Wf U3 dd kk (by rw[<- hWf];exact HM4.out.1.set_ _ _) (HM4.out.2.1.keep hcf (by omega)) (HM4.out.2.2.keep hcf (by omega));have HE:=hid hE;clear hE hcf hWf HM4 hv15 hf15 HFin HV
    go_roundw
    case rel=>exact⟨q+1,Ux,Lx,by omega,by omega,by go_num,HE.out⟩
    case measure=>simp[intOf];omega
  ·obtain rfl:q=6:=by omega
   have HP:=hid (And.intro hP hC);clear hP hC H7
   go_wp2_with fail
   go_loopw [59] (fun v wr=>∃ (j:Nat) (Ur:Own) (Lr:CL),j<=n/\v=.int .i64 (j:Int)/\PreAt wr Ur c Lr n 5 j/\Chg CT w U wr Ur) (fun v _=>n-(intOf v).toNat)
   case atStart=>exact⟨0,Ur,Lr,Nat.zero_le _,rfl,HP.out⟩
   case round=>
    obtain⟨j,Us,Ls,hj,rfl,hP2,hC2⟩:=hrel
    by_cases hlt:j<n
    ·have k1:(j:Int)<(n:Int):=by omega
     have k2:(0:Int)<=(j:Int):=by omega
     obtain⟨b,o,hAe,hcs⟩:=HSl.out _ Us hC2 (by intro e;have:=congrArg List.length e;simp[nnums,upto]at this;omega);have hcj:=hcs j _ (upto_get n j hlt);have HSt:=hid (start78 _ Us c n (j+1) Ls hP2 (by omega) (by have:=HN.out.2;omega));have HC2:=hid hC2;subst hAe;clear hP2 hC2 hcs HP
     go_wp2_with (go_at_call 78;fail)
     refine HSt.out.mono ?_;rintro e w9 ⟨rfl,L9,U9,hP9,hC9⟩;have HE:=hid (And.intro hP9 (HC2.out.trans hC9));clear hP9 hC9
     go_wp2_with fail
     go_roundw
     case rel=>
      (repeat apply Exists.intro)
      exact⟨⟨j+1,U9,L9,by omega,by go_num,HE.out⟩,rfl⟩
     case measure=>simp[intOf];omega
    ·obtain rfl:j=n:=by omega
     have HE:=hid (And.intro (hP2.full HN.out.1 HN.out.2) hC2);clear hP2 hC2 HP
     go_wp2_with fail
     go_ret;exact⟨c,Ls,Us,rfl,HE.out.1,HE.out.2⟩
section
variable (w : World) (U : Own) (c : Nat) (L : CL) (s : PCl) (H : CluAt w U c L s)
include H
theorem log27:Calls Tryz.prog 27 #[ptr c] w fun e w'=>e=.returned (ptr L.log)/\w=w':=by
 have c9:w.cell? ⟨c,29,none⟩=some (ptr L.log):=H.blk.cell 29;clear H;go_enter Tryz.func27,Tryz.ntmps27
 go_wp2
 go_ret;exact⟨rfl,rfl⟩
theorem net35:Calls Tryz.prog 35 #[ptr c] w fun e w'=>e=.returned (ptr L.net)/\w=w':=by
 have c9:w.cell? ⟨c,27,none⟩=some (ptr L.net):=H.blk.cell 27;clear H;go_enter Tryz.func35,Tryz.ntmps35
 go_wp2
 go_ret;exact⟨rfl,rfl⟩
theorem org39:Calls Tryz.prog 39 #[ptr c] w fun e w'=>e=.returned (ptr L.org)/\w=w':=by
 have c9:w.cell? ⟨c,28,none⟩=some (ptr L.org):=H.blk.cell 28;clear H;go_enter Tryz.func39,Tryz.ntmps39
 go_wp2
 go_ret;exact⟨rfl,rfl⟩
theorem ctl71:Calls Tryz.prog 71 #[ptr c] w fun e w'=>e=.returned (ptr L.ctl)/\w=w':=by
 have c9:w.cell? ⟨c,0,none⟩=some (ptr L.ctl):=H.blk.cell 0;clear H;go_enter Tryz.func71,Tryz.ntmps71
 go_wp2
 go_ret;exact⟨rfl,rfl⟩
end
structure PW where
 c:PCl
 low:List Nat
structure WAt (w:World)(U:Own)(x c:Nat)(L:CL)(s:PW):Prop where
 clu:CluAt w U c L s.c
 ex:∃ v cs,Has w U 87 x 48 cs/\cs[0]? = some (ptr c)/\cs[1]? = some v/\Rw w U 183 3 1 v s.low.length (nnums s.low)
def WX (x:Nat):Prop:=x%96<=87
theorem WAt.keep {T:Nat->Prop}{w w':World}{U U':Own}{x c:Nat}{L:CL}{s:PW}(H:WAt w U x c L s)(hc:Chg T w U w' U')(hT:∀ x,T x->¬ WX x):WAt w' U' x c L s:=by
 obtain⟨h1,v,cs,h2,h3,h4,h5⟩:=H;exact⟨h1.keep hc fun x hx hy=>hT x hx (by unfold CT at hy;unfold WX;omega),v,cs,h2.keep hc fun h=>hT _ h (by unfold WX;decide),h3,h4,h5.keep hc fun h=>hT _ h (by unfold WX;decide)⟩
theorem WAt.setC {w w':World}{U U':Own}{x c:Nat}{L:CL}{s:PW}{k:PCl}(H:WAt w U x c L s)(hk:CluAt w' U' c L k)(hc:Chg CT w U w' U'):WAt w' U' x c L { s with c:=k }:=by
 obtain⟨h1,v,cs,h2,h3,h4,h5⟩:=H;exact⟨hk,v,cs,h2.keep hc (by unfold CT;decide),h3,h4,h5.keep hc (by unfold CT;decide)⟩
theorem WAt.cells {w:World}{U:Own}{x c:Nat}{L:CL}{s:PW}(H:WAt w U x c L s):w.cell? ⟨x,0,none⟩=some (ptr c)/\∃ A ca,w.cell? ⟨x,1,none⟩=some (.slice A s.low.length ca):=by
 obtain⟨h1,v,cs,h2,h3,h4,h5⟩:=H;obtain⟨A,ca,rfl⟩:=h5.value;exact⟨(h2.cell 0).trans h3,A,ca,(h2.cell 1).trans h4⟩
def PW.new (n:Nat):PW:=⟨PCl.new n,[]⟩
theorem WAt.newC {T:Nat->Prop}{w:World}{U:Own}{o1 o2:Obj}:Chg T w U ((w.alloc o1).alloc o2) (ext (ext U w 94) (w.alloc o1) 87):=
 (((Chg.refl (fun _=>False) w U).alloc _).ext 94 |>.trans (((Chg.refl (fun _=>False) _ _).alloc _).ext 87)).mono fun _ h=>h.elim
theorem WAt.new {w:World}{U:Own}{c n:Nat}{L:CL}{o1:Obj}{cs:Array Value}(H:CluAt w U c L (PCl.new n))(h0:cs[0]? = some (ptr c))(h1:cs[1]? = some (.slice none 0 0)) :
 WAt ((w.alloc o1).alloc (.cells cs 48)) (ext (ext U w 94) (w.alloc o1) 87) (w.heap.size+1) c L (PW.new n):=by
 have hb:=Blk.new (w.alloc o1) 48 cs;rw[World.size_alloc]at hb;exact⟨H.keep (WAt.newC (T:=fun _=>False)) (fun _ h=>h.elim),_,cs,⟨hb,ext_new (by rw[World.size_alloc];exact Nat.le_refl _)⟩,h0,h1,Rw.nil _ _ _ _ _⟩
theorem new38 (w:World)(U:Own)(n ca:Nat)(A:Option Addr)(hs:Sl w A (nnums (upto n)))(hA:∀ a,A=some a->a.block<w.heap.size/\¬ CT (U a.block))(h1:1<=n)(h5:n<=5) :
 Calls Tryz.prog 38 #[.slice A n ca] w fun e w'=>∃ x c L U',e=.returned (ptr x)/\WAt w' U' x c L (PW.new n)/\Chg CT w U w' U':=by
 have HN:=hid (new55 w U n ca A hs hA h1 h5);clear hs hA;go_enter Tryz.func38,Tryz.ntmps38
 go_wp2_with (go_at_call 55;fail)
 refine HN.out.mono ?_;rintro e w1 ⟨c,L,U1,rfl,hc1,hch⟩;have H1:=hid (And.intro hc1 hch);clear hc1 hch HN
 go_wp2_with fail
 go_ret;exact⟨_,c,L,_,rfl,WAt.new H1.out.1 rfl rfl,H1.out.2.trans WAt.newC⟩
def low1 (key:ByteArray)(lo:Nat)(x:PCall):Nat:=if decide (x.op=2) && decide (x.key=key) && x.done && decide (x.reply.err=0) then max lo x.frm else lo
def lowOf (l:List PCall)(key:ByteArray):Nat:=l.foldl (low1 key) 0
def PCl.ticks? (s:PCl):List Nat->Option PCl
 | []=>some s
 | a :: l=>match s.tick? a with
  | some s'=>s'.ticks? l
  | none=>none
def stepOk (fn:Nat)(key val:ByteArray)(on:Bool):Bool:=decide (key.size<=45) && decide (val.size<=60) && (if fn=6 then on else !on && decide (val.size=0))
def PW.step? (s:PW)(fn a n:Nat)(key val:ByteArray)(on:Bool):Option PW:=
 if stepOk fn key val on && decide (s.c.log.length<=900) && decide (s.low.length<=900) then
  if fn=1 then (s.c.ticks? (List.range 6)).map fun c=>{ s with c:=c }
  else match s.c.step? fn a n key val on with
   | some c'=>if c'.log.length<=1000 then some ⟨c',if c'.log.length=s.low.length+1 then s.low++[if fn=7\/fn=8 then lowOf s.c.log key else 0] else s.low⟩ else none
   | none=>none
 else none
structure PsA (w:World)(U:Own)(x c b y:Nat)(L:CL)(s:PW)(sv:List Value)(W:World)(U':Own):Prop where
 wat:WAt W U' x c L s
 stp:Has W U' y b 39 sv.toArray
 chg:Chg WX w U W U'
theorem PsA.quiet {w W W2:World}{U U1 U2:Own}{x c b y:Nat}{L:CL}{s:PW}{sv:List Value}(h:PsA w U x c b y L s sv W U1)(hc:Chg (fun _=>False) W U1 W2 U2):PsA w U x c b y L s sv W2 U2:=
 ⟨h.wat.keep hc fun _ h=>h.elim,h.stp.keep hc id,h.chg.trans (hc.mono fun _ h=>h.elim)⟩
def PsT (x b:Nat)(pc:Value)(sv:List Value)(W:World):Prop:=W.cell? ⟨x,0,none⟩=some pc/\Blk W b 39 sv.toArray
def PsS (b:Nat)(key val:ByteArray)(W:World):Prop:=W.cell? ⟨b,3,none⟩=some (.string key)/\W.cell? ⟨b,4,none⟩=some (.string val)
theorem step34 (w:World)(U:Own)(x c:Nat)(L:CL)(s s':PW)(H:WAt w U x c L s)(fn a n:Nat)(key val:ByteArray)(on:Bool)(ha:s.step? fn a n key val on=some s') :
 Calls Tryz.prog 34 #[ptr x,.agg (stepV fn a n key val on).toArray] w fun e w'=>e=.returned (.int .i64 0)/\∃ U',WAt w' U' x c L s'/\Chg WX w U w' U':=by
 unfold PW.step? at ha
 split at ha
 case isFalse=>cases ha
 rename_i hg;simp only[stepOk,Bool.and_eq_true,decide_eq_true_eq]at hg;obtain⟨⟨⟨⟨hks,hvs⟩,hon⟩,hll⟩,hlw⟩:=hg
 have hon':(fn=6/\on=true)\/(fn≠6/\on=false/\val=⟨#[]⟩):=by
  split at hon
  ·exact .inl ⟨by assumption,hon⟩
  ·simp only[Bool.and_eq_true,Bool.not_eq_true',decide_eq_true_eq]at hon
   exact .inr ⟨by assumption,hon.1,size_zero hon.2⟩
 obtain⟨y,hy1,hy2⟩:=fresh95 w U;obtain⟨W1,hW1⟩:∃ W,W=w.alloc (.cells (stepV fn a n key val on).toArray 39):=⟨_,rfl⟩
 have hc1:Chg (fun _=>False) w U W1.drew (ext U w y):=by rw[hW1];exact(((Chg.refl _ _ _).alloc _).ext _).drew
 have hA1:PsA w U x c w.heap.size y L s (stepV fn a n key val on) W1.drew (ext U w y):=⟨H.keep hc1 fun _ h=>h.elim,⟨by rw[hW1];exact(Blk.new _ _ _).drewN 1,ext_new (Nat.le_refl _)⟩,hc1.mono fun _ h=>h.elim⟩;generalize ext U w y=U1 at hA1;have S1:Hid (PsS w.heap.size key val W1.drew):=hid ⟨hA1.stp.cell 3,hA1.stp.cell 4⟩;have HC1:Hid (∀ W,Calls Tryz.prog 52 #[.string key,.int .i64 45] W fun e w'=>e=.returned (.string key)/\W=w'):=hid fun W=>cut52 W key 45 hks (by decide);have HC2:Hid (∀ W,Calls Tryz.prog 52 #[.string val,.int .i64 60] W fun e w'=>e=.returned (.string val)/\W=w'):=hid fun W=>cut52 W val 60 hvs (by decide)
 have HSA:Hid (∀ W,W=(W1.drew.setCell ⟨w.heap.size,3,none⟩ (.string key)).setCell ⟨w.heap.size,4,none⟩ (.string val)\/W=((W1.drew.setCell ⟨w.heap.size,3,none⟩ (.string key)).setCell ⟨w.heap.size,4,none⟩ (.string val)).setCell ⟨w.heap.size,4,none⟩ (.string val)->PsA w U x c w.heap.size y L s (stepV fn a n key val on) W U1):=hid fun W hW=>by
  have hh:=(hA1.stp.set_ 3 (.string key)).set_ 4 (.string val);have hcc:=((Chg.refl (· = y) W1.drew U1).setCell (p:=⟨w.heap.size,3,none⟩) hA1.stp.own (.string key)).setCell (p:=⟨w.heap.size,4,none⟩) hA1.stp.own (.string val);have hcw:=(hA1.chg.setNew (p:=⟨w.heap.size,3,none⟩) (Nat.le_refl _) (.string key)).setNew (p:=⟨w.heap.size,4,none⟩) (Nat.le_refl _) (.string val)
  have hy:∀ z,z=y->¬ WX z:=fun z hz=>by rw[hz];unfold WX;omega
  rcases hW with hW|hW
  ·rw[hW];exact⟨hA1.wat.keep hcc hy,hh,hcw⟩
  ·rw[hW];exact⟨hA1.wat.keep (hcc.setCell (p:=⟨w.heap.size,4,none⟩) hA1.stp.own (.string val)) hy,hh.set_ 4 (.string val),hcw.setNew (p:=⟨w.heap.size,4,none⟩) (Nat.le_refl _) (.string val)⟩
 have hB1:=hid hA1.stp.blk;have HX:=hid (And.intro hll (And.intro hlw hy1));have HAs:=hid ha;have HW1:=hid hW1;clear H ha hks hvs hon hll hlw hy1 hy2 hW1 hc1 hA1
 rcases hon' with ⟨h6,hon⟩|⟨h6,hon,hval⟩
 focus(subst h6;subst hon)
 rotate_left
 focus(subst hon;subst hval)
 rotate_left
 all_goals (
  go_enter Tryz.func34,Tryz.ntmps34
  go_wp2_with (first|rw[<- HW1.out]|fail)
  refine wp_region_hl [2,5] [0,1,3,4,2,6,5] (PsS w.heap.size key _ ) (by kernel_rfl) (by kernel_rfl) S1.out ?_
  iterate 4 (refine hd_take (v:=?_) rfl rfl (by kernel_rfl) (fun W hW=>?_) ?_;rotate_left;(obtain⟨r0,r1⟩:=hW;first|(go_simp;done)|(go_simp;with_reducible rfl)))
  refine hd_loud rfl rfl fun K hK=>?_;go_simp;refine(HC1.out _).mono ?_;rintro e w2 ⟨rfl,rfl⟩;refine hK _ _ S1.out ?_;clear hK;refine hd_take (v:=?_) rfl rfl (by kernel_rfl) (fun W hW=>?_) ?_
  rotate_left
  (first|(go_simp;done)|(go_simp;with_reducible rfl))
  refine hd_loud rfl rfl fun K hK=>?_;go_simp;refine(HC2.out _).mono ?_;rintro e w2 ⟨rfl,rfl⟩;refine hK _ _ S1.out (hd_end ?_);clear hK;simp only[zqa,zqb,zqc,zqd,Nat.zero_add,Nat.reduceAdd];have hb:=hB1.out;generalize W1.drew=wd at *;have e3:=hb.cell 3;have e4:=hb.cell 4;have e5:=hb.cell 5;have e6:=hb.cell 6;simp only[stepV,List.getElem?_toArray,List.getElem?_cons_succ,List.getElem?_cons_zero]at e3 e4 e5 e6;have g3:=hb.frozen 3;have g4:=hb.frozen 4;clear hb hB1 S1
  go_upto_region 6 with fail)
 focus(
  generalize hW2:World.setCell (World.setCell wd _ _) _ _=W2;have HA2:=hid (HSA.out W2 (.inl hW2.symm));clear hW2 HSA e3 e4 e5 e6 g3 g4 HC1 HC2 HW1;have b0:W2.cell? ⟨w.heap.size,0,none⟩=some (.int .i64 6):=HA2.out.stp.cell 0;have HLV:Hid ((if (6:Nat)=7\/6=8 then lowOf s.c.log key else 0)=0):=hid (if_neg (by omega))
  go_upto_region 20 with fail
  have HA5:=HA2;clear HA2 b0;generalize W2=W5 at HA5 ⊢
  generalize U1=U5 at HA5)
 rotate_left
 focus(
  generalize hW2:World.setCell (World.setCell (World.setCell wd _ _) _ _) _ _=W2;have HA2:=hid (HSA.out W2 (.inr hW2.symm));clear hW2 HSA e3 e4 e5 e6 g3 g4 HC1 HC2 HW1
  have hfn:fn=1\/fn≠1:=by omega
  rcases hfn with hfn|hfn
  focus(
   subst hfn;have b0:W2.cell? ⟨w.heap.size,0,none⟩=some (.int .i64 1):=HA2.out.stp.cell 0;have ha:=HAs.out;rw[if_pos rfl]at ha;obtain⟨cf,hcf,hs'⟩:=Option.map_eq_some_iff.1 ha;have HCF:=hid (And.intro hcf hs');clear ha hcf hs'
   go_wp2_with fail
   go_loopw [5] (fun v wr=>∃ (k:Nat) (Ur:Own) (ck:PCl),k<=6/\v=.int .i64 (k:Int)/\ck.ticks? ((List.range 6).drop k)=some cf/\WAt wr Ur x c L { s with c:=ck }/\Chg WX w U wr Ur) (fun v _=>6-(intOf v).toNat)
   case atStart=>exact⟨0,U1,s.c,by omega,rfl,HCF.out.1,HA2.out.wat,HA2.out.chg⟩
   case round=>
    obtain⟨k,Ur,ck,hk,rfl,hti,hwa,hch⟩:=hrel
    by_cases hlt:k<6
    ·rw[List.drop_eq_getElem_cons (by simpa using hlt)]at hti
     rw[List.getElem_range]at hti;unfold PCl.ticks? at hti
     split at hti
     case h_2=>cases hti
     rename_i ck' htk;have hst:=step53 wr Ur c L ck ck' hwa.clu 1 k 0 ⟨#[]⟩ ⟨#[]⟩ false (by unfold PCl.step?;rw[if_pos rfl];exact htk);have HST:=hid hst;have q0:=hwa.cells.1;have HW:=hid (And.intro hwa (And.intro hch hti))
     have k1:(k:Int)<=5:=by omega
     clear hst hwa hch hti htk b0;unfold stepV at HST
     go_wp2_with (go_at_call 53;fail)
     refine HST.out.mono ?_;rintro e w4 ⟨rfl,U4,h4,hc4⟩;have HE:=hid (And.intro (HW.out.1.setC h4 hc4) (HW.out.2.1.trans (hc4.mono fun x h=>by unfold CT at h;unfold WX;omega)));clear h4 hc4
     go_wp2_with fail
     go_roundw
     case rel=>exact⟨k+1,U4,ck',by omega,by go_num,HW.out.2.2,HE.out⟩
     case measure=>simp[intOf];omega
    ·obtain rfl:k=6:=by omega
     have hck:ck=cf:=by
      have:(List.range 6).drop 6=[]:=rfl;rw[this]at hti;injection hti
     have HE:=hid (And.intro hwa hch);clear hwa hch hti
     go_wp2_with fail
     go_ret;refine⟨rfl,Ur,?_,HE.out.2⟩;rw[<- HCF.out.2,<- hck]
     exact HE.out.1)
  have kk1:((fn:Int) == 1)=false:=by rw[beq_eq_false_iff_ne];omega
  have b0:W2.cell? ⟨w.heap.size,0,none⟩=some (.int .i64 (fn:Int)):=HA2.out.stp.cell 0;have b3:W2.cell? ⟨w.heap.size,3,none⟩=some (.string key):=HA2.out.stp.cell 3
  have hf7:fn=7\/fn=8\/(fn≠7/\fn≠8):=by omega
  have HFn:=hid hf7
  have hf78:(fn=7\/fn=8)\/(fn≠7/\fn≠8):=by omega
  rcases hf78 with hf|hf
  focus(
   have q0:=HA2.out.wat.cells.1;have HLg:=hid (log27 W2 U1 c L s.c HA2.out.wat.clu);have HAl:=hid (all28 W2 U1 85 L.log s.c.log HA2.out.wat.clu.log (by have:=HX.out.1;omega))
   have kk78:((fn:Int) == 7)=true\/(((fn:Int) == 7)=false/\((fn:Int) == 8)=true):=by
    rcases hf with e|e
    ·left;rw[e];rfl
    ·right;rw[e];exact⟨rfl,rfl⟩
   have HLv:Hid ((if fn=7\/fn=8 then lowOf s.c.log key else 0)=lowOf s.c.log key):=hid (if_pos hf);clear hf hf7
   rcases kk78 with kk|⟨kk,kk'⟩
   all_goals (
    go_wp2_with (go_at_call 27;refine HLg.out.mono ?_;rintro e w' ⟨rfl,hw⟩;obtain rfl:=hw)
    refine HAl.out.mono ?_;rintro e w4 ⟨v4,rfl,ho4,hb4⟩;obtain⟨A4,c4,rfl⟩:=ownsRow_slice ho4;have hc4:Chg (fun _=>False) W2 U1 w4 (ext U1 W2 y):=Chg.of_below hb4 y;have hrw:Rw w4 (ext U1 W2 y) y 59 13 (.slice A4 s.c.log.length c4) s.c.log.length (s.c.log.flatMap encC):=Rw.of_new ho4 (Nat.le_refl _) _ _;have hA4:=HA2.out.quiet hc4;generalize ext U1 W2 y=U4 at hc4 hrw hA4;obtain⟨A',c',e',-,-,-,hsl,-,-⟩:=hrw.slice
    injection e' with e1 _ _
    subst e1;have HCe:Hid (∀ k (hk:k<s.c.log.length),∃ g o,A4=some ⟨g,o,none⟩/\∀ r v,(encC s.c.log[k])[r]? = some v->w4.cell? ⟨g,o+(k*13+r),none⟩=some v):=hid fun k hk=>Sl.flat encC_len (by decide) hsl k hk;have HA4:=hid hA4;have b3':w4.cell? ⟨w.heap.size,3,none⟩=some (.string key):=hA4.stp.cell 3;obtain⟨l,hl⟩:∃ l,l=s.c.log:=⟨_,rfl⟩;rw[<- hl]at HCe;obtain⟨N,hN⟩:∃ N,N=l.length:=⟨_,rfl⟩;have HNl:=hid (And.intro hN hl)
    have hlN:s.c.log.length=N:=by rw[hN,hl]
    rw[hlN];have HN9:Hid (N<=900):=hid (by have:=HX.out.1;omega);clear ho4 hb4 hc4 hrw hA4 hsl hl hN hlN b0 b3 q0 HLg HAl HA2
    go_wp2_with fail
    go_loopw [6,8] (fun lo v wr=>∃ (k:Nat),k<=N/\v=.int .i64 (k:Int)/\lo=.int .i64 ((((l.take k).foldl (low1 key) 0:Nat)):Int)/\Chg (fun _=>False) w4 U4 wr U4) (fun _ v _=>N-(intOf v).toNat)
    case atStart=>exact⟨0,Nat.zero_le _,rfl,rfl,Chg.refl _ _ _⟩
    case' round=>
     obtain⟨k,hk,rfl,rfl,hwr⟩:=hrel
     have hcl:∀ g i v,w4.cell? ⟨g,i,none⟩=some v->wr.cell? ⟨g,i,none⟩=some v:=fun g i v h=>by rw[<- h];exact World.cell?_of_block (a:=⟨g,i,none⟩) (hwr.block g (World.block_lt_of_cell? w4 ⟨g,i,none⟩ h) id)
     by_cases hlt:k<N
     ·have hkl:k<l.length:=by rw[<- HNl.out.1];exact hlt
      obtain⟨g,o,rfl,hcs⟩:=HCe.out k hkl;have HT:Hid ((l.take (k+1)).foldl (low1 key) 0=low1 key ((l.take k).foldl (low1 key) 0) l[k]):=hid (foldl_take_succ _ _ _ _ hkl);generalize l[k]=z at hcs HT;generalize (l.take k).foldl (low1 key) 0=lo at HT ⊢;have q1:wr.cell? ⟨g,o+k*13+1,none⟩=some (.int .i64 (z.op:Int)):=hcl _ _ _ (hcs 1 _ rfl);have q2:wr.cell? ⟨g,o+k*13+2,none⟩=some (.string z.key):=hcl _ _ _ (hcs 2 _ rfl);have q4:wr.cell? ⟨g,o+k*13+4,none⟩=some (.int .i64 (z.frm:Int)):=hcl _ _ _ (hcs 4 _ rfl);have q6:wr.cell? ⟨g,o+k*13+6,none⟩=some (.bool z.done):=hcl _ _ _ (hcs 6 _ rfl);have q10:wr.cell? ⟨g,o+k*13+10,none⟩=some (.int .i64 (z.reply.err:Int)):=hcl _ _ _ (hcs 10 _ rfl);have p3:wr.cell? ⟨w.heap.size,3,none⟩=some (.string key):=hcl _ _ _ b3'
      have k1:(k:Int)<(N:Int):=by omega
      have k2:(0:Int)<=(k:Int):=by omega
      have k3:(k:Int)<=900:=by have:=HN9.out;omega
      have HWr:=hid hwr;clear hcs hwr b3' hcl
      have h5c:(((z.op:Int) == 2)=false/\low1 key lo z=lo)\/(z.op=2/\(z.key.toList == key.toList)=false/\¬ z.key=key/\low1 key lo z=lo)\/(z.op=2/\z.key=key/\z.done=false/\low1 key lo z=lo)\/(z.op=2/\z.key=key/\z.done=true/\((z.reply.err:Int) == 0)=false/\low1 key lo z=lo)\/(z.op=2/\z.key=key/\z.done=true/\z.reply.err=0/\low1 key lo z=max lo z.frm):=by
       by_cases c1:z.op=2
       ·by_cases c2:z.key=key
        ·cases c3:z.done with
         | false=>exact .inr (.inr (.inl ⟨c1,c2,rfl,by unfold low1;simp[c3]⟩))
         | true=>
          by_cases c4:z.reply.err=0
          ·exact .inr (.inr (.inr (.inr ⟨c1,c2,rfl,c4,by unfold low1;simp[c1,c2,c3,c4]⟩)))
          ·exact .inr (.inr (.inr (.inl ⟨c1,c2,rfl,by rw[beq_eq_false_iff_ne];omega,by unfold low1;simp[c4]⟩)))
        ·exact .inr (.inl ⟨c1,text_ne c2,c2,by unfold low1;simp[c2]⟩)
       ·exact .inl ⟨by rw[beq_eq_false_iff_ne];omega,by unfold low1;simp[c1]⟩
      rcases h5c with ⟨d1,hE⟩|⟨c1,d2,d2',hE⟩|⟨c1,c2,c3,hE⟩|⟨c1,c2,c3,d4,hE⟩|⟨c1,c2,c3,c4,hE⟩
      rotate_left
      focus(rw[c1]at q1;clear c1)
      rotate_left
      focus(rw[c1]at q1;rw[c2]at q2;rw[c3]at q6;clear c1 c2 c3)
      rotate_left
      focus(rw[c1]at q1;rw[c2]at q2;rw[c3]at q6;clear c1 c2 c3)
      rotate_left
      focus(rw[c1]at q1;rw[c2]at q2;rw[c3]at q6;rw[c4]at q10;clear c1 c2 c3 c4)
      rotate_left
      all_goals (
       have HE:=hid hE;clear hE
       go_wp2_with fail
       go_quiet (fail)
       go_wp2_with fail
       go_roundw
       case rel=>
        refine⟨k+1,by omega,by go_num,?_,HWr.out.drewN nq⟩;rw[HT.out,HE.out]
        first|done|rfl|(congr 1;first|omega|(split <;> omega))
       case measure=>first|(simp[intOf];omega)|simp[intOf])
     obtain rfl:k=N:=by omega
     rw[List.take_of_length_le (by rw[HNl.out.1];exact Nat.le_refl _)]
     have hlo:l.foldl (low1 key) 0=lowOf s.c.log key:=by rw[HNl.out.2];rfl
     rw[hlo];have HA5:Hid (PsA w U x c w.heap.size y L s (stepV fn a n key ⟨#[]⟩ false) wr U4):=hid (HA4.out.quiet hwr);clear hwr hlo HCe hcl
     go_upto_region 20 with fail
     obtain⟨lv,hlv⟩:∃ lv,lowOf s.c.log key=lv:=⟨_,rfl⟩;have HLV:Hid ((if fn=7\/fn=8 then lowOf s.c.log key else 0)=lv):=hid (by rw[<- hlv];exact HLv.out);rw[hlv];clear hlv HLv HN9 HNl hk hlt HA4 b3';generalize wr=W5 at HA5 ⊢
     generalize U4=U5 at HA5))
  rotate_left 2
  focus(
   have k7:((fn:Int) == 7)=false:=by rw[beq_eq_false_iff_ne];omega
   have k8:((fn:Int) == 8)=false:=by rw[beq_eq_false_iff_ne];omega
   have HLV:Hid ((if fn=7\/fn=8 then lowOf s.c.log key else 0)=0):=hid (if_neg (by omega))
   go_upto_region 20 with fail
   have HA5:=HA2;clear HA2 b0 b3;generalize W2=W5 at HA5 ⊢
   generalize U1=U5 at HA5))
 all_goals (
  have ha:=HAs.out;rw[if_neg (by omega)]at ha
  split at ha
  case h_2=>cases ha
  rename_i c' hst
  split at ha
  case isFalse=>cases ha
  rename_i hle
  injection ha with ha
  rw[HLV.out]at ha;have hcd:Chg (fun _=>False) W5 U5 W5.drew U5:=(Chg.refl _ _ _).drew;have hA6:=HA5.out.quiet hcd;have S20:Hid (PsT x w.heap.size (ptr c) _ W5.drew):=hid ⟨hA6.wat.cells.1,hA6.stp.blk⟩;have HST:=hid (step53 W5.drew U5 c L s.c c' hA6.wat.clu _ a n key _ _ hst);have HA6:=hid hA6;have HEq:=hid (And.intro ha hle);clear ha hst hle hcd hA6 HA5 HLV HAs;refine wp_region_hl [] [0,1,2,3,4] (PsT x w.heap.size (ptr c) _) (by kernel_rfl) (by kernel_rfl) S20.out ?_
  iterate 4 (refine hd_take (v:=?_) rfl rfl (by kernel_rfl) (fun W hW=>?_) ?_;rotate_left;(obtain⟨r0,-⟩:=hW;first|(go_simp;done)|(go_simp;with_reducible rfl)))
  refine hd_load 39 (.tmp 3) rfl rfl (by kernel_rfl) rfl (ptr w.heap.size) (.agg (stepV _ a n key _ _).toArray) (by go_simp) (fun W hW=>load_blk (by kernel_rfl) (by kernel_rfl) hW.2) (hd_end ?_);simp only[zqa,zqb,zqc,zqd,Nat.zero_add,Nat.reduceAdd]
  go_wp2_with (go_at_call 53;fail)
  refine HST.out.mono ?_;rintro e w6 ⟨rfl,U6,h6c,hc6⟩;have hwa6:=HA6.out.wat.setC h6c hc6;obtain⟨q0,A6,c6,q1⟩:=hwa6.cells;have HLg:=hid (log27 w6 U6 c L c' h6c);have HAl:=hid (all28 w6 U6 85 L.log c'.log h6c.log HEq.out.2);have HW6:=hid (And.intro hwa6 (HA6.out.chg.trans (hc6.mono fun x h=>by unfold CT at h;unfold WX;omega)));clear h6c hc6 hwa6 HST HA6
  go_wp2_with (go_at_call 27;refine HLg.out.mono ?_;rintro e w' ⟨rfl,hw⟩;obtain rfl:=hw)
  refine HAl.out.mono ?_;rintro e w7 ⟨v7,rfl,ho7,hb7⟩;obtain⟨A7,c7,rfl⟩:=ownsRow_slice ho7;have hc7:Chg (fun _=>False) w6 U6 w7 (ext U6 w6 94):=Chg.of_below hb7 94;have hwa7:=HW6.out.1.keep hc7 fun _ h=>h.elim;generalize ext U6 w6 94=U7 at hc7 hwa7;obtain⟨q0',A8,c8,q1'⟩:=hwa7.cells;have HW7:=hid (And.intro hwa7 (HW6.out.2.trans (hc7.mono fun _ h=>h.elim)));clear ho7 hb7 hc7 hwa7 q0 q1 HLg HAl HW6
  by_cases hlen:c'.log.length=s.low.length+1
  ·have e1:=HEq.out.1
   rw[if_pos hlen]at e1;have HE1:=hid e1
   have kl:((c'.log.length:Int) == (s.low.length:Int)+1)=true:=by rw[beq_iff_eq];omega
   have kl2:(c'.log.length:Int)=(s.low.length:Int)+1:=by omega
   have klw:(s.low.length:Int)<=900:=by have:=HX.out.2.1;omega
   obtain⟨-,vl,cs,hx7,hcs0,hcs1,hlw7⟩:=HW7.out.1
   have evl:vl=.slice A8 s.low.length c8:=by have:=(hx7.cell 1).trans hcs1;rw[q1']at this;injection this with this;exact this.symm
   rw[evl]at hlw7 hcs1;have HLW:=hid hlw7;have HX7:=hid (And.intro hx7 (And.intro hcs0 hcs1));clear e1 hlen hx7 hcs0 hcs1 hlw7 evl
   go_wp2_with (first|(at_builtin;refine wpl_app (news:=[.int .i64 0]) rfl rfl U7 183 (by kernel_rfl) info3 rfl (by decide) (by decide) rfl (HLW.out.alloc _) rfl rfl (sl_at (by simp)) (by simp[Value.oneCell']) (by omega) ?_)|(at_builtin;refine wpl_app (news:=[.int .i64 (lv:Int)]) rfl rfl U7 183 (by kernel_rfl) info3 rfl (by decide) (by decide) rfl (HLW.out.alloc _) rfl rfl (sl_at (by simp)) (by simp[Value.oneCell']) (by omega) ?_))
   intro g cap w8 hr8 hc8 hg8;generalize hU8:ext U7 _ 183=U8 at hr8 hc8;have hc78:Chg (· = 183) w7 U7 w8 U8:=((Chg.refl (· = 183) w7 U7).alloc _).trans hc8;have hx8:=HX7.out.1.keep hc78 (by decide);have u1:w8.cell? ⟨x,1,none⟩=some (.slice A8 s.low.length c8):=(hx8.cell 1).trans HX7.out.2.2;have f1:=hx8.frozen 1;have hclu8:=HW7.out.1.clu.keep hc78 (fun z hz hy=>by rw[hz]at hy;revert hy;unfold CT;decide)
   have HFin:Hid (∀ W lw,W=w8.setCell ⟨x,1,none⟩ (.slice (some ⟨g,0,none⟩) (s.low.length+1) cap)->Rw w8 U8 183 3 1 (.slice (some ⟨g,0,none⟩) (s.low.length+1) cap) (s.low.length+1) (nnums (s.low++[lw]))->WAt W U8 x c L ⟨c',s.low++[lw]⟩/\Chg WX w U W U8):=hid fun W lw hW hrl=>by
    have hc9:Chg (· = 87) w8 U8 W U8:=by rw[hW];exact(Chg.refl _ _ _).setCell (p:=⟨x,1,none⟩) hx8.own _
    have hsz:=(Array.getElem?_eq_some_iff.1 HX7.out.2.2).1;refine⟨⟨hclu8.keep hc9 (fun z hz hy=>by rw[hz]at hy;revert hy;unfold CT;decide),_,_,by rw[hW];exact hx8.set_ 1 _,?_,Array.getElem?_setIfInBounds_self_of_lt hsz,?_⟩,?_⟩
    ·rw[Array.getElem?_setIfInBounds_ne (by decide)];exact HX7.out.2.1
    ·have:=hrl.keep hc9 (by decide)
     rwa [show(s.low++[lw]).length=s.low.length+1 by simp]
    ·exact(HW7.out.2.trans (hc78.mono fun z hz=>by rw[hz];unfold WX;decide)).trans (hc9.mono fun z hz=>by rw[hz];unfold WX;decide)
   have HR8:=hid hr8;clear hr8 hc8 hg8 hc78 hx8 hclu8 HLW HX7 hU8
   go_wp2_with fail
   go_ret;refine⟨rfl,U8,?_⟩;rw[<- HE1.out];exact HFin.out _ _ rfl (by have:=HR8.out;simpa [nnums] using this)
  ·have e1:=HEq.out.1
   rw[if_neg hlen]at e1
   have kl:((c'.log.length:Int) == (s.low.length:Int)+1)=false:=by rw[beq_eq_false_iff_ne];omega
   have klw:(s.low.length:Int)<=900:=by have:=HX.out.2.1;omega
   have HE1:=hid e1;clear e1 hlen
   go_wp2_with fail
   go_ret;refine⟨rfl,U7,?_,HW7.out.2⟩;rw[<- HE1.out]
   exact HW7.out.1)
def PW.drain?:Nat->PW->Option PW
 | 0,s=>some s
 | f+1,s=>if s.c.net.length=0 then some s else match s.step? 2 0 0 ⟨#[]⟩ ⟨#[]⟩ false with
  | some s'=>s'.drain? f
  | none=>none
def PW.rounds?:Nat->PW->Option PW
 | 0,s=>some s
 | n+1,s=>match s.step? 1 0 0 ⟨#[]⟩ ⟨#[]⟩ false with
  | some s1=>match s1.drain? 500 with
   | some s2=>s2.rounds? n
   | none=>none
  | none=>none
theorem rounds44 (w:World)(U:Own)(x c:Nat)(L:CL)(s s':PW)(H:WAt w U x c L s)(n:Nat)(hn:n<=1000)(ha:s.rounds? n=some s') :
 Calls Tryz.prog 44 #[ptr x,.int .i64 (n:Int)] w fun e w'=>(∃ r,e=.returned r)/\∃ U',WAt w' U' x c L s'/\Chg WX w U w' U':=by
 have HH:=hid (And.intro H ha)
 have kn:(n:Int)<=1000:=by omega
 clear H ha;go_enter Tryz.func44,Tryz.ntmps44
 go_wp2_with fail
 go_loopw [4] (fun v wr=>∃ (j:Nat) (Ur:Own) (s1:PW),j<=n/\v=.int .i64 (j:Int)/\s1.rounds? (n-j)=some s'/\WAt wr Ur x c L s1/\Chg WX w U wr Ur) (fun v _=>n-(intOf v).toNat)
 case atStart=>exact⟨0,U,s,Nat.zero_le _,rfl,HH.out.2,HH.out.1,Chg.refl _ _ _⟩
 case round=>
  obtain⟨j,Ur,s1,hj,rfl,hro,hwa,hch⟩:=hrel
  by_cases hlt:j<n
  ·rw[show n-j=(n-j-1)+1 by omega]at hro
   unfold PW.rounds? at hro
   split at hro
   case h_2=>cases hro
   rename_i s2 hs2
   split at hro
   case h_2=>cases hro
   rename_i s3 hs3;have HST:=hid (step34 wr Ur x c L s1 s2 hwa 1 0 0 ⟨#[]⟩ ⟨#[]⟩ false hs2);have HR:=hid (And.intro hro (And.intro hs3 hch))
   have k1:(j:Int)<(n:Int):=by omega
   clear hro hwa hch hs2 hs3;unfold stepV at HST
   go_wp2_with (go_at_call 34;fail)
   refine HST.out.mono ?_;rintro e w2 ⟨rfl,U2,h2,hc2⟩;have H2:=hid (And.intro h2 (HR.out.2.2.trans hc2));clear h2 hc2 HST
   go_wp2_with fail
   go_loopw [5] (fun v wr2=>∃ (k:Nat) (Uk:Own) (sk:PW),k<=500/\v=.int .i64 (k:Int)/\sk.drain? (500-k)=some s3/\WAt wr2 Uk x c L sk/\Chg WX w U wr2 Uk) (fun v _=>500-(intOf v).toNat)
   case atStart=>exact⟨0,U2,s2,by omega,rfl,HR.out.2.1,H2.out⟩
   case round=>
    rename_i wr2;obtain⟨k,Uk,sk,hk,rfl,hdr,hwk,hck⟩:=hrel
    by_cases hk5:k<500
    ·have q0:=hwk.cells.1
     have HNe:=hid (net35 _ Uk c L sk.c hwk.clu);have HLe:=hid (len36 _ Uk 83 L.net sk.c.net hwk.clu.net)
     have k2:(k:Int)<500:=by omega
     rw[show 500-k=(500-k-1)+1 by omega]at hdr;unfold PW.drain? at hdr
     by_cases hl:sk.c.net.length=0
     ·rw[if_pos hl]at hdr
      injection hdr with hdr
      have HE:=hid (And.intro hwk hck);rw[hl]at HLe;clear hwk hck;subst hdr
      go_wp2_with (first|(go_at_call 35;refine HNe.out.mono ?_;rintro e w' ⟨rfl,hw⟩;obtain rfl:=hw)|(go_at_call 36;refine HLe.out.mono ?_;rintro e w' ⟨rfl,hw⟩;obtain rfl:=hw.symm))
      go_roundw
      case rel=>exact⟨j+1,Uk,sk,by omega,by go_num,by rw[show n-(j+1)=n-j-1 by omega];exact HR.out.1,HE.out⟩
      case measure=>simp[intOf];omega
     ·rw[if_neg hl]at hdr
      split at hdr
      case h_2=>cases hdr
      rename_i sl hsl;have HST:=hid (step34 _ Uk x c L sk sl hwk 2 0 0 ⟨#[]⟩ ⟨#[]⟩ false hsl);have HE:=hid (And.intro hck hdr)
      have k3:(0:Int)<(sk.c.net.length:Int):=by omega
      clear hwk hck hdr hsl;unfold stepV at HST
      go_wp2_with (first|(go_at_call 35;refine HNe.out.mono ?_;rintro e w' ⟨rfl,hw⟩;obtain rfl:=hw)|(go_at_call 36;refine HLe.out.mono ?_;rintro e w' ⟨rfl,hw⟩;obtain rfl:=hw.symm)|(go_at_call 34;fail))
      refine HST.out.mono ?_;rintro e w4 ⟨rfl,U4,h4,hc4⟩;have HE4:=hid (And.intro h4 (HE.out.1.trans hc4));clear h4 hc4
      go_wp2_with fail
      go_roundw
      case rel=>exact⟨k+1,U4,sl,by omega,by go_num,by rw[show 500-(k+1)=500-k-1 by omega];exact HE.out.2,HE4.out⟩
      case measure=>simp[intOf];omega
    ·obtain rfl:k=500:=by omega
     rw[show 500-500=0 by omega]at hdr;unfold PW.drain? at hdr
     injection hdr with hdr
     subst hdr;have HE:=hid (And.intro hwk hck);clear hwk hck
     go_wp2_with fail
     go_roundw
     case rel=>exact⟨j+1,Uk,sk,by omega,by go_num,by rw[show n-(j+1)=n-j-1 by omega];exact HR.out.1,HE.out⟩
     case measure=>simp[intOf];omega
  ·obtain rfl:j=n:=by omega
   rw[Nat.sub_self]at hro;unfold PW.rounds? at hro
   injection hro with hro
   subst hro;have HE:=hid (And.intro hwa hch);clear hwa hch
   go_wp2_with fail
   refine bodyPost_end (by first|exact results_none rfl _ _ _|rfl|(simp[results];rfl)) rfl ?_;exact⟨⟨_,rfl⟩,Ur,HE.out⟩
end Go.Proofs.Ytlhekbjidppijaa
