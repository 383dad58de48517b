/- Contracts of what TopFall reaches: what each function returns and leaves in memory. Conditions: as named. -/
import Derived.Test.YtlhekbjidppijaaGreatMBL
set_option linter.unusedVariables false
set_option linter.unusedSimpArgs false
set_option maxRecDepth 20000
set_option maxHeartbeats 8000000
namespace Go.Proofs.Ytlhekbjidppijaa
open Lib (hid)
open Go.RowKit
theorem node24 (w:World)(U:Own)(c:Nat)(L:CL)(s:PCl)(H:CluAt w U c L s)(i:Nat)(h1:1<=i)(h5:i<=5) :
 Calls Tryz.prog 24 #[ptr c,.int .i64 (i:Int)] w fun e w'=>e=.returned (ndV L s.n i)/\w=w':=by
 have hc:=H.ndc h1 h5
 have k1:(0:Int)<=(i:Int):=by omega
 have k2:(i:Int)<6:=by omega
 have k5:¬ ((i:Int)<1):=by omega
 have k6:¬ ((5:Int)<(i:Int)):=by omega
 have k7:i<6:=by omega
 clear H h1 h5;go_enter Tryz.func24,Tryz.ntmps24
 go_wp2
 go_ret;exact⟨rfl,rfl⟩
def PCl.read? (s:PCl)(i j:Nat):Option PCl:=
 if s.small && decide (1<=i) && decide (i<=5) then
  match s.nodes[i-1]?,s.cks[i]? with
  | some p,some k=>match p.reads[j]? with
   | some r=>match (if p.reads.length<=1000 then p.read? i k j (atS s.org s.org.length r.w.key).1 (atS s.org s.org.length r.w.key).2 else none) with
    | some p'=>s.back? i p'
    | none=>none
   | none=>none
  | _,_=>none
 else none
def RcZ (c b o j:Nat)(a:Value)(key:ByteArray)(W:World):Prop:=W.cell? ⟨c,28,none⟩=some a/\W.cell? ⟨b,o+j,none⟩=some (.string key)
theorem read65 (w:World)(U:Own)(c:Nat)(L:CL)(s s':PCl)(H:CluAt w U c L s)(i j:Nat)(ha:s.read? i j=some s') :
 Calls Tryz.prog 65 #[ptr c,.int .i64 (i:Int),.int .i64 (j:Int)] w fun e w'=>e=.returned (.int .i64 0)/\∃ U',CluAt w' U' c L s'/\Chg CT w U w' U':=by
 unfold PCl.read? at ha
 split at ha
 case isFalse=>cases ha
 rename_i hg;simp only[PCl.small,Bool.and_eq_true,decide_eq_true_eq]at hg;obtain⟨⟨⟨ho,hlg⟩,h1⟩,h5⟩:=hg
 split at ha
 case h_2=>cases ha
 rename_i p k hp hk
 split at ha
 case h_2=>cases ha
 rename_i r hr
 split at ha
 case h_2=>cases ha
 rename_i p' hp'
 split at hp'
 case isFalse=>cases hp'
 rename_i hrl;obtain⟨y,hy1,hy2⟩:=fresh95 w U;have hpl:=(List.getElem?_eq_some_iff.1 hp).1;have hlen:=H.len
 have hin:i<=s.n:=by omega
 obtain⟨-,-,h,hN⟩:=H.node i p h1 hp;have HNd:=hid (node24 w U c L s H i h1 h5);have HRd:=hid (reads25 w U _ _ _ _ _ i p h hN (by omega) hrl);have hjl:=(List.getElem?_eq_some_iff.1 hr).1;have HX:=hid (And.intro H (And.intro ho (And.intro hy1 (And.intro h1 (And.intro h5 hin)))));have HP:=hid (And.intro hp (And.intro hk (And.intro hr (And.intro hp' ha))))
 have hnd:ndV L s.n i=ptr (L.nd i):=by unfold ndV;rw[if_pos hin]
 rw[hnd]at HNd
 have k1:(0:Int)<=(j:Int):=by omega
 have k2:¬ ((j:Int)<0):=by omega
 have k3:¬ ((p.reads.length:Int)<=(j:Int)):=by omega
 have k4:(j:Int)<(p.reads.length:Int):=by omega
 have k5:¬ (p.reads.length<=j):=by omega
 have HJ:=hid hjl;clear H ha hp' hr hk hp h1 h5 ho hlg hy1 hrl hpl hlen hin hN hnd hjl hy2;go_enter Tryz.func65,Tryz.ntmps65
 go_wp2_with (go_at_call 24;refine HNd.out.mono ?_;rintro e w' ⟨rfl,hw⟩;obtain rfl:=hw)
 go_wp2_with (go_at_call 25;fail)
 refine HRd.out.mono ?_;rintro e w1 ⟨v1,rfl,ho1,hb1⟩;have hc1:Chg (fun _=>False) w U w1.drew (ext U w y):=(Chg.of_below hb1 y).drew;have hrw:Rw w1.drew (ext U w y) y 9 1 v1 p.reads.length (keysD p.reads):=(Rw.of_new ho1 (Nat.le_refl _) U y).drewN 1;have h1:=HX.out.1.keep hc1 fun _ h=>h.elim;obtain⟨A,ca,rfl,-,-,-,hs,-,-⟩:=hrw.slice;obtain⟨b,o,rfl,hcs⟩:=hs (by intro e;have:=congrArg List.length e;simp[keysD]at this;have hj:=HJ.out;rw[this]at hj;simp at hj);have hcj:w1.drew.cell? ⟨b,o+j,none⟩=some (.string r.w.key):=hcs j _ (by unfold keysD;rw[List.getElem?_map,HP.out.2.2.1];rfl);have S1:Hid (RcZ c b o j (ptr L.org) r.w.key w1.drew):=hid ⟨h1.blk.cell 28,hcj⟩;have HGt:=hid (get87 w1.drew _ 84 L.org s.org h1.org HX.out.2.1 r.w.key);have HY:=hid (And.intro h1 (hc1.mono (T':=CT) fun _ h=>h.elim));clear ho1 hb1 hc1 hrw h1 hs hcs hcj HRd HNd
 go_wp2_with fail
 refine wp_region_hl [8] [0,1,2,3,4,5,6,7,8,9,10,11,12] (RcZ c b o j (ptr L.org) r.w.key) (by kernel_rfl) (by kernel_rfl) S1.out ?_
 iterate 8 (refine hd_take (v:=?_) rfl rfl (by kernel_rfl) (fun W hW=>?_) ?_;rotate_left;(obtain⟨r0,r1⟩:=hW;first|(go_simp;done)|(go_simp;with_reducible rfl)))
 refine hd_loud rfl rfl fun K hK=>?_;go_simp;refine HGt.out.mono ?_;rintro e w3 ⟨rfl,hb3⟩;obtain⟨U3,h3,hc3⟩:=HY.out.1.below hb3
 have S3:Hid (RcZ c b o j (ptr L.org) r.w.key w3):=hid ⟨h3.blk.cell 28,by
  have hlt:=World.block_lt_of_cell? w1.drew ⟨b,o+j,none⟩ S1.out.2
  rw[<- S1.out.2];exact World.cell?_of_block (a:=⟨b,o+j,none⟩) (hb3.block b hlt)⟩
 have HZ:=hid (And.intro h3 (HY.out.2.trans (hc3.mono (T':=CT) fun _ h=>h.elim)));clear hb3 h3 hc3;refine hK _ _ S3.out ?_;clear hK
 iterate 3 (refine hd_take (v:=?_) rfl rfl (by kernel_rfl) (fun W hW=>?_) ?_;rotate_left;(first|(go_simp;done)|(go_simp;with_reducible rfl)))
 refine hd_take (v:=?_) rfl rfl (by kernel_rfl) (fun W hW=>?_) (hd_end ?_)
 rotate_left
 ·first|(go_simp;done)|(go_simp;with_reducible rfl)
 simp only[zqa,zqb,zqc,zqd,Nat.zero_add,Nat.reduceAdd];have hcl:=HZ.out.1;obtain⟨-,-,h',hN'⟩:=hcl.node i p HX.out.2.2.2.1 HP.out.1;have HRe:=hid (read88 w3 U3 _ _ _ _ _ i _ k j _ _ p p' h' hN' (hcl.ck i k HX.out.2.2.2.1 HX.out.2.2.2.2.1 HP.out.2.1) (far_nc HX.out.2.2.2.2.1) (not_nc_ck HX.out.2.2.2.2.1) HP.out.2.2.2.1);clear hcl hN'
 go_wp2_with (go_at_call 88;fail)
 refine HRe.out.mono ?_;rintro e w4 ⟨v4,U4,rfl,ho4,hc4⟩;have HBk:=hid (back82 HZ.out.1 HX.out.2.2.2.1 HX.out.2.2.2.2.2 ho4 hc4 HP.out.2.2.2.2);clear ho4 hc4
 go_wp2_with (go_at_call 82;fail)
 refine HBk.out.mono ?_;rintro e w5 ⟨⟨v5,rfl⟩,U5,h5,hc5⟩;have HF:=hid (And.intro h5 (HZ.out.2.trans hc5));clear h5 hc5
 go_wp2
 go_ret;exact⟨rfl,U5,HF.out.1,HF.out.2⟩
def PCl.call? (s:PCl)(op i:Nat)(key:ByteArray):Option PCl:=
 if s.small && decide (1<=i) && decide (i<=5) then
  match s.nodes[i-1]?,s.cks[i]? with
  | some p,some k=>match p.ask? i k ⟨0,s.log.length+1,op,key⟩ with
   | some p'=>({ s with log:=s.log++[⟨s.log.length+1,op,key,i,s.org.length,0,false,⟨0,0,⟨#[]⟩,0,⟨#[]⟩,false⟩⟩] }:PCl).back? i p'
   | none=>none
  | _,_=>none
 else none
def CaS (c:Nat)(a b:Value)(W:World):Prop:=W.cell? ⟨c,29,none⟩=some a/\W.cell? ⟨c,28,none⟩=some b
theorem call67 (w:World)(U:Own)(c:Nat)(L:CL)(s s':PCl)(H:CluAt w U c L s)(op i:Nat)(key:ByteArray)(ha:s.call? op i key=some s') :
 Calls Tryz.prog 67 #[ptr c,.int .i64 (op:Int),.int .i64 (i:Int),.string key] w fun e w'=>e=.returned (.int .i64 0)/\∃ U',CluAt w' U' c L s'/\Chg CT w U w' U':=by
 unfold PCl.call? at ha
 split at ha
 case isFalse=>cases ha
 rename_i hg;simp only[PCl.small,Bool.and_eq_true,decide_eq_true_eq]at hg;obtain⟨⟨⟨ho,hlg⟩,h1⟩,h5⟩:=hg
 split at ha
 case h_2=>cases ha
 rename_i p k hp hk
 split at ha
 case h_2=>cases ha
 rename_i p' hp';have hpl:=(List.getElem?_eq_some_iff.1 hp).1;have hlen:=H.len
 have hin:i<=s.n:=by omega
 have HNd:=hid (node24 w U c L s H i h1 h5)
 have hnd:ndV L s.n i=ptr (L.nd i):=by unfold ndV;rw[if_pos hin]
 rw[hnd]at HNd;have hcd:Chg (fun _=>False) w U w.drew U:=(Chg.refl _ _ _).drew;have hd:=H.keep hcd fun _ h=>h.elim;have S1:Hid (CaS c (ptr L.log) (ptr L.org) w.drew):=hid ⟨hd.blk.cell 29,hd.blk.cell 28⟩;have HNo:=hid (now91 w.drew U 84 L.org s.org hd.org);have HBe:=hid (begin90 w.drew U 85 L.log op i s.org.length key s.log hd.log hlg);have HX:=hid (And.intro hd (And.intro (hcd.mono (T':=CT) fun _ h=>h.elim) (And.intro h1 (And.intro h5 (And.intro hin (And.intro hp (And.intro hk (And.intro hp' ha))))))));clear H ho hlg h1 h5 ha hp' hk hp hpl hlen hin hnd hcd hd;go_enter Tryz.func67,Tryz.ntmps67
 go_wp2_with (go_at_call 24;refine HNd.out.mono ?_;rintro e w' ⟨rfl,hw⟩;obtain rfl:=hw)
 go_wp2_with fail
 refine wp_region_hl [13,14,17] [0,1,2,3,4,5,6,7,8,9,10,11,12,15,16,13,14,17] (CaS c (ptr L.log) (ptr L.org)) (by kernel_rfl) (by kernel_rfl) S1.out ?_
 iterate 15 (refine hd_take (v:=?_) rfl rfl (by kernel_rfl) (fun W hW=>?_) ?_;rotate_left;(obtain⟨r0,r1⟩:=hW;first|(go_simp;done)|(go_simp;with_reducible rfl)))
 refine hd_loud rfl rfl fun K hK=>?_;go_simp;refine HNo.out.mono ?_;rintro e w2 ⟨rfl,rfl⟩;refine hK _ _ S1.out ?_;clear hK;refine hd_loud rfl rfl fun K hK=>?_;go_simp;refine HBe.out.mono ?_;rintro e w2 ⟨rfl,U2,hl2,hc2⟩;have h2:=HX.out.1.setLog hl2 hc2 (by rintro x (e|e) <;> omega);have S2:Hid (CaS c (ptr L.log) (ptr L.org) w2):=hid ⟨h2.blk.cell 29,h2.blk.cell 28⟩;obtain⟨-,-,h',hN'⟩:=h2.node i p HX.out.2.2.1 HX.out.2.2.2.2.2.1;have HAs:=hid (ask89 w2 U2 _ _ _ _ _ i _ k (s.log.length+1) op key p p' h' hN' (h2.ck i k HX.out.2.2.1 HX.out.2.2.2.1 HX.out.2.2.2.2.2.2.1) (far_nc HX.out.2.2.2.1) (not_nc_ck HX.out.2.2.2.1) HX.out.2.2.2.2.2.2.2.1);have H2:=hid (And.intro h2 (HX.out.2.1.trans (hc2.mono (T':=CT) (by rintro x (e|e) <;> (unfold CT;omega)))));clear hl2 hc2 h2 hN' HBe HNo;refine hK _ _ S2.out ?_;clear hK;refine hd_loud rfl rfl fun K hK=>?_;go_simp;refine HAs.out.mono ?_;rintro e w3 ⟨v3,U3,rfl,ho3,hc3⟩;have HBk:=hid (back82 H2.out.1 HX.out.2.2.1 HX.out.2.2.2.2.1 ho3 hc3 HX.out.2.2.2.2.2.2.2.2)
 have S3:Hid (CaS c (ptr L.log) (ptr L.org) w3):=hid (by
  have hb:=H2.out.1.blk.keep hc3 (by have:=HX.out.2.2.2.1;unfold NT ST;omega)
  exact⟨hb.cell 29,hb.cell 28⟩)
 clear ho3 hc3 HAs;refine hK _ _ S3.out (hd_end ?_);clear hK;simp only[zqa,zqb,zqc,zqd,Nat.zero_add,Nat.reduceAdd]
 go_wp2_with (go_at_call 82;fail)
 refine HBk.out.mono ?_;rintro e w4 ⟨⟨v4,rfl⟩,U4,h4,hc4⟩;have HF:=hid (And.intro h4 (H2.out.2.trans hc4));clear h4 hc4
 go_wp2
 go_ret;exact⟨rfl,U4,HF.out.1,HF.out.2⟩
def stepV (fn a n:Nat)(key val:ByteArray)(on:Bool):List Value:=[.int .i64 (fn:Int),.int .i64 (a:Int),.int .i64 (n:Int),.string key,.string val,.bool on,.slice none 0 0]
def PCl.mail? (s:PCl)(drop:Bool):Option PCl:=match s.net with
 | []=>none
 | m :: l=>if decide (s.net.length<=1000) && decide (m.members.length<=5) then (if drop then some { s with net:=l } else ({ s with net:=l }:PCl).hear? m) else none
structure MlA (w:World)(U:Own)(c bs b y:Nat)(L:CL)(s:PCl)(sv:List Value)(m:PMsg)(vm:Value)(W:World)(U':Own):Prop where
 clu:CluAt W U' c L s
 stp:Has W U' y bs 39 sv.toArray
 msg:Has W U' y b 182 (msgV m vm).toArray
 mem:Rw W U' y 3 1 vm m.members.length (nnums m.members)
 chg:Chg CT w U W U'
def MlS (c bs:Nat)(a:Value)(W:World):Prop:=W.cell? ⟨c,27,none⟩=some a/\W.cell? ⟨bs,2,none⟩=some (.int .i64 0)
theorem mail64 (w:World)(U:Own)(c:Nat)(L:CL)(s s':PCl)(H:CluAt w U c L s)(fn a:Nat)(hfn:fn=2\/fn=3)(key val:ByteArray)(on:Bool)(ha:s.mail? (decide (fn=3))=some s') :
 Calls Tryz.prog 64 #[ptr c,.agg (stepV fn a 0 key val on).toArray] w fun e w'=>e=.returned (.int .i64 0)/\∃ U',CluAt w' U' c L s'/\Chg CT w U w' U':=by
 unfold PCl.mail? at ha
 split at ha
 case h_1=>cases ha
 rename_i m l hnet
 split at ha
 case isFalse=>cases ha
 rename_i hg;simp only[Bool.and_eq_true,decide_eq_true_eq]at hg;obtain⟨hl,h5⟩:=hg;obtain⟨y,hy1,hy2⟩:=fresh95 w U;obtain⟨W1,hW1⟩:∃ W,W=w.alloc (.cells (stepV fn a 0 key val on).toArray 39):=⟨_,rfl⟩
 have hc1:Chg (fun _=>False) w U W1.drew (ext U w y):=by rw[hW1];exact(((Chg.refl _ _ _).alloc _).ext _).drew
 have hO1:Has W1.drew (ext U w y) y w.heap.size 39 (stepV fn a 0 key val on).toArray:=⟨by rw[hW1];exact(Blk.new _ _ _).drewN 1,ext_new (Nat.le_refl _)⟩;have H1:=H.keep hc1 fun _ h=>h.elim;generalize ext U w y=U1 at hc1 hO1 H1
 have hi0:0<s.net.length:=by rw[hnet];simp
 have hm0:s.net[0]=m:=by simp[hnet]
 have HLk:Hid (∀ W,Below W1.drew.heap.size W1.drew W->MlS c w.heap.size (ptr L.net) W/\Calls Tryz.prog 84 #[ptr L.net,.int .i64 0] W fun e w'=>∃ vm,e=.returned (.tuple #[.agg (msgV m vm).toArray,.bool true])/\w'.ownsRow W.heap.size 3 1 vm m.members.length (nnums m.members)/\Below W.heap.size W w'):=hid fun W hb=>by
  have hc:Chg (fun _=>False) W1.drew U1 W (ext U1 W1.drew y):=Chg.of_below hb _;have h1:=H1.keep hc fun _ h=>h.elim;refine⟨⟨h1.blk.cell 27,(hO1.keep hc id).cell 2⟩,(look84 W _ 83 L.net s.net h1.net 0 hi0 hl (by rw[hm0];exact h5)).mono ?_⟩;rintro e w' ⟨vm,rfl,ho,hbl⟩;rw[hm0]at ho ⊢;exact⟨vm,rfl,ho,hbl⟩
 have HMk:Hid (∀ W b vm base,Below W1.drew.heap.size W1.drew W->Blk W b 182 (msgV m vm).toArray->W1.drew.heap.size<=b->W.ownsRow base 3 1 vm m.members.length (nnums m.members)->W1.drew.heap.size<=base->∃ U',MlA w U c w.heap.size b y L s (stepV fn a 0 key val on) m vm W U'):=hid fun W b vm base hb hB hle ho hle2=>by
  have hc:Chg (fun _=>False) W1.drew U1 W (ext U1 W1.drew y):=Chg.of_below hb _;exact⟨_,H1.keep hc fun _ h=>h.elim,hO1.keep hc id,⟨hB,ext_new hle⟩,Rw.of_new ho hle2 _ _,(hc1.trans hc).mono fun _ h=>h.elim⟩
 have S1:Hid (MlS c w.heap.size (ptr L.net) W1.drew):=hid ⟨H1.blk.cell 27,hO1.cell 2⟩;have HX:=hid (And.intro hi0 (And.intro hl (And.intro hy1 hnet)));have HA:=hid ha;have HFn:=hid hfn;have HW1:=hid hW1
 have kfn:((fn:Int) != 4)=true:=by rw[bne_iff_ne];omega
 clear H ha hl h5 hy1 hy2 hc1 hO1 H1 hi0 hm0 hnet hW1 hfn;go_enter Tryz.func64,Tryz.ntmps64
 go_upto_region 1 with (first|rw[<- HW1.out]|fail)
 go_cut [5,6] (fun x5 x6 wx=>x6=.bool true/\∃ b vm Ux,x5=ptr b/\MlA w U c w.heap.size b y L s (stepV fn a 0 key val on) m vm wx Ux)
 case first=>
  refine wp_region_pl (.take 0 (.take 1 (.take 2 (.take 3 (.take 4 (.take 5 (.two 6 (.take 7 (.take 8 (.take 9 (.one 10 (.one 11 .done))))) 10 (.one 6 (.take 7 (.take 8 (.take 9 (.one 11 .done)))))))))))) (MlS c w.heap.size (ptr L.net)) (by kernel_rfl) (by kernel_rfl) S1.out ?_
  iterate 6 (refine pl_take (v:=?_) rfl (by kernel_rfl) (fun W hW=>?_) ?_;rotate_left;(obtain⟨r0,r1⟩:=hW;first|(go_simp;done)|(go_simp;with_reducible rfl)))
  refine pl_two rfl rfl (fun K hK=>?_) (fun K hK=>?_)
  ·have HC2:=hid (HLk.out _ (Below.refl _ _)).2
   go_simp;refine HC2.out.mono ?_;rintro e w3 ⟨vm,rfl,ho3,hb3⟩;have S3:=hid (HLk.out w3 hb3).1;have HX3:=hid (And.intro ho3 hb3);have h1c:=ownsRow_one ho3;clear ho3 hb3 HC2;refine hK _ _ S3.out ?_;clear hK
   iterate 3 (refine pl_take (v:=?_) rfl (by kernel_rfl) (fun W hW=>?_) ?_;rotate_left;(first|(go_simp;done)|(go_simp;with_reducible rfl)))
   refine pl_one rfl fun K hK=>?_;go_simp;refine hK _ _ (HLk.out _ (HX3.out.2.alloc HX3.out.2.size _)).1 ?_;clear hK;obtain⟨W5,hrun,hW5,hk5,hsz,q1,q2,q3⟩:=store_msg (m:=m) (vm:=vm) (Blk.new w3 182 zero182.toArray) rfl h1c;have hbl:Below w3.heap.size w3 W5:=((Below.refl _ w3).alloc (Nat.le_refl _) (.cells zero182.toArray 182)).trans ⟨q1,q2,q3,by omega,fun q hq=>hk5 q (by omega)⟩;have hbl5:=HX3.out.2.trans (hbl.mono HX3.out.2.size);have HA5:=hid (HMk.out W5 w3.heap.size vm _ hbl5 hW5 HX3.out.2.size (ownsRow_eq (W:=W5) HX3.out.1 fun g hg hv=>hbl.block g (World.ownsRow.lt HX3.out.1 g hv).2) (Nat.le_refl _));have S5:=hid (HLk.out W5 hbl5).1;refine pl_one rfl fun K hK=>?_;refine step_store rfl 182 (.tmp 5) (.tmp 15) rfl rfl (ptr w3.heap.size) (.agg (msgV m vm).toArray) (by go_simp) (by go_simp) W5 hrun ?_;refine hK _ _ S5.out (pl_end ?_);clear hrun hW5 hk5 hsz q1 q2 q3 hbl hbl5 hK S3 S5 HX3 h1c HLk HMk;simp only[Plan.len,List.drop_succ_cons,List.drop_zero,Nat.zero_add,Nat.reduceAdd]
   go_wp2_with fail
   go_meet
   exact⟨rfl,_,vm,HA5.out.imp fun Ux h=>⟨rfl,h⟩⟩
  ·have hb4:Below W1.drew.heap.size W1.drew (W1.drew.alloc (.cells zero182.toArray 182)):=(Below.refl _ _).alloc (Nat.le_refl _) _
   have hb2:Blk (W1.drew.alloc (.cells zero182.toArray 182)) W1.drew.heap.size 182 zero182.toArray:=Blk.new _ _ _;have HC2:=hid (HLk.out _ hb4).2;have S2:=hid (HLk.out _ hb4).1;have HB4:=hid (And.intro hb4 hb2);clear hb2 hb4;go_simp;refine hK _ _ S2.out ?_;clear hK;refine pl_one rfl fun K hK=>?_;go_simp;refine HC2.out.mono ?_;rintro e w3 ⟨vm,rfl,ho3,hb3⟩;have hbl3:=HB4.out.1.trans (hb3.mono HB4.out.1.size);have S3:=hid (HLk.out w3 hbl3).1;have hB3:Blk w3 W1.drew.heap.size 182 zero182.toArray:=HB4.out.2.below hb3 HB4.out.2.lt;have h1c:=ownsRow_one ho3;have HX3:=hid (And.intro ho3 (And.intro hbl3 hB3));clear ho3 hb3 hbl3 hB3 HC2;refine hK _ _ S3.out ?_;clear hK
   iterate 3 (refine pl_take (v:=?_) rfl (by kernel_rfl) (fun W hW=>?_) ?_;rotate_left;(first|(go_simp;done)|(go_simp;with_reducible rfl)))
   obtain⟨W5,hrun,hW5,hk5,hsz,q1,q2,q3⟩:=store_msg (m:=m) (vm:=vm) HX3.out.2.2 rfl h1c;have hbl5:Below W1.drew.heap.size W1.drew W5:=HX3.out.2.1.trans ⟨q1,q2,q3,by omega,fun q hq=>hk5 q (by omega)⟩;have ho5:=ownsRow_eq (W:=W5) HX3.out.1 fun g hg hv=>hk5 g (by rw[World.size_alloc]at hg;omega);have HA5:=hid (HMk.out W5 W1.drew.heap.size vm _ hbl5 hW5 (Nat.le_refl _) ho5 (by simp));have S5:=hid (HLk.out W5 hbl5).1;refine pl_one rfl fun K hK=>?_;refine step_store rfl 182 (.tmp 5) (.tmp 15) rfl rfl (ptr W1.drew.heap.size) (.agg (msgV m vm).toArray) (by go_simp) (by go_simp) W5 hrun ?_;refine hK _ _ S5.out (pl_end ?_);clear hrun hW5 hk5 hsz q1 q2 q3 hbl5 ho5 hK S3 S5 HX3 h1c HLk HMk;simp only[Plan.len,List.drop_succ_cons,List.drop_zero,Nat.zero_add,Nat.reduceAdd]
   go_wp2_with fail
   go_meet
   exact⟨rfl,_,vm,HA5.out.imp fun Ux h=>⟨rfl,h⟩⟩
 case rest=>
  clear HLk HMk S1 HW1;obtain⟨rfl,b,vm,Ux,rfl,hA⟩:=hcut;have b0:wc.cell? ⟨w.heap.size,0,none⟩=some (.int .i64 (fn:Int)):=hA.stp.cell 0;have hcd:Chg (fun _=>False) wc Ux wc.drew Ux:=(Chg.refl _ _ _).drew;have hcl:=hA.clu.keep hcd fun _ h=>h.elim;have S2:Hid (MlS c w.heap.size (ptr L.net) wc.drew):=hid ⟨hcl.blk.cell 27,(hA.stp.keep hcd id).cell 2⟩;have HDr:=hid (drop85 wc.drew Ux 83 L.net s.net hcl.net 0 HX.out.1 HX.out.2.1);have HA2:=hid (And.intro hcl (And.intro (hA.stp.keep hcd id) (And.intro (hA.msg.keep hcd id) (And.intro (hA.mem.keep hcd id) (hA.chg.trans (hcd.mono fun _ h=>h.elim))))));clear hA hcd hcl
  go_wp2_with fail
  refine wp_region_hl [] [0,1,2,3,4,5] (MlS c w.heap.size (ptr L.net)) (by kernel_rfl) (by kernel_rfl) S2.out ?_
  iterate 5 (refine hd_take (v:=?_) rfl rfl (by kernel_rfl) (fun W hW=>?_) ?_;rotate_left;(obtain⟨r0,r1⟩:=hW;first|(go_simp;done)|(go_simp;with_reducible rfl)))
  refine hd_take (v:=?_) rfl rfl (by kernel_rfl) (fun W hW=>?_) (hd_end ?_)
  rotate_left
  ·obtain⟨r0,r1⟩:=hW;first|(go_simp;done)|(go_simp;with_reducible rfl)
  simp only[zqa,zqb,zqc,zqd,Nat.zero_add,Nat.reduceAdd]
  go_wp2_with (go_at_call 85;fail)
  refine HDr.out.mono ?_;rintro e w4 ⟨rfl,hn4,hc4⟩;have h4:=HA2.out.1.setNet hn4 hc4 (by rintro x (e|e|e) <;> omega)
  have e4:s.net.take 0++s.net.drop (0+1)=l:=by rw[HX.out.2.2.2];rfl
  rw[e4]at h4
  have hy4:¬ T3 83 y:=by have:=HX.out.2.2.1;show ¬ (y=83\/y=83+96\/y=83+192);omega
  have b0:w4.cell? ⟨w.heap.size,0,none⟩=some (.int .i64 (fn:Int)):=(HA2.out.2.1.keep hc4 hy4).cell 0;have HA4:=hid (And.intro h4 (And.intro (HA2.out.2.2.1.keep hc4 hy4) (And.intro (HA2.out.2.2.2.1.keep hc4 hy4) (HA2.out.2.2.2.2.trans (hc4.mono (T':=CT) (by rintro x (e|e|e) <;> (unfold CT;omega)))))));clear hn4 hc4 h4 e4 hy4 HDr HA2
  rcases HFn.out with hfn|hfn
  ·rw[hfn]at b0
   have ha:=HA.out;rw[hfn,if_neg (by decide)]at ha;have HHe:=hid (hears86 w4 Ux c L _ s' HA4.out.1 y m vm HA4.out.2.2.1 (by have:=HX.out.2.2.1;omega) ha);clear ha hfn
   go_wp2_with (first|(refine wpl_lq 182 _ rfl ?_;refine lq 182 _ (ptr b) _ rfl (by kernel_rfl) (load_msg HA4.out.2.1.blk) ?_)|(go_at_call 86;fail))
   refine HHe.out.mono ?_;rintro e w5 ⟨⟨v5,rfl⟩,U5,h5,hc5⟩;have HF:=hid (And.intro h5 (HA4.out.2.2.2.trans hc5));clear h5 hc5
   go_wp2
   go_ret;exact⟨rfl,U5,HF.out.1,HF.out.2⟩
  ·rw[hfn]at b0
   have ha:=HA.out;rw[hfn,if_pos (by decide)]at ha
   injection ha with ha
   clear hfn;have HAa:=hid ha;clear ha
   go_wp2
   go_ret;refine⟨rfl,Ux,?_,HA4.out.2.2.2⟩;rw[<- HAa.out];exact HA4.out.1
def PCl.step? (s:PCl)(fn a n:Nat)(key val:ByteArray)(on:Bool):Option PCl:=
 if fn=1 then s.tick? a
 else if fn=2\/fn=3 then (if n=0 then s.mail? (decide (fn=3)) else none)
 else if fn=5 then s.read? a n
 else if fn=6 then (if on && s.small then some { s with org:=s.org++[⟨key,val,true⟩] } else none)
 else if fn=7 then s.call? 1 a key
 else if fn=8 then s.call? 2 a key
 else none
def StS (c b:Nat)(a:Value)(key val:ByteArray)(on:Bool)(W:World):Prop:=W.cell? ⟨c,28,none⟩=some a/\W.cell? ⟨b,3,none⟩=some (.string key)/\W.cell? ⟨b,4,none⟩=some (.string val)/\W.cell? ⟨b,5,none⟩=some (.bool on)
theorem step53 (w:World)(U:Own)(c:Nat)(L:CL)(s s':PCl)(H:CluAt w U c L s)(fn a n:Nat)(key val:ByteArray)(on:Bool)(ha:s.step? fn a n key val on=some s') :
 Calls Tryz.prog 53 #[ptr c,.agg (stepV fn a n key val on).toArray] w fun e w'=>e=.returned (.int .i64 0)/\∃ U',CluAt w' U' c L s'/\Chg CT w U w' U':=by
 obtain⟨y,hy1,hy2⟩:=fresh95 w U;obtain⟨W1,hW1⟩:∃ W,W=w.alloc (.cells (stepV fn a n key val on).toArray 39):=⟨_,rfl⟩
 have hc1:Chg (fun _=>False) w U W1 (ext U w y):=by rw[hW1];exact((Chg.refl _ _ _).alloc _).ext _
 have hO1:Has W1 (ext U w y) y w.heap.size 39 (stepV fn a n key val on).toArray:=⟨by rw[hW1];exact Blk.new _ _ _,ext_new (Nat.le_refl _)⟩;have H1:=H.keep hc1 fun _ h=>h.elim;generalize ext U w y=U1 at hc1 hO1 H1;have b0:W1.cell? ⟨w.heap.size,0,none⟩=some (.int .i64 (fn:Int)):=hO1.cell 0;have b1:W1.cell? ⟨w.heap.size,1,none⟩=some (.int .i64 (a:Int)):=hO1.cell 1;have b2:W1.cell? ⟨w.heap.size,2,none⟩=some (.int .i64 (n:Int)):=hO1.cell 2;have b3:W1.cell? ⟨w.heap.size,3,none⟩=some (.string key):=hO1.cell 3;have HF:Hid (∀ r:Ending,∀ w',(∃ U',CluAt w' U' c L s'/\Chg CT W1 U1 w' U')->∃ U',CluAt w' U' c L s'/\Chg CT w U w' U'):=hid fun r w' h=>h.imp fun U' h=>⟨h.1,(hc1.mono fun _ h=>h.elim).trans h.2⟩;have HB:=hid hO1.blk;have HH1:=hid H1;have HO1:=hid hO1;have HW1:=hid hW1;have HC1:=hid hc1;clear H hy1 hy2 hW1 hc1 hO1 H1;unfold PCl.step? at ha
 split at ha
 ·rename_i h0
  subst h0;have HT:=hid (tick63 W1 U1 c L s s' HH1.out a ha);clear ha;go_enter Tryz.func53,Tryz.ntmps53
  go_wp2_with (first|rw[<- HW1.out]|(go_at_call 63;fail))
  refine HT.out.mono ?_;rintro e w2 ⟨rfl,h2⟩;have HG:=hid (HF.out (.returned (.int .i64 0)) w2 h2);clear h2
  go_wp2
  go_ret;exact⟨rfl,HG.out⟩
 split at ha
 ·rename_i h0
  split at ha
  case isFalse=>cases ha
  rename_i hn0;subst hn0;have HT:=hid (mail64 W1 U1 c L s s' HH1.out fn a h0 key val on ha);have hload:=load_blk (P:=Tryz.prog) (W:=W1) (by kernel_rfl) (by kernel_rfl) HB.out;have HLd:=hid hload;clear ha hload
  rcases h0 with h0|h0
  all_goals (
   subst h0;go_enter Tryz.func53,Tryz.ntmps53
   go_wp2_with (first|rw[<- HW1.out]|(refine wpl_lq 39 _ rfl ?_;refine lq 39 _ (ptr w.heap.size) _ rfl (by kernel_rfl) HLd.out ?_)|(go_at_call 64;fail))
   refine HT.out.mono ?_;rintro e w2 ⟨rfl,h2⟩;have HG:=hid (HF.out (.returned (.int .i64 0)) w2 h2);clear h2
   go_wp2
   go_ret
   exact⟨rfl,HG.out⟩)
 split at ha
 ·rename_i h0
  subst h0;have HT:=hid (read65 W1 U1 c L s s' HH1.out a n ha);clear ha;go_enter Tryz.func53,Tryz.ntmps53
  go_wp2_with (first|rw[<- HW1.out]|(go_at_call 65;fail))
  refine HT.out.mono ?_;rintro e w2 ⟨rfl,h2⟩;have HG:=hid (HF.out (.returned (.int .i64 0)) w2 h2);clear h2
  go_wp2
  go_ret;exact⟨rfl,HG.out⟩
 split at ha
 ·rename_i h0
  subst h0
  split at ha
  case isFalse=>cases ha
  rename_i hg;simp only[PCl.small,Bool.and_eq_true,decide_eq_true_eq]at hg
  injection ha with ha
  obtain⟨rfl,ho,-⟩:=hg;have hcd:Chg (fun _=>False) W1 U1 W1.drew U1:=(Chg.refl _ _ _).drew;have hd:=HH1.out.keep hcd fun _ h=>h.elim;have hod:=HO1.out.keep hcd id;have S1:Hid (StS c w.heap.size (ptr L.org) key val true W1.drew):=hid ⟨hd.blk.cell 28,hod.cell 3,hod.cell 4,hod.cell 5⟩;have HSe:=hid (set66 W1.drew U1 84 L.org s.org hd.org ho key val);have HX:=hid (And.intro hd (hcd.mono (T':=CT) fun _ h=>h.elim));have HA:=hid ha;clear ha ho hcd hd hod;go_enter Tryz.func53,Tryz.ntmps53
  go_wp2_with (first|rw[<- HW1.out]|fail)
  refine wp_region_hl [] [0,1,2,3,4,5,6,7,8,9] (StS c w.heap.size (ptr L.org) key val true) (by kernel_rfl) (by kernel_rfl) S1.out ?_
  iterate 9 (refine hd_take (v:=?_) rfl rfl (by kernel_rfl) (fun W hW=>?_) ?_;rotate_left;(obtain⟨r0,r1,r2,r3⟩:=hW;first|(go_simp;done)|(go_simp;with_reducible rfl)))
  refine hd_take (v:=?_) rfl rfl (by kernel_rfl) (fun W hW=>?_) (hd_end ?_)
  rotate_left
  ·obtain⟨r0,r1,r2,r3⟩:=hW;first|(go_simp;done)|(go_simp;with_reducible rfl)
  simp only[zqa,zqb,zqc,zqd,Nat.zero_add,Nat.reduceAdd]
  go_wp2_with (go_at_call 66;fail)
  refine HSe.out.mono ?_;rintro e w2 ⟨⟨v2,rfl⟩,U2,ho2,hc2⟩;have h2:=HX.out.1.setOrg ho2 hc2 (by rintro x (e|e) <;> omega);rw[HA.out]at h2;have HG:=hid (HF.out (.returned (.int .i64 0)) w2 ⟨U2,h2,HX.out.2.trans (hc2.mono (T':=CT) (by rintro x (e|e) <;> (unfold CT;omega)))⟩);clear h2 ho2 hc2
  go_wp2
  go_ret;exact⟨rfl,HG.out⟩
 split at ha
 ·rename_i h0
  subst h0;have HT:=hid (call67 W1 U1 c L s s' HH1.out 1 a key ha);clear ha;go_enter Tryz.func53,Tryz.ntmps53
  go_wp2_with (first|rw[<- HW1.out]|(go_at_call 67;fail))
  refine HT.out.mono ?_;rintro e w2 ⟨rfl,h2⟩;have HG:=hid (HF.out (.returned (.int .i64 0)) w2 h2);clear h2
  go_wp2
  go_ret;exact⟨rfl,HG.out⟩
 split at ha
 ·rename_i h0
  subst h0;have HT:=hid (call67 W1 U1 c L s s' HH1.out 2 a key ha);clear ha;go_enter Tryz.func53,Tryz.ntmps53
  go_wp2_with (first|rw[<- HW1.out]|(go_at_call 67;fail))
  refine HT.out.mono ?_;rintro e w2 ⟨rfl,h2⟩;have HG:=hid (HF.out (.returned (.int .i64 0)) w2 h2);clear h2
  go_wp2
  go_ret;exact⟨rfl,HG.out⟩
 ·cases ha
theorem step53z (w:World)(c:Nat):Calls Tryz.prog 53 #[ptr c,.agg (stepV 0 0 0 ⟨#[]⟩ ⟨#[]⟩ false).toArray] w fun e w'=>e=.returned (.int .i64 1)/\Below w.heap.size w w':=by
 obtain⟨W1,hW1⟩:∃ W,W=w.alloc (.cells (stepV 0 0 0 ⟨#[]⟩ ⟨#[]⟩ false).toArray 39):=⟨_,rfl⟩
 have b0:W1.cell? ⟨w.heap.size,0,none⟩=some (.int .i64 0):=by rw[hW1];exact(Blk.new w 39 (stepV 0 0 0 ⟨#[]⟩ ⟨#[]⟩ false).toArray).cell 0
 have HB:Hid (Below w.heap.size w W1):=hid (by rw[hW1];exact(Below.refl _ w).alloc (Nat.le_refl _) _);have HW1:=hid hW1;clear hW1;go_enter Tryz.func53,Tryz.ntmps53
 go_wp2_with (first|rw[<- HW1.out]|fail)
 go_ret;exact⟨rfl,HB.out⟩
def PNode.new (fs:FQ)(cnt tn:Nat)(m:MS):PNode:=⟨fs,cnt,tn,m,0,0,0,none,[],[],[],0,[],[]⟩
theorem begin137 (w:World)(U:Own)(ts n S d k i cnt tn:Nat)(fs:FQ)(m:MS)(hS:StoreAt w U ts S d fs cnt tn m)(hn:n<95) :
 Calls Tryz.prog 137 #[.int .i64 (i:Int),.pointer (some ⟨S,0,none⟩),.int .i64 0,.pointer (some ⟨k,0,none⟩)] w fun e w'=>∃ N h U',e=.returned (.tuple #[.pointer (some ⟨N,0,none⟩),.int .i64 0])/\NodeAt w' U' ts n N d k i (PNode.new fs cnt tn m) h/\Chg (fun _=>False) w U w' U':=by
 have HS:=hid hS;have HT:Hid (∀ W U',Calls Tryz.prog 183 #[] W fun e w'=>∃ T,e=.returned (.pointer (some ⟨T,0,none⟩))/\TokAt w' (ext U' W (n+672)) (n+672) T []/\Below W.heap.size W w'):=hid fun W U'=>tokNew W U' (n+672);clear hS;go_enter Tryz.func137,Tryz.ntmps137
 go_wp2_with (go_at_call 182;fail)
 refine(lease182 w k).mono ?_;rintro e w1 ⟨rfl,hw1⟩
 have hc1:Chg (fun _=>False) w U w1 (ext U w (n+576)):=by rw[hw1];exact((Chg.refl _ _ _).alloc _).ext _
 have hl1:LeaseAt w1 (ext U w (n+576)) (n+576) w.heap.size k 0 0 0:=⟨by rw[hw1];exact Blk.new _ _ _,ext_new (Nat.le_refl _)⟩;have HC1:=hid hc1;have HL1:=hid hl1;clear hc1 hl1 hw1
 go_wp2_with (go_at_call 183;fail)
 refine(HT.out w1 (ext U w (n+576))).mono ?_;rintro e w2 ⟨T,rfl,ht,hb⟩;have hc2:Chg (fun _=>False) w1 (ext U w (n+576)) w2 (ext (ext U w (n+576)) w1 (n+672)):=Chg.of_below hb _;generalize hU:ext (ext U w (n+576)) w1 (n+672)=U2 at ht hc2;have HC2:=hid hc2;have HT2:=hid ht;clear ht hc2 hb hU
 go_wp2
 go_ret2
 have hc3 (o:Obj):Chg (fun _=>False) w2 U2 (w2.alloc o) (ext U2 w2 n):=((Chg.refl _ _ _).alloc o).ext n
 exact⟨w2.heap.size,⟨S,w.heap.size,i,.pointer none,T,.slice none 0 0,.slice none 0 0,0⟩,ext U2 w2 n,rfl,
  ⟨rfl,rfl,⟨_,_,⟨Blk.new _ _ _,ext_new (Nat.le_refl _)⟩,Rw.nil _ _ _ _ _,Rw.nil _ _ _ _ _⟩,HS.out.keep ((HC1.out.trans HC2.out).trans (hc3 _)) fun _ h=>h.elim,HL1.out.keep (HC2.out.trans (hc3 _)) id,HT2.out.keep (hc3 _) id,Rw.nil _ _ _ _ _,Rw.nil _ _ _ _ _,rfl⟩,
  (HC1.out.trans HC2.out).trans (hc3 _)⟩
theorem make103 (w:World)(U:Own)(ts n d k i:Nat)(hD:DevAt w U (ts+9) d 1200 zeros Lasts)(hlt:ts+9<95)(hn:n<95)(hi:1<=i)(hi5:i<=5) :
 Calls Tryz.prog 103 #[.int .i64 (i:Int),.pointer (some ⟨d,0,none⟩),.pointer (some ⟨k,0,none⟩)] w fun e w'=>∃ N h U',e=.returned (.tuple #[.pointer (some ⟨N,0,none⟩),.int .i64 0])/\NodeAt w' U' ts n N d k i (PNode.new FQ.zero 0 2 ⟨1,0,0,false⟩) h/\Chg (ST ts) w U w' U':=by
 have HM:=hid (make138 w U ts d hD hlt)
 have k1:¬ ((i:Int)<1):=by omega
 have k2:¬ ((5:Int)<(i:Int)):=by omega
 clear hD;go_enter Tryz.func103,Tryz.ntmps103
 go_wp2_with (go_at_call 138;fail)
 refine HM.out.mono ?_;rintro e w1 ⟨S,U1,rfl,hs,hc⟩;have HB:=hid (begin137 w1 U1 ts n S d k i 0 2 FQ.zero ⟨1,0,0,false⟩ hs hn);have HC:=hid hc;clear hs hc
 go_wp2_with (go_at_call 137;fail)
 refine HB.out.mono ?_;rintro e w2 ⟨N,h,U2,rfl,hN,hc2⟩;have HF:=hid (And.intro hN (HC.out.trans (hc2.mono fun _ h=>h.elim)));clear hN hc2
 go_wp2
 go_ret2
 exact⟨N,h,U2,rfl,HF.out⟩
def dvV (f:Nat->Nat)(k i:Nat):Value:=if i<=k then ptr (f i) else .pointer none
def opV (a:Bool)(v:Nat):Value:=match a with
 | true=>ptr v
 | false=>.pointer none
def preV (L:CL)(a:Bool)(k j:Nat):List Value:=
 opV a L.ctl :: ptr L.cd :: opV a L.cc :: .pointer none :: dvV L.nd j 1 :: dvV L.nd j 2 :: dvV L.nd j 3 :: dvV L.nd j 4 :: dvV L.nd j 5 :: .pointer none :: dvV L.dv k 1 :: dvV L.dv k 2 :: dvV L.dv k 3 :: dvV L.dv k 4 :: dvV L.dv k 5 ::
 .pointer none :: dvV L.ck k 1 :: dvV L.ck k 2 :: dvV L.ck k 3 :: dvV L.ck k 4 :: dvV L.ck k 5 :: .bool false :: .bool (decide (1<=j)) :: .bool (decide (2<=j)) :: .bool (decide (3<=j)) :: .bool (decide (4<=j)) :: .bool (decide (5<=j)) :: ptr L.net :: ptr L.org :: ptr L.log :: []
def pn0:PNode:=PNode.new FQ.zero 0 2 ⟨1,0,0,false⟩
structure PreAt (w:World)(U:Own)(c:Nat)(L:CL)(n k j:Nat):Prop where
 blk:Has w U 86 c 89 (preV L true k j).toArray
 ctl:CtlAt w U 80 L.ctl L.cc n
 ck0:ClockAt w U 81 L.cc 0
 dev:∀ i,j<i->i<=k->DevAt w U (16*(i-1)+9) (L.dv i) 1200 zeros Lasts
 ck:∀ i,1<=i->i<=k->ClockAt w U (16*(i-1)+11) (L.ck i) 0
 node:∀ i,1<=i->i<=j->∃ h,NodeAt w U (16*(i-1)) (16*(i-1)+10) (L.nd i) (L.dv i) (L.ck i) i pn0 h
 net:NetAt w U 83 L.net []
 org:OrgAt w U 84 L.org []
 log:LgAt w U 85 L.log []
theorem PreAt.keep {T:Nat->Prop}{w w':World}{U U':Own}{c n k j:Nat}{L:CL}(H:PreAt w U c L n k j)(hk:k<=5)(hj:j<=5)(hc:Chg T w U w' U')(hT:∀ x,T x->¬ CT x):PreAt w' U' c L n k j:=by
 have q (x:Nat) (hx:x%96<=86):¬ T x:=fun h=>hT x h hx
 exact⟨H.blk.keep hc (q _ (by decide)),H.ctl.keep hc (q _ (by decide)) (q _ (by decide)),H.ck0.keep hc (q _ (by decide)),fun i h1 h2=>(H.dev i h1 h2).keep hc (q _ (by omega)),fun i h1 h2=>(H.ck i h1 h2).keep hc (q _ (by omega)),
  fun i h1 h2=>(H.node i h1 h2).imp fun h hN=>hN.keep hc (by omega) fun x hx hy=>hT x hx (by unfold NT ST at hy;unfold CT;omega),H.net.keep hc (q _ (by decide)) (q _ (by decide)) (q _ (by decide)),H.org.keep hc (q _ (by decide)) (q _ (by decide)),H.log.keep hc (q _ (by decide)) (q _ (by decide))⟩
def CL.setNd (L:CL)(i v:Nat):CL:={ L with nd:=fun q=>if q=i then v else L.nd q }
theorem preV_nd (L:CL)(i v:Nat)(h1:1<=i)(h5:i<=5):(((preV L true 5 (i-1)).toArray.setIfInBounds (3+i) (ptr v)).setIfInBounds (21+i) (.bool true))=(preV (L.setNd i v) true 5 i).toArray:=by
 obtain rfl|rfl|rfl|rfl|rfl:i=1\/i=2\/i=3\/i=4\/i=5:=by omega
 all_goals rfl
theorem PreAt.more {w w' W:World}{U U':Own}{c n i v:Nat}{L:CL}{h:Hd}(H:PreAt w U c L n 5 (i-1))(h1:1<=i)(h5:i<=5)(hc:Chg (ST (16*(i-1))) w U w' U')(hN:NodeAt w' U' (16*(i-1)) (16*(i-1)+10) v (L.dv i) (L.ck i) i pn0 h)(hW:W=(w'.setCell ⟨c,3+i,none⟩ (ptr v)).setCell ⟨c,21+i,none⟩ (.bool true)) :
 PreAt W U' c (L.setNd i v) n 5 i/\Chg CT w U W U':=by
 have hb:=H.blk.keep hc (by unfold ST;omega)
 have hc2:Chg (· = 86) w' U' W U':=by rw[hW];exact((Chg.refl _ _ _).setCell (p:=⟨c,3+i,none⟩) hb.own _).setCell (p:=⟨c,21+i,none⟩) hb.own _
 have hcc:Chg (fun x=>ST (16*(i-1)) x\/x=86) w U W U':=(hc.mono fun _ h=>.inl h).trans (hc2.mono fun _ h=>.inr h)
 have r (x:Nat) (hx:¬ (16*(i-1)<=x%96/\x%96<=16*(i-1)+9)) (h86:x≠86):¬ (ST (16*(i-1)) x\/x=86):=by unfold ST;omega
 refine⟨⟨?_,H.ctl.keep hcc (r _ (by omega) (by omega)) (r _ (by omega) (by omega)),H.ck0.keep hcc (r _ (by omega) (by omega)),fun q hq1 hq2=>(H.dev q (by omega) hq2).keep hcc (r _ (by omega) (by omega)),fun q hq1 hq2=>(H.ck q hq1 hq2).keep hcc (r _ (by omega) (by omega)),fun q hq1 hq2=>?_,
  H.net.keep hcc (r _ (by omega) (by omega)) (r _ (by omega) (by omega)) (r _ (by omega) (by omega)),H.org.keep hcc (r _ (by omega) (by omega)) (r _ (by omega) (by omega)),H.log.keep hcc (r _ (by omega) (by omega)) (r _ (by omega) (by omega))⟩,hcc.mono fun x h=>by unfold ST at h;unfold CT;omega⟩
 ·have:=(hb.set_ (3+i) (ptr v)).set_ (21+i) (.bool true)
  rw[preV_nd L i v h1 h5,<- hW]at this;exact this
 ·by_cases he:q=i
  ·subst he
   have e:(L.setNd q v).nd q=v:=by unfold CL.setNd;simp
   rw[e];exact⟨h,hN.keep hc2 (by omega) fun x hx hy=>by unfold NT ST at hy;omega⟩
  ·have e:(L.setNd i v).nd q=L.nd q:=by unfold CL.setNd;simp[he]
   rw[e];obtain⟨h',hN'⟩:=H.node q hq1 (by omega);exact⟨h',hN'.keep hcc (by omega) fun x hx hy=>by unfold NT ST at hy;unfold ST at hx;omega⟩
theorem PreAt.cells {w:World}{U:Own}{c n i:Nat}{L:CL}(H:PreAt w U c L n 5 (i-1))(h1:1<=i)(h5:i<=5) :
 w.cell? ⟨c,9+i,none⟩=some (ptr (L.dv i))/\w.cell? ⟨c,15+i,none⟩=some (ptr (L.ck i))/\w.cell? ⟨c,21+i,none⟩=some (.bool false)/\∃ v,w.cell? ⟨c,3+i,none⟩=some v:=by
 rw[H.blk.cell,H.blk.cell,H.blk.cell,H.blk.cell]
 obtain rfl|rfl|rfl|rfl|rfl:i=1\/i=2\/i=3\/i=4\/i=5:=by omega
 all_goals exact⟨rfl,rfl,rfl,_,rfl⟩
def SaS (c i:Nat)(a b:Value)(W:World):Prop:=W.cell? ⟨c,9+i,none⟩=some a/\W.cell? ⟨c,15+i,none⟩=some b
theorem start78 (w:World)(U:Own)(c n i:Nat)(L:CL)(H:PreAt w U c L n 5 (i-1))(h1:1<=i)(h5:i<=5) :
 Calls Tryz.prog 78 #[ptr c,.int .i64 (i:Int)] w fun e w'=>e=.returned (.int .i64 0)/\∃ L' U',PreAt w' U' c L' n 5 i/\Chg CT w U w' U':=by
 obtain⟨c9,c15,c21,-⟩:=H.cells h1 h5;have hcd:Chg (fun _=>False) w U w.drew U:=(Chg.refl _ _ _).drew;have hd:=H.keep (by decide) (by omega) hcd fun _ h=>h.elim;have S1:Hid (SaS c i (ptr (L.dv i)) (ptr (L.ck i)) w.drew):=hid ⟨(hd.cells h1 h5).1,(hd.cells h1 h5).2.1⟩;have HM:=hid (make103 w.drew U (16*(i-1)) (16*(i-1)+10) (L.dv i) (L.ck i) i (hd.dev i (by omega) h5) (by omega) (by omega) h1 h5);have HX:=hid (And.intro hd (And.intro hcd (And.intro h1 h5)))
 have k1:(0:Int)<=(i:Int):=by omega
 have k2:(i:Int)<6:=by omega
 have k7:i<6:=by omega
 clear H h1 h5 hcd hd c9 c15;go_enter Tryz.func78,Tryz.ntmps78
 go_wp2_with fail
 refine wp_region_hl [13] [0,1,2,3,4,5,6,7,8,9,10,11,12,13,14,15,16,17] (SaS c i (ptr (L.dv i)) (ptr (L.ck i))) (by kernel_rfl) (by kernel_rfl) S1.out ?_
 iterate 13 (refine hd_take (v:=?_) rfl rfl (by kernel_rfl) (fun W hW=>?_) ?_;rotate_left;(obtain⟨r0,r1⟩:=hW;first|(go_simp;done)|(go_simp;with_reducible rfl)))
 refine hd_loud rfl rfl fun K hK=>?_;go_simp;refine HM.out.mono ?_;rintro e w2 ⟨v,h,U2,rfl,hN2,hc2⟩;have hb2:=HX.out.1.blk.keep hc2 (by have:=HX.out.2.2.2;unfold ST;omega)
 have S2:Hid (SaS c i (ptr (L.dv i)) (ptr (L.ck i)) w2):=hid (by
  refine⟨?_,?_⟩
  ·rw[hb2.cell,<- HX.out.1.blk.cell];exact S1.out.1
  ·rw[hb2.cell,<- HX.out.1.blk.cell];exact S1.out.2)
 have HN:=hid (And.intro hN2 hc2);have HB2:=hid hb2;clear hN2 hc2 hb2;refine hK _ _ S2.out ?_;clear hK
 iterate 3 (refine hd_take (v:=?_) rfl rfl (by kernel_rfl) (fun W hW=>?_) ?_;rotate_left;(first|(go_simp;done)|(go_simp;with_reducible rfl)))
 refine hd_take (v:=?_) rfl rfl (by kernel_rfl) (fun W hW=>?_) (hd_end ?_)
 rotate_left
 ·first|(go_simp;done)|(go_simp;with_reducible rfl)
 simp only[zqa,zqb,zqc,zqd,Nat.zero_add,Nat.reduceAdd];have hbd:=HB2.out.drewN 1
 have hcells:∃ v4 v5,w2.drew.cell? ⟨c,3+i,none⟩=some v4/\w2.drew.cell? ⟨c,21+i,none⟩=some v5:=by
  obtain⟨-,-,c21',v,c3'⟩:=HX.out.1.cells HX.out.2.2.1 HX.out.2.2.2;refine⟨v,.bool false,?_,?_⟩
  ·rw[<- c3',HX.out.1.blk.cell];exact hbd.cell _
  ·rw[<- c21',HX.out.1.blk.cell];exact hbd.cell _
 obtain⟨v4,v5,e4,e5⟩:=hcells;have f4:w2.drew.frozen? ⟨c,3+i,none⟩=false:=hbd.frozen _;have f5:w2.drew.frozen? ⟨c,21+i,none⟩=false:=hbd.frozen _
 have HFin:Hid (∀ W,W=(w2.drew.setCell ⟨c,3+i,none⟩ (ptr v)).setCell ⟨c,21+i,none⟩ (.bool true)->PreAt W U2 c (L.setNd i v) n 5 i/\Chg CT w U W U2):=hid fun W hW=>by
  have hcd2:Chg (fun _=>False) w2 U2 w2.drew U2:=(Chg.refl _ _ _).drew;obtain⟨a1,a2⟩:=HX.out.1.more (v:=v) (h:=h) HX.out.2.2.1 HX.out.2.2.2 (HN.out.2.trans (hcd2.mono fun _ h=>h.elim)) (HN.out.1.keep hcd2 (by have:=HX.out.2.2.2;omega) fun _ h=>h.elim) hW;exact⟨a1,(HX.out.2.1.mono fun _ h=>h.elim).trans a2⟩
 clear hbd S2
 go_wp2_with fail
 refine wp_region_hl [8] [0,1,2,3,4,5,6,7,9,10,8,11] (fun _=>True) (by kernel_rfl) (by kernel_rfl) trivial ?_;have HBD:=hid (HB2.out.drewN 1).blk;clear HB2 HN
 change Hid (Blk w2.drew c 89 _) at HBD
 generalize w2.drew=wd at *
 iterate 10 (refine hd_take (v:=?_) rfl rfl (by kernel_rfl) (fun W hW=>?_) ?_;rotate_left;(first|(go_simp;done)|(go_simp;with_reducible rfl)))
 refine hd_loud rfl rfl fun K hK=>?_;go_simp;generalize hW3:World.setCell _ _ _=W3
 have hb3:∃ cs,Blk W3 c 89 cs/\(cs[21+i]? = some v5):=by
  obtain⟨cs,hcs⟩:∃ cs,Blk wd c 89 cs:=⟨_,HBD.out⟩;refine⟨_,by rw[<- hW3];exact hcs.set_ _ _,?_⟩;rw[Array.getElem?_setIfInBounds_ne (by omega),<- hcs.cell];exact e5
 obtain⟨cs3,hb3,hc3⟩:=hb3
 have e6:W3.cell? ⟨c,21+i,none⟩=some v5:=by rw[hb3.cell];exact hc3
 have f6:W3.frozen? ⟨c,21+i,none⟩=false:=hb3.frozen _;have HF3:Hid (∀ W,W=W3.setCell ⟨c,21+i,none⟩ (.bool true)->PreAt W U2 c (L.setNd i v) n 5 i/\Chg CT w U W U2):=hid fun W hW=>HFin.out W (by rw[hW,<- hW3]);clear hW3 hb3 hc3 e4 e5 f4 f5 HFin;refine hK _ _ trivial ?_;clear hK;refine hd_take (v:=?_) rfl rfl (by kernel_rfl) (fun W hW=>?_) (hd_end ?_)
 rotate_left
 ·first|(go_simp;done)|(go_simp;with_reducible rfl)
 simp only[zqa,zqb,zqc,zqd,Nat.zero_add,Nat.reduceAdd]
 go_wp2_with fail
 go_ret;exact⟨rfl,_,U2,HF3.out _ rfl⟩
end Go.Proofs.Ytlhekbjidppijaa
