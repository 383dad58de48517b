/- Contracts of what TopFall reaches: what each function returns and leaves in memory. Conditions: as named. -/
import Derived.Test.YtlhekbjidppijaaGreatMBB
import Derived.Test.YtlhekbjidppijaaGreatMBK
set_option linter.unusedVariables false
set_option linter.unusedSimpArgs false
set_option maxRecDepth 20000
set_option maxHeartbeats 8000000
namespace Go.Proofs.Ytlhekbjidppijaa
open Lib (hid)
open Go.RowKit
def nodesB (ns:List Nat):Bool:=decide (1<=ns.length) && decide (ns.length<=5) && decide (ns=upto ns.length)
theorem nodesB_ok {ns:List Nat}(h:nodesB ns=true):NodesOk ns:=by
 simp only[nodesB,Bool.and_eq_true,decide_eq_true_eq]at h;rw[h.2];exact upto_ok _ h.1.1 h.1.2
def PMsg.okB (m:PMsg):Bool:=
 decide (1<=m.kind) && decide (m.kind<=14) && decide (m.src≠m.dst) && decide (m.src<=5) && decide (m.dst<=5) && decide (m.epoch<=1099511627776) && decide (m.tick<=1099511627776) && decide (m.id<=1099511627776) && decide (m.op<=2) &&
 decide (m.key.size<=40) && decide (m.err<=10) && ((decide (m.ik.size=0) && decide (m.iv.size=0) && !m.ig) || itemOk m.ik m.iv m.ig) && decide (m.ik.size<=1099511627776) && decide (m.iv.size<=200) && (m.members.isEmpty || nodesB m.members)
theorem size_zero {b:ByteArray}(h:b.size=0):b=⟨#[]⟩:=by
 obtain⟨d⟩:=b;have:d=#[]:=Array.eq_empty_of_size_eq_zero h;rw[this]
theorem PMsg.okB_ok {m:PMsg}(h:m.okB=true):MOk m:=by
 simp only[PMsg.okB,Bool.and_eq_true,Bool.or_eq_true,decide_eq_true_eq,Bool.not_eq_true',List.isEmpty_iff]at h;obtain⟨⟨⟨⟨⟨⟨⟨⟨⟨⟨⟨⟨⟨⟨a1,a2⟩,a3⟩,a4⟩,a5⟩,a6⟩,a7⟩,a8⟩,a9⟩,a10⟩,a11⟩,a12⟩,a13⟩,a14⟩,a15⟩:=h;refine⟨a1,a2,a3,a4,a5,a6,a7,a8,a9,a10,a11,?_,a13,a14,?_⟩
 ·rcases a12 with ⟨⟨b1,b2⟩,b3⟩|h
  ·exact .inl ⟨size_zero b1,size_zero b2,b3⟩
  ·exact .inr h
 ·rcases a15 with h|h
  ·exact .inl h
  ·exact .inr (nodesB_ok h)
def noStrange (s:PNode)(i:Nat)(ns:List Nat):Bool:=decide (s.m.r=0) && decide ((s.fs.pl.filter (·.has)).length<=12) && decide (ns=[i])
def PNode.adopt? (s:PNode)(i:Nat)(ns:List Nat):Option PNode:=
 if s.m.e=1 then (if s.ring.isSome then some s else if noStrange s i ns then some { s with ring:=some ns } else none)
 else if s.m.b<64/\s.m.e=0/\s.m.r=0/\s.m.f=false/\s.tn+1<=1000000/\s.waits.length=0/\s.toks.length<=900 then (fwipe 129 s.fs).map fun fs=>s.adopt fs ns
 else none
theorem adopts_of {s s1:PNode}{i:Nat}{ns:List Nat}(h:s.adopt? i ns=some s1):Adopts i s s1 ns:=by
 unfold PNode.adopt? at h
 split at h
 ·rename_i he
  split at h
  ·rename_i hr
   injection h with h
   obtain⟨r,hr⟩:=Option.isSome_iff_exists.1 hr;exact .inl ⟨he,⟨r,hr⟩,h.symm⟩
  ·rename_i hr
   split at h
   case isFalse=>cases h
   rename_i hc
   injection h with h
   simp only[noStrange,Bool.and_eq_true,decide_eq_true_eq]at hc;exact .inr (.inl ⟨he,by simpa using hr,hc.1.1,hc.1.2,hc.2,h.symm⟩)
 ·split at h
  ·rename_i hc
   obtain⟨a1,a2,a3,a4,a5,a6,a7⟩:=hc;obtain⟨fs,hfs,hs⟩:=Option.map_eq_some_iff.1 h;exact .inr (.inr ⟨a1,a2,a3,a4,a5,List.eq_nil_of_length_eq_zero a6,a7,fs,hfs,hs.symm⟩)
  ·cases h
def PNode.grant? (s:PNode)(i now:Nat)(m:PMsg):Option PNode:=
 if m.epoch=1/\m.tick<=now/\now<=1099511627776/\nodesB m.members=true then
  match s.adopt? i m.members with
  | some s1=>if s1.top<=1 then some (s1.take now m.tick) else none
  | none=>none
 else none
def PNode.step? (s:PNode)(i now:Nat)(m:PMsg):Option PNode:=
 if m.okB && decide (m.dst=i) && s.small && decide (s.m.r=0) then
  if m.kind=2 then s.grant? i now m else none
 else none
structure SpA (w:World)(U:Own)(ts n N d k i tk now ob mb y tm:Nat)(m:PMsg)(vm:Value)(s:PNode)(h:Hd)(W:World)(U':Own):Prop where
 node:NodeAt W U' ts n N d k i s h
 clk:ClockAt W U' tk k now
 out:Has W U' y ob 102 #[.slice none 0 0,.slice none 0 0]
 msg:Has W U' y mb 182 (msgV m vm).toArray
 mem:Rw W U' tm 3 1 vm m.members.length (nnums m.members)
 chg:Chg (NT ts n) w U W U'
theorem SpA.step {w W W2:World}{U U1 U2:Own}{ts n N d k i tk now ob mb y tm:Nat}{m:PMsg}{vm:Value}{s s2:PNode}{h h2:Hd}{T:Nat->Prop}(A:SpA w U ts n N d k i tk now ob mb y tm m vm s h W U1)(H:NodeAt W2 U2 ts n N d k i s2 h2)(hc:Chg T W U1 W2 U2)(h1:∀ x,T x->NT ts n x)(h2':¬ NT ts n y)(h3:¬ NT ts n tk)(h4:¬ NT ts n tm):SpA w U ts n N d k i tk now ob mb y tm m vm s2 h2 W2 U2:=
 ⟨H,A.clk.keep hc fun h=>h3 (h1 _ h),A.out.keep hc fun h=>h2' (h1 _ h),A.msg.keep hc fun h=>h2' (h1 _ h),A.mem.keep hc fun h=>h4 (h1 _ h),A.chg.trans (hc.mono h1)⟩
def SpS (N b i:Nat)(m:PMsg)(vm:Value)(W:World):Prop:=W.cell? ⟨N,2,none⟩=some (.int .i64 (i:Int))/\W.cell? ⟨b,2,none⟩=some (.int .i64 (m.dst:Int))/\Blk W b 182 (msgV m vm).toArray
theorem step116 (w:World)(U:Own)(ts n N d k i tk now tm:Nat)(m:PMsg)(vm:Value)(s s':PNode)(h:Hd)(H:NodeAt w U ts n N d k i s h)(hk:ClockAt w U tk k now)(hf:Far ts n)(htk:¬ NT ts n tk)(hm:Rw w U tm 3 1 vm m.members.length (nnums m.members))(htm:¬ NT ts n tm)(ha:s.step? i now m=some s') :
 Calls Tryz.prog 116 #[.pointer (some ⟨N,0,none⟩),.agg (msgV m vm).toArray] w fun e w'=>∃ v U',e=.returned v/\OutIs w' U' ts n N d k i v s'/\Chg (NT ts n) w U w' U':=by
 unfold PNode.step? at ha
 split at ha
 case isFalse=>cases ha
 rename_i hg;simp only[Bool.and_eq_true,decide_eq_true_eq]at hg;obtain⟨⟨⟨hok,hdst⟩,hsm⟩,hr0⟩:=hg;have HS:=hid (PNode.small_of hsm);have HOK:=hid (PMsg.okB_ok hok);obtain⟨y,hy1,hy2⟩:=fresh95 w U
 have hy:¬ NT ts n y:=by obtain⟨g1,g2,g3⟩:=hf;unfold NT ST;omega
 obtain⟨W0,hW0⟩:∃ W,W=w.alloc (.cells (msgV m vm).toArray 182):=⟨_,rfl⟩
 have hc0:Chg (fun _=>False) w U W0 (ext U w y):=by rw[hW0];exact((Chg.refl _ _ _).alloc _).ext _
 have hB0:Has W0 (ext U w y) y w.heap.size 182 (msgV m vm).toArray:=⟨by rw[hW0];exact Blk.new _ _ _,ext_new (Nat.le_refl _)⟩;generalize ext U w y=U0 at hc0 hB0;obtain⟨W1,hW1⟩:∃ W,W=W0.alloc (.cells #[.slice none 0 0,.slice none 0 0] 102):=⟨_,rfl⟩
 have hc1:Chg (fun _=>False) W0 U0 W1 (ext U0 W0 y):=by rw[hW1];exact((Chg.refl _ _ _).alloc _).ext _
 have hO1:Has W1 (ext U0 W0 y) y W0.heap.size 102 #[.slice none 0 0,.slice none 0 0]:=⟨by rw[hW1];exact Blk.new _ _ _,ext_new (Nat.le_refl _)⟩;have hc01:=hc0.trans hc1;have hA1:SpA w U ts n N d k i tk now W0.heap.size w.heap.size y tm m vm s h W1 (ext U0 W0 y):=⟨H.keep hc01 hf.1 fun _ h=>h.elim,hk.keep hc01 (fun h=>h),hO1,hB0.keep hc1 (fun h=>h),hm.keep hc01 (fun h=>h),hc01.mono fun _ h=>h.elim⟩;generalize ext U0 W0 y=U1 at hA1
 have hC:∀ W,Below W1.heap.size W1 W->∃ U',SpA w U ts n N d k i tk now W0.heap.size w.heap.size y tm m vm s h W U':=fun W hb=>by
  have hc:Chg (fun _=>False) W1 U1 W (ext U1 W1 0):=Chg.of_below hb _;exact⟨_,hA1.step (hA1.node.keep hc hf.1 fun _ h=>h.elim) hc (fun _ h=>h.elim) hy htk htm⟩
 have HC:=hid hC;have hbd:Below W1.heap.size W1 W1.drew:=(Below.refl _ W1).drew;obtain⟨Ud,hAd⟩:=hC _ hbd;have HMy:=hid (may104 W1.drew m vm HOK.out hAd.mem.nms);have HB:=hid hAd.msg.blk;obtain⟨mv,pv,hNb,-,-⟩:=hAd.node.out.ex;have S1:Hid (SpS N w.heap.size i m vm W1.drew):=hid ⟨by rw[<- hAd.node.id];exact hNb.cell 2,hAd.msg.cell 2,hAd.msg.blk⟩;have HF:=hid (And.intro hf (And.intro hy (And.intro htk htm)));have HR0:=hid hr0;have HAs:=hid ha;have HW0:=hid hW0;have HW1:=hid hW1;have HBd:=hid hbd;have hf2:=field45_2
 have hneq:((m.dst:Int) != (i:Int))=false:=by rw[bne_eq_false_iff_eq];omega
 clear H hk hf htk hm htm ha hok hsm hr0 hy1 hy2 hy hW0 hc0 hB0 hW1 hc1 hO1 hc01 hA1 hC hbd hAd hNb hdst;go_enter Tryz.func116,Tryz.ntmps116
 go_wp2_with (first|rw[<- HW0.out]|rw[<- HW1.out]|fail)
 refine wp_region_hl [] [0,1,2,3,4,5,6,7,8,9,10,11,12] (SpS N w.heap.size i m vm) (by kernel_rfl) (by kernel_rfl) S1.out ?_
 iterate 12 (refine hd_take (v:=?_) rfl rfl (by kernel_rfl) (fun W hW=>?_) ?_;rotate_left;(obtain⟨r0,r1,-⟩:=hW;first|(go_simp;done)|(go_simp;with_reducible rfl)))
 refine hd_load 182 (.tmp 3) rfl rfl (by kernel_rfl) rfl (.pointer (some ⟨w.heap.size,0,none⟩)) (.agg (msgV m vm).toArray) (by go_simp) (fun W hW=>load_msg hW.2.2) (hd_end ?_);simp only[zqa,zqb,zqc,zqd,Nat.zero_add,Nat.reduceAdd]
 go_wp2_with (go_at_call 104;fail)
 refine HMy.out.mono ?_;rintro e w2 ⟨rfl,hb2⟩;have hb2':=HBd.out.trans (hb2.mono HBd.out.size);obtain⟨U2,hA2⟩:=HC.out w2 hb2';obtain⟨mv,pv,hNb,-,-⟩:=hA2.node.out.ex;obtain⟨cf,jf,kp,lf,lj,Z,hSS,-,-,hKK,-⟩:=hA2.node.store.ex;have n0:w2.cell? ⟨N,0,none⟩=some (.pointer (some ⟨h.S,0,none⟩)):=hNb.cell 0;have s2:w2.cell? ⟨h.S,2,none⟩=some (.pointer (some ⟨kp,0,none⟩)):=hSS.cell 2;have HMe:=hid (meta48 w2 U2 (ts+1) kp d 0 s.tn s.m hKK);rw[HR0.out]at HMe;have HB2:=hid hb2';clear hb2 hb2' hA2 hNb hSS hKK HMy HB S1
 go_wp2_with (go_at_call 48;fail)
 refine HMe.out.mono ?_;rintro e w3 ⟨rfl,hb3⟩;obtain⟨U3,hA3⟩:=HC.out w3 (HB2.out.trans (hb3.mono HB2.out.size));have HA3:=hid hA3;have HB3:=hid hA3.msg.blk;have b0:w3.cell? ⟨w.heap.size,0,none⟩=some (.int .i64 (m.kind:Int)):=hA3.msg.cell 0;have b18:w3.cell? ⟨w.heap.size,18,none⟩=some vm:=hA3.msg.cell 18;clear hb3 hA3 HMe HB2 HC n0 s2
 have hcs:m.kind=2/\s.grant? i now m=some s':=by
  have ha:=HAs.out
  split at ha
  ·exact⟨by assumption,ha⟩
  ·cases ha
 clear HAs;obtain⟨hkd,ha⟩:=hcs
 focus(
  unfold PNode.grant? at ha
  split at ha
  case isFalse=>cases ha
  rename_i hcond;obtain⟨g1,g2,g3,g4⟩:=hcond
  split at ha
  case h_2=>cases ha
  rename_i s1 hs1
  split at ha
  case isFalse=>cases ha
  rename_i htop
  injection ha with ha
  rw[hkd]at b0;have HGr:=hid (grant153 w3 U3 ts n N d k i tk now tm m vm s s1 h HA3.out.node HA3.out.clk HF.out.1 HF.out.2.2.1 HA3.out.mem HF.out.2.2.2 (nodesB_ok g4) hkd g1 g2 g3 (adopts_of hs1) htop);rw[ha]at HGr;obtain⟨Am,cm,hvm,-,-,-,hsm,-,-⟩:=HA3.out.mem.slice;have HMy2:=hid (may72 w3 Am m.members.length cm m.members hsm rfl (nodesB_ok g4));rw[<- hvm]at HMy2;clear ha g1 g2 g3 g4 hs1 htop hsm hvm hkd
  go_wp2_with (first|(go_at_call 72;refine HMy2.out.mono ?_;rintro e w' ⟨rfl,hw⟩;obtain rfl:=hw.symm)|(refine wpl_lq 182 _ rfl ?_;refine lq 182 _ _ _ rfl (by kernel_rfl) (load_msg HB3.out) ?_)|(go_at_call 153;fail))
  refine HGr.out.mono ?_
  rintro e w4 ⟨⟨v4,rfl⟩,h4,U4,hn4,hc4⟩)
 all_goals (
  have hA4:=HA3.out.step hn4 hc4 (fun _ h=>h) HF.out.2.1 HF.out.2.2.1 HF.out.2.2.2;have HA4:=hid hA4;have HDi:=hid (hA4.node.did HF.out.1);clear hn4 hc4 hA4 HGr HB3 HA3 b0 b18
  go_wp2_with (go_at_call 113;fail)
  refine HDi.out.mono ?_;rintro e w7 ⟨A7,ca,B7,cb,rfl,ho7,hc7⟩;have hc7':Chg (NT ts n) _ _ w7 _:=hc7.mono fun x hx=>.inr (by have:=HF.out.1.1;omega);have hO7:=HA4.out.out.keep hc7' HF.out.2.1;have u0:w7.cell? ⟨W0.heap.size,0,none⟩=some (.slice none 0 0):=hO7.cell 0;have u1:w7.cell? ⟨W0.heap.size,1,none⟩=some (.slice none 0 0):=hO7.cell 1;have p0:=hO7.frozen 0;have p1:=hO7.frozen 1;have HO7:=hid hO7;have HOu:=hid ho7;have HCC:=hid (HA4.out.chg.trans hc7');clear hc7 hc7' hO7 ho7 HDi;generalize hl1:List.length (PNode.ms _)=l1 at *;generalize hl2:List.length (PNode.rs _)=l2 at *
  have HBB:Hid (∀ W,W=(w7.setCell ⟨W0.heap.size,0,none⟩ (.slice A7 l1 ca)).setCell ⟨W0.heap.size,1,none⟩ (.slice B7 l2 cb)->Blk W W0.heap.size 102 #[.slice A7 l1 ca,.slice B7 l2 cb]/\OutIs W U4 ts n N d k i (.agg #[.slice A7 l1 ca,.slice B7 l2 cb]) s'/\Chg (NT ts n) w U W U4):=hid fun W hW=>by
   have hc8:Chg (fun q=>q=y) w7 U4 W U4:=by rw[hW];exact((Chg.refl _ _ _).setCell (p:=⟨W0.heap.size,0,none⟩) HO7.out.own _).setCell (p:=⟨W0.heap.size,1,none⟩) HO7.out.own _
   refine⟨by rw[hW];exact((HO7.out.set_ 0 (.slice A7 l1 ca)).set_ 1 (.slice B7 l2 cb)).blk,HOu.out.keep hc8 HF.out.1.1 (fun x hx=>by rw[hx];exact HF.out.2.1),?_⟩
   have hle:w.heap.size<=W0.heap.size:=by rw[HW0.out];simp
   rw[hW];exact(HCC.out.setNew (p:=⟨W0.heap.size,0,none⟩) hle _).setNew (p:=⟨W0.heap.size,1,none⟩) hle _
  clear HOu HA4 hl1 hl2
  go_wp2
  refine bodyPost_ret (results_cell rfl _ _ _ ⟨W0.heap.size,0,none⟩ (.agg #[.slice A7 l1 ca,.slice B7 l2 cb]) rfl ?_) rfl ?_
  ·exact loadVar_out (HBB.out _ rfl).1
  exact⟨_,U4,rfl,(HBB.out _ rfl).2⟩)
structure CL where
 ctl:Nat
 cd:Nat
 cc:Nat
 nd:Nat->Nat
 dv:Nat->Nat
 ck:Nat->Nat
 net:Nat
 org:Nat
 log:Nat
def ndV (L:CL)(n i:Nat):Value:=if i<=n then ptr (L.nd i) else .pointer none
def cluV (L:CL)(n:Nat):List Value:=
 ptr L.ctl :: ptr L.cd :: ptr L.cc :: .pointer none :: ndV L n 1 :: ndV L n 2 :: ndV L n 3 :: ndV L n 4 :: ndV L n 5 :: .pointer none :: ptr (L.dv 1) :: ptr (L.dv 2) :: ptr (L.dv 3) :: ptr (L.dv 4) :: ptr (L.dv 5) ::
 .pointer none :: ptr (L.ck 1) :: ptr (L.ck 2) :: ptr (L.ck 3) :: ptr (L.ck 4) :: ptr (L.ck 5) :: .bool false :: .bool (decide (1<=n)) :: .bool (decide (2<=n)) :: .bool (decide (3<=n)) :: .bool (decide (4<=n)) :: .bool (decide (5<=n)) :: ptr L.net :: ptr L.org :: ptr L.log :: []
structure PCl where
 n:Nat
 nodes:List PNode
 cks:List Nat
 net:List PMsg
 org:List St
 log:List PCall
structure CluAt (w:World)(U:Own)(c:Nat)(L:CL)(s:PCl):Prop where
 n1:1<=s.n
 n5:s.n<=5
 len:s.nodes.length=s.n
 clen:s.cks.length=6
 blk:Has w U 86 c 89 (cluV L s.n).toArray
 ctl:CtlAt w U 80 L.ctl L.cc s.n
 ck0:∀ k,s.cks[0]? = some k->ClockAt w U 81 L.cc k
 node:∀ i p,1<=i->s.nodes[i-1]? = some p->p.ms=[]/\p.rs=[]/\∃ h,NodeAt w U (16*(i-1)) (16*(i-1)+10) (L.nd i) (L.dv i) (L.ck i) i p h
 ck:∀ i k,1<=i->i<=5->s.cks[i]? = some k->ClockAt w U (16*(i-1)+11) (L.ck i) k
 net:NetAt w U 83 L.net s.net
 org:OrgAt w U 84 L.org s.org
 log:LgAt w U 85 L.log s.log
def CT (x:Nat):Prop:=x%96<=86
section
variable {w w' : World} {U U' : Own} {c : Nat} {L : CL} {s : PCl} {T : Nat -> Prop}
theorem CluAt.keep (H:CluAt w U c L s)(hc:Chg T w U w' U')(hT:∀ x,T x->¬ CT x):CluAt w' U' c L s:=by
 have k (x:Nat) (hx:x%96<=86):¬ T x:=fun h=>hT x h hx;have hl:=H.len;have hn:=H.n5
 refine⟨H.n1,H.n5,H.len,H.clen,H.blk.keep hc (k _ (by decide)),H.ctl.keep hc (k _ (by decide)) (k _ (by decide)),fun q hq=>(H.ck0 q hq).keep hc (k _ (by decide)),fun i p h1 hp=>?_,fun i q h1 h5 hq=>(H.ck i q h1 h5 hq).keep hc (k _ (by omega)),
  H.net.keep hc (k _ (by decide)) (k _ (by decide)) (k _ (by decide)),H.org.keep hc (k _ (by decide)) (k _ (by decide)),H.log.keep hc (k _ (by decide)) (k _ (by decide))⟩
 obtain⟨a,b,h,hN⟩:=H.node i p h1 hp;have:i-1<s.nodes.length:=(List.getElem?_eq_some_iff.1 hp).1;exact⟨a,b,h,hN.keep hc (by omega) fun x hx hy=>hT x hx (by unfold NT ST at hy;unfold CT;omega)⟩
theorem CluAt.below (H:CluAt w U c L s)(hb:Below w.heap.size w w'):∃ U',CluAt w' U' c L s/\Chg (fun _=>False) w U w' U':=by
 have hc:Chg (fun _=>False) w U w' (ext U w 0):=Chg.of_below hb _;exact⟨_,H.keep hc fun _ h=>h.elim,hc⟩
theorem CluAt.ndc (H:CluAt w U c L s){i:Nat}(h1:1<=i)(h5:i<=5):w.cell? ⟨c,3+i,none⟩=some (ndV L s.n i):=by
 rw[H.blk.cell]
 obtain rfl|rfl|rfl|rfl|rfl:i=1\/i=2\/i=3\/i=4\/i=5:=by omega
 all_goals rfl
theorem CluAt.ckc (H:CluAt w U c L s){i:Nat}(h1:1<=i)(h5:i<=5):w.cell? ⟨c,15+i,none⟩=some (ptr (L.ck i)):=by
 rw[H.blk.cell]
 obtain rfl|rfl|rfl|rfl|rfl:i=1\/i=2\/i=3\/i=4\/i=5:=by omega
 all_goals rfl
def PCl.setNode (s:PCl)(i:Nat)(p:PNode):PCl:={ s with nodes:=s.nodes.set (i-1) p }
theorem CluAt.setN (H:CluAt w U c L s){i:Nat}(h1:1<=i)(h5:i<=s.n){p:PNode}{h:Hd}(hp:NodeAt w' U' (16*(i-1)) (16*(i-1)+10) (L.nd i) (L.dv i) (L.ck i) i p h)(hm:p.ms=[])(hr:p.rs=[])
 (hc:Chg T w U w' U')(hT:∀ x,T x->NT (16*(i-1)) (16*(i-1)+10) x):CluAt w' U' c L (s.setNode i p):=by
 have hn:=H.n5;have k (x:Nat) (hx:¬ NT (16*(i-1)) (16*(i-1)+10) x):¬ T x:=fun h=>hx (hT x h);have kk (x:Nat) (hx:80<=x%96):¬ T x:=k x (by unfold NT ST;omega)
 refine⟨H.n1,H.n5,by unfold PCl.setNode;simpa using H.len,H.clen,H.blk.keep hc (kk _ (by decide)),H.ctl.keep hc (kk _ (by decide)) (kk _ (by decide)),fun q hq=>(H.ck0 q hq).keep hc (kk _ (by decide)),fun j q hj hq=>?_,fun j q hj1 hj5 hq=>(H.ck j q hj1 hj5 hq).keep hc (k _ (by unfold NT ST;omega)),
  H.net.keep hc (kk _ (by decide)) (kk _ (by decide)) (kk _ (by decide)),H.org.keep hc (kk _ (by decide)) (kk _ (by decide)),H.log.keep hc (kk _ (by decide)) (kk _ (by decide))⟩
 unfold PCl.setNode at hq;dsimp only at hq;rw[List.getElem?_set]at hq
 split at hq
 ·rename_i e
  split at hq
  ·injection hq with hq
   obtain rfl:i=j:=by omega
   exact⟨by rw[<- hq];exact hm,by rw[<- hq];exact hr,h,by rw[<- hq];exact hp⟩
  ·cases hq
 ·rename_i e
  obtain⟨a,b,h',hN⟩:=H.node j q hj hq;have:=(List.getElem?_eq_some_iff.1 hq).1;have:=H.len;exact⟨a,b,h',hN.keep hc (by omega) fun x hx hy=>by have h3:=hT x hx;unfold NT ST at h3 hy;omega⟩
theorem CluAt.setNet (H:CluAt w U c L s){ms:List PMsg}(h:NetAt w' U' 83 L.net ms)(hc:Chg T w U w' U')(hT:∀ x,T x->x%96=83):CluAt w' U' c L { s with net:=ms }:=by
 have k (x:Nat) (hx:x%96≠83):¬ T x:=fun h=>hx (hT x h);have hl:=H.len;have hn:=H.n5
 refine⟨H.n1,H.n5,H.len,H.clen,H.blk.keep hc (k _ (by decide)),H.ctl.keep hc (k _ (by decide)) (k _ (by decide)),fun q hq=>(H.ck0 q hq).keep hc (k _ (by decide)),fun i p h1 hp=>?_,fun i q h1 h5 hq=>(H.ck i q h1 h5 hq).keep hc (k _ (by omega)),
  h,H.org.keep hc (k _ (by decide)) (k _ (by decide)),H.log.keep hc (k _ (by decide)) (k _ (by decide))⟩
 obtain⟨a,b,h,hN⟩:=H.node i p h1 hp;have:i-1<s.nodes.length:=(List.getElem?_eq_some_iff.1 hp).1;exact⟨a,b,h,hN.keep hc (by omega) fun x hx hy=>by have:=hT x hx;unfold NT ST at hy;omega⟩
theorem CluAt.setLog (H:CluAt w U c L s){ls:List PCall}(h:LgAt w' U' 85 L.log ls)(hc:Chg T w U w' U')(hT:∀ x,T x->x%96=85):CluAt w' U' c L { s with log:=ls }:=by
 have k (x:Nat) (hx:x%96≠85):¬ T x:=fun h=>hx (hT x h);have hl:=H.len;have hn:=H.n5
 refine⟨H.n1,H.n5,H.len,H.clen,H.blk.keep hc (k _ (by decide)),H.ctl.keep hc (k _ (by decide)) (k _ (by decide)),fun q hq=>(H.ck0 q hq).keep hc (k _ (by decide)),fun i p h1 hp=>?_,fun i q h1 h5 hq=>(H.ck i q h1 h5 hq).keep hc (k _ (by omega)),
  H.net.keep hc (k _ (by decide)) (k _ (by decide)) (k _ (by decide)),H.org.keep hc (k _ (by decide)) (k _ (by decide)),h⟩
 obtain⟨a,b,h,hN⟩:=H.node i p h1 hp;have:i-1<s.nodes.length:=(List.getElem?_eq_some_iff.1 hp).1;exact⟨a,b,h,hN.keep hc (by omega) fun x hx hy=>by have:=hT x hx;unfold NT ST at hy;omega⟩
theorem CluAt.setOrg (H:CluAt w U c L s){os:List St}(h:OrgAt w' U' 84 L.org os)(hc:Chg T w U w' U')(hT:∀ x,T x->x%96=84):CluAt w' U' c L { s with org:=os }:=by
 have k (x:Nat) (hx:x%96≠84):¬ T x:=fun h=>hx (hT x h);have hl:=H.len;have hn:=H.n5
 refine⟨H.n1,H.n5,H.len,H.clen,H.blk.keep hc (k _ (by decide)),H.ctl.keep hc (k _ (by decide)) (k _ (by decide)),fun q hq=>(H.ck0 q hq).keep hc (k _ (by decide)),fun i p h1 hp=>?_,fun i q h1 h5 hq=>(H.ck i q h1 h5 hq).keep hc (k _ (by omega)),
  H.net.keep hc (k _ (by decide)) (k _ (by decide)) (k _ (by decide)),h,H.log.keep hc (k _ (by decide)) (k _ (by decide))⟩
 obtain⟨a,b,h,hN⟩:=H.node i p h1 hp;have:i-1<s.nodes.length:=(List.getElem?_eq_some_iff.1 hp).1;exact⟨a,b,h,hN.keep hc (by omega) fun x hx hy=>by have:=hT x hx;unfold NT ST at hy;omega⟩
theorem CluAt.setCtl (H:CluAt w U c L s)(h:CtlAt w' U' 80 L.ctl L.cc s.n)(hc:Chg T w U w' U')(hT:∀ x,T x->x%96=80):CluAt w' U' c L s:=by
 have k (x:Nat) (hx:x%96≠80):¬ T x:=fun h=>hx (hT x h);have hl:=H.len;have hn:=H.n5
 refine⟨H.n1,H.n5,H.len,H.clen,H.blk.keep hc (k _ (by decide)),h,fun q hq=>(H.ck0 q hq).keep hc (k _ (by decide)),fun i p h1 hp=>?_,fun i q h1 h5 hq=>(H.ck i q h1 h5 hq).keep hc (k _ (by omega)),
  H.net.keep hc (k _ (by decide)) (k _ (by decide)) (k _ (by decide)),H.org.keep hc (k _ (by decide)) (k _ (by decide)),H.log.keep hc (k _ (by decide)) (k _ (by decide))⟩
 obtain⟨a,b,h,hN⟩:=H.node i p h1 hp;have:i-1<s.nodes.length:=(List.getElem?_eq_some_iff.1 hp).1;exact⟨a,b,h,hN.keep hc (by omega) fun x hx hy=>by have:=hT x hx;unfold NT ST at hy;omega⟩
def ckTag (i:Nat):Nat:=if i=0 then 81 else 16*(i-1)+11
def ckPos (L:CL)(i:Nat):Nat:=if i=0 then L.cc else L.ck i
theorem CluAt.clk (H:CluAt w U c L s){i q:Nat}(h5:i<=5)(hq:s.cks[i]? = some q):ClockAt w U (ckTag i) (ckPos L i) q:=by
 unfold ckTag ckPos
 by_cases h0:i=0
 ·subst h0;rw[if_pos rfl,if_pos rfl];exact H.ck0 q hq
 ·rw[if_neg h0,if_neg h0];exact H.ck i q (by omega) h5 hq
theorem CluAt.setCk (H:CluAt w U c L s){i q:Nat}(h5:i<=5)(h:ClockAt w' U' (ckTag i) (ckPos L i) q)(hc:Chg T w U w' U')(hT:∀ x,T x->x=ckTag i):CluAt w' U' c L { s with cks:=s.cks.set i q }:=by
 have k (x:Nat) (hx:x≠ckTag i):¬ T x:=fun h=>hx (hT x h);have hl:=H.len;have hn:=H.n5;unfold ckTag at k h hT;unfold ckPos at h;have hcl:=H.clen
 refine⟨H.n1,H.n5,H.len,by simpa using hcl,H.blk.keep hc (k _ (by split <;> omega)),H.ctl.keep hc (k _ (by split <;> omega)) (k _ (by split <;> omega)),fun q' hq=>?_,fun j p h1 hp=>?_,fun j q' hj1 hj5 hq=>?_,
  H.net.keep hc (k _ (by split <;> omega)) (k _ (by split <;> omega)) (k _ (by split <;> omega)),H.org.keep hc (k _ (by split <;> omega)) (k _ (by split <;> omega)),H.log.keep hc (k _ (by split <;> omega)) (k _ (by split <;> omega))⟩
 ·dsimp only at hq
  rw[List.getElem?_set]at hq
  split at hq
  ·rename_i e
   rw[if_pos (by omega)]at hq
   injection hq with hq
   rw[if_pos e,if_pos e]at h;rw[<- hq];exact h
  ·rename_i e
   exact(H.ck0 q' hq).keep hc (k _ (by rw[if_neg e];omega))
 ·obtain⟨a,b,h,hN⟩:=H.node j p h1 hp
  have:j-1<s.nodes.length:=(List.getElem?_eq_some_iff.1 hp).1;refine⟨a,b,h,hN.keep hc (by omega) fun x hx hy=>?_⟩;have hx:=hT x hx;unfold NT ST at hy
  split at hx <;> omega
 ·dsimp only at hq
  rw[List.getElem?_set]at hq
  split at hq
  ·rename_i e
   rw[if_pos (by omega)]at hq
   injection hq with hq
   subst e;rw[if_neg (by omega),if_neg (by omega)]at h;rw[<- hq];exact h
  ·rename_i e
   exact(H.ck j q' hj1 hj5 hq).keep hc (k _ (by split <;> omega))
end
theorem splice_all (cur:Array Value)(cs:List Value)(h:cur.size=cs.length):splice cur 0 cs=cs.toArray:=by
 unfold splice;rw[List.take_zero,List.nil_append,List.drop_eq_nil_of_le (by simp[h]),List.append_nil]
theorem store_fresh {P:Program}(w:World)(t:TypeId)(zs:Array Value)(cs:List Value)(hs:∀ W,(sizeOf t).run P W=.ok cs.length W)(hz:zs.size=cs.length)(h1:∀ v∈cs,v.oneCell'=true) :
 ∃ W2,(Instr.storeAt t (.pointer (some ⟨w.heap.size,0,none⟩)) (.agg cs.toArray)).run P (w.alloc (.cells zs t))=.ok () W2/\Blk W2 w.heap.size t cs.toArray/\Below w.heap.size w W2/\W2.heap.size=w.heap.size+1:=by
 obtain⟨W2,a,b,c,d,e,f,g⟩:=run_storeAgg (P:=P) (w.alloc (.cells zs t)) t w.heap.size 0 t zs cs cs.length (hs _) rfl (Blk.new _ _ _) (by omega) h1;rw[splice_all _ _ hz]at b;exact⟨W2,a,b,((Below.refl _ w).alloc (Nat.le_refl _) (.cells zs t)).trans ⟨e,f,g,by omega,fun k hk=>c k (by omega)⟩,by rw[d];simp⟩
theorem load_blk {P:Program}{W:World}{g t:Nat}{cs:List Value}(ha:(isAgg t).run P W=.ok true W)(hs:(sizeOf t).run P W=.ok cs.length W)(h:Blk W g t cs.toArray):(Instr.loadAt t (.pointer (some ⟨g,0,none⟩))).run P W=.ok (.agg cs.toArray) W:=
 run_loadAgg W t g 0 cs cs.length ha hs rfl (fun j v hj=>by rw[Nat.zero_add,h.cell j,List.getElem?_toArray];exact hj)
def endC? (pos:Nat)(r:PReply)(l:List PCall):Option (List PCall):=
 match l[r.id-1]? with
 | some c=>if decide (1<=r.id) && !c.done && decide (c.op=r.op) && decide (c.key=r.key) then some (l.set (r.id-1) ⟨c.id,c.op,c.key,c.node,c.frm,pos,true,r⟩) else none
 | none=>none
def endAll? (pos:Nat):List PReply->List PCall->Option (List PCall)
 | [],l=>some l
 | r :: rs,l=>match endC? pos r l with
  | some l'=>endAll? pos rs l'
  | none=>none
theorem endC_len {pos:Nat}{r:PReply}{l l':List PCall}(h:endC? pos r l=some l'):l'.length=l.length:=by
 unfold endC? at h
 split at h
 ·split at h
  ·injection h with h;rw[<- h];simp
  ·cases h
 ·cases h
theorem endAll_len {pos:Nat}:∀ (rs:List PReply) {l l':List PCall},endAll? pos rs l=some l'->l'.length=l.length
 | [],l,l',h=>by injection h with h;rw[h]
 | r :: rs,l,l',h=>by
  unfold endAll? at h
  split at h
  ·rename_i l2 h2
   rw[endAll_len rs h,endC_len h2]
  ·cases h
theorem endAll_at {pos:Nat}:∀ (rs:List PReply) {l l':List PCall},endAll? pos rs l=some l'->∀ (k:Nat) (hk:k<rs.length) (lk:List PCall),endAll? pos (rs.take k) l=some lk->∃ lk',endC? pos rs[k] lk=some lk'/\endAll? pos (rs.take (k+1)) l=some lk'
 | [],l,l',h,k,hk,lk,hl=>absurd hk (Nat.not_lt_zero _)
 | r :: rs,l,l',h,k,hk,lk,hl=>by
  unfold endAll? at h
  split at h
  ·rename_i l2 h2
   cases k with
   | zero=>
    have:l=lk:=by simpa [endAll?] using hl
    subst this;exact⟨l2,h2,by simp[endAll?,h2]⟩
   | succ k=>
    have hl':endAll? pos (rs.take k) l2=some lk:=by simpa [endAll?,h2] using hl
    obtain⟨lk',g1,g2⟩:=endAll_at rs h k (by simpa using hk) lk hl';exact⟨lk',g1,by simp[endAll?,h2,g2]⟩
  ·cases h
theorem endC108 (w:World)(U:Own)(t p pos:Nat)(r:PReply)(cs cs':List PCall)(h:LgAt w U t p cs)(hn:cs.length<=1000)(he:endC? pos r cs=some cs') :
 Calls Tryz.prog 108 #[.pointer (some ⟨p,0,none⟩),.agg (encR r).toArray,.int .i64 (pos:Int)] w fun e w'=>e=.returned (.bool true)/\LgAt w' U t p cs'/\Chg (T2 t) w U w' U:=by
 unfold endC? at he
 split at he
 case h_2=>cases he
 rename_i c hc
 split at he
 case isFalse=>cases he
 rename_i hg;simp only[Bool.and_eq_true,Bool.not_eq_true',decide_eq_true_eq]at hg;obtain⟨⟨⟨g1,g2⟩,g3⟩,g4⟩:=hg
 injection he with he
 obtain⟨hi,hci⟩:=List.getElem?_eq_some_iff.1 hc;subst hci;rw[<- he];exact end108 w U t p pos (r.id-1) r cs h hn hi (by omega) g2 g3 g4
def PCl.small (s:PCl):Bool:=decide (s.org.length<=1000) && decide (s.log.length<=1000)
def PCl.came? (s:PCl)(ms:List PMsg)(rs:List PReply):Option PCl:=
 if s.small && ms.all PMsg.okB && decide (s.net.length+ms.length<300) && decide (rs.length<=900) then (endAll? s.org.length rs s.log).map fun l=>{ s with net:=s.net++ms,log:=l } else none
theorem Msgs.of_nrw {w:World}{U:Own}{t:Nat}{v:Value}{ms:List PMsg}(h:NRw w U t v ms)(hm:∀ m∈ms,m.members=[]):Msgs w U t v ms:=by
 refine⟨ms.map fun m=>(m,nils),by simp[List.map_map,Function.comp_def],?_,fun x hx=>?_⟩
 ·have e:(ms.map fun m=>((m,nils):MV)).flatMap encM=ms.flatMap encN:=by rw[List.flatMap_map];rfl
  rw[e];exact h
 ·obtain⟨m,hm',rfl⟩:=List.mem_map.1 hx
  dsimp only;rw[hm m hm'];exact Rw.nil _ _ _ _ _
def CamS (c lg O b:Nat)(r:PReply)(W:World):Prop:=W.cell? ⟨c,29,none⟩=some (ptr lg)/\W.cell? ⟨c,28,none⟩=some (ptr O)/\Blk W b 57 (encR r).toArray
def CamT (c nt b:Nat)(v:Value)(W:World):Prop:=W.cell? ⟨c,27,none⟩=some (ptr nt)/\W.cell? ⟨b,0,none⟩=some v
theorem came82 (w:World)(U:Own)(c:Nat)(L:CL)(s s':PCl)(H:CluAt w U c L s)(tm tr:Nat)(mv pv:Value)(ms:List PMsg)(rs:List PReply)(hm:Msgs w U tm mv ms)(hr:RRw w U tr pv rs)(htm:tm%96≠83)(htr:tr%96≠83/\tr%96≠85)(ha:s.came? ms rs=some s') :
 Calls Tryz.prog 82 #[ptr c,.agg #[mv,pv]] w fun e w'=>(∃ r,e=.returned r)/\∃ U',CluAt w' U' c L s'/\Chg CT w U w' U':=by
 unfold PCl.came? at ha
 split at ha
 case isFalse=>cases ha
 rename_i hg;simp only[PCl.small,Bool.and_eq_true,decide_eq_true_eq,List.all_eq_true]at hg;obtain⟨⟨⟨⟨ho,hlg⟩,hok⟩,hnl⟩,hrl⟩:=hg;obtain⟨lf,hend,hs'⟩:=Option.map_eq_some_iff.1 ha;obtain⟨y,hy1,hy2⟩:=fresh95 w U
 obtain⟨A,ca,rfl⟩:∃ A ca,mv=.slice A ms.length ca:=by
  obtain⟨L,-,hr,-⟩:=hm.ex;exact hr.value
 obtain⟨B,cb,rfl⟩:=hr.value;obtain⟨W1,hW1⟩:∃ W,W=w.alloc (.cells #[.slice A ms.length ca,.slice B rs.length cb] 102):=⟨_,rfl⟩
 have hc1:Chg (fun _=>False) w U W1.drew (ext U w y):=by rw[hW1];exact(((Chg.refl _ _ _).alloc _).ext _).drew
 have hO1:Has W1.drew (ext U w y) y w.heap.size 102 #[.slice A ms.length ca,.slice B rs.length cb]:=⟨by rw[hW1];exact(Blk.new _ _ _).drewN 1,ext_new (Nat.le_refl _)⟩;have H1:=H.keep hc1 fun _ h=>h.elim;have hm1:=hm.keep hc1 id id;have hr1:=hr.keep hc1 id;generalize ext U w y=U1 at hc1 hO1 H1 hm1 hr1;have S1:Hid (CamT c L.net w.heap.size (.slice A ms.length ca) W1.drew):=hid ⟨H1.blk.cell 27,hO1.cell 0⟩;have HSd:=hid (send80 W1.drew U1 83 tm L.net (.slice A ms.length ca) s.net ms H1.net hm1 (fun m hm=>PMsg.okB_ok (hok m hm)) hnl (by show ¬ (tm=83\/tm=83+96\/tm=83+192);omega) (by show ¬ (tm+96=83\/tm+96=83+96\/tm+96=83+192);omega));have HH:=hid (And.intro H1 (And.intro hr1 (And.intro hO1 (hc1.mono (T':=CT) fun _ h=>h.elim))));have HT:=hid (And.intro htr (And.intro ho (And.intro hlg (And.intro hrl hy1))));have HE:=hid (And.intro hend hs');have HW1:=hid hW1;clear H hm hr hc1 hO1 H1 hm1 hr1 htm htr ho hlg hok hnl hrl hend hs' hy1 hy2 hW1 ha;obtain⟨q,hq⟩:∃ q,q=rs.length:=⟨_,rfl⟩;have HQ:=hid hq;rw[<- hq]at HH HW1 ⊢;clear hq;go_enter Tryz.func82,Tryz.ntmps82
 go_wp2_with (first|rw[<- HW1.out]|fail)
 refine wp_region_hl [] [0,1,2,3,4,5] (CamT c L.net w.heap.size (.slice A ms.length ca)) (by kernel_rfl) (by kernel_rfl) S1.out ?_
 iterate 5 (refine hd_take (v:=?_) rfl rfl (by kernel_rfl) (fun W hW=>?_) ?_;rotate_left;(obtain⟨r0,r1⟩:=hW;first|(go_simp;done)|(go_simp;with_reducible rfl)))
 refine hd_take (v:=?_) rfl rfl (by kernel_rfl) (fun W hW=>?_) (hd_end ?_)
 rotate_left
 ·obtain⟨r0,r1⟩:=hW;first|(go_simp;done)|(go_simp;with_reducible rfl)
 simp only[zqa,zqb,zqc,zqd,Nat.zero_add,Nat.reduceAdd]
 go_wp2_with (go_at_call 80;fail)
 refine HSd.out.mono ?_;rintro e w2 ⟨⟨v2,rfl⟩,U2,hn2,hc2⟩;have h2:=HH.out.1.setNet hn2 hc2 (by rintro x (e|e|e) <;> omega);have hr2:=HH.out.2.1.keep hc2 (by have:=HT.out.1;show ¬ (tr=83\/tr=83+96\/tr=83+192);omega);have hO2:=HH.out.2.2.1.keep hc2 (by have:=HT.out.2.2.2.2;show ¬ (y=83\/y=83+96\/y=83+192);omega);have hcc:=HH.out.2.2.2.trans (hc2.mono (T':=CT) (by rintro x (e|e|e) <;> (unfold CT;omega)));have c1:w2.cell? ⟨w.heap.size,1,none⟩=some (.slice B q cb):=hO2.cell 1;have H2:=hid (And.intro h2 (And.intro hr2 hcc));clear h2 hr2 hO2 hcc hn2 hc2 HSd HH HW1
 go_wp2
 go_loopw [16] (fun i wr=>∃ (k:Nat) (Ur:Own) (l:List PCall),k<=q/\i=.int .i64 (k:Int)/\CluAt wr Ur c L { s with net:=s.net++ms,log:=l }/\endAll? s.org.length (rs.take k) s.log=some l/\Rw wr Ur tr 57 6 (.slice B q cb) q (rs.flatMap encR)/\Chg CT w U wr Ur) (fun i _=>q-(intOf i).toNat)
 case atStart=>exact⟨0,U2,s.log,Nat.zero_le _,rfl,H2.out.1,rfl,H2.out.2.1,H2.out.2.2⟩
 case round=>
  obtain⟨k,Ur,l,hk,rfl,hcl,hen,hrr,hch⟩:=hrel
  by_cases hlt:k<q
  ·have hkr:k<rs.length:=by rw[<- HQ.out];exact hlt
   obtain⟨l',g1,g2⟩:=endAll_at rs HE.out.1 k hkr l hen;have hll:=endAll_len _ hen
   obtain⟨g,rfl⟩:∃ g,B=some ⟨g,0,none⟩:=by
    obtain⟨A',c',e1,-,-,-,-,hA,ha⟩:=hrr.slice
    injection e1 with e1 _ _
    subst e1
    cases B with
    | none=>have:=(hA rfl).1;omega
    | some a=>
     obtain⟨b0,o0,s0⟩:=a;obtain⟨rfl,rfl,_⟩:=ha _ rfl;exact⟨b0,rfl⟩
   have hld:=Rw.load (P:=Tryz.prog) encR_len (by decide) (by have:=hrr;rw[HQ.out]at this;exact this) hkr (by kernel_rfl) (by kernel_rfl);generalize rs[k]=r at g1 hld;have HLd:=hid hld;obtain⟨W3,hst,hb3,hbl3,hsz3⟩:=store_fresh (P:=Tryz.prog) wr 57 #[.int .i64 0,.int .i64 0,.string ⟨#[]⟩,.int .i64 0,.string ⟨#[]⟩,.bool false] (encR r) (fun W=>by kernel_rfl) rfl (encR_one r);have HSt:=hid hst;have hc3:Chg (fun _=>False) wr Ur W3.drew (ext Ur wr y):=(Chg.of_below hbl3 _).drew;have hcl3:=hcl.keep hc3 fun _ h=>h.elim;have HB3:Hid (Has W3.drew (ext Ur wr y) y wr.heap.size 57 (encR r).toArray):=hid ⟨hb3.drewN 1,ext_new (Nat.le_refl _)⟩;have S3:Hid (CamS c L.log L.org wr.heap.size r W3.drew):=hid ⟨hcl3.blk.cell 29,hcl3.blk.cell 28,hb3.drewN 1⟩;have HNo:=hid (now91 W3.drew (ext Ur wr y) 84 L.org s.org hcl3.org);have HEn:=hid (endC108 W3.drew (ext Ur wr y) 85 L.log s.org.length r l l' hcl3.log (by have:=HT.out.2.2.1;omega) g1);have HX:=hid (And.intro hcl3 (And.intro (hrr.keep hc3 id) (hch.trans (hc3.mono fun _ h=>h.elim))));have HG:=hid g2
   have k1:(k:Int)<(q:Int):=by omega
   have k2:(0:Int)<=(k:Int):=by omega
   have k3:(k:Int)<=900:=by have:=HT.out.2.2.2.1;omega
   clear hcl hen hrr hch g1 g2 hll hst hb3 hbl3 hsz3 hc3 hcl3 hld c1
   go_wp2_with (first|(refine wpl_lq 57 _ rfl ?_;refine lq 57 _ _ _ rfl (by kernel_rfl) HLd.out ?_)|(refine wpl_sq 57 _ _ rfl rfl ?_;refine sq 57 _ _ _ _ W3 rfl rfl (by kernel_rfl) HSt.out ?_))
   refine wp_region_hl [9] [0,1,2,3,4,5,6,7,8,9] (CamS c L.log L.org wr.heap.size r) (by kernel_rfl) (by kernel_rfl) S3.out ?_
   iterate 4 (refine hd_take (v:=?_) rfl rfl (by kernel_rfl) (fun W hW=>?_) ?_;rotate_left;(obtain⟨r0,r1,-⟩:=hW;first|(go_simp;done)|(go_simp;with_reducible rfl)))
   refine hd_load 57 _ rfl rfl (by kernel_rfl) rfl _ _ rfl (fun W hW=>load_blk (by kernel_rfl) (by kernel_rfl) hW.2.2) ?_
   iterate 4 (refine hd_take (v:=?_) rfl rfl (by kernel_rfl) (fun W hW=>?_) ?_;rotate_left;(obtain⟨r0,r1,-⟩:=hW;first|(go_simp;done)|(go_simp;with_reducible rfl)))
   refine hd_loud rfl rfl fun K hK=>?_;go_simp;refine HNo.out.mono ?_;rintro e w4 ⟨rfl,rfl⟩;refine hK _ _ S3.out (hd_end ?_);clear hK;simp only[zqa,zqb,zqc,zqd,Nat.zero_add,Nat.reduceAdd]
   go_wp2_with (go_at_call 108;fail)
   refine HEn.out.mono ?_;rintro e w5 ⟨rfl,hl5,hc5⟩;have HF:=hid (And.intro (HX.out.1.setLog hl5 hc5 (by rintro x (e|e) <;> omega)) (And.intro (HX.out.2.1.keep hc5 (by have:=HT.out.1;show ¬ (tr=85\/tr=85+96);omega)) (HX.out.2.2.trans (hc5.mono (T':=CT) (by rintro x (e|e) <;> (unfold CT;omega))))));clear hl5 hc5
   go_wp2
   go_roundw
   case rel=>exact⟨k+1,_,l',by omega,by go_num,HF.out.1,HG.out,HF.out.2.1,HF.out.2.2⟩
   case measure=>simp[intOf];omega
  ·obtain rfl:k=q:=by omega
   rw[List.take_of_length_le (by rw[HQ.out];exact Nat.le_refl _),HE.out.1]at hen
   injection hen with hen
   subst hen;have HF:=hid (And.intro hcl hch);clear hcl hrr hch c1
   go_wp2
   refine bodyPost_end (by first|rfl|(simp[results];rfl)) rfl ?_;refine⟨⟨_,rfl⟩,Ur,?_,HF.out.2⟩;rw[<- HE.out.2];exact HF.out.1
def PNode.clear (p:PNode):PNode:={ p with ms:=[],rs:=[] }
def PCl.back? (s:PCl)(i:Nat)(p:PNode):Option PCl:=if p.ms.all fun m=>m.members.isEmpty then (s.setNode i p.clear).came? p.ms p.rs else none
abbrev NC (i:Nat):Nat->Prop:=NT (16*(i-1)) (16*(i-1)+10)
theorem NC.ct {i x:Nat}(h5:i<=5)(h:NC i x):CT x:=by unfold NC NT ST at h;unfold CT;omega
theorem far_nc {i:Nat}(h5:i<=5):Far (16*(i-1)) (16*(i-1)+10):=by unfold Far;omega
theorem back82 {w w':World}{U U':Own}{c i:Nat}{L:CL}{s s':PCl}{p:PNode}{v:Value}(H:CluAt w U c L s)(h1:1<=i)(h5:i<=s.n)(ho:OutIs w' U' (16*(i-1)) (16*(i-1)+10) (L.nd i) (L.dv i) (L.ck i) i v p)(hc:Chg (NC i) w U w' U')(ha:s.back? i p=some s') :
 Calls Tryz.prog 82 #[ptr c,v] w' fun e w2=>(∃ r,e=.returned r)/\∃ U2,CluAt w2 U2 c L s'/\Chg CT w U w2 U2:=by
 have hn:=H.n5;unfold PCl.back? at ha
 split at ha
 case isFalse=>cases ha
 rename_i hall;obtain⟨mv,pv,h,rfl,hN,hm,hr⟩:=ho.ex
 have hm':∀ m∈p.ms,m.members=[]:=fun m hx=>by have:=List.all_eq_true.1 hall m hx;exact List.isEmpty_iff.1 this
 refine(came82 w' U' c L (s.setNode i p.clear) s' (H.setN h1 h5 (p:=p.clear) hN rfl rfl hc fun _ h=>h) _ _ mv pv p.ms p.rs (Msgs.of_nrw hm hm') hr (by omega) (by omega) ha).mono ?_;rintro e w2 ⟨hr,U2,h2,hc2⟩;exact⟨hr,U2,h2,(hc.mono fun x hx=>NC.ct (by omega) hx).trans hc2⟩
theorem CluAt.fits {w w':World}{U U':Own}{c i:Nat}{L:CL}{s:PCl}{T:Nat->Prop}(H:CluAt w U c L s)(h1:1<=i){p:PNode}(hp:s.nodes[i-1]? = some p)(hc:Chg T w U w' U')(hT:∀ x,T x->¬ CT x):∃ h,NodeAt w' U' (16*(i-1)) (16*(i-1)+10) (L.nd i) (L.dv i) (L.ck i) i p h:=by
 obtain⟨a,b,h,hN⟩:=(H.keep hc hT).node i p h1 hp;exact⟨h,hN⟩
theorem not_nc_ck {i:Nat}(h5:i<=5):¬ NC i (16*(i-1)+11):=by unfold NC NT ST;omega
theorem not_nc_y {i y:Nat}(h5:i<=5)(hy:87<=y%96):¬ NC i y:=by unfold NC NT ST;omega
def PCl.hear? (s:PCl)(m:PMsg):Option PCl:=
 if s.small && m.okB then
  if m.dst=0 then
   if decide (m.kind=1) && decide (1<=m.src) && decide (m.src<=s.n) && decide (s.net.length+1<300) && (grantM s.n 2 m.src m.tick).okB && s.cks[0]?.isSome then some { s with net:=s.net++[grantM s.n 2 m.src m.tick] } else none
  else match s.nodes[m.dst-1]?,s.cks[m.dst]? with
   | some p,some k=>match p.step? m.dst k m with
    | some p'=>s.back? m.dst p'
    | none=>none
   | _,_=>none
 else none
def HrS (c:Nat)(a b:Value)(g:Nat)(m:PMsg)(vm:Value)(W:World):Prop:=W.cell? ⟨c,27,none⟩=some a/\W.cell? ⟨c,0,none⟩=some b/\Blk W g 182 (msgV m vm).toArray
def HrT (c i:Nat)(a:Value)(g:Nat)(m:PMsg)(vm:Value)(W:World):Prop:=W.cell? ⟨c,3+i,none⟩=some a/\W.cell? ⟨g,2,none⟩=some (.int .i64 (i:Int))/\Blk W g 182 (msgV m vm).toArray
theorem hears86 (w:World)(U:Own)(c:Nat)(L:CL)(s s':PCl)(H:CluAt w U c L s)(tm:Nat)(m:PMsg)(vm:Value)(hm:Rw w U tm 3 1 vm m.members.length (nnums m.members))(htm:87<=tm%96)(ha:s.hear? m=some s') :
 Calls Tryz.prog 86 #[ptr c,.agg (msgV m vm).toArray] w fun e w'=>(∃ r,e=.returned r)/\∃ U',CluAt w' U' c L s'/\Chg CT w U w' U':=by
 unfold PCl.hear? at ha
 split at ha
 case isFalse=>cases ha
 rename_i hg;simp only[Bool.and_eq_true]at hg;have hok:=PMsg.okB_ok hg.2;obtain⟨y,hy1,hy2⟩:=fresh95 w U;obtain⟨W1,hW1⟩:∃ W,W=w.alloc (.cells (msgV m vm).toArray 182):=⟨_,rfl⟩
 have hc1:Chg (fun _=>False) w U W1 (ext U w y):=by rw[hW1];exact((Chg.refl _ _ _).alloc _).ext _
 have hO1:Has W1 (ext U w y) y w.heap.size 182 (msgV m vm).toArray:=⟨by rw[hW1];exact Blk.new _ _ _,ext_new (Nat.le_refl _)⟩;have H1:=H.keep hc1 fun _ h=>h.elim;have hm1:=hm.keep hc1 id;generalize ext U w y=U1 at hc1 hO1 H1 hm1;have hcd:Chg (fun _=>False) W1 U1 W1.drew U1:=(Chg.refl _ _ _).drew;have Hd:=H1.keep hcd fun _ h=>h.elim;have hOd:=hO1.keep hcd id;have hmd:=hm1.keep hcd id;have hccd:=hc1.trans hcd;have b2:W1.cell? ⟨w.heap.size,2,none⟩=some (.int .i64 (m.dst:Int)):=hO1.cell 2;have HW1:=hid hW1;have hn1:=H.n1;have hn5:=H.n5
 split at ha
 ·rename_i hd
  split at ha
  case isFalse=>cases ha
  rename_i hcond;simp only[Bool.and_eq_true,decide_eq_true_eq]at hcond;obtain⟨⟨⟨⟨⟨hk,hs1⟩,hs2⟩,hnl⟩,hgo⟩,hck⟩:=hcond;obtain⟨k0,hk0⟩:=Option.isSome_iff_exists.1 hck
  injection ha with ha
  have S1:Hid (HrS c (ptr L.net) (ptr L.ctl) w.heap.size m vm W1.drew):=hid ⟨Hd.blk.cell 27,Hd.blk.cell 0,hOd.blk⟩;have HSt:=hid (step115 W1.drew U1 80 81 L.ctl L.cc s.n k0 Hd.ctl (Hd.ck0 k0 hk0) hn1 hn5 (by decide) m vm (by simp[upto];omega) hok hmd.nms hd hk);have HX:=hid (And.intro Hd (And.intro hOd (And.intro hccd (And.intro hy1 (And.intro hnl hgo)))));have HA:=hid ha
  have b2':W1.cell? ⟨w.heap.size,2,none⟩=some (.int .i64 0):=by rw[b2,hd];rfl
  clear H hm htm ha hg hok hy1 hy2 hW1 hc1 hO1 H1 hm1 hcd Hd hOd hmd hccd b2 hd hk hs1 hs2 hnl hgo hck hk0 hn1 hn5;go_enter Tryz.func86,Tryz.ntmps86
  go_wp2_with (first|rw[<- HW1.out]|fail)
  refine wp_region_hl [9] [0,1,2,3,4,5,6,7,8,9] (HrS c (ptr L.net) (ptr L.ctl) w.heap.size m vm) (by kernel_rfl) (by kernel_rfl) S1.out ?_
  iterate 8 (refine hd_take (v:=?_) rfl rfl (by kernel_rfl) (fun W hW=>?_) ?_;rotate_left;(obtain⟨r0,r1,-⟩:=hW;first|(go_simp;done)|(go_simp;with_reducible rfl)))
  refine hd_load 182 (.tmp 3) rfl rfl (by kernel_rfl) rfl (.pointer (some ⟨w.heap.size,0,none⟩)) (.agg (msgV m vm).toArray) (by go_simp) (fun W hW=>load_msg hW.2.2) ?_;refine hd_loud rfl rfl fun K hK=>?_;go_simp;refine HSt.out.mono ?_;rintro e w2 ⟨v2,U2,rfl,hm2,hc2,hch2⟩;have h2:=HX.out.1.setCtl hc2 hch2 (by rintro x (e|e) <;> omega);have hO2:=HX.out.2.1.keep hch2 (by have:=HX.out.2.2.2.1;show ¬ (y=80\/y=80+96);omega);have HSd:=hid (send80 w2 U2 83 (80+192) L.net v2 s.net [grantM s.n 2 m.src m.tick] h2.net hm2 (fun q hq=>by rw[List.mem_singleton.1 hq];exact PMsg.okB_ok HX.out.2.2.2.2.2) HX.out.2.2.2.2.1 (by show ¬ (80+192=83\/80+192=83+96\/80+192=83+192);decide) (by show ¬ (80+192+96=83\/80+192+96=83+96\/80+192+96=83+192);decide));have S2:Hid (HrS c (ptr L.net) (ptr L.ctl) w.heap.size m vm w2):=hid ⟨h2.blk.cell 27,h2.blk.cell 0,hO2.blk⟩;have HY:=hid (And.intro h2 ((HX.out.2.2.1.mono (T':=CT) fun _ h=>h.elim).trans (hch2.mono (T':=CT) (by rintro x (e|e) <;> (unfold CT;omega)))));clear hm2 hc2 hch2 h2 hO2 HSt;refine hK _ _ S2.out (hd_end ?_);clear hK;simp only[zqa,zqb,zqc,zqd,Nat.zero_add,Nat.reduceAdd]
  go_wp2_with (go_at_call 80;fail)
  refine HSd.out.mono ?_;rintro e w3 ⟨⟨v3,rfl⟩,U3,hn3,hc3⟩;have HF:=hid (And.intro (HY.out.1.setNet hn3 hc3 (by rintro x (e|e|e) <;> omega)) (HY.out.2.trans (hc3.mono (T':=CT) (by rintro x (e|e|e) <;> (unfold CT;omega)))));clear hn3 hc3
  go_wp2
  refine bodyPost_ret (by first|exact results_none rfl _ _ _|rfl) rfl ?_;refine⟨⟨_,rfl⟩,U3,?_,HF.out.2⟩;rw[<- HA.out];exact HF.out.1
 ·rename_i hd
  split at ha
  case h_2=>cases ha
  rename_i p k hp hk
  split at ha
  case h_2=>cases ha
  rename_i p' hp';have hpl:=(List.getElem?_eq_some_iff.1 hp).1;have hlen:=H.len;obtain⟨i,hi⟩:∃ i,i=m.dst:=⟨_,rfl⟩;rw[<- hi]at hp hk hp' ha hpl hd b2
  have hi1:1<=i:=by omega
  have hin:i<=s.n:=by omega
  obtain⟨h,hN⟩:=Hd.fits hi1 hp (Chg.refl (fun _=>False) W1.drew U1) (fun _ h=>h.elim);have HSt:=hid (step116 W1.drew U1 _ _ _ _ _ i _ k tm m vm p p' h hN (Hd.ck i k hi1 (by omega) hk) (far_nc (by omega)) (not_nc_ck (by omega)) hmd (not_nc_y (by omega) htm) hp');have hcell:=Hd.ndc hi1 (show i<=5 by omega);unfold ndV at hcell;rw[if_pos hin]at hcell;have S1:Hid (HrT c i (ptr (L.nd i)) w.heap.size m vm W1.drew):=hid ⟨hcell,by rw[hi];exact hOd.cell 2,hOd.blk⟩;have HX:=hid (And.intro Hd (And.intro hOd (And.intro (hccd.mono (T':=CT) fun _ h=>h.elim) (And.intro hy1 (And.intro hi1 (And.intro hin hn5))))));have HA:=hid ha
  have k1:(0:Int)<=(i:Int):=by omega
  have k2:(i:Int)<6:=by omega
  have k3:¬ ((i:Int)=0):=by omega
  have k4:((i:Int) == 0)=false:=by rw[beq_eq_false_iff_ne];omega
  have k5:i<6:=by omega
  clear H hm htm ha hg hok hy1 hy2 hW1 hc1 hO1 H1 hm1 hcd Hd hOd hmd hccd hd hp hk hp' hpl hlen hi hi1 hin hN hcell hn1 hn5;go_enter Tryz.func86,Tryz.ntmps86
  go_wp2_with (first|rw[<- HW1.out]|fail)
  refine wp_region_hl [9] [0,1,2,3,4,5,6,7,8,9] (HrT c i (ptr (L.nd i)) w.heap.size m vm) (by kernel_rfl) (by kernel_rfl) S1.out ?_
  iterate 8 (refine hd_take (v:=?_) rfl rfl (by kernel_rfl) (fun W hW=>?_) ?_;rotate_left;(obtain⟨r0,r1,-⟩:=hW;first|(go_simp;done)|(go_simp;with_reducible rfl)))
  refine hd_load 182 (.tmp 3) rfl rfl (by kernel_rfl) rfl (.pointer (some ⟨w.heap.size,0,none⟩)) (.agg (msgV m vm).toArray) (by go_simp) (fun W hW=>load_msg hW.2.2) ?_;refine hd_loud rfl rfl fun K hK=>?_;go_simp;refine HSt.out.mono ?_;rintro e w2 ⟨v2,U2,rfl,ho2,hc2⟩
  have S2:Hid (HrT c i (ptr (L.nd i)) w.heap.size m vm w2):=hid (by
   have hb:=HX.out.1.blk.keep hc2 (by have:=HX.out.2.2.2.2.2.2;have:=HX.out.2.2.2.2.2.1;unfold NT ST;omega);have ho:=HX.out.2.1.keep hc2 (not_nc_y (by have:=HX.out.2.2.2.2.2.2;have:=HX.out.2.2.2.2.2.1;omega) (by rw[HX.out.2.2.2.1];decide));have e1:=S1.out;refine⟨?_,?_,ho.blk⟩
   ·rw[hb.cell,<- HX.out.1.blk.cell];exact e1.1
   ·rw[ho.cell,<- HX.out.2.1.cell];exact e1.2.1)
  have HSd:=hid (back82 HX.out.1 HX.out.2.2.2.2.1 HX.out.2.2.2.2.2.1 ho2 hc2 HA.out);clear ho2 hc2 HSt;refine hK _ _ S2.out (hd_end ?_);clear hK;simp only[zqa,zqb,zqc,zqd,Nat.zero_add,Nat.reduceAdd]
  go_wp2_with (go_at_call 82;fail)
  refine HSd.out.mono ?_;rintro e w3 ⟨⟨v3,rfl⟩,U3,h3,hc3⟩;have HF:=hid (And.intro h3 (HX.out.2.2.1.trans hc3));clear h3 hc3
  go_wp2
  refine bodyPost_end (by first|rfl|(simp[results];rfl)) rfl ?_;exact⟨⟨_,rfl⟩,U3,HF.out.1,HF.out.2⟩
theorem beatNil (w:World):Calls Tryz.prog 83 #[.pointer none] w fun e w'=>e=.returned (.agg #[.slice none 0 0,.slice none 0 0])/\Below w.heap.size w w':=by
 have hbw:∀ W,W=(w.alloc (.cells #[.slice none 0 0,.slice none 0 0] 102))->Blk W w.heap.size 102 #[.slice none 0 0,.slice none 0 0]/\Below w.heap.size w W:=fun W hW=>by rw[hW];exact⟨Blk.new _ _ _,(Below.refl _ w).alloc (Nat.le_refl _) _⟩
 go_enter Tryz.func83,Tryz.ntmps83
 go_wp2
 refine bodyPost_ret (results_cell rfl _ _ _ ⟨w.heap.size,0,none⟩ (.agg #[.slice none 0 0,.slice none 0 0]) rfl ?_) rfl ?_
 ·exact loadVar_out (hbw _ rfl).1
 exact⟨rfl,(hbw _ rfl).2⟩
def PCl.tick? (s:PCl)(i:Nat):Option PCl:=
 if s.small && decide (i<=5) && decide (s.net.length<300) then
  match s.cks[i]? with
  | some k=>if k<1099511627776 then
   if i=0 then some { s with cks:=s.cks.set i (k+1) }
   else match s.nodes[i-1]? with
    | some p=>match p.beat? i (k+1) with
     | some p'=>({ s with cks:=s.cks.set i (k+1) }:PCl).back? i p'
     | none=>none
    | none=>some { s with cks:=s.cks.set i (k+1) }
   else none
  | none=>none
 else none
def TicS (c:Nat)(a b:Value)(W:World):Prop:=W.cell? ⟨c,27,none⟩=some a/\W.cell? ⟨c,0,none⟩=some b
theorem tick63 (w:World)(U:Own)(c:Nat)(L:CL)(s s':PCl)(H:CluAt w U c L s)(i:Nat)(ha:s.tick? i=some s') :
 Calls Tryz.prog 63 #[ptr c,.int .i64 (i:Int)] w fun e w'=>e=.returned (.int .i64 0)/\∃ U',CluAt w' U' c L s'/\Chg CT w U w' U':=by
 unfold PCl.tick? at ha
 split at ha
 case isFalse=>cases ha
 rename_i hg;simp only[PCl.small,Bool.and_eq_true,decide_eq_true_eq]at hg;obtain⟨⟨⟨ho,hlg⟩,hi5⟩,hnl⟩:=hg
 split at ha
 case h_2=>cases ha
 rename_i k hk
 split at ha
 case isFalse=>cases ha
 rename_i hkm;have hck:=H.clk hi5 hk;have HTk:=hid (tick79 w U (ckTag i) (ckPos L i) k hck hkm);have hn5:=H.n5
 split at ha
 ·rename_i h0
  subst h0
  injection ha with ha
  have HA:=hid ha;have HH:=hid H;have c2:w.cell? ⟨c,2,none⟩=some (ptr L.cc):=H.blk.cell 2;have HNL:=hid hnl;unfold ckTag ckPos at HTk;rw[if_pos rfl,if_pos rfl]at HTk;clear H ha ho hlg hi5 hnl hk hkm hck hn5;go_enter Tryz.func63,Tryz.ntmps63
  go_wp2_with (go_at_call 79;fail)
  refine HTk.out.mono ?_;rintro e w2 ⟨rfl,hk2,hc2⟩;have h2:=HH.out.setCk (i:=0) (by decide) hk2 hc2 (fun x h=>h);have hcd:Chg (fun _=>False) w2 U w2.drew U:=(Chg.refl _ _ _).drew;have hd:=h2.keep hcd fun _ h=>h.elim;have S1:Hid (TicS c (ptr L.net) (ptr L.ctl) w2.drew):=hid ⟨hd.blk.cell 27,hd.blk.cell 0⟩;have HB:=hid (beat81 w2.drew U 80 L.ctl L.cc s.n hd.ctl);have HSd:=hid (send80 w2.drew U 83 95 L.net (.slice none 0 0) s.net [] hd.net (Msgs.nil _ _ _) (fun _ h=>by cases h) (by simpa using HNL.out) (by show ¬ (95=83\/95=83+96\/95=83+192);decide) (by show ¬ (95+96=83\/95+96=83+96\/95+96=83+192);decide));have HX:=hid (And.intro hd ((hc2.mono (T':=CT) (by rintro x rfl;unfold CT;decide)).trans (hcd.mono fun _ h=>h.elim)));clear hk2 hc2 h2 hcd hd HTk HH
  go_wp2_with fail
  refine wp_region_hl [8] [0,1,2,3,4,5,6,7,8] (TicS c (ptr L.net) (ptr L.ctl)) (by kernel_rfl) (by kernel_rfl) S1.out ?_
  iterate 8 (refine hd_take (v:=?_) rfl rfl (by kernel_rfl) (fun W hW=>?_) ?_;rotate_left;(obtain⟨r0,r1⟩:=hW;first|(go_simp;done)|(go_simp;with_reducible rfl)))
  refine hd_loud rfl rfl fun K hK=>?_;go_simp;refine HB.out.mono ?_;rintro e w3 ⟨rfl,rfl⟩;refine hK _ _ S1.out (hd_end ?_);clear hK;simp only[zqa,zqb,zqc,zqd,Nat.zero_add,Nat.reduceAdd]
  go_wp2_with (go_at_call 80;fail)
  refine HSd.out.mono ?_;rintro e w3 ⟨⟨v3,rfl⟩,U3,hn3,hc3⟩;rw[List.append_nil]at hn3;have HF:=hid (And.intro (HX.out.1.setNet hn3 hc3 (by rintro x (e|e|e) <;> omega)) (HX.out.2.trans (hc3.mono (T':=CT) (by rintro x (e|e|e) <;> (unfold CT;omega)))));clear hn3 hc3
  go_wp2
  go_ret;refine⟨rfl,U3,?_,HF.out.2⟩;rw[<- HA.out];exact HF.out.1
 ·rename_i h0
  have hi1:1<=i:=by omega
  have c2:=H.ckc hi1 hi5;have HH:=hid H;have HI:=hid (And.intro hi1 (And.intro hi5 hn5))
  have k1:(0:Int)<=(i:Int):=by omega
  have k2:(i:Int)<6:=by omega
  have k3:¬ ((i:Int)=0):=by omega
  have k4:((i:Int) == 0)=false:=by rw[beq_eq_false_iff_ne];omega
  have k5:¬ ((i:Int)<0):=by omega
  have k6:¬ ((5:Int)<(i:Int)):=by omega
  have k7:i<6:=by omega
  -- what the node's call gives
  have hB:∀ w2 U2,CluAt w2 U2 c L { s with cks:=s.cks.set i (k+1) }->∃ nv,w2.cell? ⟨c,3+i,none⟩=some nv/\Calls Tryz.prog 83 #[nv] w2 fun e w3=>∃ v,e=.returned v/\Calls Tryz.prog 82 #[ptr c,v] w3 fun e w4=>(∃ r,e=.returned r)/\∃ U4,CluAt w4 U4 c L s'/\Chg CT w2 U2 w4 U4:=fun w2 U2 h2=>by
   refine⟨_,h2.ndc hi1 hi5,?_⟩;have hlen:=h2.len;dsimp only at hlen;unfold ndV
   split at ha
   ·rename_i p hp
    have hpl:=(List.getElem?_eq_some_iff.1 hp).1;rw[if_pos (show i<=s.n by omega)]
    split at ha
    case h_2=>cases ha
    rename_i p' hp';obtain⟨-,-,h,hN⟩:=h2.node i p hi1 hp;refine(beat83 w2 U2 _ _ _ _ _ i _ (k+1) p p' h hN (h2.ck i (k+1) hi1 hi5 (by dsimp only;rw[List.getElem?_set_self (by have:=H.clen;omega)])) (far_nc hi5) (not_nc_ck hi5) hp').mono ?_;rintro e w3 ⟨v,U3,rfl,ho3,hc3⟩;exact⟨v,rfl,back82 h2 hi1 (show i<=s.n by omega) ho3 hc3 ha⟩
   ·rename_i hp
    have hpl:=List.getElem?_eq_none_iff.1 hp;rw[if_neg (show ¬ i<=s.n by omega)]
    injection ha with ha
    refine(beatNil w2).mono ?_;rintro e w3 ⟨rfl,hb⟩;obtain⟨U3,h3,hc3⟩:=h2.below hb;refine⟨_,rfl,(came82 w3 U3 c L _ s' h3 95 95 (.slice none 0 0) (.slice none 0 0) [] [] (Msgs.nil _ _ _) (Rw.nil _ _ _ _ _) (by decide) (by decide) ?_).mono ?_⟩
    ·unfold PCl.came?
     rw[if_pos (by simp[PCl.small,ho,hlg,hnl])];rw[<- ha];simp[endAll?]
    ·rintro e w4 ⟨hr,U4,h4,hc4⟩
     exact⟨hr,U4,h4,(hc3.mono fun _ h=>h.elim).trans hc4⟩
  have HB:=hid hB;unfold ckTag ckPos at HTk;rw[if_neg h0,if_neg h0]at HTk;have h0':=hid h0;clear H ha ho hlg hnl hk hkm hck hn5 hB hi1 hi5 h0;go_enter Tryz.func63,Tryz.ntmps63
  go_wp2_with (go_at_call 79;fail)
  refine HTk.out.mono ?_;rintro e w2 ⟨rfl,hk2,hc2⟩;have h2:=HH.out.setCk (i:=i) HI.out.2.1 (by unfold ckTag ckPos;rw[if_neg h0'.out,if_neg h0'.out];exact hk2) hc2 (fun x h=>by unfold ckTag;rw[if_neg h0'.out];exact h);obtain⟨nv,hcell,hcall⟩:=HB.out w2 U h2;have HX:=hid (hc2.mono (T':=CT) (by have:=HI.out.2.1;rintro x rfl;unfold CT;omega));have HC:=hid hcall;clear hk2 hc2 h2 hcall HTk HH HB
  go_wp2_with (go_at_call 83;fail)
  refine HC.out.mono ?_;rintro e w3 ⟨v,rfl,hcall⟩;have HC2:=hid hcall;clear hcall HC
  go_wp2_with (go_at_call 82;fail)
  refine HC2.out.mono ?_;rintro e w4 ⟨⟨r,rfl⟩,U4,h4,hc4⟩;have HF:=hid (And.intro h4 (HX.out.trans hc4));clear h4 hc4
  go_wp2
  go_ret;exact⟨rfl,U4,HF.out.1,HF.out.2⟩
end Go.Proofs.Ytlhekbjidppijaa
