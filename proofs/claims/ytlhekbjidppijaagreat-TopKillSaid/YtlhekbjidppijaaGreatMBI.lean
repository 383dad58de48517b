/- Contracts of functions that the Top rows reach, and plain laws for them: what each returns and what it leaves in memory. Conditions: those that each theorem names. -/
import Derived.Test.YtlhekbjidppijaaGreatMBH
set_option linter.unusedVariables false
set_option linter.unusedSimpArgs false
namespace Go.Proofs.Ytlhekbjidppijaa
open Go.RowKit
theorem NodeAt.setReads2 {w w' W : World} {τ : Own} {ts n N d k i : Nat} {s : PNode} {h : Hd} {v : Value} {R : List PRead} (H : NodeAt w τ ts n N d k i s h) (hf : Far ts n) (hr : Rw w' τ (n + 192) 108 5 v R.length (R.flatMap encD)) (hc : Chg (· = n + 192) w τ w' τ) (hW : W = w'.setCell ⟨N,10,none⟩ v) :
 NodeAt W τ ts n N d k i { s with reads:=R } { h with rv:=v } /\ Chg (NN n) w τ W τ:=by
 have h3:=hf.1
 exact H.setReads hf hr (H.toks.keep hc (by omega)) (hc.mono fun _ h=>.inl h) hW
def PNode.read1 (s : PNode) (p : Nat) (r : PRead) (t : TkS) : PNode:={ s with reads:=s.reads.take p ++ s.reads.drop (p + 1),toks:=s.toks.set (r.tok - 1) ⟨t.key,t.good,true⟩ }
def PNode.setFs (s : PNode) (fs : FS) : PNode:={ s with fs:=fs }
def PNode.read? (s : PNode) (i now p : Nat) (val : ByteArray) (has : Bool) : Option PNode:=
 if s.small && decide (val.size <= 200) then
  match s.ring,s.reads[p]?,s.toks[(s.reads.getD p ⟨⟨0,0,0,⟨#[]⟩⟩,0⟩).tok - 1]? with
  | some ns,some r,some t=>
   if decide (1 <= r.tok) && !t.used && decide (r.w.key.size <= 1000) then
    if has then
     if t.good && servesF s i now ns r.w.key then
      if (FRec.entry r.w.key val false).ok then (fput 129 s.fs r.w.key val).map fun fs=>((s.read1 p r t).setFs fs).tell i r.w 0 val true else none
     else some ((s.read1 p r t).tell i r.w 0 val true)
    else some ((s.read1 p r t).tell i r.w 0 ⟨#[]⟩ false)
   else none
  | _,_,_=>none
 else none
def RnS (N T rb : Nat) (x : PRead) (W : World) : Prop:=W.cell? ⟨N,4,none⟩ = some (.pointer (some ⟨T,0,none⟩)) /\ W.cell? ⟨rb,4,none⟩ = some (.int .i64 (x.tok : Int))
def RdT (N S c rb : Nat) (x : PRead) (W : World) : Prop:=W.cell? ⟨N,0,none⟩ = some (.pointer (some ⟨S,0,none⟩)) /\ W.cell? ⟨S,0,none⟩ = some (.pointer (some ⟨c,0,none⟩)) /\ W.cell? ⟨rb,3,none⟩ = some (.string x.w.key)
structure RdA (w : World) (τ : Own) (ts n N d k i tk now ob rb y : Nat) (x : PRead) (s : PNode) (h : Hd) (W : World) (τ' : Own) : Prop where
 node : NodeAt W τ' ts n N d k i s h
 clk : ClockAt W τ' tk k now
 out : Has W τ' y ob 102 #[.slice none 0 0,.slice none 0 0]
 rd : Has W τ' y rb 108 (encD x).toArray
 chg : Chg (NT ts n) w τ W τ'
theorem RdA.step {w W W2 : World} {τ τ1 τ2 : Own} {ts n N d k i tk now ob rb y : Nat} {x : PRead} {s s2 : PNode} {h h2 : Hd} {T : Nat -> Prop} (A : RdA w τ ts n N d k i tk now ob rb y x s h W τ1) (H : NodeAt W2 τ2 ts n N d k i s2 h2) (hc : Chg T W τ1 W2 τ2) (h1 : ∀ x,T x -> NT ts n x) (h2' : ¬ NT ts n y) (h3 : ¬ NT ts n tk) : RdA w τ ts n N d k i tk now ob rb y x s2 h2 W2 τ2:=
 ⟨H,A.clk.keep hc fun h=>h3 (h1 _ h),A.out.keep hc fun h=>h2' (h1 _ h),A.rd.keep hc fun h=>h2' (h1 _ h),A.chg.trans (hc.mono h1)⟩
def RdC (W : World) (N ob rb S T : Nat) (x : PRead) : Prop:=W.cell? ⟨rb,0,none⟩ = some (.int .i64 (x.w.node : Int)) /\ W.cell? ⟨rb,1,none⟩ = some (.int .i64 (x.w.id : Int)) /\ W.cell? ⟨rb,2,none⟩ = some (.int .i64 (x.w.op : Int)) /\ W.cell? ⟨rb,3,none⟩ = some (.string x.w.key) /\ W.cell? ⟨rb,4,none⟩ = some (.int .i64 (x.tok : Int)) /\ W.cell? ⟨ob,0,none⟩ = some (.slice none 0 0) /\ W.cell? ⟨ob,1,none⟩ = some (.slice none 0 0) /\ W.cell? ⟨N,0,none⟩ = some (.pointer (some ⟨S,0,none⟩)) /\ W.cell? ⟨N,4,none⟩ = some (.pointer (some ⟨T,0,none⟩))
theorem RdA.cells {w W : World} {τ τ1 : Own} {ts n N d k i tk now ob rb y : Nat} {x : PRead} {s : PNode} {h : Hd} (A : RdA w τ ts n N d k i tk now ob rb y x s h W τ1) : RdC W N ob rb h.S h.T x:=by
 obtain ⟨mv,pv,hN,-,-⟩:=A.node.out.ex
 exact ⟨A.rd.cell 0,A.rd.cell 1,A.rd.cell 2,A.rd.cell 3,A.rd.cell 4,A.out.cell 0,A.out.cell 1,hN.cell 0,hN.cell 4⟩
theorem RdA.fin {w W w2 w3 : World} {τ τ1 τ2 : Own} {ts n N d k i tk now rb y A ca B cb : Nat} {x : PRead} {s s2 : PNode} {h h2 : Hd} : True:=trivial
set_option maxRecDepth 20000 in
set_option maxHeartbeats 4000000 in
theorem read88 (w : World) (τ : Own) (ts n N d k i tk now p : Nat) (val : ByteArray) (has : Bool) (s s' : PNode) (h : Hd) (H : NodeAt w τ ts n N d k i s h) (hk : ClockAt w τ tk k now) (hf : Far ts n) (htk : ¬ NT ts n tk) (ha : s.read? i now p val has = some s') :
 Calls Tryz.prog 88 #[.pointer (some ⟨N,0,none⟩),.int .i64 (p : Int),.string val,.bool has] w fun e w'=>∃ v τ',e = .returned v /\ OutIs w' τ' ts n N d k i v s' /\ Chg (NT ts n) w τ w' τ':=by
 unfold PNode.read? at ha
 split at ha
 case isFalse=>cases ha
 rename_i hg
 simp only [Bool.and_eq_true,decide_eq_true_eq] at hg
 obtain ⟨hsm,hvs⟩:=hg
 split at ha
 case h_2=>cases ha
 rename_i ns r t hring hr ht
 split at ha
 case isFalse=>cases ha
 rename_i hg
 simp only [Bool.and_eq_true,decide_eq_true_eq,Bool.not_eq_true'] at hg
 obtain ⟨⟨htok,hused⟩,hks⟩:=hg
 have HS:=Lib.hid (PNode.small_of hsm)
 have hp : p < s.reads.length:=(List.getElem?_eq_some_iff.1 hr).1
 have hrp : s.reads[p] = r:=(List.getElem?_eq_some_iff.1 hr).2
 have hrd : s.reads.getD p ⟨⟨0,0,0,⟨#[]⟩⟩,0⟩ = r:=by rw [List.getD_eq_getElem?_getD,hr];rfl
 rw [hrd] at ht
 have htl : r.tok - 1 < s.toks.length:=(List.getElem?_eq_some_iff.1 ht).1
 have htp : s.toks[r.tok - 1] = t:=(List.getElem?_eq_some_iff.1 ht).2
 obtain ⟨y,hy1,hy2⟩:=fresh95 w τ
 have hy : ¬ NT ts n y:=by obtain ⟨g1,g2,g3⟩:=hf;unfold NT ST;omega
 have HY:=Lib.hid hy
 have HF:=Lib.hid hf
 have HTK:=Lib.hid htk
 obtain ⟨W1,hW1⟩ : ∃ W,W = w.alloc (.cells #[.slice none 0 0,.slice none 0 0] 102):=⟨_,rfl⟩
 have hc1 : Chg (fun _=>False) w τ W1 (ext τ w y):=by rw [hW1];exact ((Chg.refl _ _ _).alloc _).ext _
 have hO1 : Has W1 (ext τ w y) y w.heap.size 102 #[.slice none 0 0,.slice none 0 0]:=⟨by rw [hW1];exact Blk.new _ _ _,ext_new (Nat.le_refl _)⟩
 generalize ext τ w y = τ1 at hc1 hO1
 obtain ⟨W2,hW2⟩ : ∃ W,W = W1.alloc (.cells (encD r).toArray 108):=⟨_,rfl⟩
 have hc2 : Chg (fun _=>False) W1 τ1 W2 (ext τ1 W1 y):=by rw [hW2];exact ((Chg.refl _ _ _).alloc _).ext _
 have hc12:=hc1.trans hc2
 have hA2 : RdA w τ ts n N d k i tk now w.heap.size W1.heap.size y r s h W2 (ext τ1 W1 y):=⟨H.keep hc12 hf.1 fun _ h=>h.elim,hk.keep hc12 (fun h=>h),hO1.keep hc2 (fun h=>h),⟨by rw [hW2];exact Blk.new _ _ _,ext_new (Nat.le_refl _)⟩,hc12.mono fun _ h=>h.elim⟩
 generalize ext τ1 W1 y = τ2 at hA2
 obtain ⟨A,c,hrv,-,-,-,hs,-,-⟩:=(H.reads.keep hc1 (fun h=>h)).slice
 obtain ⟨g,o,rfl,hcs⟩:=Sl.flat encD_len (by decide) hs p hp
 rw [hrp] at hcs
 have q0 : W1.cell? ⟨g,o + p * 5,none⟩ = some (.int .i64 (r.w.node : Int)):=hcs 0 _ rfl
 have q1 : W1.cell? ⟨g,o + p * 5 + 1,none⟩ = some (.int .i64 (r.w.id : Int)):=hcs 1 _ rfl
 have q2 : W1.cell? ⟨g,o + p * 5 + 2,none⟩ = some (.int .i64 (r.w.op : Int)):=hcs 2 _ rfl
 have q3 : W1.cell? ⟨g,o + p * 5 + 3,none⟩ = some (.string r.w.key):=hcs 3 _ rfl
 have q4 : W1.cell? ⟨g,o + p * 5 + 4,none⟩ = some (.int .i64 (r.tok : Int)):=hcs 4 _ rfl
 obtain ⟨mv1,pv1,hNb1,-,-⟩:=(H.keep hc1 hf.1 fun _ h=>h.elim).out.ex
 have d10 : W1.cell? ⟨N,10,none⟩ = some (.slice (some ⟨g,o,none⟩) s.reads.length c):=by rw [<- hrv];exact hNb1.cell 10
 obtain ⟨mv2,pv2,hNb2,-,-⟩:=hA2.node.out.ex
 have e10 : W2.cell? ⟨N,10,none⟩ = some (.slice (some ⟨g,o,none⟩) s.reads.length c):=by rw [<- hrv];exact hNb2.cell 10
 have k1 : ¬ ((p : Int) < 0):=by omega
 have k2 : ¬ ((s.reads.length : Int) <= (p : Int)):=by omega
 have k3 : (p : Int) < (s.reads.length : Int):=by omega
 have k4 : (0 : Int) <= (p : Int):=by omega
 have k5 : (p : Int) <= 1000:=by have:=HS.out.reads;omega
 have hr2 : Rw W2 τ2 (n + 192) 108 5 (.slice (some ⟨g,o,none⟩) s.reads.length c) s.reads.length (s.reads.flatMap encD):=by rw [<- hrv];exact hA2.node.reads
 have HD:=Lib.hid (del117 W2 τ2 (n + 192) _ s.reads.length p _ hr2 hp (by have:=HS.out.reads;omega) (flat_one encD_one _))
 have HR:=Lib.hid (And.intro hring (And.intro hr (And.intro ht (And.intro htok (And.intro hused hks)))))
 have HV:=Lib.hid hvs
 have HT : Hid (∃ h : r.tok - 1 < s.toks.length,s.toks[r.tok - 1] = t):=Lib.hid ⟨htl,htp⟩
 clear htp htl
 have HAs:=Lib.hid ha
 have HA2:=Lib.hid hA2
 have HW1:=Lib.hid hW1
 have HW2:=Lib.hid hW2
 unfold encD at HW2
 clear H hk hf htk ha hy hy1 hy2 hc1 hO1 hc2 hc12 hA2 hs hcs hrv hNb1 hNb2 hr2 hring hr ht htok hused hks hsm hvs hrp hrd hW1 hW2 hp
 go_enter Tryz.func88,Tryz.ntmps88
 go_wp2_with (first | rw [<- HW1.out] | rw [<- HW2.out] | (go_at_call 117;fail))
 refine HD.out.mono ?_
 rintro e w3 ⟨v3,rfl,hr3,hc3⟩
 obtain ⟨A3,c3,rfl,-⟩:=hr3.slice
 rw [flat_take encD_len,flat_drop encD_len,<- List.flatMap_append] at hr3
 obtain ⟨R,hR⟩ : ∃ R,R = s.reads.take p ++ s.reads.drop (p + 1):=⟨_,rfl⟩
 have hlen : s.reads.length - 1 = R.length:=by rw [hR];simp;omega
 rw [<- hR,hlen] at hr3
 rw [hlen]
 obtain ⟨W4,hW4⟩ : ∃ W,W = w3.setCell ⟨N,10,none⟩ (.slice A3 R.length c3):=⟨_,rfl⟩
 obtain ⟨hN4,hc4⟩:=HA2.out.node.setReads2 HF.out hr3 hc3 hW4
 obtain ⟨mv3,pv3,hNb3,-,-⟩:=HA2.out.node.out.ex
 have hn95:=HF.out.1
 have hNb3':=hNb3.keep hc3 (by omega)
 have f10 : w3.cell? ⟨N,10,none⟩ = some h.rv:=hNb3'.cell 10
 have g10:=hNb3'.frozen 10
 have hA4:=HA2.out.step hN4 hc4 (fun x hx=>.inr hx) HY.out HTK.out
 have hC4:=hA4.cells
 unfold RdC at hC4
 obtain ⟨r0,r1,r2,r3,r4,o0,o1,n0,n4⟩:=hC4
 have S4 : Hid (RnS N h.T W1.heap.size r W4.drew):=Lib.hid ⟨n4,r4⟩
 obtain ⟨htl,htp⟩:=HT.out
 have hTU:=tokUse W4.drew τ2 (n + 672) h.T s.toks (r.tok - 1) (hA4.node.toks.keep ((Chg.refl (fun _=>False) W4 τ2).drew) (fun h=>h)) htl (by rw [htp];exact HR.out.2.2.2.2.1)
 rw [show r.tok - 1 + 1 = r.tok by have:=HR.out.2.2.2.1;omega,htp] at hTU
 have HTU:=Lib.hid hTU
 have HA4:=Lib.hid hA4
 have HW4:=Lib.hid hW4
 have HRs:=Lib.hid hR
 clear htp htl
 clear hN4 hc4 hA4 hTU hNb3 hNb3' hr3 hc3 hW4 hR hlen HD HA2 q0 q1 q2 q3 q4 d10 e10
 cases has with
 | false=>
  have hs:=HAs.out
  rw [if_neg (by simp)] at hs
  injection hs with hs
  have HSEQ : Hid (s' = (s.read1 p r t).tell i r.w 0 ⟨#[]⟩ false):=Lib.hid hs.symm
  clear hs HAs
  go_wp2_with (first | rw [<- HW4.out] | fail)
  refine wp_region_hl [6] [0,1,2,3,4,5,6,7,8,9,10] (RnS N h.T W1.heap.size r) (by kernel_rfl) (by kernel_rfl) S4.out ?_
  iterate 6 (refine hd_take (v:=?_) rfl rfl (by kernel_rfl) (fun W hW=>?_) ?_;rotate_left;(obtain ⟨r0,r1⟩:=hW;first | (go_simp;done) | (go_simp;with_reducible rfl)))
  refine hd_loud rfl rfl fun K hK=>?_
  go_simp
  refine HTU.out.mono ?_
  rintro e w5 ⟨rfl,ht5,hc5⟩
  have hcd : Chg (fun x=>NT ts n x) W4 τ2 w5 τ2:=((Chg.refl (fun x=>NT ts n x) W4 τ2).drew).trans (hc5.mono fun x hx=>.inr (by omega))
  have hN5:=HA4.out.node.setToks HF.out ht5 (((Chg.refl _ W4 τ2).drew).trans hc5)
  have hA5:=HA4.out.step hN5 hcd (fun _ h=>h) HY.out HTK.out
  have hC5:=hA5.cells
  unfold RdC at hC5
  obtain ⟨r0,r1,r2,r3,r4,o0,o1,n0,n4⟩:=hC5
  have S5 : Hid (RnS N h.T W1.heap.size r w5):=Lib.hid ⟨n4,r4⟩
  have HA5:=Lib.hid hA5
  clear hcd hN5 hA5 ht5 hc5 HTU HA4 HW4
  refine hK _ _ S5.out ?_
  clear hK
  iterate 3 (refine hd_take (v:=?_) rfl rfl (by kernel_rfl) (fun W hW=>?_) ?_;rotate_left;(first | (go_simp;done) | (go_simp;with_reducible rfl)))
  refine hd_take (v:=?_) rfl rfl (by kernel_rfl) (fun W hW=>?_) (hd_end ?_)
  rotate_left
  ·first | (go_simp;done) | (go_simp;with_reducible rfl)
  simp only [List.length_cons,List.length_nil,List.drop_succ_cons,List.drop_zero,Nat.zero_add,Nat.reduceAdd]
  have HX5 : Hid (RdA w τ ts n N d k i tk now w.heap.size W1.heap.size y r (s.read1 p r t) _ w5 τ2):=Lib.hid (by
   have:=HA5.out
   rw [HRs.out] at this
   exact this)
  clear HA5
  generalize t.good = tg
  cases tg with
  | false=>
   have HTe:=Lib.hid (nodeTell w5 _ ts n N d k i _ _ HX5.out.node HF.out (by have:=HS.out.ms;simpa [PNode.read1,PNode.setFs] using (by omega : s.ms.length <= 1000)) (by have:=HS.out.rs;simpa [PNode.read1,PNode.setFs] using (by omega : s.rs.length <= 1000)) r.w 0 ⟨#[]⟩ false)
   unfold encW at HTe
   go_wp2_with (go_at_call 112;fail)
   refine HTe.out.mono ?_
   rintro e w6 ⟨⟨v6,rfl⟩,τ6,hn6,hc6⟩
   have hc6' : Chg (NT ts n) _ _ w6 τ6:=hc6.mono fun x hx=>.inr (by rcases hx with e | e | e <;> omega)
   have hA6:=HX5.out.step hn6 hc6' (fun _ h=>h) HY.out HTK.out
   have HDi:=Lib.hid (hn6.did HF.out)
   have HA6:=Lib.hid hA6
   clear hn6 hc6 hc6' hA6 HTe
   go_wp2_with (go_at_call 113;fail)
   refine HDi.out.mono ?_
   rintro e w7 ⟨A7,ca,B7,cb,rfl,ho7,hc7⟩
   have hc7' : Chg (NT ts n) _ _ w7 τ6:=hc7.mono fun x hx=>.inr (by omega)
   have hO7:=HA6.out.out.keep hc7' HY.out
   have u0 : w7.cell? ⟨w.heap.size,0,none⟩ = some (.slice none 0 0):=hO7.cell 0
   have u1 : w7.cell? ⟨w.heap.size,1,none⟩ = some (.slice none 0 0):=hO7.cell 1
   have p0:=hO7.frozen 0
   have p1:=hO7.frozen 1
   have HCC:=Lib.hid (HA6.out.chg.trans hc7')
   have HO7:=Lib.hid hO7
   have HOu:=Lib.hid ho7
   clear hc7 hc7' hO7 ho7 HDi
   generalize hl1 : List.length (PNode.ms _) = l1 at *
   generalize hl2 : List.length (PNode.rs _) = l2 at *
   have HB : Hid (∀ W,W = (w7.setCell ⟨w.heap.size,0,none⟩ (.slice A7 l1 ca)).setCell ⟨w.heap.size,1,none⟩ (.slice B7 l2 cb) -> Blk W w.heap.size 102 #[.slice A7 l1 ca,.slice B7 l2 cb] /\ OutIs W τ6 ts n N d k i (.agg #[.slice A7 l1 ca,.slice B7 l2 cb]) s' /\ Chg (NT ts n) w τ W τ6):=Lib.hid fun W hW=>by
    have hc8 : Chg (fun q=>q = y) w7 τ6 W τ6:=by rw [hW];exact ((Chg.refl _ _ _).setCell (p:=⟨w.heap.size,0,none⟩) HO7.out.own _).setCell (p:=⟨w.heap.size,1,none⟩) HO7.out.own _
    refine ⟨by rw [hW];exact ((HO7.out.set_ 0 (.slice A7 l1 ca)).set_ 1 (.slice B7 l2 cb)).blk,?_,?_⟩
    ·have:=HOu.out.keep hc8 HF.out.1 (fun x hx=>by rw [hx];exact HY.out)
     rw [HSEQ.out]
     exact this
    ·rw [hW]
     exact (HCC.out.setNew (p:=⟨w.heap.size,0,none⟩) (Nat.le_refl _) _).setNew (p:=⟨w.heap.size,1,none⟩) (Nat.le_refl _) _
   clear HOu HA6 hl1 hl2
   go_wp2
   refine bodyPost_ret (results_cell rfl _ _ _ ⟨w.heap.size,0,none⟩ (.agg #[.slice A7 l1 ca,.slice B7 l2 cb]) rfl ?_) rfl ?_
   ·exact loadVar_out (HB.out _ rfl).1
   exact ⟨_,τ6,rfl,(HB.out _ rfl).2⟩
  | true=>
   have HTe:=Lib.hid (nodeTell w5 _ ts n N d k i _ _ HX5.out.node HF.out (by have:=HS.out.ms;simpa [PNode.read1,PNode.setFs] using (by omega : s.ms.length <= 1000)) (by have:=HS.out.rs;simpa [PNode.read1,PNode.setFs] using (by omega : s.rs.length <= 1000)) r.w 0 ⟨#[]⟩ false)
   unfold encW at HTe
   go_wp2_with (go_at_call 112;fail)
   refine HTe.out.mono ?_
   rintro e w6 ⟨⟨v6,rfl⟩,τ6,hn6,hc6⟩
   have hc6' : Chg (NT ts n) _ _ w6 τ6:=hc6.mono fun x hx=>.inr (by rcases hx with e | e | e <;> omega)
   have hA6:=HX5.out.step hn6 hc6' (fun _ h=>h) HY.out HTK.out
   have HDi:=Lib.hid (hn6.did HF.out)
   have HA6:=Lib.hid hA6
   clear hn6 hc6 hc6' hA6 HTe
   go_wp2_with (go_at_call 113;fail)
   refine HDi.out.mono ?_
   rintro e w7 ⟨A7,ca,B7,cb,rfl,ho7,hc7⟩
   have hc7' : Chg (NT ts n) _ _ w7 τ6:=hc7.mono fun x hx=>.inr (by omega)
   have hO7:=HA6.out.out.keep hc7' HY.out
   have u0 : w7.cell? ⟨w.heap.size,0,none⟩ = some (.slice none 0 0):=hO7.cell 0
   have u1 : w7.cell? ⟨w.heap.size,1,none⟩ = some (.slice none 0 0):=hO7.cell 1
   have p0:=hO7.frozen 0
   have p1:=hO7.frozen 1
   have HCC:=Lib.hid (HA6.out.chg.trans hc7')
   have HO7:=Lib.hid hO7
   have HOu:=Lib.hid ho7
   clear hc7 hc7' hO7 ho7 HDi
   generalize hl1 : List.length (PNode.ms _) = l1 at *
   generalize hl2 : List.length (PNode.rs _) = l2 at *
   have HB : Hid (∀ W,W = (w7.setCell ⟨w.heap.size,0,none⟩ (.slice A7 l1 ca)).setCell ⟨w.heap.size,1,none⟩ (.slice B7 l2 cb) -> Blk W w.heap.size 102 #[.slice A7 l1 ca,.slice B7 l2 cb] /\ OutIs W τ6 ts n N d k i (.agg #[.slice A7 l1 ca,.slice B7 l2 cb]) s' /\ Chg (NT ts n) w τ W τ6):=Lib.hid fun W hW=>by
    have hc8 : Chg (fun q=>q = y) w7 τ6 W τ6:=by rw [hW];exact ((Chg.refl _ _ _).setCell (p:=⟨w.heap.size,0,none⟩) HO7.out.own _).setCell (p:=⟨w.heap.size,1,none⟩) HO7.out.own _
    refine ⟨by rw [hW];exact ((HO7.out.set_ 0 (.slice A7 l1 ca)).set_ 1 (.slice B7 l2 cb)).blk,?_,?_⟩
    ·have:=HOu.out.keep hc8 HF.out.1 (fun x hx=>by rw [hx];exact HY.out)
     rw [HSEQ.out]
     exact this
    ·rw [hW]
     exact (HCC.out.setNew (p:=⟨w.heap.size,0,none⟩) (Nat.le_refl _) _).setNew (p:=⟨w.heap.size,1,none⟩) (Nat.le_refl _) _
   clear HOu HA6 hl1 hl2
   go_wp2
   refine bodyPost_ret (results_cell rfl _ _ _ ⟨w.heap.size,0,none⟩ (.agg #[.slice A7 l1 ca,.slice B7 l2 cb]) rfl ?_) rfl ?_
   ·exact loadVar_out (HB.out _ rfl).1
   exact ⟨_,τ6,rfl,(HB.out _ rfl).2⟩
 | true=>
  have hs:=HAs.out
  rw [if_pos rfl] at hs
  have HAs2:=Lib.hid hs
  clear hs HAs
  have kv : (val.size : Int) <= 200:=by have:=HV.out;omega
  go_wp2_with (first | rw [<- HW4.out] | fail)
  refine wp_region_hl [6] [0,1,2,3,4,5,6,7,8,9,10] (RnS N h.T W1.heap.size r) (by kernel_rfl) (by kernel_rfl) S4.out ?_
  iterate 6 (refine hd_take (v:=?_) rfl rfl (by kernel_rfl) (fun W hW=>?_) ?_;rotate_left;(obtain ⟨r0,r1⟩:=hW;first | (go_simp;done) | (go_simp;with_reducible rfl)))
  refine hd_loud rfl rfl fun K hK=>?_
  go_simp
  refine HTU.out.mono ?_
  rintro e w5 ⟨rfl,ht5,hc5⟩
  have hcd : Chg (fun x=>NT ts n x) W4 τ2 w5 τ2:=((Chg.refl (fun x=>NT ts n x) W4 τ2).drew).trans (hc5.mono fun x hx=>.inr (by omega))
  have hN5:=HA4.out.node.setToks HF.out ht5 (((Chg.refl _ W4 τ2).drew).trans hc5)
  have hA5:=HA4.out.step hN5 hcd (fun _ h=>h) HY.out HTK.out
  have hC5:=hA5.cells
  unfold RdC at hC5
  obtain ⟨r0,r1,r2,r3,r4,o0,o1,n0,n4⟩:=hC5
  have S5 : Hid (RnS N h.T W1.heap.size r w5):=Lib.hid ⟨n4,r4⟩
  have HA5:=Lib.hid hA5
  clear hcd hN5 hA5 ht5 hc5 HTU HA4 HW4
  refine hK _ _ S5.out ?_
  clear hK
  iterate 3 (refine hd_take (v:=?_) rfl rfl (by kernel_rfl) (fun W hW=>?_) ?_;rotate_left;(first | (go_simp;done) | (go_simp;with_reducible rfl)))
  refine hd_take (v:=?_) rfl rfl (by kernel_rfl) (fun W hW=>?_) (hd_end ?_)
  rotate_left
  ·first | (go_simp;done) | (go_simp;with_reducible rfl)
  simp only [List.length_cons,List.length_nil,List.drop_succ_cons,List.drop_zero,Nat.zero_add,Nat.reduceAdd]
  have HX5 : Hid (RdA w τ ts n N d k i tk now w.heap.size W1.heap.size y r (s.read1 p r t) _ w5 τ2):=Lib.hid (by
   have:=HA5.out
   rw [HRs.out] at this
   exact this)
  clear HA5
  cases htg : t.good with
  | false=>
   have hs:=HAs2.out
   rw [if_neg (by rw [htg];simp)] at hs
   injection hs with hs
   have HSEQ : Hid (s' = (s.read1 p r t).tell i r.w 0 val true):=Lib.hid hs.symm
   clear hs HAs2 htg
   have HTe:=Lib.hid (nodeTell w5 _ ts n N d k i _ _ HX5.out.node HF.out (by have:=HS.out.ms;simpa [PNode.read1,PNode.setFs] using (by omega : s.ms.length <= 1000)) (by have:=HS.out.rs;simpa [PNode.read1,PNode.setFs] using (by omega : s.rs.length <= 1000)) r.w 0 val true)
   unfold encW at HTe
   go_wp2_with (go_at_call 112;fail)
   refine HTe.out.mono ?_
   rintro e w6 ⟨⟨v6,rfl⟩,τ6,hn6,hc6⟩
   have hc6' : Chg (NT ts n) _ _ w6 τ6:=hc6.mono fun x hx=>.inr (by rcases hx with e | e | e <;> omega)
   have hA6:=HX5.out.step hn6 hc6' (fun _ h=>h) HY.out HTK.out
   have HDi:=Lib.hid (hn6.did HF.out)
   have HA6:=Lib.hid hA6
   clear hn6 hc6 hc6' hA6 HTe
   go_wp2_with (go_at_call 113;fail)
   refine HDi.out.mono ?_
   rintro e w7 ⟨A7,ca,B7,cb,rfl,ho7,hc7⟩
   have hc7' : Chg (NT ts n) _ _ w7 τ6:=hc7.mono fun x hx=>.inr (by omega)
   have hO7:=HA6.out.out.keep hc7' HY.out
   have u0 : w7.cell? ⟨w.heap.size,0,none⟩ = some (.slice none 0 0):=hO7.cell 0
   have u1 : w7.cell? ⟨w.heap.size,1,none⟩ = some (.slice none 0 0):=hO7.cell 1
   have p0:=hO7.frozen 0
   have p1:=hO7.frozen 1
   have HCC:=Lib.hid (HA6.out.chg.trans hc7')
   have HO7:=Lib.hid hO7
   have HOu:=Lib.hid ho7
   clear hc7 hc7' hO7 ho7 HDi
   generalize hl1 : List.length (PNode.ms _) = l1 at *
   generalize hl2 : List.length (PNode.rs _) = l2 at *
   have HB : Hid (∀ W,W = (w7.setCell ⟨w.heap.size,0,none⟩ (.slice A7 l1 ca)).setCell ⟨w.heap.size,1,none⟩ (.slice B7 l2 cb) -> Blk W w.heap.size 102 #[.slice A7 l1 ca,.slice B7 l2 cb] /\ OutIs W τ6 ts n N d k i (.agg #[.slice A7 l1 ca,.slice B7 l2 cb]) s' /\ Chg (NT ts n) w τ W τ6):=Lib.hid fun W hW=>by
    have hc8 : Chg (fun q=>q = y) w7 τ6 W τ6:=by rw [hW];exact ((Chg.refl _ _ _).setCell (p:=⟨w.heap.size,0,none⟩) HO7.out.own _).setCell (p:=⟨w.heap.size,1,none⟩) HO7.out.own _
    refine ⟨by rw [hW];exact ((HO7.out.set_ 0 (.slice A7 l1 ca)).set_ 1 (.slice B7 l2 cb)).blk,?_,?_⟩
    ·have:=HOu.out.keep hc8 HF.out.1 (fun x hx=>by rw [hx];exact HY.out)
     rw [HSEQ.out]
     exact this
    ·rw [hW]
     exact (HCC.out.setNew (p:=⟨w.heap.size,0,none⟩) (Nat.le_refl _) _).setNew (p:=⟨w.heap.size,1,none⟩) (Nat.le_refl _) _
   clear HOu HA6 hl1 hl2
   go_wp2
   refine bodyPost_ret (results_cell rfl _ _ _ ⟨w.heap.size,0,none⟩ (.agg #[.slice A7 l1 ca,.slice B7 l2 cb]) rfl ?_) rfl ?_
   ·exact loadVar_out (HB.out _ rfl).1
   exact ⟨_,τ6,rfl,(HB.out _ rfl).2⟩
  | true=>
   have hsv:=serves33 w5 τ2 ts n N d k i tk now _ _ HX5.out.node HX5.out.clk ns HR.out.1 HS.out.f r.w.key HR.out.2.2.2.2.2 HF.out.1
   have HSV : Hid (Calls Tryz.prog 33 #[.pointer (some ⟨N,0,none⟩),.string r.w.key] w5 fun e w'=>e = .returned (.bool (servesF s i now ns r.w.key)) /\ Below w5.heap.size w5 w'):=Lib.hid hsv
   have HGd:=Lib.hid htg
   clear htg hsv
   go_wp2_with (go_at_call 33;fail)
   refine HSV.out.mono ?_
   rintro e w5b ⟨rfl,hb5⟩
   have hcb : Chg (fun _=>False) w5 τ2 w5b (ext τ2 w5 0):=Chg.of_below hb5 _
   have hAb:=HX5.out.step (HX5.out.node.keep hcb HF.out.1 fun _ h=>h.elim) hcb (fun _ h=>h.elim) HY.out HTK.out
   have hCb:=hAb.cells
   unfold RdC at hCb
   obtain ⟨r0,r1,r2,r3,r4,o0,o1,n0,n4⟩:=hCb
   generalize ext τ2 w5 0 = τ5 at hAb
   have HX6:=Lib.hid hAb
   clear hcb hAb hb5 HSV HX5
   cases hsv : servesF s i now ns r.w.key with
   | false=>
    have hs:=HAs2.out
    rw [if_neg (by rw [hsv];simp)] at hs
    injection hs with hs
    have HSEQ : Hid (s' = (s.read1 p r t).tell i r.w 0 val true):=Lib.hid hs.symm
    clear hs HAs2 hsv
    have HTe:=Lib.hid (nodeTell w5b _ ts n N d k i _ _ HX6.out.node HF.out (by have:=HS.out.ms;simpa [PNode.read1,PNode.setFs] using (by omega : s.ms.length <= 1000)) (by have:=HS.out.rs;simpa [PNode.read1,PNode.setFs] using (by omega : s.rs.length <= 1000)) r.w 0 val true)
    unfold encW at HTe
    go_wp2_with (go_at_call 112;fail)
    refine HTe.out.mono ?_
    rintro e w6 ⟨⟨v6,rfl⟩,τ6,hn6,hc6⟩
    have hc6' : Chg (NT ts n) _ _ w6 τ6:=hc6.mono fun x hx=>.inr (by rcases hx with e | e | e <;> omega)
    have hA6:=HX6.out.step hn6 hc6' (fun _ h=>h) HY.out HTK.out
    have HDi:=Lib.hid (hn6.did HF.out)
    have HA6:=Lib.hid hA6
    clear hn6 hc6 hc6' hA6 HTe
    go_wp2_with (go_at_call 113;fail)
    refine HDi.out.mono ?_
    rintro e w7 ⟨A7,ca,B7,cb,rfl,ho7,hc7⟩
    have hc7' : Chg (NT ts n) _ _ w7 τ6:=hc7.mono fun x hx=>.inr (by omega)
    have hO7:=HA6.out.out.keep hc7' HY.out
    have u0 : w7.cell? ⟨w.heap.size,0,none⟩ = some (.slice none 0 0):=hO7.cell 0
    have u1 : w7.cell? ⟨w.heap.size,1,none⟩ = some (.slice none 0 0):=hO7.cell 1
    have p0:=hO7.frozen 0
    have p1:=hO7.frozen 1
    have HCC:=Lib.hid (HA6.out.chg.trans hc7')
    have HO7:=Lib.hid hO7
    have HOu:=Lib.hid ho7
    clear hc7 hc7' hO7 ho7 HDi
    generalize hl1 : List.length (PNode.ms _) = l1 at *
    generalize hl2 : List.length (PNode.rs _) = l2 at *
    have HB : Hid (∀ W,W = (w7.setCell ⟨w.heap.size,0,none⟩ (.slice A7 l1 ca)).setCell ⟨w.heap.size,1,none⟩ (.slice B7 l2 cb) -> Blk W w.heap.size 102 #[.slice A7 l1 ca,.slice B7 l2 cb] /\ OutIs W τ6 ts n N d k i (.agg #[.slice A7 l1 ca,.slice B7 l2 cb]) s' /\ Chg (NT ts n) w τ W τ6):=Lib.hid fun W hW=>by
     have hc8 : Chg (fun q=>q = y) w7 τ6 W τ6:=by rw [hW];exact ((Chg.refl _ _ _).setCell (p:=⟨w.heap.size,0,none⟩) HO7.out.own _).setCell (p:=⟨w.heap.size,1,none⟩) HO7.out.own _
     refine ⟨by rw [hW];exact ((HO7.out.set_ 0 (.slice A7 l1 ca)).set_ 1 (.slice B7 l2 cb)).blk,?_,?_⟩
     ·have:=HOu.out.keep hc8 HF.out.1 (fun x hx=>by rw [hx];exact HY.out)
      rw [HSEQ.out]
      exact this
     ·rw [hW]
      exact (HCC.out.setNew (p:=⟨w.heap.size,0,none⟩) (Nat.le_refl _) _).setNew (p:=⟨w.heap.size,1,none⟩) (Nat.le_refl _) _
    clear HOu HA6 hl1 hl2
    go_wp2
    refine bodyPost_ret (results_cell rfl _ _ _ ⟨w.heap.size,0,none⟩ (.agg #[.slice A7 l1 ca,.slice B7 l2 cb]) rfl ?_) rfl ?_
    ·exact loadVar_out (HB.out _ rfl).1
    exact ⟨_,τ6,rfl,(HB.out _ rfl).2⟩
   | true=>
    have hs:=HAs2.out
    rw [if_pos (by rw [hsv,HGd.out];rfl)] at hs
    split at hs
    case isFalse=>cases hs
    rename_i hok
    obtain ⟨fs',hfs,hs⟩:=Option.map_eq_some_iff.1 hs
    have HSEQ : Hid (s' = ((s.read1 p r t).setFs fs').tell i r.w 0 val true):=Lib.hid hs.symm
    have HPU:=Lib.hid (And.intro hok hfs)
    clear hs HAs2 hsv hok hfs
    obtain ⟨cf,jf,kp,hSt,hFl,-,hDv,hfl,-⟩:=HX6.out.node.store.flash
    have hcd : Chg (fun _=>False) w5b τ5 w5b.drew τ5:=(Chg.refl _ _ _).drew
    have S6 : Hid (RdT N h.S cf W1.heap.size r w5b.drew):=Lib.hid ⟨n0,hSt.cell 0,r3⟩
    have HPt:=Lib.hid (put119 w5b.drew τ5 (ts + 6) (ts + 9) cf d 162 129 1200 s.fs fs' (fun _=>False) r.w.key val (hFl.quiet hcd) (hDv.keep hcd (fun h=>h)) (by have:=HF.out.2.1;omega) HPU.out.1 HPU.out.2)
    have HFL:=Lib.hid hfl
    clear hSt hFl hDv hfl hcd
    go_wp2_with fail
    refine wp_region_hl [] [0,1,2,3,4,5,6,7,8,9,10,11] (RdT N h.S cf W1.heap.size r) (by kernel_rfl) (by kernel_rfl) S6.out ?_
    iterate 11 (refine hd_take (v:=?_) rfl rfl (by kernel_rfl) (fun W hW=>?_) ?_;rotate_left;(obtain ⟨r0,r1,r2⟩:=hW;first | (go_simp;done) | (go_simp;with_reducible rfl)))
    refine hd_take (v:=?_) rfl rfl (by kernel_rfl) (fun W hW=>?_) (hd_end ?_)
    rotate_left
    ·obtain ⟨r0,r1,r2⟩:=hW;first | (go_simp;done) | (go_simp;with_reducible rfl)
    simp only [List.length_cons,List.length_nil,List.drop_succ_cons,List.drop_zero,Nat.zero_add,Nat.reduceAdd]
    go_wp2_with (go_at_call 119;fail)
    refine HPt.out.mono ?_
    rintro e w7p ⟨rfl,τ7,hf7,hd7,hc7p⟩
    have hcS : Chg (ST ts) w5b τ5 w7p τ7:=((Chg.refl _ w5b τ5).drew).trans (hc7p.mono fun x hx=>by unfold FT at hx;have:=HF.out.2.1;unfold ST;omega)
    have hcF : Chg (FT (ts + 6) (ts + 9)) w5b τ5 w7p τ7:=((Chg.refl _ w5b τ5).drew).trans hc7p
    have hN7:=HX6.out.node.setStore HF.out (HFL.out fs' w7p τ7 hf7 hd7 hcF) hcS
    have hA7:=HX6.out.step hN7 hcS (fun x hx=>.inl hx) HY.out HTK.out
    obtain ⟨cg,jg,kg,hSt,hFl,-,hDv,hfl,-⟩:=hA7.node.store.flash
    have hCb:=hA7.cells
    unfold RdC at hCb
    obtain ⟨r0,r1,r2,r3,r4,o0,o1,n0,n4⟩:=hCb
    have s0 : w7p.cell? ⟨h.S,0,none⟩ = some (.pointer (some ⟨cg,0,none⟩)):=hSt.cell 0
    have HFu:=Lib.hid (flush120 w7p τ7 (ts + 6) (ts + 9) cg d 162 129 1200 fs' (fun _=>False) hFl hDv (by have:=HF.out.2.1;omega))
    have HFL7:=Lib.hid hfl
    have HA7:=Lib.hid hA7
    clear hf7 hd7 hc7p hcS hcF hN7 hA7 hSt hFl hDv hfl HPt HFL HX6
    go_wp2_with (go_at_call 120;fail)
    refine HFu.out.mono ?_
    rintro e w8 ⟨rfl,hf8,hd8,hc8p⟩
    have hcS : Chg (ST ts) w7p τ7 w8 τ7:=hc8p.mono fun x hx=>by have:=HF.out.2.1;unfold ST;omega
    have hA8:=HA7.out.step (HA7.out.node.setStore HF.out (HFL7.out fs' w8 τ7 hf8 hd8 (hc8p.mono fun x hx=>.inr hx)) hcS) hcS (fun x hx=>.inl hx) HY.out HTK.out
    have hCb:=hA8.cells
    unfold RdC at hCb
    obtain ⟨r0,r1,r2,r3,r4,o0,o1,n0,n4⟩:=hCb
    have HX8 : Hid (RdA w τ ts n N d k i tk now w.heap.size W1.heap.size y r ((s.read1 p r t).setFs fs') _ w8 τ7):=Lib.hid hA8
    clear hf8 hd8 hc8p hcS hA8 HFu HFL7 HA7 s0
    have HTe:=Lib.hid (nodeTell w8 _ ts n N d k i _ _ HX8.out.node HF.out (by have:=HS.out.ms;simpa [PNode.read1,PNode.setFs] using (by omega : s.ms.length <= 1000)) (by have:=HS.out.rs;simpa [PNode.read1,PNode.setFs] using (by omega : s.rs.length <= 1000)) r.w 0 val true)
    unfold encW at HTe
    go_wp2_with (go_at_call 112;fail)
    refine HTe.out.mono ?_
    rintro e w6 ⟨⟨v6,rfl⟩,τ6,hn6,hc6⟩
    have hc6' : Chg (NT ts n) _ _ w6 τ6:=hc6.mono fun x hx=>.inr (by rcases hx with e | e | e <;> omega)
    have hA6:=HX8.out.step hn6 hc6' (fun _ h=>h) HY.out HTK.out
    have HDi:=Lib.hid (hn6.did HF.out)
    have HA6:=Lib.hid hA6
    clear hn6 hc6 hc6' hA6 HTe
    go_wp2_with (go_at_call 113;fail)
    refine HDi.out.mono ?_
    rintro e w7 ⟨A7,ca,B7,cb,rfl,ho7,hc7⟩
    have hc7' : Chg (NT ts n) _ _ w7 τ6:=hc7.mono fun x hx=>.inr (by omega)
    have hO7:=HA6.out.out.keep hc7' HY.out
    have u0 : w7.cell? ⟨w.heap.size,0,none⟩ = some (.slice none 0 0):=hO7.cell 0
    have u1 : w7.cell? ⟨w.heap.size,1,none⟩ = some (.slice none 0 0):=hO7.cell 1
    have p0:=hO7.frozen 0
    have p1:=hO7.frozen 1
    have HCC:=Lib.hid (HA6.out.chg.trans hc7')
    have HO7:=Lib.hid hO7
    have HOu:=Lib.hid ho7
    clear hc7 hc7' hO7 ho7 HDi
    generalize hl1 : List.length (PNode.ms _) = l1 at *
    generalize hl2 : List.length (PNode.rs _) = l2 at *
    have HB : Hid (∀ W,W = (w7.setCell ⟨w.heap.size,0,none⟩ (.slice A7 l1 ca)).setCell ⟨w.heap.size,1,none⟩ (.slice B7 l2 cb) -> Blk W w.heap.size 102 #[.slice A7 l1 ca,.slice B7 l2 cb] /\ OutIs W τ6 ts n N d k i (.agg #[.slice A7 l1 ca,.slice B7 l2 cb]) s' /\ Chg (NT ts n) w τ W τ6):=Lib.hid fun W hW=>by
     have hc8 : Chg (fun q=>q = y) w7 τ6 W τ6:=by rw [hW];exact ((Chg.refl _ _ _).setCell (p:=⟨w.heap.size,0,none⟩) HO7.out.own _).setCell (p:=⟨w.heap.size,1,none⟩) HO7.out.own _
     refine ⟨by rw [hW];exact ((HO7.out.set_ 0 (.slice A7 l1 ca)).set_ 1 (.slice B7 l2 cb)).blk,?_,?_⟩
     ·have:=HOu.out.keep hc8 HF.out.1 (fun x hx=>by rw [hx];exact HY.out)
      rw [HSEQ.out]
      exact this
     ·rw [hW]
      exact (HCC.out.setNew (p:=⟨w.heap.size,0,none⟩) (Nat.le_refl _) _).setNew (p:=⟨w.heap.size,1,none⟩) (Nat.le_refl _) _
    clear HOu HA6 hl1 hl2
    go_wp2
    refine bodyPost_ret (results_cell rfl _ _ _ ⟨w.heap.size,0,none⟩ (.agg #[.slice A7 l1 ca,.slice B7 l2 cb]) rfl ?_) rfl ?_
    ·exact loadVar_out (HB.out _ rfl).1
    exact ⟨_,τ6,rfl,(HB.out _ rfl).2⟩
end Go.Proofs.Ytlhekbjidppijaa
