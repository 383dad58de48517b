/- Contracts of functions that the Top rows reach, and plain laws for them: what each returns and what it leaves in memory. Conditions: those that each theorem names. -/
import Derived.Deep.DeepCutAuto
import Derived.Test.YtlhekbjidppijaaGreatMAB
import Derived.Test.YtlhekbjidppijaaGreatMAN
import Derived.Test.YtlhekbjidppijaaGreatMBL
set_option linter.unusedVariables false
set_option linter.unusedSimpArgs false
namespace Go.Proofs.Ytlhekbjidppijaa
open Go.RowKit
def PCl.new (n : Nat) : PCl:=⟨n,List.replicate n pn0,List.replicate 6 0,[],[],[]⟩
theorem PreAt.full {w : World} {τ : Own} {c n : Nat} {L : CL} (H : PreAt w τ c L n 5 n) (h1 : 1 <= n) (h5 : n <= 5) : CluAt w τ c L (PCl.new n):=by
 have hrep : ∀ i q,(List.replicate 6 0)[i]? = some q -> q = 0:=fun i q h=>by
  rw [List.getElem?_replicate] at h
  split at h
  ·injection h with h;exact h.symm
  ·cases h
 refine ⟨h1,h5,by simp [PCl.new],by simp [PCl.new],H.blk,H.ctl,fun q hq=>by rw [hrep 0 q hq];exact H.ck0,fun i p hi hp=>?_,fun i q hi1 hi5 hq=>by rw [hrep i q hq];exact H.ck i hi1 hi5,H.net,H.org,H.log⟩
 have hp' : (List.replicate n pn0)[i - 1]? = some p:=hp
 rw [List.getElem?_replicate] at hp'
 split at hp'
 ·injection hp' with hp'
  subst hp'
  exact ⟨rfl,rfl,H.node i hi (by omega)⟩
 ·cases hp'
theorem upto_get (n i : Nat) (h : i < n) : (nnums (upto n))[i]? = some (.int .i64 ((i + 1 : Nat) : Int)):=by
 rw [nnums_get _ _ (by simpa [upto] using h)]
 simp [upto]
 omega
def CL.setDv (L : CL) (i d k : Nat) : CL:={ L with dv:=fun q=>if q = i then d else L.dv q,ck:=fun q=>if q = i then k else L.ck q }
theorem preV_dv (L : CL) (i d k : Nat) (h1 : 1 <= i) (h5 : i <= 5) : (((preV L true (i - 1) 0).toArray.setIfInBounds (9 + i) (ptr d)).setIfInBounds (15 + i) (ptr k)) = (preV (L.setDv i d k) true i 0).toArray:=by
 obtain rfl | rfl | rfl | rfl | rfl : i = 1 \/ i = 2 \/ i = 3 \/ i = 4 \/ i = 5:=by omega
 all_goals rfl
theorem PreAt.dvck {w W : World} {τ τ' : Own} {c n i d k : Nat} {L : CL} (H : PreAt w τ c L n (i - 1) 0) (h1 : 1 <= i) (h5 : i <= 5) (hcc : Chg (· = 86) w τ W τ') (hb : Has W τ' 86 c 89 (((preV L true (i - 1) 0).toArray.setIfInBounds (9 + i) (ptr d)).setIfInBounds (15 + i) (ptr k))) (hD : DevAt W τ' (16 * (i - 1) + 9) d 1200 (fun _=>True)) (hK : ClockAt W τ' (16 * (i - 1) + 11) k 0) :
 PreAt W τ' c (L.setDv i d k) n i 0:=by
 refine ⟨?_,H.ctl.keep hcc (by omega) (by omega),H.ck0.keep hcc (by omega),fun q hq1 hq2=>?_,fun q hq1 hq2=>?_,fun q hq1 hq2=>absurd hq2 (by omega),H.net.keep hcc (by omega) (by omega) (by omega),H.org.keep hcc (by omega) (by omega),H.log.keep hcc (by omega) (by omega)⟩
 ·rw [preV_dv L i d k h1 h5] at hb
  exact hb
 ·by_cases he : q = i
  ·subst he
   have e : (L.setDv q d k).dv q = d:=by unfold CL.setDv;simp
   rw [e]
   exact hD
  ·have e : (L.setDv i d k).dv q = L.dv q:=by unfold CL.setDv;simp [he]
   rw [e]
   exact (H.dev q hq1 (by omega)).keep hcc (by omega)
 ·by_cases he : q = i
  ·subst he
   have e : (L.setDv q d k).ck q = k:=by unfold CL.setDv;simp
   rw [e]
   exact hK
  ·have e : (L.setDv i d k).ck q = L.ck q:=by unfold CL.setDv;simp [he]
   rw [e]
   exact (H.ck q hq1 (by omega)).keep hcc (by omega)
structure MkA (w : World) (τ : Own) (c : Nat) (cs : Array Value) (W : World) (τ' : Own) : Prop where
 blk : Has W τ' 86 c 89 cs
 chg : Chg (· = 86) w τ W τ'
theorem MkA.quiet {w W W2 : World} {τ τ1 τ2 : Own} {c : Nat} {cs : Array Value} (h : MkA w τ c cs W τ1) (hc : Chg (fun _=>False) W τ1 W2 τ2) : MkA w τ c cs W2 τ2:=⟨h.blk.keep hc id,h.chg.trans (hc.mono fun _ h=>h.elim)⟩
theorem MkA.set_ {w W : World} {τ τ1 : Own} {c : Nat} {cs : Array Value} (h : MkA w τ c cs W τ1) (i : Nat) (v : Value) : MkA w τ c (cs.setIfInBounds i v) (W.setCell ⟨c,i,none⟩ v) τ1:=⟨h.blk.set_ i v,h.chg.setCell (p:=⟨c,i,none⟩) h.blk.own v⟩
theorem PreAt.cells2 {w : World} {τ : Own} {c n i k : Nat} {L : CL} (H : PreAt w τ c L n k 0) (h1 : 1 <= i) (h5 : i <= 5) :
 (∃ v,w.cell? ⟨c,9 + i,none⟩ = some v) /\ (∃ v,w.cell? ⟨c,15 + i,none⟩ = some v):=by
 rw [H.blk.cell,H.blk.cell]
 obtain rfl | rfl | rfl | rfl | rfl : i = 1 \/ i = 2 \/ i = 3 \/ i = 4 \/ i = 5:=by omega
 all_goals exact ⟨⟨_,rfl⟩,⟨_,rfl⟩⟩
set_option maxRecDepth 20000 in
set_option maxHeartbeats 4000000 in
theorem new55 (w : World) (τ : Own) (n ca : Nat) (A : Option Addr) (hs : Sl w A (nnums (upto n))) (hA : ∀ a,A = some a -> a.block < w.heap.size /\ ¬ CT (τ a.block)) (h1 : 1 <= n) (h5 : n <= 5) :
 Calls Tryz.prog 55 #[.slice A n ca] w fun e w'=>∃ c L τ',e = .returned (ptr c) /\ CluAt w' τ' c L (PCl.new n) /\ Chg CT w τ w' τ':=by
 have HMy:=Lib.hid (may72 w A n ca (upto n) hs (upto_len n) (upto_ok n h1 h5))
 have HSl : Hid (∀ w' τ',Chg CT w τ w' τ' -> Sl w' A (nnums (upto n))):=Lib.hid fun w' τ' hc=>by
  obtain ⟨b,o,rfl,hcs⟩:=hs (by intro e;have:=congrArg List.length e;simp [nnums,upto] at this;omega)
  obtain ⟨a1,a2⟩:=hA _ rfl
  refine Sl.of_cells fun j u hu=>?_
  rw [add_none,<- hcs j u hu]
  exact World.cell?_of_block (a:=⟨b,o + j,none⟩) (hc.block b a1 a2)
 have HA:=Lib.hid hA
 have HN:=Lib.hid (And.intro h1 h5)
 have kn : (n : Int) <= 5:=by omega
 have HD0:=Lib.hid (new_any w τ 82 2 (by decide) (by decide))
 clear hs hA h1 h5
 go_enter Tryz.func55,Tryz.ntmps55
 go_wp2_with (first | (go_at_call 72;refine HMy.out.mono ?_;rintro e w' ⟨rfl,hw⟩;obtain rfl:=hw.symm) | (go_at_call 73;fail))
 refine HD0.out.mono ?_
 rintro e w1 ⟨d,rfl,hd1,hb1,hle1⟩
 have hc1 : Chg (fun _=>False) w τ w1 (ext τ w 82):=Chg.of_below hb1 _
 generalize ext τ w 82 = τ1 at hd1 hc1
 have HD1:=Lib.hid (And.intro hd1 hc1)
 clear hd1 hc1 hb1 hle1 HD0 HMy
 go_wp2_with (go_at_call 74;fail)
 refine (new74 w1 τ1 83).mono ?_
 rintro e w2 ⟨rfl,hn2,hb2⟩
 have hc2 : Chg (fun _=>False) w1 τ1 w2 (ext τ1 w1 83):=Chg.of_below hb2 _
 generalize ext τ1 w1 83 = τ2 at hn2 hc2
 have HD2:=Lib.hid (And.intro (HD1.out.1.keep hc2 id) (And.intro (HD1.out.2.trans hc2) hn2))
 clear hn2 hc2 hb2 HD1
 generalize w1.heap.size = nt at *
 go_wp2_with (go_at_call 75;fail)
 refine (new75 w2 τ2 84).mono ?_
 rintro e w3 ⟨O,rfl,ho3,hb3⟩
 have hc3 : Chg (fun _=>False) w2 τ2 w3 (ext τ2 w2 84):=Chg.of_below hb3 _
 generalize ext τ2 w2 84 = τ3 at ho3 hc3
 have HD3:=Lib.hid (And.intro (HD2.out.1.keep hc3 id) (And.intro (HD2.out.2.1.trans hc3) (And.intro (HD2.out.2.2.keep hc3 id id id) ho3)))
 clear ho3 hc3 hb3 HD2
 go_wp2_with (go_at_call 76;fail)
 refine (new76 w3 τ3 85).mono ?_
 rintro e w4 ⟨rfl,hl4,hb4⟩
 have hc4 : Chg (fun _=>False) w3 τ3 w4 (ext τ3 w3 85):=Chg.of_below hb4 _
 generalize ext τ3 w3 85 = τ4 at hl4 hc4
 have HD4:=Lib.hid (And.intro (HD3.out.1.keep hc4 id) (And.intro (HD3.out.2.1.trans hc4) (And.intro (HD3.out.2.2.1.keep hc4 id id id) (And.intro (HD3.out.2.2.2.keep hc4 id id) hl4))))
 clear hl4 hc4 hb4 HD3
 generalize w3.heap.size = lg at *
 go_wp2_with (go_at_call 77;fail)
 generalize hW5 : World.alloc _ _ = W5
 obtain ⟨L0,hL0⟩ : ∃ L0 : CL,L0 = ⟨0,d,0,fun _=>0,fun _=>0,fun _=>0,nt,O,lg⟩:=⟨_,rfl⟩
 have hblk : Blk W5 w4.heap.size 89 (preV L0 false 0 0).toArray:=by rw [<- hW5,hL0];exact Blk.new _ _ _
 have hc5 : Chg (fun _=>False) w4 τ4 W5 (ext τ4 w4 86):=by rw [<- hW5];exact ((Chg.refl _ _ _).alloc _).ext _
 have hh5 : Has W5 (ext τ4 w4 86) 86 w4.heap.size 89 (preV L0 false 0 0).toArray:=⟨hblk,ext_new (Nat.le_refl _)⟩
 generalize ext τ4 w4 86 = τ5 at hc5 hh5
 have HD5:=Lib.hid (And.intro (HD4.out.1.keep hc5 id) (And.intro (HD4.out.2.1.trans hc5) (And.intro (HD4.out.2.2.1.keep hc5 id id id) (And.intro (HD4.out.2.2.2.1.keep hc5 id id) (And.intro (HD4.out.2.2.2.2.keep hc5 id id) hh5)))))
 clear hblk hc5 hh5 hW5 HD4
 generalize w4.heap.size = c at *
 refine (make77 W5 τ5 80 81 82 d n HD5.out.1 A ca (HSl.out W5 τ5 (HD5.out.2.1.mono fun _ h=>h.elim)) (fun a ha=>Nat.lt_of_lt_of_le (HA.out a ha).1 HD5.out.2.1.size) HN.out.1 HN.out.2 (by decide) (by decide) (by decide) (by decide)).mono ?_
 rintro e w6 ⟨C,k,τ6,rfl,hC6,hk6,hc6,-⟩
 have hb6:=HD5.out.2.2.2.2.2.keep hc6 (by decide)
 obtain ⟨cs,cA,cc,cG,cl,ccc,hCb,-⟩:=hC6.ex
 have q0 : w6.cell? ⟨C,0,none⟩ = some (.pointer (some ⟨k,0,none⟩)):=hCb.cell 0
 have q1 : w6.cell? ⟨c,0,none⟩ = some (.pointer none):=hb6.cell 0
 have q2 : w6.cell? ⟨c,2,none⟩ = some (.pointer none):=hb6.cell 2
 have f1:=hb6.frozen 0
 have f2:=hb6.frozen 2
 obtain ⟨L1,hL1⟩ : ∃ L1 : CL,L1 = { L0 with ctl:=C,cc:=k }:=⟨_,rfl⟩
 have HPr : Hid (∀ W,W = (w6.setCell ⟨c,0,none⟩ (ptr C)).setCell ⟨c,2,none⟩ (ptr k) -> PreAt W τ6 c L1 n 0 0 /\ Chg CT w τ W τ6):=Lib.hid fun W hW=>by
  have hcw : Chg (· = 86) w6 τ6 W τ6:=by rw [hW];exact ((Chg.refl _ _ _).setCell (p:=⟨c,0,none⟩) hb6.own _).setCell (p:=⟨c,2,none⟩) hb6.own _
  have hcc : Chg (fun x=>x = 82 \/ x = 86) W5 τ5 W τ6:=(hc6.mono fun _ h=>.inl h).trans (hcw.mono fun _ h=>.inr h)
  refine ⟨⟨?_,?_,?_,fun i hi1 hi2=>absurd hi2 (by omega),fun i hi1 hi2=>absurd hi2 (by omega),fun i hi1 hi2=>absurd hi2 (by omega),?_,?_,?_⟩,(HD5.out.2.1.mono fun _ h=>h.elim).trans (hcc.mono fun x h=>by unfold CT;omega)⟩
  ·have:=(hb6.set_ 0 (ptr C)).set_ 2 (ptr k)
   rw [<- hW] at this
   rw [hL1]
   exact this
  ·rw [hL1];exact hC6.keep hcw (by decide) (by decide)
  ·rw [hL1];exact hk6.keep hcw (by decide)
  ·rw [hL1,hL0];exact HD5.out.2.2.1.keep hcc (by decide) (by decide) (by decide)
  ·rw [hL1,hL0];exact HD5.out.2.2.2.1.keep hcc (by decide) (by decide)
  ·rw [hL1,hL0];exact HD5.out.2.2.2.2.1.keep hcc (by decide) (by decide)
 clear hC6 hk6 hc6 hb6 hCb HD5 hL1 hL0
 go_wp2_with fail
 generalize hW7 : World.setCell _ _ _ = W7
 have H7:=Lib.hid (HPr.out W7 hW7.symm)
 clear hW7 HPr q0 q1 q2 f1 f2
 go_loopw [6] (fun v wr=>∃ (q : Nat) (τr : Own) (Lr : CL),1 <= q /\ q <= 6 /\ v = .int .i64 (q : Int) /\ PreAt wr τr c Lr n (q - 1) 0 /\ Chg CT w τ wr τr) (fun v _=>6 - (intOf v).toNat)
 case atStart=>exact ⟨1,τ6,L1,Nat.le_refl _,by omega,rfl,H7.out⟩
 case round=>
  obtain ⟨q,τr,Lr,hq1,hq6,rfl,hP,hC⟩:=hrel
  by_cases hq5 : q <= 5
  ·have k1 : (0 : Int) <= (q : Int):=by omega
   have k2 : (q : Int) < 6:=by omega
   have k3 : (q : Int) <= 5:=by omega
   have k4 : q < 6:=by omega
   have hcd : Chg (fun _=>False) wr τr wr.drew τr:=(Chg.refl _ _ _).drew
   have HMk : Hid (MkA wr τr c (preV Lr true (q - 1) 0).toArray wr.drew τr):=Lib.hid ⟨hP.blk.keep hcd id,hcd.mono fun _ h=>h.elim⟩
   have HFin : Hid (∀ W τx dd kk,MkA wr τr c (((preV Lr true (q - 1) 0).toArray.setIfInBounds (9 + q) (ptr dd)).setIfInBounds (15 + q) (ptr kk)) W τx -> DevAt W τx (16 * (q - 1) + 9) dd 1200 (fun _=>True) -> ClockAt W τx (16 * (q - 1) + 11) kk 0 -> ∃ τx Lx,PreAt W τx c Lx n q 0 /\ Chg CT w τ W τx):=Lib.hid fun W τx dd kk hm hd hk=>⟨τx,_,hP.dvck hq1 hq5 hm.chg hm.blk hd hk,hC.trans (hm.chg.mono fun x h=>by unfold CT;omega)⟩
   obtain ⟨⟨v9,hv9⟩,⟨v15,hv15⟩⟩:=hP.cells2 hq1 hq5
   have HV : Hid (∀ W τx cs,MkA wr τr c cs W τx -> (preV Lr true (q - 1) 0).toArray.size = cs.size -> (∃ v,W.cell? ⟨c,9 + q,none⟩ = some v) /\ (∃ v,W.cell? ⟨c,15 + q,none⟩ = some v) /\ W.frozen? ⟨c,9 + q,none⟩ = false /\ W.frozen? ⟨c,15 + q,none⟩ = false):=Lib.hid fun W τx cs hm hsz=>by
    have z : cs.size = 30:=hsz.symm
    exact ⟨⟨_,by rw [hm.blk.cell];exact Array.getElem?_eq_getElem (by omega)⟩,⟨_,by rw [hm.blk.cell];exact Array.getElem?_eq_getElem (by omega)⟩,hm.blk.frozen _,hm.blk.frozen _⟩
   have hlt : c < wr.heap.size:=hP.blk.lt
   clear hP hC hcd hv9 hv15
   go_wp2_with fail
   refine wp_region_pl (.take 0 (.take 1 (.take 2 (.take 3 (.take 5 (.take 7 (.take 8 (.take 11 (.take 12 (.two 4 (.take 9 (.two 6 (.one 10 .done) 10 (.one 6 .done))) 6 (.one 4 (.take 9 (.one 10 .done))))))))))))) (fun _=>True) (by kernel_rfl) (by kernel_rfl) trivial ?_
   generalize wr.drew = wd at *
   iterate 9 (refine pl_take (v:=?_) rfl (by kernel_rfl) (fun W hW=>?_) ?_;rotate_left;(first | (go_simp;done) | (go_simp;with_reducible rfl)))
   refine pl_two rfl rfl (fun K hK=>?_) (fun K hK=>?_)
   ·have HN:=Lib.hid (new_any wd τr (16 * (q - 1) + 9) 1200 (by decide) (by decide))
    go_simp
    refine HN.out.mono ?_
    rintro e w2 ⟨dd,rfl,hd2,hb2,-⟩
    have hc2 : Chg (fun _=>False) wd τr w2 (ext τr wd (16 * (q - 1) + 9)):=Chg.of_below hb2 _
    generalize ext τr wd (16 * (q - 1) + 9) = τ2 at hd2 hc2
    have HM2:=Lib.hid (And.intro (HMk.out.quiet hc2) hd2)
    clear hd2 hb2 hc2 HN HMk
    refine hK _ _ trivial ?_
    clear hK
    refine pl_take (v:=?_) rfl (by kernel_rfl) (fun W hW=>?_) ?_
    rotate_left
    ·first | (go_simp;done) | (go_simp;with_reducible rfl)
    refine pl_two rfl rfl (fun K hK=>?_) (fun K hK=>?_)
    ·go_simp
     refine hK _ _ trivial ?_
     clear hK
     generalize hW3 : World.alloc w2 _ = w3
     have hc3 : Chg (fun _=>False) w2 τ2 w3 (ext τ2 w2 (16 * (q - 1) + 11)):=by rw [<- hW3];exact ((Chg.refl _ _ _).alloc _).ext _
     have hk3 : ClockAt w3 (ext τ2 w2 (16 * (q - 1) + 11)) (16 * (q - 1) + 11) w2.heap.size 0:=⟨by rw [<- hW3];exact Blk.new _ _ _,ext_new (Nat.le_refl _)⟩
     generalize ext τ2 w2 (16 * (q - 1) + 11) = τ3 at hc3 hk3
     have HM3:=Lib.hid (And.intro (HM2.out.1.quiet hc3) (And.intro (HM2.out.2.keep hc3 id) hk3))
     clear hc3 hk3 hW3 HM2
     generalize w2.heap.size = kk at *
     obtain ⟨⟨v9,hv9⟩,-,hf9,-⟩:=HV.out w3 _ _ HM3.out.1 rfl
     refine pl_one rfl fun K hK=>?_
     go_simp
     refine hK _ _ trivial (pl_end ?_)
     clear hK hv9 hf9
     generalize hW4 : World.setCell w3 _ _ = w4
     have HM4 : Hid (MkA wr τr c ((preV Lr true (q - 1) 0).toArray.setIfInBounds (9 + q) (ptr dd)) w4 τ3 /\ DevAt w4 τ3 (16 * (q - 1) + 9) dd 1200 (fun _=>True) /\ ClockAt w4 τ3 (16 * (q - 1) + 11) kk 0):=Lib.hid (by
      have hc4 : Chg (· = 86) w3 τ3 w4 τ3:=by rw [<- hW4];exact (Chg.refl _ _ _).setCell (p:=⟨c,9 + q,none⟩) HM3.out.1.blk.own _
      exact ⟨by rw [<- hW4];exact HM3.out.1.set_ _ _,HM3.out.2.1.keep hc4 (by omega),HM3.out.2.2.keep hc4 (by omega)⟩)
     clear hW4 HM3
     obtain ⟨-,⟨v15,hv15⟩,-,hf15⟩:=HV.out w4 _ _ HM4.out.1 (by simp)
     simp only [Plan.len,List.drop_succ_cons,List.drop_zero,Nat.zero_add,Nat.reduceAdd]
     go_wp2_with fail
     generalize hWf : World.setCell w4 _ _ = Wf
     have hcf : Chg (· = 86) w4 τ3 Wf τ3:=by rw [<- hWf];exact (Chg.refl _ _ _).setCell (p:=⟨c,15 + q,none⟩) HM4.out.1.blk.own _
     obtain ⟨τx,Lx,hE⟩:=HFin.out Wf τ3 dd kk (by rw [<- hWf];exact HM4.out.1.set_ _ _) (HM4.out.2.1.keep hcf (by omega)) (HM4.out.2.2.keep hcf (by omega))
     have HE:=Lib.hid hE
     clear hE hcf hWf HM4 hv15 hf15 HFin HV
     go_roundw
     case rel=>exact ⟨q + 1,τx,Lx,by omega,by omega,by go_num,HE.out⟩
     case measure=>simp [intOf];omega
    ·obtain ⟨⟨v9,hv9⟩,-,hf9,-⟩:=HV.out w2 _ _ HM2.out.1 rfl
     go_simp
     refine hK _ _ trivial ?_
     clear hK hv9 hf9
     generalize hW3 : World.setCell w2 _ _ = w3
     have HM3 : Hid (MkA wr τr c ((preV Lr true (q - 1) 0).toArray.setIfInBounds (9 + q) (ptr dd)) w3 τ2 /\ DevAt w3 τ2 (16 * (q - 1) + 9) dd 1200 (fun _=>True)):=Lib.hid (by
      have hc3 : Chg (· = 86) w2 τ2 w3 τ2:=by rw [<- hW3];exact (Chg.refl _ _ _).setCell (p:=⟨c,9 + q,none⟩) HM2.out.1.blk.own _
      exact ⟨by rw [<- hW3];exact HM2.out.1.set_ _ _,HM2.out.2.keep hc3 (by omega)⟩)
     clear hW3 HM2
     refine pl_one rfl fun K hK=>?_
     go_simp
     refine hK _ _ trivial (pl_end ?_)
     clear hK
     generalize hW4 : World.alloc w3 _ = w4
     have hc4 : Chg (fun _=>False) w3 τ2 w4 (ext τ2 w3 (16 * (q - 1) + 11)):=by rw [<- hW4];exact ((Chg.refl _ _ _).alloc _).ext _
     have hk4 : ClockAt w4 (ext τ2 w3 (16 * (q - 1) + 11)) (16 * (q - 1) + 11) w3.heap.size 0:=⟨by rw [<- hW4];exact Blk.new _ _ _,ext_new (Nat.le_refl _)⟩
     generalize ext τ2 w3 (16 * (q - 1) + 11) = τ3 at hc4 hk4
     have HM4:=Lib.hid (And.intro (HM3.out.1.quiet hc4) (And.intro (HM3.out.2.keep hc4 id) hk4))
     clear hc4 hk4 hW4 HM3
     generalize w3.heap.size = kk at *
     obtain ⟨-,⟨v15,hv15⟩,-,hf15⟩:=HV.out w4 _ _ HM4.out.1 (by simp)
     simp only [Plan.len,List.drop_succ_cons,List.drop_zero,Nat.zero_add,Nat.reduceAdd]
     go_wp2_with fail
     generalize hWf : World.setCell w4 _ _ = Wf
     have hcf : Chg (· = 86) w4 τ3 Wf τ3:=by rw [<- hWf];exact (Chg.refl _ _ _).setCell (p:=⟨c,15 + q,none⟩) HM4.out.1.blk.own _
     obtain ⟨τx,Lx,hE⟩:=HFin.out Wf τ3 dd kk (by rw [<- hWf];exact HM4.out.1.set_ _ _) (HM4.out.2.1.keep hcf (by omega)) (HM4.out.2.2.keep hcf (by omega))
     have HE:=Lib.hid hE
     clear hE hcf hWf HM4 hv15 hf15 HFin HV
     go_roundw
     case rel=>exact ⟨q + 1,τx,Lx,by omega,by omega,by go_num,HE.out⟩
     case measure=>simp [intOf];omega
   ·go_simp
    refine hK _ _ trivial ?_
    clear hK
    generalize hW2 : World.alloc wd _ = w2
    have hc2 : Chg (fun _=>False) wd τr w2 (ext τr wd (16 * (q - 1) + 11)):=by rw [<- hW2];exact ((Chg.refl _ _ _).alloc _).ext _
    have hk2 : ClockAt w2 (ext τr wd (16 * (q - 1) + 11)) (16 * (q - 1) + 11) wd.heap.size 0:=⟨by rw [<- hW2];exact Blk.new _ _ _,ext_new (Nat.le_refl _)⟩
    generalize ext τr wd (16 * (q - 1) + 11) = τ2 at hc2 hk2
    have HM2:=Lib.hid (And.intro (HMk.out.quiet hc2) hk2)
    clear hc2 hk2 hW2 HMk
    generalize wd.heap.size = kk at *
    have HN:=Lib.hid (new_any w2 τ2 (16 * (q - 1) + 9) 1200 (by decide) (by decide))
    refine pl_one rfl fun K hK=>?_
    go_simp
    refine HN.out.mono ?_
    rintro e w3 ⟨dd,rfl,hd3,hb3,-⟩
    have hc3 : Chg (fun _=>False) w2 τ2 w3 (ext τ2 w2 (16 * (q - 1) + 9)):=Chg.of_below hb3 _
    generalize ext τ2 w2 (16 * (q - 1) + 9) = τ3 at hd3 hc3
    have HM3:=Lib.hid (And.intro (HM2.out.1.quiet hc3) (And.intro hd3 (HM2.out.2.keep hc3 id)))
    clear hd3 hb3 hc3 HN HM2
    refine hK _ _ trivial ?_
    clear hK
    refine pl_take (v:=?_) rfl (by kernel_rfl) (fun W hW=>?_) ?_
    rotate_left
    ·first | (go_simp;done) | (go_simp;with_reducible rfl)
    obtain ⟨⟨v9,hv9⟩,-,hf9,-⟩:=HV.out w3 _ _ HM3.out.1 rfl
    refine pl_one rfl fun K hK=>?_
    go_simp
    refine hK _ _ trivial (pl_end ?_)
    clear hK hv9 hf9
    generalize hW4 : World.setCell w3 _ _ = w4
    have HM4 : Hid (MkA wr τr c ((preV Lr true (q - 1) 0).toArray.setIfInBounds (9 + q) (ptr dd)) w4 τ3 /\ DevAt w4 τ3 (16 * (q - 1) + 9) dd 1200 (fun _=>True) /\ ClockAt w4 τ3 (16 * (q - 1) + 11) kk 0):=Lib.hid (by
     have hc4 : Chg (· = 86) w3 τ3 w4 τ3:=by rw [<- hW4];exact (Chg.refl _ _ _).setCell (p:=⟨c,9 + q,none⟩) HM3.out.1.blk.own _
     exact ⟨by rw [<- hW4];exact HM3.out.1.set_ _ _,HM3.out.2.1.keep hc4 (by omega),HM3.out.2.2.keep hc4 (by omega)⟩)
    clear hW4 HM3
    obtain ⟨-,⟨v15,hv15⟩,-,hf15⟩:=HV.out w4 _ _ HM4.out.1 (by simp)
    simp only [Plan.len,List.drop_succ_cons,List.drop_zero,Nat.zero_add,Nat.reduceAdd]
    go_wp2_with fail
    generalize hWf : World.setCell w4 _ _ = Wf
    have hcf : Chg (· = 86) w4 τ3 Wf τ3:=by rw [<- hWf];exact (Chg.refl _ _ _).setCell (p:=⟨c,15 + q,none⟩) HM4.out.1.blk.own _
    obtain ⟨τx,Lx,hE⟩:=HFin.out Wf τ3 dd kk (by rw [<- hWf];exact HM4.out.1.set_ _ _) (HM4.out.2.1.keep hcf (by omega)) (HM4.out.2.2.keep hcf (by omega))
    have HE:=Lib.hid hE
    clear hE hcf hWf HM4 hv15 hf15 HFin HV
    go_roundw
    case rel=>exact ⟨q + 1,τx,Lx,by omega,by omega,by go_num,HE.out⟩
    case measure=>simp [intOf];omega
  ·obtain rfl : q = 6:=by omega
   have HP:=Lib.hid (And.intro hP hC)
   clear hP hC H7
   go_wp2_with fail
   go_loopw [59] (fun v wr=>∃ (j : Nat) (τr : Own) (Lr : CL),j <= n /\ v = .int .i64 (j : Int) /\ PreAt wr τr c Lr n 5 j /\ Chg CT w τ wr τr) (fun v _=>n - (intOf v).toNat)
   case atStart=>exact ⟨0,τr,Lr,Nat.zero_le _,rfl,HP.out⟩
   case round=>
    obtain ⟨j,τs,Ls,hj,rfl,hP2,hC2⟩:=hrel
    by_cases hlt : j < n
    ·have k1 : (j : Int) < (n : Int):=by omega
     have k2 : (0 : Int) <= (j : Int):=by omega
     obtain ⟨b,o,hAe,hcs⟩:=HSl.out _ τs hC2 (by intro e;have:=congrArg List.length e;simp [nnums,upto] at this;omega)
     have hcj:=hcs j _ (upto_get n j hlt)
     have HSt:=Lib.hid (start78 _ τs c n (j + 1) Ls hP2 (by omega) (by have:=HN.out.2;omega))
     have HC2:=Lib.hid hC2
     subst hAe
     clear hP2 hC2 hcs HP
     go_wp2_with (go_at_call 78;fail)
     refine HSt.out.mono ?_
     rintro e w9 ⟨rfl,L9,τ9,hP9,hC9⟩
     have HE:=Lib.hid (And.intro hP9 (HC2.out.trans hC9))
     clear hP9 hC9
     go_wp2_with fail
     go_roundw
     case rel=>
      (repeat apply Exists.intro)
      exact ⟨⟨j + 1,τ9,L9,by omega,by go_num,HE.out⟩,rfl⟩
     case measure=>simp [intOf];omega
    ·obtain rfl : j = n:=by omega
     have HE:=Lib.hid (And.intro (hP2.full HN.out.1 HN.out.2) hC2)
     clear hP2 hC2 HP
     go_wp2_with fail
     go_ret
     exact ⟨c,Ls,τs,rfl,HE.out.1,HE.out.2⟩
end Go.Proofs.Ytlhekbjidppijaa
namespace Go.Proofs.Ytlhekbjidppijaa
open Go.RowKit
section
variable (w : World) (τ : Own) (c : Nat) (L : CL) (s : PCl) (H : CluAt w τ c L s)
include H
theorem log27 : Calls Tryz.prog 27 #[ptr c] w fun e w'=>e = .returned (ptr L.log) /\ w = w':=by
 have c9 : w.cell? ⟨c,29,none⟩ = some (ptr L.log):=H.blk.cell 29
 clear H
 go_enter Tryz.func27,Tryz.ntmps27
 go_wp2
 go_ret
 exact ⟨rfl,rfl⟩
theorem net35 : Calls Tryz.prog 35 #[ptr c] w fun e w'=>e = .returned (ptr L.net) /\ w = w':=by
 have c9 : w.cell? ⟨c,27,none⟩ = some (ptr L.net):=H.blk.cell 27
 clear H
 go_enter Tryz.func35,Tryz.ntmps35
 go_wp2
 go_ret
 exact ⟨rfl,rfl⟩
theorem org39 : Calls Tryz.prog 39 #[ptr c] w fun e w'=>e = .returned (ptr L.org) /\ w = w':=by
 have c9 : w.cell? ⟨c,28,none⟩ = some (ptr L.org):=H.blk.cell 28
 clear H
 go_enter Tryz.func39,Tryz.ntmps39
 go_wp2
 go_ret
 exact ⟨rfl,rfl⟩
theorem ctl71 : Calls Tryz.prog 71 #[ptr c] w fun e w'=>e = .returned (ptr L.ctl) /\ w = w':=by
 have c9 : w.cell? ⟨c,0,none⟩ = some (ptr L.ctl):=H.blk.cell 0
 clear H
 go_enter Tryz.func71,Tryz.ntmps71
 go_wp2
 go_ret
 exact ⟨rfl,rfl⟩
end
structure PW where
 c : PCl
 low : List Nat
structure WAt (w : World) (τ : Own) (x c : Nat) (L : CL) (s : PW) : Prop where
 clu : CluAt w τ c L s.c
 ex : ∃ v cs,Has w τ 87 x 48 cs /\ cs[0]? = some (ptr c) /\ cs[1]? = some v /\ Rw w τ 183 3 1 v s.low.length (nnums s.low)
def WX (x : Nat) : Prop:=x % 96 <= 87
theorem WAt.keep {T : Nat -> Prop} {w w' : World} {τ τ' : Own} {x c : Nat} {L : CL} {s : PW} (H : WAt w τ x c L s) (hc : Chg T w τ w' τ') (hT : ∀ x,T x -> ¬ WX x) : WAt w' τ' x c L s:=by
 obtain ⟨h1,v,cs,h2,h3,h4,h5⟩:=H
 exact ⟨h1.keep hc fun x hx hy=>hT x hx (by unfold CT at hy;unfold WX;omega),v,cs,h2.keep hc fun h=>hT _ h (by unfold WX;decide),h3,h4,h5.keep hc fun h=>hT _ h (by unfold WX;decide)⟩
theorem WAt.setC {w w' : World} {τ τ' : Own} {x c : Nat} {L : CL} {s : PW} {k : PCl} (H : WAt w τ x c L s) (hk : CluAt w' τ' c L k) (hc : Chg CT w τ w' τ') : WAt w' τ' x c L { s with c:=k }:=by
 obtain ⟨h1,v,cs,h2,h3,h4,h5⟩:=H
 exact ⟨hk,v,cs,h2.keep hc (by unfold CT;decide),h3,h4,h5.keep hc (by unfold CT;decide)⟩
theorem WAt.cells {w : World} {τ : Own} {x c : Nat} {L : CL} {s : PW} (H : WAt w τ x c L s) : w.cell? ⟨x,0,none⟩ = some (ptr c) /\ ∃ A ca,w.cell? ⟨x,1,none⟩ = some (.slice A s.low.length ca):=by
 obtain ⟨h1,v,cs,h2,h3,h4,h5⟩:=H
 obtain ⟨A,ca,rfl⟩:=h5.value
 exact ⟨(h2.cell 0).trans h3,A,ca,(h2.cell 1).trans h4⟩
def PW.new (n : Nat) : PW:=⟨PCl.new n,[]⟩
theorem WAt.newC {T : Nat -> Prop} {w : World} {τ : Own} {o1 o2 : Obj} : Chg T w τ ((w.alloc o1).alloc o2) (ext (ext τ w 94) (w.alloc o1) 87):=
 (((Chg.refl (fun _=>False) w τ).alloc _).ext 94 |>.trans (((Chg.refl (fun _=>False) _ _).alloc _).ext 87)).mono fun _ h=>h.elim
theorem WAt.new {w : World} {τ : Own} {c n : Nat} {L : CL} {o1 : Obj} {cs : Array Value} (H : CluAt w τ c L (PCl.new n)) (h0 : cs[0]? = some (ptr c)) (h1 : cs[1]? = some (.slice none 0 0)) :
 WAt ((w.alloc o1).alloc (.cells cs 48)) (ext (ext τ w 94) (w.alloc o1) 87) (w.heap.size + 1) c L (PW.new n):=by
 have hb:=Blk.new (w.alloc o1) 48 cs
 rw [World.size_alloc] at hb
 exact ⟨H.keep (WAt.newC (T:=fun _=>False)) (fun _ h=>h.elim),_,cs,⟨hb,ext_new (by rw [World.size_alloc];exact Nat.le_refl _)⟩,h0,h1,Rw.nil _ _ _ _ _⟩
set_option maxRecDepth 20000 in
set_option maxHeartbeats 1000000 in
theorem new38 (w : World) (τ : Own) (n ca : Nat) (A : Option Addr) (hs : Sl w A (nnums (upto n))) (hA : ∀ a,A = some a -> a.block < w.heap.size /\ ¬ CT (τ a.block)) (h1 : 1 <= n) (h5 : n <= 5) :
 Calls Tryz.prog 38 #[.slice A n ca] w fun e w'=>∃ x c L τ',e = .returned (ptr x) /\ WAt w' τ' x c L (PW.new n) /\ Chg CT w τ w' τ':=by
 have HN:=Lib.hid (new55 w τ n ca A hs hA h1 h5)
 clear hs hA
 go_enter Tryz.func38,Tryz.ntmps38
 go_wp2_with (go_at_call 55;fail)
 refine HN.out.mono ?_
 rintro e w1 ⟨c,L,τ1,rfl,hc1,hch⟩
 have H1:=Lib.hid (And.intro hc1 hch)
 clear hc1 hch HN
 go_wp2_with fail
 go_ret
 exact ⟨_,c,L,_,rfl,WAt.new H1.out.1 rfl rfl,H1.out.2.trans WAt.newC⟩
end Go.Proofs.Ytlhekbjidppijaa
