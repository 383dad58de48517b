/- Contracts of functions that the Top rows reach, and plain laws for them: what each returns and what it leaves in memory. Conditions: those that each theorem names. -/
import Derived.Test.YtlhekbjidppijaaGreatMBM
set_option linter.unusedVariables false
set_option linter.unusedSimpArgs false
namespace Go.Proofs.Ytlhekbjidppijaa
open Go.RowKit
def low1 (key : ByteArray) (lo : Nat) (x : PCall) : Nat:=if decide (x.op = 2) && decide (x.key = key) && x.done && decide (x.reply.err = 0) then max lo x.frm else lo
def lowOf (l : List PCall) (key : ByteArray) : Nat:=l.foldl (low1 key) 0
def PCl.ticks? (s : PCl) : List Nat -> Option PCl
 | []=>some s
 | a :: l=>match s.tick? a with
  | some s'=>s'.ticks? l
  | none=>none
def stepOk (fn : Nat) (key val : ByteArray) (on : Bool) : Bool:=decide (key.size <= 45) && decide (val.size <= 60) && (if fn = 6 then on else !on && decide (val.size = 0))
def PW.step? (s : PW) (fn a n : Nat) (key val : ByteArray) (on : Bool) : Option PW:=
 if stepOk fn key val on && decide (s.c.log.length <= 900) && decide (s.low.length <= 900) then
  if fn = 1 then (s.c.ticks? (List.range 6)).map fun c=>{ s with c:=c }
  else match s.c.step? fn a n key val on with
   | some c'=>if c'.log.length <= 1000 then some ⟨c',if c'.log.length = s.low.length + 1 then s.low ++ [if fn = 7 \/ fn = 8 then lowOf s.c.log key else 0] else s.low⟩ else none
   | none=>none
 else none
structure PsA (w : World) (τ : Own) (x c b y : Nat) (L : CL) (s : PW) (sv : List Value) (W : World) (τ' : Own) : Prop where
 wat : WAt W τ' x c L s
 stp : Has W τ' y b 39 sv.toArray
 chg : Chg WX w τ W τ'
theorem PsA.quiet {w W W2 : World} {τ τ1 τ2 : Own} {x c b y : Nat} {L : CL} {s : PW} {sv : List Value} (h : PsA w τ x c b y L s sv W τ1) (hc : Chg (fun _=>False) W τ1 W2 τ2) : PsA w τ x c b y L s sv W2 τ2:=
 ⟨h.wat.keep hc fun _ h=>h.elim,h.stp.keep hc id,h.chg.trans (hc.mono fun _ h=>h.elim)⟩
def PsT (x b : Nat) (pc : Value) (sv : List Value) (W : World) : Prop:=W.cell? ⟨x,0,none⟩ = some pc /\ Blk W b 39 sv.toArray
def PsS (b : Nat) (key val : ByteArray) (W : World) : Prop:=W.cell? ⟨b,3,none⟩ = some (.string key) /\ W.cell? ⟨b,4,none⟩ = some (.string val)
set_option maxRecDepth 20000 in
set_option maxHeartbeats 4000000 in
theorem step34 (w : World) (τ : Own) (x c : Nat) (L : CL) (s s' : PW) (H : WAt w τ x c L s) (fn a n : Nat) (key val : ByteArray) (on : Bool) (ha : s.step? fn a n key val on = some s') :
 Calls Tryz.prog 34 #[ptr x,.agg (stepV fn a n key val on).toArray] w fun e w'=>e = .returned (.int .i64 0) /\ ∃ τ',WAt w' τ' x c L s' /\ Chg WX w τ w' τ':=by
 unfold PW.step? at ha
 split at ha
 case isFalse=>cases ha
 rename_i hg
 simp only [stepOk,Bool.and_eq_true,decide_eq_true_eq] at hg
 obtain ⟨⟨⟨⟨hks,hvs⟩,hon⟩,hll⟩,hlw⟩:=hg
 have hon' : (fn = 6 /\ on = true) \/ (fn ≠ 6 /\ on = false /\ val = ⟨#[]⟩):=by
  split at hon
  ·exact .inl ⟨by assumption,hon⟩
  ·simp only [Bool.and_eq_true,Bool.not_eq_true',decide_eq_true_eq] at hon
   exact .inr ⟨by assumption,hon.1,size_zero hon.2⟩
 obtain ⟨y,hy1,hy2⟩:=fresh95 w τ
 obtain ⟨W1,hW1⟩ : ∃ W,W = w.alloc (.cells (stepV fn a n key val on).toArray 39):=⟨_,rfl⟩
 have hc1 : Chg (fun _=>False) w τ W1.drew (ext τ w y):=by rw [hW1];exact (((Chg.refl _ _ _).alloc _).ext _).drew
 have hA1 : PsA w τ x c w.heap.size y L s (stepV fn a n key val on) W1.drew (ext τ w y):=⟨H.keep hc1 fun _ h=>h.elim,⟨by rw [hW1];exact (Blk.new _ _ _).drewN 1,ext_new (Nat.le_refl _)⟩,hc1.mono fun _ h=>h.elim⟩
 generalize ext τ w y = τ1 at hA1
 have S1 : Hid (PsS w.heap.size key val W1.drew):=Lib.hid ⟨hA1.stp.cell 3,hA1.stp.cell 4⟩
 have HC1 : Hid (∀ W,Calls Tryz.prog 52 #[.string key,.int .i64 45] W fun e w'=>e = .returned (.string key) /\ W = w'):=Lib.hid fun W=>cut52 W key 45 hks (by decide)
 have HC2 : Hid (∀ W,Calls Tryz.prog 52 #[.string val,.int .i64 60] W fun e w'=>e = .returned (.string val) /\ W = w'):=Lib.hid fun W=>cut52 W val 60 hvs (by decide)
 have HSA : Hid (∀ W,W = (W1.drew.setCell ⟨w.heap.size,3,none⟩ (.string key)).setCell ⟨w.heap.size,4,none⟩ (.string val) \/ W = ((W1.drew.setCell ⟨w.heap.size,3,none⟩ (.string key)).setCell ⟨w.heap.size,4,none⟩ (.string val)).setCell ⟨w.heap.size,4,none⟩ (.string val) -> PsA w τ x c w.heap.size y L s (stepV fn a n key val on) W τ1):=Lib.hid fun W hW=>by
  have hh:=(hA1.stp.set_ 3 (.string key)).set_ 4 (.string val)
  have hcc:=((Chg.refl (· = y) W1.drew τ1).setCell (p:=⟨w.heap.size,3,none⟩) hA1.stp.own (.string key)).setCell (p:=⟨w.heap.size,4,none⟩) hA1.stp.own (.string val)
  have hcw:=(hA1.chg.setNew (p:=⟨w.heap.size,3,none⟩) (Nat.le_refl _) (.string key)).setNew (p:=⟨w.heap.size,4,none⟩) (Nat.le_refl _) (.string val)
  have hy : ∀ z,z = y -> ¬ WX z:=fun z hz=>by rw [hz];unfold WX;omega
  rcases hW with hW | hW
  ·rw [hW];exact ⟨hA1.wat.keep hcc hy,hh,hcw⟩
  ·rw [hW];exact ⟨hA1.wat.keep (hcc.setCell (p:=⟨w.heap.size,4,none⟩) hA1.stp.own (.string val)) hy,hh.set_ 4 (.string val),hcw.setNew (p:=⟨w.heap.size,4,none⟩) (Nat.le_refl _) (.string val)⟩
 have hB1:=Lib.hid hA1.stp.blk
 have HX:=Lib.hid (And.intro hll (And.intro hlw hy1))
 have HAs:=Lib.hid ha
 have HW1:=Lib.hid hW1
 clear H ha hks hvs hon hll hlw hy1 hy2 hW1 hc1 hA1
 rcases hon' with ⟨h6,hon⟩ | ⟨h6,hon,hval⟩
 focus (subst h6;subst hon)
 rotate_left
 focus (subst hon;subst hval)
 rotate_left
 all_goals (
  go_enter Tryz.func34,Tryz.ntmps34
  go_wp2_with (first | rw [<- HW1.out] | fail)
  refine wp_region_hl [2,5] [0,1,3,4,2,6,5] (PsS w.heap.size key _ ) (by kernel_rfl) (by kernel_rfl) S1.out ?_
  iterate 4 (refine hd_take (v:=?_) rfl rfl (by kernel_rfl) (fun W hW=>?_) ?_;rotate_left;(obtain ⟨r0,r1⟩:=hW;first | (go_simp;done) | (go_simp;with_reducible rfl)))
  refine hd_loud rfl rfl fun K hK=>?_
  go_simp
  refine (HC1.out _).mono ?_
  rintro e w2 ⟨rfl,rfl⟩
  refine hK _ _ S1.out ?_
  clear hK
  refine hd_take (v:=?_) rfl rfl (by kernel_rfl) (fun W hW=>?_) ?_
  rotate_left
  (first | (go_simp;done) | (go_simp;with_reducible rfl))
  refine hd_loud rfl rfl fun K hK=>?_
  go_simp
  refine (HC2.out _).mono ?_
  rintro e w2 ⟨rfl,rfl⟩
  refine hK _ _ S1.out (hd_end ?_)
  clear hK
  simp only [List.length_cons,List.length_nil,List.drop_succ_cons,List.drop_zero,Nat.zero_add,Nat.reduceAdd]
  have hb:=hB1.out
  generalize W1.drew = wd at *
  have e3:=hb.cell 3
  have e4:=hb.cell 4
  have e5:=hb.cell 5
  have e6:=hb.cell 6
  simp only [stepV,List.getElem?_toArray,List.getElem?_cons_succ,List.getElem?_cons_zero] at e3 e4 e5 e6
  have g3:=hb.frozen 3
  have g4:=hb.frozen 4
  clear hb hB1 S1
  go_upto_region 6 with fail)
 focus (
  generalize hW2 : World.setCell (World.setCell wd _ _) _ _ = W2
  have HA2:=Lib.hid (HSA.out W2 (.inl hW2.symm))
  clear hW2 HSA e3 e4 e5 e6 g3 g4 HC1 HC2 HW1
  have b0 : W2.cell? ⟨w.heap.size,0,none⟩ = some (.int .i64 6):=HA2.out.stp.cell 0
  have HLV : Hid ((if (6 : Nat) = 7 \/ 6 = 8 then lowOf s.c.log key else 0) = 0):=Lib.hid (if_neg (by omega))
  go_upto_region 20 with fail
  have HA5:=HA2
  clear HA2 b0
  generalize W2 = W5 at HA5 ⊢
  generalize τ1 = τ5 at HA5)
 rotate_left
 focus (
  generalize hW2 : World.setCell (World.setCell (World.setCell wd _ _) _ _) _ _ = W2
  have HA2:=Lib.hid (HSA.out W2 (.inr hW2.symm))
  clear hW2 HSA e3 e4 e5 e6 g3 g4 HC1 HC2 HW1
  have hfn : fn = 1 \/ fn ≠ 1:=by omega
  rcases hfn with hfn | hfn
  focus (
   subst hfn
   have b0 : W2.cell? ⟨w.heap.size,0,none⟩ = some (.int .i64 1):=HA2.out.stp.cell 0
   have ha:=HAs.out
   rw [if_pos rfl] at ha
   obtain ⟨cf,hcf,hs'⟩:=Option.map_eq_some_iff.1 ha
   have HCF:=Lib.hid (And.intro hcf hs')
   clear ha hcf hs'
   go_wp2_with fail
   go_loopw [5] (fun v wr=>∃ (k : Nat) (τr : Own) (ck : PCl),k <= 6 /\ v = .int .i64 (k : Int) /\ ck.ticks? ((List.range 6).drop k) = some cf /\ WAt wr τr x c L { s with c:=ck } /\ Chg WX w τ wr τr) (fun v _=>6 - (intOf v).toNat)
   case atStart=>exact ⟨0,τ1,s.c,by omega,rfl,HCF.out.1,HA2.out.wat,HA2.out.chg⟩
   case round=>
    obtain ⟨k,τr,ck,hk,rfl,hti,hwa,hch⟩:=hrel
    by_cases hlt : k < 6
    ·rw [List.drop_eq_getElem_cons (by simpa using hlt)] at hti
     rw [List.getElem_range] at hti
     unfold PCl.ticks? at hti
     split at hti
     case h_2=>cases hti
     rename_i ck' htk
     have hst:=step53 wr τr c L ck ck' hwa.clu 1 k 0 ⟨#[]⟩ ⟨#[]⟩ false (by unfold PCl.step?;rw [if_pos rfl];exact htk)
     have HST:=Lib.hid hst
     have q0:=hwa.cells.1
     have HW:=Lib.hid (And.intro hwa (And.intro hch hti))
     have k1 : (k : Int) <= 5:=by omega
     clear hst hwa hch hti htk b0
     unfold stepV at HST
     go_wp2_with (go_at_call 53;fail)
     refine HST.out.mono ?_
     rintro e w4 ⟨rfl,τ4,h4,hc4⟩
     have HE:=Lib.hid (And.intro (HW.out.1.setC h4 hc4) (HW.out.2.1.trans (hc4.mono fun x h=>by unfold CT at h;unfold WX;omega)))
     clear h4 hc4
     go_wp2_with fail
     go_roundw
     case rel=>exact ⟨k + 1,τ4,ck',by omega,by go_num,HW.out.2.2,HE.out⟩
     case measure=>simp [intOf];omega
    ·obtain rfl : k = 6:=by omega
     have hck : ck = cf:=by
      have : (List.range 6).drop 6 = []:=rfl
      rw [this] at hti
      injection hti
     have HE:=Lib.hid (And.intro hwa hch)
     clear hwa hch hti
     go_wp2_with fail
     go_ret
     refine ⟨rfl,τr,?_,HE.out.2⟩
     rw [<- HCF.out.2,<- hck]
     exact HE.out.1)
  have kk1 : ((fn : Int) == 1) = false:=by rw [beq_eq_false_iff_ne];omega
  have b0 : W2.cell? ⟨w.heap.size,0,none⟩ = some (.int .i64 (fn : Int)):=HA2.out.stp.cell 0
  have b3 : W2.cell? ⟨w.heap.size,3,none⟩ = some (.string key):=HA2.out.stp.cell 3
  have hf7 : fn = 7 \/ fn = 8 \/ (fn ≠ 7 /\ fn ≠ 8):=by omega
  have HFn:=Lib.hid hf7
  have hf78 : (fn = 7 \/ fn = 8) \/ (fn ≠ 7 /\ fn ≠ 8):=by omega
  rcases hf78 with hf | hf
  focus (
   have q0:=HA2.out.wat.cells.1
   have HLg:=Lib.hid (log27 W2 τ1 c L s.c HA2.out.wat.clu)
   have HAl:=Lib.hid (all28 W2 τ1 85 L.log s.c.log HA2.out.wat.clu.log (by have:=HX.out.1;omega))
   have kk78 : ((fn : Int) == 7) = true \/ (((fn : Int) == 7) = false /\ ((fn : Int) == 8) = true):=by
    rcases hf with e | e
    ·left;rw [e];rfl
    ·right;rw [e];exact ⟨rfl,rfl⟩
   have HLv : Hid ((if fn = 7 \/ fn = 8 then lowOf s.c.log key else 0) = lowOf s.c.log key):=Lib.hid (if_pos hf)
   clear hf hf7
   rcases kk78 with kk | ⟨kk,kk'⟩
   all_goals (
    go_wp2_with (go_at_call 27;refine HLg.out.mono ?_;rintro e w' ⟨rfl,hw⟩;obtain rfl:=hw)
    refine HAl.out.mono ?_
    rintro e w4 ⟨v4,rfl,ho4,hb4⟩
    obtain ⟨A4,c4,rfl⟩:=ownsRow_slice ho4
    have hc4 : Chg (fun _=>False) W2 τ1 w4 (ext τ1 W2 y):=Chg.of_below hb4 y
    have hrw : Rw w4 (ext τ1 W2 y) y 59 13 (.slice A4 s.c.log.length c4) s.c.log.length (s.c.log.flatMap encC):=Rw.of_new ho4 (Nat.le_refl _) _ _
    have hA4:=HA2.out.quiet hc4
    generalize ext τ1 W2 y = τ4 at hc4 hrw hA4
    obtain ⟨A',c',e',-,-,-,hsl,-,-⟩:=hrw.slice
    injection e' with e1 _ _
    subst e1
    have HCe : Hid (∀ k (hk : k < s.c.log.length),∃ g o,A4 = some ⟨g,o,none⟩ /\ ∀ r v,(encC s.c.log[k])[r]? = some v -> w4.cell? ⟨g,o + (k * 13 + r),none⟩ = some v):=Lib.hid fun k hk=>Sl.flat encC_len (by decide) hsl k hk
    have HA4:=Lib.hid hA4
    have b3' : w4.cell? ⟨w.heap.size,3,none⟩ = some (.string key):=hA4.stp.cell 3
    obtain ⟨l,hl⟩ : ∃ l,l = s.c.log:=⟨_,rfl⟩
    rw [<- hl] at HCe
    obtain ⟨N,hN⟩ : ∃ N,N = l.length:=⟨_,rfl⟩
    have HNl:=Lib.hid (And.intro hN hl)
    have hlN : s.c.log.length = N:=by rw [hN,hl]
    rw [hlN]
    have HN9 : Hid (N <= 900):=Lib.hid (by have:=HX.out.1;omega)
    clear ho4 hb4 hc4 hrw hA4 hsl hl hN hlN b0 b3 q0 HLg HAl HA2
    go_wp2_with fail
    go_loopw [6,8] (fun lo v wr=>∃ (k : Nat),k <= N /\ v = .int .i64 (k : Int) /\ lo = .int .i64 ((((l.take k).foldl (low1 key) 0 : Nat)) : Int) /\ Chg (fun _=>False) w4 τ4 wr τ4) (fun _ v _=>N - (intOf v).toNat)
    case atStart=>exact ⟨0,Nat.zero_le _,rfl,rfl,Chg.refl _ _ _⟩
    case' round=>
     obtain ⟨k,hk,rfl,rfl,hwr⟩:=hrel
     have hcl : ∀ g i v,w4.cell? ⟨g,i,none⟩ = some v -> wr.cell? ⟨g,i,none⟩ = some v:=fun g i v h=>by rw [<- h];exact World.cell?_of_block (a:=⟨g,i,none⟩) (hwr.block g (World.block_lt_of_cell? w4 ⟨g,i,none⟩ h) id)
     by_cases hlt : k < N
     ·have hkl : k < l.length:=by rw [<- HNl.out.1];exact hlt
      obtain ⟨g,o,rfl,hcs⟩:=HCe.out k hkl
      have HT : Hid ((l.take (k + 1)).foldl (low1 key) 0 = low1 key ((l.take k).foldl (low1 key) 0) l[k]):=Lib.hid (foldl_take_succ _ _ _ _ hkl)
      generalize l[k] = z at hcs HT
      generalize (l.take k).foldl (low1 key) 0 = lo at HT ⊢
      have q1 : wr.cell? ⟨g,o + k * 13 + 1,none⟩ = some (.int .i64 (z.op : Int)):=hcl _ _ _ (hcs 1 _ rfl)
      have q2 : wr.cell? ⟨g,o + k * 13 + 2,none⟩ = some (.string z.key):=hcl _ _ _ (hcs 2 _ rfl)
      have q4 : wr.cell? ⟨g,o + k * 13 + 4,none⟩ = some (.int .i64 (z.frm : Int)):=hcl _ _ _ (hcs 4 _ rfl)
      have q6 : wr.cell? ⟨g,o + k * 13 + 6,none⟩ = some (.bool z.done):=hcl _ _ _ (hcs 6 _ rfl)
      have q10 : wr.cell? ⟨g,o + k * 13 + 10,none⟩ = some (.int .i64 (z.reply.err : Int)):=hcl _ _ _ (hcs 10 _ rfl)
      have p3 : wr.cell? ⟨w.heap.size,3,none⟩ = some (.string key):=hcl _ _ _ b3'
      have k1 : (k : Int) < (N : Int):=by omega
      have k2 : (0 : Int) <= (k : Int):=by omega
      have k3 : (k : Int) <= 900:=by have:=HN9.out;omega
      have HWr:=Lib.hid hwr
      clear hcs hwr b3' hcl
      have h5c : (((z.op : Int) == 2) = false /\ low1 key lo z = lo) \/ (z.op = 2 /\ (z.key.toList == key.toList) = false /\ ¬ z.key = key /\ low1 key lo z = lo) \/ (z.op = 2 /\ z.key = key /\ z.done = false /\ low1 key lo z = lo) \/ (z.op = 2 /\ z.key = key /\ z.done = true /\ ((z.reply.err : Int) == 0) = false /\ low1 key lo z = lo) \/ (z.op = 2 /\ z.key = key /\ z.done = true /\ z.reply.err = 0 /\ low1 key lo z = max lo z.frm):=by
       by_cases c1 : z.op = 2
       ·by_cases c2 : z.key = key
        ·cases c3 : z.done with
         | false=>exact .inr (.inr (.inl ⟨c1,c2,rfl,by unfold low1;simp [c3]⟩))
         | true=>
          by_cases c4 : z.reply.err = 0
          ·exact .inr (.inr (.inr (.inr ⟨c1,c2,rfl,c4,by unfold low1;simp [c1,c2,c3,c4]⟩)))
          ·exact .inr (.inr (.inr (.inl ⟨c1,c2,rfl,by rw [beq_eq_false_iff_ne];omega,by unfold low1;simp [c4]⟩)))
        ·exact .inr (.inl ⟨c1,text_ne c2,c2,by unfold low1;simp [c2]⟩)
       ·exact .inl ⟨by rw [beq_eq_false_iff_ne];omega,by unfold low1;simp [c1]⟩
      rcases h5c with ⟨d1,hE⟩ | ⟨c1,d2,d2',hE⟩ | ⟨c1,c2,c3,hE⟩ | ⟨c1,c2,c3,d4,hE⟩ | ⟨c1,c2,c3,c4,hE⟩
      rotate_left
      focus (rw [c1] at q1;clear c1)
      rotate_left
      focus (rw [c1] at q1;rw [c2] at q2;rw [c3] at q6;clear c1 c2 c3)
      rotate_left
      focus (rw [c1] at q1;rw [c2] at q2;rw [c3] at q6;clear c1 c2 c3)
      rotate_left
      focus (rw [c1] at q1;rw [c2] at q2;rw [c3] at q6;rw [c4] at q10;clear c1 c2 c3 c4)
      rotate_left
      all_goals (
       have HE:=Lib.hid hE
       clear hE
       go_wp2_with fail
       go_quiet (fail)
       go_wp2_with fail
       go_roundw
       case rel=>
        refine ⟨k + 1,by omega,by go_num,?_,HWr.out.drewN nq⟩
        rw [HT.out,HE.out]
        first | done | rfl | (congr 1;first | omega | (split <;> omega))
       case measure=>first | (simp [intOf];omega) | simp [intOf])
     obtain rfl : k = N:=by omega
     rw [List.take_of_length_le (by rw [HNl.out.1];exact Nat.le_refl _)]
     have hlo : l.foldl (low1 key) 0 = lowOf s.c.log key:=by rw [HNl.out.2];rfl
     rw [hlo]
     have HA5 : Hid (PsA w τ x c w.heap.size y L s (stepV fn a n key ⟨#[]⟩ false) wr τ4):=Lib.hid (HA4.out.quiet hwr)
     clear hwr hlo HCe hcl
     go_upto_region 20 with fail
     obtain ⟨lv,hlv⟩ : ∃ lv,lowOf s.c.log key = lv:=⟨_,rfl⟩
     have HLV : Hid ((if fn = 7 \/ fn = 8 then lowOf s.c.log key else 0) = lv):=Lib.hid (by rw [<- hlv];exact HLv.out)
     rw [hlv]
     clear hlv HLv HN9 HNl hk hlt HA4 b3'
     generalize wr = W5 at HA5 ⊢
     generalize τ4 = τ5 at HA5))
  rotate_left 2
  focus (
   have k7 : ((fn : Int) == 7) = false:=by rw [beq_eq_false_iff_ne];omega
   have k8 : ((fn : Int) == 8) = false:=by rw [beq_eq_false_iff_ne];omega
   have HLV : Hid ((if fn = 7 \/ fn = 8 then lowOf s.c.log key else 0) = 0):=Lib.hid (if_neg (by omega))
   go_upto_region 20 with fail
   have HA5:=HA2
   clear HA2 b0 b3
   generalize W2 = W5 at HA5 ⊢
   generalize τ1 = τ5 at HA5))
 all_goals (
  have ha:=HAs.out
  rw [if_neg (by omega)] at ha
  split at ha
  case h_2=>cases ha
  rename_i c' hst
  split at ha
  case isFalse=>cases ha
  rename_i hle
  injection ha with ha
  rw [HLV.out] at ha
  have hcd : Chg (fun _=>False) W5 τ5 W5.drew τ5:=(Chg.refl _ _ _).drew
  have hA6:=HA5.out.quiet hcd
  have S20 : Hid (PsT x w.heap.size (ptr c) _ W5.drew):=Lib.hid ⟨hA6.wat.cells.1,hA6.stp.blk⟩
  have HST:=Lib.hid (step53 W5.drew τ5 c L s.c c' hA6.wat.clu _ a n key _ _ hst)
  have HA6:=Lib.hid hA6
  have HEq:=Lib.hid (And.intro ha hle)
  clear ha hst hle hcd hA6 HA5 HLV HAs
  refine wp_region_hl [] [0,1,2,3,4] (PsT x w.heap.size (ptr c) _) (by kernel_rfl) (by kernel_rfl) S20.out ?_
  iterate 4 (refine hd_take (v:=?_) rfl rfl (by kernel_rfl) (fun W hW=>?_) ?_;rotate_left;(obtain ⟨r0,-⟩:=hW;first | (go_simp;done) | (go_simp;with_reducible rfl)))
  refine hd_load 39 (.tmp 3) rfl rfl (by kernel_rfl) rfl (ptr w.heap.size) (.agg (stepV _ a n key _ _).toArray) (by go_simp) (fun W hW=>load_blk (by kernel_rfl) (by kernel_rfl) hW.2) (hd_end ?_)
  simp only [List.length_cons,List.length_nil,List.drop_succ_cons,List.drop_zero,Nat.zero_add,Nat.reduceAdd]
  go_wp2_with (go_at_call 53;fail)
  refine HST.out.mono ?_
  rintro e w6 ⟨rfl,τ6,h6c,hc6⟩
  have hwa6:=HA6.out.wat.setC h6c hc6
  obtain ⟨q0,A6,c6,q1⟩:=hwa6.cells
  have HLg:=Lib.hid (log27 w6 τ6 c L c' h6c)
  have HAl:=Lib.hid (all28 w6 τ6 85 L.log c'.log h6c.log HEq.out.2)
  have HW6:=Lib.hid (And.intro hwa6 (HA6.out.chg.trans (hc6.mono fun x h=>by unfold CT at h;unfold WX;omega)))
  clear h6c hc6 hwa6 HST HA6
  go_wp2_with (go_at_call 27;refine HLg.out.mono ?_;rintro e w' ⟨rfl,hw⟩;obtain rfl:=hw)
  refine HAl.out.mono ?_
  rintro e w7 ⟨v7,rfl,ho7,hb7⟩
  obtain ⟨A7,c7,rfl⟩:=ownsRow_slice ho7
  have hc7 : Chg (fun _=>False) w6 τ6 w7 (ext τ6 w6 94):=Chg.of_below hb7 94
  have hwa7:=HW6.out.1.keep hc7 fun _ h=>h.elim
  generalize ext τ6 w6 94 = τ7 at hc7 hwa7
  obtain ⟨q0',A8,c8,q1'⟩:=hwa7.cells
  have HW7:=Lib.hid (And.intro hwa7 (HW6.out.2.trans (hc7.mono fun _ h=>h.elim)))
  clear ho7 hb7 hc7 hwa7 q0 q1 HLg HAl HW6
  by_cases hlen : c'.log.length = s.low.length + 1
  ·have e1:=HEq.out.1
   rw [if_pos hlen] at e1
   have HE1:=Lib.hid e1
   have kl : ((c'.log.length : Int) == (s.low.length : Int) + 1) = true:=by rw [beq_iff_eq];omega
   have kl2 : (c'.log.length : Int) = (s.low.length : Int) + 1:=by omega
   have klw : (s.low.length : Int) <= 900:=by have:=HX.out.2.1;omega
   obtain ⟨-,vl,cs,hx7,hcs0,hcs1,hlw7⟩:=HW7.out.1
   have evl : vl = .slice A8 s.low.length c8:=by have:=(hx7.cell 1).trans hcs1;rw [q1'] at this;injection this with this;exact this.symm
   rw [evl] at hlw7 hcs1
   have HLW:=Lib.hid hlw7
   have HX7:=Lib.hid (And.intro hx7 (And.intro hcs0 hcs1))
   clear e1 hlen hx7 hcs0 hcs1 hlw7 evl
   go_wp2_with (first | (at_builtin;refine wpl_app (news:=[.int .i64 0]) rfl rfl τ7 183 (by kernel_rfl) info3 rfl (by decide) (by decide) rfl (HLW.out.alloc _) rfl rfl (sl_at (by simp)) (by simp [Value.oneCell']) (by omega) ?_) | (at_builtin;refine wpl_app (news:=[.int .i64 (lv : Int)]) rfl rfl τ7 183 (by kernel_rfl) info3 rfl (by decide) (by decide) rfl (HLW.out.alloc _) rfl rfl (sl_at (by simp)) (by simp [Value.oneCell']) (by omega) ?_))
   intro g cap w8 hr8 hc8 hg8
   generalize hτ8 : ext τ7 _ 183 = τ8 at hr8 hc8
   have hc78 : Chg (· = 183) w7 τ7 w8 τ8:=((Chg.refl (· = 183) w7 τ7).alloc _).trans hc8
   have hx8:=HX7.out.1.keep hc78 (by decide)
   have u1 : w8.cell? ⟨x,1,none⟩ = some (.slice A8 s.low.length c8):=(hx8.cell 1).trans HX7.out.2.2
   have f1:=hx8.frozen 1
   have hclu8:=HW7.out.1.clu.keep hc78 (fun z hz hy=>by rw [hz] at hy;revert hy;unfold CT;decide)
   have HFin : Hid (∀ W lw,W = w8.setCell ⟨x,1,none⟩ (.slice (some ⟨g,0,none⟩) (s.low.length + 1) cap) -> Rw w8 τ8 183 3 1 (.slice (some ⟨g,0,none⟩) (s.low.length + 1) cap) (s.low.length + 1) (nnums (s.low ++ [lw])) -> WAt W τ8 x c L ⟨c',s.low ++ [lw]⟩ /\ Chg WX w τ W τ8):=Lib.hid fun W lw hW hrl=>by
    have hc9 : Chg (· = 87) w8 τ8 W τ8:=by rw [hW];exact (Chg.refl _ _ _).setCell (p:=⟨x,1,none⟩) hx8.own _
    have hsz:=(Array.getElem?_eq_some_iff.1 HX7.out.2.2).1
    refine ⟨⟨hclu8.keep hc9 (fun z hz hy=>by rw [hz] at hy;revert hy;unfold CT;decide),_,_,by rw [hW];exact hx8.set_ 1 _,?_,Array.getElem?_setIfInBounds_self_of_lt hsz,?_⟩,?_⟩
    ·rw [Array.getElem?_setIfInBounds_ne (by decide)];exact HX7.out.2.1
    ·have:=hrl.keep hc9 (by decide)
     rwa [show (s.low ++ [lw]).length = s.low.length + 1 by simp]
    ·exact (HW7.out.2.trans (hc78.mono fun z hz=>by rw [hz];unfold WX;decide)).trans (hc9.mono fun z hz=>by rw [hz];unfold WX;decide)
   have HR8:=Lib.hid hr8
   clear hr8 hc8 hg8 hc78 hx8 hclu8 HLW HX7 hτ8
   go_wp2_with fail
   go_ret
   refine ⟨rfl,τ8,?_⟩
   rw [<- HE1.out]
   exact HFin.out _ _ rfl (by have:=HR8.out;simpa [nnums] using this)
  ·have e1:=HEq.out.1
   rw [if_neg hlen] at e1
   have kl : ((c'.log.length : Int) == (s.low.length : Int) + 1) = false:=by rw [beq_eq_false_iff_ne];omega
   have klw : (s.low.length : Int) <= 900:=by have:=HX.out.2.1;omega
   have HE1:=Lib.hid e1
   clear e1 hlen
   go_wp2_with fail
   go_ret
   refine ⟨rfl,τ7,?_,HW7.out.2⟩
   rw [<- HE1.out]
   exact HW7.out.1)
end Go.Proofs.Ytlhekbjidppijaa
namespace Go.Proofs.Ytlhekbjidppijaa
open Go.RowKit
def PW.drain? : Nat -> PW -> Option PW
 | 0,s=>some s
 | f + 1,s=>if s.c.net.length = 0 then some s else match s.step? 2 0 0 ⟨#[]⟩ ⟨#[]⟩ false with
  | some s'=>s'.drain? f
  | none=>none
def PW.rounds? : Nat -> PW -> Option PW
 | 0,s=>some s
 | n + 1,s=>match s.step? 1 0 0 ⟨#[]⟩ ⟨#[]⟩ false with
  | some s1=>match s1.drain? 500 with
   | some s2=>s2.rounds? n
   | none=>none
  | none=>none
set_option maxRecDepth 20000 in
set_option maxHeartbeats 2000000 in
theorem rounds44 (w : World) (τ : Own) (x c : Nat) (L : CL) (s s' : PW) (H : WAt w τ x c L s) (n : Nat) (hn : n <= 1000) (ha : s.rounds? n = some s') :
 Calls Tryz.prog 44 #[ptr x,.int .i64 (n : Int)] w fun e w'=>(∃ r,e = .returned r) /\ ∃ τ',WAt w' τ' x c L s' /\ Chg WX w τ w' τ':=by
 have HH:=Lib.hid (And.intro H ha)
 have kn : (n : Int) <= 1000:=by omega
 clear H ha
 go_enter Tryz.func44,Tryz.ntmps44
 go_wp2_with fail
 go_loopw [4] (fun v wr=>∃ (j : Nat) (τr : Own) (s1 : PW),j <= n /\ v = .int .i64 (j : Int) /\ s1.rounds? (n - j) = some s' /\ WAt wr τr x c L s1 /\ Chg WX w τ wr τr) (fun v _=>n - (intOf v).toNat)
 case atStart=>exact ⟨0,τ,s,Nat.zero_le _,rfl,HH.out.2,HH.out.1,Chg.refl _ _ _⟩
 case round=>
  obtain ⟨j,τr,s1,hj,rfl,hro,hwa,hch⟩:=hrel
  by_cases hlt : j < n
  ·rw [show n - j = (n - j - 1) + 1 by omega] at hro
   unfold PW.rounds? at hro
   split at hro
   case h_2=>cases hro
   rename_i s2 hs2
   split at hro
   case h_2=>cases hro
   rename_i s3 hs3
   have HST:=Lib.hid (step34 wr τr x c L s1 s2 hwa 1 0 0 ⟨#[]⟩ ⟨#[]⟩ false hs2)
   have HR:=Lib.hid (And.intro hro (And.intro hs3 hch))
   have k1 : (j : Int) < (n : Int):=by omega
   clear hro hwa hch hs2 hs3
   unfold stepV at HST
   go_wp2_with (go_at_call 34;fail)
   refine HST.out.mono ?_
   rintro e w2 ⟨rfl,τ2,h2,hc2⟩
   have H2:=Lib.hid (And.intro h2 (HR.out.2.2.trans hc2))
   clear h2 hc2 HST
   go_wp2_with fail
   go_loopw [5] (fun v wr2=>∃ (k : Nat) (τk : Own) (sk : PW),k <= 500 /\ v = .int .i64 (k : Int) /\ sk.drain? (500 - k) = some s3 /\ WAt wr2 τk x c L sk /\ Chg WX w τ wr2 τk) (fun v _=>500 - (intOf v).toNat)
   case atStart=>exact ⟨0,τ2,s2,by omega,rfl,HR.out.2.1,H2.out⟩
   case round=>
    rename_i wr2
    obtain ⟨k,τk,sk,hk,rfl,hdr,hwk,hck⟩:=hrel
    by_cases hk5 : k < 500
    ·have q0:=hwk.cells.1
     have HNe:=Lib.hid (net35 _ τk c L sk.c hwk.clu)
     have HLe:=Lib.hid (len36 _ τk 83 L.net sk.c.net hwk.clu.net)
     have k2 : (k : Int) < 500:=by omega
     rw [show 500 - k = (500 - k - 1) + 1 by omega] at hdr
     unfold PW.drain? at hdr
     by_cases hl : sk.c.net.length = 0
     ·rw [if_pos hl] at hdr
      injection hdr with hdr
      have HE:=Lib.hid (And.intro hwk hck)
      rw [hl] at HLe
      clear hwk hck
      subst hdr
      go_wp2_with (first | (go_at_call 35;refine HNe.out.mono ?_;rintro e w' ⟨rfl,hw⟩;obtain rfl:=hw) | (go_at_call 36;refine HLe.out.mono ?_;rintro e w' ⟨rfl,hw⟩;obtain rfl:=hw.symm))
      go_roundw
      case rel=>exact ⟨j + 1,τk,sk,by omega,by go_num,by rw [show n - (j + 1) = n - j - 1 by omega];exact HR.out.1,HE.out⟩
      case measure=>simp [intOf];omega
     ·rw [if_neg hl] at hdr
      split at hdr
      case h_2=>cases hdr
      rename_i sl hsl
      have HST:=Lib.hid (step34 _ τk x c L sk sl hwk 2 0 0 ⟨#[]⟩ ⟨#[]⟩ false hsl)
      have HE:=Lib.hid (And.intro hck hdr)
      have k3 : (0 : Int) < (sk.c.net.length : Int):=by omega
      clear hwk hck hdr hsl
      unfold stepV at HST
      go_wp2_with (first | (go_at_call 35;refine HNe.out.mono ?_;rintro e w' ⟨rfl,hw⟩;obtain rfl:=hw) | (go_at_call 36;refine HLe.out.mono ?_;rintro e w' ⟨rfl,hw⟩;obtain rfl:=hw.symm) | (go_at_call 34;fail))
      refine HST.out.mono ?_
      rintro e w4 ⟨rfl,τ4,h4,hc4⟩
      have HE4:=Lib.hid (And.intro h4 (HE.out.1.trans hc4))
      clear h4 hc4
      go_wp2_with fail
      go_roundw
      case rel=>exact ⟨k + 1,τ4,sl,by omega,by go_num,by rw [show 500 - (k + 1) = 500 - k - 1 by omega];exact HE.out.2,HE4.out⟩
      case measure=>simp [intOf];omega
    ·obtain rfl : k = 500:=by omega
     rw [show 500 - 500 = 0 by omega] at hdr
     unfold PW.drain? at hdr
     injection hdr with hdr
     subst hdr
     have HE:=Lib.hid (And.intro hwk hck)
     clear hwk hck
     go_wp2_with fail
     go_roundw
     case rel=>exact ⟨j + 1,τk,sk,by omega,by go_num,by rw [show n - (j + 1) = n - j - 1 by omega];exact HR.out.1,HE.out⟩
     case measure=>simp [intOf];omega
  ·obtain rfl : j = n:=by omega
   rw [Nat.sub_self] at hro
   unfold PW.rounds? at hro
   injection hro with hro
   subst hro
   have HE:=Lib.hid (And.intro hwa hch)
   clear hwa hch
   go_wp2_with fail
   refine bodyPost_end (by first | exact results_none rfl _ _ _ | rfl | (simp [results];rfl)) rfl ?_
   exact ⟨⟨_,rfl⟩,τr,HE.out⟩
end Go.Proofs.Ytlhekbjidppijaa
namespace Go.Proofs.Ytlhekbjidppijaa
open Go.RowKit
def heldB (L : List St) (k v : ByteArray) (h : Bool) (a b : Nat) : Bool:=(List.range (b + 1)).any fun p=>decide (a <= p) && decide ((atS L p k).1 = v) && decide ((atS L p k).2 = h)
theorem heldB_ok {L : List St} {k v : ByteArray} {h : Bool} {a b : Nat} (hh : heldB L k v h a b = true) : heldS L k v h a b:=by
 obtain ⟨p,hp,h2⟩:=List.any_eq_true.1 hh
 simp only [Bool.and_eq_true,decide_eq_true_eq] at h2
 exact ⟨p,h2.1.1,by have:=List.mem_range.1 hp;omega,Prod.ext h2.1.2 h2.2⟩
def callOk (s : PW) (i : Nat) (z : PCall) : Bool:=
 !z.done || (decide (z.frm <= z.to) && decide (z.reply.key = z.key) && decide (z.reply.id = z.id) && decide (z.to <= s.c.org.length) &&
  (!(decide (z.op = 1) && decide (z.reply.err = 0)) || match s.low[i]? with
    | some lo=>heldB s.c.org z.key z.reply.val z.reply.has lo z.to
    | none=>false))
def PW.right (s : PW) : Bool:=s.c.small && decide (s.low.length = s.c.log.length) && (List.range s.c.log.length).all fun i=>match s.c.log[i]? with
 | some z=>callOk s i z
 | none=>false
def RiS (x b lb lo k : Nat) (pc lv : Value) (z : PCall) (low : Nat) (W : World) : Prop:=W.cell? ⟨x,0,none⟩ = some pc /\ W.cell? ⟨x,1,none⟩ = some lv /\ W.cell? ⟨lb,lo + k,none⟩ = some (.int .i64 (low : Int)) /\ W.cell? ⟨b,1,none⟩ = some (.int .i64 1) /\ W.cell? ⟨b,2,none⟩ = some (.string z.key) /\ W.cell? ⟨b,5,none⟩ = some (.int .i64 (z.to : Int)) /\ W.cell? ⟨b,10,none⟩ = some (.int .i64 0) /\ W.cell? ⟨b,12,none⟩ = some (.bool z.reply.has)
set_option maxRecDepth 20000 in
set_option maxHeartbeats 2000000 in
theorem right21 (w : World) (τ : Own) (x c : Nat) (L : CL) (s : PW) (H : WAt w τ x c L s) (ha : s.right = true) :
 Calls Tryz.prog 21 #[ptr x] w fun e w'=>e = .returned (.bool true) /\ ∃ τ',WAt w' τ' x c L s /\ Chg (fun _=>False) w τ w' τ':=by
 simp only [PW.right,PCl.small,Bool.and_eq_true,decide_eq_true_eq,List.all_eq_true] at ha
 obtain ⟨⟨⟨ho,hlg⟩,hll⟩,hall⟩:=ha
 obtain ⟨y,hy1,hy2⟩:=fresh95 w τ
 obtain ⟨q0,A1,c1,q1⟩:=H.cells
 have HLg:=Lib.hid (log27 w τ c L s.c H.clu)
 have HAl:=Lib.hid (all28 w τ 85 L.log s.c.log H.clu.log hlg)
 have HX:=Lib.hid (And.intro H (And.intro ho (And.intro hlg (And.intro hll (And.intro hall hy1)))))
 have klw : (s.c.log.length : Int) <= 1000:=by omega
 have kll : (s.low.length : Int) = (s.c.log.length : Int):=by omega
 clear H ho hlg hll hall hy1 hy2
 go_enter Tryz.func21,Tryz.ntmps21
 go_wp2_with (go_at_call 27;refine HLg.out.mono ?_;rintro e w' ⟨rfl,hw⟩;obtain rfl:=hw)
 refine HAl.out.mono ?_
 rintro e w1 ⟨v1,rfl,ho1,hb1⟩
 obtain ⟨A,ca,rfl⟩:=ownsRow_slice ho1
 have hc1 : Chg (fun _=>False) w τ w1 (ext τ w y):=Chg.of_below hb1 y
 have hrw : Rw w1 (ext τ w y) y 59 13 (.slice A s.c.log.length ca) s.c.log.length (s.c.log.flatMap encC):=Rw.of_new ho1 (Nat.le_refl _) τ y
 have hwa:=HX.out.1.keep hc1 fun _ h=>h.elim
 generalize ext τ w y = τ1 at hc1 hrw hwa
 obtain ⟨q0',A1',c1',q1'⟩:=hwa.cells
 have HW1:=Lib.hid (And.intro hwa (And.intro hrw hc1))
 clear ho1 hb1 hc1 hrw hwa HAl HLg q0 q1
 obtain ⟨N,hN⟩ : ∃ N,N = s.c.log.length:=⟨_,rfl⟩
 have HNN:=Lib.hid hN
 rw [<- hN] at klw kll ⊢
 clear hN
 go_wp2_with fail
 go_loopw [4] (fun v wr=>∃ (k : Nat) (τr : Own),k <= N /\ v = .int .i64 (k : Int) /\ WAt wr τr x c L s /\ Rw wr τr y 59 13 (.slice A N ca) N (s.c.log.flatMap encC) /\ Chg (fun _=>False) w τ wr τr) (fun v _=>N - (intOf v).toNat)
 case atStart=>exact ⟨0,τ1,Nat.zero_le _,rfl,HW1.out.1,by rw [HNN.out];exact HW1.out.2.1,HW1.out.2.2⟩
 case round=>
  obtain ⟨k,τr,hk,rfl,hwr,hrr,hch⟩:=hrel
  by_cases hlt : k < N
  ·have hkl : k < s.c.log.length:=by rw [<- HNN.out];exact hlt
   obtain ⟨g,rfl⟩ : ∃ g,A = some ⟨g,0,none⟩:=by
    obtain ⟨A',c',e1,-,-,-,-,hA,ha⟩:=hrr.slice
    injection e1 with e1 _ _
    subst e1
    cases A with
    | none=>have:=(hA rfl).1;omega
    | some a=>
     obtain ⟨b0,o0,s0⟩:=a
     obtain ⟨rfl,rfl,_⟩:=ha _ rfl
     exact ⟨b0,rfl⟩
   have hld:=Rw.load (P:=Tryz.prog) encC_len (by decide) hrr (by rw [<- HNN.out];exact hlt) (by kernel_rfl) (by kernel_rfl)
   have hok:=HX.out.2.2.2.2.1 k (List.mem_range.2 hkl)
   rw [List.getElem?_eq_getElem hkl] at hok
   dsimp only at hok
   generalize s.c.log[k] = z at hld hok
   obtain ⟨W3,hst,hb3,hbl3,hsz3⟩:=store_fresh (P:=Tryz.prog) _ 59 #[.int .i64 0,.int .i64 0,.string ⟨#[]⟩,.int .i64 0,.int .i64 0,.int .i64 0,.bool false,.int .i64 0,.int .i64 0,.string ⟨#[]⟩,.int .i64 0,.string ⟨#[]⟩,.bool false] (encC z) (fun W=>by kernel_rfl) rfl (encC_one z)
   have HLd:=Lib.hid hld
   have HSt:=Lib.hid hst
   have hc3 : Chg (fun _=>False) _ τr W3 (ext τr _ y):=Chg.of_below hbl3 _
   have hwa3:=hwr.keep hc3 fun _ h=>h.elim
   have hrr3:=hrr.keep hc3 id
   have HA3:=Lib.hid (And.intro hwa3 (And.intro hrr3 (hch.trans hc3)))
   have HB3:=Lib.hid hb3
   have HOK:=Lib.hid hok
   have b6 : W3.cell? ⟨wr.heap.size,6,none⟩ = some (.bool z.done):=hb3.cell 6
   have k1 : (k : Int) < (N : Int):=by omega
   have k2 : (0 : Int) <= (k : Int):=by omega
   have kk9 : (k : Int) <= 1000:=by omega
   clear hwr hrr hch hok hld hst hc3 hwa3 hrr3 hbl3 hsz3 HW1
   cases hd : z.done with
   | false=>
    rw [hd] at b6
    clear hd hb3
    go_wp2_with (first | (refine wpl_lq 59 _ rfl ?_;refine lq 59 _ _ _ rfl (by kernel_rfl) HLd.out ?_) | (refine wpl_sq 59 _ _ rfl rfl ?_;refine sq 59 _ _ _ _ W3 rfl rfl (by kernel_rfl) HSt.out ?_))
    go_roundw
    case rel=>exact ⟨k + 1,_,by omega,by go_num,HA3.out⟩
    case measure=>simp [intOf];omega
   | true=>
    have hok:=HOK.out
    simp only [callOk,hd,Bool.not_true,Bool.false_or,Bool.and_eq_true,decide_eq_true_eq] at hok
    obtain ⟨⟨⟨⟨h1,h2⟩,h3⟩,h4⟩,h5⟩:=hok
    have b0 : W3.cell? ⟨wr.heap.size,0,none⟩ = some (.int .i64 (z.id : Int)):=hb3.cell 0
    have b1 : W3.cell? ⟨wr.heap.size,1,none⟩ = some (.int .i64 (z.op : Int)):=hb3.cell 1
    have b2 : W3.cell? ⟨wr.heap.size,2,none⟩ = some (.string z.key):=hb3.cell 2
    have b4 : W3.cell? ⟨wr.heap.size,4,none⟩ = some (.int .i64 (z.frm : Int)):=hb3.cell 4
    have b5 : W3.cell? ⟨wr.heap.size,5,none⟩ = some (.int .i64 (z.to : Int)):=hb3.cell 5
    have b7 : W3.cell? ⟨wr.heap.size,7,none⟩ = some (.int .i64 (z.id : Int)):=by rw [<- h3];exact hb3.cell 7
    have b9 : W3.cell? ⟨wr.heap.size,9,none⟩ = some (.string z.key):=by rw [<- h2];exact hb3.cell 9
    have b10 : W3.cell? ⟨wr.heap.size,10,none⟩ = some (.int .i64 (z.reply.err : Int)):=hb3.cell 10
    have b11 : W3.cell? ⟨wr.heap.size,11,none⟩ = some (.string z.reply.val):=hb3.cell 11
    have b12 : W3.cell? ⟨wr.heap.size,12,none⟩ = some (.bool z.reply.has):=hb3.cell 12
    have k3 : ¬ ((z.to : Int) < (z.frm : Int)):=by omega
    rw [hd] at b6
    have hg : (((z.op : Int) == 1) = false) \/ (z.op = 1 /\ ((z.reply.err : Int) == 0) = false) \/ (z.op = 1 /\ z.reply.err = 0):=by
     by_cases e1 : z.op = 1
     ·by_cases e2 : z.reply.err = 0
      ·exact .inr (.inr ⟨e1,e2⟩)
      ·exact .inr (.inl ⟨e1,by rw [beq_eq_false_iff_ne];omega⟩)
     ·exact .inl (by rw [beq_eq_false_iff_ne];omega)
    have H5:=Lib.hid (And.intro h4 h5)
    clear hb3 h1 h2 h3 h4 h5 hd HOK
    rcases hg with hg | ⟨e1,hg⟩ | ⟨e1,e2⟩
    ·go_wp2_with (first | (refine wpl_lq 59 _ rfl ?_;refine lq 59 _ _ _ rfl (by kernel_rfl) HLd.out ?_) | (refine wpl_sq 59 _ _ rfl rfl ?_;refine sq 59 _ _ _ _ W3 rfl rfl (by kernel_rfl) HSt.out ?_))
     go_quiet (fail)
     go_wp2_with fail
     go_roundw
     case rel=>exact ⟨k + 1,_,by omega,by go_num,HA3.out.1.keep ((Chg.refl (fun _=>False) _ _).drewN nq) (fun _ h=>h.elim),HA3.out.2.1.keep ((Chg.refl (fun _=>False) _ _).drewN nq) id,HA3.out.2.2.drewN nq⟩
     case measure=>simp [intOf];omega
    ·rw [e1] at b1
     clear e1
     go_wp2_with (first | (refine wpl_lq 59 _ rfl ?_;refine lq 59 _ _ _ rfl (by kernel_rfl) HLd.out ?_) | (refine wpl_sq 59 _ _ rfl rfl ?_;refine sq 59 _ _ _ _ W3 rfl rfl (by kernel_rfl) HSt.out ?_))
     go_quiet (fail)
     go_wp2_with fail
     go_roundw
     case rel=>exact ⟨k + 1,_,by omega,by go_num,HA3.out.1.keep ((Chg.refl (fun _=>False) _ _).drewN nq) (fun _ h=>h.elim),HA3.out.2.1.keep ((Chg.refl (fun _=>False) _ _).drewN nq) id,HA3.out.2.2.drewN nq⟩
     case measure=>simp [intOf];omega
    ·rw [e1] at b1
     rw [e2] at b10
     have h5:=H5.out.2
     rw [e1,e2] at h5
     simp only [decide_true,Bool.and_self,Bool.not_true,Bool.false_or] at h5
     split at h5
     case h_2=>cases h5
     rename_i lo hlo
     clear e1 e2
     have hcd : Chg (fun _=>False) W3 (ext τr wr y) W3.drew (ext τr wr y):=(Chg.refl _ _ _).drew
     have hwd:=HA3.out.1.keep hcd fun _ h=>h.elim
     have HD:=Lib.hid (And.intro hwd (And.intro (HA3.out.2.1.keep hcd id) (HA3.out.2.2.trans hcd)))
     obtain ⟨-,vl,cs,hx,hx0,hx1,hlw⟩:=hwd
     obtain ⟨AL,cL,rfl,-,-,-,hsl,-,-⟩:=hlw.slice
     have hkl2 : k < s.low.length:=by have:=HX.out.2.2.2.1;omega
     obtain ⟨lb,lof,rfl,hls⟩:=hsl (by intro e;have:=congrArg List.length e;simp [nnums] at this;rw [this] at hkl2;simp at hkl2)
     have hlk : s.low[k] = lo:=by have:=(List.getElem?_eq_some_iff.1 hlo).2;exact this
     have hcell:=hls k _ (nnums_get s.low k hkl2)
     rw [hlk] at hcell
     have S3 : Hid (RiS x wr.heap.size lb lof k (ptr c) (.slice (some ⟨lb,lof,none⟩) s.low.length cL) z lo W3.drew):=Lib.hid ⟨(hx.cell 0).trans hx0,(hx.cell 1).trans hx1,hcell,b1,b2,b5,b10,b12⟩
     have HOr:=Lib.hid (org39 W3.drew _ c L s.c HD.out.1.clu)
     have HHe:=Lib.hid (held40 W3.drew _ 84 L.org s.c.org HD.out.1.clu.org HX.out.2.1 z.key z.reply.val z.reply.has lo z.to H5.out.1)
     have HHB:=Lib.hid (heldB_ok h5)
     have kl1 : (k : Int) < (s.low.length : Int):=by omega
     have kl3 : k < s.low.length:=hkl2
     clear hcd hx hx0 hx1 hlw hsl hls hlk hcell hlo h5 hkl2
     go_wp2_with (first | (refine wpl_lq 59 _ rfl ?_;refine lq 59 _ _ _ rfl (by kernel_rfl) HLd.out ?_) | (refine wpl_sq 59 _ _ rfl rfl ?_;refine sq 59 _ _ _ _ W3 rfl rfl (by kernel_rfl) HSt.out ?_))
     clear b0 b1 b2 b4 b5 b6 b7 b9 b10 b11 b12
     refine wp_region_hl [14] [0,1,2,3,4,5,6,7,8,9,10,11,12,13,15,16,17,18,19,20,21,22,23,24,25,26,27,28,29,14] (RiS x wr.heap.size lb lof k (ptr c) (.slice (some ⟨lb,lof,none⟩) s.low.length cL) z lo) (by kernel_rfl) (by kernel_rfl) S3.out ?_
     iterate 29 (refine hd_take (v:=?_) rfl rfl (by kernel_rfl) (fun W hW=>?_) ?_;rotate_left;(obtain ⟨r0,r1,r2,r3,r4,r5,r6,r7⟩:=hW;first | (go_simp;done) | (go_simp;with_reducible rfl)))
     refine hd_loud rfl rfl fun K hK=>?_
     go_simp
     refine HOr.out.mono ?_
     rintro e w4 ⟨rfl,rfl⟩
     refine hK _ _ S3.out (hd_end ?_)
     clear hK
     simp only [List.length_cons,List.length_nil,List.drop_succ_cons,List.drop_zero,Nat.zero_add,Nat.reduceAdd]
     go_wp2_with (go_at_call 40;fail)
     refine HHe.out.mono ?_
     rintro e w5 ⟨r,rfl,hr,hb5⟩
     obtain rfl : r = true:=hr.2 HHB.out
     have hc5 : Chg (fun _=>False) W3.drew (ext τr wr y) w5 (ext (ext τr wr y) W3.drew 94):=Chg.of_below hb5 94
     have HE5:=Lib.hid (And.intro (HD.out.1.keep hc5 fun _ h=>h.elim) (And.intro (HD.out.2.1.keep hc5 id) (HD.out.2.2.trans hc5)))
     clear hr hb5 hc5
     go_wp2_with fail
     go_roundw
     case rel=>exact ⟨k + 1,_,by omega,by go_num,HE5.out⟩
     case measure=>simp [intOf];omega
  ·obtain rfl : k = N:=by omega
   have HE:=Lib.hid (And.intro hwr hch)
   clear hwr hrr hch HW1
   go_wp2_with fail
   go_ret
   exact ⟨rfl,τr,HE.out⟩
end Go.Proofs.Ytlhekbjidppijaa
