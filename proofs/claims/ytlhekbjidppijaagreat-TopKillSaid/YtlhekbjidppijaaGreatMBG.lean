/- Contracts of functions that the Top rows reach, and plain laws for them: what each returns and what it leaves in memory. Conditions: those that each theorem names. -/
import Derived.Test.YtlhekbjidppijaaGreatMAT
import Derived.Test.YtlhekbjidppijaaGreatMBF
set_option linter.unusedVariables false
set_option linter.unusedSimpArgs false
namespace Go.Proofs.Ytlhekbjidppijaa
open Go.RowKit
def PNode.small (s : PNode) : Bool:=decide (s.ms.length <= 900) && decide (s.rs.length <= 900) && decide (s.waits.length <= 900) && decide (s.reads.length <= 900) && decide (s.toks.length <= 900) && decide (s.cnt < 20) && !s.m.f && decide (s.asked <= 1000000)
structure PNode.Small (s : PNode) : Prop where
 ms : s.ms.length <= 900
 rs : s.rs.length <= 900
 waits : s.waits.length <= 900
 reads : s.reads.length <= 900
 toks : s.toks.length <= 900
 cnt : s.cnt < 20
 f : s.m.f = false
 asked : s.asked <= 1000000
theorem PNode.small_of {s : PNode} (h : s.small = true) : s.Small:=by
 simp only [PNode.small,Bool.and_eq_true,decide_eq_true_eq,Bool.not_eq_true'] at h
 obtain ⟨⟨⟨⟨⟨⟨⟨a,b⟩,c⟩,d⟩,e⟩,f⟩,g⟩,h⟩:=h
 exact ⟨a,b,c,d,e,f,g,h⟩
def askMsg (i ow id ep : Nat) (x : PWho) : PMsg:=⟨13,i,ow,ep,0,id,x.op,x.key,0,⟨#[]⟩,⟨#[]⟩,false,[]⟩
def PNode.askF (s : PNode) (i now ow : Nat) (x : PWho) : PNode:=
 { s with asked:=s.asked + 1,waits:=s.waits ++ [⟨x,1048576 + (s.asked + 1),ow,now⟩],ms:=s.ms ++ [askMsg i ow (1048576 + (s.asked + 1)) s.m.e x] }
def PNode.killF (s : PNode) (i : Nat) (x : PWho) (fs : FS) : PNode:=
 ({ s with toks:=s.toks.map (hurt1 fun k=>decide (k = x.key)),fs:=fs,cnt:=s.cnt + 1 } : PNode).tell i x 0 ⟨#[]⟩ false
def PNode.ask? (s : PNode) (i now : Nat) (x : PWho) : Option PNode:=
 if s.small && decide (x.key.size <= 1000) && (decide (x.op = 1) || decide (x.op = 2)) then
  match s.ring with
  | none=>none
  | some ns=>
   if keyOk x.key then
    if ownerK ns x.key = i then
     if servesF s i now ns x.key then
      if x.op = 2 then (fdrop 129 s.fs x.key).map (s.killF i x) else (fentry s.fs x.key).map (s.get i x)
     else some (s.tell i x 6 ⟨#[]⟩ false)
    else some (s.askF i now (ownerK ns x.key) x)
   else some (s.tell i x 1 ⟨#[]⟩ false)
 else none
def AskS (N b : Nat) (rg : Value) (x : PWho) (W : World) : Prop:=W.cell? ⟨N,3,none⟩ = some rg /\ W.cell? ⟨b,3,none⟩ = some (.string x.key)
def AskT (N S L k b : Nat) (a : Int) (wv : Value) (x : PWho) (W : World) : Prop:=
 W.cell? ⟨N,0,none⟩ = some (.pointer (some ⟨S,0,none⟩)) /\ W.cell? ⟨N,11,none⟩ = some (.int .i64 a) /\ W.cell? ⟨N,9,none⟩ = some wv /\ W.cell? ⟨N,1,none⟩ = some (.pointer (some ⟨L,0,none⟩)) /\ W.cell? ⟨L,0,none⟩ = some (.pointer (some ⟨k,0,none⟩)) /\
 W.cell? ⟨b,0,none⟩ = some (.int .i64 (x.node : Int)) /\ W.cell? ⟨b,1,none⟩ = some (.int .i64 (x.id : Int)) /\ W.cell? ⟨b,2,none⟩ = some (.int .i64 (x.op : Int)) /\ W.cell? ⟨b,3,none⟩ = some (.string x.key)
theorem AskT.of {W : World} {τ : Own} {ts n N d k i b : Nat} {s : PNode} {h : Hd} {x : PWho} (H : NodeAt W τ ts n N d k i s h) {t : Nat} (hX : Has W τ t b 106 (encW x).toArray) : AskT N h.S h.L k b (h.asked : Int) h.wv x W:=by
 obtain ⟨mv,pv,hNb,-,-⟩:=H.out.ex
 exact ⟨hNb.cell 0,hNb.cell 11,hNb.cell 9,hNb.cell 1,H.lease.cell 0,hX.cell 0,hX.cell 1,hX.cell 2,hX.cell 3⟩
theorem NodeAt.setWaits2 {w w' W : World} {τ τ' : Own} {ts n N d k i : Nat} {s : PNode} {h : Hd} {v : Value} {L : List PWait} (H : NodeAt w τ ts n N d k i s h) (hf : Far ts n) (hr : Rw w' τ' (n + 96) 212 7 v L.length (L.flatMap encT)) (hc : Chg (· = n + 96) w τ w' τ') (hW : W = w'.setCell ⟨N,9,none⟩ v) :
 NodeAt W τ' ts n N d k i { s with waits:=L } { h with wv:=v } /\ Chg (NN n) w τ W τ':=by
 obtain ⟨h1,h2,h3⟩:=hf
 obtain ⟨mv,pv,hN,hm,hp⟩:=H.out.ex
 have hN':=hN.keep hc (by omega)
 have hc2 : Chg (· = n) w' τ' W τ':=by rw [hW];exact (Chg.refl _ _ _).setCell (p:=⟨N,9,none⟩) hN'.own _
 have hcc : Chg (fun x=>x = n \/ x = n + 96) w τ W τ':=(hc.mono fun x h=>.inr h).trans (hc2.mono fun x h=>.inl h)
 have kk (x : Nat) (h : x ≠ n /\ x ≠ n + 96) : ¬ (x = n \/ x = n + 96):=by rintro (e | e) <;> omega
 exact ⟨⟨H.id,H.asked,⟨mv,pv,by rw [hW];exact hN'.set_ 9 v,hm.keep hcc (kk _ (by omega)),hp.keep hcc (kk _ (by omega))⟩,H.store.keep hcc fun x hx h=>by unfold ST at h;rcases hx with e | e <;> omega,H.lease.keep hcc (kk _ (by omega)),H.toks.keep hcc (kk _ (by omega)),hr.keep hc2 (by omega),H.reads.keep hcc (kk _ (by omega)),H.ring.keep hcc (kk _ (by omega))⟩,hcc.mono fun x h=>by rcases h with e | e <;> omega⟩
def AskU (N S kp b : Nat) (x : PWho) (W : World) : Prop:=
 W.cell? ⟨N,0,none⟩ = some (.pointer (some ⟨S,0,none⟩)) /\ W.cell? ⟨S,2,none⟩ = some (.pointer (some ⟨kp,0,none⟩)) /\ W.cell? ⟨b,2,none⟩ = some (.int .i64 (x.op : Int)) /\ W.cell? ⟨b,3,none⟩ = some (.string x.key)
def AskK (N S T b : Nat) (x : PWho) (W : World) : Prop:=
 W.cell? ⟨N,0,none⟩ = some (.pointer (some ⟨S,0,none⟩)) /\ W.cell? ⟨N,4,none⟩ = some (.pointer (some ⟨T,0,none⟩)) /\ W.cell? ⟨b,3,none⟩ = some (.string x.key)
theorem AskK.of {W : World} {τ : Own} {ts n N d k i b : Nat} {s : PNode} {h : Hd} {x : PWho} (H : NodeAt W τ ts n N d k i s h) {t : Nat} (hX : Has W τ t b 106 (encW x).toArray) : AskK N h.S h.T b x W:=by
 obtain ⟨mv,pv,hNb,-,-⟩:=H.out.ex
 exact ⟨hNb.cell 0,hNb.cell 4,hX.cell 3⟩
theorem info212 : (Tryz.prog.info? 212).map (fun i=>(i.zero.map Value.cells,i.size,i.bytes)) = some (some #[.int .i64 0,.int .i64 0,.int .i64 0,.string ⟨#[]⟩,.int .i64 0,.int .i64 0,.int .i64 0],7,64):=by kernel_rfl
set_option maxRecDepth 20000 in
set_option maxHeartbeats 4000000 in
theorem ask121 (w : World) (τ : Own) (ts n N d k i tk now : Nat) (s s' : PNode) (h : Hd) (H : NodeAt w τ ts n N d k i s h) (hk : ClockAt w τ tk k now) (hf : Far ts n) (htk : ¬ NT ts n tk) (x : PWho) (ha : s.ask? i now x = some s') :
 Calls Tryz.prog 121 #[.pointer (some ⟨N,0,none⟩),.agg (encW x).toArray] w fun e w'=>(∃ r,e = .returned r) /\ ∃ h' τ',NodeAt w' τ' ts n N d k i s' h' /\ Chg (NT ts n) w τ w' τ':=by
 unfold PNode.ask? at ha
 split at ha
 case isFalse=>cases ha
 rename_i hg
 simp only [Bool.and_eq_true,Bool.or_eq_true,decide_eq_true_eq] at hg
 obtain ⟨⟨hsm,hks⟩,hop⟩:=hg
 split at ha
 case h_1=>cases ha
 rename_i ns hring
 have HS:=Lib.hid (PNode.small_of hsm)
 obtain ⟨W0,hW0⟩ : ∃ W,W = w.alloc (.cells (encW x).toArray 106):=⟨_,rfl⟩
 have hB0 : Blk W0 w.heap.size 106 (encW x).toArray:=by rw [hW0];exact Blk.new _ _ _
 have hc0 : Chg (fun _=>False) w τ W0 (ext τ w (n + 864)):=by rw [hW0];exact ((Chg.refl _ _ _).alloc _).ext _
 have hN0:=H.keep hc0 hf.1 (fun _ h=>h.elim)
 have hk0:=hk.keep hc0 id
 have hX0 : Has W0 (ext τ w (n + 864)) (n + 864) w.heap.size 106 (encW x).toArray:=⟨hB0,ext_new (Nat.le_refl _)⟩
 generalize ext τ w (n + 864) = τ0 at *
 have HA : Hid (∀ W,Below W0.heap.size W0 W -> ∃ τ',NodeAt W τ' ts n N d k i s h /\ Has W τ' (n + 864) w.heap.size 106 (encW x).toArray /\ ClockAt W τ' tk k now /\ Chg (fun _=>False) w τ W τ'):=Lib.hid fun W hb=>by
  have hc : Chg (fun _=>False) W0 τ0 W (ext τ0 W0 0):=Chg.of_below hb _
  exact ⟨_,hN0.keep hc hf.1 (fun _ h=>h.elim),hX0.keep hc id,hk0.keep hc id,hc0.trans hc⟩
 have hrg:=hN0.ring
 rw [hring] at hrg
 obtain ⟨r,hrv,-,hok⟩:=hrg
 have HOK:=Lib.hid hok
 have HSt : Hid (∀ W,Below W0.heap.size W0 W -> AskS N w.heap.size h.rg x W):=Lib.hid fun W hb=>by
  obtain ⟨τ',a1,a2,-⟩:=HA.out W hb
  obtain ⟨mv,pv,hNb,-,-⟩:=a1.out.ex
  exact ⟨hNb.cell 3,a2.cell 3⟩
 have S0:=Lib.hid (HSt.out W0.drew (Below.refl _ W0).drew)
 have HOf : Hid (∀ W,Below W0.heap.size W0 W -> Calls Tryz.prog 46 #[h.rg,.string x.key] W fun e w'=>e = .returned (.int .i64 (ownerK ns x.key : Int)) /\ Below W.heap.size W w'):=Lib.hid fun W hb=>by
  obtain ⟨τ',a1,-⟩:=HA.out W hb
  have:=a1.ring
  rw [hring] at this
  obtain ⟨r,e,h1,h2⟩:=this
  rw [e]
  exact of46 W τ' (n + 768) r 1 x.key ns h1 h2 (by omega)
 have HKe : Hid (∀ W,Calls Tryz.prog 164 #[.string x.key] W fun e w'=>e = .returned (.bool (keyOk x.key)) /\ W = w'):=Lib.hid fun W=>key_any W x.key (by omega)
 have HTe : Hid (∀ W err,Below W0.heap.size W0 W -> Calls Tryz.prog 112 #[.pointer (some ⟨N,0,none⟩),.agg (encW x).toArray,.int .i64 ((err : Nat) : Int),.string ⟨#[]⟩,.bool false] W fun e w'=>(∃ r,e = .returned r) /\ ∃ h' τ',NodeAt w' τ' ts n N d k i (s.tell i x err ⟨#[]⟩ false) h' /\ Chg (NT ts n) w τ w' τ'):=Lib.hid fun W err hb=>by
  obtain ⟨τ',a1,-,-,a4⟩:=HA.out W hb
  refine (nodeTell W τ' ts n N d k i s h a1 hf (by have:=HS.out.ms;omega) (by have:=HS.out.rs;omega) x err ⟨#[]⟩ false).mono ?_
  rintro e w' ⟨hr,τ2,c1,c2⟩
  exact ⟨hr,h,τ2,c1,(a4.mono fun _ h=>h.elim).trans (c2.mono fun y hy=>.inr (by have:=hf.1;rcases hy with e | e | e <;> omega))⟩
 have HF:=Lib.hid hf
 have HTK:=Lib.hid htk
 clear htk
 have HW:=Lib.hid hW0
 have HR:=Lib.hid (And.intro hring hrv)
 have HKS:=Lib.hid hks
 have HAs:=Lib.hid ha
 have hid:=H.id
 clear H hk hc0 hN0 hk0 hB0 hX0 hf hW0 hring ha hrv hok hsm hks
 obtain ⟨hSp,hLp,hidp,hrg',hTp,hwv,hrv2,hA⟩:=h
 dsimp only at *
 subst hid
 go_enter Tryz.func121,Tryz.ntmps121
 go_wp2_with (first | rw [<- HW.out] | fail)
 refine wp_region_hl [] [0,1,2,3,4,5] (AskS N w.heap.size hrg' x) (by kernel_rfl) (by kernel_rfl) S0.out ?_
 iterate 5 (refine hd_take (v:=?_) rfl rfl (by kernel_rfl) (fun W hW=>?_) ?_;rotate_left;(obtain ⟨r0,r1⟩:=hW;first | (go_simp;done) | (go_simp;with_reducible rfl)))
 refine hd_take (v:=?_) rfl rfl (by kernel_rfl) (fun W hW=>?_) (hd_end ?_)
 rotate_left
 ·obtain ⟨r0,r1⟩:=hW;first | (go_simp;done) | (go_simp;with_reducible rfl)
 simp only [List.length_cons,List.length_nil,List.drop_succ_cons,List.drop_zero,Nat.zero_add,Nat.reduceAdd]
 go_wp2_with (go_at_call 46;fail)
 refine (HOf.out _ (Below.refl _ W0).drew).mono ?_
 rintro e w1 ⟨rfl,hb1⟩
 have HB1:=Lib.hid ((Below.refl W0.heap.size W0).drew.trans (hb1.mono (Nat.le_refl _)))
 clear hb1
 generalize how : ownerK ns x.key = ow at *
 obtain ⟨τ1,a1,a2,a3,a4⟩:=HA.out w1 HB1.out
 obtain ⟨mv,pv,hNb,-,-⟩:=a1.out.ex
 have b0 : w1.cell? ⟨w.heap.size,0,none⟩ = some (.int .i64 (x.node : Int)):=a2.cell 0
 have b1 : w1.cell? ⟨w.heap.size,1,none⟩ = some (.int .i64 (x.id : Int)):=a2.cell 1
 have b2 : w1.cell? ⟨w.heap.size,2,none⟩ = some (.int .i64 (x.op : Int)):=a2.cell 2
 have b3 : w1.cell? ⟨w.heap.size,3,none⟩ = some (.string x.key):=a2.cell 3
 have c2 : w1.cell? ⟨N,2,none⟩ = some (.int .i64 (hidp : Int)):=hNb.cell 2
 have c3 : w1.cell? ⟨N,3,none⟩ = some hrg':=hNb.cell 3
 have c11 : w1.cell? ⟨N,11,none⟩ = some (.int .i64 (hA : Int)):=hNb.cell 11
 have f11:=hNb.frozen 11
 have HA1:=Lib.hid (And.intro a1 (And.intro a2 (And.intro a3 a4)))
 have HOW:=Lib.hid how
 clear a1 a2 a3 a4 hNb how
 have hf3:=field45_1
 rcases hop with hop | hop
 ·have HOP:=Lib.hid hop
  have e1 : ((x.op : Int) != 1) = false:=by rw [bne_eq_false_iff_eq];omega
  have e3 : ((x.op : Int) == 2) = false:=by rw [beq_eq_false_iff_ne];omega
  clear hop
  go_wp2_with (go_at_call 164;fail)
  refine (HKe.out w1).mono ?_
  rintro e w2 ⟨rfl,rfl⟩
  cases hkey : keyOk x.key with
  | false=>
   have hs:=HAs.out
   rw [if_neg (by rw [hkey];simp)] at hs
   injection hs with hs
   subst hs
   have HT:=Lib.hid (HTe.out w1 1 HB1.out)
   clear hkey
   go_wp2_with (go_at_call 112;fail)
   refine HT.out.mono ?_
   rintro e w3 ⟨⟨v3,rfl⟩,h3,τ3,k1,k2⟩
   have HFF:=Lib.hid (And.intro k1 k2)
   clear k1 k2
   go_wp2
   refine bodyPost_end (by first | rfl | (simp [results];rfl)) rfl ?_
   exact ⟨⟨_,rfl⟩,h3,τ3,HFF.out⟩
  | true=>
   have hs:=HAs.out
   rw [if_pos hkey] at hs
   rw [HR.out.2] at c3
   have HKy:=Lib.hid hkey
   clear hkey HAs
   by_cases how : ow = hidp
   ·rw [if_pos how] at hs
    have e5 : ((ow : Int) != (hidp : Int)) = false:=by rw [bne_eq_false_iff_eq];omega
    have HSv:=Lib.hid (serves33 w1 τ1 ts n N d k hidp tk now s _ HA1.out.1 HA1.out.2.2.1 ns HR.out.1 HS.out.f x.key (by have:=HKS.out;omega) HF.out.1)
    have HAs:=Lib.hid hs
    clear how hs
    go_wp2_with (go_at_call 33;fail)
    refine HSv.out.mono ?_
    rintro e w2 ⟨rfl,hb2⟩
    have HB2:=Lib.hid (HB1.out.trans (hb2.mono HB1.out.size))
    obtain ⟨τ2,a1,a2,a3,a4⟩:=HA.out w2 HB2.out
    obtain ⟨mv2,pv2,hNb,-,-⟩:=a1.out.ex
    have b0 : w2.cell? ⟨w.heap.size,0,none⟩ = some (.int .i64 (x.node : Int)):=a2.cell 0
    have b1 : w2.cell? ⟨w.heap.size,1,none⟩ = some (.int .i64 (x.id : Int)):=a2.cell 1
    have b2 : w2.cell? ⟨w.heap.size,2,none⟩ = some (.int .i64 (x.op : Int)):=a2.cell 2
    have b3 : w2.cell? ⟨w.heap.size,3,none⟩ = some (.string x.key):=a2.cell 3
    have c0 : w2.cell? ⟨N,0,none⟩ = some (.pointer (some ⟨hSp,0,none⟩)):=hNb.cell 0
    have c4 : w2.cell? ⟨N,4,none⟩ = some (.pointer (some ⟨hTp,0,none⟩)):=hNb.cell 4
    have HA2:=Lib.hid (And.intro a1 (And.intro a2 (And.intro a3 a4)))
    clear a1 a2 a3 a4 hNb hb2 HSv
    cases hsv : servesF s hidp now ns x.key with
    | false=>
     have hs:=HAs.out
     rw [if_neg (by rw [hsv];simp)] at hs
     injection hs with hs
     subst hs
     have HT:=Lib.hid (HTe.out w2 6 HB2.out)
     clear hsv HAs
     go_wp2_with (go_at_call 112;fail)
     refine HT.out.mono ?_
     rintro e w3 ⟨⟨v3,rfl⟩,h3,τ3,k1,k2⟩
     have HFF:=Lib.hid (And.intro k1 k2)
     clear k1 k2
     go_wp2
     refine bodyPost_end (by first | rfl | (simp [results];rfl)) rfl ?_
     exact ⟨⟨_,rfl⟩,h3,τ3,HFF.out⟩
    | true=>
     have hs:=HAs.out
     rw [if_pos hsv] at hs
     clear hsv HAs
     rw [if_neg (by have:=HOP.out;omega)] at hs
     obtain ⟨rr,hrr,hs⟩:=Option.map_eq_some_iff.1 hs
     have HG:=Lib.hid (get168 w2 τ2 ts n N d k hidp tk now s _ HA2.out.1 HA2.out.2.2.1 HF.out (by have:=HS.out.ms;omega) (by have:=HS.out.rs;omega) (by have:=HS.out.reads;omega) (by have:=HS.out.toks;omega) x (by have:=HKS.out;omega) rr hrr)
     subst hs
     clear hrr
     go_wp2_with (go_at_call 168;fail)
     refine HG.out.mono ?_
     rintro e w3 ⟨⟨v3,rfl⟩,h3,τ3,k1,k2⟩
     have HFF:=Lib.hid (And.intro k1 ((HA2.out.2.2.2.mono fun _ h=>h.elim).trans (k2.mono fun y hy=>(show NT ts n y from .inr hy))))
     clear k1 k2
     go_wp2
     refine bodyPost_end (by first | rfl | (simp [results];rfl)) rfl ?_
     exact ⟨⟨_,rfl⟩,h3,τ3,HFF.out⟩
   ·rw [if_neg how] at hs
    injection hs with hs
    have e5 : ((ow : Int) != (hidp : Int)) = true:=by simp;omega
    have HAs:=Lib.hid hs
    clear how hs
    have hAs:=HA1.out.1.asked
    dsimp only at hAs
    have kA : (hA : Int) <= 1000000:=by have:=HS.out.asked;omega
    have kA0 : (0 : Int) <= (hA : Int):=by omega
    have HAE:=Lib.hid hAs
    clear hAs
    go_wp2_with fail
    have hn95:=HF.out.1
    obtain ⟨q,hq⟩ : ∃ q : Nat,q = hA + 1:=⟨hA + 1,rfl⟩
    have hqi : (hA : Int) + 1 = (q : Int):=by omega
    rw [hqi]
    have kQ : (q : Int) <= 1000001:=by omega
    have kQ0 : (0 : Int) <= (q : Int):=by omega
    obtain ⟨W3,hW3⟩ : ∃ W,W = w1.setCell ⟨N,11,none⟩ (.int .i64 (q : Int)):=⟨_,rfl⟩
    rw [<- hW3]
    obtain ⟨hN3,hc3⟩:=HA1.out.1.setAsked HF.out q hW3
    have hX3:=HA1.out.2.1.keep hc3 (by omega)
    have hk3:=HA1.out.2.2.1
    have hcd : Chg (fun _=>False) W3 τ1 W3.drew τ1:=(Chg.refl _ _ _).drew
    have hNd:=hN3.keep hcd HF.out.1 (fun _ h=>h.elim)
    have hXd:=hX3.keep hcd id
    have S3:=Lib.hid (AskT.of hNd hXd)
    have HSta:=Lib.hid (started165 W3.drew τ1 ts hSp d _ _ _ _ hNd.store)
    have HQ:=Lib.hid (And.intro hq hqi)
    have HNd:=Lib.hid hNd
    have HXd:=Lib.hid hXd
    have HCd:=Lib.hid ((HA1.out.2.2.2.mono fun _ h=>h.elim).trans ((hc3.trans (hcd.mono fun _ h=>h.elim)).mono fun y hy=>(show NN n y by unfold NN;omega)) : Chg (NN n) w τ W3.drew τ1)
    have HCk : Hid (Chg (fun x=>x = n \/ False) w1 τ1 W3.drew τ1):=Lib.hid ((hc3.mono fun _ h=>.inl h).trans (hcd.mono fun _ h=>h.elim))
    clear hN3 hc3 hX3 hk3 hcd hNd hXd hq hqi hW3
    refine wp_region_hl [4] [0,1,2,3,6,7,8,9,4,5] (AskT N hSp hLp k w.heap.size (q : Int) hwv x) (by kernel_rfl) (by kernel_rfl) S3.out ?_
    iterate 8 (refine hd_take (v:=?_) rfl rfl (by kernel_rfl) (fun W hW=>?_) ?_;rotate_left;(obtain ⟨r0,r1,r2,r3,r4,r5,r6,r7,r8⟩:=hW;first | (go_simp;done) | (go_simp;with_reducible rfl)))
    refine hd_loud rfl rfl fun K hK=>?_
    go_simp
    refine HSta.out.mono ?_
    rintro e w4 ⟨rfl,rfl⟩
    refine hK _ _ S3.out ?_
    clear hK
    refine hd_take (v:=.int .i64 1048576) rfl rfl (by kernel_rfl) (fun W hW=>?_) (hd_end ?_)
    ·go_simp;rfl
    simp only [List.length_cons,List.length_nil,List.drop_succ_cons,List.drop_zero,Nat.zero_add,Nat.reduceAdd]
    go_wp2_with fail
    generalize hW4 : W3.drew = W4 at *
    obtain ⟨id',hid'⟩ : ∃ a : Nat,a = 1048576 + q:=⟨_,rfl⟩
    have hidi : (1048576 : Int) + (q : Int) = (id' : Int):=by omega
    rw [hidi]
    have HID:=Lib.hid hid'
    have hcd : Chg (fun _=>False) W4 τ1 W4.drew τ1:=(Chg.refl _ _ _).drew
    have hNd:=HNd.out.keep hcd HF.out.1 (fun _ h=>h.elim)
    have hXd:=HXd.out.keep hcd id
    have S4:=Lib.hid (AskT.of hNd hXd)
    have hkd : ClockAt W4.drew τ1 tk k now:=(HA1.out.2.2.1.keep HCk.out (by rintro (e | e);exact HTK.out (.inr (by omega));exact e.elim)).keep hcd id
    have HNo:=Lib.hid (now61 W4.drew τ1 tk k now hkd)
    have HN4:=Lib.hid hNd
    have HX4:=Lib.hid hXd
    have HC4:=Lib.hid (HCd.out.trans (hcd.mono fun _ h=>h.elim))
    clear hcd hNd hXd hkd hid' hidi hW4
    refine wp_region_hl [15,17,18] [0,1,2,3,4,5,6,7,8,9,10,11,12,13,14,15,16,17,18] (AskT N hSp hLp k w.heap.size (q : Int) hwv x) (by kernel_rfl) (by kernel_rfl) S4.out ?_
    iterate 15 (refine hd_take (v:=?_) rfl rfl (by kernel_rfl) (fun W hW=>?_) ?_;rotate_left;(obtain ⟨r0,r1,r2,r3,r4,r5,r6,r7,r8⟩:=hW;first | (go_simp;done) | (go_simp;with_reducible rfl)))
    refine hd_loud rfl rfl fun K hK=>?_
    go_simp
    refine HNo.out.mono ?_
    rintro e w5 ⟨rfl,rfl⟩
    refine hK _ _ S4.out ?_
    clear hK
    refine hd_take (v:=?_) rfl rfl (by kernel_rfl) (fun W hW=>?_) ?_
    rotate_left
    ·first | (go_simp;done) | (go_simp;with_reducible rfl)
    obtain ⟨y,hy⟩ : ∃ y : PWait,y = ⟨x,id',ow,now⟩:=⟨_,rfl⟩
    have hca : Chg (fun _=>False) W4.drew τ1 (W4.drew.alloc (.cells (encT y).toArray 212)) τ1:=(Chg.refl _ _ _).alloc _
    have hra : Rw (W4.drew.alloc (.cells (encT y).toArray 212)) τ1 (n + 96) 212 7 hwv s.waits.length (s.waits.flatMap encT):=HN4.out.waits.keep hca id
    have hXa:=HX4.out.keep hca id
    have S5:=Lib.hid (AskT.of (HN4.out.keep hca HF.out.1 (fun _ h=>h.elim)) hXa)
    have hya : encT y = [.int .i64 (x.node : Int),.int .i64 (x.id : Int),.int .i64 (x.op : Int),.string x.key,.int .i64 (id' : Int),.int .i64 (ow : Int),.int .i64 (now : Int)]:=by rw [hy];rfl
    refine hd_loud rfl rfl fun K hK=>?_
    go_simp
    rw [<- hya]
    refine hK _ _ S5.out ?_
    clear hK
    refine hd_loud rfl rfl fun K hK=>?_
    refine st_app rfl rfl τ1 (n + 96) (by kernel_rfl) info212 rfl (by decide) (by decide) rfl hra rfl rfl (Blk.new _ _ _).sl (encT_one y) (by have:=HS.out.waits;omega) ?_
    intro g6 cap6 w6 hr6 hc6 hg6
    generalize ext τ1 _ (n + 96) = τ6 at hr6 hc6
    have hcB : Chg (· = n + 96) W4.drew τ1 w6 τ6:=(hca.mono fun _ h=>h.elim).trans hc6
    have hX6:=hXa.keep hc6 (by omega)
    obtain ⟨mv6,pv6,hNb6,-,-⟩:=HN4.out.out.ex
    have hNb7:=hNb6.keep hcB (by omega)
    have d9:=hNb7.cell 9
    have g9:=hNb7.frozen 9
    obtain ⟨L,hL⟩ : ∃ L : List PWait,L = s.waits ++ [y]:=⟨_,rfl⟩
    have eL1 : L.length = s.waits.length + 1:=by rw [hL];simp
    have eL2 : L.flatMap encT = s.waits.flatMap encT ++ encT y:=by rw [hL];simp
    have hr7 : Rw w6 τ6 (n + 96) 212 7 (.slice (some ⟨g6,0,none⟩) (s.waits.length + 1) cap6) L.length (L.flatMap encT):=by rw [eL1,eL2];exact hr6
    obtain ⟨W7,hW7⟩ : ∃ W,W = w6.setCell ⟨N,9,none⟩ (.slice (some ⟨g6,0,none⟩) (s.waits.length + 1) cap6):=⟨_,rfl⟩
    obtain ⟨hN7,hc7⟩:=HN4.out.setWaits2 HF.out hr7 hcB hW7
    have S6 : Hid (AskT N hSp hLp k w.heap.size (q : Int) hwv x w6):=Lib.hid ⟨hNb7.cell 0,hNb7.cell 11,hNb7.cell 9,hNb7.cell 1,(HN4.out.lease.keep hcB (by omega)).cell 0,hX6.cell 0,hX6.cell 1,hX6.cell 2,hX6.cell 3⟩
    have hX7 : Has W7 τ6 (n + 864) w.heap.size 106 (encW x).toArray:=hX6.keep (by rw [hW7];exact (Chg.refl _ _ _).setCell (p:=⟨N,9,none⟩) hNb7.own _ : Chg (· = n) w6 τ6 W7 τ6) (by omega)
    have HW7:=Lib.hid hW7
    have HN7:=Lib.hid hN7
    have HX7:=Lib.hid hX7
    have HC7:=Lib.hid (HC4.out.trans hc7)
    have HL:=Lib.hid (And.intro hL hy)
    clear hr6 hr7 eL1 hc6 hg6 hcB hX6 hNb6 hNb7 hN7 hc7 hX7 hca hra hXa hL hy eL2 hW7 hya
    refine hK _ _ S6.out (hd_end ?_)
    clear hK
    simp only [List.length_cons,List.length_nil,List.drop_succ_cons,List.drop_zero,Nat.zero_add,Nat.reduceAdd]
    go_wp2_with (first | rw [<- HW7.out] | fail)
    have hcd : Chg (fun _=>False) W7 τ6 W7.drew τ6:=(Chg.refl _ _ _).drew
    have hNd:=HN7.out.keep hcd HF.out.1 (fun _ h=>h.elim)
    have hXd:=HX7.out.keep hcd id
    obtain ⟨cf,jf,kp,hSS,-,-,hKK,-⟩:=hNd.store.ex
    obtain ⟨mv8,pv8,hNb8,-,-⟩:=hNd.out.ex
    have HSU : Hid (∀ W,Below W7.drew.heap.size W7.drew W -> AskU N hSp kp w.heap.size x W):=Lib.hid fun W hb=>by
     have hc : Chg (fun _=>False) W7.drew τ6 W (ext τ6 W7.drew 0):=Chg.of_below hb _
     have a1:=hNb8.keep hc id
     have a2:=hXd.keep hc id
     exact ⟨a1.cell 0,(hSS.keep hc id).cell 2,a2.cell 2,a2.cell 3⟩
    have S8:=Lib.hid (HSU.out _ (Below.refl _ _))
    have HMe:=Lib.hid (meta48 W7.drew τ6 (ts + 1) kp d 0 s.tn s.m hKK)
    have HN8:=Lib.hid hNd
    have HC8:=Lib.hid (HC7.out.trans (hcd.mono fun _ h=>h.elim))
    clear hcd hNd hXd hSS hKK hNb8
    refine wp_region_hl [14,17] [0,1,2,3,4,5,6,7,8,9,10,11,12,13,14,15,16,17] (AskU N hSp kp w.heap.size x) (by kernel_rfl) (by kernel_rfl) S8.out ?_
    iterate 14 (refine hd_take (v:=?_) rfl rfl (by kernel_rfl) (fun W hW=>?_) ?_;rotate_left;(obtain ⟨r0,r1,r2,r3⟩:=hW;first | (go_simp;done) | (go_simp;with_reducible rfl)))
    refine hd_loud rfl rfl fun K hK=>?_
    go_simp
    refine HMe.out.mono ?_
    rintro e w8 ⟨rfl,hb8⟩
    have HB8:=Lib.hid hb8
    clear hb8
    refine hK _ _ (HSU.out w8 HB8.out) ?_
    clear hK
    refine hd_take (v:=?_) rfl rfl (by kernel_rfl) (fun W hW=>?_) ?_
    rotate_left
    ·first | (go_simp;done) | (go_simp;with_reducible rfl)
    obtain ⟨M,hM⟩ : ∃ M : PMsg,M = ⟨13,0,ow,s.m.e,0,id',x.op,x.key,0,⟨#[]⟩,⟨#[]⟩,false,[]⟩:=⟨_,rfl⟩
    have HMs:=Lib.hid hM
    clear hM
    refine hd_take (v:=.agg (msgV M nils).toArray) rfl rfl (by kernel_rfl) (fun W hW=>?_) ?_
    ·rw [HMs.out]
     go_simp
     rfl
    refine hd_loud rfl rfl fun K hK=>?_
    have hlm : (msgV M nils).length = 21:=rfl
    go_simp
    generalize hcs : List.foldl _ _ _ = cs
    obtain rfl : cs = (msgV M nils).toArray:=by rw [<- hcs];exact build_msg M nils
    clear hcs
    have hc8 : Chg (fun _=>False) W7.drew τ6 w8 (ext τ6 W7.drew (n + 864)):=Chg.of_below HB8.out _
    have hc9 : Chg (fun _=>False) W7.drew τ6 (w8.alloc (.cells (msgV M nils).toArray 182)) (ext (ext τ6 W7.drew (n + 864)) w8 (n + 864)):=hc8.trans (((Chg.refl _ _ _).alloc _).ext _)
    have HSy:=Lib.hid (nodeSay (w8.alloc (.cells (msgV M nils).toArray 182)) _ ts n N d k hidp _ _ (HN8.out.keep hc9 HF.out.1 (fun _ h=>h.elim)) HF.out (by have:=HS.out.ms;dsimp only;omega) w8.heap.size 1 M (Blk.new _ _ _) (by rw [ext_new (Nat.le_refl _)];omega))
    have HC9:=Lib.hid (HC8.out.trans (hc9.mono fun _ h=>h.elim))
    clear hc8 hc9
    refine hK _ _ (HSU.out _ (HB8.out.alloc HB8.out.size _)) (hd_end ?_)
    clear hK
    simp only [List.length_cons,List.length_nil,List.drop_succ_cons,List.drop_zero,Nat.zero_add,Nat.reduceAdd]
    go_wp2_with (go_at_call 109;fail)
    refine HSy.out.mono ?_
    rintro e w10 ⟨⟨v10,rfl⟩,τ10,k1,k2⟩
    have hs' : s' = _:=HAs.out.symm
    have HFF : Hid (NodeAt w10 τ10 ts n N d k hidp s' _ /\ Chg (NT ts n) w τ w10 τ10):=Lib.hid (by
     refine ⟨?_,(HC9.out.mono fun y hy=>(show NT ts n y from .inr hy)).trans (k2.mono fun y hy=>(show NT ts n y from .inr (by rcases hy with e | e | e <;> omega)))⟩
     rw [hs']
     have e1:=HL.out.1
     rw [HL.out.2,HID.out,HQ.out.1] at e1
     unfold PNode.askF askMsg
     rw [HMs.out,e1,HID.out,HQ.out.1,HAE.out] at k1
     exact k1)
    clear k1 k2 hs'
    go_wp2
    refine bodyPost_end (by first | rfl | (simp [results];rfl)) rfl ?_
    exact ⟨⟨_,rfl⟩,_,τ10,HFF.out⟩
 ·have HOP:=Lib.hid hop
  have e1 : ((x.op : Int) != 1) = true:=by simp;omega
  have e2 : ((x.op : Int) != 2) = false:=by rw [bne_eq_false_iff_eq];omega
  have e3 : ((x.op : Int) == 2) = true:=by rw [beq_iff_eq];omega
  clear hop
  go_wp2_with (go_at_call 164;fail)
  refine (HKe.out w1).mono ?_
  rintro e w2 ⟨rfl,rfl⟩
  cases hkey : keyOk x.key with
  | false=>
   have hs:=HAs.out
   rw [if_neg (by rw [hkey];simp)] at hs
   injection hs with hs
   subst hs
   have HT:=Lib.hid (HTe.out w1 1 HB1.out)
   clear hkey
   go_wp2_with (go_at_call 112;fail)
   refine HT.out.mono ?_
   rintro e w3 ⟨⟨v3,rfl⟩,h3,τ3,k1,k2⟩
   have HFF:=Lib.hid (And.intro k1 k2)
   clear k1 k2
   go_wp2
   refine bodyPost_end (by first | rfl | (simp [results];rfl)) rfl ?_
   exact ⟨⟨_,rfl⟩,h3,τ3,HFF.out⟩
  | true=>
   have hs:=HAs.out
   rw [if_pos hkey] at hs
   rw [HR.out.2] at c3
   have HKy:=Lib.hid hkey
   clear hkey HAs
   by_cases how : ow = hidp
   ·rw [if_pos how] at hs
    have e5 : ((ow : Int) != (hidp : Int)) = false:=by rw [bne_eq_false_iff_eq];omega
    have HSv:=Lib.hid (serves33 w1 τ1 ts n N d k hidp tk now s _ HA1.out.1 HA1.out.2.2.1 ns HR.out.1 HS.out.f x.key (by have:=HKS.out;omega) HF.out.1)
    have HAs:=Lib.hid hs
    clear how hs
    go_wp2_with (go_at_call 33;fail)
    refine HSv.out.mono ?_
    rintro e w2 ⟨rfl,hb2⟩
    have HB2:=Lib.hid (HB1.out.trans (hb2.mono HB1.out.size))
    obtain ⟨τ2,a1,a2,a3,a4⟩:=HA.out w2 HB2.out
    obtain ⟨mv2,pv2,hNb,-,-⟩:=a1.out.ex
    have b0 : w2.cell? ⟨w.heap.size,0,none⟩ = some (.int .i64 (x.node : Int)):=a2.cell 0
    have b1 : w2.cell? ⟨w.heap.size,1,none⟩ = some (.int .i64 (x.id : Int)):=a2.cell 1
    have b2 : w2.cell? ⟨w.heap.size,2,none⟩ = some (.int .i64 (x.op : Int)):=a2.cell 2
    have b3 : w2.cell? ⟨w.heap.size,3,none⟩ = some (.string x.key):=a2.cell 3
    have c0 : w2.cell? ⟨N,0,none⟩ = some (.pointer (some ⟨hSp,0,none⟩)):=hNb.cell 0
    have c4 : w2.cell? ⟨N,4,none⟩ = some (.pointer (some ⟨hTp,0,none⟩)):=hNb.cell 4
    have HA2:=Lib.hid (And.intro a1 (And.intro a2 (And.intro a3 a4)))
    clear a1 a2 a3 a4 hNb hb2 HSv
    cases hsv : servesF s hidp now ns x.key with
    | false=>
     have hs:=HAs.out
     rw [if_neg (by rw [hsv];simp)] at hs
     injection hs with hs
     subst hs
     have HT:=Lib.hid (HTe.out w2 6 HB2.out)
     clear hsv HAs
     go_wp2_with (go_at_call 112;fail)
     refine HT.out.mono ?_
     rintro e w3 ⟨⟨v3,rfl⟩,h3,τ3,k1,k2⟩
     have HFF:=Lib.hid (And.intro k1 k2)
     clear k1 k2
     go_wp2
     refine bodyPost_end (by first | rfl | (simp [results];rfl)) rfl ?_
     exact ⟨⟨_,rfl⟩,h3,τ3,HFF.out⟩
    | true=>
     have hs:=HAs.out
     rw [if_pos hsv] at hs
     clear hsv HAs
     rw [if_pos HOP.out] at hs
     obtain ⟨fs',hfs,hs⟩:=Option.map_eq_some_iff.1 hs
     have HFS:=Lib.hid hfs
     subst hs
     clear hfs
     have S2 : Hid (AskK N hSp hTp w.heap.size x w2.drew):=Lib.hid (by
      obtain ⟨q1,q2,q3⟩:=AskK.of HA2.out.1 HA2.out.2.1
      exact ⟨q1,q2,q3⟩)
     go_wp2_with fail
     refine wp_region_hl [6] [0,1,2,3,4,5,6] (AskK N hSp hTp w.heap.size x) (by kernel_rfl) (by kernel_rfl) S2.out ?_
     iterate 6 (refine hd_take (v:=?_) rfl rfl (by kernel_rfl) (fun W hW=>?_) ?_;rotate_left;(obtain ⟨r0,r1,r2⟩:=hW;first | (go_simp;done) | (go_simp;with_reducible rfl)))
     have hn95:=HF.out.1
     obtain ⟨W3,hW3⟩ : ∃ W,W = (w2.alloc (.cells #[.string x.key] 9)).drew:=⟨_,rfl⟩
     have hc3 : Chg (fun _=>False) w2 τ2 W3 (ext τ2 w2 (n + 864)):=by rw [hW3];exact (((Chg.refl _ _ _).alloc _).drew).ext _
     have hN3:=HA2.out.1.keep hc3 HF.out.1 (fun _ h=>h.elim)
     have hX3:=HA2.out.2.1.keep hc3 id
     have hK3 : Has W3 (ext τ2 w2 (n + 864)) (n + 864) w2.heap.size 9 #[.string x.key]:=⟨by rw [hW3];exact (Blk.new _ _ _).drew,ext_new (Nat.le_refl _)⟩
     have S3 : Hid (AskK N hSp hTp w.heap.size x W3):=Lib.hid (AskK.of hN3 hX3)
     have HTo:=Lib.hid (tokKill W3 (ext τ2 w2 (n + 864)) (n + 672) hTp s.toks hN3.toks (by have:=HS.out.toks;omega) x.key w2.heap.size 0 1 (hK3.cell 0) (by rw [hK3.own];omega))
     have HN3:=Lib.hid hN3
     have HX3:=Lib.hid hX3
     have HC3:=Lib.hid hc3
     have HW3:=Lib.hid hW3
     clear hN3 hX3 hK3 hc3 hW3
     refine hd_loud rfl rfl fun K hK=>?_
     go_simp
     rw [<- HW3.out]
     refine hK _ _ S3.out (hd_end ?_)
     clear hK
     simp only [List.length_cons,List.length_nil,List.drop_succ_cons,List.drop_zero,Nat.zero_add,Nat.reduceAdd]
     go_wp2_with (go_at_call 166;fail)
     refine HTo.out.mono ?_
     rintro e w4 ⟨⟨v4,rfl⟩,ht4,hc4⟩
     have hN4:=HN3.out.setToks HF.out ht4 hc4
     have hX4:=HX3.out.keep hc4 (by omega)
     generalize ext τ2 w2 (n + 864) = τ3 at *
     have hc24 : Chg (NN n) w τ w4 τ3:=((HA2.out.2.2.2.trans HC3.out).mono fun _ h=>h.elim).trans (hc4.mono fun y hy=>(show NN n y by unfold NN;omega))
     have S4 : Hid (AskK N hSp hTp w.heap.size x w4.drew):=Lib.hid (by
      obtain ⟨q1,q2,q3⟩:=AskK.of hN4 hX4
      exact ⟨q1,q2,q3⟩)
     obtain ⟨W5,hW5⟩ : ∃ W,W = (w4.alloc (.cells #[.string x.key] 9)).drew:=⟨_,rfl⟩
     have hc5 : Chg (fun _=>False) w4 τ3 W5 (ext τ3 w4 (n + 864)):=by rw [hW5];exact (((Chg.refl _ _ _).alloc _).drew).ext _
     have hN5:=hN4.keep hc5 HF.out.1 (fun _ h=>h.elim)
     have hX5:=hX4.keep hc5 id
     have hK5 : Has W5 (ext τ3 w4 (n + 864)) (n + 864) w4.heap.size 9 #[.string x.key]:=⟨by rw [hW5];exact (Blk.new _ _ _).drew,ext_new (Nat.le_refl _)⟩
     have S5 : Hid (AskK N hSp hTp w.heap.size x W5):=Lib.hid (AskK.of hN5 hX5)
     have HKi:=Lib.hid (kill167 W5 (ext τ3 w4 (n + 864)) ts hSp d s.cnt s.tn s.fs fs' s.m x.key w4.heap.size 0 1 hN5.store HKy.out HS.out.cnt HFS.out (hK5.cell 0) ⟨hK5.lt,by rw [hK5.own];obtain ⟨g1,g2,g3⟩:=HF.out;unfold ST;omega⟩)
     have HN5:=Lib.hid hN5
     have HX5:=Lib.hid hX5
     have HW5:=Lib.hid hW5
     have HC5:=Lib.hid (hc24.trans (hc5.mono fun _ h=>h.elim))
     generalize hτ5 : ext τ3 w4 (n + 864) = τ5 at HKi HN5 HX5 HC5
     clear hN5 hX5 hK5 hc5 hW5 hc24 hN4 hX4 ht4 hc4 HTo HN3 HX3 HC3 HW3 hτ5
     go_wp2_with fail
     refine wp_region_hl [6,7] [0,1,2,3,4,5,6,7,8,9,10,11] (AskK N hSp hTp w.heap.size x) (by kernel_rfl) (by kernel_rfl) S4.out ?_
     iterate 6 (refine hd_take (v:=?_) rfl rfl (by kernel_rfl) (fun W hW=>?_) ?_;rotate_left;(obtain ⟨r0,r1,r2⟩:=hW;first | (go_simp;done) | (go_simp;with_reducible rfl)))
     refine hd_loud rfl rfl fun K hK=>?_
     go_simp
     rw [<- HW5.out]
     refine hK _ _ S5.out ?_
     clear hK
     refine hd_loud rfl rfl fun K hK=>?_
     go_simp
     refine HKi.out.mono ?_
     rintro e w6 ⟨rfl,τ6,hs6,hc6⟩
     have hN6:=HN5.out.setStore HF.out hs6 hc6
     have hX6:=HX5.out.keep hc6 (by obtain ⟨g1,g2,g3⟩:=HF.out;unfold ST;omega)
     have S6:=Lib.hid (AskK.of hN6 hX6)
     have b0 : w6.cell? ⟨w.heap.size,0,none⟩ = some (.int .i64 (x.node : Int)):=hX6.cell 0
     have b1 : w6.cell? ⟨w.heap.size,1,none⟩ = some (.int .i64 (x.id : Int)):=hX6.cell 1
     have b2 : w6.cell? ⟨w.heap.size,2,none⟩ = some (.int .i64 (x.op : Int)):=hX6.cell 2
     have b3 : w6.cell? ⟨w.heap.size,3,none⟩ = some (.string x.key):=hX6.cell 3
     have HT:=Lib.hid (nodeTell w6 τ6 ts n N d k hidp _ _ hN6 HF.out (by have:=HS.out.ms;dsimp only;omega) (by have:=HS.out.rs;dsimp only;omega) x 0 ⟨#[]⟩ false)
     have HC6:=Lib.hid ((HC5.out.mono fun y hy=>(show NT ts n y from .inr hy)).trans (hc6.mono fun y hy=>(show NT ts n y from .inl hy)))
     clear hN6 hX6 hs6 hc6
     refine hK _ _ S6.out ?_
     clear hK
     iterate 3 (refine hd_take (v:=?_) rfl rfl (by kernel_rfl) (fun W hW=>?_) ?_;rotate_left;(first | (go_simp;done) | (go_simp;with_reducible rfl)))
     refine hd_take (v:=?_) rfl rfl (by kernel_rfl) (fun W hW=>?_) (hd_end ?_)
     rotate_left
     ·first | (go_simp;done) | (go_simp;with_reducible rfl)
     simp only [List.length_cons,List.length_nil,List.drop_succ_cons,List.drop_zero,Nat.zero_add,Nat.reduceAdd]
     go_wp2_with (go_at_call 112;fail)
     refine HT.out.mono ?_
     rintro e w7 ⟨⟨v7,rfl⟩,τ7,k1,k2⟩
     have HFF:=Lib.hid (And.intro k1 (HC6.out.trans (k2.mono fun y hy=>(show NT ts n y from .inr (by have:=HF.out.1;rcases hy with e | e | e <;> omega)))))
     clear k1 k2
     go_wp2
     refine bodyPost_end (by first | rfl | (simp [results];rfl)) rfl ?_
     exact ⟨⟨_,rfl⟩,_,τ7,HFF.out⟩
   ·rw [if_neg how] at hs
    injection hs with hs
    have e5 : ((ow : Int) != (hidp : Int)) = true:=by simp;omega
    have HAs:=Lib.hid hs
    clear how hs
    have hAs:=HA1.out.1.asked
    dsimp only at hAs
    have kA : (hA : Int) <= 1000000:=by have:=HS.out.asked;omega
    have kA0 : (0 : Int) <= (hA : Int):=by omega
    have HAE:=Lib.hid hAs
    clear hAs
    go_wp2_with fail
    have hn95:=HF.out.1
    obtain ⟨q,hq⟩ : ∃ q : Nat,q = hA + 1:=⟨hA + 1,rfl⟩
    have hqi : (hA : Int) + 1 = (q : Int):=by omega
    rw [hqi]
    have kQ : (q : Int) <= 1000001:=by omega
    have kQ0 : (0 : Int) <= (q : Int):=by omega
    obtain ⟨W3,hW3⟩ : ∃ W,W = w1.setCell ⟨N,11,none⟩ (.int .i64 (q : Int)):=⟨_,rfl⟩
    rw [<- hW3]
    obtain ⟨hN3,hc3⟩:=HA1.out.1.setAsked HF.out q hW3
    have hX3:=HA1.out.2.1.keep hc3 (by omega)
    have hk3:=HA1.out.2.2.1
    have hcd : Chg (fun _=>False) W3 τ1 W3.drew τ1:=(Chg.refl _ _ _).drew
    have hNd:=hN3.keep hcd HF.out.1 (fun _ h=>h.elim)
    have hXd:=hX3.keep hcd id
    have S3:=Lib.hid (AskT.of hNd hXd)
    have HSta:=Lib.hid (started165 W3.drew τ1 ts hSp d _ _ _ _ hNd.store)
    have HQ:=Lib.hid (And.intro hq hqi)
    have HNd:=Lib.hid hNd
    have HXd:=Lib.hid hXd
    have HCd:=Lib.hid ((HA1.out.2.2.2.mono fun _ h=>h.elim).trans ((hc3.trans (hcd.mono fun _ h=>h.elim)).mono fun y hy=>(show NN n y by unfold NN;omega)) : Chg (NN n) w τ W3.drew τ1)
    have HCk : Hid (Chg (fun x=>x = n \/ False) w1 τ1 W3.drew τ1):=Lib.hid ((hc3.mono fun _ h=>.inl h).trans (hcd.mono fun _ h=>h.elim))
    clear hN3 hc3 hX3 hk3 hcd hNd hXd hq hqi hW3
    refine wp_region_hl [4] [0,1,2,3,6,7,8,9,4,5] (AskT N hSp hLp k w.heap.size (q : Int) hwv x) (by kernel_rfl) (by kernel_rfl) S3.out ?_
    iterate 8 (refine hd_take (v:=?_) rfl rfl (by kernel_rfl) (fun W hW=>?_) ?_;rotate_left;(obtain ⟨r0,r1,r2,r3,r4,r5,r6,r7,r8⟩:=hW;first | (go_simp;done) | (go_simp;with_reducible rfl)))
    refine hd_loud rfl rfl fun K hK=>?_
    go_simp
    refine HSta.out.mono ?_
    rintro e w4 ⟨rfl,rfl⟩
    refine hK _ _ S3.out ?_
    clear hK
    refine hd_take (v:=.int .i64 1048576) rfl rfl (by kernel_rfl) (fun W hW=>?_) (hd_end ?_)
    ·go_simp;rfl
    simp only [List.length_cons,List.length_nil,List.drop_succ_cons,List.drop_zero,Nat.zero_add,Nat.reduceAdd]
    go_wp2_with fail
    generalize hW4 : W3.drew = W4 at *
    obtain ⟨id',hid'⟩ : ∃ a : Nat,a = 1048576 + q:=⟨_,rfl⟩
    have hidi : (1048576 : Int) + (q : Int) = (id' : Int):=by omega
    rw [hidi]
    have HID:=Lib.hid hid'
    have hcd : Chg (fun _=>False) W4 τ1 W4.drew τ1:=(Chg.refl _ _ _).drew
    have hNd:=HNd.out.keep hcd HF.out.1 (fun _ h=>h.elim)
    have hXd:=HXd.out.keep hcd id
    have S4:=Lib.hid (AskT.of hNd hXd)
    have hkd : ClockAt W4.drew τ1 tk k now:=(HA1.out.2.2.1.keep HCk.out (by rintro (e | e);exact HTK.out (.inr (by omega));exact e.elim)).keep hcd id
    have HNo:=Lib.hid (now61 W4.drew τ1 tk k now hkd)
    have HN4:=Lib.hid hNd
    have HX4:=Lib.hid hXd
    have HC4:=Lib.hid (HCd.out.trans (hcd.mono fun _ h=>h.elim))
    clear hcd hNd hXd hkd hid' hidi hW4
    refine wp_region_hl [15,17,18] [0,1,2,3,4,5,6,7,8,9,10,11,12,13,14,15,16,17,18] (AskT N hSp hLp k w.heap.size (q : Int) hwv x) (by kernel_rfl) (by kernel_rfl) S4.out ?_
    iterate 15 (refine hd_take (v:=?_) rfl rfl (by kernel_rfl) (fun W hW=>?_) ?_;rotate_left;(obtain ⟨r0,r1,r2,r3,r4,r5,r6,r7,r8⟩:=hW;first | (go_simp;done) | (go_simp;with_reducible rfl)))
    refine hd_loud rfl rfl fun K hK=>?_
    go_simp
    refine HNo.out.mono ?_
    rintro e w5 ⟨rfl,rfl⟩
    refine hK _ _ S4.out ?_
    clear hK
    refine hd_take (v:=?_) rfl rfl (by kernel_rfl) (fun W hW=>?_) ?_
    rotate_left
    ·first | (go_simp;done) | (go_simp;with_reducible rfl)
    obtain ⟨y,hy⟩ : ∃ y : PWait,y = ⟨x,id',ow,now⟩:=⟨_,rfl⟩
    have hca : Chg (fun _=>False) W4.drew τ1 (W4.drew.alloc (.cells (encT y).toArray 212)) τ1:=(Chg.refl _ _ _).alloc _
    have hra : Rw (W4.drew.alloc (.cells (encT y).toArray 212)) τ1 (n + 96) 212 7 hwv s.waits.length (s.waits.flatMap encT):=HN4.out.waits.keep hca id
    have hXa:=HX4.out.keep hca id
    have S5:=Lib.hid (AskT.of (HN4.out.keep hca HF.out.1 (fun _ h=>h.elim)) hXa)
    have hya : encT y = [.int .i64 (x.node : Int),.int .i64 (x.id : Int),.int .i64 (x.op : Int),.string x.key,.int .i64 (id' : Int),.int .i64 (ow : Int),.int .i64 (now : Int)]:=by rw [hy];rfl
    refine hd_loud rfl rfl fun K hK=>?_
    go_simp
    rw [<- hya]
    refine hK _ _ S5.out ?_
    clear hK
    refine hd_loud rfl rfl fun K hK=>?_
    refine st_app rfl rfl τ1 (n + 96) (by kernel_rfl) info212 rfl (by decide) (by decide) rfl hra rfl rfl (Blk.new _ _ _).sl (encT_one y) (by have:=HS.out.waits;omega) ?_
    intro g6 cap6 w6 hr6 hc6 hg6
    generalize ext τ1 _ (n + 96) = τ6 at hr6 hc6
    have hcB : Chg (· = n + 96) W4.drew τ1 w6 τ6:=(hca.mono fun _ h=>h.elim).trans hc6
    have hX6:=hXa.keep hc6 (by omega)
    obtain ⟨mv6,pv6,hNb6,-,-⟩:=HN4.out.out.ex
    have hNb7:=hNb6.keep hcB (by omega)
    have d9:=hNb7.cell 9
    have g9:=hNb7.frozen 9
    obtain ⟨L,hL⟩ : ∃ L : List PWait,L = s.waits ++ [y]:=⟨_,rfl⟩
    have eL1 : L.length = s.waits.length + 1:=by rw [hL];simp
    have eL2 : L.flatMap encT = s.waits.flatMap encT ++ encT y:=by rw [hL];simp
    have hr7 : Rw w6 τ6 (n + 96) 212 7 (.slice (some ⟨g6,0,none⟩) (s.waits.length + 1) cap6) L.length (L.flatMap encT):=by rw [eL1,eL2];exact hr6
    obtain ⟨W7,hW7⟩ : ∃ W,W = w6.setCell ⟨N,9,none⟩ (.slice (some ⟨g6,0,none⟩) (s.waits.length + 1) cap6):=⟨_,rfl⟩
    obtain ⟨hN7,hc7⟩:=HN4.out.setWaits2 HF.out hr7 hcB hW7
    have S6 : Hid (AskT N hSp hLp k w.heap.size (q : Int) hwv x w6):=Lib.hid ⟨hNb7.cell 0,hNb7.cell 11,hNb7.cell 9,hNb7.cell 1,(HN4.out.lease.keep hcB (by omega)).cell 0,hX6.cell 0,hX6.cell 1,hX6.cell 2,hX6.cell 3⟩
    have hX7 : Has W7 τ6 (n + 864) w.heap.size 106 (encW x).toArray:=hX6.keep (by rw [hW7];exact (Chg.refl _ _ _).setCell (p:=⟨N,9,none⟩) hNb7.own _ : Chg (· = n) w6 τ6 W7 τ6) (by omega)
    have HW7:=Lib.hid hW7
    have HN7:=Lib.hid hN7
    have HX7:=Lib.hid hX7
    have HC7:=Lib.hid (HC4.out.trans hc7)
    have HL:=Lib.hid (And.intro hL hy)
    clear hr6 hr7 eL1 hc6 hg6 hcB hX6 hNb6 hNb7 hN7 hc7 hX7 hca hra hXa hL hy eL2 hW7 hya
    refine hK _ _ S6.out (hd_end ?_)
    clear hK
    simp only [List.length_cons,List.length_nil,List.drop_succ_cons,List.drop_zero,Nat.zero_add,Nat.reduceAdd]
    go_wp2_with (first | rw [<- HW7.out] | fail)
    have hcd : Chg (fun _=>False) W7 τ6 W7.drew τ6:=(Chg.refl _ _ _).drew
    have hNd:=HN7.out.keep hcd HF.out.1 (fun _ h=>h.elim)
    have hXd:=HX7.out.keep hcd id
    obtain ⟨cf,jf,kp,hSS,-,-,hKK,-⟩:=hNd.store.ex
    obtain ⟨mv8,pv8,hNb8,-,-⟩:=hNd.out.ex
    have HSU : Hid (∀ W,Below W7.drew.heap.size W7.drew W -> AskU N hSp kp w.heap.size x W):=Lib.hid fun W hb=>by
     have hc : Chg (fun _=>False) W7.drew τ6 W (ext τ6 W7.drew 0):=Chg.of_below hb _
     have a1:=hNb8.keep hc id
     have a2:=hXd.keep hc id
     exact ⟨a1.cell 0,(hSS.keep hc id).cell 2,a2.cell 2,a2.cell 3⟩
    have S8:=Lib.hid (HSU.out _ (Below.refl _ _))
    have HMe:=Lib.hid (meta48 W7.drew τ6 (ts + 1) kp d 0 s.tn s.m hKK)
    have HN8:=Lib.hid hNd
    have HC8:=Lib.hid (HC7.out.trans (hcd.mono fun _ h=>h.elim))
    clear hcd hNd hXd hSS hKK hNb8
    refine wp_region_hl [14,17] [0,1,2,3,4,5,6,7,8,9,10,11,12,13,14,15,16,17] (AskU N hSp kp w.heap.size x) (by kernel_rfl) (by kernel_rfl) S8.out ?_
    iterate 14 (refine hd_take (v:=?_) rfl rfl (by kernel_rfl) (fun W hW=>?_) ?_;rotate_left;(obtain ⟨r0,r1,r2,r3⟩:=hW;first | (go_simp;done) | (go_simp;with_reducible rfl)))
    refine hd_loud rfl rfl fun K hK=>?_
    go_simp
    refine HMe.out.mono ?_
    rintro e w8 ⟨rfl,hb8⟩
    have HB8:=Lib.hid hb8
    clear hb8
    refine hK _ _ (HSU.out w8 HB8.out) ?_
    clear hK
    refine hd_take (v:=?_) rfl rfl (by kernel_rfl) (fun W hW=>?_) ?_
    rotate_left
    ·first | (go_simp;done) | (go_simp;with_reducible rfl)
    obtain ⟨M,hM⟩ : ∃ M : PMsg,M = ⟨13,0,ow,s.m.e,0,id',x.op,x.key,0,⟨#[]⟩,⟨#[]⟩,false,[]⟩:=⟨_,rfl⟩
    have HMs:=Lib.hid hM
    clear hM
    refine hd_take (v:=.agg (msgV M nils).toArray) rfl rfl (by kernel_rfl) (fun W hW=>?_) ?_
    ·rw [HMs.out]
     go_simp
     rfl
    refine hd_loud rfl rfl fun K hK=>?_
    have hlm : (msgV M nils).length = 21:=rfl
    go_simp
    generalize hcs : List.foldl _ _ _ = cs
    obtain rfl : cs = (msgV M nils).toArray:=by rw [<- hcs];exact build_msg M nils
    clear hcs
    have hc8 : Chg (fun _=>False) W7.drew τ6 w8 (ext τ6 W7.drew (n + 864)):=Chg.of_below HB8.out _
    have hc9 : Chg (fun _=>False) W7.drew τ6 (w8.alloc (.cells (msgV M nils).toArray 182)) (ext (ext τ6 W7.drew (n + 864)) w8 (n + 864)):=hc8.trans (((Chg.refl _ _ _).alloc _).ext _)
    have HSy:=Lib.hid (nodeSay (w8.alloc (.cells (msgV M nils).toArray 182)) _ ts n N d k hidp _ _ (HN8.out.keep hc9 HF.out.1 (fun _ h=>h.elim)) HF.out (by have:=HS.out.ms;dsimp only;omega) w8.heap.size 1 M (Blk.new _ _ _) (by rw [ext_new (Nat.le_refl _)];omega))
    have HC9:=Lib.hid (HC8.out.trans (hc9.mono fun _ h=>h.elim))
    clear hc8 hc9
    refine hK _ _ (HSU.out _ (HB8.out.alloc HB8.out.size _)) (hd_end ?_)
    clear hK
    simp only [List.length_cons,List.length_nil,List.drop_succ_cons,List.drop_zero,Nat.zero_add,Nat.reduceAdd]
    go_wp2_with (go_at_call 109;fail)
    refine HSy.out.mono ?_
    rintro e w10 ⟨⟨v10,rfl⟩,τ10,k1,k2⟩
    have hs' : s' = _:=HAs.out.symm
    have HFF : Hid (NodeAt w10 τ10 ts n N d k hidp s' _ /\ Chg (NT ts n) w τ w10 τ10):=Lib.hid (by
     refine ⟨?_,(HC9.out.mono fun y hy=>(show NT ts n y from .inr hy)).trans (k2.mono fun y hy=>(show NT ts n y from .inr (by rcases hy with e | e | e <;> omega)))⟩
     rw [hs']
     have e1:=HL.out.1
     rw [HL.out.2,HID.out,HQ.out.1] at e1
     unfold PNode.askF askMsg
     rw [HMs.out,e1,HID.out,HQ.out.1,HAE.out] at k1
     exact k1)
    clear k1 k2 hs'
    go_wp2
    refine bodyPost_end (by first | rfl | (simp [results];rfl)) rfl ?_
    exact ⟨⟨_,rfl⟩,_,τ10,HFF.out⟩
end Go.Proofs.Ytlhekbjidppijaa
