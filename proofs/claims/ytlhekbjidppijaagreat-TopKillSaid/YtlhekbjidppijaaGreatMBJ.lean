/- Contracts of functions that the Top rows reach, and plain laws for them: what each returns and what it leaves in memory. Conditions: those that each theorem names. -/
import Derived.Test.YtlhekbjidppijaaGreatMBC
import Derived.Test.YtlhekbjidppijaaGreatMBE
import Derived.Test.YtlhekbjidppijaaGreatMBH
import Derived.Test.YtlhekbjidppijaaGreatMBI
set_option linter.unusedVariables false
set_option linter.unusedSimpArgs false
namespace Go.Proofs.Ytlhekbjidppijaa
open Go.RowKit
theorem field45_2 (a b c : Int) (f : Bool) (W : World) : (Instr.field 45 (.agg #[.int .i64 a,.int .i64 b,.int .i64 c,.bool f]) 2).run Tryz.prog W = .ok (.int .i64 c) W:=by kernel_rfl
theorem next111z (w : World) : Calls Tryz.prog 111 #[.pointer none] w fun e w'=>e = .returned (.slice none 0 0) /\ w = w':=by
 go_enter Tryz.func111,Tryz.ntmps111
 go_wp2
 go_ret
 exact ⟨rfl,rfl⟩
theorem look95 (q : Int) (W : World) : (Instr.lookup 95 (.map none) (.int .i64 q) false).run Tryz.prog W = .ok (.pointer none) W:=by kernel_rfl
def renewM (i now ep : Nat) : PMsg:=⟨1,i,0,ep,now,0,0,⟨#[]⟩,0,⟨#[]⟩,⟨#[]⟩,false,[]⟩
def PNode.beat1 (s : PNode) (i now : Nat) : PNode:={ s with ms:=s.ms ++ [renewM i now s.m.e] }
def PNode.setW (s : PNode) (L : List PWait) : PNode:={ s with waits:=L }
def PNode.beat? (s : PNode) (i now : Nat) : Option PNode:=
 if s.small && decide (s.m.r = 0) && decide (now <= 1099511627776) then
  match s.waits with
  | []=>some (s.beat1 i now)
  | [x]=>if x.when_ <= now then if now - x.when_ < 60 then some (s.beat1 i now) else some (((s.beat1 i now).tell i x.w 10 ⟨#[]⟩ false).setW []) else none
  | _=>none
 else none
structure BtA (w : World) (τ : Own) (ts n N d k i tk now ob y : Nat) (s : PNode) (h : Hd) (W : World) (τ' : Own) : Prop where
 node : NodeAt W τ' ts n N d k i s h
 clk : ClockAt W τ' tk k now
 out : Has W τ' y ob 102 #[.slice none 0 0,.slice none 0 0]
 chg : Chg (NT ts n) w τ W τ'
theorem BtA.step {w W W2 : World} {τ τ1 τ2 : Own} {ts n N d k i tk now ob y : Nat} {s s2 : PNode} {h h2 : Hd} {T : Nat -> Prop} (A : BtA w τ ts n N d k i tk now ob y s h W τ1) (H : NodeAt W2 τ2 ts n N d k i s2 h2) (hc : Chg T W τ1 W2 τ2) (h1 : ∀ x,T x -> NT ts n x) (h2' : ¬ NT ts n y) (h3 : ¬ NT ts n tk) : BtA w τ ts n N d k i tk now ob y s2 h2 W2 τ2:=
 ⟨H,A.clk.keep hc fun h=>h3 (h1 _ h),A.out.keep hc fun h=>h2' (h1 _ h),A.chg.trans (hc.mono h1)⟩
def BtS (N S L kp : Nat) (W : World) : Prop:=W.cell? ⟨N,0,none⟩ = some (.pointer (some ⟨S,0,none⟩)) /\ W.cell? ⟨N,1,none⟩ = some (.pointer (some ⟨L,0,none⟩)) /\ W.cell? ⟨S,2,none⟩ = some (.pointer (some ⟨kp,0,none⟩))
def BtT (N L k xb : Nat) (x : PWait) (W : World) : Prop:=W.cell? ⟨N,1,none⟩ = some (.pointer (some ⟨L,0,none⟩)) /\ W.cell? ⟨L,0,none⟩ = some (.pointer (some ⟨k,0,none⟩)) /\ W.cell? ⟨xb,6,none⟩ = some (.int .i64 (x.when_ : Int))
set_option maxRecDepth 20000 in
set_option maxHeartbeats 4000000 in
theorem beat83 (w : World) (τ : Own) (ts n N d k i tk now : Nat) (s s' : PNode) (h : Hd) (H : NodeAt w τ ts n N d k i s h) (hk : ClockAt w τ tk k now) (hf : Far ts n) (htk : ¬ NT ts n tk) (ha : s.beat? i now = some s') :
 Calls Tryz.prog 83 #[.pointer (some ⟨N,0,none⟩)] w fun e w'=>∃ v τ',e = .returned v /\ OutIs w' τ' ts n N d k i v s' /\ Chg (NT ts n) w τ w' τ':=by
 unfold PNode.beat? at ha
 split at ha
 case isFalse=>cases ha
 rename_i hg
 simp only [Bool.and_eq_true,decide_eq_true_eq] at hg
 obtain ⟨⟨hsm,hr0⟩,hnow⟩:=hg
 have HS:=Lib.hid (PNode.small_of hsm)
 obtain ⟨y,hy1,hy2⟩:=fresh95 w τ
 have hy : ¬ NT ts n y:=by obtain ⟨g1,g2,g3⟩:=hf;unfold NT ST;omega
 obtain ⟨W1,hW1⟩ : ∃ W,W = w.alloc (.cells #[.slice none 0 0,.slice none 0 0] 102):=⟨_,rfl⟩
 have hc1 : Chg (fun _=>False) w τ W1 (ext τ w y):=by rw [hW1];exact ((Chg.refl _ _ _).alloc _).ext _
 have hA1 : BtA w τ ts n N d k i tk now w.heap.size y s h W1 (ext τ w y):=⟨H.keep hc1 hf.1 fun _ h=>h.elim,hk.keep hc1 (fun h=>h),⟨by rw [hW1];exact Blk.new _ _ _,ext_new (Nat.le_refl _)⟩,hc1.mono fun _ h=>h.elim⟩
 generalize ext τ w y = τ1 at hA1
 have hcd : Chg (fun _=>False) W1 τ1 W1.drew τ1:=(Chg.refl _ _ _).drew
 have hA2:=hA1.step (hA1.node.keep hcd hf.1 fun _ h=>h.elim) hcd (fun _ h=>h.elim) hy htk
 obtain ⟨mv,pv,hNb,-,-⟩:=hA2.node.out.ex
 obtain ⟨cf,jf,kp,hSS,-,-,hKK,-⟩:=hA2.node.store.ex
 have HC : Hid (∀ W,Below W1.drew.heap.size W1.drew W -> BtS N h.S h.L kp W /\ ∃ τ',BtA w τ ts n N d k i tk now w.heap.size y s h W τ' /\ KeeperAt W τ' (ts + 1) kp d 0 s.tn s.m):=Lib.hid fun W hb=>by
  have hc : Chg (fun _=>False) W1.drew τ1 W (ext τ1 W1.drew 0):=Chg.of_below hb _
  have a1:=hNb.keep hc id
  exact ⟨⟨a1.cell 0,a1.cell 1,(hSS.keep hc id).cell 2⟩,_,hA2.step (hA2.node.keep hc hf.1 fun _ h=>h.elim) hc (fun _ h=>h.elim) hy htk,hKK.keep hc id id⟩
 have S2:=Lib.hid (HC.out _ (Below.refl _ _)).1
 have HAk:=Lib.hid (ask110 W1.drew τ1 (n + 576) h.L k s.ep s.en s.top tk now hA2.node.lease hA2.clk)
 have HMe : Hid (∀ W,Below W1.drew.heap.size W1.drew W -> Calls Tryz.prog 48 #[.pointer (some ⟨kp,0,none⟩)] W fun e w'=>e = .returned (.agg #[.int .i64 (s.m.b : Int),.int .i64 (s.m.e : Int),.int .i64 0,.bool s.m.f]) /\ Below W.heap.size W w'):=Lib.hid fun W hb=>by
  obtain ⟨-,τ',-,h2⟩:=HC.out W hb
  have:=meta48 W τ' (ts + 1) kp d 0 s.tn s.m h2
  rw [hr0] at this
  exact this
 have HF:=Lib.hid (And.intro hf (And.intro hy htk))
 have HAs:=Lib.hid ha
 have HW1:=Lib.hid hW1
 have HNw:=Lib.hid hnow
 have hf1:=field45_1
 have hf2:=field45_2
 have hlk:=look95
 clear H hk hf htk ha hsm hr0 hnow hy1 hy2 hy hW1 hc1 hA1 hcd hA2 hNb hSS hKK
 go_enter Tryz.func83,Tryz.ntmps83
 go_wp2_with (first | rw [<- HW1.out] | fail)
 refine wp_region_hl [5,13,22,25] [0,1,2,3,4,6,7,8,9,10,11,12,15,16,17,18,19,20,21,5,13,14,22,23,24,25] (BtS N h.S h.L kp) (by kernel_rfl) (by kernel_rfl) S2.out ?_
 iterate 19 (refine hd_take (v:=?_) rfl rfl (by kernel_rfl) (fun W hW=>?_) ?_;rotate_left;(obtain ⟨r0,r1,r2⟩:=hW;first | (go_simp;done) | (go_simp;with_reducible rfl)))
 refine hd_loud rfl rfl fun K hK=>?_
 go_simp
 refine HAk.out.mono ?_
 rintro e w2 ⟨rfl,rfl⟩
 refine hK _ _ S2.out ?_
 clear hK
 refine hd_loud rfl rfl fun K hK=>?_
 go_simp
 refine (HMe.out _ (Below.refl _ _)).mono ?_
 rintro e w3 ⟨rfl,hb3⟩
 have HB3:=Lib.hid hb3
 clear hb3
 refine hK _ _ (HC.out w3 HB3.out).1 ?_
 clear hK
 refine hd_take (v:=?_) rfl rfl (by kernel_rfl) (fun W hW=>?_) ?_
 rotate_left
 ·first | (go_simp;done) | (go_simp;with_reducible rfl)
 refine hd_loud rfl rfl fun K hK=>?_
 go_simp
 refine (HMe.out _ HB3.out).mono ?_
 rintro e w4 ⟨rfl,hb4⟩
 have HB4:=Lib.hid (HB3.out.trans (hb4.mono HB3.out.size))
 clear hb4
 refine hK _ _ (HC.out w4 HB4.out).1 ?_
 clear hK
 refine hd_take (v:=?_) rfl rfl (by kernel_rfl) (fun W hW=>?_) ?_
 rotate_left
 ·first | (go_simp;done) | (go_simp;with_reducible rfl)
 obtain ⟨M,hM⟩ : ∃ M : PMsg,M = ⟨1,0,0,s.m.e,now,0,0,⟨#[]⟩,0,⟨#[]⟩,⟨#[]⟩,false,[]⟩:=⟨_,rfl⟩
 have HMs:=Lib.hid hM
 clear hM
 refine hd_take (v:=.agg (msgV M nils).toArray) rfl rfl (by kernel_rfl) (fun W hW=>?_) ?_
 ·rw [HMs.out]
  go_simp
  rfl
 refine hd_loud rfl rfl fun K hK=>?_
 have hlm : (msgV M nils).length = 21:=rfl
 go_simp
 generalize hcs : List.foldl _ _ _ = cs
 obtain rfl : cs = (msgV M nils).toArray:=by rw [<- hcs];exact build_msg M nils
 clear hcs
 have hb5:=HB4.out.alloc HB4.out.size (.cells (msgV M nils).toArray 182)
 obtain ⟨S5,τ4,hA4,-⟩:=HC.out w4 HB4.out
 have hc5 : Chg (fun _=>False) w4 τ4 (w4.alloc (.cells (msgV M nils).toArray 182)) (ext τ4 w4 (n + 864)):=((Chg.refl _ _ _).alloc _).ext _
 have hA5:=hA4.step (hA4.node.keep hc5 HF.out.1.1 fun _ h=>h.elim) hc5 (fun _ h=>h.elim) HF.out.2.1 HF.out.2.2
 have hn95:=HF.out.1.1
 have HSy:=Lib.hid (nodeSay _ _ ts n N d k i s h hA5.node HF.out.1 (by have:=HS.out.ms;omega) w4.heap.size 1 M (Blk.new _ _ _) (by rw [ext_new (Nat.le_refl _)];omega))
 have HA5:=Lib.hid hA5
 clear S5 hA4 hc5 hA5
 refine hK _ _ (HC.out _ hb5).1 (hd_end ?_)
 clear hK
 simp only [List.length_cons,List.length_nil,List.drop_succ_cons,List.drop_zero,Nat.zero_add,Nat.reduceAdd]
 go_wp2_with (go_at_call 109;fail)
 refine HSy.out.mono ?_
 rintro e w6 ⟨⟨v6,rfl⟩,τ6,hn6,hc6⟩
 have hA6:=HA5.out.step hn6 hc6 (fun x hx=>.inr (by rcases hx with e | e | e <;> omega)) HF.out.2.1 HF.out.2.2
 have e6 : ({ s with ms:=s.ms ++ [{ M with src:=i }] } : PNode) = s.beat1 i now:=by rw [HMs.out];rfl
 rw [e6] at hA6
 obtain ⟨mv6,pv6,hNb6,-,-⟩:=hA6.node.out.ex
 have n7 : w6.cell? ⟨N,7,none⟩ = some (.map none):=hNb6.cell 7
 have n9 : w6.cell? ⟨N,9,none⟩ = some h.wv:=hNb6.cell 9
 have HNx : Hid (∀ W,Calls Tryz.prog 111 #[.pointer none] W fun e w'=>e = .returned (.slice none 0 0) /\ W = w'):=Lib.hid next111z
 have HSn : Hid (∀ W,Calls Tryz.prog 109 #[.pointer (some ⟨N,0,none⟩),.slice none 0 0] W fun e w'=>(∃ r,e = .returned r) /\ W = w'):=Lib.hid fun W=>sayNil W N
 have HA6:=Lib.hid hA6
 clear hn6 hc6 e6 hA6 hNb6 HSy HA5 hb5 hlm
 go_wp2
 go_loop [3] (fun q=>∃ j : Nat,1 <= j /\ j <= 6 /\ q = .int .i64 (j : Int)) (fun q=>6 - (intOf q).toNat)
 case atStart=>exact ⟨1,Nat.le_refl _,by omega,rfl⟩
 case round=>
  obtain ⟨j,hj1,hj2,rfl⟩:=hrel
  by_cases hlt : j <= 5
  ·have k1 : (j : Int) <= 5:=by omega
   have k2 : (0 : Int) <= (j : Int):=by omega
   go_wp2_with (go_at_call 111;fail)
   refine (HNx.out _).mono ?_
   rintro e w7 ⟨rfl,rfl⟩
   go_wp2_with (go_at_call 109;fail)
   refine (HSn.out _).mono ?_
   rintro e w8 ⟨⟨v8,rfl⟩,rfl⟩
   go_wp2
   go_round
   case rel=>exact ⟨j + 1,by omega,by omega,by go_num⟩
   case measure=>simp [intOf];omega
  ·obtain rfl : j = 6:=by omega
   have HAs':=HAs.out
   obtain ⟨Aw,cw,hwv,-,-,-,hsw,-,-⟩:=HA6.out.node.waits.slice
   change h.wv = .slice Aw s.waits.length cw at hwv
   change Sl w6 Aw (s.waits.flatMap encT) at hsw
   rw [hwv] at n9
   have hfin : ∀ (s2 : PNode) (h2 : Hd) (W : World) (τ2 : Own) (L : List PWait) (v : Value),BtA w τ ts n N d k i tk now w.heap.size y s2 h2 W τ2 -> Rw W τ2 (n + 96) 212 7 v L.length (L.flatMap encT) -> s2.setW L = s' -> (∃ A c,v = .slice A L.length c) /\ ∃ old,W.cell? ⟨N,9,none⟩ = some old /\ W.frozen? ⟨N,9,none⟩ = false /\ ∀ W',W' = W.setCell ⟨N,9,none⟩ v -> ∃ h3,BtA w τ ts n N d k i tk now w.heap.size y s' h3 W' τ2:=by
    intro s2 h2 W τ2 L v hA hr hs
    obtain ⟨mv2,pv2,hNb2,-,-⟩:=hA.node.out.ex
    refine ⟨hr.value,h2.wv,hNb2.cell 9,hNb2.frozen 9,fun W' hW'=>?_⟩
    obtain ⟨k1,k2⟩:=hA.node.setWaits2 HF.out.1 hr (Chg.refl _ _ _) hW'
    refine ⟨{ h2 with wv:=v },?_⟩
    rw [<- hs]
    exact hA.step k1 k2 (fun x hx=>.inr hx) HF.out.2.1 HF.out.2.2
   have HFin:=Lib.hid hfin
   clear hfin
   cases hws : s.waits with
   | nil=>
    rw [hws] at HAs n9
    simp only [List.length_nil] at n9
    have hs:=HAs.out
    injection hs with hs
    have hs2 : (s.beat1 i now).setW [] = s':=by
     rw [<- hs]
     obtain ⟨a1,a2,a3,a4,a5,a6,a7,a8,a9,a10,a11,a12,a13,a14⟩:=s
     dsimp only at hws
     subst hws
     rfl
    obtain ⟨⟨A3,c3,hv3⟩,old,x9,f9,hst⟩:=HFin.out (s.beat1 i now) h w6 τ6 [] (.slice none 0 0) HA6.out (Rw.nil _ _ _ _ _) hs2
    have HSt:=Lib.hid hst
    clear hs hs2 hst hws hsw HAs' hwv
    go_wp2
    go_loop [4,55] (fun l q=>l = .slice none 0 0 /\ q = .int .i64 0) (fun _ _=>0)
    case atStart=>exact ⟨rfl,rfl⟩
    case round=>
     obtain ⟨rfl,rfl⟩:=hrel
     obtain ⟨W7,hW7⟩ : ∃ W,W = w6.setCell ⟨N,9,none⟩ (.slice none 0 0):=⟨_,rfl⟩
     obtain ⟨h3,hA7⟩:=HSt.out W7 hW7
     have HW7:=Lib.hid hW7
     have HX:=Lib.hid hA7
     have HDi:=Lib.hid (hA7.node.did HF.out.1)
     clear hW7 hA7
     go_wp2_with (first | rw [<- HW7.out] | (go_at_call 113;fail))
     refine HDi.out.mono ?_
     rintro e w7 ⟨A7,ca,B7,cb,rfl,ho7,hc7⟩
     have hc7' : Chg (NT ts n) _ _ w7 _:=hc7.mono fun x hx=>.inr (by omega)
     have hO7:=HX.out.out.keep hc7' HF.out.2.1
     have u0 : w7.cell? ⟨w.heap.size,0,none⟩ = some (.slice none 0 0):=hO7.cell 0
     have u1 : w7.cell? ⟨w.heap.size,1,none⟩ = some (.slice none 0 0):=hO7.cell 1
     have p0:=hO7.frozen 0
     have p1:=hO7.frozen 1
     have HCC:=Lib.hid (HX.out.chg.trans hc7')
     have HO7:=Lib.hid hO7
     have HOu:=Lib.hid ho7
     clear hc7 hc7' hO7 ho7 HDi
     generalize hl1 : List.length (PNode.ms _) = l1 at *
     generalize hl2 : List.length (PNode.rs _) = l2 at *
     have HB : Hid (∀ W,W = (w7.setCell ⟨w.heap.size,0,none⟩ (.slice A7 l1 ca)).setCell ⟨w.heap.size,1,none⟩ (.slice B7 l2 cb) -> Blk W w.heap.size 102 #[.slice A7 l1 ca,.slice B7 l2 cb] /\ OutIs W τ6 ts n N d k i (.agg #[.slice A7 l1 ca,.slice B7 l2 cb]) s' /\ Chg (NT ts n) w τ W τ6):=Lib.hid fun W hW=>by
      have hc8 : Chg (fun q=>q = y) w7 τ6 W τ6:=by rw [hW];exact ((Chg.refl _ _ _).setCell (p:=⟨w.heap.size,0,none⟩) HO7.out.own _).setCell (p:=⟨w.heap.size,1,none⟩) HO7.out.own _
      refine ⟨by rw [hW];exact ((HO7.out.set_ 0 (.slice A7 l1 ca)).set_ 1 (.slice B7 l2 cb)).blk,?_,?_⟩
      ·exact HOu.out.keep hc8 HF.out.1.1 (fun x hx=>by rw [hx];exact HF.out.2.1)
      ·rw [hW]
       exact (HCC.out.setNew (p:=⟨w.heap.size,0,none⟩) (Nat.le_refl _) _).setNew (p:=⟨w.heap.size,1,none⟩) (Nat.le_refl _) _
     clear HOu HX hl1 hl2
     go_wp2
     refine bodyPost_ret (results_cell rfl _ _ _ ⟨w.heap.size,0,none⟩ (.agg #[.slice A7 l1 ca,.slice B7 l2 cb]) rfl ?_) rfl ?_
     ·exact loadVar_out (HB.out _ rfl).1
     exact ⟨_,τ6,rfl,(HB.out _ rfl).2⟩
   | cons x xs=>
    rw [hws] at HAs n9 hsw
    cases xs with
    | cons x2 xs=>
     have hs:=HAs.out
     cases hs
    | nil=>
     have hs:=HAs.out
     dsimp only at hs
     split at hs
     case isFalse=>cases hs
     rename_i hwhen
     simp only [List.length_cons,List.length_nil,Nat.zero_add] at n9
     obtain ⟨g,o,rfl,hcs⟩:=Sl.flat encT_len (by decide) hsw 0 (by simp)
     simp only [Nat.zero_mul,Nat.zero_add,List.getElem_cons_zero] at hcs
     have q0 : w6.cell? ⟨g,o,none⟩ = some (.int .i64 (x.w.node : Int)):=hcs 0 _ rfl
     have q1 : w6.cell? ⟨g,o + 1,none⟩ = some (.int .i64 (x.w.id : Int)):=hcs 1 _ rfl
     have q2 : w6.cell? ⟨g,o + 2,none⟩ = some (.int .i64 (x.w.op : Int)):=hcs 2 _ rfl
     have q3 : w6.cell? ⟨g,o + 3,none⟩ = some (.string x.w.key):=hcs 3 _ rfl
     have q4 : w6.cell? ⟨g,o + 4,none⟩ = some (.int .i64 (x.id : Int)):=hcs 4 _ rfl
     have q5 : w6.cell? ⟨g,o + 5,none⟩ = some (.int .i64 (x.to : Int)):=hcs 5 _ rfl
     have q6 : w6.cell? ⟨g,o + 6,none⟩ = some (.int .i64 (x.when_ : Int)):=hcs 6 _ rfl
     obtain ⟨dd,hdd⟩ : ∃ dd : Nat,dd = now - x.when_:=⟨_,rfl⟩
     have hsub : (now : Int) - (x.when_ : Int) = (dd : Int):=by omega
     have kd : (dd : Int) <= 1099511627776:=by have:=HNw.out;omega
     have kd0 : (0 : Int) <= (dd : Int):=by omega
     have HDd:=Lib.hid hdd
     have HSs:=Lib.hid hs
     have HWs:=Lib.hid hws
     obtain ⟨W8,hW8⟩ : ∃ W,W = w6.alloc (.cells (encT x).toArray 212):=⟨_,rfl⟩
     have hc8 : Chg (fun _=>False) w6 τ6 W8 (ext τ6 w6 (n + 864)):=by rw [hW8];exact ((Chg.refl _ _ _).alloc _).ext _
     have hA8:=HA6.out.step (HA6.out.node.keep hc8 hn95 fun _ h=>h.elim) hc8 (fun _ h=>h.elim) HF.out.2.1 HF.out.2.2
     have hX8 : Has W8 (ext τ6 w6 (n + 864)) (n + 864) w6.heap.size 212 (encT x).toArray:=⟨by rw [hW8];exact Blk.new _ _ _,ext_new (Nat.le_refl _)⟩
     generalize ext τ6 w6 (n + 864) = τ8 at hA8 hX8
     obtain ⟨mv8,pv8,hNb8,-,-⟩:=hA8.node.out.ex
     have S8 : Hid (BtT N h.L k w6.heap.size x W8.drew):=Lib.hid ⟨hNb8.cell 1,hA8.node.lease.cell 0,hX8.cell 6⟩
     have x0 : W8.drew.cell? ⟨w6.heap.size,0,none⟩ = some (.int .i64 (x.w.node : Int)):=hX8.cell 0
     have x1 : W8.drew.cell? ⟨w6.heap.size,1,none⟩ = some (.int .i64 (x.w.id : Int)):=hX8.cell 1
     have x2 : W8.drew.cell? ⟨w6.heap.size,2,none⟩ = some (.int .i64 (x.w.op : Int)):=hX8.cell 2
     have x3 : W8.drew.cell? ⟨w6.heap.size,3,none⟩ = some (.string x.w.key):=hX8.cell 3
     have x4 : W8.drew.cell? ⟨w6.heap.size,4,none⟩ = some (.int .i64 (x.id : Int)):=hX8.cell 4
     have x5 : W8.drew.cell? ⟨w6.heap.size,5,none⟩ = some (.int .i64 (x.to : Int)):=hX8.cell 5
     have x6 : W8.drew.cell? ⟨w6.heap.size,6,none⟩ = some (.int .i64 (x.when_ : Int)):=hX8.cell 6
     have hcd : Chg (fun _=>False) W8 τ8 W8.drew τ8:=(Chg.refl _ _ _).drew
     have hA9:=hA8.step (hA8.node.keep hcd hn95 fun _ h=>h.elim) hcd (fun _ h=>h.elim) HF.out.2.1 HF.out.2.2
     have HNo:=Lib.hid (now61 W8.drew τ8 tk k now hA9.clk)
     have HA9:=Lib.hid hA9
     have HW8:=Lib.hid hW8
     unfold encT at HW8
     clear hs hsw hcs hws hwhen hdd hW8 hc8 hA8 hX8 hNb8 hcd hA9 HAs' hwv
     go_wp2
     go_loopw [4,55] (fun l q wr=>(l = .slice none 0 0 /\ q = .int .i64 0 /\ wr = w6) \/ (q = .int .i64 1 /\ ∃ s2 h2 τ2 L,BtA w τ ts n N d k i tk now w.heap.size y s2 h2 wr τ2 /\ Rw wr τ2 (n + 96) 212 7 l L.length (L.flatMap encT) /\ s2.setW L = s')) (fun _ q _=>1 - (intOf q).toNat)
     case atStart=>exact .inl ⟨rfl,rfl,rfl⟩
     case round=>
      rcases hrel with ⟨rfl,rfl,hwr⟩ | ⟨rfl,s2,h2,τ2,L,hA,hr,hs2⟩
      ·obtain rfl:=hwr.symm
       clear hwr
       go_wp2_with (first | rw [<- HW8.out] | fail)
       refine wp_region_hl [7] [0,1,2,3,4,5,6,8,9,7] (BtT N h.L k w6.heap.size x) (by kernel_rfl) (by kernel_rfl) S8.out ?_
       iterate 9 (refine hd_take (v:=?_) rfl rfl (by kernel_rfl) (fun W hW=>?_) ?_;rotate_left;(obtain ⟨r0,r1,r2⟩:=hW;first | (go_simp;done) | (go_simp;with_reducible rfl)))
       refine hd_loud rfl rfl fun K hK=>?_
       go_simp
       refine HNo.out.mono ?_
       rintro e w9 ⟨rfl,rfl⟩
       refine hK _ _ S8.out (hd_end ?_)
       clear hK
       simp only [List.length_cons,List.length_nil,List.drop_succ_cons,List.drop_zero,Nat.zero_add,Nat.reduceAdd]
       by_cases h60 : dd < 60
       ·have k60 : (dd : Int) < 60:=by omega
        have hs:=HSs.out
        rw [if_pos (by rw [<- HDd.out];exact h60)] at hs
        injection hs with hs
        have HSe:=Lib.hid hs
        clear hs h60
        go_wp2_with (at_builtin;refine wpl_app (news:=[.int .i64 (x.w.node : Int),.int .i64 (x.w.id : Int),.int .i64 (x.w.op : Int),.string x.w.key,.int .i64 (x.id : Int),.int .i64 (x.to : Int),.int .i64 (x.when_ : Int)]) rfl rfl τ8 (n + 96) (by kernel_rfl) info212 rfl (by decide) (by decide) rfl (Rw.nil _ _ _ _ _) rfl rfl (sl_at (by simp)) (encT_one x) (by omega) ?_)
        intro g10 cap10 w10 hr10 hc10 hg10
        have hca : Chg (fun _=>False) W8.drew τ8 (W8.alloc (.cells (encT x).toArray 212)).drew τ8:=(Chg.refl (fun _=>False) W8.drew τ8).alloc (.cells (encT x).toArray 212)
        have hcn:=(hca.grown hg10 (fun k hk=>by cases hk)).reown (τ2:=ext τ8 (W8.alloc (.cells (encT x).toArray 212)).drew (n + 96)) (fun k hk=>ext_old (by have : k < W8.heap.size:=hk;simp;omega))
        have hA10:=HA9.out.step (HA9.out.node.keep hcn hn95 fun _ h=>h.elim) hcn (fun _ h=>h.elim) HF.out.2.1 HF.out.2.2
        have hr11 : Rw w10 (ext τ8 (W8.alloc (.cells (encT x).toArray 212)).drew (n + 96)) (n + 96) 212 7 (.slice (some ⟨g10,0,none⟩) 1 cap10) [x].length ([x].flatMap encT):=by
         rw [show [x].flatMap encT = encT x by simp]
         exact hr10
        generalize ext τ8 (W8.alloc (.cells (encT x).toArray 212)).drew (n + 96) = τ10 at hA10 hr11
        have HA10:=Lib.hid hA10
        have HR11:=Lib.hid hr11
        have HSx : Hid ((s.beat1 i now).setW [x] = s'):=Lib.hid (by
         have hws:=HWs.out
         rw [<- HSe.out]
         obtain ⟨a1,a2,a3,a4,a5,a6,a7,a8,a9,a10,a11,a12,a13,a14⟩:=s
         dsimp only at hws
         subst hws
         rfl)
        clear hca hcn hA10 hr11 hr10 hc10 hg10
        go_wp2
        go_roundw
        case rel=>exact .inr ⟨rfl,_,_,τ10,[x],HA10.out,HR11.out,HSx.out⟩
        case measure=>simp [intOf]
       ·have k60 : ¬ ((dd : Int) < 60):=by omega
        have hs:=HSs.out
        rw [if_neg (by rw [<- HDd.out];exact h60)] at hs
        injection hs with hs
        have HSe:=Lib.hid hs
        have HTe:=Lib.hid (nodeTell W8.drew τ8 ts n N d k i _ h HA9.out.node HF.out.1 (by have:=HS.out.ms;simp [PNode.beat1];omega) (by have:=HS.out.rs;simpa [PNode.beat1] using (by omega : s.rs.length <= 1000)) x.w 10 ⟨#[]⟩ false)
        unfold encW at HTe
        clear hs h60
        go_wp2_with (go_at_call 112;fail)
        refine HTe.out.mono ?_
        rintro e w10 ⟨⟨v10,rfl⟩,τ10,hn10,hc10⟩
        have hA10:=HA9.out.step hn10 hc10 (fun x hx=>.inr (by rcases hx with e | e | e <;> omega)) HF.out.2.1 HF.out.2.2
        have HA10:=Lib.hid hA10
        clear hn10 hc10 hA10 HTe
        go_wp2
        go_roundw
        case rel=>exact .inr ⟨rfl,_,_,τ10,[],HA10.out,Rw.nil _ _ _ _ _,HSe.out⟩
        case measure=>simp [intOf]
      ·obtain ⟨⟨A3,c3,rfl⟩,old,x9,f9,hst⟩:=HFin.out s2 h2 wr τ2 L _ hA hr hs2
       have HSt:=Lib.hid hst
       clear hst hA hr hs2
       obtain ⟨W7,hW7⟩ : ∃ W,W = wr.setCell ⟨N,9,none⟩ (.slice A3 L.length c3):=⟨_,rfl⟩
       obtain ⟨h3,hA7⟩:=HSt.out W7 hW7
       have HW7:=Lib.hid hW7
       have HX:=Lib.hid hA7
       have HDi:=Lib.hid (hA7.node.did HF.out.1)
       clear hW7 hA7
       go_wp2_with (first | rw [<- HW7.out] | (go_at_call 113;fail))
       refine HDi.out.mono ?_
       rintro e w7 ⟨A7,ca,B7,cb,rfl,ho7,hc7⟩
       have hc7' : Chg (NT ts n) _ _ w7 _:=hc7.mono fun x hx=>.inr (by omega)
       have hO7:=HX.out.out.keep hc7' HF.out.2.1
       have u0 : w7.cell? ⟨w.heap.size,0,none⟩ = some (.slice none 0 0):=hO7.cell 0
       have u1 : w7.cell? ⟨w.heap.size,1,none⟩ = some (.slice none 0 0):=hO7.cell 1
       have p0:=hO7.frozen 0
       have p1:=hO7.frozen 1
       have HCC:=Lib.hid (HX.out.chg.trans hc7')
       have HO7:=Lib.hid hO7
       have HOu:=Lib.hid ho7
       clear hc7 hc7' hO7 ho7 HDi
       generalize hl1 : List.length (PNode.ms _) = l1 at *
       generalize hl2 : List.length (PNode.rs _) = l2 at *
       have HB : Hid (∀ W,W = (w7.setCell ⟨w.heap.size,0,none⟩ (.slice A7 l1 ca)).setCell ⟨w.heap.size,1,none⟩ (.slice B7 l2 cb) -> Blk W w.heap.size 102 #[.slice A7 l1 ca,.slice B7 l2 cb] /\ OutIs W τ2 ts n N d k i (.agg #[.slice A7 l1 ca,.slice B7 l2 cb]) s' /\ Chg (NT ts n) w τ W τ2):=Lib.hid fun W hW=>by
        have hc8 : Chg (fun q=>q = y) w7 τ2 W τ2:=by rw [hW];exact ((Chg.refl _ _ _).setCell (p:=⟨w.heap.size,0,none⟩) HO7.out.own _).setCell (p:=⟨w.heap.size,1,none⟩) HO7.out.own _
        refine ⟨by rw [hW];exact ((HO7.out.set_ 0 (.slice A7 l1 ca)).set_ 1 (.slice B7 l2 cb)).blk,?_,?_⟩
        ·exact HOu.out.keep hc8 HF.out.1.1 (fun x hx=>by rw [hx];exact HF.out.2.1)
        ·rw [hW]
         exact (HCC.out.setNew (p:=⟨w.heap.size,0,none⟩) (Nat.le_refl _) _).setNew (p:=⟨w.heap.size,1,none⟩) (Nat.le_refl _) _
       clear HOu HX hl1 hl2
       go_wp2
       refine bodyPost_ret (results_cell rfl _ _ _ ⟨w.heap.size,0,none⟩ (.agg #[.slice A7 l1 ca,.slice B7 l2 cb]) rfl ?_) rfl ?_
       ·exact loadVar_out (HB.out _ rfl).1
       exact ⟨_,τ2,rfl,(HB.out _ rfl).2⟩
end Go.Proofs.Ytlhekbjidppijaa
namespace Go.Proofs.Ytlhekbjidppijaa
open Go.RowKit
def nodesB (ns : List Nat) : Bool:=decide (1 <= ns.length) && decide (ns.length <= 5) && decide (ns = upto ns.length)
theorem nodesB_ok {ns : List Nat} (h : nodesB ns = true) : NodesOk ns:=by
 simp only [nodesB,Bool.and_eq_true,decide_eq_true_eq] at h
 rw [h.2]
 exact upto_ok _ h.1.1 h.1.2
def PMsg.okB (m : PMsg) : Bool:=
 decide (1 <= m.kind) && decide (m.kind <= 14) && decide (m.src ≠ m.dst) && decide (m.src <= 5) && decide (m.dst <= 5) && decide (m.epoch <= 1099511627776) && decide (m.tick <= 1099511627776) && decide (m.id <= 1099511627776) && decide (m.op <= 2) &&
 decide (m.key.size <= 40) && decide (m.err <= 10) && ((decide (m.ik.size = 0) && decide (m.iv.size = 0) && !m.ig) || itemOk m.ik m.iv m.ig) && decide (m.ik.size <= 1099511627776) && decide (m.iv.size <= 200) && (m.members.isEmpty || nodesB m.members)
theorem size_zero {b : ByteArray} (h : b.size = 0) : b = ⟨#[]⟩:=by
 obtain ⟨d⟩:=b
 have : d = #[]:=Array.eq_empty_of_size_eq_zero h
 rw [this]
theorem PMsg.okB_ok {m : PMsg} (h : m.okB = true) : MOk m:=by
 simp only [PMsg.okB,Bool.and_eq_true,Bool.or_eq_true,decide_eq_true_eq,Bool.not_eq_true',List.isEmpty_iff] at h
 obtain ⟨⟨⟨⟨⟨⟨⟨⟨⟨⟨⟨⟨⟨⟨a1,a2⟩,a3⟩,a4⟩,a5⟩,a6⟩,a7⟩,a8⟩,a9⟩,a10⟩,a11⟩,a12⟩,a13⟩,a14⟩,a15⟩:=h
 refine ⟨a1,a2,a3,a4,a5,a6,a7,a8,a9,a10,a11,?_,a13,a14,?_⟩
 ·rcases a12 with ⟨⟨b1,b2⟩,b3⟩ | h
  ·exact .inl ⟨size_zero b1,size_zero b2,b3⟩
  ·exact .inr h
 ·rcases a15 with h | h
  ·exact .inl h
  ·exact .inr (nodesB_ok h)
def PNode.adopt? (s : PNode) (ns : List Nat) : Option PNode:=
 if s.m.e = 1 then (if s.ring.isSome then some s else none)
 else if s.m.b < 64 /\ s.m.e = 0 /\ s.m.r = 0 /\ s.m.f = false /\ s.tn + 1 <= 1000000 /\ s.waits.length = 0 /\ s.toks.length <= 900 then (fwipe 129 s.fs).map fun fs=>s.adopt fs ns
 else none
theorem adopts_of {s s1 : PNode} {ns : List Nat} (h : s.adopt? ns = some s1) : Adopts s s1 ns:=by
 unfold PNode.adopt? at h
 split at h
 ·rename_i he
  split at h
  ·rename_i hr
   injection h with h
   obtain ⟨r,hr⟩:=Option.isSome_iff_exists.1 hr
   exact .inl ⟨he,⟨r,hr⟩,h.symm⟩
  ·cases h
 ·split at h
  ·rename_i hc
   obtain ⟨a1,a2,a3,a4,a5,a6,a7⟩:=hc
   obtain ⟨fs,hfs,hs⟩:=Option.map_eq_some_iff.1 h
   exact .inr ⟨a1,a2,a3,a4,a5,List.eq_nil_of_length_eq_zero a6,a7,fs,hfs,hs.symm⟩
  ·cases h
def PNode.grant? (s : PNode) (now : Nat) (m : PMsg) : Option PNode:=
 if m.epoch = 1 /\ m.tick <= now /\ now <= 1099511627776 /\ nodesB m.members = true then
  match s.adopt? m.members with
  | some s1=>if s1.top <= 1 then some (s1.take now m.tick) else none
  | none=>none
 else none
def PNode.answer? (s : PNode) (i : Nat) (m : PMsg) : Option PNode:=
 match s.waits.findIdx? (isAns m) with
 | some p=>(s.waits[p]?).map fun x=>({ s with waits:=s.waits.take p ++ s.waits.drop (p + 1) } : PNode).tell i x.w (ansErr m) (ansVal m x.w) (ansHas m x.w)
 | none=>none
def PNode.step? (s : PNode) (i now : Nat) (m : PMsg) : Option PNode:=
 if m.okB && decide (m.dst = i) && s.small && decide (s.m.r = 0) then
  if m.kind = 2 then s.grant? now m
  else if m.kind = 13 then (if m.epoch = s.m.e then s.ask? i now (whoM m) else none)
  else if m.kind = 14 then s.answer? i m else none
 else none
structure SpA (w : World) (τ : Own) (ts n N d k i tk now ob mb y tm : Nat) (m : PMsg) (vm : Value) (s : PNode) (h : Hd) (W : World) (τ' : Own) : Prop where
 node : NodeAt W τ' ts n N d k i s h
 clk : ClockAt W τ' tk k now
 out : Has W τ' y ob 102 #[.slice none 0 0,.slice none 0 0]
 msg : Has W τ' y mb 182 (msgV m vm).toArray
 mem : Rw W τ' tm 3 1 vm m.members.length (nnums m.members)
 chg : Chg (NT ts n) w τ W τ'
theorem SpA.step {w W W2 : World} {τ τ1 τ2 : Own} {ts n N d k i tk now ob mb y tm : Nat} {m : PMsg} {vm : Value} {s s2 : PNode} {h h2 : Hd} {T : Nat -> Prop} (A : SpA w τ ts n N d k i tk now ob mb y tm m vm s h W τ1) (H : NodeAt W2 τ2 ts n N d k i s2 h2) (hc : Chg T W τ1 W2 τ2) (h1 : ∀ x,T x -> NT ts n x) (h2' : ¬ NT ts n y) (h3 : ¬ NT ts n tk) (h4 : ¬ NT ts n tm) : SpA w τ ts n N d k i tk now ob mb y tm m vm s2 h2 W2 τ2:=
 ⟨H,A.clk.keep hc fun h=>h3 (h1 _ h),A.out.keep hc fun h=>h2' (h1 _ h),A.msg.keep hc fun h=>h2' (h1 _ h),A.mem.keep hc fun h=>h4 (h1 _ h),A.chg.trans (hc.mono h1)⟩
def SpS (N b i : Nat) (m : PMsg) (vm : Value) (W : World) : Prop:=W.cell? ⟨N,2,none⟩ = some (.int .i64 (i : Int)) /\ W.cell? ⟨b,2,none⟩ = some (.int .i64 (m.dst : Int)) /\ Blk W b 182 (msgV m vm).toArray
set_option maxRecDepth 20000 in
set_option maxHeartbeats 2000000 in
theorem step116 (w : World) (τ : Own) (ts n N d k i tk now tm : Nat) (m : PMsg) (vm : Value) (s s' : PNode) (h : Hd) (H : NodeAt w τ ts n N d k i s h) (hk : ClockAt w τ tk k now) (hf : Far ts n) (htk : ¬ NT ts n tk) (hm : Rw w τ tm 3 1 vm m.members.length (nnums m.members)) (htm : ¬ NT ts n tm) (ha : s.step? i now m = some s') :
 Calls Tryz.prog 116 #[.pointer (some ⟨N,0,none⟩),.agg (msgV m vm).toArray] w fun e w'=>∃ v τ',e = .returned v /\ OutIs w' τ' ts n N d k i v s' /\ Chg (NT ts n) w τ w' τ':=by
 unfold PNode.step? at ha
 split at ha
 case isFalse=>cases ha
 rename_i hg
 simp only [Bool.and_eq_true,decide_eq_true_eq] at hg
 obtain ⟨⟨⟨hok,hdst⟩,hsm⟩,hr0⟩:=hg
 have HS:=Lib.hid (PNode.small_of hsm)
 have HOK:=Lib.hid (PMsg.okB_ok hok)
 obtain ⟨y,hy1,hy2⟩:=fresh95 w τ
 have hy : ¬ NT ts n y:=by obtain ⟨g1,g2,g3⟩:=hf;unfold NT ST;omega
 obtain ⟨W0,hW0⟩ : ∃ W,W = w.alloc (.cells (msgV m vm).toArray 182):=⟨_,rfl⟩
 have hc0 : Chg (fun _=>False) w τ W0 (ext τ w y):=by rw [hW0];exact ((Chg.refl _ _ _).alloc _).ext _
 have hB0 : Has W0 (ext τ w y) y w.heap.size 182 (msgV m vm).toArray:=⟨by rw [hW0];exact Blk.new _ _ _,ext_new (Nat.le_refl _)⟩
 generalize ext τ w y = τ0 at hc0 hB0
 obtain ⟨W1,hW1⟩ : ∃ W,W = W0.alloc (.cells #[.slice none 0 0,.slice none 0 0] 102):=⟨_,rfl⟩
 have hc1 : Chg (fun _=>False) W0 τ0 W1 (ext τ0 W0 y):=by rw [hW1];exact ((Chg.refl _ _ _).alloc _).ext _
 have hO1 : Has W1 (ext τ0 W0 y) y W0.heap.size 102 #[.slice none 0 0,.slice none 0 0]:=⟨by rw [hW1];exact Blk.new _ _ _,ext_new (Nat.le_refl _)⟩
 have hc01:=hc0.trans hc1
 have hA1 : SpA w τ ts n N d k i tk now W0.heap.size w.heap.size y tm m vm s h W1 (ext τ0 W0 y):=⟨H.keep hc01 hf.1 fun _ h=>h.elim,hk.keep hc01 (fun h=>h),hO1,hB0.keep hc1 (fun h=>h),hm.keep hc01 (fun h=>h),hc01.mono fun _ h=>h.elim⟩
 generalize ext τ0 W0 y = τ1 at hA1
 have hC : ∀ W,Below W1.heap.size W1 W -> ∃ τ',SpA w τ ts n N d k i tk now W0.heap.size w.heap.size y tm m vm s h W τ':=fun W hb=>by
  have hc : Chg (fun _=>False) W1 τ1 W (ext τ1 W1 0):=Chg.of_below hb _
  exact ⟨_,hA1.step (hA1.node.keep hc hf.1 fun _ h=>h.elim) hc (fun _ h=>h.elim) hy htk htm⟩
 have HC:=Lib.hid hC
 have hbd : Below W1.heap.size W1 W1.drew:=(Below.refl _ W1).drew
 obtain ⟨τd,hAd⟩:=hC _ hbd
 have HMy:=Lib.hid (may104 W1.drew m vm HOK.out hAd.mem.nms)
 have HB:=Lib.hid hAd.msg.blk
 obtain ⟨mv,pv,hNb,-,-⟩:=hAd.node.out.ex
 have S1 : Hid (SpS N w.heap.size i m vm W1.drew):=Lib.hid ⟨by rw [<- hAd.node.id];exact hNb.cell 2,hAd.msg.cell 2,hAd.msg.blk⟩
 have HF:=Lib.hid (And.intro hf (And.intro hy (And.intro htk htm)))
 have HR0:=Lib.hid hr0
 have HAs:=Lib.hid ha
 have HW0:=Lib.hid hW0
 have HW1:=Lib.hid hW1
 have HBd:=Lib.hid hbd
 have hf2:=field45_2
 have hneq : ((m.dst : Int) != (i : Int)) = false:=by rw [bne_eq_false_iff_eq];omega
 clear H hk hf htk hm htm ha hok hsm hr0 hy1 hy2 hy hW0 hc0 hB0 hW1 hc1 hO1 hc01 hA1 hC hbd hAd hNb hdst
 go_enter Tryz.func116,Tryz.ntmps116
 go_wp2_with (first | rw [<- HW0.out] | rw [<- HW1.out] | fail)
 refine wp_region_hl [] [0,1,2,3,4,5,6,7,8,9,10,11,12] (SpS N w.heap.size i m vm) (by kernel_rfl) (by kernel_rfl) S1.out ?_
 iterate 12 (refine hd_take (v:=?_) rfl rfl (by kernel_rfl) (fun W hW=>?_) ?_;rotate_left;(obtain ⟨r0,r1,-⟩:=hW;first | (go_simp;done) | (go_simp;with_reducible rfl)))
 refine hd_load 182 (.tmp 3) rfl rfl (by kernel_rfl) rfl (.pointer (some ⟨w.heap.size,0,none⟩)) (.agg (msgV m vm).toArray) (by go_simp) (fun W hW=>load_msg hW.2.2) (hd_end ?_)
 simp only [List.length_cons,List.length_nil,List.drop_succ_cons,List.drop_zero,Nat.zero_add,Nat.reduceAdd]
 go_wp2_with (go_at_call 104;fail)
 refine HMy.out.mono ?_
 rintro e w2 ⟨rfl,hb2⟩
 have hb2':=HBd.out.trans (hb2.mono HBd.out.size)
 obtain ⟨τ2,hA2⟩:=HC.out w2 hb2'
 obtain ⟨mv,pv,hNb,-,-⟩:=hA2.node.out.ex
 obtain ⟨cf,jf,kp,hSS,-,-,hKK,-⟩:=hA2.node.store.ex
 have n0 : w2.cell? ⟨N,0,none⟩ = some (.pointer (some ⟨h.S,0,none⟩)):=hNb.cell 0
 have s2 : w2.cell? ⟨h.S,2,none⟩ = some (.pointer (some ⟨kp,0,none⟩)):=hSS.cell 2
 have HMe:=Lib.hid (meta48 w2 τ2 (ts + 1) kp d 0 s.tn s.m hKK)
 rw [HR0.out] at HMe
 have HB2:=Lib.hid hb2'
 clear hb2 hb2' hA2 hNb hSS hKK HMy HB S1
 go_wp2_with (go_at_call 48;fail)
 refine HMe.out.mono ?_
 rintro e w3 ⟨rfl,hb3⟩
 obtain ⟨τ3,hA3⟩:=HC.out w3 (HB2.out.trans (hb3.mono HB2.out.size))
 have HA3:=Lib.hid hA3
 have HB3:=Lib.hid hA3.msg.blk
 have b0 : w3.cell? ⟨w.heap.size,0,none⟩ = some (.int .i64 (m.kind : Int)):=hA3.msg.cell 0
 have b18 : w3.cell? ⟨w.heap.size,18,none⟩ = some vm:=hA3.msg.cell 18
 clear hb3 hA3 HMe HB2 HC n0 s2
 have hcs : (m.kind = 2 /\ s.grant? now m = some s') \/ (m.kind = 13 /\ m.epoch = s.m.e /\ s.ask? i now (whoM m) = some s') \/ (m.kind = 14 /\ s.answer? i m = some s'):=by
  have ha:=HAs.out
  split at ha
  ·exact .inl ⟨by assumption,ha⟩
  ·split at ha
   ·split at ha
    ·exact .inr (.inl ⟨by assumption,by assumption,ha⟩)
    ·cases ha
   ·split at ha
    ·exact .inr (.inr ⟨by assumption,ha⟩)
    ·cases ha
 clear HAs
 rcases hcs with ⟨hkd,ha⟩ | ⟨hkd,hme,ha⟩ | ⟨hkd,ha⟩
 focus (
  unfold PNode.grant? at ha
  split at ha
  case isFalse=>cases ha
  rename_i hcond
  obtain ⟨g1,g2,g3,g4⟩:=hcond
  split at ha
  case h_2=>cases ha
  rename_i s1 hs1
  split at ha
  case isFalse=>cases ha
  rename_i htop
  injection ha with ha
  rw [hkd] at b0
  have HGr:=Lib.hid (grant153 w3 τ3 ts n N d k i tk now tm m vm s s1 h HA3.out.node HA3.out.clk HF.out.1 HF.out.2.2.1 HA3.out.mem HF.out.2.2.2 (nodesB_ok g4) hkd g1 g2 g3 (adopts_of hs1) htop)
  rw [ha] at HGr
  obtain ⟨Am,cm,hvm,-,-,-,hsm,-,-⟩:=HA3.out.mem.slice
  have HMy2:=Lib.hid (may72 w3 Am m.members.length cm m.members hsm rfl (nodesB_ok g4))
  rw [<- hvm] at HMy2
  clear ha g1 g2 g3 g4 hs1 htop hsm hvm hkd
  go_wp2_with (first | (go_at_call 72;refine HMy2.out.mono ?_;rintro e w' ⟨rfl,hw⟩;obtain rfl:=hw.symm) | (refine wpl_lq 182 _ rfl ?_;refine lq 182 _ _ _ rfl (by kernel_rfl) (load_msg HB3.out) ?_) | (go_at_call 153;fail))
  refine HGr.out.mono ?_
  rintro e w4 ⟨⟨v4,rfl⟩,h4,τ4,hn4,hc4⟩)
 rotate_left
 focus (
  rw [hkd] at b0
  have HGr:=Lib.hid (foreign158 w3 τ3 ts n N d k i tk now m vm s s' h HA3.out.node HA3.out.clk HF.out.1 HF.out.2.2.1 hme ha)
  clear ha hme hkd
  go_wp2_with (first | (refine wpl_lq 182 _ rfl ?_;refine lq 182 _ _ _ rfl (by kernel_rfl) (load_msg HB3.out) ?_) | (go_at_call 158;fail))
  refine HGr.out.mono ?_
  rintro e w4 ⟨⟨v4,rfl⟩,h4,τ4,hn4,hc4⟩)
 rotate_left
 focus (
  unfold PNode.answer? at ha
  split at ha
  case h_2=>cases ha
  rename_i p hp
  obtain ⟨x,hx,hs'⟩:=Option.map_eq_some_iff.1 ha
  obtain ⟨hpl,hp1,hp2⟩:=List.findIdx?_eq_some_iff_getElem.1 hp
  have hxe : s.waits[p] = x:=by have:=(List.getElem?_eq_some_iff.1 hx).2;exact this
  rw [hkd] at b0
  have hgr:=answerHit w3 τ3 ts n N d k i s h HA3.out.node HF.out.1 (by have:=HS.out.ms;omega) (by have:=HS.out.rs;omega) (by have:=HS.out.waits;omega) m vm p hpl hp1 (fun j hj hjp=>by have:=hp2 j hjp;simpa using this)
  rw [hxe,hs'] at hgr
  have HGr : Hid (Calls Tryz.prog 159 #[.pointer (some ⟨N,0,none⟩),.agg (msgV m vm).toArray] w3 fun e w'=>(∃ r,e = .returned r) /\ ∃ h' τ',NodeAt w' τ' ts n N d k i s' h' /\ Chg (NT ts n) w3 τ3 w' τ'):=Lib.hid (hgr.mono fun e w' h=>⟨h.1,h.2.imp fun h' h=>h.imp fun τ' h=>⟨h.1,h.2.mono fun x hx=>.inr hx⟩⟩)
  clear ha hp hx hs' hpl hp1 hp2 hxe hkd hgr
  go_wp2_with (first | (refine wpl_lq 182 _ rfl ?_;refine lq 182 _ _ _ rfl (by kernel_rfl) (load_msg HB3.out) ?_) | (go_at_call 159;fail))
  refine HGr.out.mono ?_
  rintro e w4 ⟨⟨v4,rfl⟩,h4,τ4,hn4,hc4⟩)
 all_goals (
  have hA4:=HA3.out.step hn4 hc4 (fun _ h=>h) HF.out.2.1 HF.out.2.2.1 HF.out.2.2.2
  have HA4:=Lib.hid hA4
  have HDi:=Lib.hid (hA4.node.did HF.out.1)
  clear hn4 hc4 hA4 HGr HB3 HA3 b0 b18
  go_wp2_with (go_at_call 113;fail)
  refine HDi.out.mono ?_
  rintro e w7 ⟨A7,ca,B7,cb,rfl,ho7,hc7⟩
  have hc7' : Chg (NT ts n) _ _ w7 _:=hc7.mono fun x hx=>.inr (by have:=HF.out.1.1;omega)
  have hO7:=HA4.out.out.keep hc7' HF.out.2.1
  have u0 : w7.cell? ⟨W0.heap.size,0,none⟩ = some (.slice none 0 0):=hO7.cell 0
  have u1 : w7.cell? ⟨W0.heap.size,1,none⟩ = some (.slice none 0 0):=hO7.cell 1
  have p0:=hO7.frozen 0
  have p1:=hO7.frozen 1
  have HO7:=Lib.hid hO7
  have HOu:=Lib.hid ho7
  have HCC:=Lib.hid (HA4.out.chg.trans hc7')
  clear hc7 hc7' hO7 ho7 HDi
  generalize hl1 : List.length (PNode.ms _) = l1 at *
  generalize hl2 : List.length (PNode.rs _) = l2 at *
  have HBB : Hid (∀ W,W = (w7.setCell ⟨W0.heap.size,0,none⟩ (.slice A7 l1 ca)).setCell ⟨W0.heap.size,1,none⟩ (.slice B7 l2 cb) -> Blk W W0.heap.size 102 #[.slice A7 l1 ca,.slice B7 l2 cb] /\ OutIs W τ4 ts n N d k i (.agg #[.slice A7 l1 ca,.slice B7 l2 cb]) s' /\ Chg (NT ts n) w τ W τ4):=Lib.hid fun W hW=>by
   have hc8 : Chg (fun q=>q = y) w7 τ4 W τ4:=by rw [hW];exact ((Chg.refl _ _ _).setCell (p:=⟨W0.heap.size,0,none⟩) HO7.out.own _).setCell (p:=⟨W0.heap.size,1,none⟩) HO7.out.own _
   refine ⟨by rw [hW];exact ((HO7.out.set_ 0 (.slice A7 l1 ca)).set_ 1 (.slice B7 l2 cb)).blk,HOu.out.keep hc8 HF.out.1.1 (fun x hx=>by rw [hx];exact HF.out.2.1),?_⟩
   have hle : w.heap.size <= W0.heap.size:=by rw [HW0.out];simp
   rw [hW]
   exact (HCC.out.setNew (p:=⟨W0.heap.size,0,none⟩) hle _).setNew (p:=⟨W0.heap.size,1,none⟩) hle _
  clear HOu HA4 hl1 hl2
  go_wp2
  refine bodyPost_ret (results_cell rfl _ _ _ ⟨W0.heap.size,0,none⟩ (.agg #[.slice A7 l1 ca,.slice B7 l2 cb]) rfl ?_) rfl ?_
  ·exact loadVar_out (HBB.out _ rfl).1
  exact ⟨_,τ4,rfl,(HBB.out _ rfl).2⟩)
end Go.Proofs.Ytlhekbjidppijaa
namespace Go.Proofs.Ytlhekbjidppijaa
open Go.RowKit
structure CL where
 ctl : Nat
 cd : Nat
 cc : Nat
 nd : Nat -> Nat
 dv : Nat -> Nat
 ck : Nat -> Nat
 net : Nat
 org : Nat
 log : Nat
def ndV (L : CL) (n i : Nat) : Value:=if i <= n then ptr (L.nd i) else .pointer none
def cluV (L : CL) (n : Nat) : List Value:=
 ptr L.ctl :: ptr L.cd :: ptr L.cc :: .pointer none :: ndV L n 1 :: ndV L n 2 :: ndV L n 3 :: ndV L n 4 :: ndV L n 5 :: .pointer none :: ptr (L.dv 1) :: ptr (L.dv 2) :: ptr (L.dv 3) :: ptr (L.dv 4) :: ptr (L.dv 5) ::
 .pointer none :: ptr (L.ck 1) :: ptr (L.ck 2) :: ptr (L.ck 3) :: ptr (L.ck 4) :: ptr (L.ck 5) :: .bool false :: .bool (decide (1 <= n)) :: .bool (decide (2 <= n)) :: .bool (decide (3 <= n)) :: .bool (decide (4 <= n)) :: .bool (decide (5 <= n)) :: ptr L.net :: ptr L.org :: ptr L.log :: []
structure PCl where
 n : Nat
 nodes : List PNode
 cks : List Nat
 net : List PMsg
 org : List St
 log : List PCall
structure CluAt (w : World) (τ : Own) (c : Nat) (L : CL) (s : PCl) : Prop where
 n1 : 1 <= s.n
 n5 : s.n <= 5
 len : s.nodes.length = s.n
 clen : s.cks.length = 6
 blk : Has w τ 86 c 89 (cluV L s.n).toArray
 ctl : CtlAt w τ 80 L.ctl L.cc s.n
 ck0 : ∀ k,s.cks[0]? = some k -> ClockAt w τ 81 L.cc k
 node : ∀ i p,1 <= i -> s.nodes[i - 1]? = some p -> p.ms = [] /\ p.rs = [] /\ ∃ h,NodeAt w τ (16 * (i - 1)) (16 * (i - 1) + 10) (L.nd i) (L.dv i) (L.ck i) i p h
 ck : ∀ i k,1 <= i -> i <= 5 -> s.cks[i]? = some k -> ClockAt w τ (16 * (i - 1) + 11) (L.ck i) k
 net : NetAt w τ 83 L.net s.net
 org : OrgAt w τ 84 L.org s.org
 log : LgAt w τ 85 L.log s.log
def CT (x : Nat) : Prop:=x % 96 <= 86
section
variable {w w' : World} {τ τ' : Own} {c : Nat} {L : CL} {s : PCl} {T : Nat -> Prop}
theorem CluAt.keep (H : CluAt w τ c L s) (hc : Chg T w τ w' τ') (hT : ∀ x,T x -> ¬ CT x) : CluAt w' τ' c L s:=by
 have k (x : Nat) (hx : x % 96 <= 86) : ¬ T x:=fun h=>hT x h hx
 have hl:=H.len
 have hn:=H.n5
 refine ⟨H.n1,H.n5,H.len,H.clen,H.blk.keep hc (k _ (by decide)),H.ctl.keep hc (k _ (by decide)) (k _ (by decide)),fun q hq=>(H.ck0 q hq).keep hc (k _ (by decide)),fun i p h1 hp=>?_,fun i q h1 h5 hq=>(H.ck i q h1 h5 hq).keep hc (k _ (by omega)),
  H.net.keep hc (k _ (by decide)) (k _ (by decide)) (k _ (by decide)),H.org.keep hc (k _ (by decide)) (k _ (by decide)),H.log.keep hc (k _ (by decide)) (k _ (by decide))⟩
 obtain ⟨a,b,h,hN⟩:=H.node i p h1 hp
 have : i - 1 < s.nodes.length:=(List.getElem?_eq_some_iff.1 hp).1
 exact ⟨a,b,h,hN.keep hc (by omega) fun x hx hy=>hT x hx (by unfold NT ST at hy;unfold CT;omega)⟩
theorem CluAt.below (H : CluAt w τ c L s) (hb : Below w.heap.size w w') : ∃ τ',CluAt w' τ' c L s /\ Chg (fun _=>False) w τ w' τ':=by
 have hc : Chg (fun _=>False) w τ w' (ext τ w 0):=Chg.of_below hb _
 exact ⟨_,H.keep hc fun _ h=>h.elim,hc⟩
theorem CluAt.ndc (H : CluAt w τ c L s) {i : Nat} (h1 : 1 <= i) (h5 : i <= 5) : w.cell? ⟨c,3 + i,none⟩ = some (ndV L s.n i):=by
 rw [H.blk.cell]
 obtain rfl | rfl | rfl | rfl | rfl : i = 1 \/ i = 2 \/ i = 3 \/ i = 4 \/ i = 5:=by omega
 all_goals rfl
theorem CluAt.ckc (H : CluAt w τ c L s) {i : Nat} (h1 : 1 <= i) (h5 : i <= 5) : w.cell? ⟨c,15 + i,none⟩ = some (ptr (L.ck i)):=by
 rw [H.blk.cell]
 obtain rfl | rfl | rfl | rfl | rfl : i = 1 \/ i = 2 \/ i = 3 \/ i = 4 \/ i = 5:=by omega
 all_goals rfl
def PCl.setNode (s : PCl) (i : Nat) (p : PNode) : PCl:={ s with nodes:=s.nodes.set (i - 1) p }
theorem CluAt.setN (H : CluAt w τ c L s) {i : Nat} (h1 : 1 <= i) (h5 : i <= s.n) {p : PNode} {h : Hd} (hp : NodeAt w' τ' (16 * (i - 1)) (16 * (i - 1) + 10) (L.nd i) (L.dv i) (L.ck i) i p h) (hm : p.ms = []) (hr : p.rs = [])
 (hc : Chg T w τ w' τ') (hT : ∀ x,T x -> NT (16 * (i - 1)) (16 * (i - 1) + 10) x) : CluAt w' τ' c L (s.setNode i p):=by
 have hn:=H.n5
 have k (x : Nat) (hx : ¬ NT (16 * (i - 1)) (16 * (i - 1) + 10) x) : ¬ T x:=fun h=>hx (hT x h)
 have kk (x : Nat) (hx : 80 <= x % 96) : ¬ T x:=k x (by unfold NT ST;omega)
 refine ⟨H.n1,H.n5,by unfold PCl.setNode;simpa using H.len,H.clen,H.blk.keep hc (kk _ (by decide)),H.ctl.keep hc (kk _ (by decide)) (kk _ (by decide)),fun q hq=>(H.ck0 q hq).keep hc (kk _ (by decide)),fun j q hj hq=>?_,fun j q hj1 hj5 hq=>(H.ck j q hj1 hj5 hq).keep hc (k _ (by unfold NT ST;omega)),
  H.net.keep hc (kk _ (by decide)) (kk _ (by decide)) (kk _ (by decide)),H.org.keep hc (kk _ (by decide)) (kk _ (by decide)),H.log.keep hc (kk _ (by decide)) (kk _ (by decide))⟩
 unfold PCl.setNode at hq
 dsimp only at hq
 rw [List.getElem?_set] at hq
 split at hq
 ·rename_i e
  split at hq
  ·injection hq with hq
   obtain rfl : i = j:=by omega
   exact ⟨by rw [<- hq];exact hm,by rw [<- hq];exact hr,h,by rw [<- hq];exact hp⟩
  ·cases hq
 ·rename_i e
  obtain ⟨a,b,h',hN⟩:=H.node j q hj hq
  have:=(List.getElem?_eq_some_iff.1 hq).1
  have:=H.len
  exact ⟨a,b,h',hN.keep hc (by omega) fun x hx hy=>by have h3:=hT x hx;unfold NT ST at h3 hy;omega⟩
theorem CluAt.setNet (H : CluAt w τ c L s) {ms : List PMsg} (h : NetAt w' τ' 83 L.net ms) (hc : Chg T w τ w' τ') (hT : ∀ x,T x -> x % 96 = 83) : CluAt w' τ' c L { s with net:=ms }:=by
 have k (x : Nat) (hx : x % 96 ≠ 83) : ¬ T x:=fun h=>hx (hT x h)
 have hl:=H.len
 have hn:=H.n5
 refine ⟨H.n1,H.n5,H.len,H.clen,H.blk.keep hc (k _ (by decide)),H.ctl.keep hc (k _ (by decide)) (k _ (by decide)),fun q hq=>(H.ck0 q hq).keep hc (k _ (by decide)),fun i p h1 hp=>?_,fun i q h1 h5 hq=>(H.ck i q h1 h5 hq).keep hc (k _ (by omega)),
  h,H.org.keep hc (k _ (by decide)) (k _ (by decide)),H.log.keep hc (k _ (by decide)) (k _ (by decide))⟩
 obtain ⟨a,b,h,hN⟩:=H.node i p h1 hp
 have : i - 1 < s.nodes.length:=(List.getElem?_eq_some_iff.1 hp).1
 exact ⟨a,b,h,hN.keep hc (by omega) fun x hx hy=>by have:=hT x hx;unfold NT ST at hy;omega⟩
theorem CluAt.setLog (H : CluAt w τ c L s) {ls : List PCall} (h : LgAt w' τ' 85 L.log ls) (hc : Chg T w τ w' τ') (hT : ∀ x,T x -> x % 96 = 85) : CluAt w' τ' c L { s with log:=ls }:=by
 have k (x : Nat) (hx : x % 96 ≠ 85) : ¬ T x:=fun h=>hx (hT x h)
 have hl:=H.len
 have hn:=H.n5
 refine ⟨H.n1,H.n5,H.len,H.clen,H.blk.keep hc (k _ (by decide)),H.ctl.keep hc (k _ (by decide)) (k _ (by decide)),fun q hq=>(H.ck0 q hq).keep hc (k _ (by decide)),fun i p h1 hp=>?_,fun i q h1 h5 hq=>(H.ck i q h1 h5 hq).keep hc (k _ (by omega)),
  H.net.keep hc (k _ (by decide)) (k _ (by decide)) (k _ (by decide)),H.org.keep hc (k _ (by decide)) (k _ (by decide)),h⟩
 obtain ⟨a,b,h,hN⟩:=H.node i p h1 hp
 have : i - 1 < s.nodes.length:=(List.getElem?_eq_some_iff.1 hp).1
 exact ⟨a,b,h,hN.keep hc (by omega) fun x hx hy=>by have:=hT x hx;unfold NT ST at hy;omega⟩
theorem CluAt.setOrg (H : CluAt w τ c L s) {os : List St} (h : OrgAt w' τ' 84 L.org os) (hc : Chg T w τ w' τ') (hT : ∀ x,T x -> x % 96 = 84) : CluAt w' τ' c L { s with org:=os }:=by
 have k (x : Nat) (hx : x % 96 ≠ 84) : ¬ T x:=fun h=>hx (hT x h)
 have hl:=H.len
 have hn:=H.n5
 refine ⟨H.n1,H.n5,H.len,H.clen,H.blk.keep hc (k _ (by decide)),H.ctl.keep hc (k _ (by decide)) (k _ (by decide)),fun q hq=>(H.ck0 q hq).keep hc (k _ (by decide)),fun i p h1 hp=>?_,fun i q h1 h5 hq=>(H.ck i q h1 h5 hq).keep hc (k _ (by omega)),
  H.net.keep hc (k _ (by decide)) (k _ (by decide)) (k _ (by decide)),h,H.log.keep hc (k _ (by decide)) (k _ (by decide))⟩
 obtain ⟨a,b,h,hN⟩:=H.node i p h1 hp
 have : i - 1 < s.nodes.length:=(List.getElem?_eq_some_iff.1 hp).1
 exact ⟨a,b,h,hN.keep hc (by omega) fun x hx hy=>by have:=hT x hx;unfold NT ST at hy;omega⟩
theorem CluAt.setCtl (H : CluAt w τ c L s) (h : CtlAt w' τ' 80 L.ctl L.cc s.n) (hc : Chg T w τ w' τ') (hT : ∀ x,T x -> x % 96 = 80) : CluAt w' τ' c L s:=by
 have k (x : Nat) (hx : x % 96 ≠ 80) : ¬ T x:=fun h=>hx (hT x h)
 have hl:=H.len
 have hn:=H.n5
 refine ⟨H.n1,H.n5,H.len,H.clen,H.blk.keep hc (k _ (by decide)),h,fun q hq=>(H.ck0 q hq).keep hc (k _ (by decide)),fun i p h1 hp=>?_,fun i q h1 h5 hq=>(H.ck i q h1 h5 hq).keep hc (k _ (by omega)),
  H.net.keep hc (k _ (by decide)) (k _ (by decide)) (k _ (by decide)),H.org.keep hc (k _ (by decide)) (k _ (by decide)),H.log.keep hc (k _ (by decide)) (k _ (by decide))⟩
 obtain ⟨a,b,h,hN⟩:=H.node i p h1 hp
 have : i - 1 < s.nodes.length:=(List.getElem?_eq_some_iff.1 hp).1
 exact ⟨a,b,h,hN.keep hc (by omega) fun x hx hy=>by have:=hT x hx;unfold NT ST at hy;omega⟩
def ckTag (i : Nat) : Nat:=if i = 0 then 81 else 16 * (i - 1) + 11
def ckPos (L : CL) (i : Nat) : Nat:=if i = 0 then L.cc else L.ck i
theorem CluAt.clk (H : CluAt w τ c L s) {i q : Nat} (h5 : i <= 5) (hq : s.cks[i]? = some q) : ClockAt w τ (ckTag i) (ckPos L i) q:=by
 unfold ckTag ckPos
 by_cases h0 : i = 0
 ·subst h0;rw [if_pos rfl,if_pos rfl];exact H.ck0 q hq
 ·rw [if_neg h0,if_neg h0];exact H.ck i q (by omega) h5 hq
theorem CluAt.setCk (H : CluAt w τ c L s) {i q : Nat} (h5 : i <= 5) (h : ClockAt w' τ' (ckTag i) (ckPos L i) q) (hc : Chg T w τ w' τ') (hT : ∀ x,T x -> x = ckTag i) : CluAt w' τ' c L { s with cks:=s.cks.set i q }:=by
 have k (x : Nat) (hx : x ≠ ckTag i) : ¬ T x:=fun h=>hx (hT x h)
 have hl:=H.len
 have hn:=H.n5
 unfold ckTag at k h hT
 unfold ckPos at h
 have hcl:=H.clen
 refine ⟨H.n1,H.n5,H.len,by simpa using hcl,H.blk.keep hc (k _ (by split <;> omega)),H.ctl.keep hc (k _ (by split <;> omega)) (k _ (by split <;> omega)),fun q' hq=>?_,fun j p h1 hp=>?_,fun j q' hj1 hj5 hq=>?_,
  H.net.keep hc (k _ (by split <;> omega)) (k _ (by split <;> omega)) (k _ (by split <;> omega)),H.org.keep hc (k _ (by split <;> omega)) (k _ (by split <;> omega)),H.log.keep hc (k _ (by split <;> omega)) (k _ (by split <;> omega))⟩
 ·dsimp only at hq
  rw [List.getElem?_set] at hq
  split at hq
  ·rename_i e
   rw [if_pos (by omega)] at hq
   injection hq with hq
   rw [if_pos e,if_pos e] at h
   rw [<- hq];exact h
  ·rename_i e
   exact (H.ck0 q' hq).keep hc (k _ (by rw [if_neg e];omega))
 ·obtain ⟨a,b,h,hN⟩:=H.node j p h1 hp
  have : j - 1 < s.nodes.length:=(List.getElem?_eq_some_iff.1 hp).1
  refine ⟨a,b,h,hN.keep hc (by omega) fun x hx hy=>?_⟩
  have hx:=hT x hx
  unfold NT ST at hy
  split at hx <;> omega
 ·dsimp only at hq
  rw [List.getElem?_set] at hq
  split at hq
  ·rename_i e
   rw [if_pos (by omega)] at hq
   injection hq with hq
   subst e
   rw [if_neg (by omega),if_neg (by omega)] at h
   rw [<- hq];exact h
  ·rename_i e
   exact (H.ck j q' hj1 hj5 hq).keep hc (k _ (by split <;> omega))
end
end Go.Proofs.Ytlhekbjidppijaa
