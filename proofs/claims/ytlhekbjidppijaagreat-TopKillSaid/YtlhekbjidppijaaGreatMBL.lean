/- Contracts of functions that the Top rows reach, and plain laws for them: what each returns and what it leaves in memory. Conditions: those that each theorem names. -/
import Derived.Deep.DeepCutAuto
import Derived.Test.YtlhekbjidppijaaGreatMAB
import Derived.Test.YtlhekbjidppijaaGreatMBK
set_option linter.unusedVariables false
set_option linter.unusedSimpArgs false
namespace Go.Proofs.Ytlhekbjidppijaa
open Go.RowKit
def stepV (fn a n : Nat) (key val : ByteArray) (on : Bool) : List Value:=[.int .i64 (fn : Int),.int .i64 (a : Int),.int .i64 (n : Int),.string key,.string val,.bool on,.slice none 0 0]
def PCl.mail? (s : PCl) (drop : Bool) : Option PCl:=match s.net with
 | []=>none
 | m :: l=>if decide (s.net.length <= 1000) && decide (m.members.length <= 5) then (if drop then some { s with net:=l } else ({ s with net:=l } : PCl).hear? m) else none
structure MlA (w : World) (τ : Own) (c bs b y : Nat) (L : CL) (s : PCl) (sv : List Value) (m : PMsg) (vm : Value) (W : World) (τ' : Own) : Prop where
 clu : CluAt W τ' c L s
 stp : Has W τ' y bs 39 sv.toArray
 msg : Has W τ' y b 182 (msgV m vm).toArray
 mem : Rw W τ' y 3 1 vm m.members.length (nnums m.members)
 chg : Chg CT w τ W τ'
def MlS (c bs : Nat) (a : Value) (W : World) : Prop:=W.cell? ⟨c,27,none⟩ = some a /\ W.cell? ⟨bs,2,none⟩ = some (.int .i64 0)
set_option maxRecDepth 20000 in
set_option maxHeartbeats 4000000 in
theorem mail64 (w : World) (τ : Own) (c : Nat) (L : CL) (s s' : PCl) (H : CluAt w τ c L s) (fn a : Nat) (hfn : fn = 2 \/ fn = 3) (key val : ByteArray) (on : Bool) (ha : s.mail? (decide (fn = 3)) = some s') :
 Calls Tryz.prog 64 #[ptr c,.agg (stepV fn a 0 key val on).toArray] w fun e w'=>e = .returned (.int .i64 0) /\ ∃ τ',CluAt w' τ' c L s' /\ Chg CT w τ w' τ':=by
 unfold PCl.mail? at ha
 split at ha
 case h_1=>cases ha
 rename_i m l hnet
 split at ha
 case isFalse=>cases ha
 rename_i hg
 simp only [Bool.and_eq_true,decide_eq_true_eq] at hg
 obtain ⟨hl,h5⟩:=hg
 obtain ⟨y,hy1,hy2⟩:=fresh95 w τ
 obtain ⟨W1,hW1⟩ : ∃ W,W = w.alloc (.cells (stepV fn a 0 key val on).toArray 39):=⟨_,rfl⟩
 have hc1 : Chg (fun _=>False) w τ W1.drew (ext τ w y):=by rw [hW1];exact (((Chg.refl _ _ _).alloc _).ext _).drew
 have hO1 : Has W1.drew (ext τ w y) y w.heap.size 39 (stepV fn a 0 key val on).toArray:=⟨by rw [hW1];exact (Blk.new _ _ _).drewN 1,ext_new (Nat.le_refl _)⟩
 have H1:=H.keep hc1 fun _ h=>h.elim
 generalize ext τ w y = τ1 at hc1 hO1 H1
 have hi0 : 0 < s.net.length:=by rw [hnet];simp
 have hm0 : s.net[0] = m:=by simp [hnet]
 have HLk : Hid (∀ W,Below W1.drew.heap.size W1.drew W -> MlS c w.heap.size (ptr L.net) W /\ Calls Tryz.prog 84 #[ptr L.net,.int .i64 0] W fun e w'=>∃ vm,e = .returned (.tuple #[.agg (msgV m vm).toArray,.bool true]) /\ w'.ownsRow W.heap.size 3 1 vm m.members.length (nnums m.members) /\ Below W.heap.size W w'):=Lib.hid fun W hb=>by
  have hc : Chg (fun _=>False) W1.drew τ1 W (ext τ1 W1.drew y):=Chg.of_below hb _
  have h1:=H1.keep hc fun _ h=>h.elim
  refine ⟨⟨h1.blk.cell 27,(hO1.keep hc id).cell 2⟩,(look84 W _ 83 L.net s.net h1.net 0 hi0 hl (by rw [hm0];exact h5)).mono ?_⟩
  rintro e w' ⟨vm,rfl,ho,hbl⟩
  rw [hm0] at ho ⊢
  exact ⟨vm,rfl,ho,hbl⟩
 have HMk : Hid (∀ W b vm base,Below W1.drew.heap.size W1.drew W -> Blk W b 182 (msgV m vm).toArray -> W1.drew.heap.size <= b -> W.ownsRow base 3 1 vm m.members.length (nnums m.members) -> W1.drew.heap.size <= base -> ∃ τ',MlA w τ c w.heap.size b y L s (stepV fn a 0 key val on) m vm W τ'):=Lib.hid fun W b vm base hb hB hle ho hle2=>by
  have hc : Chg (fun _=>False) W1.drew τ1 W (ext τ1 W1.drew y):=Chg.of_below hb _
  exact ⟨_,H1.keep hc fun _ h=>h.elim,hO1.keep hc id,⟨hB,ext_new hle⟩,Rw.of_new ho hle2 _ _,(hc1.trans hc).mono fun _ h=>h.elim⟩
 have S1 : Hid (MlS c w.heap.size (ptr L.net) W1.drew):=Lib.hid ⟨H1.blk.cell 27,hO1.cell 2⟩
 have HX:=Lib.hid (And.intro hi0 (And.intro hl (And.intro hy1 hnet)))
 have HA:=Lib.hid ha
 have HFn:=Lib.hid hfn
 have HW1:=Lib.hid hW1
 have kfn : ((fn : Int) != 4) = true:=by rw [bne_iff_ne];omega
 clear H ha hl h5 hy1 hy2 hc1 hO1 H1 hi0 hm0 hnet hW1 hfn
 go_enter Tryz.func64,Tryz.ntmps64
 go_upto_region 1 with (first | rw [<- HW1.out] | fail)
 go_cut [5,6] (fun x5 x6 wx=>x6 = .bool true /\ ∃ b vm τx,x5 = ptr b /\ MlA w τ c w.heap.size b y L s (stepV fn a 0 key val on) m vm wx τx)
 case first=>
  refine wp_region_pl (.take 0 (.take 1 (.take 2 (.take 3 (.take 4 (.take 5 (.two 6 (.take 7 (.take 8 (.take 9 (.one 10 (.one 11 .done))))) 10 (.one 6 (.take 7 (.take 8 (.take 9 (.one 11 .done)))))))))))) (MlS c w.heap.size (ptr L.net)) (by kernel_rfl) (by kernel_rfl) S1.out ?_
  iterate 6 (refine pl_take (v:=?_) rfl (by kernel_rfl) (fun W hW=>?_) ?_;rotate_left;(obtain ⟨r0,r1⟩:=hW;first | (go_simp;done) | (go_simp;with_reducible rfl)))
  refine pl_two rfl rfl (fun K hK=>?_) (fun K hK=>?_)
  ·have HC2:=Lib.hid (HLk.out _ (Below.refl _ _)).2
   go_simp
   refine HC2.out.mono ?_
   rintro e w3 ⟨vm,rfl,ho3,hb3⟩
   have S3:=Lib.hid (HLk.out w3 hb3).1
   have HX3:=Lib.hid (And.intro ho3 hb3)
   have h1c:=ownsRow_one ho3
   clear ho3 hb3 HC2
   refine hK _ _ S3.out ?_
   clear hK
   iterate 3 (refine pl_take (v:=?_) rfl (by kernel_rfl) (fun W hW=>?_) ?_;rotate_left;(first | (go_simp;done) | (go_simp;with_reducible rfl)))
   refine pl_one rfl fun K hK=>?_
   go_simp
   refine hK _ _ (HLk.out _ (HX3.out.2.alloc HX3.out.2.size _)).1 ?_
   clear hK
   obtain ⟨W5,hrun,hW5,hk5,hsz,q1,q2,q3⟩:=store_msg (m:=m) (vm:=vm) (Blk.new w3 182 zero182.toArray) rfl h1c
   have hbl : Below w3.heap.size w3 W5:=((Below.refl _ w3).alloc (Nat.le_refl _) (.cells zero182.toArray 182)).trans ⟨q1,q2,q3,by omega,fun q hq=>hk5 q (by omega)⟩
   have hbl5:=HX3.out.2.trans (hbl.mono HX3.out.2.size)
   have HA5:=Lib.hid (HMk.out W5 w3.heap.size vm _ hbl5 hW5 HX3.out.2.size (ownsRow_eq (W:=W5) HX3.out.1 fun g hg hv=>hbl.block g (World.ownsRow.lt HX3.out.1 g hv).2) (Nat.le_refl _))
   have S5:=Lib.hid (HLk.out W5 hbl5).1
   refine pl_one rfl fun K hK=>?_
   refine step_store rfl 182 (.tmp 5) (.tmp 15) rfl rfl (ptr w3.heap.size) (.agg (msgV m vm).toArray) (by go_simp) (by go_simp) W5 hrun ?_
   refine hK _ _ S5.out (pl_end ?_)
   clear hrun hW5 hk5 hsz q1 q2 q3 hbl hbl5 hK S3 S5 HX3 h1c HLk HMk
   simp only [Plan.len,List.drop_succ_cons,List.drop_zero,Nat.zero_add,Nat.reduceAdd]
   go_wp2_with fail
   go_meet
   exact ⟨rfl,_,vm,HA5.out.imp fun τx h=>⟨rfl,h⟩⟩
  ·have hb4 : Below W1.drew.heap.size W1.drew (W1.drew.alloc (.cells zero182.toArray 182)):=(Below.refl _ _).alloc (Nat.le_refl _) _
   have hb2 : Blk (W1.drew.alloc (.cells zero182.toArray 182)) W1.drew.heap.size 182 zero182.toArray:=Blk.new _ _ _
   have HC2:=Lib.hid (HLk.out _ hb4).2
   have S2:=Lib.hid (HLk.out _ hb4).1
   have HB4:=Lib.hid (And.intro hb4 hb2)
   clear hb2 hb4
   go_simp
   refine hK _ _ S2.out ?_
   clear hK
   refine pl_one rfl fun K hK=>?_
   go_simp
   refine HC2.out.mono ?_
   rintro e w3 ⟨vm,rfl,ho3,hb3⟩
   have hbl3:=HB4.out.1.trans (hb3.mono HB4.out.1.size)
   have S3:=Lib.hid (HLk.out w3 hbl3).1
   have hB3 : Blk w3 W1.drew.heap.size 182 zero182.toArray:=HB4.out.2.below hb3 HB4.out.2.lt
   have h1c:=ownsRow_one ho3
   have HX3:=Lib.hid (And.intro ho3 (And.intro hbl3 hB3))
   clear ho3 hb3 hbl3 hB3 HC2
   refine hK _ _ S3.out ?_
   clear hK
   iterate 3 (refine pl_take (v:=?_) rfl (by kernel_rfl) (fun W hW=>?_) ?_;rotate_left;(first | (go_simp;done) | (go_simp;with_reducible rfl)))
   obtain ⟨W5,hrun,hW5,hk5,hsz,q1,q2,q3⟩:=store_msg (m:=m) (vm:=vm) HX3.out.2.2 rfl h1c
   have hbl5 : Below W1.drew.heap.size W1.drew W5:=HX3.out.2.1.trans ⟨q1,q2,q3,by omega,fun q hq=>hk5 q (by omega)⟩
   have ho5:=ownsRow_eq (W:=W5) HX3.out.1 fun g hg hv=>hk5 g (by rw [World.size_alloc] at hg;omega)
   have HA5:=Lib.hid (HMk.out W5 W1.drew.heap.size vm _ hbl5 hW5 (Nat.le_refl _) ho5 (by simp))
   have S5:=Lib.hid (HLk.out W5 hbl5).1
   refine pl_one rfl fun K hK=>?_
   refine step_store rfl 182 (.tmp 5) (.tmp 15) rfl rfl (ptr W1.drew.heap.size) (.agg (msgV m vm).toArray) (by go_simp) (by go_simp) W5 hrun ?_
   refine hK _ _ S5.out (pl_end ?_)
   clear hrun hW5 hk5 hsz q1 q2 q3 hbl5 ho5 hK S3 S5 HX3 h1c HLk HMk
   simp only [Plan.len,List.drop_succ_cons,List.drop_zero,Nat.zero_add,Nat.reduceAdd]
   go_wp2_with fail
   go_meet
   exact ⟨rfl,_,vm,HA5.out.imp fun τx h=>⟨rfl,h⟩⟩
 case rest=>
  clear HLk HMk S1 HW1
  obtain ⟨rfl,b,vm,τx,rfl,hA⟩:=hcut
  have b0 : wc.cell? ⟨w.heap.size,0,none⟩ = some (.int .i64 (fn : Int)):=hA.stp.cell 0
  have hcd : Chg (fun _=>False) wc τx wc.drew τx:=(Chg.refl _ _ _).drew
  have hcl:=hA.clu.keep hcd fun _ h=>h.elim
  have S2 : Hid (MlS c w.heap.size (ptr L.net) wc.drew):=Lib.hid ⟨hcl.blk.cell 27,(hA.stp.keep hcd id).cell 2⟩
  have HDr:=Lib.hid (drop85 wc.drew τx 83 L.net s.net hcl.net 0 HX.out.1 HX.out.2.1)
  have HA2:=Lib.hid (And.intro hcl (And.intro (hA.stp.keep hcd id) (And.intro (hA.msg.keep hcd id) (And.intro (hA.mem.keep hcd id) (hA.chg.trans (hcd.mono fun _ h=>h.elim))))))
  clear hA hcd hcl
  go_wp2_with fail
  refine wp_region_hl [] [0,1,2,3,4,5] (MlS c w.heap.size (ptr L.net)) (by kernel_rfl) (by kernel_rfl) S2.out ?_
  iterate 5 (refine hd_take (v:=?_) rfl rfl (by kernel_rfl) (fun W hW=>?_) ?_;rotate_left;(obtain ⟨r0,r1⟩:=hW;first | (go_simp;done) | (go_simp;with_reducible rfl)))
  refine hd_take (v:=?_) rfl rfl (by kernel_rfl) (fun W hW=>?_) (hd_end ?_)
  rotate_left
  ·obtain ⟨r0,r1⟩:=hW;first | (go_simp;done) | (go_simp;with_reducible rfl)
  simp only [List.length_cons,List.length_nil,List.drop_succ_cons,List.drop_zero,Nat.zero_add,Nat.reduceAdd]
  go_wp2_with (go_at_call 85;fail)
  refine HDr.out.mono ?_
  rintro e w4 ⟨rfl,hn4,hc4⟩
  have h4:=HA2.out.1.setNet hn4 hc4 (by rintro x (e | e | e) <;> omega)
  have e4 : s.net.take 0 ++ s.net.drop (0 + 1) = l:=by rw [HX.out.2.2.2];rfl
  rw [e4] at h4
  have hy4 : ¬ T3 83 y:=by have:=HX.out.2.2.1;show ¬ (y = 83 \/ y = 83 + 96 \/ y = 83 + 192);omega
  have b0 : w4.cell? ⟨w.heap.size,0,none⟩ = some (.int .i64 (fn : Int)):=(HA2.out.2.1.keep hc4 hy4).cell 0
  have HA4:=Lib.hid (And.intro h4 (And.intro (HA2.out.2.2.1.keep hc4 hy4) (And.intro (HA2.out.2.2.2.1.keep hc4 hy4) (HA2.out.2.2.2.2.trans (hc4.mono (T':=CT) (by rintro x (e | e | e) <;> (unfold CT;omega)))))))
  clear hn4 hc4 h4 e4 hy4 HDr HA2
  rcases HFn.out with hfn | hfn
  ·rw [hfn] at b0
   have ha:=HA.out
   rw [hfn,if_neg (by decide)] at ha
   have HHe:=Lib.hid (hears86 w4 τx c L _ s' HA4.out.1 y m vm HA4.out.2.2.1 (by have:=HX.out.2.2.1;omega) ha)
   clear ha hfn
   go_wp2_with (first | (refine wpl_lq 182 _ rfl ?_;refine lq 182 _ (ptr b) _ rfl (by kernel_rfl) (load_msg HA4.out.2.1.blk) ?_) | (go_at_call 86;fail))
   refine HHe.out.mono ?_
   rintro e w5 ⟨⟨v5,rfl⟩,τ5,h5,hc5⟩
   have HF:=Lib.hid (And.intro h5 (HA4.out.2.2.2.trans hc5))
   clear h5 hc5
   go_wp2
   go_ret
   exact ⟨rfl,τ5,HF.out.1,HF.out.2⟩
  ·rw [hfn] at b0
   have ha:=HA.out
   rw [hfn,if_pos (by decide)] at ha
   injection ha with ha
   clear hfn
   have HAa:=Lib.hid ha
   clear ha
   go_wp2
   go_ret
   refine ⟨rfl,τx,?_,HA4.out.2.2.2⟩
   rw [<- HAa.out]
   exact HA4.out.1
end Go.Proofs.Ytlhekbjidppijaa
namespace Go.Proofs.Ytlhekbjidppijaa
open Go.RowKit
def PCl.step? (s : PCl) (fn a n : Nat) (key val : ByteArray) (on : Bool) : Option PCl:=
 if fn = 1 then s.tick? a
 else if fn = 2 \/ fn = 3 then (if n = 0 then s.mail? (decide (fn = 3)) else none)
 else if fn = 5 then s.read? a n
 else if fn = 6 then (if on && s.small then some { s with org:=s.org ++ [⟨key,val,true⟩] } else none)
 else if fn = 7 then s.call? 1 a key
 else if fn = 8 then s.call? 2 a key
 else none
def StS (c b : Nat) (a : Value) (key val : ByteArray) (on : Bool) (W : World) : Prop:=W.cell? ⟨c,28,none⟩ = some a /\ W.cell? ⟨b,3,none⟩ = some (.string key) /\ W.cell? ⟨b,4,none⟩ = some (.string val) /\ W.cell? ⟨b,5,none⟩ = some (.bool on)
set_option maxRecDepth 20000 in
set_option maxHeartbeats 2000000 in
theorem step53 (w : World) (τ : Own) (c : Nat) (L : CL) (s s' : PCl) (H : CluAt w τ c L s) (fn a n : Nat) (key val : ByteArray) (on : Bool) (ha : s.step? fn a n key val on = some s') :
 Calls Tryz.prog 53 #[ptr c,.agg (stepV fn a n key val on).toArray] w fun e w'=>e = .returned (.int .i64 0) /\ ∃ τ',CluAt w' τ' c L s' /\ Chg CT w τ w' τ':=by
 obtain ⟨y,hy1,hy2⟩:=fresh95 w τ
 obtain ⟨W1,hW1⟩ : ∃ W,W = w.alloc (.cells (stepV fn a n key val on).toArray 39):=⟨_,rfl⟩
 have hc1 : Chg (fun _=>False) w τ W1 (ext τ w y):=by rw [hW1];exact ((Chg.refl _ _ _).alloc _).ext _
 have hO1 : Has W1 (ext τ w y) y w.heap.size 39 (stepV fn a n key val on).toArray:=⟨by rw [hW1];exact Blk.new _ _ _,ext_new (Nat.le_refl _)⟩
 have H1:=H.keep hc1 fun _ h=>h.elim
 generalize ext τ w y = τ1 at hc1 hO1 H1
 have b0 : W1.cell? ⟨w.heap.size,0,none⟩ = some (.int .i64 (fn : Int)):=hO1.cell 0
 have b1 : W1.cell? ⟨w.heap.size,1,none⟩ = some (.int .i64 (a : Int)):=hO1.cell 1
 have b2 : W1.cell? ⟨w.heap.size,2,none⟩ = some (.int .i64 (n : Int)):=hO1.cell 2
 have b3 : W1.cell? ⟨w.heap.size,3,none⟩ = some (.string key):=hO1.cell 3
 have HF : Hid (∀ r : Ending,∀ w',(∃ τ',CluAt w' τ' c L s' /\ Chg CT W1 τ1 w' τ') -> ∃ τ',CluAt w' τ' c L s' /\ Chg CT w τ w' τ'):=Lib.hid fun r w' h=>h.imp fun τ' h=>⟨h.1,(hc1.mono fun _ h=>h.elim).trans h.2⟩
 have HB:=Lib.hid hO1.blk
 have HH1:=Lib.hid H1
 have HO1:=Lib.hid hO1
 have HW1:=Lib.hid hW1
 have HC1:=Lib.hid hc1
 clear H hy1 hy2 hW1 hc1 hO1 H1
 unfold PCl.step? at ha
 split at ha
 ·rename_i h0
  subst h0
  have HT:=Lib.hid (tick63 W1 τ1 c L s s' HH1.out a ha)
  clear ha
  go_enter Tryz.func53,Tryz.ntmps53
  go_wp2_with (first | rw [<- HW1.out] | (go_at_call 63;fail))
  refine HT.out.mono ?_
  rintro e w2 ⟨rfl,h2⟩
  have HG:=Lib.hid (HF.out (.returned (.int .i64 0)) w2 h2)
  clear h2
  go_wp2
  go_ret
  exact ⟨rfl,HG.out⟩
 split at ha
 ·rename_i h0
  split at ha
  case isFalse=>cases ha
  rename_i hn0
  subst hn0
  have HT:=Lib.hid (mail64 W1 τ1 c L s s' HH1.out fn a h0 key val on ha)
  have hload:=load_blk (P:=Tryz.prog) (W:=W1) (by kernel_rfl) (by kernel_rfl) HB.out
  have HLd:=Lib.hid hload
  clear ha hload
  rcases h0 with h0 | h0
  all_goals (
   subst h0
   go_enter Tryz.func53,Tryz.ntmps53
   go_wp2_with (first | rw [<- HW1.out] | (refine wpl_lq 39 _ rfl ?_;refine lq 39 _ (ptr w.heap.size) _ rfl (by kernel_rfl) HLd.out ?_) | (go_at_call 64;fail))
   refine HT.out.mono ?_
   rintro e w2 ⟨rfl,h2⟩
   have HG:=Lib.hid (HF.out (.returned (.int .i64 0)) w2 h2)
   clear h2
   go_wp2
   go_ret
   exact ⟨rfl,HG.out⟩)
 split at ha
 ·rename_i h0
  subst h0
  have HT:=Lib.hid (read65 W1 τ1 c L s s' HH1.out a n ha)
  clear ha
  go_enter Tryz.func53,Tryz.ntmps53
  go_wp2_with (first | rw [<- HW1.out] | (go_at_call 65;fail))
  refine HT.out.mono ?_
  rintro e w2 ⟨rfl,h2⟩
  have HG:=Lib.hid (HF.out (.returned (.int .i64 0)) w2 h2)
  clear h2
  go_wp2
  go_ret
  exact ⟨rfl,HG.out⟩
 split at ha
 ·rename_i h0
  subst h0
  split at ha
  case isFalse=>cases ha
  rename_i hg
  simp only [PCl.small,Bool.and_eq_true,decide_eq_true_eq] at hg
  injection ha with ha
  obtain ⟨rfl,ho,-⟩:=hg
  have hcd : Chg (fun _=>False) W1 τ1 W1.drew τ1:=(Chg.refl _ _ _).drew
  have hd:=HH1.out.keep hcd fun _ h=>h.elim
  have hod:=HO1.out.keep hcd id
  have S1 : Hid (StS c w.heap.size (ptr L.org) key val true W1.drew):=Lib.hid ⟨hd.blk.cell 28,hod.cell 3,hod.cell 4,hod.cell 5⟩
  have HSe:=Lib.hid (set66 W1.drew τ1 84 L.org s.org hd.org ho key val)
  have HX:=Lib.hid (And.intro hd (hcd.mono (T':=CT) fun _ h=>h.elim))
  have HA:=Lib.hid ha
  clear ha ho hcd hd hod
  go_enter Tryz.func53,Tryz.ntmps53
  go_wp2_with (first | rw [<- HW1.out] | fail)
  refine wp_region_hl [] [0,1,2,3,4,5,6,7,8,9] (StS c w.heap.size (ptr L.org) key val true) (by kernel_rfl) (by kernel_rfl) S1.out ?_
  iterate 9 (refine hd_take (v:=?_) rfl rfl (by kernel_rfl) (fun W hW=>?_) ?_;rotate_left;(obtain ⟨r0,r1,r2,r3⟩:=hW;first | (go_simp;done) | (go_simp;with_reducible rfl)))
  refine hd_take (v:=?_) rfl rfl (by kernel_rfl) (fun W hW=>?_) (hd_end ?_)
  rotate_left
  ·obtain ⟨r0,r1,r2,r3⟩:=hW;first | (go_simp;done) | (go_simp;with_reducible rfl)
  simp only [List.length_cons,List.length_nil,List.drop_succ_cons,List.drop_zero,Nat.zero_add,Nat.reduceAdd]
  go_wp2_with (go_at_call 66;fail)
  refine HSe.out.mono ?_
  rintro e w2 ⟨⟨v2,rfl⟩,τ2,ho2,hc2⟩
  have h2:=HX.out.1.setOrg ho2 hc2 (by rintro x (e | e) <;> omega)
  rw [HA.out] at h2
  have HG:=Lib.hid (HF.out (.returned (.int .i64 0)) w2 ⟨τ2,h2,HX.out.2.trans (hc2.mono (T':=CT) (by rintro x (e | e) <;> (unfold CT;omega)))⟩)
  clear h2 ho2 hc2
  go_wp2
  go_ret
  exact ⟨rfl,HG.out⟩
 split at ha
 ·rename_i h0
  subst h0
  have HT:=Lib.hid (call67 W1 τ1 c L s s' HH1.out 1 a key ha)
  clear ha
  go_enter Tryz.func53,Tryz.ntmps53
  go_wp2_with (first | rw [<- HW1.out] | (go_at_call 67;fail))
  refine HT.out.mono ?_
  rintro e w2 ⟨rfl,h2⟩
  have HG:=Lib.hid (HF.out (.returned (.int .i64 0)) w2 h2)
  clear h2
  go_wp2
  go_ret
  exact ⟨rfl,HG.out⟩
 split at ha
 ·rename_i h0
  subst h0
  have HT:=Lib.hid (call67 W1 τ1 c L s s' HH1.out 2 a key ha)
  clear ha
  go_enter Tryz.func53,Tryz.ntmps53
  go_wp2_with (first | rw [<- HW1.out] | (go_at_call 67;fail))
  refine HT.out.mono ?_
  rintro e w2 ⟨rfl,h2⟩
  have HG:=Lib.hid (HF.out (.returned (.int .i64 0)) w2 h2)
  clear h2
  go_wp2
  go_ret
  exact ⟨rfl,HG.out⟩
 ·cases ha
theorem step53z (w : World) (c : Nat) : Calls Tryz.prog 53 #[ptr c,.agg (stepV 0 0 0 ⟨#[]⟩ ⟨#[]⟩ false).toArray] w fun e w'=>e = .returned (.int .i64 1) /\ Below w.heap.size w w':=by
 obtain ⟨W1,hW1⟩ : ∃ W,W = w.alloc (.cells (stepV 0 0 0 ⟨#[]⟩ ⟨#[]⟩ false).toArray 39):=⟨_,rfl⟩
 have b0 : W1.cell? ⟨w.heap.size,0,none⟩ = some (.int .i64 0):=by rw [hW1];exact (Blk.new w 39 (stepV 0 0 0 ⟨#[]⟩ ⟨#[]⟩ false).toArray).cell 0
 have HB : Hid (Below w.heap.size w W1):=Lib.hid (by rw [hW1];exact (Below.refl _ w).alloc (Nat.le_refl _) _)
 have HW1:=Lib.hid hW1
 clear hW1
 go_enter Tryz.func53,Tryz.ntmps53
 go_wp2_with (first | rw [<- HW1.out] | fail)
 go_ret
 exact ⟨rfl,HB.out⟩
end Go.Proofs.Ytlhekbjidppijaa
namespace Go.Proofs.Ytlhekbjidppijaa
open Go.RowKit
def dvV (f : Nat -> Nat) (k i : Nat) : Value:=if i <= k then ptr (f i) else .pointer none
def opV (a : Bool) (v : Nat) : Value:=match a with
 | true=>ptr v
 | false=>.pointer none
def preV (L : CL) (a : Bool) (k j : Nat) : List Value:=
 opV a L.ctl :: ptr L.cd :: opV a L.cc :: .pointer none :: dvV L.nd j 1 :: dvV L.nd j 2 :: dvV L.nd j 3 :: dvV L.nd j 4 :: dvV L.nd j 5 :: .pointer none :: dvV L.dv k 1 :: dvV L.dv k 2 :: dvV L.dv k 3 :: dvV L.dv k 4 :: dvV L.dv k 5 ::
 .pointer none :: dvV L.ck k 1 :: dvV L.ck k 2 :: dvV L.ck k 3 :: dvV L.ck k 4 :: dvV L.ck k 5 :: .bool false :: .bool (decide (1 <= j)) :: .bool (decide (2 <= j)) :: .bool (decide (3 <= j)) :: .bool (decide (4 <= j)) :: .bool (decide (5 <= j)) :: ptr L.net :: ptr L.org :: ptr L.log :: []
def pn0 : PNode:=PNode.new FS.zero 0 2 ⟨1,0,0,false⟩
structure PreAt (w : World) (τ : Own) (c : Nat) (L : CL) (n k j : Nat) : Prop where
 blk : Has w τ 86 c 89 (preV L true k j).toArray
 ctl : CtlAt w τ 80 L.ctl L.cc n
 ck0 : ClockAt w τ 81 L.cc 0
 dev : ∀ i,j < i -> i <= k -> DevAt w τ (16 * (i - 1) + 9) (L.dv i) 1200 (fun _=>True)
 ck : ∀ i,1 <= i -> i <= k -> ClockAt w τ (16 * (i - 1) + 11) (L.ck i) 0
 node : ∀ i,1 <= i -> i <= j -> ∃ h,NodeAt w τ (16 * (i - 1)) (16 * (i - 1) + 10) (L.nd i) (L.dv i) (L.ck i) i pn0 h
 net : NetAt w τ 83 L.net []
 org : OrgAt w τ 84 L.org []
 log : LgAt w τ 85 L.log []
theorem PreAt.keep {T : Nat -> Prop} {w w' : World} {τ τ' : Own} {c n k j : Nat} {L : CL} (H : PreAt w τ c L n k j) (hk : k <= 5) (hj : j <= 5) (hc : Chg T w τ w' τ') (hT : ∀ x,T x -> ¬ CT x) : PreAt w' τ' c L n k j:=by
 have q (x : Nat) (hx : x % 96 <= 86) : ¬ T x:=fun h=>hT x h hx
 exact ⟨H.blk.keep hc (q _ (by decide)),H.ctl.keep hc (q _ (by decide)) (q _ (by decide)),H.ck0.keep hc (q _ (by decide)),fun i h1 h2=>(H.dev i h1 h2).keep hc (q _ (by omega)),fun i h1 h2=>(H.ck i h1 h2).keep hc (q _ (by omega)),
  fun i h1 h2=>(H.node i h1 h2).imp fun h hN=>hN.keep hc (by omega) fun x hx hy=>hT x hx (by unfold NT ST at hy;unfold CT;omega),H.net.keep hc (q _ (by decide)) (q _ (by decide)) (q _ (by decide)),H.org.keep hc (q _ (by decide)) (q _ (by decide)),H.log.keep hc (q _ (by decide)) (q _ (by decide))⟩
def CL.setNd (L : CL) (i v : Nat) : CL:={ L with nd:=fun q=>if q = i then v else L.nd q }
theorem preV_nd (L : CL) (i v : Nat) (h1 : 1 <= i) (h5 : i <= 5) : (((preV L true 5 (i - 1)).toArray.setIfInBounds (3 + i) (ptr v)).setIfInBounds (21 + i) (.bool true)) = (preV (L.setNd i v) true 5 i).toArray:=by
 obtain rfl | rfl | rfl | rfl | rfl : i = 1 \/ i = 2 \/ i = 3 \/ i = 4 \/ i = 5:=by omega
 all_goals rfl
theorem PreAt.more {w w' W : World} {τ τ' : Own} {c n i v : Nat} {L : CL} {h : Hd} (H : PreAt w τ c L n 5 (i - 1)) (h1 : 1 <= i) (h5 : i <= 5) (hc : Chg (ST (16 * (i - 1))) w τ w' τ') (hN : NodeAt w' τ' (16 * (i - 1)) (16 * (i - 1) + 10) v (L.dv i) (L.ck i) i pn0 h) (hW : W = (w'.setCell ⟨c,3 + i,none⟩ (ptr v)).setCell ⟨c,21 + i,none⟩ (.bool true)) :
 PreAt W τ' c (L.setNd i v) n 5 i /\ Chg CT w τ W τ':=by
 have hb:=H.blk.keep hc (by unfold ST;omega)
 have hc2 : Chg (· = 86) w' τ' W τ':=by rw [hW];exact ((Chg.refl _ _ _).setCell (p:=⟨c,3 + i,none⟩) hb.own _).setCell (p:=⟨c,21 + i,none⟩) hb.own _
 have hcc : Chg (fun x=>ST (16 * (i - 1)) x \/ x = 86) w τ W τ':=(hc.mono fun _ h=>.inl h).trans (hc2.mono fun _ h=>.inr h)
 have r (x : Nat) (hx : ¬ (16 * (i - 1) <= x % 96 /\ x % 96 <= 16 * (i - 1) + 9)) (h86 : x ≠ 86) : ¬ (ST (16 * (i - 1)) x \/ x = 86):=by unfold ST;omega
 refine ⟨⟨?_,H.ctl.keep hcc (r _ (by omega) (by omega)) (r _ (by omega) (by omega)),H.ck0.keep hcc (r _ (by omega) (by omega)),fun q hq1 hq2=>(H.dev q (by omega) hq2).keep hcc (r _ (by omega) (by omega)),fun q hq1 hq2=>(H.ck q hq1 hq2).keep hcc (r _ (by omega) (by omega)),fun q hq1 hq2=>?_,
  H.net.keep hcc (r _ (by omega) (by omega)) (r _ (by omega) (by omega)) (r _ (by omega) (by omega)),H.org.keep hcc (r _ (by omega) (by omega)) (r _ (by omega) (by omega)),H.log.keep hcc (r _ (by omega) (by omega)) (r _ (by omega) (by omega))⟩,hcc.mono fun x h=>by unfold ST at h;unfold CT;omega⟩
 ·have:=(hb.set_ (3 + i) (ptr v)).set_ (21 + i) (.bool true)
  rw [preV_nd L i v h1 h5,<- hW] at this
  exact this
 ·by_cases he : q = i
  ·subst he
   have e : (L.setNd q v).nd q = v:=by unfold CL.setNd;simp
   rw [e]
   exact ⟨h,hN.keep hc2 (by omega) fun x hx hy=>by unfold NT ST at hy;omega⟩
  ·have e : (L.setNd i v).nd q = L.nd q:=by unfold CL.setNd;simp [he]
   rw [e]
   obtain ⟨h',hN'⟩:=H.node q hq1 (by omega)
   exact ⟨h',hN'.keep hcc (by omega) fun x hx hy=>by unfold NT ST at hy;unfold ST at hx;omega⟩
theorem PreAt.cells {w : World} {τ : Own} {c n i : Nat} {L : CL} (H : PreAt w τ c L n 5 (i - 1)) (h1 : 1 <= i) (h5 : i <= 5) :
 w.cell? ⟨c,9 + i,none⟩ = some (ptr (L.dv i)) /\ w.cell? ⟨c,15 + i,none⟩ = some (ptr (L.ck i)) /\ w.cell? ⟨c,21 + i,none⟩ = some (.bool false) /\ ∃ v,w.cell? ⟨c,3 + i,none⟩ = some v:=by
 rw [H.blk.cell,H.blk.cell,H.blk.cell,H.blk.cell]
 obtain rfl | rfl | rfl | rfl | rfl : i = 1 \/ i = 2 \/ i = 3 \/ i = 4 \/ i = 5:=by omega
 all_goals exact ⟨rfl,rfl,rfl,_,rfl⟩
def SaS (c i : Nat) (a b : Value) (W : World) : Prop:=W.cell? ⟨c,9 + i,none⟩ = some a /\ W.cell? ⟨c,15 + i,none⟩ = some b
set_option maxRecDepth 20000 in
set_option maxHeartbeats 2000000 in
theorem start78 (w : World) (τ : Own) (c n i : Nat) (L : CL) (H : PreAt w τ c L n 5 (i - 1)) (h1 : 1 <= i) (h5 : i <= 5) :
 Calls Tryz.prog 78 #[ptr c,.int .i64 (i : Int)] w fun e w'=>e = .returned (.int .i64 0) /\ ∃ L' τ',PreAt w' τ' c L' n 5 i /\ Chg CT w τ w' τ':=by
 obtain ⟨c9,c15,c21,-⟩:=H.cells h1 h5
 have hcd : Chg (fun _=>False) w τ w.drew τ:=(Chg.refl _ _ _).drew
 have hd:=H.keep (by decide) (by omega) hcd fun _ h=>h.elim
 have S1 : Hid (SaS c i (ptr (L.dv i)) (ptr (L.ck i)) w.drew):=Lib.hid ⟨(hd.cells h1 h5).1,(hd.cells h1 h5).2.1⟩
 have HM:=Lib.hid (make103 w.drew τ (16 * (i - 1)) (16 * (i - 1) + 10) (L.dv i) (L.ck i) i (hd.dev i (by omega) h5) (by omega) (by omega) h1 h5)
 have HX:=Lib.hid (And.intro hd (And.intro hcd (And.intro h1 h5)))
 have k1 : (0 : Int) <= (i : Int):=by omega
 have k2 : (i : Int) < 6:=by omega
 have k7 : i < 6:=by omega
 clear H h1 h5 hcd hd c9 c15
 go_enter Tryz.func78,Tryz.ntmps78
 go_wp2_with fail
 refine wp_region_hl [13] [0,1,2,3,4,5,6,7,8,9,10,11,12,13,14,15,16,17] (SaS c i (ptr (L.dv i)) (ptr (L.ck i))) (by kernel_rfl) (by kernel_rfl) S1.out ?_
 iterate 13 (refine hd_take (v:=?_) rfl rfl (by kernel_rfl) (fun W hW=>?_) ?_;rotate_left;(obtain ⟨r0,r1⟩:=hW;first | (go_simp;done) | (go_simp;with_reducible rfl)))
 refine hd_loud rfl rfl fun K hK=>?_
 go_simp
 refine HM.out.mono ?_
 rintro e w2 ⟨v,h,τ2,rfl,hN2,hc2⟩
 have hb2:=HX.out.1.blk.keep hc2 (by have:=HX.out.2.2.2;unfold ST;omega)
 have S2 : Hid (SaS c i (ptr (L.dv i)) (ptr (L.ck i)) w2):=Lib.hid (by
  refine ⟨?_,?_⟩
  ·rw [hb2.cell,<- HX.out.1.blk.cell];exact S1.out.1
  ·rw [hb2.cell,<- HX.out.1.blk.cell];exact S1.out.2)
 have HN:=Lib.hid (And.intro hN2 hc2)
 have HB2:=Lib.hid hb2
 clear hN2 hc2 hb2
 refine hK _ _ S2.out ?_
 clear hK
 iterate 3 (refine hd_take (v:=?_) rfl rfl (by kernel_rfl) (fun W hW=>?_) ?_;rotate_left;(first | (go_simp;done) | (go_simp;with_reducible rfl)))
 refine hd_take (v:=?_) rfl rfl (by kernel_rfl) (fun W hW=>?_) (hd_end ?_)
 rotate_left
 ·first | (go_simp;done) | (go_simp;with_reducible rfl)
 simp only [List.length_cons,List.length_nil,List.drop_succ_cons,List.drop_zero,Nat.zero_add,Nat.reduceAdd]
 have hbd:=HB2.out.drewN 1
 have hcells : ∃ v4 v5,w2.drew.cell? ⟨c,3 + i,none⟩ = some v4 /\ w2.drew.cell? ⟨c,21 + i,none⟩ = some v5:=by
  obtain ⟨-,-,c21',v,c3'⟩:=HX.out.1.cells HX.out.2.2.1 HX.out.2.2.2
  refine ⟨v,.bool false,?_,?_⟩
  ·rw [<- c3',HX.out.1.blk.cell];exact hbd.cell _
  ·rw [<- c21',HX.out.1.blk.cell];exact hbd.cell _
 obtain ⟨v4,v5,e4,e5⟩:=hcells
 have f4 : w2.drew.frozen? ⟨c,3 + i,none⟩ = false:=hbd.frozen _
 have f5 : w2.drew.frozen? ⟨c,21 + i,none⟩ = false:=hbd.frozen _
 have HFin : Hid (∀ W,W = (w2.drew.setCell ⟨c,3 + i,none⟩ (ptr v)).setCell ⟨c,21 + i,none⟩ (.bool true) -> PreAt W τ2 c (L.setNd i v) n 5 i /\ Chg CT w τ W τ2):=Lib.hid fun W hW=>by
  have hcd2 : Chg (fun _=>False) w2 τ2 w2.drew τ2:=(Chg.refl _ _ _).drew
  obtain ⟨a1,a2⟩:=HX.out.1.more (v:=v) (h:=h) HX.out.2.2.1 HX.out.2.2.2 (HN.out.2.trans (hcd2.mono fun _ h=>h.elim)) (HN.out.1.keep hcd2 (by have:=HX.out.2.2.2;omega) fun _ h=>h.elim) hW
  exact ⟨a1,(HX.out.2.1.mono fun _ h=>h.elim).trans a2⟩
 clear hbd S2
 go_wp2_with fail
 refine wp_region_hl [8] [0,1,2,3,4,5,6,7,9,10,8,11] (fun _=>True) (by kernel_rfl) (by kernel_rfl) trivial ?_
 have HBD:=Lib.hid (HB2.out.drewN 1).blk
 clear HB2 HN
 change Hid (Blk w2.drew c 89 _) at HBD
 generalize w2.drew = wd at *
 iterate 10 (refine hd_take (v:=?_) rfl rfl (by kernel_rfl) (fun W hW=>?_) ?_;rotate_left;(first | (go_simp;done) | (go_simp;with_reducible rfl)))
 refine hd_loud rfl rfl fun K hK=>?_
 go_simp
 generalize hW3 : World.setCell _ _ _ = W3
 have hb3 : ∃ cs,Blk W3 c 89 cs /\ (cs[21 + i]? = some v5):=by
  obtain ⟨cs,hcs⟩ : ∃ cs,Blk wd c 89 cs:=⟨_,HBD.out⟩
  refine ⟨_,by rw [<- hW3];exact hcs.set_ _ _,?_⟩
  rw [Array.getElem?_setIfInBounds_ne (by omega),<- hcs.cell]
  exact e5
 obtain ⟨cs3,hb3,hc3⟩:=hb3
 have e6 : W3.cell? ⟨c,21 + i,none⟩ = some v5:=by rw [hb3.cell];exact hc3
 have f6 : W3.frozen? ⟨c,21 + i,none⟩ = false:=hb3.frozen _
 have HF3 : Hid (∀ W,W = W3.setCell ⟨c,21 + i,none⟩ (.bool true) -> PreAt W τ2 c (L.setNd i v) n 5 i /\ Chg CT w τ W τ2):=Lib.hid fun W hW=>HFin.out W (by rw [hW,<- hW3])
 clear hW3 hb3 hc3 e4 e5 f4 f5 HFin
 refine hK _ _ trivial ?_
 clear hK
 refine hd_take (v:=?_) rfl rfl (by kernel_rfl) (fun W hW=>?_) (hd_end ?_)
 rotate_left
 ·first | (go_simp;done) | (go_simp;with_reducible rfl)
 simp only [List.length_cons,List.length_nil,List.drop_succ_cons,List.drop_zero,Nat.zero_add,Nat.reduceAdd]
 go_wp2_with fail
 go_ret
 exact ⟨rfl,_,τ2,HF3.out _ rfl⟩
end Go.Proofs.Ytlhekbjidppijaa
