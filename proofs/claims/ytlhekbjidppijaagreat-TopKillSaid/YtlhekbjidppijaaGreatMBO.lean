/- Contracts of functions that the Top rows reach, and plain laws for them: what each returns and what it leaves in memory. Conditions: those that each theorem names. -/
import Derived.Test.YtlhekbjidppijaaGreatMBN
set_option linter.unusedVariables false
set_option linter.unusedSimpArgs false
namespace Go.Proofs.Ytlhekbjidppijaa
open Go.RowKit
def begun? : Option PW:=((((PW.new 1).rounds? 3).bind fun s=>s.step? 6 0 0 ⟨#[107]⟩ ⟨#[118]⟩ true).bind fun s=>s.step? 7 1 0 ⟨#[107]⟩ ⟨#[]⟩ false).bind fun s=>s.step? 5 1 0 ⟨#[]⟩ ⟨#[]⟩ false
def begunC (s : PW) : Bool:=s.right && (match s.c.log with
 | [z]=>z.done && decide (z.reply.val = ⟨#[118]⟩)
 | _=>false)
set_option maxRecDepth 100000 in
theorem begun_true : begun?.map begunC = some true:=by decide +kernel
theorem begun_ex : ∃ s1 s2 s3 s4 z,(PW.new 1).rounds? 3 = some s1 /\ s1.step? 6 0 0 ⟨#[107]⟩ ⟨#[118]⟩ true = some s2 /\ s2.step? 7 1 0 ⟨#[107]⟩ ⟨#[]⟩ false = some s3 /\ s3.step? 5 1 0 ⟨#[]⟩ ⟨#[]⟩ false = some s4 /\ s4.right = true /\ s4.c.log = [z] /\ z.done = true /\ z.reply.val = ⟨#[118]⟩:=by
 obtain ⟨s4,h4,hc⟩:=Option.map_eq_some_iff.1 begun_true
 unfold begun? at h4
 obtain ⟨s3,h3,e4⟩:=Option.bind_eq_some_iff.1 h4
 obtain ⟨s2,h2,e3⟩:=Option.bind_eq_some_iff.1 h3
 obtain ⟨s1,e1,e2⟩:=Option.bind_eq_some_iff.1 h2
 simp only [begunC,Bool.and_eq_true] at hc
 obtain ⟨hr,hz⟩:=hc
 cases hl : s4.c.log with
 | nil=>rw [hl] at hz;cases hz
 | cons z l=>
  cases l with
  | cons y l=>rw [hl] at hz;cases hz
  | nil=>
   rw [hl] at hz
   simp only [Bool.and_eq_true,decide_eq_true_eq] at hz
   exact ⟨s1,s2,s3,s4,z,e1,e2,e3,e4,hr,hl,hz.1,hz.2⟩
theorem Chg.wx_below {w w' : World} {τ' : Own} (h : Chg WX w (fun _=>94) w' τ') : Below w.heap.size w w':=⟨h.os,h.tape,h.output,h.size,fun k hk=>h.block k hk (by unfold WX;decide)⟩
set_option maxRecDepth 20000 in
set_option maxHeartbeats 400000 in
theorem begun54 (w : World) : Calls Tryz.prog 54 #[] w fun e w'=>e = .returned (.bool true) /\ Below w.heap.size w w':=by
 obtain ⟨s1,s2,s3,s4,z,hE⟩:=begun_ex
 have HE:=Lib.hid hE
 obtain ⟨W1,hW1⟩ : ∃ W,W = w.alloc (.cells #[.int .i64 1] 3):=⟨_,rfl⟩
 have hc1 : Chg (fun _=>False) w (fun _=>94) W1 (fun _=>94):=by rw [hW1];exact (Chg.refl _ _ _).alloc _
 have hs1 : Sl W1 (some ⟨w.heap.size,0,none⟩) (nnums (upto 1)):=by rw [hW1];exact (Blk.new w 3 #[.int .i64 1]).sl
 have HNw:=Lib.hid (new38 W1 (fun _=>94) 1 1 (some ⟨w.heap.size,0,none⟩) hs1 (fun a ha=>by injection ha with ha;subst ha;exact ⟨by rw [hW1];simp,by unfold CT;decide⟩) (by decide) (by decide))
 have HW1:=Lib.hid (And.intro hW1 hc1)
 clear hE hW1 hc1 hs1
 go_enter Tryz.func54,Tryz.ntmps54
 go_wp2_with (first | rw [<- HW1.out.1] | (go_at_call 38;fail))
 refine HNw.out.mono ?_
 rintro e w2 ⟨x,c,L,τ2,rfl,h2,hc2⟩
 obtain ⟨q0,-⟩:=h2.cells
 have H2:=Lib.hid (And.intro h2 ((HW1.out.2.mono (T':=WX) fun _ h=>h.elim).trans (hc2.mono fun x h=>by unfold CT at h;unfold WX;omega)))
 have HN1:=Lib.hid (node24 w2 τ2 c L _ h2.clu 1 (by decide) (by decide))
 have HN2:=Lib.hid (node24 w2 τ2 c L _ h2.clu 2 (by decide) (by decide))
 have HCt:=Lib.hid (ctl71 w2 τ2 c L _ h2.clu)
 have HRo:=Lib.hid (rounds44 w2 τ2 x c L _ s1 h2 3 (by decide) HE.out.1)
 have n1 : ndV L (PW.new 1).c.n 1 = ptr (L.nd 1):=rfl
 have n2 : ndV L (PW.new 1).c.n 2 = .pointer none:=rfl
 rw [n1] at HN1
 rw [n2] at HN2
 clear h2 hc2 HNw n1 n2
 go_wp2_with (go_at_call 24;fail)
 refine HN1.out.mono ?_
 rintro e w' ⟨rfl,hw⟩
 obtain rfl:=hw
 go_wp2_with (go_at_call 24;fail)
 refine HN2.out.mono ?_
 rintro e w' ⟨rfl,hw⟩
 obtain rfl:=hw
 go_wp2_with (go_at_call 71;fail)
 refine HCt.out.mono ?_
 rintro e w' ⟨rfl,hw⟩
 obtain rfl:=hw
 go_wp2_with (go_at_call 44;fail)
 refine HRo.out.mono ?_
 rintro e w3 ⟨⟨v3,rfl⟩,τ3,h3,hc3⟩
 have HSe:=Lib.hid (step34 w3 τ3 x c L s1 s2 h3 6 0 0 ⟨#[107]⟩ ⟨#[118]⟩ true HE.out.2.1)
 have H3:=Lib.hid (H2.out.2.trans hc3)
 unfold stepV at HSe
 clear h3 hc3 H2 HRo HN1 HN2 HCt q0
 go_wp2_with (go_at_call 34;fail)
 refine HSe.out.mono ?_
 rintro e w4 ⟨rfl,τ4,h4,hc4⟩
 have HGe:=Lib.hid (step34 w4 τ4 x c L s2 s3 h4 7 1 0 ⟨#[107]⟩ ⟨#[]⟩ false HE.out.2.2.1)
 have H4:=Lib.hid (H3.out.trans hc4)
 unfold stepV at HGe
 clear h4 hc4 H3 HSe
 go_wp2_with (go_at_call 34;fail)
 refine HGe.out.mono ?_
 rintro e w5 ⟨rfl,τ5,h5,hc5⟩
 have HRe:=Lib.hid (step34 w5 τ5 x c L s3 s4 h5 5 1 0 ⟨#[]⟩ ⟨#[]⟩ false HE.out.2.2.2.1)
 have H5:=Lib.hid (H4.out.trans hc5)
 unfold stepV at HRe
 clear h5 hc5 H4 HGe
 go_wp2_with (go_at_call 34;fail)
 refine HRe.out.mono ?_
 rintro e w6 ⟨rfl,τ6,h6,hc6⟩
 obtain ⟨q0,-⟩:=h6.cells
 have HLg:=Lib.hid (log27 w6 τ6 c L s4.c h6.clu)
 have HAl:=Lib.hid (all28 w6 τ6 85 L.log s4.c.log h6.clu.log (by rw [HE.out.2.2.2.2.2.1];simp))
 have H6:=Lib.hid (And.intro h6 (H5.out.trans hc6))
 rw [HE.out.2.2.2.2.2.1] at HAl
 clear h6 hc6 H5 HRe
 go_wp2_with (first | (go_at_call 27;refine HLg.out.mono ?_;rintro e w' ⟨rfl,hw⟩;obtain rfl:=hw) | (go_at_call 28;fail))
 refine HAl.out.mono ?_
 rintro e w7 ⟨v7,rfl,ho7,hb7⟩
 have hc7 : Chg (fun _=>False) w6 τ6 w7 (ext τ6 w6 94):=Chg.of_below hb7 94
 have hrw : Rw w7 (ext τ6 w6 94) 94 59 13 v7 [z].length ([z].flatMap encC):=Rw.of_new ho7 (Nat.le_refl _) _ _
 have h7:=H6.out.1.keep hc7 fun _ h=>h.elim
 generalize ext τ6 w6 94 = τ7 at hc7 hrw h7
 obtain ⟨A,ca,rfl,-,-,-,hsl,-,-⟩:=hrw.slice
 obtain ⟨g,o,rfl,hcs⟩:=Sl.flat encC_len (by decide) hsl 0 (by simp)
 simp only [Nat.zero_mul,Nat.zero_add,List.getElem_cons_zero] at hcs
 have c6 : w7.cell? ⟨g,o + 6,none⟩ = some (.bool true):=by have:=hcs 6 (.bool z.done) rfl;rwa [HE.out.2.2.2.2.2.2.1] at this
 have c11 : w7.cell? ⟨g,o + 11,none⟩ = some (.string ⟨#[118]⟩):=by have:=hcs 11 (.string z.reply.val) rfl;rwa [HE.out.2.2.2.2.2.2.2] at this
 have HRi:=Lib.hid (right21 w7 τ7 x c L s4 h7 HE.out.2.2.2.2.1)
 have H7:=Lib.hid (H6.out.2.trans (hc7.mono fun _ h=>h.elim))
 clear ho7 hb7 hc7 hrw h7 hsl hcs q0 HLg HAl H6
 simp only [List.length_cons,List.length_nil,Nat.zero_add]
 go_wp2_with (go_at_call 21;fail)
 refine HRi.out.mono ?_
 rintro e w8 ⟨rfl,τ8,h8,hc8⟩
 obtain ⟨q0,-⟩:=h8.cells
 have HSz:=Lib.hid (step53z w8 c)
 have H8:=Lib.hid (H7.out.trans (hc8.mono fun _ h=>h.elim))
 unfold stepV at HSz
 clear h8 hc8 HRi H7
 go_wp2_with (go_at_call 53;fail)
 refine HSz.out.mono ?_
 rintro e w9 ⟨rfl,hb9⟩
 have H9 : Hid (Below w.heap.size w w9):=Lib.hid (H8.out.wx_below.trans (hb9.mono H8.out.size))
 clear hb9
 go_wp2_with fail
 go_ret
 exact ⟨rfl,H9.out⟩
theorem begun37 (w : World) : Calls Tryz.prog 37 #[] w fun e w'=>e = .returned (.bool true) /\ Below w.heap.size w w':=by
 have HB:=Lib.hid (begun54 w)
 go_enter Tryz.func37,Tryz.ntmps37
 go_wp2_with (go_at_call 54;fail)
 refine HB.out.mono ?_
 rintro e w1 ⟨rfl,h1⟩
 have H1:=Lib.hid h1
 clear h1
 go_wp2
 go_ret
 exact ⟨rfl,H1.out⟩
theorem begun13 (w : World) : Calls Tryz.prog 13 #[] w fun e w'=>e = .returned (.bool true) /\ Below w.heap.size w w':=by
 have HB:=Lib.hid (begun37 w)
 go_enter Tryz.func13,Tryz.ntmps13
 go_wp2_with (go_at_call 37;fail)
 refine HB.out.mono ?_
 rintro e w1 ⟨rfl,h1⟩
 have H1:=Lib.hid h1
 clear h1
 go_wp2
 go_ret
 exact ⟨rfl,H1.out⟩
end Go.Proofs.Ytlhekbjidppijaa
namespace Go.Proofs.Ytlhekbjidppijaa
open Go.RowKit
structure TAt (w : World) (τ : Own) (t x c : Nat) (L : CL) (s : PW) : Prop where
 wat : WAt w τ x c L s
 blk : Has w τ 88 t 33 #[ptr x,.bool true]
def TX (x : Nat) : Prop:=x % 96 <= 88
theorem TAt.keep {T : Nat -> Prop} {w w' : World} {τ τ' : Own} {t x c : Nat} {L : CL} {s : PW} (H : TAt w τ t x c L s) (hc : Chg T w τ w' τ') (hT : ∀ x,T x -> ¬ TX x) : TAt w' τ' t x c L s:=
 ⟨H.wat.keep hc fun z hz hy=>hT z hz (by unfold WX at hy;unfold TX;omega),H.blk.keep hc fun h=>hT _ h (by unfold TX;decide)⟩
theorem TAt.setW {w w' : World} {τ τ' : Own} {t x c : Nat} {L : CL} {s s' : PW} (H : TAt w τ t x c L s) (hw : WAt w' τ' x c L s') (hc : Chg WX w τ w' τ') : TAt w' τ' t x c L s':=⟨hw,H.blk.keep hc (by unfold WX;decide)⟩
theorem WX.tx {x : Nat} (h : WX x) : TX x:=by unfold WX at h;unfold TX;omega
theorem Chg.tx_below {w w' : World} {τ' : Own} (h : Chg TX w (fun _=>94) w' τ') : Below w.heap.size w w':=⟨h.os,h.tape,h.output,h.size,fun k hk=>h.block k hk (by unfold TX;decide)⟩
set_option maxRecDepth 20000 in
set_option maxHeartbeats 1000000 in
theorem rounds29 (w : World) (τ : Own) (t x c : Nat) (L : CL) (s s' : PW) (H : TAt w τ t x c L s) (n : Nat) (hn : n <= 1000) (ha : s.rounds? n = some s') :
 Calls Tryz.prog 29 #[ptr t,.int .i64 (n : Int)] w fun e w'=>(∃ r,e = .returned r) /\ ∃ τ',TAt w' τ' t x c L s' /\ Chg TX w τ w' τ':=by
 have HR:=Lib.hid (rounds44 w τ x c L s s' H.wat n hn ha)
 have c0 : w.cell? ⟨t,0,none⟩ = some (ptr x):=H.blk.cell 0
 have c1 : w.cell? ⟨t,1,none⟩ = some (.bool true):=H.blk.cell 1
 have HH:=Lib.hid H
 clear H ha
 go_enter Tryz.func29,Tryz.ntmps29
 go_wp2_with (go_at_call 44;fail)
 refine HR.out.mono ?_
 rintro e w2 ⟨⟨v2,rfl⟩,τ2,h2,hc2⟩
 have HE:=Lib.hid (And.intro (HH.out.setW h2 hc2) (hc2.mono fun z hz=>WX.tx hz))
 clear h2 hc2
 go_wp2
 refine bodyPost_end (by first | exact results_none rfl _ _ _ | rfl | (simp [results];rfl)) rfl ?_
 exact ⟨⟨_,rfl⟩,τ2,HE.out⟩
set_option maxRecDepth 20000 in
set_option maxHeartbeats 1000000 in
theorem made15 (w : World) (τ : Own) (n ca : Nat) (A : Option Addr) (s : PW) (hs : Sl w A (nnums (upto n))) (hA : ∀ a,A = some a -> a.block < w.heap.size /\ ¬ CT (τ a.block)) (h1 : 1 <= n) (h5 : n <= 5) (ha : (PW.new n).rounds? 3 = some s) :
 Calls Tryz.prog 15 #[.slice A n ca] w fun e w'=>∃ t x c L τ',e = .returned (ptr t) /\ TAt w' τ' t x c L s /\ Chg TX w τ w' τ':=by
 have HN:=Lib.hid (new38 w τ n ca A hs hA h1 h5)
 have HA:=Lib.hid ha
 clear hs hA h1 h5 ha
 go_enter Tryz.func15,Tryz.ntmps15
 go_wp2_with (go_at_call 38;fail)
 refine HN.out.mono ?_
 rintro e w2 ⟨x,c,L,τ2,rfl,h2,hc2⟩
 have H2:=Lib.hid (And.intro h2 (hc2.mono (T':=TX) fun z hz=>by unfold CT at hz;unfold TX;omega))
 clear h2 hc2 HN
 go_wp2_with (go_at_call 29;fail)
 generalize hW3 : World.alloc w2 _ = w3
 have hc3 : Chg (fun _=>False) w2 τ2 w3 (ext τ2 w2 88):=by rw [<- hW3];exact ((Chg.refl _ _ _).alloc _).ext _
 have ht3 : TAt w3 (ext τ2 w2 88) w2.heap.size x c L (PW.new n):=⟨H2.out.1.keep hc3 fun _ h=>h.elim,⟨by rw [<- hW3];exact Blk.new _ _ _,ext_new (Nat.le_refl _)⟩⟩
 generalize ext τ2 w2 88 = τ3 at hc3 ht3
 have HR:=Lib.hid (rounds29 w3 τ3 w2.heap.size x c L (PW.new n) s ht3 3 (by decide) HA.out)
 have H3:=Lib.hid (H2.out.2.trans (hc3.mono fun _ h=>h.elim))
 clear hc3 ht3 hW3 H2
 refine HR.out.mono ?_
 rintro e w4 ⟨⟨v4,rfl⟩,τ4,h4,hc4⟩
 have HE:=Lib.hid (And.intro h4 (H3.out.trans hc4))
 clear h4 hc4
 go_wp2
 go_ret
 exact ⟨_,x,c,L,τ4,rfl,HE.out⟩
def TsS (t b : Nat) (a : Value) (sv : List Value) (W : World) : Prop:=W.cell? ⟨t,0,none⟩ = some a /\ W.cell? ⟨t,1,none⟩ = some (.bool true) /\ Blk W b 39 sv.toArray
set_option maxRecDepth 20000 in
set_option maxHeartbeats 2000000 in
theorem step23 (w : World) (τ : Own) (t x c : Nat) (L : CL) (s s' : PW) (H : TAt w τ t x c L s) (fn a n : Nat) (key val : ByteArray) (on : Bool) (ha : s.step? fn a n key val on = some s') :
 Calls Tryz.prog 23 #[ptr t,.agg (stepV fn a n key val on).toArray] w fun e w'=>(∃ r,e = .returned r) /\ ∃ τ',TAt w' τ' t x c L s' /\ Chg TX w τ w' τ':=by
 obtain ⟨W1,hW1⟩ : ∃ W,W = w.alloc (.cells (stepV fn a n key val on).toArray 39):=⟨_,rfl⟩
 have hc1 : Chg (fun _=>False) w τ W1.drew (ext τ w 94):=by rw [hW1];exact (((Chg.refl _ _ _).alloc _).ext _).drew
 have h1:=H.keep hc1 fun _ h=>h.elim
 have hb : Blk W1.drew w.heap.size 39 (stepV fn a n key val on).toArray:=by rw [hW1];exact (Blk.new _ _ _).drewN 1
 generalize ext τ w 94 = τ1 at hc1 h1
 have S1 : Hid (TsS t w.heap.size (ptr x) (stepV fn a n key val on) W1.drew):=Lib.hid ⟨h1.blk.cell 0,h1.blk.cell 1,hb⟩
 have HS:=Lib.hid (step34 W1.drew τ1 x c L s s' h1.wat fn a n key val on ha)
 have HH:=Lib.hid (And.intro h1 (hc1.mono (T':=TX) fun _ h=>h.elim))
 have HW1:=Lib.hid hW1
 clear H ha hW1 hc1 h1 hb
 go_enter Tryz.func23,Tryz.ntmps23
 go_wp2_with (first | rw [<- HW1.out] | fail)
 refine wp_region_hl [] [0,1,2,3,4,5,6,7,8,9] (TsS t w.heap.size (ptr x) (stepV fn a n key val on)) (by kernel_rfl) (by kernel_rfl) S1.out ?_
 iterate 9 (refine hd_take (v:=?_) rfl rfl (by kernel_rfl) (fun W hW=>?_) ?_;rotate_left;(obtain ⟨r0,r1,-⟩:=hW;first | (go_simp;done) | (go_simp;with_reducible rfl)))
 refine hd_load 39 (.tmp 3) rfl rfl (by kernel_rfl) rfl (ptr w.heap.size) (.agg (stepV fn a n key val on).toArray) (by go_simp) (fun W hW=>load_blk (by kernel_rfl) (by kernel_rfl) hW.2.2) (hd_end ?_)
 simp only [List.length_cons,List.length_nil,List.drop_succ_cons,List.drop_zero,Nat.zero_add,Nat.reduceAdd]
 go_wp2_with (go_at_call 34;fail)
 refine HS.out.mono ?_
 rintro e w2 ⟨rfl,τ2,h2,hc2⟩
 have HE:=Lib.hid (And.intro (HH.out.1.setW h2 hc2) (HH.out.2.trans (hc2.mono fun z hz=>WX.tx hz)))
 clear h2 hc2
 go_wp2
 refine bodyPost_end (by first | exact results_none rfl _ _ _ | rfl | (simp [results];rfl)) rfl ?_
 exact ⟨⟨_,rfl⟩,τ2,HE.out⟩
set_option maxRecDepth 20000 in
theorem set16 (w : World) (τ : Own) (t x c : Nat) (L : CL) (s s' : PW) (H : TAt w τ t x c L s) (key val : ByteArray) (ha : s.step? 6 0 0 key val true = some s') :
 Calls Tryz.prog 16 #[ptr t,.string key,.string val] w fun e w'=>(∃ r,e = .returned r) /\ ∃ τ',TAt w' τ' t x c L s' /\ Chg TX w τ w' τ':=by
 have HS:=Lib.hid (step23 w τ t x c L s s' H 6 0 0 key val true ha)
 clear H ha
 unfold stepV at HS
 go_enter Tryz.func16,Tryz.ntmps16
 go_wp2_with (go_at_call 23;fail)
 refine HS.out.mono ?_
 rintro e w2 ⟨⟨v2,rfl⟩,h2⟩
 have HE:=Lib.hid h2
 clear h2
 go_wp2
 refine bodyPost_end (by first | exact results_none rfl _ _ _ | rfl | (simp [results];rfl)) rfl ?_
 exact ⟨⟨_,rfl⟩,HE.out⟩
end Go.Proofs.Ytlhekbjidppijaa
namespace Go.Proofs.Ytlhekbjidppijaa
open Go.RowKit
def PCl.nreads (s : PCl) (k : Nat) : Nat:=(s.nodes.take k).foldl (fun n p=>n + p.reads.length) 0
theorem nreads_succ (s : PCl) (k : Nat) : s.nreads (k + 1) = s.nreads k + (match s.nodes[k]? with
 | some p=>p.reads.length
 | none=>0):=by
 unfold PCl.nreads
 cases h : s.nodes[k]? with
 | none=>rw [List.take_of_length_le (by have:=List.getElem?_eq_none_iff.1 h;omega),List.take_of_length_le (List.getElem?_eq_none_iff.1 h)];simp
 | some p=>
  obtain ⟨hk,rfl⟩:=List.getElem?_eq_some_iff.1 h
  rw [List.take_succ_eq_append_getElem hk,List.foldl_append]
  rfl
def PCl.fewReads (s : PCl) : Bool:=s.nodes.all fun p=>decide (p.reads.length <= 100)
set_option maxRecDepth 20000 in
set_option maxHeartbeats 2000000 in
theorem reads45 (w : World) (τ : Own) (t x c : Nat) (L : CL) (s : PW) (H : TAt w τ t x c L s) (hf : s.c.fewReads = true) :
 Calls Tryz.prog 45 #[ptr t] w fun e w'=>e = .returned (.int .i64 (s.c.nreads 5 : Int)) /\ ∃ τ',TAt w' τ' t x c L s /\ Chg (fun _=>False) w τ w' τ':=by
 have HH:=Lib.hid (And.intro H hf)
 clear H hf
 go_enter Tryz.func45,Tryz.ntmps45
 go_wp2_with fail
 go_loopw [3,4] (fun m v wr=>∃ (a : Nat) (τr : Own),1 <= a /\ a <= 6 /\ v = .int .i64 (a : Int) /\ m = .int .i64 (s.c.nreads (a - 1) : Int) /\ s.c.nreads (a - 1) <= 100 * (a - 1) /\ TAt wr τr t x c L s /\ Chg (fun _=>False) w τ wr τr) (fun _ v _=>6 - (intOf v).toNat)
 case atStart=>exact ⟨1,τ,Nat.le_refl _,by omega,rfl,rfl,by simp [PCl.nreads],HH.out.1,Chg.refl _ _ _⟩
 case round=>
  obtain ⟨a,τr,h1,h6,rfl,rfl,hle,hT,hch⟩:=hrel
  by_cases hlt : a <= 5
  ·have k1 : (a : Int) <= 5:=by omega
   have k2 : (s.c.nreads (a - 1) : Int) <= 500:=by omega
   have t0:=hT.blk.cell 0
   have q0:=hT.wat.cells.1
   have HNd:=Lib.hid (node24 _ τr c L s.c hT.wat.clu a h1 hlt)
   have hsu:=nreads_succ s.c (a - 1)
   rw [show a - 1 + 1 = a by omega] at hsu
   have hlen:=hT.wat.clu.len
   cases hp : s.c.nodes[a - 1]? with
   | none=>
    have hge:=List.getElem?_eq_none_iff.1 hp
    have hnd : ndV L s.c.n a = .pointer none:=by unfold ndV;rw [if_neg (by omega)]
    rw [hnd] at HNd
    rw [hp] at hsu
    have HE:=Lib.hid (And.intro hT (And.intro hch (And.intro hsu hle)))
    clear hT hch hsu hle hlen hge hnd hp
    go_wp2_with (go_at_call 24;refine HNd.out.mono ?_;rintro e w' ⟨rfl,hw⟩;obtain rfl:=hw)
    go_roundw
    case rel=>exact ⟨a + 1,τr,by omega,by omega,by go_num,by rw [show a + 1 - 1 = a by omega,HE.out.2.2.1];rfl,by have:=HE.out.2.2.1;have:=HE.out.2.2.2;rw [show a + 1 - 1 = a by omega];(try dsimp only at *);omega,HE.out.1,HE.out.2.1⟩
    case measure=>simp [intOf];omega
   | some p=>
    have hpl:=(List.getElem?_eq_some_iff.1 hp).1
    have hnd : ndV L s.c.n a = ptr (L.nd a):=by unfold ndV;rw [if_pos (by omega)]
    rw [hnd] at HNd
    rw [hp] at hsu
    have hfew : p.reads.length <= 100:=by
     have:=List.all_eq_true.1 HH.out.2 p (List.mem_of_getElem? hp)
     simpa using this
    obtain ⟨-,-,h,hN⟩:=hT.wat.clu.node a p h1 hp
    have HRd:=Lib.hid (reads25 _ τr _ _ _ _ _ a p h hN (by omega) (by omega))
    have k3 : (p.reads.length : Int) <= 100:=by omega
    have HE:=Lib.hid (And.intro hT (And.intro hch (And.intro hsu (And.intro hle hfew))))
    clear hT hch hsu hle hlen hpl hnd hp hN hfew
    go_wp2_with (first | (go_at_call 24;refine HNd.out.mono ?_;rintro e w' ⟨rfl,hw⟩;obtain rfl:=hw) | (go_at_call 25;fail))
    refine HRd.out.mono ?_
    rintro e w2 ⟨v2,rfl,ho2,hb2⟩
    obtain ⟨A2,c2,rfl⟩:=ownsRow_slice ho2
    have hc2 : Chg (fun _=>False) _ τr w2 (ext τr _ 94):=Chg.of_below hb2 94
    have HE2:=Lib.hid (And.intro (HE.out.1.keep hc2 fun _ h=>h.elim) (HE.out.2.1.trans hc2))
    clear ho2 hb2 hc2
    go_wp2_with fail
    go_roundw
    case rel=>exact ⟨a + 1,_,by omega,by omega,by go_num,by rw [show a + 1 - 1 = a by omega,HE.out.2.2.1];go_num,by have:=HE.out.2.2.1;have:=HE.out.2.2.2.1;have:=HE.out.2.2.2.2;rw [show a + 1 - 1 = a by omega];(try dsimp only at *);omega,HE2.out.1,HE2.out.2⟩
    case measure=>simp [intOf];omega
  ·obtain rfl : a = 6:=by omega
   have HE:=Lib.hid (And.intro hT hch)
   clear hT hch
   go_wp2_with fail
   go_ret
   exact ⟨rfl,τr,HE.out⟩
end Go.Proofs.Ytlhekbjidppijaa
