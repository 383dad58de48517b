/- Contracts of functions that the Top rows reach, and plain laws for them: what each returns and what it leaves in memory. Conditions: those that each theorem names. -/
import Derived.Test.YtlhekbjidppijaaGreatMAB
import Derived.Test.YtlhekbjidppijaaGreatMBO
set_option linter.unusedVariables false
set_option linter.unusedSimpArgs false
namespace Go.Proofs.Ytlhekbjidppijaa
open Go.RowKit
def PW.pass? (s : PW) : List Nat -> Option PW
 | []=>some s
 | a :: l=>match s.c.nodes[a - 1]? with
  | some p=>if p.reads.length = 0 then s.pass? l else if 1000 < p.reads.length then none else match s.step? 5 a 0 ⟨#[]⟩ ⟨#[]⟩ false with
   | some s'=>s'.pass? l
   | none=>none
  | none=>s.pass? l
def PW.askL? (rd : Bool) : Nat -> PW -> Option PW
 | 0,s=>some s
 | f + 1,s=>match s.drain? 300 with
  | some s1=>if s1.c.fewReads then (if !rd || decide (s1.c.nreads 5 = 0) then some s1 else match s1.pass? (List.range' 1 5) with
   | some s2=>s2.askL? rd f
   | none=>none) else none
  | none=>none
def PW.ask? (s : PW) (fn a : Nat) (key : ByteArray) (rd : Bool) : Option (PW × PCall):=match s.step? fn a 0 key ⟨#[]⟩ false with
 | some s1=>match s1.askL? rd 20 with
  | some s2=>if 1 <= s1.c.log.length /\ s1.c.log.length <= 1000 /\ s2.c.log.length <= 1000 then (s2.c.log[s1.c.log.length - 1]?).map fun z=>(s2,z) else none
  | none=>none
 | none=>none
theorem loadVar_rep {W : World} {g : Nat} {r : PReply} (h : Blk W g 57 (encR r).toArray) : (loadVar 57 ⟨g,0,none⟩).run Tryz.prog W = .ok (.agg (encR r).toArray) W:=
 run_loadVarAgg W 57 g 0 (encR r) 6 (by kernel_rfl) (by kernel_rfl) rfl (fun j v hj=>by rw [Nat.zero_add,h.cell j,List.getElem?_toArray];exact hj)
theorem store_blk {P : Program} (w : World) (t g : Nat) (cur : Array Value) (cs : List Value) (hs : (sizeOf t).run P w = .ok cs.length w) (hb : Blk w g t cur) (hz : cur.size = cs.length) (h1 : ∀ v ∈ cs,v.oneCell' = true) :
 ∃ W2,(Instr.storeAt t (.pointer (some ⟨g,0,none⟩)) (.agg cs.toArray)).run P w = .ok () W2 /\ Blk W2 g t cs.toArray /\ (∀ k,k ≠ g -> W2.heap[k]? = w.heap[k]?) /\ W2.heap.size = w.heap.size /\ W2.os = w.os /\ W2.tape = w.tape /\ W2.output = w.output:=by
 obtain ⟨W2,a,b,c,d,e,f,q⟩:=run_storeAgg (P:=P) w t g 0 t cur cs cs.length hs rfl hb (by omega) h1
 rw [splice_all _ _ hz] at b
 exact ⟨W2,a,b,c,d,e,f,q⟩
theorem load_rep {W : World} {g : Nat} {z : PCall} (h : Blk W g 59 (encC z).toArray) : (Instr.loadAt 57 (.pointer (some ⟨g,7,none⟩))).run Tryz.prog W = .ok (.agg (encR z.reply).toArray) W:=
 run_loadAgg W 57 g 7 (encR z.reply) 6 (by kernel_rfl) (by kernel_rfl) rfl (fun j v hj=>by
  have hj6 : j < 6:=by have:=(List.getElem?_eq_some_iff.1 hj).1;simpa [encR] using this
  rw [h.cell,<- hj]
  obtain rfl | rfl | rfl | rfl | rfl | rfl : j = 0 \/ j = 1 \/ j = 2 \/ j = 3 \/ j = 4 \/ j = 5:=by omega
  all_goals rfl)
def z57 : Array Value:=#[.int .i64 0,.int .i64 0,.string ⟨#[]⟩,.int .i64 0,.string ⟨#[]⟩,.bool false]
structure AsA (w : World) (τ : Own) (t x c b : Nat) (L : CL) (s : PW) (W : World) (τ' : Own) : Prop where
 tat : TAt W τ' t x c L s
 blk : Has W τ' 94 b 57 z57
 chg : Chg TX w τ W τ'
theorem AsA.step {w W W2 : World} {τ τ1 τ2 : Own} {t x c b : Nat} {L : CL} {s s2 : PW} (h : AsA w τ t x c b L s W τ1) (ht : TAt W2 τ2 t x c L s2) (hc : Chg TX W τ1 W2 τ2) : AsA w τ t x c b L s2 W2 τ2:=
 ⟨ht,h.blk.keep hc (by unfold TX;decide),h.chg.trans hc⟩
set_option maxRecDepth 20000 in
set_option maxHeartbeats 2000000 in
theorem ask31 (w : World) (τ : Own) (t x c : Nat) (L : CL) (s s' : PW) (z : PCall) (H : TAt w τ t x c L s) (fn a : Nat) (key : ByteArray) (rd : Bool) (ha : s.ask? fn a key rd = some (s',z)) :
 Calls Tryz.prog 31 #[ptr t,.int .i64 (fn : Int),.int .i64 (a : Int),.string key,.bool rd] w fun e w'=>e = .returned (.tuple #[.agg (encR z.reply).toArray,.bool z.done]) /\ ∃ τ',TAt w' τ' t x c L s' /\ Chg TX w τ w' τ':=by
 unfold PW.ask? at ha
 split at ha
 case h_2=>cases ha
 rename_i s1 hs1
 split at ha
 case h_2=>cases ha
 rename_i s2 hs2
 split at ha
 case isFalse=>cases ha
 rename_i hcond
 obtain ⟨zz,hz,hzz⟩:=Option.map_eq_some_iff.1 ha
 injection hzz with e1 e2
 subst e1
 rw [e2] at hz
 clear e2
 obtain ⟨W1,hW1⟩ : ∃ W,W = w.alloc (.cells z57 57):=⟨_,rfl⟩
 have hc1 : Chg (fun _=>False) w τ W1 (ext τ w 94):=by rw [hW1];exact ((Chg.refl _ _ _).alloc _).ext _
 have hA1 : AsA w τ t x c w.heap.size L s W1 (ext τ w 94):=⟨H.keep hc1 fun _ h=>h.elim,⟨by rw [hW1];exact Blk.new _ _ _,ext_new (Nat.le_refl _)⟩,hc1.mono fun _ h=>h.elim⟩
 generalize ext τ w 94 = τ1 at hA1
 have HSt:=Lib.hid (step23 W1 τ1 t x c L s s1 hA1.tat fn a 0 key ⟨#[]⟩ false hs1)
 have HA1:=Lib.hid hA1
 have HX:=Lib.hid (And.intro hs2 (And.intro hcond hz))
 have HW1:=Lib.hid hW1
 unfold z57 at HW1
 unfold stepV at HSt
 clear H ha hs1 hs2 hcond hz hW1 hc1 hA1
 go_enter Tryz.func31,Tryz.ntmps31
 go_wp2_with (first | rw [<- HW1.out] | (go_at_call 23;fail))
 refine HSt.out.mono ?_
 rintro e w2 ⟨⟨v2,rfl⟩,τ2,h2,hc2⟩
 have hA2:=HA1.out.step h2 hc2
 have HA2:=Lib.hid hA2
 have t0:=h2.blk.cell 0
 have t1:=h2.blk.cell 1
 have q0:=h2.wat.cells.1
 have HLg:=Lib.hid (log27 w2 τ2 c L s1.c h2.wat.clu)
 have HAl:=Lib.hid (all28 w2 τ2 85 L.log s1.c.log h2.wat.clu.log HX.out.2.1.2.1)
 clear h2 hc2 hA2 HSt HA1 HW1
 go_wp2_with (first | (go_at_call 27;refine HLg.out.mono ?_;rintro e w' ⟨rfl,hw⟩;obtain rfl:=hw) | (go_at_call 28;fail))
 refine HAl.out.mono ?_
 rintro e w3 ⟨v3,rfl,ho3,hb3⟩
 obtain ⟨A3,c3,rfl⟩:=ownsRow_slice ho3
 have hc3 : Chg (fun _=>False) w2 τ2 w3 (ext τ2 w2 94):=Chg.of_below hb3 94
 have hA3:=HA2.out.step (HA2.out.tat.keep hc3 fun _ h=>h.elim) (hc3.mono fun _ h=>h.elim)
 generalize ext τ2 w2 94 = τ3 at hA3
 have HA3:=Lib.hid hA3
 obtain ⟨m,hn1⟩ : ∃ m,m + 1 = s1.c.log.length:=⟨s1.c.log.length - 1,by have:=HX.out.2.1.1;omega⟩
 have HN1 : Hid (s2.c.log[m]? = some z /\ m <= 1000):=Lib.hid ⟨by have:=HX.out.2.2;rwa [<- hn1,Nat.add_sub_cancel] at this,by have:=HX.out.2.1.2.1;omega⟩
 rw [<- hn1]
 clear ho3 hb3 hc3 hA3 HA2 t0 t1 q0 HLg HAl hn1
 go_wp2_with fail
 go_loopw [13] (fun v wr=>∃ (f : Nat) (τr : Own) (sr : PW),f <= 20 /\ v = .int .i64 (f : Int) /\ sr.askL? rd (20 - f) = some s2 /\ AsA w τ t x c w.heap.size L sr wr τr) (fun v _=>20 - (intOf v).toNat)
 case atStart=>exact ⟨0,τ3,s1,by omega,rfl,HX.out.1,HA3.out⟩
 case' round=>
  obtain ⟨f,τr,sr,hf,rfl,hl,hA⟩:=hrel
  clear HA3
  by_cases hlt : f < 20
  focus (
   rw [show 20 - f = (20 - f - 1) + 1 by omega] at hl
   unfold PW.askL? at hl
   split at hl
   case h_2=>cases hl
   rename_i sd hsd
   split at hl
   case isFalse=>cases hl
   rename_i hfew
   have k1 : (f : Int) < 20:=by omega
   have HA4:=Lib.hid hA
   have HL:=Lib.hid (And.intro hl (And.intro hfew hsd))
   clear hA hl hfew hsd
   go_wp2_with fail
   go_loopw [14] (fun v wr2=>∃ (k : Nat) (τk : Own) (sk : PW),k <= 300 /\ v = .int .i64 (k : Int) /\ sk.drain? (300 - k) = some sd /\ AsA w τ t x c w.heap.size L sk wr2 τk) (fun v _=>300 - (intOf v).toNat)
   case atStart=>exact ⟨0,τr,sr,by omega,rfl,HL.out.2.2,HA4.out⟩
   case' round=>
    obtain ⟨k,τk,sk,hk,rfl,hdr,hAk⟩:=hrel
    clear HA4
    have t0:=hAk.tat.blk.cell 0
    have q0:=hAk.tat.wat.cells.1
    have HNe:=Lib.hid (net35 _ τk c L sk.c hAk.tat.wat.clu)
    have HLe:=Lib.hid (len36 _ τk 83 L.net sk.c.net hAk.tat.wat.clu.net)
    have hk3 : k < 300 /\ ¬ sk.c.net.length = 0 \/ sk = sd /\ (k < 300 /\ sk.c.net.length = 0 \/ k = 300):=by
     by_cases hk3 : k < 300
     ·by_cases hn : sk.c.net.length = 0
      ·rw [show 300 - k = (300 - k - 1) + 1 by omega] at hdr
       unfold PW.drain? at hdr
       rw [if_pos hn] at hdr
       injection hdr with hdr
       exact .inr ⟨hdr,.inl ⟨hk3,hn⟩⟩
      ·exact .inl ⟨hk3,hn⟩
     ·obtain rfl : k = 300:=by omega
      rw [Nat.sub_self] at hdr
      unfold PW.drain? at hdr
      injection hdr with hdr
      exact .inr ⟨hdr,.inr rfl⟩
    rcases hk3 with ⟨hk3,hn⟩ | ⟨rfl,hk3⟩
    focus (
     rw [show 300 - k = (300 - k - 1) + 1 by omega] at hdr
     unfold PW.drain? at hdr
     rw [if_neg hn] at hdr
     split at hdr
     case h_2=>cases hdr
     rename_i sl hsl
     have HST:=Lib.hid (step34 _ τk x c L sk sl hAk.tat.wat 2 0 0 ⟨#[]⟩ ⟨#[]⟩ false hsl)
     have HE:=Lib.hid (And.intro hAk hdr)
     have k2 : (k : Int) < 300:=by omega
     have k3 : (0 : Int) < (sk.c.net.length : Int):=by omega
     clear hAk hdr hsl
     unfold stepV at HST
     go_wp2_with (first | (go_at_call 35;refine HNe.out.mono ?_;rintro e w' ⟨rfl,hw⟩;obtain rfl:=hw) | (go_at_call 36;refine HLe.out.mono ?_;rintro e w' ⟨rfl,hw⟩;obtain rfl:=hw.symm) | (go_at_call 34;fail))
     refine HST.out.mono ?_
     rintro e w4 ⟨rfl,τ4,h4,hc4⟩
     have HE4:=Lib.hid (HE.out.1.step (HE.out.1.tat.setW h4 hc4) (hc4.mono fun z hz=>WX.tx hz))
     clear h4 hc4
     go_wp2_with fail
     go_roundw
     case rel=>exact ⟨k + 1,τ4,sl,by omega,by go_num,by rw [show 300 - (k + 1) = 300 - k - 1 by omega];exact HE.out.2,HE4.out⟩
     case measure=>simp [intOf];omega)
    have HD:=Lib.hid hAk
    clear hAk hdr
    rcases hk3 with ⟨hk3,hn⟩ | rfl
    focus (
     have k2 : (k : Int) < 300:=by omega
     rw [hn] at HLe
     clear hn hk3
     go_upto_region 12 with (first | (go_at_call 35;refine HNe.out.mono ?_;rintro e w' ⟨rfl,hw⟩;obtain rfl:=hw) | (go_at_call 36;refine HLe.out.mono ?_;rintro e w' ⟨rfl,hw⟩;obtain rfl:=hw.symm)))
    rotate_left
    focus (go_upto_region 12 with fail)
    all_goals (
     have HRd:=Lib.hid (reads45 _ τk t x c L sk HD.out.tat HL.out.2.1)
     clear HNe HLe t0 q0
     cases rd with
     | false=>
      have hl:=HL.out.1
      rw [if_pos (by simp)] at hl
      injection hl with hl
      subst hl
      have HD2:=HD
      have t0:=HD2.out.tat.blk.cell 0
      have q0:=HD2.out.tat.wat.cells.1
      have HLg:=Lib.hid (log27 _ τk c L sk.c HD2.out.tat.wat.clu)
      have HAl:=Lib.hid (all28 _ τk 85 L.log sk.c.log HD2.out.tat.wat.clu.log HX.out.2.1.2.2)
      go_wp2_with (first | (go_at_call 27;refine HLg.out.mono ?_;rintro e w' ⟨rfl,hw⟩;obtain rfl:=hw) | (go_at_call 28;fail))
      refine HAl.out.mono ?_
      rintro e w7 ⟨v7,rfl,ho7,hb7⟩
      obtain ⟨A7,c7,rfl⟩:=ownsRow_slice ho7
      have hc7 : Chg (fun _=>False) _ τk w7 (ext τk _ 94):=Chg.of_below hb7 94
      have hrw : Rw w7 (ext τk _ 94) 94 59 13 (.slice A7 sk.c.log.length c7) sk.c.log.length (sk.c.log.flatMap encC):=Rw.of_new ho7 (Nat.le_refl _) τk 94
      have hA7:=HD2.out.step (HD2.out.tat.keep hc7 fun _ h=>h.elim) (hc7.mono fun _ h=>h.elim)
      generalize ext τk _ 94 = τ7 at hrw hA7
      have hml:=(List.getElem?_eq_some_iff.1 HN1.out.1).1
      obtain ⟨g7,rfl⟩ : ∃ g,A7 = some ⟨g,0,none⟩:=by
       obtain ⟨A',c',e1,-,-,-,-,hA,ha⟩:=hrw.slice
       injection e1 with e1 _ _
       subst e1
       cases A7 with
       | none=>have:=(hA rfl).1;omega
       | some a=>
        obtain ⟨b0,o0,s0⟩:=a
        obtain ⟨rfl,rfl,_⟩:=ha _ rfl
        exact ⟨b0,rfl⟩
      have hld:=Rw.load (P:=Tryz.prog) encC_len (by decide) hrw hml (by kernel_rfl) (by kernel_rfl)
      have hze : sk.c.log[m] = z:=by have:=(List.getElem?_eq_some_iff.1 HN1.out.1).2;exact this
      rw [hze] at hld
      obtain ⟨W8,hst,hb8,hbl8,hsz8⟩:=store_fresh (P:=Tryz.prog) w7 59 #[.int .i64 0,.int .i64 0,.string ⟨#[]⟩,.int .i64 0,.int .i64 0,.int .i64 0,.bool false,.int .i64 0,.int .i64 0,.string ⟨#[]⟩,.int .i64 0,.string ⟨#[]⟩,.bool false] (encC z) (fun W=>by kernel_rfl) rfl (encC_one z)
      have HLd:=Lib.hid hld
      have HSt:=Lib.hid hst
      have kml : (m : Int) < (sk.c.log.length : Int):=by omega
      have kml2 : m < sk.c.log.length:=hml
      have km9 : (m : Int) <= 1000:=by have:=HN1.out.2;omega
      have HA7:=Lib.hid hA7
      clear ho7 hb7 hc7 hrw hA7 hld hst t0 q0 HLg HAl HD HD2 hze
      go_wp2_with (first | (refine wpl_lq 59 _ rfl ?_;refine lq 59 _ _ _ rfl (by kernel_rfl) HLd.out ?_) | (refine wpl_sq 59 _ _ rfl rfl ?_;refine sq 59 _ _ _ _ W8 rfl rfl (by kernel_rfl) HSt.out ?_))
      have hcd : Chg (fun _=>False) w7 τ7 W8.drew (ext τ7 w7 94):=(Chg.of_below hbl8 94).drew
      have hA8:=HA7.out.step (HA7.out.tat.keep hcd fun _ h=>h.elim) (hcd.mono fun _ h=>h.elim)
      have hb8d : Blk W8.drew w7.heap.size 59 (encC z).toArray:=hb8.drewN 1
      have hlt7 : w.heap.size < w7.heap.size:=HA7.out.blk.lt
      generalize ext τ7 w7 94 = τ8 at hcd hA8
      have S8 : Hid (Blk W8.drew w7.heap.size 59 (encC z).toArray):=Lib.hid hb8d
      obtain ⟨W9,hst9,hb9,hk9,hsz9,p1,p2,p3⟩:=store_blk (P:=Tryz.prog) W8.drew 57 w.heap.size z57 (encR z.reply) (by kernel_rfl) hA8.blk.blk rfl (encR_one z.reply)
      have hc9 : Chg (fun _=>True) W8.drew τ8 W9 τ8:=⟨p1,p2,p3,by omega,fun k hk hn=>absurd trivial hn,fun _ _=>rfl⟩
      have hc94 : Chg (· = 94) W8.drew τ8 W9 τ8:=⟨p1,p2,p3,by omega,fun k hk hn=>hk9 k (by rintro rfl;exact hn hA8.blk.own),fun _ _=>rfl⟩
      have HF : Hid (TAt W9 τ8 t x c L sk /\ Chg TX w τ W9 τ8 /\ Blk W9 w.heap.size 57 (encR z.reply).toArray):=Lib.hid ⟨hA8.tat.keep hc94 fun y hy=>by rw [hy];unfold TX;decide,⟨p1.trans hA8.chg.os,p2.trans hA8.chg.tape,p3.trans hA8.chg.output,by have:=hA8.chg.size;omega,fun k hk hn=>(hk9 k (by omega)).trans (hA8.chg.block k hk hn),hA8.chg.own⟩,hb9⟩
      have HSt9:=Lib.hid hst9
      have hb9' : Blk W9 w7.heap.size 59 (encC z).toArray:=by
       have:=hk9 w7.heap.size (by omega)
       exact this.trans hb8d
      have HB9:=Lib.hid hb9'
      clear hcd hA8 hb8d hst9 hb9 hk9 hsz9 p1 p2 p3 hc9 hc94 hb9' hb8 hbl8 hsz8 HA7 HLd HSt hlt7
      refine wp_region_hl [4] [0,1,2,3,4] (fun W=>Blk W w7.heap.size 59 (encC z).toArray) (by kernel_rfl) (by kernel_rfl) S8.out ?_
      refine hd_take (v:=?_) rfl rfl (by kernel_rfl) (fun W hW=>?_) ?_
      rotate_left
      ·first | (go_simp;done) | (go_simp;with_reducible rfl)
      refine hd_load 57 (.tmp 117) rfl rfl (by kernel_rfl) rfl (.pointer (some ⟨w7.heap.size,7,none⟩)) (.agg (encR z.reply).toArray) (by go_simp) (fun W hW=>load_rep hW) ?_
      refine hd_take (v:=?_) rfl rfl (by kernel_rfl) (fun W hW=>?_) ?_
      rotate_left
      ·first | (go_simp;done) | (go_simp;with_reducible rfl)
      refine hd_take (v:=.bool z.done) rfl rfl (by kernel_rfl) (fun W hW=>?_) ?_
      ·have d6 : W.cell? ⟨w7.heap.size,6,none⟩ = some (.bool z.done):=hW.cell 6
       first | (go_simp;done) | (go_simp;with_reducible rfl)
      refine hd_st 57 (.tmp 10) (.tmp 118) rfl rfl (by kernel_rfl) rfl rfl (.pointer (some ⟨w.heap.size,0,none⟩)) (.agg (encR z.reply).toArray) (by go_simp) (by go_simp) W9 HSt9.out HB9.out (hd_end ?_)
      simp only [List.length_cons,List.length_nil,List.drop_succ_cons,List.drop_zero,Nat.zero_add,Nat.reduceAdd]
      go_wp2_with fail
      refine bodyPost_ret (results_cell2 rfl _ _ _ ⟨w.heap.size,0,none⟩ _ rfl (loadVar_rep HF.out.2.2)) rfl ?_
      exact ⟨rfl,τ8,HF.out.1,HF.out.2.1⟩
     | true=>
      go_wp2_with (go_at_call 45;fail)
      refine HRd.out.mono ?_
      rintro e w5 ⟨rfl,τ5,h5,hc5⟩
      have hA5:=HD.out.step h5 (hc5.mono fun _ h=>h.elim)
      have HA5:=Lib.hid hA5
      clear h5 hc5 hA5 HRd HD
      have hl:=HL.out.1
      by_cases hz0 : sk.c.nreads 5 = 0
      ·rw [if_pos (by rw [hz0];rfl)] at hl
       injection hl with hl
       subst hl
       rw [hz0]
       have HD2:=HA5
       have t0:=HD2.out.tat.blk.cell 0
       have q0:=HD2.out.tat.wat.cells.1
       have HLg:=Lib.hid (log27 _ τ5 c L sk.c HD2.out.tat.wat.clu)
       have HAl:=Lib.hid (all28 _ τ5 85 L.log sk.c.log HD2.out.tat.wat.clu.log HX.out.2.1.2.2)
       go_wp2_with (first | (go_at_call 27;refine HLg.out.mono ?_;rintro e w' ⟨rfl,hw⟩;obtain rfl:=hw) | (go_at_call 28;fail))
       refine HAl.out.mono ?_
       rintro e w7 ⟨v7,rfl,ho7,hb7⟩
       obtain ⟨A7,c7,rfl⟩:=ownsRow_slice ho7
       have hc7 : Chg (fun _=>False) _ τ5 w7 (ext τ5 _ 94):=Chg.of_below hb7 94
       have hrw : Rw w7 (ext τ5 _ 94) 94 59 13 (.slice A7 sk.c.log.length c7) sk.c.log.length (sk.c.log.flatMap encC):=Rw.of_new ho7 (Nat.le_refl _) τ5 94
       have hA7:=HD2.out.step (HD2.out.tat.keep hc7 fun _ h=>h.elim) (hc7.mono fun _ h=>h.elim)
       generalize ext τ5 _ 94 = τ7 at hrw hA7
       have hml:=(List.getElem?_eq_some_iff.1 HN1.out.1).1
       obtain ⟨g7,rfl⟩ : ∃ g,A7 = some ⟨g,0,none⟩:=by
        obtain ⟨A',c',e1,-,-,-,-,hA,ha⟩:=hrw.slice
        injection e1 with e1 _ _
        subst e1
        cases A7 with
        | none=>have:=(hA rfl).1;omega
        | some a=>
         obtain ⟨b0,o0,s0⟩:=a
         obtain ⟨rfl,rfl,_⟩:=ha _ rfl
         exact ⟨b0,rfl⟩
       have hld:=Rw.load (P:=Tryz.prog) encC_len (by decide) hrw hml (by kernel_rfl) (by kernel_rfl)
       have hze : sk.c.log[m] = z:=by have:=(List.getElem?_eq_some_iff.1 HN1.out.1).2;exact this
       rw [hze] at hld
       obtain ⟨W8,hst,hb8,hbl8,hsz8⟩:=store_fresh (P:=Tryz.prog) w7 59 #[.int .i64 0,.int .i64 0,.string ⟨#[]⟩,.int .i64 0,.int .i64 0,.int .i64 0,.bool false,.int .i64 0,.int .i64 0,.string ⟨#[]⟩,.int .i64 0,.string ⟨#[]⟩,.bool false] (encC z) (fun W=>by kernel_rfl) rfl (encC_one z)
       have HLd:=Lib.hid hld
       have HSt:=Lib.hid hst
       have kml : (m : Int) < (sk.c.log.length : Int):=by omega
       have kml2 : m < sk.c.log.length:=hml
       have km9 : (m : Int) <= 1000:=by have:=HN1.out.2;omega
       have HA7:=Lib.hid hA7
       clear ho7 hb7 hc7 hrw hA7 hld hst t0 q0 HLg HAl HA5 HD2 hze
       go_wp2_with (first | (refine wpl_lq 59 _ rfl ?_;refine lq 59 _ _ _ rfl (by kernel_rfl) HLd.out ?_) | (refine wpl_sq 59 _ _ rfl rfl ?_;refine sq 59 _ _ _ _ W8 rfl rfl (by kernel_rfl) HSt.out ?_))
       have hcd : Chg (fun _=>False) w7 τ7 W8.drew (ext τ7 w7 94):=(Chg.of_below hbl8 94).drew
       have hA8:=HA7.out.step (HA7.out.tat.keep hcd fun _ h=>h.elim) (hcd.mono fun _ h=>h.elim)
       have hb8d : Blk W8.drew w7.heap.size 59 (encC z).toArray:=hb8.drewN 1
       have hlt7 : w.heap.size < w7.heap.size:=HA7.out.blk.lt
       generalize ext τ7 w7 94 = τ8 at hcd hA8
       have S8 : Hid (Blk W8.drew w7.heap.size 59 (encC z).toArray):=Lib.hid hb8d
       obtain ⟨W9,hst9,hb9,hk9,hsz9,p1,p2,p3⟩:=store_blk (P:=Tryz.prog) W8.drew 57 w.heap.size z57 (encR z.reply) (by kernel_rfl) hA8.blk.blk rfl (encR_one z.reply)
       have hc9 : Chg (fun _=>True) W8.drew τ8 W9 τ8:=⟨p1,p2,p3,by omega,fun k hk hn=>absurd trivial hn,fun _ _=>rfl⟩
       have hc94 : Chg (· = 94) W8.drew τ8 W9 τ8:=⟨p1,p2,p3,by omega,fun k hk hn=>hk9 k (by rintro rfl;exact hn hA8.blk.own),fun _ _=>rfl⟩
       have HF : Hid (TAt W9 τ8 t x c L sk /\ Chg TX w τ W9 τ8 /\ Blk W9 w.heap.size 57 (encR z.reply).toArray):=Lib.hid ⟨hA8.tat.keep hc94 fun y hy=>by rw [hy];unfold TX;decide,⟨p1.trans hA8.chg.os,p2.trans hA8.chg.tape,p3.trans hA8.chg.output,by have:=hA8.chg.size;omega,fun k hk hn=>(hk9 k (by omega)).trans (hA8.chg.block k hk hn),hA8.chg.own⟩,hb9⟩
       have HSt9:=Lib.hid hst9
       have hb9' : Blk W9 w7.heap.size 59 (encC z).toArray:=by
        have:=hk9 w7.heap.size (by omega)
        exact this.trans hb8d
       have HB9:=Lib.hid hb9'
       clear hcd hA8 hb8d hst9 hb9 hk9 hsz9 p1 p2 p3 hc9 hc94 hb9' hb8 hbl8 hsz8 HA7 HLd HSt hlt7
       refine wp_region_hl [4] [0,1,2,3,4] (fun W=>Blk W w7.heap.size 59 (encC z).toArray) (by kernel_rfl) (by kernel_rfl) S8.out ?_
       refine hd_take (v:=?_) rfl rfl (by kernel_rfl) (fun W hW=>?_) ?_
       rotate_left
       ·first | (go_simp;done) | (go_simp;with_reducible rfl)
       refine hd_load 57 (.tmp 117) rfl rfl (by kernel_rfl) rfl (.pointer (some ⟨w7.heap.size,7,none⟩)) (.agg (encR z.reply).toArray) (by go_simp) (fun W hW=>load_rep hW) ?_
       refine hd_take (v:=?_) rfl rfl (by kernel_rfl) (fun W hW=>?_) ?_
       rotate_left
       ·first | (go_simp;done) | (go_simp;with_reducible rfl)
       refine hd_take (v:=.bool z.done) rfl rfl (by kernel_rfl) (fun W hW=>?_) ?_
       ·have d6 : W.cell? ⟨w7.heap.size,6,none⟩ = some (.bool z.done):=hW.cell 6
        first | (go_simp;done) | (go_simp;with_reducible rfl)
       refine hd_st 57 (.tmp 10) (.tmp 118) rfl rfl (by kernel_rfl) rfl rfl (.pointer (some ⟨w.heap.size,0,none⟩)) (.agg (encR z.reply).toArray) (by go_simp) (by go_simp) W9 HSt9.out HB9.out (hd_end ?_)
       simp only [List.length_cons,List.length_nil,List.drop_succ_cons,List.drop_zero,Nat.zero_add,Nat.reduceAdd]
       go_wp2_with fail
       refine bodyPost_ret (results_cell2 rfl _ _ _ ⟨w.heap.size,0,none⟩ _ rfl (loadVar_rep HF.out.2.2)) rfl ?_
       exact ⟨rfl,τ8,HF.out.1,HF.out.2.1⟩
      ·rw [if_neg (by simp [hz0])] at hl
       split at hl
       case h_2=>cases hl
       rename_i s3 hs3
       have kz : ((sk.c.nreads 5 : Int) == 0) = false:=by rw [beq_eq_false_iff_ne];omega
       have HL3:=Lib.hid (And.intro hs3 hl)
       clear hs3 hl hz0
       go_wp2_with fail
       go_loopw [15] (fun v wr3=>∃ (q : Nat) (τq : Own) (sq : PW),1 <= q /\ q <= 6 /\ v = .int .i64 (q : Int) /\ sq.pass? (List.range' q (6 - q)) = some s3 /\ AsA w τ t x c w.heap.size L sq wr3 τq) (fun v _=>6 - (intOf v).toNat)
       case atStart=>exact ⟨1,τ5,sk,Nat.le_refl _,by omega,rfl,HL3.out.1,HA5.out⟩
       case round=>
        obtain ⟨q,τq,sq,hq1,hq6,rfl,hps,hAq⟩:=hrel
        clear HA5
        by_cases hq5 : q <= 5
        ·have kq : (q : Int) <= 5:=by omega
         have t0:=hAq.tat.blk.cell 0
         have q0:=hAq.tat.wat.cells.1
         have HNd:=Lib.hid (node24 _ τq c L sq.c hAq.tat.wat.clu q hq1 hq5)
         rw [show 6 - q = (5 - q) + 1 by omega,List.range'_succ] at hps
         unfold PW.pass? at hps
         have hlen:=hAq.tat.wat.clu.len
         split at hps
         ·rename_i p hp
          have hpl:=(List.getElem?_eq_some_iff.1 hp).1
          have hnd : ndV L sq.c.n q = ptr (L.nd q):=by unfold ndV;rw [if_pos (by omega)]
          rw [hnd] at HNd
          obtain ⟨-,-,h,hN⟩:=hAq.tat.wat.clu.node q p hq1 hp
          by_cases hr0 : p.reads.length = 0
          ·rw [if_pos hr0] at hps
           have HRq:=Lib.hid (reads25 _ τq _ _ _ _ _ q p h hN (by omega) (by omega))
           rw [hr0] at HRq
           have HE:=Lib.hid (And.intro hAq hps)
           clear hAq hps hp hpl hnd hlen hN hr0
           go_wp2_with (first | (go_at_call 24;refine HNd.out.mono ?_;rintro e w' ⟨rfl,hw⟩;obtain rfl:=hw) | (go_at_call 25;fail))
           refine HRq.out.mono ?_
           rintro e w6 ⟨v6,rfl,ho6,hb6⟩
           obtain ⟨A6,c6,rfl⟩:=ownsRow_slice ho6
           have hc6 : Chg (fun _=>False) _ τq w6 (ext τq _ 94):=Chg.of_below hb6 94
           have HE6:=Lib.hid (HE.out.1.step (HE.out.1.tat.keep hc6 fun _ h=>h.elim) (hc6.mono fun _ h=>h.elim))
           clear ho6 hb6 hc6
           go_wp2_with fail
           go_roundw
           case rel=>exact ⟨q + 1,_,sq,by omega,by omega,by go_num,by rw [show 6 - (q + 1) = 5 - q by omega];exact HE.out.2,HE6.out⟩
           case measure=>simp [intOf];omega
          ·rw [if_neg hr0] at hps
           split at hps
           ·cases hps
           rename_i hr1
           split at hps
           case h_2=>cases hps
           rename_i sl hsl
           have HRq:=Lib.hid (reads25 _ τq _ _ _ _ _ q p h hN (by omega) (by omega))
           have kr : (0 : Int) < (p.reads.length : Int):=by omega
           have HE:=Lib.hid (And.intro hAq (And.intro hps hsl))
           clear hAq hps hp hpl hnd hlen hN hr0 hr1 hsl
           go_wp2_with (first | (go_at_call 24;refine HNd.out.mono ?_;rintro e w' ⟨rfl,hw⟩;obtain rfl:=hw) | (go_at_call 25;fail))
           refine HRq.out.mono ?_
           rintro e w6 ⟨v6,rfl,ho6,hb6⟩
           obtain ⟨A6,c6,rfl⟩:=ownsRow_slice ho6
           have hc6 : Chg (fun _=>False) _ τq w6 (ext τq _ 94):=Chg.of_below hb6 94
           have hA6:=HE.out.1.step (HE.out.1.tat.keep hc6 fun _ h=>h.elim) (hc6.mono fun _ h=>h.elim)
           generalize ext τq _ 94 = τ6 at hA6
           have HST:=Lib.hid (step23 w6 τ6 t x c L sq sl hA6.tat 5 q 0 ⟨#[]⟩ ⟨#[]⟩ false HE.out.2.2)
           have HA6:=Lib.hid hA6
           unfold stepV at HST
           clear ho6 hb6 hc6 hA6
           go_wp2_with (go_at_call 23;fail)
           refine HST.out.mono ?_
           rintro e w8 ⟨⟨v8,rfl⟩,τ8,h8,hc8⟩
           have HE8:=Lib.hid (HA6.out.step h8 hc8)
           clear h8 hc8
           go_wp2_with fail
           go_roundw
           case rel=>exact ⟨q + 1,τ8,sl,by omega,by omega,by go_num,by rw [show 6 - (q + 1) = 5 - q by omega];exact HE.out.2.1,HE8.out⟩
           case measure=>simp [intOf];omega
         ·rename_i hp
          have hge:=List.getElem?_eq_none_iff.1 hp
          have hnd : ndV L sq.c.n q = .pointer none:=by unfold ndV;rw [if_neg (by omega)]
          rw [hnd] at HNd
          have HE:=Lib.hid (And.intro hAq hps)
          clear hAq hps hp hge hnd hlen
          go_wp2_with (go_at_call 24;refine HNd.out.mono ?_;rintro e w' ⟨rfl,hw⟩;obtain rfl:=hw)
          go_roundw
          case rel=>exact ⟨q + 1,τq,sq,by omega,by omega,by go_num,by rw [show 6 - (q + 1) = 5 - q by omega];exact HE.out.2,HE.out.1⟩
          case measure=>simp [intOf];omega
        ·obtain rfl : q = 6:=by omega
         have hpe : sq = s3:=by
          have : List.range' 6 (6 - 6) = []:=rfl
          rw [this] at hps
          unfold PW.pass? at hps
          injection hps
         subst hpe
         have HE:=Lib.hid hAq
         clear hAq hps
         go_wp2_with fail
         go_roundw
         case rel=>exact ⟨f + 1,τq,sq,by omega,by go_num,by rw [show 20 - (f + 1) = 20 - f - 1 by omega];exact HL3.out.2,HE.out⟩
         case measure=>simp [intOf];omega))
  obtain rfl : f = 20:=by omega
  rw [Nat.sub_self] at hl
  unfold PW.askL? at hl
  injection hl with hl
  subst hl
  have HD2:=Lib.hid hA
  have t0:=HD2.out.tat.blk.cell 0
  have q0:=HD2.out.tat.wat.cells.1
  have HLg:=Lib.hid (log27 _ τr c L sr.c HD2.out.tat.wat.clu)
  have HAl:=Lib.hid (all28 _ τr 85 L.log sr.c.log HD2.out.tat.wat.clu.log HX.out.2.1.2.2)
  go_wp2_with (first | (go_at_call 27;refine HLg.out.mono ?_;rintro e w' ⟨rfl,hw⟩;obtain rfl:=hw) | (go_at_call 28;fail))
  refine HAl.out.mono ?_
  rintro e w7 ⟨v7,rfl,ho7,hb7⟩
  obtain ⟨A7,c7,rfl⟩:=ownsRow_slice ho7
  have hc7 : Chg (fun _=>False) _ τr w7 (ext τr _ 94):=Chg.of_below hb7 94
  have hrw : Rw w7 (ext τr _ 94) 94 59 13 (.slice A7 sr.c.log.length c7) sr.c.log.length (sr.c.log.flatMap encC):=Rw.of_new ho7 (Nat.le_refl _) τr 94
  have hA7:=HD2.out.step (HD2.out.tat.keep hc7 fun _ h=>h.elim) (hc7.mono fun _ h=>h.elim)
  generalize ext τr _ 94 = τ7 at hrw hA7
  have hml:=(List.getElem?_eq_some_iff.1 HN1.out.1).1
  obtain ⟨g7,rfl⟩ : ∃ g,A7 = some ⟨g,0,none⟩:=by
   obtain ⟨A',c',e1,-,-,-,-,hA,ha⟩:=hrw.slice
   injection e1 with e1 _ _
   subst e1
   cases A7 with
   | none=>have:=(hA rfl).1;omega
   | some a=>
    obtain ⟨b0,o0,s0⟩:=a
    obtain ⟨rfl,rfl,_⟩:=ha _ rfl
    exact ⟨b0,rfl⟩
  have hld:=Rw.load (P:=Tryz.prog) encC_len (by decide) hrw hml (by kernel_rfl) (by kernel_rfl)
  have hze : sr.c.log[m] = z:=by have:=(List.getElem?_eq_some_iff.1 HN1.out.1).2;exact this
  rw [hze] at hld
  obtain ⟨W8,hst,hb8,hbl8,hsz8⟩:=store_fresh (P:=Tryz.prog) w7 59 #[.int .i64 0,.int .i64 0,.string ⟨#[]⟩,.int .i64 0,.int .i64 0,.int .i64 0,.bool false,.int .i64 0,.int .i64 0,.string ⟨#[]⟩,.int .i64 0,.string ⟨#[]⟩,.bool false] (encC z) (fun W=>by kernel_rfl) rfl (encC_one z)
  have HLd:=Lib.hid hld
  have HSt:=Lib.hid hst
  have kml : (m : Int) < (sr.c.log.length : Int):=by omega
  have kml2 : m < sr.c.log.length:=hml
  have km9 : (m : Int) <= 1000:=by have:=HN1.out.2;omega
  have HA7:=Lib.hid hA7
  clear ho7 hb7 hc7 hrw hA7 hld hst t0 q0 HLg HAl hA HD2 hze
  go_wp2_with (first | (refine wpl_lq 59 _ rfl ?_;refine lq 59 _ _ _ rfl (by kernel_rfl) HLd.out ?_) | (refine wpl_sq 59 _ _ rfl rfl ?_;refine sq 59 _ _ _ _ W8 rfl rfl (by kernel_rfl) HSt.out ?_))
  have hcd : Chg (fun _=>False) w7 τ7 W8.drew (ext τ7 w7 94):=(Chg.of_below hbl8 94).drew
  have hA8:=HA7.out.step (HA7.out.tat.keep hcd fun _ h=>h.elim) (hcd.mono fun _ h=>h.elim)
  have hb8d : Blk W8.drew w7.heap.size 59 (encC z).toArray:=hb8.drewN 1
  have hlt7 : w.heap.size < w7.heap.size:=HA7.out.blk.lt
  generalize ext τ7 w7 94 = τ8 at hcd hA8
  have S8 : Hid (Blk W8.drew w7.heap.size 59 (encC z).toArray):=Lib.hid hb8d
  obtain ⟨W9,hst9,hb9,hk9,hsz9,p1,p2,p3⟩:=store_blk (P:=Tryz.prog) W8.drew 57 w.heap.size z57 (encR z.reply) (by kernel_rfl) hA8.blk.blk rfl (encR_one z.reply)
  have hc9 : Chg (fun _=>True) W8.drew τ8 W9 τ8:=⟨p1,p2,p3,by omega,fun k hk hn=>absurd trivial hn,fun _ _=>rfl⟩
  have hc94 : Chg (· = 94) W8.drew τ8 W9 τ8:=⟨p1,p2,p3,by omega,fun k hk hn=>hk9 k (by rintro rfl;exact hn hA8.blk.own),fun _ _=>rfl⟩
  have HF : Hid (TAt W9 τ8 t x c L sr /\ Chg TX w τ W9 τ8 /\ Blk W9 w.heap.size 57 (encR z.reply).toArray):=Lib.hid ⟨hA8.tat.keep hc94 fun y hy=>by rw [hy];unfold TX;decide,⟨p1.trans hA8.chg.os,p2.trans hA8.chg.tape,p3.trans hA8.chg.output,by have:=hA8.chg.size;omega,fun k hk hn=>(hk9 k (by omega)).trans (hA8.chg.block k hk hn),hA8.chg.own⟩,hb9⟩
  have HSt9:=Lib.hid hst9
  have hb9' : Blk W9 w7.heap.size 59 (encC z).toArray:=by
   have:=hk9 w7.heap.size (by omega)
   exact this.trans hb8d
  have HB9:=Lib.hid hb9'
  clear hcd hA8 hb8d hst9 hb9 hk9 hsz9 p1 p2 p3 hc9 hc94 hb9' hb8 hbl8 hsz8 HA7 HLd HSt hlt7
  refine wp_region_hl [4] [0,1,2,3,4] (fun W=>Blk W w7.heap.size 59 (encC z).toArray) (by kernel_rfl) (by kernel_rfl) S8.out ?_
  refine hd_take (v:=?_) rfl rfl (by kernel_rfl) (fun W hW=>?_) ?_
  rotate_left
  ·first | (go_simp;done) | (go_simp;with_reducible rfl)
  refine hd_load 57 (.tmp 117) rfl rfl (by kernel_rfl) rfl (.pointer (some ⟨w7.heap.size,7,none⟩)) (.agg (encR z.reply).toArray) (by go_simp) (fun W hW=>load_rep hW) ?_
  refine hd_take (v:=?_) rfl rfl (by kernel_rfl) (fun W hW=>?_) ?_
  rotate_left
  ·first | (go_simp;done) | (go_simp;with_reducible rfl)
  refine hd_take (v:=.bool z.done) rfl rfl (by kernel_rfl) (fun W hW=>?_) ?_
  ·have d6 : W.cell? ⟨w7.heap.size,6,none⟩ = some (.bool z.done):=hW.cell 6
   first | (go_simp;done) | (go_simp;with_reducible rfl)
  refine hd_st 57 (.tmp 10) (.tmp 118) rfl rfl (by kernel_rfl) rfl rfl (.pointer (some ⟨w.heap.size,0,none⟩)) (.agg (encR z.reply).toArray) (by go_simp) (by go_simp) W9 HSt9.out HB9.out (hd_end ?_)
  simp only [List.length_cons,List.length_nil,List.drop_succ_cons,List.drop_zero,Nat.zero_add,Nat.reduceAdd]
  go_wp2_with fail
  refine bodyPost_ret (results_cell2 rfl _ _ _ ⟨w.heap.size,0,none⟩ _ rfl (loadVar_rep HF.out.2.2)) rfl ?_
  exact ⟨rfl,τ8,HF.out.1,HF.out.2.1⟩
end Go.Proofs.Ytlhekbjidppijaa
