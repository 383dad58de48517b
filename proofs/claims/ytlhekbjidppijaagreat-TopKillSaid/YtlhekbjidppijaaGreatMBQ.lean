/- Contracts of functions that the Top rows reach, and plain laws for them: what each returns and what it leaves in memory. Conditions: those that each theorem names. -/
import Derived.Test.YtlhekbjidppijaaGreatMBD
import Derived.Test.YtlhekbjidppijaaGreatMBP
set_option linter.unusedVariables false
set_option linter.unusedSimpArgs false
namespace Go.Proofs.Ytlhekbjidppijaa
open Go.RowKit
def eB : ByteArray:=⟨#[]⟩
def PW.set? (s : PW) (k v : ByteArray) : Option PW:=s.step? 6 0 0 k v true
def PW.get? (s : PW) (a : Nat) (k v : ByteArray) (rd : Bool) : Option PW:=(s.ask? 7 a k rd).bind fun z=>if z.2.done && decide (z.2.reply.err = 0) && z.2.reply.has && decide (z.2.reply.val = v) then some z.1 else none
def PW.kil? (s : PW) (a : Nat) (k : ByteArray) (rd : Bool) : Option PW:=(s.ask? 8 a k rd).bind fun z=>if z.2.done && decide (z.2.reply.err = 0) then some z.1 else none
def PCl.serves? (s : PCl) (a : Nat) (k : ByteArray) : Option Bool:=match s.nodes[a - 1]?,s.cks[a]? with
 | some p,some q=>match p.ring with
  | some ns=>if p.m.f then none else some (servesF p a q ns k)
  | none=>none
 | _,_=>none
def PW.drops? : Nat -> PW -> Option PW
 | 0,s=>if s.c.net.length = 0 then some s else none
 | f + 1,s=>if s.c.net.length = 0 then some s else (s.step? 3 0 0 ⟨#[]⟩ ⟨#[]⟩ false).bind fun s'=>s'.drops? f
def PW.still? (s : PW) : Option PW:=(s.step? 1 0 0 ⟨#[]⟩ ⟨#[]⟩ false).bind fun s'=>s'.drops? 60
structure TR (w0 w : World) (τ : Own) (t x c : Nat) (L : CL) (s : PW) : Prop where
 tat : TAt w τ t x c L s
 chg : Chg TX w0 (fun _=>94) w τ
section
variable {w0 w : World} {τ : Own} {t x c : Nat} {L : CL} {s s' : PW}
theorem TR.cells (H : TR w0 w τ t x c L s) : w.cell? ⟨t,0,none⟩ = some (ptr x) /\ w.cell? ⟨t,1,none⟩ = some (.bool true) /\ w.cell? ⟨x,0,none⟩ = some (ptr c):=⟨H.tat.blk.cell 0,H.tat.blk.cell 1,H.tat.wat.cells.1⟩
theorem TR.below (H : TR w0 w τ t x c L s) : Below w0.heap.size w0 w:=H.chg.tx_below
theorem TR.go {w' : World} {τ' : Own} (H : TR w0 w τ t x c L s) (h : TAt w' τ' t x c L s') (hc : Chg TX w τ w' τ') : TR w0 w' τ' t x c L s':=⟨h,H.chg.trans hc⟩
theorem TR.quiet {w' : World} {τ' : Own} (H : TR w0 w τ t x c L s) (hc : Chg (fun _=>False) w τ w' τ') : TR w0 w' τ' t x c L s:=H.go (H.tat.keep hc fun _ h=>h.elim) (hc.mono fun _ h=>h.elim)
theorem TR.keep {w' : World} (H : TR w0 w τ t x c L s) (hb : Below w.heap.size w w') : TR w0 w' (ext τ w 94) t x c L s:=H.quiet (Chg.of_below hb 94)
theorem TR.drew (H : TR w0 w τ t x c L s) : TR w0 w.drew τ t x c L s:=H.quiet (Chg.refl _ _ _).drew
abbrev TRs (w0 w : World) (t x c : Nat) (L : CL) (s : PW) : Prop:=∃ τ,TR w0 w τ t x c L s
theorem tstep (H : TR w0 w τ t x c L s) (fn a n : Nat) (key val : ByteArray) (on : Bool) (ha : s.step? fn a n key val on = some s') :
 Calls Tryz.prog 34 #[ptr x,.agg (stepV fn a n key val on).toArray] w fun e w'=>e = .returned (.int .i64 0) /\ TRs w0 w' t x c L s':=
 (step34 w τ x c L s s' H.tat.wat fn a n key val on ha).mono fun e w' ⟨h,τ',h1,hc⟩=>⟨h,τ',H.go (H.tat.setW h1 hc) (hc.mono fun z hz=>WX.tx hz)⟩
theorem tset (H : TR w0 w τ t x c L s) (key val : ByteArray) (ha : s.set? key val = some s') :
 Calls Tryz.prog 16 #[ptr t,.string key,.string val] w fun e w'=>(∃ r,e = .returned r) /\ TRs w0 w' t x c L s':=
 (set16 w τ t x c L s s' H.tat key val ha).mono fun e w' ⟨h,τ',h1,hc⟩=>⟨h,τ',H.go h1 hc⟩
theorem tstepT (H : TR w0 w τ t x c L s) (fn a n : Nat) (key val : ByteArray) (on : Bool) (ha : s.step? fn a n key val on = some s') :
 Calls Tryz.prog 23 #[ptr t,.agg (stepV fn a n key val on).toArray] w fun e w'=>(∃ r,e = .returned r) /\ TRs w0 w' t x c L s':=
 (step23 w τ t x c L s s' H.tat fn a n key val on ha).mono fun e w' ⟨h,τ',h1,hc⟩=>⟨h,τ',H.go h1 hc⟩
theorem trounds (H : TR w0 w τ t x c L s) (n : Nat) (hn : n <= 1000) (ha : s.rounds? n = some s') :
 Calls Tryz.prog 29 #[ptr t,.int .i64 (n : Int)] w fun e w'=>(∃ r,e = .returned r) /\ TRs w0 w' t x c L s':=
 (rounds29 w τ t x c L s s' H.tat n hn ha).mono fun e w' ⟨h,τ',h1,hc⟩=>⟨h,τ',H.go h1 hc⟩
theorem task {z : PCall} (H : TR w0 w τ t x c L s) (fn a : Nat) (key : ByteArray) (rd : Bool) (ha : s.ask? fn a key rd = some (s',z)) :
 Calls Tryz.prog 31 #[ptr t,.int .i64 (fn : Int),.int .i64 (a : Int),.string key,.bool rd] w fun e w'=>e = .returned (.tuple #[.agg (encR z.reply).toArray,.bool z.done]) /\ TRs w0 w' t x c L s':=
 (ask31 w τ t x c L s s' z H.tat fn a key rd ha).mono fun e w' ⟨h,τ',h1,hc⟩=>⟨h,τ',H.go h1 hc⟩
theorem tright (H : TR w0 w τ t x c L s) (ha : s.right = true) : Calls Tryz.prog 21 #[ptr x] w fun e w'=>e = .returned (.bool true) /\ TRs w0 w' t x c L s:=
 (right21 w τ x c L s H.tat.wat ha).mono fun e w' ⟨h,τ',h1,hc⟩=>⟨h,τ',H.quiet hc⟩
theorem tnode (H : TR w0 w τ t x c L s) (i : Nat) (h1 : 1 <= i) (h5 : i <= s.c.n) : Calls Tryz.prog 24 #[ptr c,.int .i64 (i : Int)] w fun e w'=>e = .returned (ptr (L.nd i)) /\ w = w':=by
 have:=node24 w τ c L s.c H.tat.wat.clu i h1 (Nat.le_trans h5 H.tat.wat.clu.n5)
 unfold ndV at this
 rwa [if_pos h5] at this
theorem tserves {a : Nat} {k : ByteArray} {b : Bool} (H : TR w0 w τ t x c L s) (h1 : 1 <= a) (hk : k.size <= 1000) (ha : s.c.serves? a k = some b) :
 Calls Tryz.prog 33 #[ptr (L.nd a),.string k] w fun e w'=>e = .returned (.bool b) /\ TRs w0 w' t x c L s:=by
 unfold PCl.serves? at ha
 split at ha
 case h_2=>cases ha
 rename_i p q hp hq
 split at ha
 case h_2=>cases ha
 rename_i ns hr
 split at ha
 case isTrue=>cases ha
 rename_i hf
 injection ha with ha
 subst ha
 have hl:=H.tat.wat.clu.len
 have h5:=H.tat.wat.clu.n5
 have hpl:=(List.getElem?_eq_some_iff.1 hp).1
 obtain ⟨-,-,h,hN⟩:=H.tat.wat.clu.node a p h1 hp
 have hck:=H.tat.wat.clu.ck a q h1 (by omega) hq
 exact (serves33 w τ _ _ _ _ _ a _ q p h hN hck ns hr (by simpa using hf) k hk (by omega)).mono fun e w' ⟨h1,h2⟩=>⟨h1,_,H.keep h2⟩
theorem tnet (H : TR w0 w τ t x c L s) : Calls Tryz.prog 35 #[ptr c] w fun e w'=>e = .returned (ptr L.net) /\ w = w':=net35 w τ c L s.c H.tat.wat.clu
theorem tlen (H : TR w0 w τ t x c L s) : Calls Tryz.prog 36 #[ptr L.net] w fun e w'=>e = .returned (.int .i64 (s.c.net.length : Int)) /\ w' = w:=len36 w τ 83 L.net s.c.net H.tat.wat.clu.net
theorem tlog (H : TR w0 w τ t x c L s) : Calls Tryz.prog 27 #[ptr c] w fun e w'=>e = .returned (ptr L.log) /\ w = w':=log27 w τ c L s.c H.tat.wat.clu
def LogV (w : World) (v : Value) (l : List PCall) : Prop:=∃ A ca,v = .slice A l.length ca /\ ∀ i,i < l.length -> ∃ g o,A = some ⟨g,o,none⟩ /\ ∀ j u,∀ z,l[i]? = some z -> (encC z)[j]? = some u -> w.cell? ⟨g,o + i * 13 + j,none⟩ = some u
theorem tall (H : TR w0 w τ t x c L s) (hl : s.c.log.length <= 1000) : Calls Tryz.prog 28 #[ptr L.log] w fun e w'=>∃ v,e = .returned v /\ LogV w' v s.c.log /\ TRs w0 w' t x c L s:=
 (all28 w τ 85 L.log s.c.log H.tat.wat.clu.log hl).mono fun e w' ⟨v,h,ho,hb⟩=>by
   have hrw : Rw w' (ext τ w 94) 94 59 13 v s.c.log.length (s.c.log.flatMap encC):=Rw.of_new ho (Nat.le_refl _) τ 94
   obtain ⟨A,ca,rfl,-,-,-,hsl,-,-⟩:=hrw.slice
   refine ⟨_,h,⟨A,ca,rfl,fun i hi=>?_⟩,_,H.keep hb⟩
   obtain ⟨g,o,rfl,hcs⟩:=Sl.flat encC_len (by decide) hsl i hi
   refine ⟨g,o,rfl,fun j u z hz hu=>?_⟩
   rw [List.getElem?_eq_getElem hi] at hz
   injection hz with hz
   subst hz
   rw [Nat.add_assoc];exact hcs j u hu
end
section
variable {w0 w : World} {τ : Own} {t x c : Nat} {L : CL} {s s' : PW}
set_option maxRecDepth 20000 in
set_option maxHeartbeats 1000000 in
theorem tget (H : TR w0 w τ t x c L s) (a : Nat) (key val : ByteArray) (ha : s.get? a key val true = some s') :
 Calls Tryz.prog 19 #[ptr t,.int .i64 (a : Int),.string key,.string val] w fun e w'=>e = .returned (.bool true) /\ TRs w0 w' t x c L s':=by
 unfold PW.get? at ha
 obtain ⟨⟨s1,z⟩,hz,hc⟩:=Option.bind_eq_some_iff.1 ha
 split at hc
 case isFalse=>cases hc
 rename_i hg
 injection hc with hc
 simp only [Bool.and_eq_true,decide_eq_true_eq] at hg
 dsimp only at hc hg
 subst hc
 have HA:=Lib.hid (task H 7 a key true hz)
 have HG:=Lib.hid hg
 clear H ha hz hg
 go_enter Tryz.func19,Tryz.ntmps19
 go_wp2_with (go_at_call 31;fail)
 refine HA.out.mono ?_
 rintro e w2 ⟨rfl,τ2,h2⟩
 obtain ⟨W3,hst,hb3,hbl,-⟩:=store_fresh (P:=Tryz.prog) w2 57 z57 (encR z.reply) (fun W=>by kernel_rfl) rfl (encR_one z.reply)
 have H3:=h2.keep hbl
 have HSt:=Lib.hid hst
 have t1:=H3.cells.2.1
 have z3 : W3.cell? ⟨w2.heap.size,3,none⟩ = some (.int .i64 (z.reply.err : Int)):=hb3.cell 3
 have z4 : W3.cell? ⟨w2.heap.size,4,none⟩ = some (.string z.reply.val):=hb3.cell 4
 have z5 : W3.cell? ⟨w2.heap.size,5,none⟩ = some (.bool z.reply.has):=hb3.cell 5
 obtain ⟨⟨⟨g1,g2⟩,g3⟩,g4⟩:=HG.out
 rw [g2] at z3
 rw [g3] at z5
 rw [g4] at z4
 rw [g1]
 have HF:=Lib.hid H3
 clear hst hb3 hbl H3 h2 HA HG g1 g2 g3 g4
 go_wp2_with (refine wpl_sq 57 _ _ rfl rfl ?_;refine sq 57 _ _ _ _ W3 rfl rfl (by kernel_rfl) HSt.out ?_)
 go_ret
 exact ⟨rfl,_,HF.out⟩
set_option maxRecDepth 20000 in
set_option maxHeartbeats 1000000 in
theorem twarm (H : TR w0 w τ t x c L s) (a : Nat) (key val : ByteArray) (ha : s.get? a key val false = some s') :
 Calls Tryz.prog 30 #[ptr t,.int .i64 (a : Int),.string key,.string val] w fun e w'=>e = .returned (.bool true) /\ TRs w0 w' t x c L s':=by
 unfold PW.get? at ha
 obtain ⟨⟨s1,z⟩,hz,hc⟩:=Option.bind_eq_some_iff.1 ha
 split at hc
 case isFalse=>cases hc
 rename_i hg
 injection hc with hc
 simp only [Bool.and_eq_true,decide_eq_true_eq] at hg
 dsimp only at hc hg
 subst hc
 have HA:=Lib.hid (task H 7 a key false hz)
 have HG:=Lib.hid hg
 clear H ha hz hg
 go_enter Tryz.func30,Tryz.ntmps30
 go_wp2_with (go_at_call 31;fail)
 refine HA.out.mono ?_
 rintro e w2 ⟨rfl,τ2,h2⟩
 obtain ⟨W3,hst,hb3,hbl,-⟩:=store_fresh (P:=Tryz.prog) w2 57 z57 (encR z.reply) (fun W=>by kernel_rfl) rfl (encR_one z.reply)
 have H3:=h2.keep hbl
 have HSt:=Lib.hid hst
 have t1:=H3.cells.2.1
 have z3 : W3.cell? ⟨w2.heap.size,3,none⟩ = some (.int .i64 (z.reply.err : Int)):=hb3.cell 3
 have z4 : W3.cell? ⟨w2.heap.size,4,none⟩ = some (.string z.reply.val):=hb3.cell 4
 have z5 : W3.cell? ⟨w2.heap.size,5,none⟩ = some (.bool z.reply.has):=hb3.cell 5
 obtain ⟨⟨⟨g1,g2⟩,g3⟩,g4⟩:=HG.out
 rw [g2] at z3
 rw [g3] at z5
 rw [g4] at z4
 rw [g1]
 have HF:=Lib.hid H3
 clear hst hb3 hbl H3 h2 HA HG g1 g2 g3 g4
 go_wp2_with (refine wpl_sq 57 _ _ rfl rfl ?_;refine sq 57 _ _ _ _ W3 rfl rfl (by kernel_rfl) HSt.out ?_)
 go_ret
 exact ⟨rfl,_,HF.out⟩
set_option maxRecDepth 20000 in
set_option maxHeartbeats 1000000 in
theorem tkill (H : TR w0 w τ t x c L s) (a : Nat) (key : ByteArray) (ha : s.kil? a key true = some s') :
 Calls Tryz.prog 20 #[ptr t,.int .i64 (a : Int),.string key] w fun e w'=>e = .returned (.bool true) /\ TRs w0 w' t x c L s':=by
 unfold PW.kil? at ha
 obtain ⟨⟨s1,z⟩,hz,hc⟩:=Option.bind_eq_some_iff.1 ha
 split at hc
 case isFalse=>cases hc
 rename_i hg
 injection hc with hc
 simp only [Bool.and_eq_true,decide_eq_true_eq] at hg
 dsimp only at hc hg
 subst hc
 have HA:=Lib.hid (task H 8 a key true hz)
 have HG:=Lib.hid hg
 clear H ha hz hg
 go_enter Tryz.func20,Tryz.ntmps20
 go_wp2_with (go_at_call 31;fail)
 refine HA.out.mono ?_
 rintro e w2 ⟨rfl,τ2,h2⟩
 obtain ⟨W3,hst,hb3,hbl,-⟩:=store_fresh (P:=Tryz.prog) w2 57 z57 (encR z.reply) (fun W=>by kernel_rfl) rfl (encR_one z.reply)
 have H3:=h2.keep hbl
 have HSt:=Lib.hid hst
 have t1:=H3.cells.2.1
 have z3 : W3.cell? ⟨w2.heap.size,3,none⟩ = some (.int .i64 (z.reply.err : Int)):=hb3.cell 3
 have z4 : W3.cell? ⟨w2.heap.size,4,none⟩ = some (.string z.reply.val):=hb3.cell 4
 have z5 : W3.cell? ⟨w2.heap.size,5,none⟩ = some (.bool z.reply.has):=hb3.cell 5
 obtain ⟨g1,g2⟩:=HG.out
 rw [g2] at z3
 clear z5
 clear z4
 rw [g1]
 have HF:=Lib.hid H3
 clear hst hb3 hbl H3 h2 HA HG g1 g2
 go_wp2_with (refine wpl_sq 57 _ _ rfl rfl ?_;refine sq 57 _ _ _ _ W3 rfl rfl (by kernel_rfl) HSt.out ?_)
 go_ret
 exact ⟨rfl,_,HF.out⟩
set_option maxRecDepth 20000 in
set_option maxHeartbeats 1000000 in
theorem tkill2 (H : TR w0 w τ t x c L s) (a : Nat) (key : ByteArray) (ha : s.kil? a key false = some s') :
 Calls Tryz.prog 26 #[ptr t,.int .i64 (a : Int),.string key] w fun e w'=>e = .returned (.bool true) /\ TRs w0 w' t x c L s':=by
 unfold PW.kil? at ha
 obtain ⟨⟨s1,z⟩,hz,hc⟩:=Option.bind_eq_some_iff.1 ha
 split at hc
 case isFalse=>cases hc
 rename_i hg
 injection hc with hc
 simp only [Bool.and_eq_true,decide_eq_true_eq] at hg
 dsimp only at hc hg
 subst hc
 have HA:=Lib.hid (task H 8 a key false hz)
 have HG:=Lib.hid hg
 clear H ha hz hg
 go_enter Tryz.func26,Tryz.ntmps26
 go_wp2_with (go_at_call 31;fail)
 refine HA.out.mono ?_
 rintro e w2 ⟨rfl,τ2,h2⟩
 obtain ⟨W3,hst,hb3,hbl,-⟩:=store_fresh (P:=Tryz.prog) w2 57 z57 (encR z.reply) (fun W=>by kernel_rfl) rfl (encR_one z.reply)
 have H3:=h2.keep hbl
 have HSt:=Lib.hid hst
 have t1:=H3.cells.2.1
 have z3 : W3.cell? ⟨w2.heap.size,3,none⟩ = some (.int .i64 (z.reply.err : Int)):=hb3.cell 3
 have z4 : W3.cell? ⟨w2.heap.size,4,none⟩ = some (.string z.reply.val):=hb3.cell 4
 have z5 : W3.cell? ⟨w2.heap.size,5,none⟩ = some (.bool z.reply.has):=hb3.cell 5
 obtain ⟨g1,g2⟩:=HG.out
 rw [g2] at z3
 clear z5
 clear z4
 rw [g1]
 have HF:=Lib.hid H3
 clear hst hb3 hbl H3 h2 HA HG g1 g2
 go_wp2_with (refine wpl_sq 57 _ _ rfl rfl ?_;refine sq 57 _ _ _ _ W3 rfl rfl (by kernel_rfl) HSt.out ?_)
 go_ret
 exact ⟨rfl,_,HF.out⟩
end
def ownR (ns : List Nat) (k : ByteArray) : Nat:=refOwner ns (Plain.mix [nb k])
theorem owner22 (w : World) (A : Option Addr) (n c : Nat) (ns : List Nat) (key : ByteArray) (hs : Sl w A (nnums ns)) (hA : ∀ a,A = some a -> a.block < w.heap.size) (hn : ns.length = n) (hok : NodesOk ns) (hk : key.size <= 1000) :
 Calls Tryz.prog 22 #[.string key,.slice A n c] w fun e w'=>e = .returned (.int .i64 (ownR ns key : Int)) /\ Below w.heap.size w w':=by
 have HS : Hid (Sl (w.alloc (.cells #[.string key] 9)) A (nnums ns)):=Lib.hid (hs.keep ((Below.refl _ w).alloc (Nat.le_refl _) _))
 have HN:=Lib.hid (And.intro hn hok)
 clear hs hA hn hok
 go_enter Tryz.func22,Tryz.ntmps22
 go_wp2_with fail
 refine (ofR_any (some ⟨w.heap.size,0,none⟩) 1 1 [key] _ (Blk.new w 9 #[.string key]).sl rfl (by decide) (fun s hs=>by simp at hs;subst hs;omega)).mono ?_
 rintro e w1 ⟨rfl,rfl⟩
 go_wp2_with fail
 refine (refOwner41 _ A n c (Plain.mix ([key].map nb)) ns HS.out HN.out.1 HN.out.2).mono ?_
 rintro e w2 ⟨rfl,hb⟩
 have HB : Hid (Below w.heap.size w w2):=Lib.hid (((Below.refl _ w).alloc (Nat.le_refl _) _).trans (hb.mono (by simp)))
 clear hb
 go_wp2
 go_ret
 exact ⟨rfl,HB.out⟩
end Go.Proofs.Ytlhekbjidppijaa
namespace Go.Proofs.Ytlhekbjidppijaa
open Go.RowKit
def optB {α : Type} (o : Option α) (f : α -> Bool) : Bool:=match o with
 | some a=>f a
 | none=>false
theorem optB_ex {α : Type} {o : Option α} {f : α -> Bool} (h : optB o f = true) : ∃ a,o = some a /\ f a = true:=by
 cases o with
 | none=>cases h
 | some a=>exact ⟨a,rfl,h⟩
def kB1 : ByteArray:=⟨#[107]⟩
def vB1 : ByteArray:=⟨#[118]⟩
def oldB : ByteArray:=⟨#[111,108,100]⟩
def newB : ByteArray:=⟨#[110,101,119]⟩
-- TopLease
def leaseAll : Nat -> Nat -> PW -> Bool
 | 0,_,_=>true
 | f + 1,i,s=>decide (s.c.serves? 1 kB1 = some (decide (i < 20))) && optB (s.rounds? 2) (fun s'=>decide (s'.c.serves? 1 kB1 = some true)) && optB s.still? fun s'=>leaseAll f (i + 1) s'
def leaseLaw : Bool:=optB ((PW.new 1).rounds? 3) fun s=>decide (s.c.serves? 1 kB1 = some true) && leaseAll 40 0 s
-- TopTime
def timeAll : Nat -> Nat -> PW -> Bool
 | 0,_,_=>true
 | f + 1,i,s=>(match s.c.log with
  | [z]=>decide (z.done = decide (60 <= i)) && (!z.done || decide (z.reply.err = 10))
  | _=>false) && optB s.still? fun s'=>timeAll f (i + 1) s'
def timeK (s : PW) (k : Nat) : Bool:=optB (s.set? (keyB k) vB1) fun s1=>optB (s1.step? 7 (3 - ownR (upto 2) (keyB k)) 0 (keyB k) eB false) fun s2=>decide (s2.c.net.length ≠ 0) && timeAll 80 0 s2
def timeLaw (l : List Nat) : Bool:=optB ((PW.new 2).rounds? 3) fun s=>l.all fun k=>timeK s k
-- TopAbsent
def absEnd (s : PW) (a : Nat) (c : ByteArray) : Bool:=optB (s.set? c vB1) fun s2=>optB (s2.get? a c vB1 true) fun s3=>optB (s3.get? (3 - a) c vB1 false) fun s4=>s4.right
def absAll (a : Nat) (c : ByteArray) : Nat -> PW -> Bool
 | 0,_=>true
 | f + 1,s=>optB (s.ask? 7 a c true) fun z=>z.2.done && decide (z.2.reply.err = 0) && !z.2.reply.has && decide (z.2.reply.val = eB) && absEnd z.1 a c && absAll a c f z.1
def absLaw : Bool:=optB ((PW.new 2).rounds? 3) fun s=>(List.range 26).all fun k=>absAll 1 (keyB k) 5 s && absAll 2 (keyB k) 5 s
-- TopLostAsk
def lostK (s : PW) (k : Nat) (ans : Bool) : Bool:=optB (s.set? (keyB k) vB1) fun s1=>optB (s1.get? (ownR (upto 2) (keyB k)) (keyB k) vB1 true) fun s2=>optB (s2.step? 7 (3 - ownR (upto 2) (keyB k)) 0 (keyB k) eB false) fun s3=>
 optB (if ans then s3.step? 2 0 0 eB eB false else some s3) fun s4=>optB (s4.drops? 60) fun s5=>optB (s5.rounds? 62) fun s6=>(match s6.c.log with
  | [_,z]=>z.done && decide (z.reply.err = 10)
  | _=>false) && optB (s6.get? (3 - ownR (upto 2) (keyB k)) (keyB k) vB1 false) fun s7=>s7.right
def lostLaw (l : List Nat) : Bool:=optB ((PW.new 2).rounds? 3) fun s=>l.all fun k=>lostK s k true && lostK s k false
-- TopAnswerLate
def lateK (s : PW) (k : Nat) : Bool:=optB (s.set? (keyB k) oldB) fun s1=>optB (s1.get? (ownR (upto 2) (keyB k)) (keyB k) oldB true) fun s2=>optB (s2.step? 7 (3 - ownR (upto 2) (keyB k)) 0 (keyB k) eB false) fun s3=>
 optB (s3.step? 2 0 0 eB eB false) fun s4=>decide (s4.c.net.length = 1) && optB (s4.set? (keyB k) newB) fun s5=>optB (s5.step? 8 (ownR (upto 2) (keyB k)) 0 (keyB k) eB false) fun s6=>optB (s6.step? 2 0 0 eB eB false) fun s7=>(match s7.c.log with
  | [_,y,z]=>y.done && decide (y.reply.val = oldB) && z.done && decide (z.reply.err = 0)
  | _=>false) && optB (s7.get? (3 - ownR (upto 2) (keyB k)) (keyB k) newB true) fun s8=>s8.right
def lateLaw : Bool:=optB ((PW.new 2).rounds? 3) fun s=>(List.range 26).all fun k=>lateK s k
-- TopSpread
def spreadLaw : Bool:=optB ((PW.new 5).rounds? 3) fun s=>(List.range 40).all fun k=>[1,2,3,4,5].all fun a=>decide (s.c.serves? a (keyB k) = some (decide (ownR (upto 5) (keyB k) = a)))
-- TopFill
def fillK (s : PW) (k : Nat) : Bool:=optB (s.set? (keyB k) oldB) fun s1=>optB (s1.step? 7 (ownR (upto 3) (keyB k)) 0 (keyB k) eB false) fun s2=>optB (s2.c.nodes[ownR (upto 3) (keyB k) - 1]?) fun p=>decide (p.reads.length = 1) &&
 optB (s2.kil? (ownR (upto 3) (keyB k)) (keyB k) false) fun s3=>optB (s3.step? 5 (ownR (upto 3) (keyB k)) 0 eB eB false) fun s4=>(match s4.c.log with
  | [y,_]=>y.done && decide (y.reply.val = oldB)
  | _=>false) && optB (s4.set? (keyB k) newB) fun s5=>optB (s5.get? (ownR (upto 3) (keyB k)) (keyB k) newB true) fun s6=>s6.right
def fillLaw : Bool:=optB ((PW.new 3).rounds? 3) fun s=>(List.range 20).all fun k=>fillK s k
-- TopKill
def nxt3 (d a : Nat) : List (Nat × Nat):=if d = 0 then (0,(a + 1) % 3) :: (if a = 1 then [(3,2)] else []) else if d = 1 then (1,(a + 2) % 3) :: (if a = 0 then [(2,1)] else []) else if d = 2 then [(2,(a + 1) % 3)] else [(3,(a + 2) % 3)]
def killAll : Nat -> Nat -> PW -> Nat × Nat -> Nat × Nat -> Bool
 | 0,_,_,_,_=>true
 | f + 1,i,s,p,q=>optB (s.set? (keyB i) (valB i 1)) fun s1=>optB (s1.get? 1 (keyB i) (valB i 1) true) fun s2=>optB (s2.set? (keyB i) (valB i 2)) fun s3=>optB (s3.kil? (1 + p.2) (keyB i) true) fun s4=>
  optB (s4.get? (1 + q.2) (keyB i) (valB i 2) true) fun s5=>s5.right && (nxt3 p.1 p.2).all fun p'=>(nxt3 q.1 q.2).all fun q'=>killAll f (i + 1) s5 p' q'
def killLaw (f : Nat) (p q : Nat × Nat) : Bool:=optB ((PW.new 3).rounds? 3) fun s=>killAll f 0 s p q
end Go.Proofs.Ytlhekbjidppijaa
namespace Go.Proofs.Ytlhekbjidppijaa
open Go.RowKit
theorem wf_i64 {a : Int} (h : (Lit.int .i64 a).wf = true) : -9223372036854775808 <= a /\ a <= 9223372036854775807:=by
 simpa [Lit.wf,IntKind.min,IntKind.max,IntKind.signed,IntKind.bits] using h
theorem smallF_lt (a : Int) (k : Nat) (h : 0 < k) : smallF a k < k:=by
 unfold smallF
 have h1 : a.tmod (k : Int) < (k : Int):=Int.tmod_lt_of_pos _ (by omega)
 have h2 : -(k : Int) < a.tmod (k : Int):=by
  have h:=Int.tmod_lt_of_pos (-a) (b:=(k : Int)) (by omega)
  rw [Int.neg_tmod] at h
  omega
 omega
theorem tsmall (w : World) (x : Int) (k : Nat) (h0 : 0 < k) (hk : k <= 1000) (hx : (Lit.int .i64 x).wf = true) : Calls Tryz.prog 14 #[.int .i64 x,.int .i64 (k : Int)] w fun e w'=>(∃ j,j < k /\ j = smallF x k /\ e = .returned (.int .i64 (j : Int))) /\ w = w':=
 (small14 w x k h0 hk (wf_i64 hx).1 (wf_i64 hx).2).mono fun e w' ⟨h,hw⟩=>⟨⟨_,smallF_lt x k h0,rfl,h⟩,hw⟩
theorem tmade (w0 w : World) (hb : Below w0.heap.size w0 w) (n : Nat) (cs : Array Value) (hcs : cs = (nnums (upto n)).toArray) (h1 : 1 <= n) (h5 : n <= 5) (s : PW) (ha : (PW.new n).rounds? 3 = some s) :
 Calls Tryz.prog 15 #[.slice (some ⟨w.heap.size,0,none⟩) n n] (w.alloc (.cells cs 3)) fun e w'=>∃ t x c L,e = .returned (ptr t) /\ TRs w0 w' t x c L s:=by
 have hc : Chg (fun _=>False) w0 (fun _=>94) (w.alloc (.cells cs 3)) (fun _=>94):=((Chg.same_own (τ:=fun _=>94) hb).trans ((Chg.refl _ _ _).alloc _))
 refine (made15 (w.alloc (.cells cs 3)) (fun _=>94) n n (some ⟨w.heap.size,0,none⟩) s (by have:=(Blk.new w 3 cs).sl;rw [hcs] at this ⊢;simpa using this) (fun a ha=>by injection ha with ha;subst ha;exact ⟨by simp,by unfold CT;decide⟩) h1 h5 ha).mono ?_
 rintro e w' ⟨t,x,c,L,τ',rfl,h1,h2⟩
 exact ⟨t,x,c,L,rfl,τ',h1,(hc.mono fun _ h=>h.elim).trans h2⟩
section
variable {w0 w : World} {τ : Own} {t x c : Nat} {L : CL} {s s' : PW}
theorem treads {p : PNode} {a : Nat} (H : TR w0 w τ t x c L s) (h1 : 1 <= a) (hp : s.c.nodes[a - 1]? = some p) (hl : p.reads.length <= 1000) :
 Calls Tryz.prog 25 #[ptr (L.nd a)] w fun e w'=>(∃ A ca,e = .returned (.slice A p.reads.length ca)) /\ TRs w0 w' t x c L s:=by
 have hln:=H.tat.wat.clu.len
 have h5:=H.tat.wat.clu.n5
 have hpl:=(List.getElem?_eq_some_iff.1 hp).1
 obtain ⟨-,-,h,hN⟩:=H.tat.wat.clu.node a p h1 hp
 refine (reads25 w τ _ _ _ _ _ a p h hN (by omega) hl).mono ?_
 rintro e w' ⟨v,rfl,ho,hb⟩
 obtain ⟨A,ca,rfl⟩:=ownsRow_slice ho
 exact ⟨⟨A,ca,rfl⟩,_,H.keep hb⟩
def netLen (n : Nat) (w : World) : Nat:=match w.cell? ⟨n,0,none⟩ with
 | some (.slice _ k _)=>k
 | _=>0
theorem TR.netLen (H : TR w0 w τ t x c L s) : netLen L.net w = s.c.net.length:=by
 obtain ⟨v,h,L',-,hr,-⟩:=H.tat.wat.clu.net.ex
 obtain ⟨A,ca,rfl,-⟩:=hr.slice
 unfold Ytlhekbjidppijaa.netLen
 rw [h.cell 0]
 rfl
theorem step3_net (h : s.step? 3 0 0 ⟨#[]⟩ ⟨#[]⟩ false = some s') : s'.c.net.length < s.c.net.length:=by
 unfold PW.step? at h
 split at h
 case isFalse=>cases h
 rw [if_neg (by decide)] at h
 split at h
 case h_2=>cases h
 rename_i c' hc
 split at h
 case isFalse=>cases h
 injection h with h
 subst h
 unfold PCl.step? at hc
 rw [if_neg (by decide),if_pos (by decide),if_pos rfl] at hc
 unfold PCl.mail? at hc
 split at hc
 ·cases hc
 rename_i m l hl
 split at hc
 case isFalse=>cases hc
 rw [if_pos (by decide)] at hc
 injection hc with hc
 subst hc
 show l.length < s.c.net.length
 rw [hl]
 exact Nat.lt_succ_self _
theorem drops_cases {f : Nat} {sd : PW} (h : s.drops? f = some sd) : (s.c.net.length = 0 /\ s = sd) \/ (¬ s.c.net.length = 0 /\ ∃ g s1,s.step? 3 0 0 ⟨#[]⟩ ⟨#[]⟩ false = some s1 /\ s1.drops? g = some sd /\ s1.c.net.length < s.c.net.length):=by
 by_cases hn : s.c.net.length = 0
 ·refine .inl ⟨hn,?_⟩
  cases f with
  | zero=>unfold PW.drops? at h;rw [if_pos hn] at h;injection h
  | succ f=>unfold PW.drops? at h;rw [if_pos hn] at h;injection h
 ·refine .inr ⟨hn,?_⟩
  cases f with
  | zero=>unfold PW.drops? at h;rw [if_neg hn] at h;cases h
  | succ f=>
   unfold PW.drops? at h
   rw [if_neg hn] at h
   obtain ⟨s1,h1,h2⟩:=Option.bind_eq_some_iff.1 h
   exact ⟨f,s1,h1,h2,step3_net h1⟩
end
end Go.Proofs.Ytlhekbjidppijaa
namespace Go.Proofs.Ytlhekbjidppijaa
open Go.RowKit
theorem LogV.get {w : World} {v : Value} {l : List PCall} (h : LogV w v l) (hl : 0 < l.length) : ∃ g o ca,v = .slice (some ⟨g,o,none⟩) l.length ca /\ ∀ i z,l[i]? = some z -> ∀ j u,(encC z)[j]? = some u -> w.cell? ⟨g,o + i * 13 + j,none⟩ = some u:=by
 obtain ⟨A,ca,rfl,hc⟩:=h
 obtain ⟨g,o,rfl,-⟩:=hc 0 hl
 refine ⟨g,o,ca,rfl,fun i z hz j u hu=>?_⟩
 obtain ⟨g',o',e,h2⟩:=hc i (List.getElem?_eq_some_iff.1 hz).1
 cases e
 exact h2 j u z hz hu
section
variable {w0 w : World} {τ : Own} {t x c : Nat} {L : CL} {s s' : PW}
theorem tkey (H : TR w0 w τ t x c L s) (i : Nat) (hi : i < 40) : Calls Tryz.prog 17 #[.int .i64 (i : Int)] w fun e w'=>e = .returned (.string (keyB i)) /\ TRs w0 w' t x c L s:=
 (key17 w i hi).mono fun e w' ⟨h1,h2⟩=>⟨h1,_,H.keep h2⟩
theorem tval (H : TR w0 w τ t x c L s) (i n : Nat) (hi : i < 40) (hn : n < 10) : Calls Tryz.prog 18 #[.int .i64 (i : Int),.int .i64 (n : Int)] w fun e w'=>e = .returned (.string (valB i n)) /\ TRs w0 w' t x c L s:=
 (val18 w i n hi hn).mono fun e w' ⟨h1,h2⟩=>⟨h1,_,H.keep h2⟩
theorem towner (H : TR w0 w τ t x c L s) (n : Nat) (cs : Array Value) (hcs : cs = (nnums (upto n)).toArray) (h1 : 1 <= n) (h5 : n <= 5) (key : ByteArray) (hk : key.size <= 1000) :
 Calls Tryz.prog 22 #[.string key,.slice (some ⟨w.heap.size,0,none⟩) n n] (w.alloc (.cells cs 3)) fun e w'=>e = .returned (.int .i64 (ownR (upto n) key : Int)) /\ TRs w0 w' t x c L s:=by
 refine (owner22 (w.alloc (.cells cs 3)) (some ⟨w.heap.size,0,none⟩) n n (upto n) key (by have:=(Blk.new w 3 cs).sl;rw [hcs] at this ⊢;simpa using this) (fun a ha=>by injection ha with ha;subst ha;simp) (by simp [upto]) (upto_ok n h1 h5) hk).mono ?_
 rintro e w' ⟨h1,h2⟩
 exact ⟨h1,_,(H.keep ((Below.refl _ w).alloc (Nat.le_refl _) (.cells cs 3))).keep h2⟩
end
theorem keyB_size (i : Nat) : (keyB i).size = 6:=rfl
set_option maxRecDepth 100000 in
theorem own2 : ∀ j,j < 26 -> ownR (upto 2) (keyB j) = 1 \/ ownR (upto 2) (keyB j) = 2:=by decide +kernel
set_option maxRecDepth 100000 in
theorem own3 : ∀ j,j < 20 -> 1 <= ownR (upto 3) (keyB j) /\ ownR (upto 3) (keyB j) <= 3:=by decide +kernel
end Go.Proofs.Ytlhekbjidppijaa
