/- Contracts of functions that the Top rows reach, and plain laws for them: what each returns and what it leaves in memory. Conditions: those that each theorem names. -/
import Derived.Test.YtlhekbjidppijaaGreatMAB
import Derived.Test.YtlhekbjidppijaaGreatMAI
import Derived.Test.YtlhekbjidppijaaGreatMAN
import Derived.Test.YtlhekbjidppijaaGreatMAO
set_option linter.unusedVariables false
set_option linter.unusedSimpArgs false
namespace Go.Proofs.Ytlhekbjidppijaa
open Go.RowKit
structure BodyAt (w : World) (τ : Own) (t : Nat) (v : Value) (l : List UInt8) : Prop where
 row : Rw w τ t 5 1 v l.length (ub l)
 pos : 0 < l.length
def rcells : Nat -> List Value -> List Value
 | _,[]=>[]
 | b,v :: l=>.int .i64 (b : Int) :: v :: rcells (b + 1) l
theorem rcells_snoc (b : Nat) (vs : List Value) (v : Value) : rcells b (vs ++ [v]) = rcells b vs ++ [.int .i64 ((b + vs.length : Nat) : Int),v]:=by
 induction vs generalizing b with
 | nil=>simp [rcells]
 | cons x l ih=>simp only [List.cons_append,rcells,ih,List.length_cons];rw [show b + 1 + l.length = b + (l.length + 1) by omega]
theorem rcells_get (b : Nat) (vs : List Value) (i : Nat) (h : i < vs.length) : (rcells b vs)[2 * i]? = some (.int .i64 ((b + i : Nat) : Int)) /\ (rcells b vs)[2 * i + 1]? = some vs[i]:=by
 induction vs generalizing b i with
 | nil=>simp at h
 | cons x l ih=>
  cases i with
  | zero=>simp [rcells]
  | succ i=>
   have:=ih (b + 1) i (by simpa using h)
   rw [show 2 * (i + 1) = 2 * i + 1 + 1 by omega]
   simp only [rcells,List.getElem?_cons_succ,List.getElem_cons_succ]
   rw [show b + (i + 1) = b + 1 + i by omega]
   exact this
def used : List (List UInt8) -> Nat
 | []=>0
 | l :: ls=>l.length + 8 + used ls
theorem used_snoc (ls : List (List UInt8)) (l : List UInt8) : used (ls ++ [l]) = used ls + l.length + 8:=by
 induction ls with
 | nil=>simp [used]
 | cons x ls ih=>simp only [List.cons_append,used,ih];omega
structure SegAt (w : World) (τ : Own) (tg tb g k base : Nat) (bodies : List (List UInt8)) : Prop where
 ex : ∃ (bv' : Value) (nb : Nat) (lb : List Nat) (rv : Value) (vs : List Value),Has w τ tg g 353 #[.int .i64 ((k + 1 : Nat) : Int),.int .i64 (base : Int),.int .i64 0,bv',rv] /\
  Rw w τ tg 5 1 bv' nb (bv lb) /\ (∀ x ∈ lb,x < 256) /\ nb = used bodies /\ nb <= 378 /\ Rw w τ tg 359 2 rv bodies.length (rcells base vs) /\ vs.length = bodies.length /\ ∀ (i : Nat) (l : List UInt8),bodies[i]? = some l -> ∃ v : Value,vs[i]? = some v /\ BodyAt w τ tb v l
section
variable {T : Nat -> Prop} {w w' : World} {τ τ' : Own} {t tg tb g k base : Nat} {bodies : List (List UInt8)}
theorem BodyAt.keep {v : Value} {l : List UInt8} (h : BodyAt w τ t v l) (hc : Chg T w τ w' τ') (ht : ¬ T t) : BodyAt w' τ' t v l:=⟨h.row.keep hc ht,h.pos⟩
theorem SegAt.keep (h : SegAt w τ tg tb g k base bodies) (hc : Chg T w τ w' τ') (h1 : ¬ T tg) (h2 : ¬ T tb) : SegAt w' τ' tg tb g k base bodies:=by
 obtain ⟨b',nb,lb,rv,vs,a1,a2,a3,a4,a4',a5,a6,a7⟩:=h.ex
 refine ⟨b',nb,lb,rv,vs,a1.keep hc h1,a2.keep hc h1,a3,a4,a4',a5.keep hc h1,a6,fun i l hl=>?_⟩
 obtain ⟨v,hv,hb⟩:=a7 i l hl
 exact ⟨v,hv,hb.keep hc h2⟩
end
theorem start247 (w : World) (i : Nat) (hi : i <= 100) : Calls Tryz.prog 247 #[.int .i64 (i : Int)] w fun e w'=>e = .returned (.int .i64 ((48 * i - 6 : Nat) : Int)) /\ w = w':=by
 have k1 : (0 : Int) <= (i : Int):=by omega
 have k2 : (i : Int) <= 100:=by omega
 by_cases h0 : i = 0
 ·subst h0
  go_enter Tryz.func247,Tryz.ntmps247
  go_wp2
  go_ret
  exact ⟨rfl,rfl⟩
 ·have HE : Hid ((i : Int) * 48 - 6 = ((48 * i - 6 : Nat) : Int)):=Lib.hid (by omega)
  have k3 : ¬ ((i : Int) * 48 <= 6):=by omega
  have k4 : (6 : Int) < (i : Int) * 48:=by omega
  go_enter Tryz.func247,Tryz.ntmps247
  go_wp2
  go_ret
  exact ⟨by rw [<- HE.out];rfl,rfl⟩
set_option maxRecDepth 20000 in
theorem get295 (w : World) (b o n c : Nat) (hn : n <= 64) (h : ∀ j,j < n -> w.cell? ⟨b,o + j,none⟩ = some (.int .u8 0)) :
 Calls Tryz.prog 295 #[.slice (some ⟨b,o,none⟩) n c] w fun e w'=>e = .returned (.int .u64 0) /\ w = w':=by
 have HC:=Lib.hid h
 have k0 : (n : Int) <= 64:=by omega
 clear h
 go_enter Tryz.func295,Tryz.ntmps295
 go_wp2
 go_loop [3,8] (fun z i=>z = .int .u64 0 /\ ∃ k : Nat,k <= n /\ i = .int .i64 k) (fun _ i=>n - (intOf i).toNat)
 case atStart=>exact ⟨rfl,0,Nat.zero_le _,rfl⟩
 case round=>
  obtain ⟨rfl,k,hk,rfl⟩:=hrel
  by_cases hlt : k < n
  ·have k1 : (k : Int) < (n : Int):=by omega
   have k2 : (0 : Int) <= (k : Int):=by omega
   have c0:=HC.out k hlt
   go_wp2
   go_round
   case rel=>exact ⟨by simp [bits];rfl,k + 1,by omega,by go_num⟩
   case measure=>simp [intOf];omega
  ·obtain rfl : k = n:=by omega
   go_wp2
   go_ret
   exact ⟨rfl,rfl⟩
theorem sliceAt_from (W : World) (ab nb c st : Nat) (h1 : st <= nb) (h2 : nb <= c) : (Instr.sliceAt 74 (.slice (some ⟨ab,0,none⟩) nb c) (some (.int .i64 (st : Int))) none none).run Tryz.prog W = .ok (.slice (some ⟨ab,if c = st then 0 else st,none⟩) (nb - st) (c - st)) W:=by
 have hu : Tryz.prog.underlying 74 = some (.slice (Tryz.prog.elem 74)):=by kernel_rfl
 have hs : (sizeOf (Tryz.prog.elem 74)).run Tryz.prog W = .ok 1 W:=by kernel_rfl
 rw [run_sliceAt_slice W _ _ _ _ _ hu,run_slice_l W 74 _ _ _ hu _ _ (by omega) (by omega),hs]
 unfold sliced
 by_cases hc : c = st
 ·subst hc
  simp
 ·simp [hc,add_none]
end Go.Proofs.Ytlhekbjidppijaa
namespace Go.Proofs.Ytlhekbjidppijaa
open Go.RowKit
def srcV (B : Option Addr) (nb c st : Nat) : Value:=match B with
 | none=>.slice none 0 0
 | some a=>.slice (some ⟨a.block,if c = st then 0 else st,none⟩) (nb - st) (c - st)
def SecS (g : Nat) (k : Nat) (v : Value) (W : World) : Prop:=W.cell? ⟨g,k,none⟩ = some v
def SecT (W1 : World) (τ1 : Own) (g b y : Nat) (v : Value) (W : World) : Prop:=W.cell? ⟨g,3,none⟩ = some v /\ Buf W τ1 y b 64 /\ Chg (· = y) W1 τ1 W τ1
def SecU (W1 : World) (τ1 : Own) (b y : Nat) (W : World) : Prop:=Buf W τ1 y b 64 /\ Chg (· = y) W1 τ1 W τ1
set_option maxRecDepth 20000 in
set_option maxHeartbeats 4000000 in
theorem sector_any (w : World) (τ : Own) (tg g k base i run x nb c : Nat) (B : Option Addr) (rv : Value) (lb : List Nat) (hi : i < 8) (hk : k <= 100000) (hrun : run <= 1000000)
 (hG : Has w τ tg g 353 #[.int .i64 ((k + 1 : Nat) : Int),.int .i64 (base : Int),.int .i64 0,.slice B nb c,rv]) (hR : Rw w τ tg 5 1 (.slice B nb c) nb (bv lb)) (hlb : ∀ x ∈ lb,x < 256) (hnb : nb <= 400) :
 Calls Tryz.prog 270 #[.pointer (some ⟨g,0,none⟩),.int .i64 (i : Int),.int .i64 (run : Int)] w fun e w'=>∃ b c τ',e = .returned (.slice (some ⟨b,0,none⟩) 64 c) /\ Buf w' τ' x b 64 /\ Chg (fun _=>False) w τ w' τ':=by
 obtain ⟨y,hy⟩:=fresh w τ
 obtain ⟨b,hb⟩ : ∃ b,b = w.heap.size:=⟨_,rfl⟩
 obtain ⟨τ1,hτ1⟩ : ∃ τ1,τ1 = ext τ w y:=⟨_,rfl⟩
 obtain ⟨W1,hW1⟩ : ∃ W,W = w.alloc (.cells zbuf 5):=⟨_,rfl⟩
 have hgy : ¬ (tg = y):=by rintro rfl;exact hy _ hG.lt hG.own
 have hmk1:=make_zbuf w
 rw [<- hW1,<- hb] at hmk1
 have HB1 : Hid (Buf W1 τ1 y b 64):=Lib.hid (by rw [hW1,hτ1,hb];exact zbuf_new w τ y)
 have HC1 : Hid (Chg (fun _=>False) w τ W1 τ1):=Lib.hid (by rw [hW1,hτ1];exact ((Chg.refl _ w τ).alloc _).ext y)
 have HG:=Lib.hid (hG.keep HC1.out id)
 have FIN : Hid (∀ W,Buf W τ1 y b 64 -> Chg (· = y) W1 τ1 W τ1 -> Buf W (ext τ w x) x b 64 /\ Chg (fun _=>False) w τ W (ext τ w x)):=Lib.hid (fun W h1 h2=>by
  obtain ⟨l,l1,l2,l3⟩:=h1.ex
  exact ⟨⟨l,l1,l2,l3.blk,ext_new (by omega)⟩,(((HC1.out.mono (T':=(· = y)) (fun _ h=>h.elim)).trans h2).fresh (T:=fun _=>False) (fun i hi e=>hy i hi e)).ext x⟩)
 have hi8 : (0 : Int) <= (i : Int) /\ (i : Int) < 256:=by omega
 have q0 : (0 : Int) <= (i : Int):=by omega
 have q1 : (i : Int) <= 100:=by omega
 have q2 : (0 : Int) <= (run : Int):=by omega
 have q3 : (run : Int) <= 1000000:=by omega
 obtain ⟨st,hst⟩ : ∃ st,st = min (48 * i - 6) nb:=⟨_,rfl⟩
 have HSTV:=Lib.hid hst
 have hrw:=hR.keep HC1.out id
 have hll : lb.length = nb:=by have:=hR.own.1;simpa [bv] using this
 obtain ⟨A',c',e',hcap,-,-,-,hB0,hB1⟩:=hR.slice
 injection e' with e1 _ e3
 subst e1
 subst e3
 have HSLI : Hid (∀ W,(Instr.sliceAt 74 (.slice B nb c) (some (.int .i64 (st : Int))) none none).run Tryz.prog W = .ok (srcV B nb c st) W):=Lib.hid fun W=>by
  cases B with
  | none=>
   obtain ⟨rfl,rfl⟩:=hB0 rfl
   obtain rfl : st = 0:=by omega
   kernel_rfl
  | some a=>
   obtain ⟨a1,a2,a3⟩:=a
   obtain ⟨rfl,rfl,-⟩:=hB1 _ rfl
   exact sliceAt_from W a1 nb c _ (by omega) hcap
 have HCP : Hid (∀ o n W,o + n <= 64 -> Buf W τ1 y b 64 -> Chg (· = y) W1 τ1 W τ1 -> ∃ W2 q,q <= n /\ (Builtin.copy_ #[74,74] 3 #[.slice (some ⟨b,o,none⟩) n n,srcV B nb c st]).run Tryz.prog W = .ok (goInt (q : Nat)) W2 /\ Buf W2 τ1 y b 64 /\ Chg (· = y) W τ1 W2 τ1):=Lib.hid fun o n W hon hb hc=>by
  cases B with
  | none=>exact copy_buf_min (P:=Tryz.prog) W τ1 y 74 74 3 b o n n 64 hb (by kernel_rfl) (by kernel_rfl) none 0 0 [] rfl (by simp) Sl.nil (fun _=>⟨rfl,rfl⟩) hon
  | some a=>
   obtain ⟨a1,a2,a3⟩:=a
   obtain ⟨rfl,rfl,-⟩:=hB1 _ rfl
   refine copy_buf_min (P:=Tryz.prog) W τ1 y 74 74 3 b o n n 64 hb (by kernel_rfl) (by kernel_rfl) (some ⟨a1,if c = st then 0 else st,none⟩) (nb - st) (c - st) (lb.drop st) (by simp [hll]) (fun x hx=>hlb x (List.mem_of_mem_drop hx)) ?_ (by intro e;cases e) hon
   obtain ⟨A,c',hv,_,_,_,h5,_⟩:=(hrw.keep hc hgy).slice
   cases hv
   by_cases hcs : c = st
   ·have : lb.drop st = []:=List.drop_eq_nil_of_le (by omega)
    rw [this]
    exact Sl.nil
   rw [if_neg hcs]
   refine Sl.of_cells fun j u hu=>?_
   have hu' : (bv lb)[st + j]? = some u:=by
    rw [<- hu];unfold bv;rw [List.getElem?_map,List.getElem?_map,List.getElem?_drop]
   obtain ⟨b2,o2,h6,h7⟩:=h5 (by intro e;rw [e] at hu';simp at hu')
   cases h6
   rw [add_none]
   have:=h7 _ _ hu'
   rw [Nat.zero_add] at this
   exact this
 have HST : Hid (∀ W,Calls Tryz.prog 247 #[.int .i64 (i : Int)] W fun e w'=>e = .returned (.int .i64 ((48 * i - 6 : Nat) : Int)) /\ W = w'):=Lib.hid fun W=>start247 W i (by omega)
 have hgd : ∀ W,Chg (· = y) W1 τ1 W τ1 -> Has W τ1 tg g 353 #[.int .i64 ((k + 1 : Nat) : Int),.int .i64 (base : Int),.int .i64 0,.slice B nb c,rv]:=fun W h=>HG.out.keep h hgy
 have HGD:=Lib.hid hgd
 have S0 : Hid (SecS g 0 (.int .i64 ((k + 1 : Nat) : Int)) W1.drew):=Lib.hid ((hgd _ (Chg.refl _ _ _).drew).cell 0)
 have HS0:=Lib.hid (HB1.out.drewN 1)
 clear hst hR hlb hrw hll hcap hB0 hB1 hG hy hW1 hb hτ1 hgy hgd hk hrun hnb HB1 HC1 HG
 have h0 : i = 0 \/ (¬ i = 0 /\ ¬ ((i : Int) = 0)):=by omega
 rcases h0 with h0 | ⟨h0,hi1⟩
 case' inl=>subst h0
 all_goals (
  go_enter Tryz.func270,Tryz.ntmps270
  go_wp2_with fail
  refine wp_region_hl [] [0,1,2,3,4,5,6] (SecS g 0 (.int .i64 ((k + 1 : Nat) : Int))) (by kernel_rfl) (by kernel_rfl) S0.out ?_
  iterate 6 (refine hd_take (v:=?_) rfl rfl (by kernel_rfl) (fun W hW=>?_) ?_;rotate_left;(unfold SecS at hW;first | (go_simp;done) | (go_simp;with_reducible rfl)))
  refine hd_take (v:=?_) rfl rfl (by kernel_rfl) (fun W hW=>?_) (hd_end ?_)
  rotate_left
  ·unfold SecS at hW;first | (go_simp;done) | (go_simp;with_reducible rfl)
  simp only [List.length_cons,List.length_nil,List.drop_succ_cons,List.drop_zero,Nat.zero_add,Nat.reduceAdd]
  go_wp2_with (go_at_call 246;fail)
  refine (put246 _ τ1 y b 4 6 60 64 HS0.out (by decide) (by decide) _).mono ?_
  rintro e W2 ⟨⟨v2,rfl⟩,hb2,hc2⟩
  have HB2:=Lib.hid hb2
  have HT2 : Hid (Chg (· = y) W1 τ1 W2 τ1):=Lib.hid ((Chg.refl (· = y) W1 τ1).drew.trans hc2)
  clear hb2 hc2
  go_wp2_with (go_at_call 246;fail)
  refine (put246 W2 τ1 y b 10 4 54 64 HB2.out (by decide) (by decide) _).mono ?_
  rintro e W3 ⟨⟨v3,rfl⟩,hb3,hc3⟩
  obtain ⟨y14,hy14,hcell14⟩:=hb3.cell 14 (by decide)
  have hf14:=hb3.frozen 14
  have HB3 : Hid (∀ z : Int,0 <= z /\ z < 256 -> Buf (W3.setCell ⟨b,14,none⟩ (.int .u8 z)) τ1 y b 64 /\ Chg (· = y) W1 τ1 (W3.setCell ⟨b,14,none⟩ (.int .u8 z)) τ1):=Lib.hid fun z hz=>⟨hb3.set_ 14 (by decide) z hz,(HT2.out.trans hc3).setCell (p:=⟨b,14,none⟩) hb3.own (.int .u8 z)⟩
  clear hb3 hc3 HB2 HT2
  go_wp2_with fail
  generalize hW4 : World.setCell W3 _ _ = W4
  have HX : Hid (Buf W4 τ1 y b 64 /\ Chg (· = y) W1 τ1 W4 τ1):=Lib.hid (by rw [<- hW4];exact HB3.out _ (by first | decide | exact hi8))
  clear hcell14 hf14 HB3 hW4)
 focus (
  have HBd:=Lib.hid (HX.out.1.drewN 1)
  have HTd:=Lib.hid (HX.out.2.drew)
  have S1 : Hid (SecS g 1 (.int .i64 (base : Int)) W4.drew):=Lib.hid ((HGD.out _ HTd.out).cell 1)
  clear HX
  refine wp_region_hl [] [0,1,2,3,4,5,6] (SecS g 1 (.int .i64 (base : Int))) (by kernel_rfl) (by kernel_rfl) S1.out ?_
  iterate 6 (refine hd_take (v:=?_) rfl rfl (by kernel_rfl) (fun W hW=>?_) ?_;rotate_left;(unfold SecS at hW;first | (go_simp;done) | (go_simp;with_reducible rfl)))
  refine hd_take (v:=?_) rfl rfl (by kernel_rfl) (fun W hW=>?_) (hd_end ?_)
  rotate_left
  ·unfold SecS at hW;first | (go_simp;done) | (go_simp;with_reducible rfl)
  simp only [List.length_cons,List.length_nil,List.drop_succ_cons,List.drop_zero,Nat.zero_add,Nat.reduceAdd]
  go_wp2_with (go_at_call 246;fail)
  refine (put246 _ τ1 y b 16 6 48 64 HBd.out (by decide) (by decide) _).mono ?_
  rintro e W4 ⟨⟨v5,rfl⟩,hb5,hc5⟩
  have HX:=Lib.hid (And.intro hb5 (HTd.out.trans hc5))
  clear hb5 hc5 HBd HTd S1
  go_wp2_with fail)
 all_goals (
  have S3 : Hid (SecT W1 τ1 g b y (.slice B nb c) W4.drew):=Lib.hid ⟨(HGD.out _ HX.out.2.drew).cell 3,HX.out.1.drewN 1,HX.out.2.drew⟩
  clear HX
  refine wp_region_hl [7,15] [0,1,2,3,4,5,6,8,9,10,11,12,7,13,14,15,16] (SecT W1 τ1 g b y (.slice B nb c)) (by kernel_rfl) (by kernel_rfl) S3.out ?_
  iterate 12 (refine hd_take (v:=?_) rfl rfl (by kernel_rfl) (fun W hW=>?_) ?_;rotate_left;(obtain ⟨r0,-⟩:=hW;first | (go_simp;done) | (go_simp;with_reducible rfl)))
  refine hd_loud rfl rfl fun K hK=>?_
  go_simp
  refine (HST.out _).mono ?_
  rintro e w6 ⟨rfl,rfl⟩
  refine hK _ _ S3.out ?_
  clear hK
  refine hd_take (v:=.int .i64 (st : Int)) rfl rfl (by kernel_rfl) (fun W hW=>by have hs:=HSTV.out;go_simp;first | (split <;> omega) | omega) ?_
  refine hd_take (v:=srcV B nb c st) rfl rfl (by kernel_rfl) (fun W hW=>by have h:=HSLI.out W;first | (go_simp;done) | (go_simp;exact h)) ?_
  refine hd_loud rfl rfl fun K hK=>?_
  first
   | (obtain ⟨W5,q,hq,hrun,hb5,hc5⟩:=HCP.out 22 42 W4.drew (by decide) S3.out.2.1 S3.out.2.2;refine step_copy rfl (.tmp 42) (.tmp 55) 74 74 rfl _ _ _ W5 rfl rfl hrun ?_)
   | (obtain ⟨W5,q,hq,hrun,hb5,hc5⟩:=HCP.out 16 48 W4.drew (by decide) S3.out.2.1 S3.out.2.2;refine step_copy rfl (.tmp 42) (.tmp 55) 74 74 rfl _ _ _ W5 rfl rfl hrun ?_)
  have HB5:=Lib.hid (And.intro hb5 (S3.out.2.2.trans hc5))
  clear hrun hb5 hc5
  refine hK _ _ ⟨(HGD.out _ HB5.out.2).cell 3,HB5.out⟩ ?_
  clear hK
  obtain ⟨y15,hy15,hcell15⟩:=HB5.out.1.cell 15 (by decide)
  have hf15:=HB5.out.1.frozen 15
  refine hd_take (v:=?_) rfl rfl (by kernel_rfl) (fun W hW=>?_) (hd_end ?_)
  rotate_left
  ·first | (go_simp;done) | (go_simp;with_reducible rfl)
  simp only [List.length_cons,List.length_nil,List.drop_succ_cons,List.drop_zero,Nat.zero_add,Nat.reduceAdd]
  go_wp2_with fail
  generalize hW6 : World.setCell W5 _ _ = W6
  have HX6 : Hid (Buf W6 τ1 y b 64 /\ Chg (· = y) W1 τ1 W6 τ1):=Lib.hid (by rw [<- hW6];exact ⟨HB5.out.1.set_ 15 (by decide) _ (by omega),HB5.out.2.setCell (p:=⟨b,15,none⟩) HB5.out.1.own _⟩)
  clear hcell15 hf15 hW6 HB5
  go_wp2_with fail
  have S6 : Hid (SecU W1 τ1 b y W6.drew):=Lib.hid ⟨HX6.out.1.drewN 1,HX6.out.2.drew⟩
  clear HX6
  refine wp_region_hl [4,5] [0,1,2,3,4,5,6] (SecU W1 τ1 b y) (by kernel_rfl) (by kernel_rfl) S6.out ?_
  iterate 4 (refine hd_take (v:=?_) rfl rfl (by kernel_rfl) (fun W hW=>?_) ?_;rotate_left;(first | (go_simp;done) | (go_simp;with_reducible rfl)))
  refine hd_loud rfl rfl fun K hK=>?_
  go_simp
  refine hK _ _ ⟨S6.out.1.alloc _,S6.out.2.alloc _⟩ ?_
  clear hK
  refine hd_loud rfl rfl fun K hK=>?_
  obtain ⟨l,l1,l2,l3⟩:=S6.out.1.part 4 60 (by decide)
  have hsum:=sum_any (some ⟨W6.drew.heap.size,0,none⟩) 1 1 [⟨some ⟨b,4,none⟩,60,l⟩] _ (by simp only [List.map_cons,List.map_nil,Part.val,l1];exact (Blk.new W6.drew 74 #[.slice (some ⟨b,4,none⟩) 60 60]).sl) rfl (by decide) (by intro p hp;rw [List.mem_singleton.1 hp];exact ⟨l3.keep ((Below.refl _ _).alloc (Nat.le_refl _) _),by rw [l1];decide,l2⟩)
  have HSUM:=Lib.hid hsum
  clear hsum l1 l2 l3
  go_simp
  refine HSUM.out.mono ?_
  rintro e w7 ⟨rfl,rfl⟩
  have hS7 : SecU W1 τ1 b y (W6.drew.alloc (.cells #[.slice (some ⟨b,4,none⟩) 60 60] 74)):=⟨S6.out.1.alloc _,S6.out.2.alloc _⟩
  have HS7:=Lib.hid hS7
  refine hK _ _ hS7 ?_
  clear hK hS7
  refine hd_take (v:=?_) rfl rfl (by kernel_rfl) (fun W hW=>?_) (hd_end ?_)
  rotate_left
  ·first | (go_simp;done) | (go_simp;with_reducible rfl)
  simp only [List.length_cons,List.length_nil,List.drop_succ_cons,List.drop_zero,Nat.zero_add,Nat.reduceAdd]
  go_wp2_with (go_at_call 246;fail)
  refine (put246 _ τ1 y b 0 4 64 64 HS7.out.1 (by decide) (by decide) _).mono ?_
  rintro e w8 ⟨⟨v8,rfl⟩,hb8,hc8⟩
  have HF:=Lib.hid (FIN.out w8 hb8 (HS7.out.2.trans hc8))
  clear hb8 hc8
  go_wp2
  go_ret
  exact ⟨b,_,_,rfl,HF.out.1,HF.out.2⟩)
end Go.Proofs.Ytlhekbjidppijaa
namespace Go.Proofs.Ytlhekbjidppijaa
open Go.RowKit
def WrS (lp g d from_ segs k : Nat) (W : World) : Prop:=W.cell? ⟨g,0,none⟩ = some (.int .i64 ((k + 1 : Nat) : Int)) /\ W.cell? ⟨lp,0,none⟩ = some (.pointer (some ⟨d,0,none⟩)) /\ W.cell? ⟨lp,1,none⟩ = some (.int .i64 (from_ : Int)) /\ W.cell? ⟨lp,2,none⟩ = some (.int .i64 (segs : Int)) /\ W.cell? ⟨lp,5,none⟩ = some (.int .i64 1)
set_option maxRecDepth 20000 in
set_option maxHeartbeats 2000000 in
theorem write248 (w : World) (τ : Own) (t tg td lp g d from_ segs k base i n nb c : Nat) (B : Option Addr) (Z Z' : Nat -> Prop) (vL vn fr rv : Value) (lb : List Nat) (hR : Rw w τ tg 5 1 (.slice B nb c) nb (bv lb)) (hlb : ∀ x ∈ lb,x < 256) (hnb : nb <= 400)
 (hL : Has w τ t lp 328 #[.pointer (some ⟨d,0,none⟩),.int .i64 (from_ : Int),.int .i64 (segs : Int),vL,vn,.int .i64 1,fr]) (hG : Has w τ tg g 353 #[.int .i64 ((k + 1 : Nat) : Int),.int .i64 (base : Int),.int .i64 0,.slice B nb c,rv])
 (hD : DevAt w τ td d n Z) (ht : t ≠ td) (htg : tg ≠ td) (hk : k < segs) (hsegs : segs <= 1000) (hi : i < 8) (hn : from_ + k * 8 + i < n) (hn2 : n <= 2048) (hZ : ∀ j,Z' j -> Z j /\ j ≠ from_ + k * 8 + i) :
 Calls Tryz.prog 248 #[.pointer (some ⟨lp,0,none⟩),.pointer (some ⟨g,0,none⟩),.int .i64 (i : Int)] w fun e w'=>e = .returned (.int .i64 0) /\ ∃ τ',DevAt w' τ' td d n Z' /\ Chg (· = td) w τ w' τ':=by
 obtain ⟨x,hx⟩:=fresh w τ
 have hxd : x ≠ td:=by rintro rfl;exact hx _ hD.own.1 hD.own.2
 have hc2 : Chg (fun _=>False) w τ w.drew.drew τ:=(Chg.refl _ w τ).drew.drew
 have HSEC:=Lib.hid (sector_any w.drew.drew τ tg g k base i 1 x nb c B rv lb hi (by omega) (by decide) (hG.keep hc2 id) (hR.keep hc2 id) hlb hnb)
 have e3 : ((from_ + k * 8 + i : Nat) : Int) = (from_ : Int) + (k : Int) * 8 + (i : Int):=by omega
 have HWR : Hid (∀ W τ1 b c,Buf W τ1 x b 64 -> Chg (fun _=>False) w.drew.drew τ W τ1 -> Calls Tryz.prog 132 #[.pointer (some ⟨d,0,none⟩),.int .i64 ((from_ : Int) + (k : Int) * 8 + (i : Int)),.slice (some ⟨b,0,none⟩) 64 c] W fun e w'=>e = .returned (.int .i64 0) /\ DevAt w' τ1 td d n Z' /\ Chg (· = td) W τ1 w' τ1):=Lib.hid (fun W τ1 b c hb hc=>by
  obtain ⟨lx,lx1,lx2,lx3⟩:=hb.part 0 64 (by decide)
  rw [<- e3]
  exact write_any W τ1 td d n Z Z' (((hD.drewN 1).drewN 1).keep hc id) (from_ + k * 8 + i) hn (some ⟨b,0,none⟩) 64 c lx lx1 (by decide) lx2 lx3 (by intro e;cases e) (fun j hj=>⟨(hZ j hj).1,fun e=>absurd e (hZ j hj).2⟩))
 have hS : ∀ W τ',Chg (fun _=>False) w τ W τ' -> WrS lp g d from_ segs k W:=fun W τ' h=>⟨(hG.keep h id).cell 0,(hL.keep h id).cell 0,(hL.keep h id).cell 1,(hL.keep h id).cell 2,(hL.keep h id).cell 5⟩
 have S1:=Lib.hid (hS _ _ (Chg.refl _ w τ).drew)
 have S2:=Lib.hid (hS _ _ hc2)
 have HS:=Lib.hid (fun W τ' h=>hS W τ' (hc2.trans h))
 have k2 : (k : Int) % (segs : Int) = (k : Int):=Int.emod_eq_of_lt (by omega) (by omega)
 have q0 : ¬ ((segs : Int) = 0):=by omega
 have b1 : (k : Int) <= 1000:=by omega
 have b2 : (from_ : Int) <= 2048:=by omega
 have b3 : (i : Int) <= 8:=by omega
 clear hx hL hG hD hR hlb hS e3 hc2 hk hsegs hn hn2 hi
 go_enter Tryz.func248,Tryz.ntmps248
 go_wp2_with fail
 refine wp_region_hl [] [0,1,2,3,4,5,6,7,8] (WrS lp g d from_ segs k) (by kernel_rfl) (by kernel_rfl) S1.out ?_
 iterate 9 (refine hd_take (v:=?_) rfl rfl (by kernel_rfl) (fun W hW=>?_) ?_;rotate_left;(obtain ⟨r0,r1,r2,r3,r4⟩:=hW;first | (go_simp;done) | (go_simp;with_reducible rfl)))
 refine hd_end ?_
 simp only [List.length_cons,List.length_nil,List.drop_succ_cons,List.drop_zero,Nat.zero_add,Nat.reduceAdd]
 go_wp2_with fail
 refine wp_region_hl [19] [0,1,2,3,4,5,6,7,8,9,10,11,12,13,14,15,16,17,18,19] (WrS lp g d from_ segs k) (by kernel_rfl) (by kernel_rfl) S2.out ?_
 iterate 19 (refine hd_take (v:=?_) rfl rfl (by kernel_rfl) (fun W hW=>?_) ?_;rotate_left;(obtain ⟨r0,r1,r2,r3,r4⟩:=hW;first | (go_simp;done) | (go_simp;with_reducible rfl)))
 refine hd_loud rfl rfl fun K hK=>?_
 go_simp
 refine HSEC.out.mono ?_
 rintro e w1 ⟨b,c1,τ1,rfl,hb1,hc1⟩
 have HB1:=Lib.hid (And.intro hb1 hc1)
 have S3:=Lib.hid (HS.out w1 τ1 hc1)
 clear hb1 hc1
 refine hK _ _ S3.out (hd_end ?_)
 clear hK
 simp only [List.length_cons,List.length_nil,List.drop_succ_cons,List.drop_zero,Nat.zero_add,Nat.reduceAdd]
 go_wp2_with (go_at_call 132;fail)
 refine (HWR.out w1 τ1 b c1 HB1.out.1 HB1.out.2).mono ?_
 rintro e w2 ⟨rfl,hd2,hc2⟩
 have HF : Hid (DevAt w2 τ1 td d n Z' /\ Chg (· = td) w τ w2 τ1):=Lib.hid ⟨hd2,(((Chg.refl _ w τ).drew.drew.trans HB1.out.2).mono fun _ h=>h.elim).trans hc2⟩
 clear hd2 hc2
 go_wp2
 go_ret
 exact ⟨rfl,τ1,HF.out⟩
theorem write248n (w : World) (τ : Own) (t tg td lp g d from_ segs k base n : Nat) (Z Z' : Nat -> Prop) (vL vn fr rv : Value)
 (hL : Has w τ t lp 328 #[.pointer (some ⟨d,0,none⟩),.int .i64 (from_ : Int),.int .i64 (segs : Int),vL,vn,.int .i64 1,fr]) (hG : Has w τ tg g 353 #[.int .i64 ((k + 1 : Nat) : Int),.int .i64 (base : Int),.int .i64 0,.slice none 0 0,rv])
 (hD : DevAt w τ td d n Z) (ht : t ≠ td) (htg : tg ≠ td) (hk : k < segs) (hsegs : segs <= 1000) (hn : from_ + k * 8 + 0 < n) (hn2 : n <= 2048) (hZ : ∀ j,Z' j -> Z j /\ j ≠ from_ + k * 8 + 0) :
 Calls Tryz.prog 248 #[.pointer (some ⟨lp,0,none⟩),.pointer (some ⟨g,0,none⟩),.int .i64 0] w fun e w'=>e = .returned (.int .i64 0) /\ ∃ τ',DevAt w' τ' td d n Z' /\ Chg (· = td) w τ w' τ':=
 write248 w τ t tg td lp g d from_ segs k base 0 n 0 0 none Z Z' vL vn fr rv [] (Rw.nil _ _ _ _ _) (by simp) (by decide) hL hG hD ht htg hk hsegs (by decide) hn hn2 hZ
theorem write248s (w : World) (τ : Own) (t tg td lp g d from_ segs k base i n ab nb c : Nat) (Z Z' : Nat -> Prop) (vL vn fr rv : Value) (lb : List Nat) (hR : Rw w τ tg 5 1 (.slice (some ⟨ab,0,none⟩) nb c) nb (bv lb)) (hlb : ∀ x ∈ lb,x < 256) (hnb : nb <= 400) (hnc : nb <= c)
 (hL : Has w τ t lp 328 #[.pointer (some ⟨d,0,none⟩),.int .i64 (from_ : Int),.int .i64 (segs : Int),vL,vn,.int .i64 1,fr]) (hG : Has w τ tg g 353 #[.int .i64 ((k + 1 : Nat) : Int),.int .i64 (base : Int),.int .i64 0,.slice (some ⟨ab,0,none⟩) nb c,rv])
 (hD : DevAt w τ td d n Z) (ht : t ≠ td) (htg : tg ≠ td) (hk : k < segs) (hsegs : segs <= 1000) (hi : i < 8) (hn : from_ + k * 8 + i < n) (hn2 : n <= 2048) (hZ : ∀ j,Z' j -> Z j /\ j ≠ from_ + k * 8 + i) :
 Calls Tryz.prog 248 #[.pointer (some ⟨lp,0,none⟩),.pointer (some ⟨g,0,none⟩),.int .i64 (i : Int)] w fun e w'=>e = .returned (.int .i64 0) /\ ∃ τ',DevAt w' τ' td d n Z' /\ Chg (· = td) w τ w' τ':=
 write248 w τ t tg td lp g d from_ segs k base i n nb c (some ⟨ab,0,none⟩) Z Z' vL vn fr rv lb hR hlb hnb hL hG hD ht htg hk hsegs hi hn hn2 hZ
end Go.Proofs.Ytlhekbjidppijaa
namespace Go.Proofs.Ytlhekbjidppijaa
open Go.RowKit
def BcS (gx vg bl g lp segs kx k : Nat) (W : World) : Prop:=W.cell? ⟨gx,0,none⟩ = some (.int .i64 ((kx + 1 : Nat) : Int)) /\ W.cell? ⟨vg,0,none⟩ = some (.pointer (some ⟨g,0,none⟩)) /\ W.cell? ⟨g,0,none⟩ = some (.int .i64 ((k + 1 : Nat) : Int)) /\ W.cell? ⟨bl,0,none⟩ = some (.pointer (some ⟨lp,0,none⟩)) /\ W.cell? ⟨lp,2,none⟩ = some (.int .i64 (segs : Int))
set_option maxRecDepth 20000 in
theorem begin269 (w : World) (gx vg bl g lp segs kx k : Nat) (h1 : w.cell? ⟨gx,0,none⟩ = some (.int .i64 ((kx + 1 : Nat) : Int))) (h2 : w.cell? ⟨vg,0,none⟩ = some (.pointer (some ⟨g,0,none⟩))) (h3 : w.cell? ⟨g,0,none⟩ = some (.int .i64 ((k + 1 : Nat) : Int)))
 (h4 : w.cell? ⟨bl,0,none⟩ = some (.pointer (some ⟨lp,0,none⟩))) (h5 : w.cell? ⟨lp,2,none⟩ = some (.int .i64 (segs : Int))) (hk : k < segs) (hs : segs <= 1000) :
 Calls Tryz.prog 269 #[.pointer (some ⟨gx,0,none⟩),.pointer (some ⟨vg,0,none⟩),.pointer (some ⟨bl,0,none⟩)] w fun e w'=>e = .returned (.bool false) /\ w' = w.drew:=by
 have S0 : Hid (BcS gx vg bl g lp segs kx k w.drew):=Lib.hid ⟨h1,h2,h3,h4,h5⟩
 have x1 : IntKind.i64.wrap ((k : Int) + 1 - (segs : Int)) = (k : Int) + 1 - (segs : Int):=IntWalk.i64_in _ ⟨by omega,by omega⟩
 have x2 : decide ((kx : Int) + 1 <= (k : Int) + 1 - (segs : Int)) = false:=by rw [decide_eq_false_iff_not];omega
 clear h1 h2 h3 h4 h5
 go_enter Tryz.func269,Tryz.ntmps269
 go_wp2_with fail
 refine wp_region_hl [] [0,1,2,3,4,5,6,7,8,9,10,11,12] (BcS gx vg bl g lp segs kx k) (by kernel_rfl) (by kernel_rfl) S0.out ?_
 iterate 13 (refine hd_take (v:=?_) rfl rfl (by kernel_rfl) (fun W hW=>?_) ?_;rotate_left;(obtain ⟨r0,r1,r2,r3,r4⟩:=hW;first | (go_simp;done) | (go_simp;with_reducible rfl)))
 refine hd_end ?_
 simp only [List.length_cons,List.length_nil,List.drop_succ_cons,List.drop_zero,Nat.zero_add,Nat.reduceAdd]
 go_wp2
 go_ret
 exact ⟨rfl,rfl⟩
set_option maxRecDepth 20000 in
theorem idx292 (w : World) (A : Option Addr) (n c : Nat) (xs : List Value) (x1 : Value) (x2 : Value) (hs : Sl w A xs) (hn : xs.length = n) (hm : n <= 1000000)
 (hF : ∀ m i (h : i < xs.length),Calls Tryz.prog 269 #[xs[i],x1,x2] (w.drewN m) fun e w'=>e = .returned (.bool false) /\ ∃ m',w' = w.drewN m') :
 Calls Tryz.prog 292 #[.slice A n c,.func (.func 269) #[] #[x1,x2]] w fun e w'=>e = .returned (.int .i64 (-1)) /\ ∃ m,w' = w.drewN m:=by
 have HS:=Lib.hid hs
 have HF:=Lib.hid hF
 clear hs hF
 go_enter Tryz.func292,Tryz.ntmps292
 go_wp2
 go_loopw [8] (fun i wr=>∃ k m : Nat,k <= n /\ i = .int .i64 k /\ wr = w.drewN m) (fun i _=>n - (intOf i).toNat)
 case atStart=>exact ⟨0,0,Nat.zero_le _,rfl,rfl⟩
 case round=>
  obtain ⟨k,m,hk,rfl,rfl⟩:=hrel
  by_cases hlt : k < n
  ·have k1 : (k : Int) < (n : Int):=by omega
   have k2 : (0 : Int) <= (k : Int):=by omega
   obtain ⟨b,off,rfl,hcs⟩:=HS.out (by intro e;subst e;simp at hn;omega)
   have hc : w.cell? ⟨b,off + k,none⟩ = some xs[k]:=hcs k _ (List.getElem?_eq_getElem (by omega))
   have hc' : (w.drewN m).cell? ⟨b,off + k,none⟩ = some xs[k]:=hc
   clear hcs
   have HQ:=Lib.hid (HF.out m k (by omega))
   generalize xs[k] = q at *
   go_wp2_with fail
   refine HQ.out.mono ?_
   rintro e w1 ⟨rfl,m',rfl⟩
   clear HQ hc hc'
   go_wp2
   go_roundw
   case rel=>exact ⟨k + 1,m',by omega,by go_num,rfl⟩
   case measure=>simp [intOf];omega
  ·obtain rfl : k = n:=by omega
   go_wp2
   go_ret
   exact ⟨rfl,m,rfl⟩
set_option maxRecDepth 20000 in
theorem del268 (w : World) (A : Option Addr) (n c : Nat) (xs : List Value) (x1 : Value) (x2 : Value) (hs : Sl w A xs) (hn : xs.length = n) (hm : n <= 1000000)
 (hF : ∀ m i (h : i < xs.length),Calls Tryz.prog 269 #[xs[i],x1,x2] (w.drewN m) fun e w'=>e = .returned (.bool false) /\ ∃ m',w' = w.drewN m') :
 Calls Tryz.prog 268 #[.slice A n c,.func (.func 269) #[] #[x1,x2]] w fun e w'=>e = .returned (.slice A n c) /\ ∃ m,w' = w.drewN m:=by
 have HQ:=Lib.hid (idx292 w A n c xs x1 x2 hs hn hm hF)
 clear hs hF
 go_enter Tryz.func268,Tryz.ntmps268
 go_wp2_with fail
 refine HQ.out.mono ?_
 rintro e w1 ⟨rfl,m,rfl⟩
 go_wp2
 go_ret
 exact ⟨rfl,m,rfl⟩
end Go.Proofs.Ytlhekbjidppijaa
namespace Go.Proofs.Ytlhekbjidppijaa
open Go.RowKit
abbrev ptr (g : Nat) : Value:=.pointer (some ⟨g,0,none⟩)
abbrev Segs:=List (Nat × List (List UInt8))
def Segs.ptrs (S : Segs) : List Value:=S.map fun p=>ptr p.1
theorem Segs.ptrs_length (S : Segs) : S.ptrs.length = S.length:=by simp [Segs.ptrs]
structure LogS (w : World) (τ : Own) (t lp d from_ segs nxt : Nat) (fr : Bool) (S : Segs) : Prop where
 ht : t < 95
 ex : ∃ vL,Has w τ t lp 328 #[ptr d,.int .i64 (from_ : Int),.int .i64 (segs : Int),vL,.int .i64 (nxt : Int),.int .i64 1,.bool fr] /\ Rw w τ (t + 96) 354 1 vL S.length S.ptrs
 seg : ∀ k p,S[k]? = some p -> SegAt w τ (t + 96 * (k + 3)) (t + 192) p.1 k (1 + ((S.take k).flatMap (·.2)).length) p.2
section
variable {T : Nat -> Prop} {w w' : World} {τ τ' : Own} {t lp d from_ segs nxt : Nat} {fr : Bool} {S : Segs}
theorem LogS.keep (h : LogS w τ t lp d from_ segs nxt fr S) (hc : Chg T w τ w' τ') (hT : ∀ x,T x -> x % 96 ≠ t) : LogS w' τ' t lp d from_ segs nxt fr S:=by
 obtain ⟨vL,h1,h2⟩:=h.ex
 have ht:=h.ht
 refine ⟨ht,⟨vL,h1.keep hc (fun e=>hT _ e (by omega)),h2.keep hc (fun e=>hT _ e (by omega))⟩,fun k p hp=>(h.seg k p hp).keep hc (fun e=>hT _ e (by omega)) (fun e=>hT _ e (by omega))⟩
end
structure BG (w : World) (τ : Own) (t td y lp d from_ segs nxt n bl g vg gen : Nat) (fr : Bool) (S : Segs) (vL vr : Value) (xs : List Value) (W : World) (τ' : Own) : Prop where
 hl : Has W τ' t lp 328 #[ptr d,.int .i64 (from_ : Int),.int .i64 (segs : Int),vL,.int .i64 (nxt : Int),.int .i64 1,.bool fr]
 hr : Rw W τ' (t + 96) 354 1 vr xs.length xs
 hs : ∀ k p,S[k]? = some p -> SegAt W τ' (t + 96 * (k + 3)) (t + 192) p.1 k (1 + ((S.take k).flatMap (·.2)).length) p.2
 hg : Has W τ' (t + 96 * (S.length + 3)) g 353 #[.int .i64 (gen : Int),.int .i64 (nxt : Int),.int .i64 0,.slice none 0 0,.slice none 0 0]
 hv : Has W τ' y vg 354 #[ptr g]
 hb : Has W τ' y bl 271 #[ptr lp]
 hd : DevAt W τ' td d n (fun _=>False)
 hc : Chg (fun x=>x % 96 = t \/ x = td \/ x = y) w τ W τ'
section
variable {T : Nat -> Prop} {w W W' : World} {τ τ' τ2 : Own} {t td y lp d from_ segs nxt n bl g vg gen : Nat} {fr : Bool} {S : Segs} {vL vr : Value} {xs : List Value}
theorem BG.chg (h : BG w τ t td y lp d from_ segs nxt n bl g vg gen fr S vL vr xs W τ') (hc : Chg (fun _=>False) W τ' W' τ2) : BG w τ t td y lp d from_ segs nxt n bl g vg gen fr S vL vr xs W' τ2 where
 hl:=h.hl.keep hc id
 hr:=h.hr.keep hc id
 hs:=fun k p hp=>(h.hs k p hp).keep hc id id
 hg:=h.hg.keep hc id
 hv:=h.hv.keep hc id
 hb:=h.hb.keep hc id
 hd:=h.hd.keep hc id
 hc:=h.hc.trans (hc.mono fun _ e=>e.elim)
theorem BG.drewN (h : BG w τ t td y lp d from_ segs nxt n bl g vg gen fr S vL vr xs W τ') (m : Nat) : BG w τ t td y lp d from_ segs nxt n bl g vg gen fr S vL vr xs (W.drewN m) τ':=h.chg ((Chg.refl _ _ _).drewN m)
theorem BG.alloc (h : BG w τ t td y lp d from_ segs nxt n bl g vg gen fr S vL vr xs W τ') (o : Obj) : BG w τ t td y lp d from_ segs nxt n bl g vg gen fr S vL vr xs (W.alloc o) (ext τ' W y):=h.chg (((Chg.refl _ _ _).alloc o).ext y)
theorem BG.dev (h : BG w τ t td y lp d from_ segs nxt n bl g vg gen fr S vL vr xs W τ') (hc : Chg (· = td) W τ' W' τ2) (hd : DevAt W' τ2 td d n (fun _=>False)) (ht : t < 95) (htd : td < 95) (hne : td ≠ t) (hy : y % 96 = 95) :
 BG w τ t td y lp d from_ segs nxt n bl g vg gen fr S vL vr xs W' τ2 where
 hl:=h.hl.keep hc (by omega)
 hr:=h.hr.keep hc (by omega)
 hs:=fun k p hp=>(h.hs k p hp).keep hc (by omega) (by omega)
 hg:=h.hg.keep hc (by omega)
 hv:=h.hv.keep hc (by omega)
 hb:=h.hb.keep hc (by omega)
 hd:=hd
 hc:=h.hc.trans (hc.mono fun _ e=>.inr (.inl e))
theorem BG.setGen (h : BG w τ t td y lp d from_ segs nxt n bl g vg gen fr S vL vr xs W τ') (ht : t < 95) (htd : td < 95) (hne : td ≠ t) (hy : y % 96 = 95) (gen' : Nat) :
 BG w τ t td y lp d from_ segs nxt n bl g vg gen' fr S vL vr xs (W.setCell ⟨g,0,none⟩ (.int .i64 (gen' : Int))) τ' where
 hl:=h.hl.far (h.hl.other h.hg (.inr (by decide))) _
 hr:=h.hr.far (by show τ' g ≠ _;rw [h.hg.own];omega) _
 hs:=fun k p hp=>by
  have hk : k < S.length:=(List.getElem?_eq_some_iff.1 hp).1
  refine (h.hs k p hp).keep ((Chg.refl (· = t + 96 * (S.length + 3)) W τ').setCell (by show τ' g = _;exact h.hg.own) _) (by omega) (by omega)
 hg:=by
  have:=h.hg.set_ 0 (.int .i64 (gen' : Int))
  simpa using this
 hv:=h.hv.far (h.hv.other h.hg (.inr (by decide))) _
 hb:=h.hb.far (h.hb.other h.hg (.inr (by decide))) _
 hd:=h.hd.far (by show τ' g ≠ _;rw [h.hg.own];omega) _
 hc:=h.hc.setCell (.inl (by show τ' g % 96 = _;rw [h.hg.own];omega)) _
theorem BG.setL (h : BG w τ t td y lp d from_ segs nxt n bl g vg gen fr S vL vr xs W τ') (ht : t < 95) (htd : td < 95) (hne : td ≠ t) (hy : y % 96 = 95) (v : Value) (hv : v = vr) :
 BG w τ t td y lp d from_ segs nxt n bl g vg gen fr S vr vr xs (W.setCell ⟨lp,3,none⟩ v) τ' where
 hl:=by
  have:=h.hl.set_ 3 vr
  subst hv
  simpa using this
 hr:=h.hr.far (by show τ' lp ≠ _;rw [h.hl.own];omega) _
 hs:=fun k p hp=>(h.hs k p hp).keep ((Chg.refl (· = t) W τ').setCell (by show τ' lp = _;exact h.hl.own) _) (by omega) (by omega)
 hg:=h.hg.far (h.hg.other h.hl (.inr (by decide))) _
 hv:=h.hv.far (h.hv.other h.hl (.inr (by decide))) _
 hb:=h.hb.far (h.hb.other h.hl (.inr (by decide))) _
 hd:=h.hd.far (by show τ' lp ≠ _;rw [h.hl.own];omega) _
 hc:=h.hc.setCell (.inl (by show τ' lp % 96 = _;rw [h.hl.own];omega)) _
theorem BG.app (h : BG w τ t td y lp d from_ segs nxt n bl g vg gen fr S vL vr xs W τ') (ht : t < 95) (htd : td < 95) (hne : td ≠ t) (hy : y % 96 = 95) {v : Value} {ys : List Value} (hR : Rw W' τ2 (t + 96) 354 1 v ys.length ys) (hc : Chg (· = t + 96) W τ' W' τ2) :
 BG w τ t td y lp d from_ segs nxt n bl g vg gen fr S vL v ys W' τ2 where
 hl:=h.hl.keep hc (by omega)
 hr:=hR
 hs:=fun k p hp=>(h.hs k p hp).keep hc (by omega) (by omega)
 hg:=h.hg.keep hc (by omega)
 hv:=h.hv.keep hc (by omega)
 hb:=h.hb.keep hc (by omega)
 hd:=h.hd.keep hc (by omega)
 hc:=h.hc.trans (hc.mono fun _ e=>.inl (by omega))
theorem BG.fin (h : BG w τ t td y lp d from_ segs nxt n bl g vg (S.length + 1) fr S vL vL (Segs.ptrs (S ++ [(g,([] : List (List UInt8)))])) W τ') (ht : t < 95) (hn : nxt = 1 + (S.flatMap (·.2)).length) :
 LogS W τ' t lp d from_ segs nxt fr (S ++ [(g,([] : List (List UInt8)))]) where
 ht:=ht
 ex:=⟨vL,h.hl,by have:=h.hr;rwa [Segs.ptrs_length] at this⟩
 seg:=fun k p hp=>by
  rcases Nat.lt_trichotomy k S.length with h1 | h1 | h1
  ·rw [List.getElem?_append_left h1] at hp
   rw [List.take_append_of_le_length (by omega)]
   exact h.hs k p hp
  ·subst h1
   rw [List.getElem?_append_right (Nat.le_refl _),Nat.sub_self] at hp
   simp only [List.getElem?_cons_zero,Option.some.injEq] at hp
   subst hp
   rw [List.take_left',<- hn]
   ·exact ⟨.slice none 0 0,0,[],.slice none 0 0,[],h.hg,Rw.nil _ _ _ _ _,by simp,rfl,by omega,Rw.nil _ _ _ _ _,rfl,fun i l hl=>by simp at hl⟩
   ·rfl
  ·rw [List.getElem?_eq_none (by simp;omega)] at hp
   cases hp
end
end Go.Proofs.Ytlhekbjidppijaa
