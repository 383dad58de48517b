/- Contracts of functions that the Top rows reach, and plain laws for them: what each returns and what it leaves in memory. Conditions: those that each theorem names. -/
import Derived.BigRegion
import Derived.Test.YtlhekbjidppijaaGreatMAB
import Derived.Test.YtlhekbjidppijaaGreatMAI
import Derived.Test.YtlhekbjidppijaaGreatMAJ
set_option linter.unusedVariables false
set_option linter.unusedSimpArgs false
namespace Go.Proofs.Ytlhekbjidppijaa
open Go.RowKit
structure MF (W0 : World) (τ : Own) (t p A n k : Nat) (Z : Nat -> Prop) (calls : Int) (wx : World) : Prop where
 g1 : Has wx τ t p 197 #[.slice (some ⟨A,0,none⟩) n n,.int .i64 calls]
 ex : ∃ cs,Has wx τ t A 224 cs /\ Secs cs n Z
 chg : Chg (· = t) W0 τ wx τ
 hpA : p ≠ A
 hk : k < n
theorem MF.c0 {W0 : World} {τ : Own} {t p A n k : Nat} {Z : Nat -> Prop} {calls : Int} {wx : World} (h : MF W0 τ t p A n k Z calls wx) : wx.cell? ⟨p,0,none⟩ = some (.slice (some ⟨A,0,none⟩) n n):=h.g1.cell 0
theorem MF.cb {W0 : World} {τ : Own} {t p A n k : Nat} {Z : Nat -> Prop} {calls : Int} {wx : World} (h : MF W0 τ t p A n k Z calls wx) : ∃ b,wx.cell? ⟨A,k * 129 + 128,none⟩ = some (.bool b):=by
 obtain ⟨cs,h1,h2⟩:=h.ex
 obtain ⟨b,hb⟩:=h2.loose k h.hk
 exact ⟨b,(h1.cell _).trans hb⟩
theorem MF.fb {W0 : World} {τ : Own} {t p A n k : Nat} {Z : Nat -> Prop} {calls : Int} {wx : World} (h : MF W0 τ t p A n k Z calls wx) : wx.frozen? ⟨A,k * 129 + 128,none⟩ = false:=by
 obtain ⟨cs,h1,h2⟩:=h.ex
 exact h1.frozen _
theorem MF.loose {W0 : World} {τ : Own} {t p A n k : Nat} {Z : Nat -> Prop} {calls : Int} {wx : World} (h : MF W0 τ t p A n k Z calls wx) : MF W0 τ t p A n k Z calls (wx.setCell ⟨A,k * 129 + 128,none⟩ (.bool false)):=by
 obtain ⟨g1,⟨cs,h1,h2⟩,h3,h4,h5⟩:=h
 obtain ⟨b,hb⟩:=h2.loose k h5
 have hsz:=(Array.getElem?_eq_some_iff.1 hb).1
 refine ⟨g1.far (p:=⟨A,_,none⟩) h4 _,⟨_,h1.set_ _ _,?_⟩,h3.setCell (p:=⟨A,_,none⟩) h1.own _,h4,h5⟩
 refine ⟨fun i hi j hj=>?_,fun i hi=>?_,fun i hi hz j hj=>?_⟩
 ·rw [Array.getElem?_setIfInBounds_ne (by omega)]
  exact h2.byte i hi j hj
 ·by_cases he : i = k
  ·subst he
   exact ⟨false,Array.getElem?_setIfInBounds_self_of_lt hsz⟩
  ·rw [Array.getElem?_setIfInBounds_ne (by omega)]
   exact h2.loose i hi
 ·rw [Array.getElem?_setIfInBounds_ne (by omega)]
  exact h2.zero i hi hz j hj
theorem MF.load {W0 : World} {τ : Own} {t p A n k : Nat} {Z : Nat -> Prop} {calls : Int} {wx : World} (h : MF W0 τ t p A n k Z calls wx) :
 ∃ l : List Nat,l.length = 64 /\ (∀ x ∈ l,x < 256) /\ (Z k -> l = List.replicate 64 0) /\ (Instr.loadAt 222 (.pointer (some ⟨A,k * 129,none⟩))).run Tryz.prog wx = .ok (.agg (bv l).toArray) wx:=by
 obtain ⟨g1,⟨cs,h1,h2⟩,h3,h4,h5⟩:=h
 obtain ⟨l,l1,l2,l3,l4⟩:=h2.bytes k h5
 refine ⟨l,l1,l2,l3,run_loadAgg wx 222 A (k * 129) (bv l) 64 (by kernel_rfl) (by kernel_rfl) (by simp [bv,l1]) ?_⟩
 intro j u hu
 have hj : j < 64:=by
  have:=(List.getElem?_eq_some_iff.1 hu).1
  simpa [bv,l1] using this
 rw [h1.cell,l4 j hj,hu]
theorem MF.lasts {W0 : World} {τ : Own} {t p A n k : Nat} {Z : Nat -> Prop} {calls : Int} {wx : World} (h : MF W0 τ t p A n k Z calls wx) (l : List Nat) (hl : l.length = 64) (hb : ∀ x ∈ l,x < 256) :
 ∃ W2,(Instr.storeAt 222 (.pointer (some ⟨A,k * 129 + 64,none⟩)) (.agg (bv l).toArray)).run Tryz.prog wx = .ok () W2 /\ MF W0 τ t p A n k Z calls W2 /\ ∀ j,j < 64 -> W2.cell? ⟨A,k * 129 + j,none⟩ = wx.cell? ⟨A,k * 129 + j,none⟩:=by
 obtain ⟨g1,⟨cs,h1,h2⟩,h3,h4,h5⟩:=h
 have hlen : (bv l).length = 64:=by simp [bv,hl]
 obtain ⟨b,hb'⟩:=h2.loose k h5
 have hsz:=(Array.getElem?_eq_some_iff.1 hb').1
 obtain ⟨W2,hrun,hA2,hk2,hs2,ho2,ht2,hu2⟩:=run_storeAgg (P:=Tryz.prog) wx 222 A (k * 129 + 64) 224 cs (bv l) 64 (by kernel_rfl) hlen h1.blk (by rw [hlen];omega) (by intro u hu;obtain ⟨x,_,rfl⟩:=List.mem_map.1 hu;rfl)
 have get : ∀ x,¬ (k * 129 + 64 <= x /\ x < k * 129 + 128) -> (splice cs (k * 129 + 64) (bv l))[x]? = cs[x]?:=by
  intro x hx
  rw [splice_get _ _ _ (by rw [hlen];omega),hlen]
  by_cases hlt : x < k * 129 + 64
  ·rw [if_pos hlt]
  ·rw [if_neg hlt,if_neg (by omega)]
 refine ⟨W2,hrun,⟨⟨(hk2 p h4).trans g1.blk,g1.own⟩,⟨_,h1.agg hA2,?_⟩,h3.of_row h1.own hk2 hs2 ho2 ht2 hu2,h4,h5⟩,fun j hj=>by rw [hA2.cell,get _ (by omega),h1.cell]⟩
 refine ⟨fun i hi j hj=>?_,fun i hi=>?_,fun i hi hz j hj=>?_⟩
 ·by_cases hc : i = k /\ 64 <= j
  ·obtain ⟨rfl,hc⟩:=hc
   refine ⟨l[j - 64]'(by omega),hb _ (List.getElem_mem _),?_⟩
   rw [splice_get _ _ _ (by rw [hlen];omega),hlen,if_neg (by omega),if_pos (by omega)]
   unfold bv
   rw [List.getElem?_map,show i * 129 + j - (i * 129 + 64) = j - 64 by omega,List.getElem?_eq_getElem (by omega)]
   rfl
  ·rw [get _ (by rintro ⟨h1,h2⟩;exact hc ⟨by omega,by omega⟩)]
   exact h2.byte i hi j hj
 ·rw [get _ (by omega)]
  exact h2.loose i hi
 ·rw [get _ (by omega)]
  exact h2.zero i hi hz j hj
def FlS (W0 : World) (τ : Own) (t p A n k : Nat) (Z : Nat -> Prop) (calls : Int) (l : List Nat) (W : World) : Prop:=
 MF W0 τ t p A n k Z calls W /\ ∀ j,j < 64 -> W.cell? ⟨A,k * 129 + j,none⟩ = (bv l)[j]?
set_option maxRecDepth 20000 in
set_option maxHeartbeats 2000000 in
theorem flush_any (w : World) (τ : Own) (t p n : Nat) (Z : Nat -> Prop) (h : DevAt w τ t p n Z) (hn : n <= 2048) :
 Calls Tryz.prog 133 #[.pointer (some ⟨p,0,none⟩)] w fun e w'=>e = .returned (.int .i64 0) /\ DevAt w' τ t p n Z /\ Chg (· = t) w τ w' τ:=by
 obtain ⟨A,calls,cells,h1,h2,h3⟩:=h.ex
 have hpA : p ≠ A:=h1.other h2 (.inr (by decide))
 have c0 : w.cell? ⟨p,0,none⟩ = some (.slice (some ⟨A,0,none⟩) n n):=h1.cell 0
 have HH:=Lib.hid (And.intro h1 (And.intro h2 h3))
 clear h1 h2 h3 h
 go_enter Tryz.func133,Tryz.ntmps133
 go_wp2
 go_loopw [11] (fun i wr=>∃ k : Nat,k <= n /\ i = .int .i64 k /\ ∃ cs,Has wr τ t p 197 #[.slice (some ⟨A,0,none⟩) n n,.int .i64 calls] /\ Has wr τ t A 224 cs /\ Secs cs n Z /\ Chg (· = t) w τ wr τ) (fun i _=>n - (intOf i).toNat)
 case atStart=>exact ⟨0,Nat.zero_le _,rfl,cells,HH.out.1,HH.out.2.1,HH.out.2.2,Chg.refl _ _ _⟩
 case round=>
  obtain ⟨k,hk,rfl,cs,g1,g2,g3,g4⟩:=hrel
  have d0 : wr.cell? ⟨p,0,none⟩ = some (.slice (some ⟨A,0,none⟩) n n):=g1.cell 0
  have d1 : wr.cell? ⟨p,1,none⟩ = some (.int .i64 calls):=g1.cell 1
  have f1:=g1.frozen 1
  by_cases hlt : k < n
  ·have k1 : (k : Int) < (n : Int):=by omega
   have k2 : (0 : Int) <= (k : Int):=by omega
   obtain ⟨b0,hb0⟩:=g3.loose k hlt
   have e1 : wr.cell? ⟨A,k * 129 + 128,none⟩ = some (.bool b0):=(g2.cell _).trans hb0
   have HG:=Lib.hid (And.intro g1 (And.intro g2 (And.intro g3 g4)))
   clear g1 g2 g3 g4 HH
   go_wp2
   have k1 : (k : Int) < (n : Int):=by omega
   have k2 : (0 : Int) <= (k : Int):=by omega
   obtain ⟨l,l1,l2,-,l4⟩:=HG.out.2.2.1.bytes k hlt
   have hlen : (bv l).length = 64:=by simp [bv,l1]
   have S0 : Hid (FlS wr.drew τ t p A n k Z calls l wr.drew):=Lib.hid ⟨⟨HG.out.1.drewN 1,⟨cs,HG.out.2.1.drewN 1,HG.out.2.2.1⟩,Chg.refl _ _ _,hpA,hlt⟩,fun j hj=>((HG.out.2.1.drewN 1).cell _).trans (l4 j hj)⟩
   have HLd : ∀ W,FlS wr.drew τ t p A n k Z calls l W -> (Instr.loadAt 222 (.pointer (some ⟨A,k * 129,none⟩))).run Tryz.prog W = .ok (.agg (bv l).toArray) W:=fun W hW=>
    run_loadAgg W 222 A (k * 129) (bv l) 64 (by kernel_rfl) (by kernel_rfl) hlen fun j u hu=>by rw [hW.2 j (by have:=(List.getElem?_eq_some_iff.1 hu).1;omega),hu]
   have HLD:=Lib.hid HLd
   have HL:=Lib.hid (And.intro l1 l2)
   clear HLd l1 l2 l4 hlen
   refine wp_region_hl [20] [0,1,2,3,4,5,6,7,8,9,10,11,12,13,14,15,16,17,18,19,20] (FlS wr.drew τ t p A n k Z calls l) (by kernel_rfl) (by kernel_rfl) S0.out ?_
   iterate 17 (refine hd_take (v:=?_) rfl rfl (by kernel_rfl) (fun W hW=>?_) ?_;rotate_left;(have d0:=hW.1.c0;first | (go_simp;done) | (go_simp;with_reducible rfl)))
   refine hd_ld 222 _ rfl rfl (by kernel_rfl) rfl (.pointer (some ⟨A,k * 129,none⟩)) (.agg (bv l).toArray) (by go_simp) HLD.out ?_
   iterate 2 (refine hd_take (v:=?_) rfl rfl (by kernel_rfl) (fun W hW=>?_) ?_;rotate_left;(have d0:=hW.1.c0;first | (go_simp;done) | (go_simp;with_reducible rfl)))
   obtain ⟨W2,hst,hM2,hk2⟩:=S0.out.1.lasts l HL.out.1 HL.out.2
   refine hd_st 222 _ _ rfl rfl (by kernel_rfl) rfl rfl (.pointer (some ⟨A,k * 129 + 64,none⟩)) (.agg (bv l).toArray) (by go_simp) (by go_simp) W2 hst ⟨hM2,fun j hj=>by rw [hk2 j hj];exact S0.out.2 j hj⟩ (hd_end ?_)
   obtain ⟨b1,cb⟩:=hM2.cb
   have fb:=hM2.fb
   have d0:=hM2.c0
   have HM:=Lib.hid hM2.loose
   clear hM2 hst hk2
   simp only [List.length_cons,List.length_nil,List.drop_succ_cons,List.drop_zero,Nat.zero_add,Nat.reduceAdd]
   go_wp2
   go_roundw
   case rel=>
    obtain ⟨m1,⟨cs',m2,m3⟩,m4,_,_⟩:=HM.out
    exact ⟨k + 1,by omega,by go_num,cs',m1,m2,m3,(HG.out.2.2.2.drewN 1).trans m4⟩
   case measure=>simp [intOf];omega
  ·obtain rfl : k = n:=by omega
   have HG:=Lib.hid (And.intro g1 (And.intro g2 (And.intro g3 g4)))
   clear g1 g2 g3 g4 HH
   go_wp2
   go_ret
   obtain ⟨g1,g2,g3,g4⟩:=HG.out
   exact ⟨rfl,⟨A,_,cs,⟨g1.blk.set_ 1 _,g1.own⟩,⟨g2.blk.far (p:=⟨p,1,none⟩) (Ne.symm hpA) _,g2.own⟩,g3⟩,g4.setCell (p:=⟨p,1,none⟩) g1.own _⟩
end Go.Proofs.Ytlhekbjidppijaa
namespace Go.Proofs.Ytlhekbjidppijaa
open Go.RowKit
structure Buf (w : World) (τ : Own) (t b N : Nat) : Prop where
 ex : ∃ l : List Nat,l.length = N /\ (∀ x ∈ l,x < 256) /\ Has w τ t b 5 (bv l).toArray
section
variable {T : Nat -> Prop} {w w' : World} {τ τ' : Own} {t b N : Nat}
theorem Buf.keep (h : Buf w τ t b N) (hc : Chg T w τ w' τ') (ht : ¬ T t) : Buf w' τ' t b N:=by
 obtain ⟨l,h1,h2,h3⟩:=h.ex
 exact ⟨l,h1,h2,h3.keep hc ht⟩
theorem Buf.alloc (h : Buf w τ t b N) (o : Obj) : Buf (w.alloc o) τ t b N:=by
 obtain ⟨l,h1,h2,h3⟩:=h.ex
 exact ⟨l,h1,h2,h3.alloc o⟩
theorem Buf.drewN (h : Buf w τ t b N) (n : Nat) : Buf (w.drewN n) τ t b N:=by
 obtain ⟨l,h1,h2,h3⟩:=h.ex
 exact ⟨l,h1,h2,h3.drewN n⟩
theorem Buf.far (h : Buf w τ t b N) {p : Addr} (hp : b ≠ p.block) (u : Value) : Buf (w.setCell p u) τ t b N:=by
 obtain ⟨l,h1,h2,h3⟩:=h.ex
 exact ⟨l,h1,h2,h3.far hp u⟩
theorem Buf.reown (h : Buf w τ t b N) (hτ : ∀ k,k < w.heap.size -> τ' k = τ k) : Buf w τ' t b N:=by
 obtain ⟨l,h1,h2,h3⟩:=h.ex
 exact ⟨l,h1,h2,h3.reown hτ⟩
theorem Buf.own (h : Buf w τ t b N) : τ b = t:=by
 obtain ⟨l,h1,h2,h3⟩:=h.ex
 exact h3.own
theorem Buf.lt (h : Buf w τ t b N) : b < w.heap.size:=by
 obtain ⟨l,h1,h2,h3⟩:=h.ex
 exact h3.lt
theorem Buf.cell (h : Buf w τ t b N) (i : Nat) (hi : i < N) : ∃ x : Nat,x < 256 /\ w.cell? ⟨b,i,none⟩ = some (.int .u8 (x : Int)):=by
 obtain ⟨l,h1,h2,h3⟩:=h.ex
 refine ⟨l[i]'(by omega),h2 _ (List.getElem_mem _),?_⟩
 rw [h3.cell]
 simp [bv,h1,hi]
theorem Buf.frozen (h : Buf w τ t b N) (i : Nat) : w.frozen? ⟨b,i,none⟩ = false:=by
 obtain ⟨l,h1,h2,h3⟩:=h.ex
 exact h3.frozen i
theorem Buf.set_ (h : Buf w τ t b N) (i : Nat) (hi : i < N) (x : Int) (hx : 0 <= x /\ x < 256) : Buf (w.setCell ⟨b,i,none⟩ (.int .u8 x)) τ t b N:=by
 obtain ⟨l,h1,h2,h3⟩:=h.ex
 refine ⟨l.set i x.toNat,by simp [h1],?_,?_⟩
 ·intro y hy
  rcases List.mem_or_eq_of_mem_set hy with hy | rfl
  ·exact h2 y hy
  ·omega
 ·have:=h3.set_ i (.int .u8 x)
  have e : ((bv l).toArray.setIfInBounds i (.int .u8 x)) = (bv (l.set i x.toNat)).toArray:=by
   apply Array.ext'
   simp [bv,List.map_set]
   congr 2
   omega
  rw [e] at this
  exact this
theorem Buf.part (h : Buf w τ t b N) (o n : Nat) (hn : o + n <= N) : ∃ l : List Nat,l.length = n /\ (∀ x ∈ l,x < 256) /\ Sl w (some ⟨b,o,none⟩) (bv l):=by
 obtain ⟨l,h1,h2,h3⟩:=h.ex
 refine ⟨(l.drop o).take n,by simp;omega,fun x hx=>h2 x (List.mem_of_mem_drop (List.mem_of_mem_take hx)),Sl.of_cells fun j u hu=>?_⟩
 rw [add_none,h3.cell]
 have hj:=(List.getElem?_eq_some_iff.1 hu).1
 simp [bv] at hj
 rw [<- hu]
 simp only [bv,List.getElem?_toArray,List.getElem?_map]
 rw [List.getElem?_take_of_lt (by omega),List.getElem?_drop]
theorem buf_new (w : World) (τ : Own) (t n : Nat) (l : List Nat) (hl : l.length = n) (hb : ∀ x ∈ l,x < 256) : Buf (w.alloc (.cells (bv l).toArray 5)) (ext τ w t) t w.heap.size n:=⟨l,hl,hb,Blk.new _ _ _,ext_new (Nat.le_refl _)⟩
end
def zbuf : Array Value:=(bv (List.replicate 64 0)).toArray
theorem zbuf_new (w : World) (τ : Own) (t : Nat) : Buf (w.alloc (.cells zbuf 5)) (ext τ w t) t w.heap.size 64:=buf_new w τ t 64 _ (by simp) (fun x hx=>by rw [List.eq_of_mem_replicate hx];decide)
theorem zbuf_sl (w : World) : Sl (w.alloc (.cells zbuf 5)) (some ⟨w.heap.size,0,none⟩) (bv (List.replicate 64 0)):=(Blk.new w 5 zbuf).sl
theorem make_zbuf (W : World) : (Instr.makeSlice 74 (.int .i64 64) (.int .i64 64)).run Tryz.prog W = .ok (.slice (some ⟨W.heap.size,0,none⟩) 64 64) (W.alloc (.cells zbuf 5)):=by kernel_rfl
theorem wrap8 (z : Int) : 0 <= IntKind.u8.wrap z /\ IntKind.u8.wrap z < 256:=by
 have h : IntKind.u8.wrap z = z % 256:=by simp [IntKind.wrap,IntKind.bits,IntKind.signed]
 rw [h]
 omega
set_option maxRecDepth 20000 in
theorem put177 (w : World) (τ : Own) (t b o n c N : Nat) (hb : Buf w τ t b N) (hn : o + n <= N) (hn64 : n <= 64) (z : Int) :
 Calls Tryz.prog 177 #[.slice (some ⟨b,o,none⟩) n c,.int .u64 z] w fun e w'=>(∃ v,e = .returned v) /\ Buf w' τ t b N /\ Chg (· = t) w τ w' τ:=by
 have HB:=Lib.hid hb
 clear hb
 go_enter Tryz.func177,Tryz.ntmps177
 go_wp2
 go_loopw [7] (fun i wr=>∃ k : Nat,k <= n /\ i = .int .i64 k /\ Buf wr τ t b N /\ Chg (· = t) w τ wr τ) (fun i _=>n - (intOf i).toNat)
 case atStart=>exact ⟨0,Nat.zero_le _,rfl,HB.out,Chg.refl _ _ _⟩
 case round=>
  obtain ⟨k,hk,rfl,h1,h2⟩:=hrel
  by_cases hlt : k < n
  ·have k1 : (k : Int) < (n : Int):=by omega
   have k2 : (0 : Int) <= (n : Int) - 1 - (k : Int):=by omega
   have k3 : (n : Int) - 1 - (k : Int) < (n : Int):=by omega
   have k6 : (n : Int) <= 64:=by omega
   have k4 : (0 : Int) <= 8 * (k : Int):=by omega
   have k5 : ((n : Int) - 1 - (k : Int)).toNat = n - 1 - k:=by omega
   obtain ⟨x,hx,hc⟩:=h1.cell (o + (n - 1 - k)) (by omega)
   have hf:=h1.frozen (o + (n - 1 - k))
   have H1:=Lib.hid h1
   have H2:=Lib.hid h2
   clear h1 h2
   go_wp2
   go_roundw
   case rel=>exact ⟨k + 1,by omega,by go_num,H1.out.set_ _ (by omega) _ (wrap8 _),H2.out.setCell (p:=⟨b,_,none⟩) H1.out.own _⟩
   case measure=>simp [intOf];omega
  ·obtain rfl : k = n:=by omega
   have H1:=Lib.hid h1
   have H2:=Lib.hid h2
   clear h1 h2
   go_wp2
   refine bodyPost_end (by first | rfl | (simp [results];rfl)) rfl ?_
   exact ⟨⟨_,rfl⟩,H1.out,H2.out⟩
set_option maxRecDepth 20000 in
theorem put246 (w : World) (τ : Own) (t b o n c N : Nat) (hb : Buf w τ t b N) (hn : o + n <= N) (hn64 : n <= 64) (z : Int) :
 Calls Tryz.prog 246 #[.slice (some ⟨b,o,none⟩) n c,.int .u64 z] w fun e w'=>(∃ v,e = .returned v) /\ Buf w' τ t b N /\ Chg (· = t) w τ w' τ:=by
 have HB:=Lib.hid hb
 clear hb
 go_enter Tryz.func246,Tryz.ntmps246
 go_wp2
 go_loopw [7] (fun i wr=>∃ k : Nat,k <= n /\ i = .int .i64 k /\ Buf wr τ t b N /\ Chg (· = t) w τ wr τ) (fun i _=>n - (intOf i).toNat)
 case atStart=>exact ⟨0,Nat.zero_le _,rfl,HB.out,Chg.refl _ _ _⟩
 case round=>
  obtain ⟨k,hk,rfl,h1,h2⟩:=hrel
  by_cases hlt : k < n
  ·have k1 : (k : Int) < (n : Int):=by omega
   have k2 : (0 : Int) <= (n : Int) - 1 - (k : Int):=by omega
   have k3 : (n : Int) - 1 - (k : Int) < (n : Int):=by omega
   have k6 : (n : Int) <= 64:=by omega
   have k4 : (0 : Int) <= 8 * (k : Int):=by omega
   have k5 : ((n : Int) - 1 - (k : Int)).toNat = n - 1 - k:=by omega
   obtain ⟨x,hx,hc⟩:=h1.cell (o + (n - 1 - k)) (by omega)
   have hf:=h1.frozen (o + (n - 1 - k))
   have H1:=Lib.hid h1
   have H2:=Lib.hid h2
   clear h1 h2
   go_wp2
   go_roundw
   case rel=>exact ⟨k + 1,by omega,by go_num,H1.out.set_ _ (by omega) _ (wrap8 _),H2.out.setCell (p:=⟨b,_,none⟩) H1.out.own _⟩
   case measure=>simp [intOf];omega
  ·obtain rfl : k = n:=by omega
   have H1:=Lib.hid h1
   have H2:=Lib.hid h2
   clear h1 h2
   go_wp2
   refine bodyPost_end (by first | rfl | (simp [results];rfl)) rfl ?_
   exact ⟨⟨_,rfl⟩,H1.out,H2.out⟩
theorem copy_buf {P : Program} (w : World) (τ : Own) (t : Nat) (dT sT ty : TypeId) (A off dlen dcap N : Nat) (hA : Buf w τ t A N) (hu : P.underlying dT = some (.slice 5)) (hsz : (P.info? 5).map (·.size) = some 1)
 (B : Option Addr) (m c : Nat) (l : List Nat) (hl : l.length = m) (hb : ∀ x ∈ l,x < 256) (hm : m <= dlen) (hs : Sl w B (bv l)) (hB : B = none -> m = 0 /\ c = 0) (hfit : off + m <= N) :
 ∃ W2,(Builtin.copy_ #[dT,sT] ty #[.slice (some ⟨A,off,none⟩) dlen dcap,.slice B m c]).run P w = .ok (goInt m) W2 /\ Buf W2 τ t A N /\ Chg (· = t) w τ W2 τ:=by
 obtain ⟨cur,h1,h2,h3⟩:=hA.ex
 have hlen : (bv l).length = l.length:=by simp [bv]
 have hcs : (bv cur).toArray.size = N:=by simp [bv,h1]
 obtain ⟨W2,hrun,hA2,hk2,hs2,ho2,ht2,hu2⟩:=copy_to (P:=P) w dT sT ty 5 A off dlen dcap 5 (bv cur).toArray h3.blk hu hsz B m c (bv l) (by rw [hlen];exact hl) hm hs hB (by intro u hu;obtain ⟨x,_,rfl⟩:=List.mem_map.1 hu;rfl) (by rw [hcs];exact hfit)
 refine ⟨W2,hrun,⟨cur.take off ++ l ++ cur.drop (off + l.length),?_,?_,?_,h3.own⟩,(Chg.refl _ _ _).of_row h3.own hk2 hs2 ho2 ht2 hu2⟩
 ·simp;omega
 ·intro x hx
  rcases List.mem_append.1 hx with hx | hx
  ·rcases List.mem_append.1 hx with hx | hx
   ·exact h2 x (List.mem_of_mem_take hx)
   ·exact hb x hx
  ·exact h2 x (List.mem_of_mem_drop hx)
 ·have e : splice (bv cur).toArray off (bv l) = (bv (cur.take off ++ l ++ cur.drop (off + l.length))).toArray:=by
   unfold splice
   apply Array.ext'
   simp [bv,List.map_take,List.map_drop]
  rw [e] at hA2
  exact hA2
theorem copy_buf_min {P : Program} (w : World) (τ : Own) (t : Nat) (dT sT ty : TypeId) (A off dlen dcap N : Nat) (hA : Buf w τ t A N) (hu : P.underlying dT = some (.slice 5)) (hsz : (P.info? 5).map (·.size) = some 1)
 (B : Option Addr) (m c : Nat) (l : List Nat) (hl : l.length = m) (hb : ∀ x ∈ l,x < 256) (hs : Sl w B (bv l)) (hB : B = none -> m = 0 /\ c = 0) (hfit : off + dlen <= N) :
 ∃ W2 n,n <= dlen /\ (Builtin.copy_ #[dT,sT] ty #[.slice (some ⟨A,off,none⟩) dlen dcap,.slice B m c]).run P w = .ok (goInt (n : Nat)) W2 /\ Buf W2 τ t A N /\ Chg (· = t) w τ W2 τ:=by
 by_cases hm : m <= dlen
 ·obtain ⟨W2,h1,h2,h3⟩:=copy_buf (P:=P) w τ t dT sT ty A off dlen dcap N hA hu hsz B m c l hl hb hm hs hB (by omega)
  exact ⟨W2,m,hm,h1,h2,h3⟩
 ·cases B with
  | none=>exact absurd (hB rfl).1 (by omega)
  | some a=>
   obtain ⟨cur,h1,h2,h3⟩:=hA.ex
   have hcs : (bv cur).toArray.size = N:=by simp [bv,h1]
   have hlt : (bv (l.take dlen)).length = dlen:=by simp [bv];omega
   have hcells : ∀ j v,(bv (l.take dlen))[j]? = some v -> w.cell? (a.add j) = some v:=by
    intro j u hu'
    have hj:=(List.getElem?_eq_some_iff.1 hu').1
    rw [hlt] at hj
    obtain ⟨b,o,h,hc⟩:=hs (by intro e;have:=congrArg List.length e;simp [bv] at this;subst this;simp at hl;omega)
    injection h with h
    subst h
    rw [add_none]
    refine hc j u ?_
    rw [<- hu']
    unfold bv
    rw [List.getElem?_map,List.getElem?_map,List.getElem?_take_of_lt hj]
   have hrun:=run_copy_row P w dT sT ty 5 A off dlen dcap a m c (bv cur).toArray 5 (bv (l.take dlen)) hu hsz h3.blk (by rw [hlt];exact (Nat.min_eq_right (by omega)).symm) hcells (by rw [hlt,hcs];exact hfit) (by intro u hu;obtain ⟨x,_,rfl⟩:=List.mem_map.1 hu;rfl)
   rw [hlt] at hrun
   refine ⟨_,dlen,Nat.le_refl _,hrun,⟨cur.take off ++ l.take dlen ++ cur.drop (off + dlen),?_,?_,?_,h3.own⟩,(Chg.refl _ _ _).of_row h3.own ?_ ?_ rfl rfl rfl⟩
   ·simp;omega
   ·intro x hx
    rcases List.mem_append.1 hx with hx | hx
    ·rcases List.mem_append.1 hx with hx | hx
     ·exact h2 x (List.mem_of_mem_take hx)
     ·exact hb x (List.mem_of_mem_take hx)
    ·exact h2 x (List.mem_of_mem_drop hx)
   ·have:=setRow_heap w A (bv cur).toArray ((bv cur).toArray.toList.take off ++ bv (l.take dlen) ++ (bv cur).toArray.toList.drop (off + dlen)).toArray 5 (0,0) h3.blk
    have e : ((bv cur).toArray.toList.take off ++ bv (l.take dlen) ++ (bv cur).toArray.toList.drop (off + dlen)).toArray = (bv (cur.take off ++ l.take dlen ++ cur.drop (off + dlen))).toArray:=by
     apply Array.ext'
     simp [bv,List.map_take,List.map_drop]
    rw [<- e]
    exact this
   ·intro k hk
    simp [World.setRow,Array.getElem?_modify,Ne.symm hk]
   ·simp [World.setRow]
end Go.Proofs.Ytlhekbjidppijaa
namespace Go.Proofs.Ytlhekbjidppijaa
open Go.RowKit
def SuS (s d at_ : Nat) (W : World) : Prop:=W.cell? ⟨s,0,none⟩ = some (.pointer (some ⟨d,0,none⟩)) /\ W.cell? ⟨s,1,none⟩ = some (.int .i64 (at_ : Int))
structure SuperAt (w : World) (τ : Own) (t s d at_ tn sl : Nat) : Prop where
 ex : ∃ A m c,Has w τ t s 238 #[.pointer (some ⟨d,0,none⟩),.int .i64 (at_ : Int),.int .i64 (tn : Int),.slice A m c,.int .i64 (sl : Int)]
theorem SuperAt.keep {T : Nat -> Prop} {w w' : World} {τ τ' : Own} {t s d at_ tn sl : Nat} (h : SuperAt w τ t s d at_ tn sl) (hc : Chg T w τ w' τ') (ht : ¬ T t) : SuperAt w' τ' t s d at_ tn sl:=by
 obtain ⟨A,m,c,h1⟩:=h.ex
 exact ⟨A,m,c,h1.keep hc ht⟩
theorem DevAt.keep {T : Nat -> Prop} {w w' : World} {τ τ' : Own} {t p n : Nat} {Z : Nat -> Prop} (h : DevAt w τ t p n Z) (hc : Chg T w τ w' τ') (ht : ¬ T t) : DevAt w' τ' t p n Z:=by
 obtain ⟨A,calls,cells,h1,h2,h3⟩:=h.ex
 exact ⟨A,calls,cells,h1.keep hc ht,h2.keep hc ht,h3⟩
theorem DevAt.drewN {w : World} {τ : Own} {t p n : Nat} {Z : Nat -> Prop} (h : DevAt w τ t p n Z) (k : Nat) : DevAt (w.drewN k) τ t p n Z:=by
 obtain ⟨A,calls,cells,h1,h2,h3⟩:=h.ex
 exact ⟨A,calls,cells,h1.drewN k,h2.drewN k,h3⟩
theorem DevAt.less {w : World} {τ : Own} {t p n : Nat} {Z Z' : Nat -> Prop} (h : DevAt w τ t p n Z) (hZ : ∀ k,Z' k -> Z k) : DevAt w τ t p n Z':=by
 obtain ⟨A,calls,cells,h1,h2,h3⟩:=h.ex
 exact ⟨A,calls,cells,h1,h2,h3.byte,h3.loose,fun i hi hz=>h3.zero i hi (hZ i hz)⟩
theorem Sl.other {T : Nat -> Prop} {w w' : World} {τ τ' : Own} {A : Option Addr} {xs : List Value} (h : Sl w A xs) (hc : Chg T w τ w' τ') (ha : ∀ a,A = some a -> a.block < w.heap.size /\ ¬ T (τ a.block)) : Sl w' A xs:=by
 intro hne
 obtain ⟨b,off,rfl,hcs⟩:=h hne
 obtain ⟨h1,h2⟩:=ha _ rfl
 exact ⟨b,off,rfl,fun j u hu=>(World.cell?_of_block (a:=⟨b,off + j,none⟩) (hc.block b h1 h2)).trans (hcs j u hu)⟩
theorem Sl.set_ {w : World} {A : Option Addr} {xs : List Value} (h : Sl w A xs) {p : Addr} (ha : ∀ a,A = some a -> a.block ≠ p.block) (u : Value) : Sl (w.setCell p u) A xs:=by
 intro hne
 obtain ⟨b,off,rfl,hcs⟩:=h hne
 refine ⟨b,off,rfl,fun j v hv=>?_⟩
 rw [World.cell?_setCell_other _ _ _ _ (by rintro rfl;exact ha _ rfl rfl)]
 exact hcs j v hv
theorem DevAt.far {w : World} {τ : Own} {t p n : Nat} {Z : Nat -> Prop} (h : DevAt w τ t p n Z) {q : Addr} (hq : τ q.block ≠ t) (u : Value) : DevAt (w.setCell q u) τ t p n Z:=by
 obtain ⟨A,calls,cells,h1,h2,h3⟩:=h.ex
 exact ⟨A,calls,cells,h1.far (by rintro rfl;exact hq h1.own) u,h2.far (by rintro rfl;exact hq h2.own) u,h3⟩
theorem Chg.same_own {w w' : World} {τ : Own} (h : Below w.heap.size w w') : Chg (fun _=>False) w τ w' τ:=⟨h.os,h.tape,h.output,h.size,fun k hk _=>h.block k hk,fun _ _=>rfl⟩
theorem DevAt.own {w : World} {τ : Own} {t p n : Nat} {Z : Nat -> Prop} (h : DevAt w τ t p n Z) : p < w.heap.size /\ τ p = t:=by
 obtain ⟨A,calls,cells,h1,h2,h3⟩:=h.ex
 exact ⟨h1.lt,h1.own⟩
set_option maxRecDepth 20000 in
set_option maxHeartbeats 1000000 in
theorem super134 (w : World) (τ : Own) (t s d at_ tn sl td n : Nat) (Z Z' : Nat -> Prop) (hS : SuperAt w τ t s d at_ tn sl) (hD : DevAt w τ td d n Z) (hne : t ≠ td) (hn : n <= 2048) (slot tn' : Nat) (hat : at_ + slot < n) (htn : tn' <= 1000000)
 (hZ : ∀ k,Z' k -> Z k /\ k ≠ at_ + slot) (A : Option Addr) (m c : Nat) (l : List Nat) (hl : l.length = m) (hlb : ∀ x ∈ l,x < 256) (hm : m <= 40) (hs : Sl w A (bv l)) (hA : A = none -> m = 0 /\ c = 0) (hAt : ∀ a,A = some a -> a.block < w.heap.size /\ τ a.block ≠ td) :
 Calls Tryz.prog 134 #[.pointer (some ⟨s,0,none⟩),.int .i64 (slot : Int),.int .i64 (tn' : Int),.slice A m c] w fun e w'=>e = .returned (.int .i64 0) /\ ∃ τ',SuperAt w' τ' t s d at_ tn' slot /\ DevAt w' τ' td d n Z' /\ Chg (fun x=>x = t \/ x = td) w τ w' τ':=by
 obtain ⟨tA,tm,tc,h1⟩:=hS.ex
 obtain ⟨x,hx⟩:=fresh w τ
 have hxt : x ≠ t:=by rintro rfl;exact hx _ h1.lt h1.own
 have hxd : x ≠ td:=by rintro rfl;exact hx _ hD.own.1 hD.own.2
 obtain ⟨b,hb⟩ : ∃ b,b = w.heap.size:=⟨_,rfl⟩
 obtain ⟨τ1,hτ1⟩ : ∃ τ1,τ1 = ext τ w x:=⟨_,rfl⟩
 obtain ⟨W1,hW1⟩ : ∃ W,W = w.alloc (.cells zbuf 5):=⟨_,rfl⟩
 have hmk : ∀ W : World,(Instr.makeSlice 74 (.int .i64 64) (.int .i64 64)).run Tryz.prog W = .ok (.slice (some ⟨W.heap.size,0,none⟩) 64 64) (W.alloc (.cells zbuf 5)):=make_zbuf
 have HB1 : Hid (Buf W1 τ1 x b 64):=Lib.hid (by rw [hW1,hτ1,hb];exact zbuf_new w τ x)
 have HC1 : Hid (Chg (fun _=>False) w τ W1 τ1):=Lib.hid (by rw [hW1,hτ1];exact ((Chg.refl _ w τ).alloc _).ext x)
 have HH:=Lib.hid (h1.keep HC1.out id)
 have HD:=Lib.hid (hD.keep HC1.out id)
 have HS1 : Hid (Sl W1 A (bv l)):=Lib.hid (hs.keep (HC1.out.below))
 have HAt : Hid (∀ a,A = some a -> a.block < w.heap.size /\ τ1 a.block ≠ td):=Lib.hid (fun a ha=>⟨(hAt a ha).1,by rw [HC1.out.own _ (hAt a ha).1];exact (hAt a ha).2⟩)
 have HX:=Lib.hid hx
 have HS0:=Lib.hid hs
 have HAt0 : Hid (∀ a,A = some a -> a.block < w.heap.size /\ ¬ (τ a.block = x \/ τ a.block = td)):=Lib.hid (fun a ha=>⟨(hAt a ha).1,fun h=>h.elim (hx _ (hAt a ha).1) (hAt a ha).2⟩)
 have k1 : (0 : Int) <= (m : Int):=by omega
 have k2 : (m : Int) <= 40:=by omega
 have k3 : ¬ ((tn' : Int) < 0):=by omega
 clear h1 hS hD hs hAt hx
 go_enter Tryz.func134,Tryz.ntmps134
 go_wp2_with fail
 rw [<- hW1,<- hb]
 refine (put177 W1 τ1 x b 4 8 60 64 HB1.out (by decide) (by decide) _).mono ?_
 rintro e W2 ⟨⟨v2,rfl⟩,hb2,hc2⟩
 obtain ⟨y12,hy12,hcell12⟩:=hb2.cell 12 (by decide)
 have hf12:=hb2.frozen 12
 have HB2:=Lib.hid hb2
 have HC2:=Lib.hid hc2
 clear hb2 hc2 hW1 hb hτ1
 have hu8 : (0 : Int) <= (m : Int) /\ (m : Int) < 256:=by omega
 obtain ⟨W3,hrun,hb3,hc3⟩:=copy_buf (P:=Tryz.prog) (W2.setCell ⟨b,12,none⟩ (.int .u8 (m : Int))) τ1 x 74 74 3 b 13 51 51 64 (HB2.out.set_ 12 (by decide) _ hu8) (by kernel_rfl) (by kernel_rfl) A m c l hl hlb (by omega) (Sl.set_ (HS1.out.other HC2.out (fun a ha=>⟨by have:=(HAt.out a ha).1;have:=HC1.out.size;omega,by intro e;exact HX.out _ (HAt.out a ha).1 ((HC1.out.own _ (HAt.out a ha).1).symm.trans e)⟩)) (fun a ha e=>HX.out _ (HAt.out a ha).1 (by rw [<- HC1.out.own _ (HAt.out a ha).1];show τ1 a.block = x;rw [e];exact HB2.out.own)) _) hA (by omega)
 have HB3:=Lib.hid hb3
 have HC3 : Hid (Chg (· = x) W1 τ1 W3 τ1):=Lib.hid ((HC2.out.setCell (p:=⟨b,12,none⟩) HB2.out.own _).trans hc3)
 clear hb3 hc3 HC2 HB2 hu8
 go_wp2_with fail
 clear hcell12 hf12 hrun
 have HBF:=Lib.hid (HB3.out.drewN 1)
 refine wp_region_hl [4,5] [0,1,2,3,4,5,6] (fun _=>True) (by kernel_rfl) (by kernel_rfl) trivial ?_
 iterate 4 (refine hd_take (v:=?_) rfl rfl (by kernel_rfl) (fun W hW=>?_) ?_;rotate_left;(first | (go_simp;done) | (go_simp;with_reducible rfl)))
 refine hd_loud rfl rfl fun K hK=>?_
 go_simp
 refine hK _ _ trivial ?_
 clear hK
 refine hd_loud rfl rfl fun K hK=>?_
 go_simp
 obtain ⟨ll,l1,l2,l3⟩:=HBF.out.part 4 60 (by decide)
 refine (sum_any (some ⟨W3.heap.size,0,none⟩) 1 1 [⟨some ⟨b,4,none⟩,60,ll⟩] _ ?_ rfl (by decide) ?_).mono ?_
 ·simp only [List.map_cons,List.map_nil,Part.val,l1];exact ((Blk.new W3 74 #[.slice (some ⟨b,4,none⟩) 60 60]).drewN 1).sl
 ·intro p hp;rw [List.mem_singleton.1 hp];exact ⟨l3.keep ((Below.refl _ _).alloc (Nat.le_refl _) _),by rw [l1];decide,l2⟩
 rintro e w1 ⟨rfl,rfl⟩
 refine hK _ _ trivial ?_
 clear hK l1 l2 l3
 refine hd_take (v:=?_) rfl rfl (by kernel_rfl) (fun W hW=>?_) ?_;rotate_left;(first | (go_simp;done) | (go_simp;with_reducible rfl))
 refine hd_end ?_
 simp only [List.length_cons,List.length_nil,List.drop_succ_cons,List.drop_zero,Nat.zero_add,Nat.reduceAdd]
 go_wp2_with (go_at_call 177;fail)
 refine (put177 _ τ1 x b 0 4 64 64 (HBF.out.alloc _) (by decide) (by decide) _).mono ?_
 rintro e wx0 ⟨⟨v,rfl⟩,hb4,hc4⟩
 have HB4:=Lib.hid hb4
 have HC4 : Hid (Chg (· = x) W1 τ1 wx0 τ1):=Lib.hid (HC3.out.trans (((Chg.refl (· = x) W3 τ1).drew.alloc _).trans hc4))
 clear hb4 hc4
 have b1 : (at_ : Int) <= 2048:=by omega
 have b2 : (slot : Int) <= 2048:=by omega
 have HH4:=Lib.hid (HH.out.keep HC4.out (Ne.symm hxt))
 have HD4:=Lib.hid (HD.out.keep HC4.out (Ne.symm hxd))
 have HAT : Hid ((at_ : Int) + (slot : Int) = ((at_ + slot : Nat) : Int)):=Lib.hid (by omega)
 go_wp2_with fail
 have HW : Hid (Calls Tryz.prog 132 #[.pointer (some ⟨d,0,none⟩),.int .i64 ((at_ : Int) + (slot : Int)),.slice (some ⟨b,0,none⟩) 64 64] wx0.drew fun e w'=>e = .returned (.int .i64 0) /\ DevAt w' τ1 td d n Z' /\ Chg (· = td) wx0.drew τ1 w' τ1):=Lib.hid (by
  obtain ⟨lx,lx1,lx2,lx3⟩:=(HB4.out.drewN 1).part 0 64 (by decide)
  rw [HAT.out]
  exact write_any wx0.drew τ1 td d n Z Z' (HD4.out.drewN 1) (at_ + slot) hat (some ⟨b,0,none⟩) 64 64 lx lx1 (by decide) lx2 lx3 (by intro e;cases e) (fun k hk=>⟨(hZ k hk).1,fun e=>absurd e (hZ k hk).2⟩))
 have S6 : Hid (SuS s d at_ wx0.drew):=Lib.hid ⟨(HH4.out.drewN 1).cell 0,(HH4.out.drewN 1).cell 1⟩
 refine wp_region_hl [] [0,1,2,3,4,5,6,7,8,9,10] (SuS s d at_) (by kernel_rfl) (by kernel_rfl) S6.out ?_
 iterate 11 (refine hd_take (v:=?_) rfl rfl (by kernel_rfl) (fun W hW=>?_) ?_;rotate_left;(obtain ⟨r0,r1⟩:=hW;first | (go_simp;done) | (go_simp;with_reducible rfl)))
 refine hd_end ?_
 simp only [List.length_cons,List.length_nil,List.drop_succ_cons,List.drop_zero,Nat.zero_add,Nat.reduceAdd]
 go_wp2_with (go_at_call 132;fail)
 refine HW.out.mono ?_
 rintro e wx ⟨rfl,hd6,hc6⟩
 have HD6:=Lib.hid hd6
 have HC6:=Lib.hid hc6
 have HH6:=Lib.hid ((HH4.out.drewN 1).keep hc6 hne)
 have e0:=HH6.out.cell 0
 have C6 : Hid (Chg (fun y=>y = x \/ y = td) w τ wx τ1):=Lib.hid (((HC1.out.mono (T':=fun y=>y = x \/ y = td) (fun _ h=>h.elim)).trans (HC4.out.mono (T':=fun y=>y = x \/ y = td) (fun _ h=>.inl h))).drew.trans (hc6.mono (T':=fun y=>y = x \/ y = td) (fun _ h=>.inr h)))
 clear hd6 hc6 S6
 go_wp2_with fail
 refine (flush_any wx τ1 td d n Z' HD6.out hn).mono ?_
 rintro e w7 ⟨rfl,hd7,hc7⟩
 have HD7:=Lib.hid hd7
 have HH7:=Lib.hid (HH6.out.keep hc7 hne)
 have C7 : Hid (Chg (fun y=>y = x \/ y = td) w τ w7 τ1):=Lib.hid (C6.out.trans (hc7.mono (T':=fun y=>y = x \/ y = td) (fun _ h=>.inr h)))
 clear hd7 hc7 e0
 go_wp2_with fail
 refine (clone172 w7 A m c (bv l) (by simp [bv,hl]) (HS0.out.other C7.out HAt0.out) ?_ (fun e=>(hA e).1) (by omega)).mono ?_
 ·intro u hu
  obtain ⟨x,_,rfl⟩:=List.mem_map.1 hu
  rfl
 rintro e w8 ⟨v8,rfl,ho8,hb8⟩
 obtain ⟨A8,c8,rfl,_,_,_,_⟩:=Sl.of_own ho8
 have hc8:=Chg.same_own (τ:=τ1) hb8
 have HH8:=Lib.hid (HH7.out.keep hc8 id)
 have HD8:=Lib.hid (HD7.out.keep hc8 id)
 have C8 : Hid (Chg (fun y=>y = x \/ y = td) w τ w8 τ1):=Lib.hid (C7.out.trans (hc8.mono (fun _ h=>h.elim)))
 have e2:=HH8.out.cell 2
 have e3:=HH8.out.cell 3
 have e4:=HH8.out.cell 4
 have g2:=HH8.out.frozen 2
 have g3:=HH8.out.frozen 3
 have g4:=HH8.out.frozen 4
 have HN : Hid (t ≠ td):=Lib.hid hne
 clear ho8 hb8 hc8 hne
 go_wp2
 go_ret
 have hs8:=HH8.out.own
 refine ⟨rfl,τ1,⟨A8,m,c8,((HH8.out.set_ 4 _).set_ 2 _).set_ 3 _⟩,?_,?_⟩
 ·exact ((HD8.out.far (q:=⟨s,4,none⟩) (fun e=>HN.out (hs8.symm.trans e)) _).far (q:=⟨s,2,none⟩) (fun e=>HN.out (hs8.symm.trans e)) _).far (q:=⟨s,3,none⟩) (fun e=>HN.out (hs8.symm.trans e)) _
 ·have:=(((C8.out.mono (T':=fun y=>y = x \/ y = t \/ y = td) (fun y h=>h.elim .inl (fun h=>.inr (.inr h)))).setCell (p:=⟨s,4,none⟩) (.inr (.inl hs8)) (.int .i64 (slot : Int))).setCell (p:=⟨s,2,none⟩) (.inr (.inl hs8)) (.int .i64 (tn' : Int))).setCell (p:=⟨s,3,none⟩) (.inr (.inl hs8)) (.slice A8 m c8)
  exact this.fresh (fun i hi h=>h.elim (fun e=>absurd e (HX.out i hi)) id)
end Go.Proofs.Ytlhekbjidppijaa
namespace Go.Proofs.Ytlhekbjidppijaa
open Go.RowKit
def Su2 (s sl tn : Nat) (W : World) : Prop:=W.cell? ⟨s,4,none⟩ = some (.int .i64 (sl : Int)) /\ W.cell? ⟨s,2,none⟩ = some (.int .i64 (tn : Int))
theorem there131 (w : World) (τ : Own) (td d n : Nat) (Z : Nat -> Prop) (h : DevAt w τ td d n Z) (at_ : Nat) (hat : at_ + 1 < n) (hn : n <= 2048) :
 Calls Tryz.prog 131 #[.pointer (some ⟨d,0,none⟩),.int .i64 (at_ : Int)] w fun e w'=>e = .returned (.bool true) /\ w' = w:=by
 have k1 : (0 : Int) <= (at_ : Int):=by omega
 have k2 : (at_ : Int) < (n : Int) - 1:=by omega
 have k3 : (n : Int) <= 2048:=by omega
 have HD:=Lib.hid h
 clear h
 go_enter Tryz.func131,Tryz.ntmps131
 go_wp2_with fail
 refine (len_any w τ td d n Z HD.out).mono ?_
 rintro e w' ⟨rfl,rfl⟩
 go_wp2
 go_ret
 exact ⟨rfl,rfl⟩
set_option maxRecDepth 20000 in
theorem make100 (w : World) (τ : Own) (t at_ td d n : Nat) (Z Z' : Nat -> Prop) (hD : DevAt w τ td d n Z) (hne : t ≠ td) (hn : n <= 2048) (hat : at_ + 1 < n)
 (hZ : ∀ k,Z' k -> Z k /\ k ≠ at_) (A : Option Addr) (m c : Nat) (l : List Nat) (hl : l.length = m) (hlb : ∀ x ∈ l,x < 256) (hm : m <= 40) (hs : Sl w A (bv l)) (hA : A = none -> m = 0 /\ c = 0) (hAt : ∀ a,A = some a -> a.block < w.heap.size /\ τ a.block ≠ td) :
 Calls Tryz.prog 100 #[.pointer (some ⟨d,0,none⟩),.int .i64 (at_ : Int),.slice A m c] w fun e w'=>∃ s τ',e = .returned (.tuple #[.pointer (some ⟨s,0,none⟩),.int .i64 0]) /\ SuperAt w' τ' t s d at_ 1 0 /\ DevAt w' τ' td d n Z' /\ Chg (fun x=>x = t \/ x = td) w τ w' τ' /\ w.heap.size <= s:=by
 have HD:=Lib.hid hD
 have HS:=Lib.hid hs
 have HAt:=Lib.hid hAt
 have k1 : ¬ ((40 : Int) < (m : Int)):=by omega
 clear hD hs hAt
 go_enter Tryz.func100,Tryz.ntmps100
 go_wp2_with fail
 refine (there131 w τ td d n Z HD.out at_ hat hn).mono ?_
 rintro e w' ⟨rfl,rfl⟩
 go_wp2
 go_loopw [24] (fun i wr=>∃ k : Nat,k <= 2 /\ i = .int .i64 k /\ DevAt wr τ td d n Z /\ Chg (· = td) w' τ wr τ) (fun i _=>2 - (intOf i).toNat)
 case atStart=>exact ⟨0,by decide,rfl,HD.out,Chg.refl _ _ _⟩
 case round=>
  obtain ⟨k,hk,rfl,h1,h2⟩:=hrel
  by_cases hlt : k < 2
  ·have HD1:=Lib.hid h1
   have HC1:=Lib.hid h2
   clear h1 h2
   have k2 : (k : Int) < 2:=by omega
   have k3 : (0 : Int) <= (at_ : Int) + (k : Int):=by omega
   have k4 : (at_ : Int) + (k : Int) <= 4096:=by omega
   have HK : Hid ((at_ : Int) + (k : Int) = ((at_ + k : Nat) : Int)):=Lib.hid (by omega)
   have hmk:=make_zbuf wr
   have HD2 : Hid (DevAt (wr.alloc (.cells zbuf 5)) τ td d n Z):=Lib.hid (HD1.out.keep ((Chg.refl (fun _=>False) wr τ).alloc _) id)
   have hb:=zbuf_sl wr
   go_wp2_with fail
   rw [HK.out]
   refine (write_any _ τ td d n Z Z HD2.out (at_ + k) (by omega) (some ⟨wr.heap.size,0,none⟩) 64 64 (List.replicate 64 0) (by simp) (by decide) (fun x hx=>by rw [List.eq_of_mem_replicate hx];decide) hb (by intro e;cases e) (fun k hk=>⟨hk,fun _ x hx=>List.eq_of_mem_replicate hx⟩)).mono ?_
   rintro e w2 ⟨rfl,hd2,hc2⟩
   have HD3:=Lib.hid hd2
   have HC3 : Hid (Chg (· = td) w' τ w2 τ):=Lib.hid ((HC1.out.alloc _).trans hc2)
   clear hd2 hc2 hb hmk
   go_wp2
   go_roundw
   case rel=>exact ⟨k + 1,by omega,by go_num,HD3.out,HC3.out⟩
   case measure=>simp [intOf];omega
  ·obtain rfl : k = 2:=by omega
   have HD1:=Lib.hid h1
   have HC1:=Lib.hid h2
   clear h1 h2
   go_wp2_with fail
   refine (flush_any wr τ td d n Z HD1.out hn).mono ?_
   rintro e w2 ⟨rfl,hd2,hc2⟩
   have HD2:=Lib.hid hd2
   have HC2 : Hid (Chg (· = td) w' τ w2 τ):=Lib.hid (HC1.out.trans hc2)
   clear hd2 hc2
   go_wp2_with fail
   have HC3 : Hid (Chg (fun _=>False) w2 τ (w2.alloc (.cells #[.pointer (some ⟨d,0,none⟩),.int .i64 (at_ : Int),.int .i64 0,.slice none 0 0,.int .i64 0] 238)) (ext τ w2 t)):=Lib.hid (((Chg.refl _ w2 τ).alloc _).ext t)
   have C:=HC2.out.trans (HC3.out.mono (fun _ h=>h.elim))
   refine (super134 _ (ext τ w2 t) t w2.heap.size d at_ 0 0 td n Z Z' ⟨none,0,0,Blk.new _ _ _,ext_new (Nat.le_refl _)⟩ (HD2.out.keep HC3.out id) hne hn 0 1 (by omega) (by decide) hZ A m c l hl hlb hm (HS.out.other C (fun a ha=>HAt.out a ha)) hA (fun a ha=>⟨Nat.lt_of_lt_of_le (HAt.out a ha).1 C.size,by rw [C.own _ (HAt.out a ha).1];exact (HAt.out a ha).2⟩)).mono ?_
   rintro e w4 ⟨rfl,τ4,hs4,hd4,hc4⟩
   have HF:=Lib.hid (And.intro hs4 (And.intro hd4 (And.intro ((C.mono (T':=fun x=>x = t \/ x = td) (fun _ h=>.inr h)).trans hc4) C.size)))
   have HSZ : Hid (w'.heap.size <= w2.heap.size):=Lib.hid HC2.out.size
   clear hs4 hd4 hc4 C
   go_wp2
   go_ret2
   exact ⟨w2.heap.size,τ4,rfl,HF.out.1,HF.out.2.1,HF.out.2.2.1,HSZ.out⟩
set_option maxRecDepth 20000 in
set_option maxHeartbeats 1000000 in
theorem save185 (w : World) (τ : Own) (t s d at_ tn sl td n : Nat) (Z Z' : Nat -> Prop) (hS : SuperAt w τ t s d at_ tn sl) (hD : DevAt w τ td d n Z) (hne : t ≠ td) (hn : n <= 2048) (hat : at_ + 1 < n) (htn : tn + 1 <= 1000000) (hsl : sl <= 1)
 (hZ : ∀ k,Z' k -> Z k /\ k ≠ at_ /\ k ≠ at_ + 1) (A : Option Addr) (m c : Nat) (l : List Nat) (hl : l.length = m) (hlb : ∀ x ∈ l,x < 256) (hm : m <= 40) (hs : Sl w A (bv l)) (hA : A = none -> m = 0 /\ c = 0) (hAt : ∀ a,A = some a -> a.block < w.heap.size /\ τ a.block ≠ td) :
 Calls Tryz.prog 185 #[.pointer (some ⟨s,0,none⟩),.slice A m c] w fun e w'=>e = .returned (.int .i64 0) /\ ∃ τ',SuperAt w' τ' t s d at_ (tn + 1) (1 - sl) /\ DevAt w' τ' td d n Z' /\ Chg (fun x=>x = t \/ x = td) w τ w' τ':=by
 have k1 : ¬ ((40 : Int) < (m : Int)):=by omega
 have HW : Hid (Calls Tryz.prog 134 #[.pointer (some ⟨s,0,none⟩),.int .i64 ((1 - sl : Nat) : Int),.int .i64 ((tn + 1 : Nat) : Int),.slice A m c] w.drew fun e w'=>e = .returned (.int .i64 0) /\ ∃ τ',SuperAt w' τ' t s d at_ (tn + 1) (1 - sl) /\ DevAt w' τ' td d n Z' /\ Chg (fun x=>x = t \/ x = td) w.drew τ w' τ'):=Lib.hid (by
  obtain ⟨A',m',c',h1⟩:=hS.ex
  exact super134 w.drew τ t s d at_ tn sl td n Z Z' ⟨A',m',c',h1.drewN 1⟩ (hD.drewN 1) hne hn (1 - sl) (tn + 1) (by omega) htn (fun k hk=>⟨(hZ k hk).1,by have:=hZ k hk;omega⟩) A m c l hl hlb hm (hs.other ((Chg.refl (fun _=>False) w τ).drew) (fun a ha=>⟨(hAt a ha).1,id⟩)) hA hAt)
 obtain ⟨A',m',c',h1⟩:=hS.ex
 have S0 : Hid (Su2 s sl tn w.drew):=Lib.hid ⟨(h1.drewN 1).cell 4,(h1.drewN 1).cell 2⟩
 have x1 : IntKind.i64.wrap (1 - (sl : Int)) = ((1 - sl : Nat) : Int):=by rw [IntWalk.i64_in _ ⟨by omega,by omega⟩];omega
 have x2 : IntKind.i64.wrap ((tn : Int) + 1) = ((tn + 1 : Nat) : Int):=by rw [IntWalk.i64_in _ ⟨by omega,by omega⟩];omega
 clear hS hD hs hAt h1
 go_enter Tryz.func185,Tryz.ntmps185
 go_wp2_with fail
 refine wp_region_hl [] [0,1,2,3,4,5,6,7,8,9,10,11] (Su2 s sl tn) (by kernel_rfl) (by kernel_rfl) S0.out ?_
 iterate 12 (refine hd_take (v:=?_) rfl rfl (by kernel_rfl) (fun W hW=>?_) ?_;rotate_left;(obtain ⟨r0,r1⟩:=hW;first | (go_simp;done) | (go_simp;with_reducible rfl)))
 refine hd_end ?_
 simp only [List.length_cons,List.length_nil,List.drop_succ_cons,List.drop_zero,Nat.zero_add,Nat.reduceAdd]
 go_wp2_with (go_at_call 134;fail)
 refine HW.out.mono ?_
 rintro e w1 ⟨rfl,τ1,hs1,hd1,hc1⟩
 have HM:=Lib.hid (And.intro hs1 (And.intro hd1 hc1))
 clear hs1 hd1 hc1
 go_wp2
 go_ret
 obtain ⟨q1,q2,q3⟩:=HM.out
 exact ⟨rfl,τ1,q1,q2,⟨q3.os,q3.tape,q3.output,q3.size,q3.block,q3.own⟩⟩
end Go.Proofs.Ytlhekbjidppijaa
