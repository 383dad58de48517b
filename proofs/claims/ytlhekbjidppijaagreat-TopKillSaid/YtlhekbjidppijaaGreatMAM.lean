/- Contracts of functions that the Top rows reach, and plain laws for them: what each returns and what it leaves in memory. Conditions: those that each theorem names. -/
import Derived.Test.YtlhekbjidppijaaGreatMAJ
import Derived.Test.YtlhekbjidppijaaGreatMAL
set_option linter.unusedVariables false
set_option linter.unusedSimpArgs false
namespace Go.Proofs.Ytlhekbjidppijaa
open Go.RowKit
structure MEx (W0 : World) (k v : ByteArray) (gn : Nat) (L : Nat -> Bool) (u23 u24 u28 u29 : Value) (wx : World) (τ : Own) : Prop where
 z : ∀ i,i < W0.heap.size -> τ i = 0
 chg : Chg (fun t=>t = 1 \/ t = 2) W0 τ wx τ
 m5 : L 5 = true -> ∃ g1,u23 = .slice (some ⟨g1,0,none⟩) 2 2 /\ Has wx τ 2 g1 9 #[.string k,.string v]
 m6 : L 6 = true -> L 11 = false -> Rw wx τ 1 5 1 u24 (tsum [k,v]) (tbs [k,v])
 m10 : L 10 = true -> ∃ g1,u28 = .slice (some ⟨g1,0,none⟩) 2 2 /\ Has wx τ 2 g1 2 #[.int .i64 0,.int .i64 (gn : Int)]
 m11 : L 11 = true -> Rw wx τ 1 5 1 u29 (tsum [k,v] + 2) (tbs [k,v] ++ nbs [0,gn])
structure ME (W0 : World) (g : Nat) (k v : ByteArray) (gn : Nat) (gb : Bool) (L : Nat -> Bool) (u3 u23 u24 u28 u29 : Value) (wx : World) : Prop where
 blk : Blk wx g 178 #[.string k,.string v,.int .i64 0,.bool gb]
 z : L 0 = false -> u3 = .slice none 0 0
 o6 : L 6 = true -> L 0 = true
 o11 : L 11 = true -> L 6 = true
 lt : g < W0.heap.size
 o12 : L 12 = true -> L 11 = true /\ u3 = u29
 ex : ∃ τ : Own,MEx W0 k v gn L u23 u24 u28 u29 wx τ
section
variable {W0 : World} {g : Nat} {k v : ByteArray} {gn : Nat} {gb : Bool} {L : Nat -> Bool} {u3 u23 u24 u28 u29 : Value} {wx : World}
theorem ME.c0 (h : ME W0 g k v gn gb L u3 u23 u24 u28 u29 wx) : wx.cell? ⟨g,0,none⟩ = some (.string k):=h.blk.cell 0
theorem ME.c1 (h : ME W0 g k v gn gb L u3 u23 u24 u28 u29 wx) : wx.cell? ⟨g,1,none⟩ = some (.string v):=h.blk.cell 1
theorem ME.c2 (h : ME W0 g k v gn gb L u3 u23 u24 u28 u29 wx) : wx.cell? ⟨g,2,none⟩ = some (.int .i64 0):=h.blk.cell 2
theorem ME.at5 (h : ME W0 g k v gn gb L u3 u23 u24 u28 u29 wx) (h5 : L 5 = true) : ∃ τ : Own,MEx W0 k v gn L u23 u24 u28 u29 wx τ /\ ∃ g1,u23 = .slice (some ⟨g1,0,none⟩) 2 2 /\ Has wx τ 2 g1 9 #[.string k,.string v]:=by
 obtain ⟨τ,h1⟩:=h.ex
 exact ⟨τ,h1,h1.m5 h5⟩
theorem ME.at10 (h : ME W0 g k v gn gb L u3 u23 u24 u28 u29 wx) (h6 : L 6 = true) (h10 : L 10 = true) (h11 : L 11 = false) : ∃ τ : Own,MEx W0 k v gn L u23 u24 u28 u29 wx τ /\ ∃ g1,u28 = .slice (some ⟨g1,0,none⟩) 2 2 /\ Has wx τ 2 g1 2 #[.int .i64 0,.int .i64 (gn : Int)] /\ Rw wx τ 1 5 1 u24 (tsum [k,v]) (tbs [k,v]):=by
 obtain ⟨τ,h1⟩:=h.ex
 obtain ⟨g1,a,b⟩:=h1.m10 h10
 exact ⟨τ,h1,g1,a,b,h1.m6 h6 h11⟩
theorem done_ne {L : Nat -> Bool} {i j : Nat} (h : j ≠ i) : Done L i j = L j:=by unfold Done;rw [if_neg h]
theorem done_self {L : Nat -> Bool} {i : Nat} : Done L i i = true:=by simp [Done]
theorem ME.same (h : ME W0 g k v gn gb L u3 u23 u24 u28 u29 wx) {i : Nat} (h5 : i ≠ 5) (h6 : i ≠ 6) (h10 : i ≠ 10) (h11 : i ≠ 11) (h12 : i ≠ 12) : ME W0 g k v gn gb (Done L i) u3 u23 u24 u28 u29 wx:=by
 obtain ⟨b,z,o6,o11,lt,o12,τ,a1,a2,a3,a4,a5,a6⟩:=h
 refine ⟨b,?_,?_,?_,lt,?_,τ,a1,a2,?_,?_,?_,?_⟩
 ·intro h0
  by_cases hi : i = 0
  ·subst hi;simp [Done] at h0
  ·exact z (by rw [done_ne (Ne.symm hi)] at h0;exact h0)
 ·rw [done_ne (Ne.symm h6)]
  intro h
  by_cases hi : i = 0
  ·subst hi;simp [Done]
  ·rw [done_ne (Ne.symm hi)];exact o6 h
 ·rw [done_ne (Ne.symm h11),done_ne (Ne.symm h6)];exact o11
 ·rw [done_ne (Ne.symm h11),done_ne (Ne.symm h12)];exact o12
 ·rw [done_ne (Ne.symm h5)];exact a3
 ·rw [done_ne (Ne.symm h6),done_ne (Ne.symm h11)];exact a4
 ·rw [done_ne (Ne.symm h10)];exact a5
 ·rw [done_ne (Ne.symm h11)];exact a6
theorem ME.put12 (h : ME W0 g k v gn gb L u3 u23 u24 u28 u29 wx) (h11 : L 11 = true) : ME W0 g k v gn gb (Done L 12) u29 u23 u24 u28 u29 wx:=by
 have h0:=h.o6 (h.o11 h11)
 obtain ⟨b,z,o6,o11,lt,o12,τ,a1,a2,a3,a4,a5,a6⟩:=h
 exact ⟨b,fun hz=>(by rw [done_ne (by decide),h0] at hz;cases hz),o6,o11,lt,fun _=>⟨h11,rfl⟩,τ,a1,a2,a3,a4,a5,a6⟩
theorem chgTT {τ : Own} {W : World} {o : Obj} (a2 : Chg (fun t=>t = 1 \/ t = 2) W0 τ wx τ) (hW : W = wx.alloc o) : Chg (fun t=>t = 1 \/ t = 2) W0 (ext τ wx 2) W (ext τ wx 2):=by
 subst hW
 have h:=(a2.alloc o)
 have hs:=a2.size
 exact ⟨h.os,h.tape,h.output,h.size,fun i hi hn=>h.block i hi (by rw [ext_old (by omega)] at hn;exact hn),fun _ _=>rfl⟩
theorem ME.build5 (h : ME W0 g k v gn gb L u3 u23 u24 u28 u29 wx) : ME W0 g k v gn gb (Done L 5) u3 (.slice (some ⟨wx.heap.size,0,none⟩) 2 2) u24 u28 u29 (wx.alloc (.cells #[.string k,.string v] 9)):=by
 obtain ⟨b,z,o6,o11,lt,o12,τ,a1,a2,a3,a4,a5,a6⟩:=h
 have hs:=a2.size
 have ho : ∀ i,i < wx.heap.size -> ext τ wx 2 i = τ i:=fun i hi=>ext_old hi
 refine ⟨b.alloc _,z,o6,o11,lt,o12,ext τ wx 2,fun i hi=>by rw [ext_old (by omega)];exact a1 i hi,chgTT a2 rfl,fun _=>⟨_,rfl,Blk.new _ _ _,ext_new (Nat.le_refl _)⟩,fun h h'=>((a4 h h').reown ho).alloc _,fun h=>?_,fun h=>((a6 h).reown ho).alloc _⟩
 obtain ⟨g1,r1,r2⟩:=a5 h
 exact ⟨g1,r1,(r2.reown ho).alloc _⟩
theorem ME.build10 (h : ME W0 g k v gn gb L u3 u23 u24 u28 u29 wx) : ME W0 g k v gn gb (Done L 10) u3 u23 u24 (.slice (some ⟨wx.heap.size,0,none⟩) 2 2) u29 (wx.alloc (.cells #[.int .i64 0,.int .i64 (gn : Int)] 2)):=by
 obtain ⟨b,z,o6,o11,lt,o12,τ,a1,a2,a3,a4,a5,a6⟩:=h
 have hs:=a2.size
 have ho : ∀ i,i < wx.heap.size -> ext τ wx 2 i = τ i:=fun i hi=>ext_old hi
 refine ⟨b.alloc _,z,o6,o11,lt,o12,ext τ wx 2,fun i hi=>by rw [ext_old (by omega)];exact a1 i hi,chgTT a2 rfl,fun h=>?_,fun h h'=>((a4 h h').reown ho).alloc _,fun _=>⟨_,rfl,Blk.new _ _ _,ext_new (Nat.le_refl _)⟩,fun h=>((a6 h).reown ho).alloc _⟩
 obtain ⟨g1,r1,r2⟩:=a3 h
 exact ⟨g1,r1,(r2.reown ho).alloc _⟩
theorem chgTC {τ τ1 : Own} {w1 : World} (a1 : ∀ i,i < W0.heap.size -> τ i = 0) (a2 : Chg (fun t=>t = 1 \/ t = 2) W0 τ wx τ) (hb : Chg (· = 1) wx τ w1 τ1) : (∀ i,i < W0.heap.size -> τ1 i = 0) /\ Chg (fun t=>t = 1 \/ t = 2) W0 τ1 w1 τ1:=by
 have h1 : ∀ i,i < W0.heap.size -> τ1 i = 0:=fun i hi=>(hb.own i (Nat.lt_of_lt_of_le hi a2.size)).trans (a1 i hi)
 have h:=a2.trans (hb.mono (T':=fun t=>t = 1 \/ t = 2) (fun t ht=>.inl ht))
 exact ⟨h1,h.os,h.tape,h.output,h.size,fun i hi hn=>h.block i hi (by rw [a1 i hi];decide),fun _ _=>rfl⟩
theorem ME.call6 (h : ME W0 g k v gn gb L u3 u23 u24 u28 u29 wx) (h0 : L 0 = true) (hLi : L 6 = false) {w1 : World} {τ τ1 : Own} {v1 : Value} (hb : Chg (· = 1) wx τ w1 τ1) (hr : Rw w1 τ1 1 5 1 v1 (tsum [k,v]) (tbs [k,v])) (hτ : MEx W0 k v gn L u23 u24 u28 u29 wx τ) : ME W0 g k v gn gb (Done L 6) u3 u23 v1 u28 u29 w1:=by
 obtain ⟨b,z,o6,o11,lt,o12,_⟩:=h
 obtain ⟨a1,a2,a3,a4,a5,a6⟩:=hτ
 obtain ⟨n1,n2⟩:=chgTC a1 a2 hb
 refine ⟨?_,?_,fun _=>by rw [done_ne (by decide)];exact h0,fun _=>done_self,lt,o12,τ1,n1,n2,fun h=>?_,fun _ _=>hr,fun h=>?_,fun h=>?_⟩
 ·exact (hb.block g (Nat.lt_of_lt_of_le lt a2.size) (by rw [a1 g lt];decide)).trans b
 ·rw [done_ne (by decide)];exact z
 ·rw [done_ne (by decide)] at h
  obtain ⟨g1,r1,r2⟩:=a3 h
  exact ⟨g1,r1,r2.keep hb (by decide)⟩
 ·rw [done_ne (by decide)] at h
  obtain ⟨g1,r1,r2⟩:=a5 h
  exact ⟨g1,r1,r2.keep hb (by decide)⟩
 ·rw [done_ne (by decide)] at h
  rw [o11 h] at hLi
  cases hLi
theorem ME.call11 (h : ME W0 g k v gn gb L u3 u23 u24 u28 u29 wx) {w1 : World} {τ τ1 : Own} {v1 : Value} (hb : Chg (· = 1) wx τ w1 τ1) (hr : Rw w1 τ1 1 5 1 v1 (tsum [k,v] + 2) (tbs [k,v] ++ nbs [0,gn])) (h6 : L 6 = true) (hLi : L 11 = false) (hτ : MEx W0 k v gn L u23 u24 u28 u29 wx τ) : ME W0 g k v gn gb (Done L 11) u3 u23 u24 u28 v1 w1:=by
 obtain ⟨b,z,o6,o11,lt,o12,_⟩:=h
 obtain ⟨a1,a2,a3,a4,a5,a6⟩:=hτ
 obtain ⟨n1,n2⟩:=chgTC a1 a2 hb
 refine ⟨?_,?_,?_,?_,lt,fun h=>(by rw [done_ne (by decide)] at h;rw [(o12 h).1] at hLi;cases hLi),τ1,n1,n2,fun h=>?_,fun _ h=>?_,fun h=>?_,fun _=>hr⟩
 ·exact (hb.block g (Nat.lt_of_lt_of_le lt a2.size) (by rw [a1 g lt];decide)).trans b
 ·rw [done_ne (by decide)];exact z
 ·rw [done_ne (by decide),done_ne (by decide)];exact o6
 ·rw [done_ne (show 6 ≠ 11 by decide)];exact fun _=>h6
 ·rw [done_ne (by decide)] at h
  obtain ⟨g1,r1,r2⟩:=a3 h
  exact ⟨g1,r1,r2.keep hb (by decide)⟩
 ·rw [done_self] at h;cases h
 ·rw [done_ne (by decide)] at h
  obtain ⟨g1,r1,r2⟩:=a5 h
  exact ⟨g1,r1,r2.keep hb (by decide)⟩
end
def GE (W0 : World) (g : Nat) (k v : ByteArray) (gn : Nat) (gb : Bool) (c0 c1 c2 c4 c5 c6 c7 c8 c9 c10 c11 c12 c13 c14 c15 c16 c17 c30 c31 : Value) (L : Nat -> Bool) (a' : Act) (wx : World) : Prop:=
 ∃ u3 u18 u19 u20 u21 u22 u23 u24 u25 u26 u27 u28 u29 : Value,a' = ⟨List.toArray (c0 :: c1 :: c2 :: u3 :: c4 :: c5 :: c6 :: c7 :: c8 :: c9 :: c10 :: c11 :: c12 :: c13 :: c14 :: c15 :: c16 :: c17 :: u18 :: u19 :: u20 :: u21 :: u22 :: u23 :: u24 :: u25 :: u26 :: u27 :: u28 :: u29 :: c30 :: c31 :: []),[]⟩ /\ ME W0 g k v gn gb L u3 u23 u24 u28 u29 wx /\ (L 0 = true -> u18 = .slice none 0 0) /\ (L 1 = true -> u19 = .pointer (some ⟨g,0,none⟩)) /\ (L 2 = true -> u20 = .string k) /\ (L 3 = true -> u21 = .pointer (some ⟨g,1,none⟩)) /\ (L 4 = true -> u22 = .string v) /\ (L 5 = true -> True) /\ (L 6 = true -> True) /\ (L 7 = true -> u25 = .pointer (some ⟨g,2,none⟩)) /\ (L 8 = true -> u26 = .int .i64 0) /\ (L 9 = true -> u27 = .int .i64 (gn : Int)) /\ (L 10 = true -> True) /\ (L 11 = true -> True) /\ (L 12 = true -> True)
set_option maxRecDepth 20000 in
set_option maxHeartbeats 1000000 in
theorem encode_any (w : World) (A o c : Nat) (k v : ByteArray) (gb : Bool) (gn : Nat) (hgn : gn = if gb then 1 else 0) (hk : itemOk k v gb = true) (hks : k.size < 64) (hvs : v.size < 64)
 (hc : ∀ j u,[Value.string k,.string v,.int .i64 0,.bool gb][j]? = some u -> w.cell? ⟨A,o + j,none⟩ = some u) :
 Calls Tryz.prog 161 #[.slice (some ⟨A,o,none⟩) 1 c] w fun e w'=>∃ r,e = .returned r /\ w'.ownsRow w.heap.size 5 1 r (tsum [k,v] + 2) (tbs [k,v] ++ nbs [0,gn]) /\ Below w.heap.size w w':=by
 have c0 : w.cell? ⟨A,o + 0,none⟩ = some (.string k):=hc 0 _ rfl
 have c0' : w.cell? ⟨A,o,none⟩ = some (.string k):=hc 0 _ rfl
 have c1 : w.cell? ⟨A,o + 1,none⟩ = some (.string v):=hc 1 _ rfl
 have c2 : w.cell? ⟨A,o + 2,none⟩ = some (.int .i64 0):=hc 2 _ rfl
 have c3 : w.cell? ⟨A,o + 3,none⟩ = some (.bool gb):=hc 3 _ rfl
 clear hc
 go_enter Tryz.func161,Tryz.ntmps161
 go_wp2
 go_loopw [3,9] (fun x i wr=>(x = .slice none 0 0 /\ i = .int .i64 0 /\ wr = w) \/ (i = .int .i64 1 /\ wr.ownsRow w.heap.size 5 1 x (tsum [k,v] + 2) (tbs [k,v] ++ nbs [0,gn]) /\ Below w.heap.size w wr)) (fun _ i _=>1 - (intOf i).toNat)
 case atStart=>exact .inl ⟨rfl,rfl,rfl⟩
 case round=>
  rcases hrel with ⟨rfl,rfl,rfl⟩ | ⟨rfl,ho,hb⟩
  ·have HKO:=Lib.hid hk
   have HM:=fun W=>Lib.hid (may_any W k v gb (by omega) (by omega))
   unfold itemV at HM
   clear hk
   go_wp2_with fail
   refine ((HM _).out).mono ?_
   rw [HKO.out]
   rintro e w1 ⟨rfl,hb⟩
   have HB : Hid (Below wr.heap.size wr w1):=Lib.hid (((Below.refl _ wr).alloc (Nat.le_refl _) _).trans (hb.mono (by simp)))
   have hblk : Blk w1 wr.heap.size 178 #[.string k,.string v,.int .i64 0,.bool gb]:=(hb.block _ (by simp)).trans (Blk.new wr 178 _)
   have d3:=hblk.cell 3
   have HBK:=Lib.hid hblk
   have HL : Hid (wr.heap.size < w1.heap.size):=Lib.hid (by have:=hb.size;rw [World.size_alloc] at this;omega)
   generalize hgw : wr.heap.size = g at *
   have HGW:=Lib.hid hgw
   clear hgw
   clear hb hblk c0 c0' c1 c2 c3
   cases gb with
   | false=>
    obtain rfl : gn = 0:=hgn
    go_wp2
    refine wp_region_inv (GE w1.drew g k v 0 false _ _ _ _ _ _ _ _ _ _ _ _ _ _ _ _ _ _ _) (by kernel_rfl) (by kernel_rfl) ⟨_,_,_,_,_,_,_,_,_,_,_,_,_,rfl,⟨HBK.out.drewN 1,fun _=>rfl,by simp,by simp,HL.out,by simp,fun _=>0,fun _ _=>rfl,Chg.refl _ _ _,by simp,by simp,by simp,by simp⟩,by simp⟩ ⟨?_,?_,?_,?_,?_,?_,?_,?_,?_,?_,?_,?_,?_,trivial⟩ ?_
    ·intro L a' wx hLi hd hG K hK
     refine Exists.elim hG ?_;clear hG;intro u3 hG
     refine Exists.elim hG ?_;clear hG;intro u18 hG
     refine Exists.elim hG ?_;clear hG;intro u19 hG
     refine Exists.elim hG ?_;clear hG;intro u20 hG
     refine Exists.elim hG ?_;clear hG;intro u21 hG
     refine Exists.elim hG ?_;clear hG;intro u22 hG
     refine Exists.elim hG ?_;clear hG;intro u23 hG
     refine Exists.elim hG ?_;clear hG;intro u24 hG
     refine Exists.elim hG ?_;clear hG;intro u25 hG
     refine Exists.elim hG ?_;clear hG;intro u26 hG
     refine Exists.elim hG ?_;clear hG;intro u27 hG
     refine Exists.elim hG ?_;clear hG;intro u28 hG
     refine Exists.elim hG ?_;clear hG;intro u29 hG
     refine And.elim ?_ hG;clear hG;intro ha hG
     refine And.elim ?_ hG;clear hG;intro hM hG
     refine And.elim ?_ hG;clear hG;intro f0 hG
     refine And.elim ?_ hG;clear hG;intro f1 hG
     refine And.elim ?_ hG;clear hG;intro f2 hG
     refine And.elim ?_ hG;clear hG;intro f3 hG
     refine And.elim ?_ hG;clear hG;intro f4 hG
     refine And.elim ?_ hG;clear hG;intro f5 hG
     refine And.elim ?_ hG;clear hG;intro f6 hG
     refine And.elim ?_ hG;clear hG;intro f7 hG
     refine And.elim ?_ hG;clear hG;intro f8 hG
     refine And.elim ?_ hG;clear hG;intro f9 hG
     refine And.elim ?_ hG;clear hG;intro f10 hG
     refine And.elim ?_ hG;clear hG;intro f11 hG
     have f12:=hG;clear hG
     subst ha
     obtain rfl:=hM.z hLi
     have HM:=Lib.hid hM
     clear hM hd
     have F0:=Lib.hid f0;clear f0
     have F1:=Lib.hid f1;clear f1
     have F2:=Lib.hid f2;clear f2
     have F3:=Lib.hid f3;clear f3
     have F4:=Lib.hid f4;clear f4
     have F5:=Lib.hid f5;clear f5
     have F6:=Lib.hid f6;clear f6
     have F7:=Lib.hid f7;clear f7
     have F8:=Lib.hid f8;clear f8
     have F9:=Lib.hid f9;clear f9
     have F10:=Lib.hid f10;clear f10
     have F11:=Lib.hid f11;clear f11
     have F12:=Lib.hid f12;clear f12
     go_simp
     go_wp2
     exact ⟨_,_,_,_,_,_,_,_,_,_,_,_,_,rfl,HM.out.same (i:=0) (by decide) (by decide) (by decide) (by decide) (by decide),fun _=>rfl,F1.out,F2.out,F3.out,F4.out,F5.out,F6.out,F7.out,F8.out,F9.out,F10.out,F11.out,F12.out⟩
    ·intro L a' wx hLi hd hG K hK
     refine Exists.elim hG ?_;clear hG;intro u3 hG
     refine Exists.elim hG ?_;clear hG;intro u18 hG
     refine Exists.elim hG ?_;clear hG;intro u19 hG
     refine Exists.elim hG ?_;clear hG;intro u20 hG
     refine Exists.elim hG ?_;clear hG;intro u21 hG
     refine Exists.elim hG ?_;clear hG;intro u22 hG
     refine Exists.elim hG ?_;clear hG;intro u23 hG
     refine Exists.elim hG ?_;clear hG;intro u24 hG
     refine Exists.elim hG ?_;clear hG;intro u25 hG
     refine Exists.elim hG ?_;clear hG;intro u26 hG
     refine Exists.elim hG ?_;clear hG;intro u27 hG
     refine Exists.elim hG ?_;clear hG;intro u28 hG
     refine Exists.elim hG ?_;clear hG;intro u29 hG
     refine And.elim ?_ hG;clear hG;intro ha hG
     refine And.elim ?_ hG;clear hG;intro hM hG
     refine And.elim ?_ hG;clear hG;intro f0 hG
     refine And.elim ?_ hG;clear hG;intro f1 hG
     refine And.elim ?_ hG;clear hG;intro f2 hG
     refine And.elim ?_ hG;clear hG;intro f3 hG
     refine And.elim ?_ hG;clear hG;intro f4 hG
     refine And.elim ?_ hG;clear hG;intro f5 hG
     refine And.elim ?_ hG;clear hG;intro f6 hG
     refine And.elim ?_ hG;clear hG;intro f7 hG
     refine And.elim ?_ hG;clear hG;intro f8 hG
     refine And.elim ?_ hG;clear hG;intro f9 hG
     refine And.elim ?_ hG;clear hG;intro f10 hG
     refine And.elim ?_ hG;clear hG;intro f11 hG
     have f12:=hG;clear hG
     subst ha
     have HM:=Lib.hid hM
     clear hM hd
     have F0:=Lib.hid f0;clear f0
     have F1:=Lib.hid f1;clear f1
     have F2:=Lib.hid f2;clear f2
     have F3:=Lib.hid f3;clear f3
     have F4:=Lib.hid f4;clear f4
     have F5:=Lib.hid f5;clear f5
     have F6:=Lib.hid f6;clear f6
     have F7:=Lib.hid f7;clear f7
     have F8:=Lib.hid f8;clear f8
     have F9:=Lib.hid f9;clear f9
     have F10:=Lib.hid f10;clear f10
     have F11:=Lib.hid f11;clear f11
     have F12:=Lib.hid f12;clear f12
     go_simp
     go_wp2
     exact ⟨_,_,_,_,_,_,_,_,_,_,_,_,_,rfl,HM.out.same (i:=1) (by decide) (by decide) (by decide) (by decide) (by decide),F0.out,fun _=>rfl,F2.out,F3.out,F4.out,F5.out,F6.out,F7.out,F8.out,F9.out,F10.out,F11.out,F12.out⟩
    ·intro L a' wx hLi hd hG K hK
     refine Exists.elim hG ?_;clear hG;intro u3 hG
     refine Exists.elim hG ?_;clear hG;intro u18 hG
     refine Exists.elim hG ?_;clear hG;intro u19 hG
     refine Exists.elim hG ?_;clear hG;intro u20 hG
     refine Exists.elim hG ?_;clear hG;intro u21 hG
     refine Exists.elim hG ?_;clear hG;intro u22 hG
     refine Exists.elim hG ?_;clear hG;intro u23 hG
     refine Exists.elim hG ?_;clear hG;intro u24 hG
     refine Exists.elim hG ?_;clear hG;intro u25 hG
     refine Exists.elim hG ?_;clear hG;intro u26 hG
     refine Exists.elim hG ?_;clear hG;intro u27 hG
     refine Exists.elim hG ?_;clear hG;intro u28 hG
     refine Exists.elim hG ?_;clear hG;intro u29 hG
     refine And.elim ?_ hG;clear hG;intro ha hG
     refine And.elim ?_ hG;clear hG;intro hM hG
     refine And.elim ?_ hG;clear hG;intro f0 hG
     refine And.elim ?_ hG;clear hG;intro f1 hG
     refine And.elim ?_ hG;clear hG;intro f2 hG
     refine And.elim ?_ hG;clear hG;intro f3 hG
     refine And.elim ?_ hG;clear hG;intro f4 hG
     refine And.elim ?_ hG;clear hG;intro f5 hG
     refine And.elim ?_ hG;clear hG;intro f6 hG
     refine And.elim ?_ hG;clear hG;intro f7 hG
     refine And.elim ?_ hG;clear hG;intro f8 hG
     refine And.elim ?_ hG;clear hG;intro f9 hG
     refine And.elim ?_ hG;clear hG;intro f10 hG
     refine And.elim ?_ hG;clear hG;intro f11 hG
     have f12:=hG;clear hG
     subst ha
     obtain rfl:=f1 (hd ⟨1,.data⟩ (by simp) rfl)
     have c0:=hM.c0
     have HM:=Lib.hid hM
     clear hM hd
     have F0:=Lib.hid f0;clear f0
     have F1:=Lib.hid f1;clear f1
     have F2:=Lib.hid f2;clear f2
     have F3:=Lib.hid f3;clear f3
     have F4:=Lib.hid f4;clear f4
     have F5:=Lib.hid f5;clear f5
     have F6:=Lib.hid f6;clear f6
     have F7:=Lib.hid f7;clear f7
     have F8:=Lib.hid f8;clear f8
     have F9:=Lib.hid f9;clear f9
     have F10:=Lib.hid f10;clear f10
     have F11:=Lib.hid f11;clear f11
     have F12:=Lib.hid f12;clear f12
     go_simp
     go_wp2
     exact ⟨_,_,_,_,_,_,_,_,_,_,_,_,_,rfl,HM.out.same (i:=2) (by decide) (by decide) (by decide) (by decide) (by decide),F0.out,fun _=>rfl,fun _=>rfl,F3.out,F4.out,F5.out,F6.out,F7.out,F8.out,F9.out,F10.out,F11.out,F12.out⟩
    ·intro L a' wx hLi hd hG K hK
     refine Exists.elim hG ?_;clear hG;intro u3 hG
     refine Exists.elim hG ?_;clear hG;intro u18 hG
     refine Exists.elim hG ?_;clear hG;intro u19 hG
     refine Exists.elim hG ?_;clear hG;intro u20 hG
     refine Exists.elim hG ?_;clear hG;intro u21 hG
     refine Exists.elim hG ?_;clear hG;intro u22 hG
     refine Exists.elim hG ?_;clear hG;intro u23 hG
     refine Exists.elim hG ?_;clear hG;intro u24 hG
     refine Exists.elim hG ?_;clear hG;intro u25 hG
     refine Exists.elim hG ?_;clear hG;intro u26 hG
     refine Exists.elim hG ?_;clear hG;intro u27 hG
     refine Exists.elim hG ?_;clear hG;intro u28 hG
     refine Exists.elim hG ?_;clear hG;intro u29 hG
     refine And.elim ?_ hG;clear hG;intro ha hG
     refine And.elim ?_ hG;clear hG;intro hM hG
     refine And.elim ?_ hG;clear hG;intro f0 hG
     refine And.elim ?_ hG;clear hG;intro f1 hG
     refine And.elim ?_ hG;clear hG;intro f2 hG
     refine And.elim ?_ hG;clear hG;intro f3 hG
     refine And.elim ?_ hG;clear hG;intro f4 hG
     refine And.elim ?_ hG;clear hG;intro f5 hG
     refine And.elim ?_ hG;clear hG;intro f6 hG
     refine And.elim ?_ hG;clear hG;intro f7 hG
     refine And.elim ?_ hG;clear hG;intro f8 hG
     refine And.elim ?_ hG;clear hG;intro f9 hG
     refine And.elim ?_ hG;clear hG;intro f10 hG
     refine And.elim ?_ hG;clear hG;intro f11 hG
     have f12:=hG;clear hG
     subst ha
     have HM:=Lib.hid hM
     clear hM hd
     have F0:=Lib.hid f0;clear f0
     have F1:=Lib.hid f1;clear f1
     have F2:=Lib.hid f2;clear f2
     have F3:=Lib.hid f3;clear f3
     have F4:=Lib.hid f4;clear f4
     have F5:=Lib.hid f5;clear f5
     have F6:=Lib.hid f6;clear f6
     have F7:=Lib.hid f7;clear f7
     have F8:=Lib.hid f8;clear f8
     have F9:=Lib.hid f9;clear f9
     have F10:=Lib.hid f10;clear f10
     have F11:=Lib.hid f11;clear f11
     have F12:=Lib.hid f12;clear f12
     go_simp
     go_wp2
     exact ⟨_,_,_,_,_,_,_,_,_,_,_,_,_,rfl,HM.out.same (i:=3) (by decide) (by decide) (by decide) (by decide) (by decide),F0.out,F1.out,F2.out,fun _=>rfl,F4.out,F5.out,F6.out,F7.out,F8.out,F9.out,F10.out,F11.out,F12.out⟩
    ·intro L a' wx hLi hd hG K hK
     refine Exists.elim hG ?_;clear hG;intro u3 hG
     refine Exists.elim hG ?_;clear hG;intro u18 hG
     refine Exists.elim hG ?_;clear hG;intro u19 hG
     refine Exists.elim hG ?_;clear hG;intro u20 hG
     refine Exists.elim hG ?_;clear hG;intro u21 hG
     refine Exists.elim hG ?_;clear hG;intro u22 hG
     refine Exists.elim hG ?_;clear hG;intro u23 hG
     refine Exists.elim hG ?_;clear hG;intro u24 hG
     refine Exists.elim hG ?_;clear hG;intro u25 hG
     refine Exists.elim hG ?_;clear hG;intro u26 hG
     refine Exists.elim hG ?_;clear hG;intro u27 hG
     refine Exists.elim hG ?_;clear hG;intro u28 hG
     refine Exists.elim hG ?_;clear hG;intro u29 hG
     refine And.elim ?_ hG;clear hG;intro ha hG
     refine And.elim ?_ hG;clear hG;intro hM hG
     refine And.elim ?_ hG;clear hG;intro f0 hG
     refine And.elim ?_ hG;clear hG;intro f1 hG
     refine And.elim ?_ hG;clear hG;intro f2 hG
     refine And.elim ?_ hG;clear hG;intro f3 hG
     refine And.elim ?_ hG;clear hG;intro f4 hG
     refine And.elim ?_ hG;clear hG;intro f5 hG
     refine And.elim ?_ hG;clear hG;intro f6 hG
     refine And.elim ?_ hG;clear hG;intro f7 hG
     refine And.elim ?_ hG;clear hG;intro f8 hG
     refine And.elim ?_ hG;clear hG;intro f9 hG
     refine And.elim ?_ hG;clear hG;intro f10 hG
     refine And.elim ?_ hG;clear hG;intro f11 hG
     have f12:=hG;clear hG
     subst ha
     obtain rfl:=f3 (hd ⟨3,.data⟩ (by simp) rfl)
     have c1:=hM.c1
     have HM:=Lib.hid hM
     clear hM hd
     have F0:=Lib.hid f0;clear f0
     have F1:=Lib.hid f1;clear f1
     have F2:=Lib.hid f2;clear f2
     have F3:=Lib.hid f3;clear f3
     have F4:=Lib.hid f4;clear f4
     have F5:=Lib.hid f5;clear f5
     have F6:=Lib.hid f6;clear f6
     have F7:=Lib.hid f7;clear f7
     have F8:=Lib.hid f8;clear f8
     have F9:=Lib.hid f9;clear f9
     have F10:=Lib.hid f10;clear f10
     have F11:=Lib.hid f11;clear f11
     have F12:=Lib.hid f12;clear f12
     go_simp
     go_wp2
     exact ⟨_,_,_,_,_,_,_,_,_,_,_,_,_,rfl,HM.out.same (i:=4) (by decide) (by decide) (by decide) (by decide) (by decide),F0.out,F1.out,F2.out,fun _=>rfl,fun _=>rfl,F5.out,F6.out,F7.out,F8.out,F9.out,F10.out,F11.out,F12.out⟩
    ·intro L a' wx hLi hd hG K hK
     refine Exists.elim hG ?_;clear hG;intro u3 hG
     refine Exists.elim hG ?_;clear hG;intro u18 hG
     refine Exists.elim hG ?_;clear hG;intro u19 hG
     refine Exists.elim hG ?_;clear hG;intro u20 hG
     refine Exists.elim hG ?_;clear hG;intro u21 hG
     refine Exists.elim hG ?_;clear hG;intro u22 hG
     refine Exists.elim hG ?_;clear hG;intro u23 hG
     refine Exists.elim hG ?_;clear hG;intro u24 hG
     refine Exists.elim hG ?_;clear hG;intro u25 hG
     refine Exists.elim hG ?_;clear hG;intro u26 hG
     refine Exists.elim hG ?_;clear hG;intro u27 hG
     refine Exists.elim hG ?_;clear hG;intro u28 hG
     refine Exists.elim hG ?_;clear hG;intro u29 hG
     refine And.elim ?_ hG;clear hG;intro ha hG
     refine And.elim ?_ hG;clear hG;intro hM hG
     refine And.elim ?_ hG;clear hG;intro f0 hG
     refine And.elim ?_ hG;clear hG;intro f1 hG
     refine And.elim ?_ hG;clear hG;intro f2 hG
     refine And.elim ?_ hG;clear hG;intro f3 hG
     refine And.elim ?_ hG;clear hG;intro f4 hG
     refine And.elim ?_ hG;clear hG;intro f5 hG
     refine And.elim ?_ hG;clear hG;intro f6 hG
     refine And.elim ?_ hG;clear hG;intro f7 hG
     refine And.elim ?_ hG;clear hG;intro f8 hG
     refine And.elim ?_ hG;clear hG;intro f9 hG
     refine And.elim ?_ hG;clear hG;intro f10 hG
     refine And.elim ?_ hG;clear hG;intro f11 hG
     have f12:=hG;clear hG
     subst ha
     obtain rfl:=f2 (hd ⟨2,.data⟩ (by simp) rfl)
     obtain rfl:=f4 (hd ⟨4,.data⟩ (by simp) rfl)
     have HM2:=Lib.hid hM.build5
     have HM:=Lib.hid hM
     clear hM hd
     have F0:=Lib.hid f0;clear f0
     have F1:=Lib.hid f1;clear f1
     have F2:=Lib.hid f2;clear f2
     have F3:=Lib.hid f3;clear f3
     have F4:=Lib.hid f4;clear f4
     have F5:=Lib.hid f5;clear f5
     have F6:=Lib.hid f6;clear f6
     have F7:=Lib.hid f7;clear f7
     have F8:=Lib.hid f8;clear f8
     have F9:=Lib.hid f9;clear f9
     have F10:=Lib.hid f10;clear f10
     have F11:=Lib.hid f11;clear f11
     have F12:=Lib.hid f12;clear f12
     go_simp
     go_wp2
     exact ⟨_,_,_,_,_,_,_,_,_,_,_,_,_,rfl,HM2.out,F0.out,F1.out,fun _=>rfl,F3.out,fun _=>rfl,fun _=>trivial,F6.out,F7.out,F8.out,F9.out,F10.out,F11.out,F12.out⟩
    ·intro L a' wx hLi hd hG K hK
     refine Exists.elim hG ?_;clear hG;intro u3 hG
     refine Exists.elim hG ?_;clear hG;intro u18 hG
     refine Exists.elim hG ?_;clear hG;intro u19 hG
     refine Exists.elim hG ?_;clear hG;intro u20 hG
     refine Exists.elim hG ?_;clear hG;intro u21 hG
     refine Exists.elim hG ?_;clear hG;intro u22 hG
     refine Exists.elim hG ?_;clear hG;intro u23 hG
     refine Exists.elim hG ?_;clear hG;intro u24 hG
     refine Exists.elim hG ?_;clear hG;intro u25 hG
     refine Exists.elim hG ?_;clear hG;intro u26 hG
     refine Exists.elim hG ?_;clear hG;intro u27 hG
     refine Exists.elim hG ?_;clear hG;intro u28 hG
     refine Exists.elim hG ?_;clear hG;intro u29 hG
     refine And.elim ?_ hG;clear hG;intro ha hG
     refine And.elim ?_ hG;clear hG;intro hM hG
     refine And.elim ?_ hG;clear hG;intro f0 hG
     refine And.elim ?_ hG;clear hG;intro f1 hG
     refine And.elim ?_ hG;clear hG;intro f2 hG
     refine And.elim ?_ hG;clear hG;intro f3 hG
     refine And.elim ?_ hG;clear hG;intro f4 hG
     refine And.elim ?_ hG;clear hG;intro f5 hG
     refine And.elim ?_ hG;clear hG;intro f6 hG
     refine And.elim ?_ hG;clear hG;intro f7 hG
     refine And.elim ?_ hG;clear hG;intro f8 hG
     refine And.elim ?_ hG;clear hG;intro f9 hG
     refine And.elim ?_ hG;clear hG;intro f10 hG
     refine And.elim ?_ hG;clear hG;intro f11 hG
     have f12:=hG;clear hG
     subst ha
     obtain rfl:=f0 (hd ⟨0,.data⟩ (by simp) rfl)
     have h5 : L 5 = true:=hd ⟨5,.data⟩ (by simp) rfl
     have h0 : L 0 = true:=hd ⟨0,.data⟩ (by simp) rfl
     obtain ⟨τ,hτ,g1,rfl,hg1⟩:=hM.at5 h5
     have HM:=Lib.hid hM
     clear hM hd
     have F0:=Lib.hid f0;clear f0
     have F1:=Lib.hid f1;clear f1
     have F2:=Lib.hid f2;clear f2
     have F3:=Lib.hid f3;clear f3
     have F4:=Lib.hid f4;clear f4
     have F5:=Lib.hid f5;clear f5
     have F6:=Lib.hid f6;clear f6
     have F7:=Lib.hid f7;clear f7
     have F8:=Lib.hid f8;clear f8
     have F9:=Lib.hid f9;clear f9
     have F10:=Lib.hid f10;clear f10
     have F11:=Lib.hid f11;clear f11
     have F12:=Lib.hid f12;clear f12
     go_simp
     refine (putTextR wx τ 1 (.slice none 0 0) 0 [] (Rw.nil _ _ _ _ _) (some ⟨g1,0,none⟩) 2 [k,v] hg1.blk.sl (by rintro a ha;injection ha with ha;subst ha;exact ⟨hg1.lt,by rw [hg1.own];decide⟩) (by simp) (by simp;exact ⟨hks,hvs⟩)).mono ?_
     rintro e w1 ⟨v1,τ1,rfl,ho1,hb1⟩
     have HM2:=Lib.hid (HM.out.call6 h0 hLi hb1 (by simpa using ho1) hτ)
     clear ho1 hb1
     go_wp2
     exact ⟨_,_,_,_,_,_,_,_,_,_,_,_,_,rfl,HM2.out,fun _=>rfl,F1.out,F2.out,F3.out,F4.out,F5.out,fun _=>trivial,F7.out,F8.out,F9.out,F10.out,F11.out,F12.out⟩
    ·intro L a' wx hLi hd hG K hK
     refine Exists.elim hG ?_;clear hG;intro u3 hG
     refine Exists.elim hG ?_;clear hG;intro u18 hG
     refine Exists.elim hG ?_;clear hG;intro u19 hG
     refine Exists.elim hG ?_;clear hG;intro u20 hG
     refine Exists.elim hG ?_;clear hG;intro u21 hG
     refine Exists.elim hG ?_;clear hG;intro u22 hG
     refine Exists.elim hG ?_;clear hG;intro u23 hG
     refine Exists.elim hG ?_;clear hG;intro u24 hG
     refine Exists.elim hG ?_;clear hG;intro u25 hG
     refine Exists.elim hG ?_;clear hG;intro u26 hG
     refine Exists.elim hG ?_;clear hG;intro u27 hG
     refine Exists.elim hG ?_;clear hG;intro u28 hG
     refine Exists.elim hG ?_;clear hG;intro u29 hG
     refine And.elim ?_ hG;clear hG;intro ha hG
     refine And.elim ?_ hG;clear hG;intro hM hG
     refine And.elim ?_ hG;clear hG;intro f0 hG
     refine And.elim ?_ hG;clear hG;intro f1 hG
     refine And.elim ?_ hG;clear hG;intro f2 hG
     refine And.elim ?_ hG;clear hG;intro f3 hG
     refine And.elim ?_ hG;clear hG;intro f4 hG
     refine And.elim ?_ hG;clear hG;intro f5 hG
     refine And.elim ?_ hG;clear hG;intro f6 hG
     refine And.elim ?_ hG;clear hG;intro f7 hG
     refine And.elim ?_ hG;clear hG;intro f8 hG
     refine And.elim ?_ hG;clear hG;intro f9 hG
     refine And.elim ?_ hG;clear hG;intro f10 hG
     refine And.elim ?_ hG;clear hG;intro f11 hG
     have f12:=hG;clear hG
     subst ha
     have HM:=Lib.hid hM
     clear hM hd
     have F0:=Lib.hid f0;clear f0
     have F1:=Lib.hid f1;clear f1
     have F2:=Lib.hid f2;clear f2
     have F3:=Lib.hid f3;clear f3
     have F4:=Lib.hid f4;clear f4
     have F5:=Lib.hid f5;clear f5
     have F6:=Lib.hid f6;clear f6
     have F7:=Lib.hid f7;clear f7
     have F8:=Lib.hid f8;clear f8
     have F9:=Lib.hid f9;clear f9
     have F10:=Lib.hid f10;clear f10
     have F11:=Lib.hid f11;clear f11
     have F12:=Lib.hid f12;clear f12
     go_simp
     go_wp2
     exact ⟨_,_,_,_,_,_,_,_,_,_,_,_,_,rfl,HM.out.same (i:=7) (by decide) (by decide) (by decide) (by decide) (by decide),F0.out,F1.out,F2.out,F3.out,F4.out,F5.out,F6.out,fun _=>rfl,F8.out,F9.out,F10.out,F11.out,F12.out⟩
    ·intro L a' wx hLi hd hG K hK
     refine Exists.elim hG ?_;clear hG;intro u3 hG
     refine Exists.elim hG ?_;clear hG;intro u18 hG
     refine Exists.elim hG ?_;clear hG;intro u19 hG
     refine Exists.elim hG ?_;clear hG;intro u20 hG
     refine Exists.elim hG ?_;clear hG;intro u21 hG
     refine Exists.elim hG ?_;clear hG;intro u22 hG
     refine Exists.elim hG ?_;clear hG;intro u23 hG
     refine Exists.elim hG ?_;clear hG;intro u24 hG
     refine Exists.elim hG ?_;clear hG;intro u25 hG
     refine Exists.elim hG ?_;clear hG;intro u26 hG
     refine Exists.elim hG ?_;clear hG;intro u27 hG
     refine Exists.elim hG ?_;clear hG;intro u28 hG
     refine Exists.elim hG ?_;clear hG;intro u29 hG
     refine And.elim ?_ hG;clear hG;intro ha hG
     refine And.elim ?_ hG;clear hG;intro hM hG
     refine And.elim ?_ hG;clear hG;intro f0 hG
     refine And.elim ?_ hG;clear hG;intro f1 hG
     refine And.elim ?_ hG;clear hG;intro f2 hG
     refine And.elim ?_ hG;clear hG;intro f3 hG
     refine And.elim ?_ hG;clear hG;intro f4 hG
     refine And.elim ?_ hG;clear hG;intro f5 hG
     refine And.elim ?_ hG;clear hG;intro f6 hG
     refine And.elim ?_ hG;clear hG;intro f7 hG
     refine And.elim ?_ hG;clear hG;intro f8 hG
     refine And.elim ?_ hG;clear hG;intro f9 hG
     refine And.elim ?_ hG;clear hG;intro f10 hG
     refine And.elim ?_ hG;clear hG;intro f11 hG
     have f12:=hG;clear hG
     subst ha
     obtain rfl:=f7 (hd ⟨7,.data⟩ (by simp) rfl)
     have c2:=hM.c2
     have HM:=Lib.hid hM
     clear hM hd
     have F0:=Lib.hid f0;clear f0
     have F1:=Lib.hid f1;clear f1
     have F2:=Lib.hid f2;clear f2
     have F3:=Lib.hid f3;clear f3
     have F4:=Lib.hid f4;clear f4
     have F5:=Lib.hid f5;clear f5
     have F6:=Lib.hid f6;clear f6
     have F7:=Lib.hid f7;clear f7
     have F8:=Lib.hid f8;clear f8
     have F9:=Lib.hid f9;clear f9
     have F10:=Lib.hid f10;clear f10
     have F11:=Lib.hid f11;clear f11
     have F12:=Lib.hid f12;clear f12
     go_simp
     go_wp2
     exact ⟨_,_,_,_,_,_,_,_,_,_,_,_,_,rfl,HM.out.same (i:=8) (by decide) (by decide) (by decide) (by decide) (by decide),F0.out,F1.out,F2.out,F3.out,F4.out,F5.out,F6.out,fun _=>rfl,fun _=>rfl,F9.out,F10.out,F11.out,F12.out⟩
    ·intro L a' wx hLi hd hG K hK
     refine Exists.elim hG ?_;clear hG;intro u3 hG
     refine Exists.elim hG ?_;clear hG;intro u18 hG
     refine Exists.elim hG ?_;clear hG;intro u19 hG
     refine Exists.elim hG ?_;clear hG;intro u20 hG
     refine Exists.elim hG ?_;clear hG;intro u21 hG
     refine Exists.elim hG ?_;clear hG;intro u22 hG
     refine Exists.elim hG ?_;clear hG;intro u23 hG
     refine Exists.elim hG ?_;clear hG;intro u24 hG
     refine Exists.elim hG ?_;clear hG;intro u25 hG
     refine Exists.elim hG ?_;clear hG;intro u26 hG
     refine Exists.elim hG ?_;clear hG;intro u27 hG
     refine Exists.elim hG ?_;clear hG;intro u28 hG
     refine Exists.elim hG ?_;clear hG;intro u29 hG
     refine And.elim ?_ hG;clear hG;intro ha hG
     refine And.elim ?_ hG;clear hG;intro hM hG
     refine And.elim ?_ hG;clear hG;intro f0 hG
     refine And.elim ?_ hG;clear hG;intro f1 hG
     refine And.elim ?_ hG;clear hG;intro f2 hG
     refine And.elim ?_ hG;clear hG;intro f3 hG
     refine And.elim ?_ hG;clear hG;intro f4 hG
     refine And.elim ?_ hG;clear hG;intro f5 hG
     refine And.elim ?_ hG;clear hG;intro f6 hG
     refine And.elim ?_ hG;clear hG;intro f7 hG
     refine And.elim ?_ hG;clear hG;intro f8 hG
     refine And.elim ?_ hG;clear hG;intro f9 hG
     refine And.elim ?_ hG;clear hG;intro f10 hG
     refine And.elim ?_ hG;clear hG;intro f11 hG
     have f12:=hG;clear hG
     subst ha
     have HM:=Lib.hid hM
     clear hM hd
     have F0:=Lib.hid f0;clear f0
     have F1:=Lib.hid f1;clear f1
     have F2:=Lib.hid f2;clear f2
     have F3:=Lib.hid f3;clear f3
     have F4:=Lib.hid f4;clear f4
     have F5:=Lib.hid f5;clear f5
     have F6:=Lib.hid f6;clear f6
     have F7:=Lib.hid f7;clear f7
     have F8:=Lib.hid f8;clear f8
     have F9:=Lib.hid f9;clear f9
     have F10:=Lib.hid f10;clear f10
     have F11:=Lib.hid f11;clear f11
     have F12:=Lib.hid f12;clear f12
     go_simp
     go_wp2
     exact ⟨_,_,_,_,_,_,_,_,_,_,_,_,_,rfl,HM.out.same (i:=9) (by decide) (by decide) (by decide) (by decide) (by decide),F0.out,F1.out,F2.out,F3.out,F4.out,F5.out,F6.out,F7.out,F8.out,fun _=>rfl,F10.out,F11.out,F12.out⟩
    ·intro L a' wx hLi hd hG K hK
     refine Exists.elim hG ?_;clear hG;intro u3 hG
     refine Exists.elim hG ?_;clear hG;intro u18 hG
     refine Exists.elim hG ?_;clear hG;intro u19 hG
     refine Exists.elim hG ?_;clear hG;intro u20 hG
     refine Exists.elim hG ?_;clear hG;intro u21 hG
     refine Exists.elim hG ?_;clear hG;intro u22 hG
     refine Exists.elim hG ?_;clear hG;intro u23 hG
     refine Exists.elim hG ?_;clear hG;intro u24 hG
     refine Exists.elim hG ?_;clear hG;intro u25 hG
     refine Exists.elim hG ?_;clear hG;intro u26 hG
     refine Exists.elim hG ?_;clear hG;intro u27 hG
     refine Exists.elim hG ?_;clear hG;intro u28 hG
     refine Exists.elim hG ?_;clear hG;intro u29 hG
     refine And.elim ?_ hG;clear hG;intro ha hG
     refine And.elim ?_ hG;clear hG;intro hM hG
     refine And.elim ?_ hG;clear hG;intro f0 hG
     refine And.elim ?_ hG;clear hG;intro f1 hG
     refine And.elim ?_ hG;clear hG;intro f2 hG
     refine And.elim ?_ hG;clear hG;intro f3 hG
     refine And.elim ?_ hG;clear hG;intro f4 hG
     refine And.elim ?_ hG;clear hG;intro f5 hG
     refine And.elim ?_ hG;clear hG;intro f6 hG
     refine And.elim ?_ hG;clear hG;intro f7 hG
     refine And.elim ?_ hG;clear hG;intro f8 hG
     refine And.elim ?_ hG;clear hG;intro f9 hG
     refine And.elim ?_ hG;clear hG;intro f10 hG
     refine And.elim ?_ hG;clear hG;intro f11 hG
     have f12:=hG;clear hG
     subst ha
     obtain rfl:=f8 (hd ⟨8,.data⟩ (by simp) rfl)
     obtain rfl:=f9 (hd ⟨9,.data⟩ (by simp) rfl)
     have HM2:=Lib.hid hM.build10
     have HM:=Lib.hid hM
     clear hM hd
     have F0:=Lib.hid f0;clear f0
     have F1:=Lib.hid f1;clear f1
     have F2:=Lib.hid f2;clear f2
     have F3:=Lib.hid f3;clear f3
     have F4:=Lib.hid f4;clear f4
     have F5:=Lib.hid f5;clear f5
     have F6:=Lib.hid f6;clear f6
     have F7:=Lib.hid f7;clear f7
     have F8:=Lib.hid f8;clear f8
     have F9:=Lib.hid f9;clear f9
     have F10:=Lib.hid f10;clear f10
     have F11:=Lib.hid f11;clear f11
     have F12:=Lib.hid f12;clear f12
     go_simp
     go_wp2
     exact ⟨_,_,_,_,_,_,_,_,_,_,_,_,_,rfl,HM2.out,F0.out,F1.out,F2.out,F3.out,F4.out,F5.out,F6.out,F7.out,fun _=>rfl,fun _=>rfl,fun _=>trivial,F11.out,F12.out⟩
    ·intro L a' wx hLi hd hG K hK
     refine Exists.elim hG ?_;clear hG;intro u3 hG
     refine Exists.elim hG ?_;clear hG;intro u18 hG
     refine Exists.elim hG ?_;clear hG;intro u19 hG
     refine Exists.elim hG ?_;clear hG;intro u20 hG
     refine Exists.elim hG ?_;clear hG;intro u21 hG
     refine Exists.elim hG ?_;clear hG;intro u22 hG
     refine Exists.elim hG ?_;clear hG;intro u23 hG
     refine Exists.elim hG ?_;clear hG;intro u24 hG
     refine Exists.elim hG ?_;clear hG;intro u25 hG
     refine Exists.elim hG ?_;clear hG;intro u26 hG
     refine Exists.elim hG ?_;clear hG;intro u27 hG
     refine Exists.elim hG ?_;clear hG;intro u28 hG
     refine Exists.elim hG ?_;clear hG;intro u29 hG
     refine And.elim ?_ hG;clear hG;intro ha hG
     refine And.elim ?_ hG;clear hG;intro hM hG
     refine And.elim ?_ hG;clear hG;intro f0 hG
     refine And.elim ?_ hG;clear hG;intro f1 hG
     refine And.elim ?_ hG;clear hG;intro f2 hG
     refine And.elim ?_ hG;clear hG;intro f3 hG
     refine And.elim ?_ hG;clear hG;intro f4 hG
     refine And.elim ?_ hG;clear hG;intro f5 hG
     refine And.elim ?_ hG;clear hG;intro f6 hG
     refine And.elim ?_ hG;clear hG;intro f7 hG
     refine And.elim ?_ hG;clear hG;intro f8 hG
     refine And.elim ?_ hG;clear hG;intro f9 hG
     refine And.elim ?_ hG;clear hG;intro f10 hG
     refine And.elim ?_ hG;clear hG;intro f11 hG
     have f12:=hG;clear hG
     subst ha
     have h6 : L 6 = true:=hd ⟨6,.data⟩ (by simp) rfl
     have h10 : L 10 = true:=hd ⟨10,.data⟩ (by simp) rfl
     obtain ⟨τ,hτ,g2,rfl,hg2,hr6⟩:=hM.at10 h6 h10 hLi
     have HM:=Lib.hid hM
     clear hM hd
     have F0:=Lib.hid f0;clear f0
     have F1:=Lib.hid f1;clear f1
     have F2:=Lib.hid f2;clear f2
     have F3:=Lib.hid f3;clear f3
     have F4:=Lib.hid f4;clear f4
     have F5:=Lib.hid f5;clear f5
     have F6:=Lib.hid f6;clear f6
     have F7:=Lib.hid f7;clear f7
     have F8:=Lib.hid f8;clear f8
     have F9:=Lib.hid f9;clear f9
     have F10:=Lib.hid f10;clear f10
     have F11:=Lib.hid f11;clear f11
     have F12:=Lib.hid f12;clear f12
     go_simp
     refine (putAllR wx τ 1 u24 (tsum [k,v]) (tbs [k,v]) hr6 (some ⟨g2,0,none⟩) 2 [0,0] hg2.blk.sl (by rintro a ha;injection ha with ha;subst ha;exact ⟨hg2.lt,by rw [hg2.own];decide⟩) (by simp [tsum] <;> omega) (by simp <;> omega)).mono ?_
     rintro e w1 ⟨v1,τ1,rfl,ho1,hb1⟩
     have HM2:=Lib.hid (HM.out.call11 hb1 ho1 h6 hLi hτ)
     clear ho1 hb1
     go_wp2
     exact ⟨_,_,_,_,_,_,_,_,_,_,_,_,_,rfl,HM2.out,F0.out,F1.out,F2.out,F3.out,F4.out,F5.out,F6.out,F7.out,F8.out,F9.out,F10.out,fun _=>trivial,F12.out⟩
    ·intro L a' wx hLi hd hG K hK
     refine Exists.elim hG ?_;clear hG;intro u3 hG
     refine Exists.elim hG ?_;clear hG;intro u18 hG
     refine Exists.elim hG ?_;clear hG;intro u19 hG
     refine Exists.elim hG ?_;clear hG;intro u20 hG
     refine Exists.elim hG ?_;clear hG;intro u21 hG
     refine Exists.elim hG ?_;clear hG;intro u22 hG
     refine Exists.elim hG ?_;clear hG;intro u23 hG
     refine Exists.elim hG ?_;clear hG;intro u24 hG
     refine Exists.elim hG ?_;clear hG;intro u25 hG
     refine Exists.elim hG ?_;clear hG;intro u26 hG
     refine Exists.elim hG ?_;clear hG;intro u27 hG
     refine Exists.elim hG ?_;clear hG;intro u28 hG
     refine Exists.elim hG ?_;clear hG;intro u29 hG
     refine And.elim ?_ hG;clear hG;intro ha hG
     refine And.elim ?_ hG;clear hG;intro hM hG
     refine And.elim ?_ hG;clear hG;intro f0 hG
     refine And.elim ?_ hG;clear hG;intro f1 hG
     refine And.elim ?_ hG;clear hG;intro f2 hG
     refine And.elim ?_ hG;clear hG;intro f3 hG
     refine And.elim ?_ hG;clear hG;intro f4 hG
     refine And.elim ?_ hG;clear hG;intro f5 hG
     refine And.elim ?_ hG;clear hG;intro f6 hG
     refine And.elim ?_ hG;clear hG;intro f7 hG
     refine And.elim ?_ hG;clear hG;intro f8 hG
     refine And.elim ?_ hG;clear hG;intro f9 hG
     refine And.elim ?_ hG;clear hG;intro f10 hG
     refine And.elim ?_ hG;clear hG;intro f11 hG
     have f12:=hG;clear hG
     subst ha
     have h11 : L 11 = true:=hd ⟨11,.data⟩ (by simp) rfl
     have HM:=Lib.hid hM
     clear hM hd
     have F0:=Lib.hid f0;clear f0
     have F1:=Lib.hid f1;clear f1
     have F2:=Lib.hid f2;clear f2
     have F3:=Lib.hid f3;clear f3
     have F4:=Lib.hid f4;clear f4
     have F5:=Lib.hid f5;clear f5
     have F6:=Lib.hid f6;clear f6
     have F7:=Lib.hid f7;clear f7
     have F8:=Lib.hid f8;clear f8
     have F9:=Lib.hid f9;clear f9
     have F10:=Lib.hid f10;clear f10
     have F11:=Lib.hid f11;clear f11
     have F12:=Lib.hid f12;clear f12
     go_simp
     go_wp2
     exact ⟨_,_,_,_,_,_,_,_,_,_,_,_,_,rfl,HM.out.put12 h11,F0.out,F1.out,F2.out,F3.out,F4.out,F5.out,F6.out,F7.out,F8.out,F9.out,F10.out,F11.out,fun _=>trivial⟩
    ·intro L a' wx hL hG
     obtain ⟨u3,u18,u19,u20,u21,u22,u23,u24,u25,u26,u27,u28,u29,rfl,hM,f0,f1,f2,f3,f4,f5,f6,f7,f8,f9,f10,f11,f12⟩:=hG
     have h11 : L 11 = true:=hL 11 (by decide)
     obtain ⟨h11',h29⟩:=hM.o12 (hL 12 (by decide))
     obtain ⟨τ',hτ⟩:=hM.ex
     have hr:=hτ.m11 h11
     have hcc:=hτ.chg
     have hz:=hτ.z
     have HR : Hid (wx.ownsRow wr.heap.size 5 1 u3 (tsum [k,v] + 2) (tbs [k,v] ++ nbs [0,0]) /\ Below wr.heap.size wr wx):=Lib.hid (by
      rw [h29,HGW.out]
      have hgl:=HL.out
      exact ⟨hr.base _ (fun i hi=>by rw [hz i (by show i < w1.heap.size;omega)];decide),HB.out.trans (by
       have h:=hcc.below_of g (by show g <= w1.heap.size;omega) (fun i hi=>by rw [hz i (by show i < w1.heap.size;omega)];decide)
       exact ⟨h.os,h.tape,h.output,h.size,h.block⟩)⟩)
     clear hM hL hτ hr hcc hz h29
     go_wp2
     go_roundw
     case rel=>exact .inr ⟨by go_num,HR.out.1,HR.out.2⟩
     case measure=>simp [intOf]
   | true=>
    obtain rfl : gn = 1:=hgn
    go_wp2
    refine wp_region_inv (GE w1.drew g k v 1 true _ _ _ _ _ _ _ _ _ _ _ _ _ _ _ _ _ _ _) (by kernel_rfl) (by kernel_rfl) ⟨_,_,_,_,_,_,_,_,_,_,_,_,_,rfl,⟨HBK.out.drewN 1,fun _=>rfl,by simp,by simp,HL.out,by simp,fun _=>0,fun _ _=>rfl,Chg.refl _ _ _,by simp,by simp,by simp,by simp⟩,by simp⟩ ⟨?_,?_,?_,?_,?_,?_,?_,?_,?_,?_,?_,?_,?_,trivial⟩ ?_
    ·intro L a' wx hLi hd hG K hK
     refine Exists.elim hG ?_;clear hG;intro u3 hG
     refine Exists.elim hG ?_;clear hG;intro u18 hG
     refine Exists.elim hG ?_;clear hG;intro u19 hG
     refine Exists.elim hG ?_;clear hG;intro u20 hG
     refine Exists.elim hG ?_;clear hG;intro u21 hG
     refine Exists.elim hG ?_;clear hG;intro u22 hG
     refine Exists.elim hG ?_;clear hG;intro u23 hG
     refine Exists.elim hG ?_;clear hG;intro u24 hG
     refine Exists.elim hG ?_;clear hG;intro u25 hG
     refine Exists.elim hG ?_;clear hG;intro u26 hG
     refine Exists.elim hG ?_;clear hG;intro u27 hG
     refine Exists.elim hG ?_;clear hG;intro u28 hG
     refine Exists.elim hG ?_;clear hG;intro u29 hG
     refine And.elim ?_ hG;clear hG;intro ha hG
     refine And.elim ?_ hG;clear hG;intro hM hG
     refine And.elim ?_ hG;clear hG;intro f0 hG
     refine And.elim ?_ hG;clear hG;intro f1 hG
     refine And.elim ?_ hG;clear hG;intro f2 hG
     refine And.elim ?_ hG;clear hG;intro f3 hG
     refine And.elim ?_ hG;clear hG;intro f4 hG
     refine And.elim ?_ hG;clear hG;intro f5 hG
     refine And.elim ?_ hG;clear hG;intro f6 hG
     refine And.elim ?_ hG;clear hG;intro f7 hG
     refine And.elim ?_ hG;clear hG;intro f8 hG
     refine And.elim ?_ hG;clear hG;intro f9 hG
     refine And.elim ?_ hG;clear hG;intro f10 hG
     refine And.elim ?_ hG;clear hG;intro f11 hG
     have f12:=hG;clear hG
     subst ha
     obtain rfl:=hM.z hLi
     have HM:=Lib.hid hM
     clear hM hd
     have F0:=Lib.hid f0;clear f0
     have F1:=Lib.hid f1;clear f1
     have F2:=Lib.hid f2;clear f2
     have F3:=Lib.hid f3;clear f3
     have F4:=Lib.hid f4;clear f4
     have F5:=Lib.hid f5;clear f5
     have F6:=Lib.hid f6;clear f6
     have F7:=Lib.hid f7;clear f7
     have F8:=Lib.hid f8;clear f8
     have F9:=Lib.hid f9;clear f9
     have F10:=Lib.hid f10;clear f10
     have F11:=Lib.hid f11;clear f11
     have F12:=Lib.hid f12;clear f12
     go_simp
     go_wp2
     exact ⟨_,_,_,_,_,_,_,_,_,_,_,_,_,rfl,HM.out.same (i:=0) (by decide) (by decide) (by decide) (by decide) (by decide),fun _=>rfl,F1.out,F2.out,F3.out,F4.out,F5.out,F6.out,F7.out,F8.out,F9.out,F10.out,F11.out,F12.out⟩
    ·intro L a' wx hLi hd hG K hK
     refine Exists.elim hG ?_;clear hG;intro u3 hG
     refine Exists.elim hG ?_;clear hG;intro u18 hG
     refine Exists.elim hG ?_;clear hG;intro u19 hG
     refine Exists.elim hG ?_;clear hG;intro u20 hG
     refine Exists.elim hG ?_;clear hG;intro u21 hG
     refine Exists.elim hG ?_;clear hG;intro u22 hG
     refine Exists.elim hG ?_;clear hG;intro u23 hG
     refine Exists.elim hG ?_;clear hG;intro u24 hG
     refine Exists.elim hG ?_;clear hG;intro u25 hG
     refine Exists.elim hG ?_;clear hG;intro u26 hG
     refine Exists.elim hG ?_;clear hG;intro u27 hG
     refine Exists.elim hG ?_;clear hG;intro u28 hG
     refine Exists.elim hG ?_;clear hG;intro u29 hG
     refine And.elim ?_ hG;clear hG;intro ha hG
     refine And.elim ?_ hG;clear hG;intro hM hG
     refine And.elim ?_ hG;clear hG;intro f0 hG
     refine And.elim ?_ hG;clear hG;intro f1 hG
     refine And.elim ?_ hG;clear hG;intro f2 hG
     refine And.elim ?_ hG;clear hG;intro f3 hG
     refine And.elim ?_ hG;clear hG;intro f4 hG
     refine And.elim ?_ hG;clear hG;intro f5 hG
     refine And.elim ?_ hG;clear hG;intro f6 hG
     refine And.elim ?_ hG;clear hG;intro f7 hG
     refine And.elim ?_ hG;clear hG;intro f8 hG
     refine And.elim ?_ hG;clear hG;intro f9 hG
     refine And.elim ?_ hG;clear hG;intro f10 hG
     refine And.elim ?_ hG;clear hG;intro f11 hG
     have f12:=hG;clear hG
     subst ha
     have HM:=Lib.hid hM
     clear hM hd
     have F0:=Lib.hid f0;clear f0
     have F1:=Lib.hid f1;clear f1
     have F2:=Lib.hid f2;clear f2
     have F3:=Lib.hid f3;clear f3
     have F4:=Lib.hid f4;clear f4
     have F5:=Lib.hid f5;clear f5
     have F6:=Lib.hid f6;clear f6
     have F7:=Lib.hid f7;clear f7
     have F8:=Lib.hid f8;clear f8
     have F9:=Lib.hid f9;clear f9
     have F10:=Lib.hid f10;clear f10
     have F11:=Lib.hid f11;clear f11
     have F12:=Lib.hid f12;clear f12
     go_simp
     go_wp2
     exact ⟨_,_,_,_,_,_,_,_,_,_,_,_,_,rfl,HM.out.same (i:=1) (by decide) (by decide) (by decide) (by decide) (by decide),F0.out,fun _=>rfl,F2.out,F3.out,F4.out,F5.out,F6.out,F7.out,F8.out,F9.out,F10.out,F11.out,F12.out⟩
    ·intro L a' wx hLi hd hG K hK
     refine Exists.elim hG ?_;clear hG;intro u3 hG
     refine Exists.elim hG ?_;clear hG;intro u18 hG
     refine Exists.elim hG ?_;clear hG;intro u19 hG
     refine Exists.elim hG ?_;clear hG;intro u20 hG
     refine Exists.elim hG ?_;clear hG;intro u21 hG
     refine Exists.elim hG ?_;clear hG;intro u22 hG
     refine Exists.elim hG ?_;clear hG;intro u23 hG
     refine Exists.elim hG ?_;clear hG;intro u24 hG
     refine Exists.elim hG ?_;clear hG;intro u25 hG
     refine Exists.elim hG ?_;clear hG;intro u26 hG
     refine Exists.elim hG ?_;clear hG;intro u27 hG
     refine Exists.elim hG ?_;clear hG;intro u28 hG
     refine Exists.elim hG ?_;clear hG;intro u29 hG
     refine And.elim ?_ hG;clear hG;intro ha hG
     refine And.elim ?_ hG;clear hG;intro hM hG
     refine And.elim ?_ hG;clear hG;intro f0 hG
     refine And.elim ?_ hG;clear hG;intro f1 hG
     refine And.elim ?_ hG;clear hG;intro f2 hG
     refine And.elim ?_ hG;clear hG;intro f3 hG
     refine And.elim ?_ hG;clear hG;intro f4 hG
     refine And.elim ?_ hG;clear hG;intro f5 hG
     refine And.elim ?_ hG;clear hG;intro f6 hG
     refine And.elim ?_ hG;clear hG;intro f7 hG
     refine And.elim ?_ hG;clear hG;intro f8 hG
     refine And.elim ?_ hG;clear hG;intro f9 hG
     refine And.elim ?_ hG;clear hG;intro f10 hG
     refine And.elim ?_ hG;clear hG;intro f11 hG
     have f12:=hG;clear hG
     subst ha
     obtain rfl:=f1 (hd ⟨1,.data⟩ (by simp) rfl)
     have c0:=hM.c0
     have HM:=Lib.hid hM
     clear hM hd
     have F0:=Lib.hid f0;clear f0
     have F1:=Lib.hid f1;clear f1
     have F2:=Lib.hid f2;clear f2
     have F3:=Lib.hid f3;clear f3
     have F4:=Lib.hid f4;clear f4
     have F5:=Lib.hid f5;clear f5
     have F6:=Lib.hid f6;clear f6
     have F7:=Lib.hid f7;clear f7
     have F8:=Lib.hid f8;clear f8
     have F9:=Lib.hid f9;clear f9
     have F10:=Lib.hid f10;clear f10
     have F11:=Lib.hid f11;clear f11
     have F12:=Lib.hid f12;clear f12
     go_simp
     go_wp2
     exact ⟨_,_,_,_,_,_,_,_,_,_,_,_,_,rfl,HM.out.same (i:=2) (by decide) (by decide) (by decide) (by decide) (by decide),F0.out,fun _=>rfl,fun _=>rfl,F3.out,F4.out,F5.out,F6.out,F7.out,F8.out,F9.out,F10.out,F11.out,F12.out⟩
    ·intro L a' wx hLi hd hG K hK
     refine Exists.elim hG ?_;clear hG;intro u3 hG
     refine Exists.elim hG ?_;clear hG;intro u18 hG
     refine Exists.elim hG ?_;clear hG;intro u19 hG
     refine Exists.elim hG ?_;clear hG;intro u20 hG
     refine Exists.elim hG ?_;clear hG;intro u21 hG
     refine Exists.elim hG ?_;clear hG;intro u22 hG
     refine Exists.elim hG ?_;clear hG;intro u23 hG
     refine Exists.elim hG ?_;clear hG;intro u24 hG
     refine Exists.elim hG ?_;clear hG;intro u25 hG
     refine Exists.elim hG ?_;clear hG;intro u26 hG
     refine Exists.elim hG ?_;clear hG;intro u27 hG
     refine Exists.elim hG ?_;clear hG;intro u28 hG
     refine Exists.elim hG ?_;clear hG;intro u29 hG
     refine And.elim ?_ hG;clear hG;intro ha hG
     refine And.elim ?_ hG;clear hG;intro hM hG
     refine And.elim ?_ hG;clear hG;intro f0 hG
     refine And.elim ?_ hG;clear hG;intro f1 hG
     refine And.elim ?_ hG;clear hG;intro f2 hG
     refine And.elim ?_ hG;clear hG;intro f3 hG
     refine And.elim ?_ hG;clear hG;intro f4 hG
     refine And.elim ?_ hG;clear hG;intro f5 hG
     refine And.elim ?_ hG;clear hG;intro f6 hG
     refine And.elim ?_ hG;clear hG;intro f7 hG
     refine And.elim ?_ hG;clear hG;intro f8 hG
     refine And.elim ?_ hG;clear hG;intro f9 hG
     refine And.elim ?_ hG;clear hG;intro f10 hG
     refine And.elim ?_ hG;clear hG;intro f11 hG
     have f12:=hG;clear hG
     subst ha
     have HM:=Lib.hid hM
     clear hM hd
     have F0:=Lib.hid f0;clear f0
     have F1:=Lib.hid f1;clear f1
     have F2:=Lib.hid f2;clear f2
     have F3:=Lib.hid f3;clear f3
     have F4:=Lib.hid f4;clear f4
     have F5:=Lib.hid f5;clear f5
     have F6:=Lib.hid f6;clear f6
     have F7:=Lib.hid f7;clear f7
     have F8:=Lib.hid f8;clear f8
     have F9:=Lib.hid f9;clear f9
     have F10:=Lib.hid f10;clear f10
     have F11:=Lib.hid f11;clear f11
     have F12:=Lib.hid f12;clear f12
     go_simp
     go_wp2
     exact ⟨_,_,_,_,_,_,_,_,_,_,_,_,_,rfl,HM.out.same (i:=3) (by decide) (by decide) (by decide) (by decide) (by decide),F0.out,F1.out,F2.out,fun _=>rfl,F4.out,F5.out,F6.out,F7.out,F8.out,F9.out,F10.out,F11.out,F12.out⟩
    ·intro L a' wx hLi hd hG K hK
     refine Exists.elim hG ?_;clear hG;intro u3 hG
     refine Exists.elim hG ?_;clear hG;intro u18 hG
     refine Exists.elim hG ?_;clear hG;intro u19 hG
     refine Exists.elim hG ?_;clear hG;intro u20 hG
     refine Exists.elim hG ?_;clear hG;intro u21 hG
     refine Exists.elim hG ?_;clear hG;intro u22 hG
     refine Exists.elim hG ?_;clear hG;intro u23 hG
     refine Exists.elim hG ?_;clear hG;intro u24 hG
     refine Exists.elim hG ?_;clear hG;intro u25 hG
     refine Exists.elim hG ?_;clear hG;intro u26 hG
     refine Exists.elim hG ?_;clear hG;intro u27 hG
     refine Exists.elim hG ?_;clear hG;intro u28 hG
     refine Exists.elim hG ?_;clear hG;intro u29 hG
     refine And.elim ?_ hG;clear hG;intro ha hG
     refine And.elim ?_ hG;clear hG;intro hM hG
     refine And.elim ?_ hG;clear hG;intro f0 hG
     refine And.elim ?_ hG;clear hG;intro f1 hG
     refine And.elim ?_ hG;clear hG;intro f2 hG
     refine And.elim ?_ hG;clear hG;intro f3 hG
     refine And.elim ?_ hG;clear hG;intro f4 hG
     refine And.elim ?_ hG;clear hG;intro f5 hG
     refine And.elim ?_ hG;clear hG;intro f6 hG
     refine And.elim ?_ hG;clear hG;intro f7 hG
     refine And.elim ?_ hG;clear hG;intro f8 hG
     refine And.elim ?_ hG;clear hG;intro f9 hG
     refine And.elim ?_ hG;clear hG;intro f10 hG
     refine And.elim ?_ hG;clear hG;intro f11 hG
     have f12:=hG;clear hG
     subst ha
     obtain rfl:=f3 (hd ⟨3,.data⟩ (by simp) rfl)
     have c1:=hM.c1
     have HM:=Lib.hid hM
     clear hM hd
     have F0:=Lib.hid f0;clear f0
     have F1:=Lib.hid f1;clear f1
     have F2:=Lib.hid f2;clear f2
     have F3:=Lib.hid f3;clear f3
     have F4:=Lib.hid f4;clear f4
     have F5:=Lib.hid f5;clear f5
     have F6:=Lib.hid f6;clear f6
     have F7:=Lib.hid f7;clear f7
     have F8:=Lib.hid f8;clear f8
     have F9:=Lib.hid f9;clear f9
     have F10:=Lib.hid f10;clear f10
     have F11:=Lib.hid f11;clear f11
     have F12:=Lib.hid f12;clear f12
     go_simp
     go_wp2
     exact ⟨_,_,_,_,_,_,_,_,_,_,_,_,_,rfl,HM.out.same (i:=4) (by decide) (by decide) (by decide) (by decide) (by decide),F0.out,F1.out,F2.out,fun _=>rfl,fun _=>rfl,F5.out,F6.out,F7.out,F8.out,F9.out,F10.out,F11.out,F12.out⟩
    ·intro L a' wx hLi hd hG K hK
     refine Exists.elim hG ?_;clear hG;intro u3 hG
     refine Exists.elim hG ?_;clear hG;intro u18 hG
     refine Exists.elim hG ?_;clear hG;intro u19 hG
     refine Exists.elim hG ?_;clear hG;intro u20 hG
     refine Exists.elim hG ?_;clear hG;intro u21 hG
     refine Exists.elim hG ?_;clear hG;intro u22 hG
     refine Exists.elim hG ?_;clear hG;intro u23 hG
     refine Exists.elim hG ?_;clear hG;intro u24 hG
     refine Exists.elim hG ?_;clear hG;intro u25 hG
     refine Exists.elim hG ?_;clear hG;intro u26 hG
     refine Exists.elim hG ?_;clear hG;intro u27 hG
     refine Exists.elim hG ?_;clear hG;intro u28 hG
     refine Exists.elim hG ?_;clear hG;intro u29 hG
     refine And.elim ?_ hG;clear hG;intro ha hG
     refine And.elim ?_ hG;clear hG;intro hM hG
     refine And.elim ?_ hG;clear hG;intro f0 hG
     refine And.elim ?_ hG;clear hG;intro f1 hG
     refine And.elim ?_ hG;clear hG;intro f2 hG
     refine And.elim ?_ hG;clear hG;intro f3 hG
     refine And.elim ?_ hG;clear hG;intro f4 hG
     refine And.elim ?_ hG;clear hG;intro f5 hG
     refine And.elim ?_ hG;clear hG;intro f6 hG
     refine And.elim ?_ hG;clear hG;intro f7 hG
     refine And.elim ?_ hG;clear hG;intro f8 hG
     refine And.elim ?_ hG;clear hG;intro f9 hG
     refine And.elim ?_ hG;clear hG;intro f10 hG
     refine And.elim ?_ hG;clear hG;intro f11 hG
     have f12:=hG;clear hG
     subst ha
     obtain rfl:=f2 (hd ⟨2,.data⟩ (by simp) rfl)
     obtain rfl:=f4 (hd ⟨4,.data⟩ (by simp) rfl)
     have HM2:=Lib.hid hM.build5
     have HM:=Lib.hid hM
     clear hM hd
     have F0:=Lib.hid f0;clear f0
     have F1:=Lib.hid f1;clear f1
     have F2:=Lib.hid f2;clear f2
     have F3:=Lib.hid f3;clear f3
     have F4:=Lib.hid f4;clear f4
     have F5:=Lib.hid f5;clear f5
     have F6:=Lib.hid f6;clear f6
     have F7:=Lib.hid f7;clear f7
     have F8:=Lib.hid f8;clear f8
     have F9:=Lib.hid f9;clear f9
     have F10:=Lib.hid f10;clear f10
     have F11:=Lib.hid f11;clear f11
     have F12:=Lib.hid f12;clear f12
     go_simp
     go_wp2
     exact ⟨_,_,_,_,_,_,_,_,_,_,_,_,_,rfl,HM2.out,F0.out,F1.out,fun _=>rfl,F3.out,fun _=>rfl,fun _=>trivial,F6.out,F7.out,F8.out,F9.out,F10.out,F11.out,F12.out⟩
    ·intro L a' wx hLi hd hG K hK
     refine Exists.elim hG ?_;clear hG;intro u3 hG
     refine Exists.elim hG ?_;clear hG;intro u18 hG
     refine Exists.elim hG ?_;clear hG;intro u19 hG
     refine Exists.elim hG ?_;clear hG;intro u20 hG
     refine Exists.elim hG ?_;clear hG;intro u21 hG
     refine Exists.elim hG ?_;clear hG;intro u22 hG
     refine Exists.elim hG ?_;clear hG;intro u23 hG
     refine Exists.elim hG ?_;clear hG;intro u24 hG
     refine Exists.elim hG ?_;clear hG;intro u25 hG
     refine Exists.elim hG ?_;clear hG;intro u26 hG
     refine Exists.elim hG ?_;clear hG;intro u27 hG
     refine Exists.elim hG ?_;clear hG;intro u28 hG
     refine Exists.elim hG ?_;clear hG;intro u29 hG
     refine And.elim ?_ hG;clear hG;intro ha hG
     refine And.elim ?_ hG;clear hG;intro hM hG
     refine And.elim ?_ hG;clear hG;intro f0 hG
     refine And.elim ?_ hG;clear hG;intro f1 hG
     refine And.elim ?_ hG;clear hG;intro f2 hG
     refine And.elim ?_ hG;clear hG;intro f3 hG
     refine And.elim ?_ hG;clear hG;intro f4 hG
     refine And.elim ?_ hG;clear hG;intro f5 hG
     refine And.elim ?_ hG;clear hG;intro f6 hG
     refine And.elim ?_ hG;clear hG;intro f7 hG
     refine And.elim ?_ hG;clear hG;intro f8 hG
     refine And.elim ?_ hG;clear hG;intro f9 hG
     refine And.elim ?_ hG;clear hG;intro f10 hG
     refine And.elim ?_ hG;clear hG;intro f11 hG
     have f12:=hG;clear hG
     subst ha
     obtain rfl:=f0 (hd ⟨0,.data⟩ (by simp) rfl)
     have h5 : L 5 = true:=hd ⟨5,.data⟩ (by simp) rfl
     have h0 : L 0 = true:=hd ⟨0,.data⟩ (by simp) rfl
     obtain ⟨τ,hτ,g1,rfl,hg1⟩:=hM.at5 h5
     have HM:=Lib.hid hM
     clear hM hd
     have F0:=Lib.hid f0;clear f0
     have F1:=Lib.hid f1;clear f1
     have F2:=Lib.hid f2;clear f2
     have F3:=Lib.hid f3;clear f3
     have F4:=Lib.hid f4;clear f4
     have F5:=Lib.hid f5;clear f5
     have F6:=Lib.hid f6;clear f6
     have F7:=Lib.hid f7;clear f7
     have F8:=Lib.hid f8;clear f8
     have F9:=Lib.hid f9;clear f9
     have F10:=Lib.hid f10;clear f10
     have F11:=Lib.hid f11;clear f11
     have F12:=Lib.hid f12;clear f12
     go_simp
     refine (putTextR wx τ 1 (.slice none 0 0) 0 [] (Rw.nil _ _ _ _ _) (some ⟨g1,0,none⟩) 2 [k,v] hg1.blk.sl (by rintro a ha;injection ha with ha;subst ha;exact ⟨hg1.lt,by rw [hg1.own];decide⟩) (by simp) (by simp;exact ⟨hks,hvs⟩)).mono ?_
     rintro e w1 ⟨v1,τ1,rfl,ho1,hb1⟩
     have HM2:=Lib.hid (HM.out.call6 h0 hLi hb1 (by simpa using ho1) hτ)
     clear ho1 hb1
     go_wp2
     exact ⟨_,_,_,_,_,_,_,_,_,_,_,_,_,rfl,HM2.out,fun _=>rfl,F1.out,F2.out,F3.out,F4.out,F5.out,fun _=>trivial,F7.out,F8.out,F9.out,F10.out,F11.out,F12.out⟩
    ·intro L a' wx hLi hd hG K hK
     refine Exists.elim hG ?_;clear hG;intro u3 hG
     refine Exists.elim hG ?_;clear hG;intro u18 hG
     refine Exists.elim hG ?_;clear hG;intro u19 hG
     refine Exists.elim hG ?_;clear hG;intro u20 hG
     refine Exists.elim hG ?_;clear hG;intro u21 hG
     refine Exists.elim hG ?_;clear hG;intro u22 hG
     refine Exists.elim hG ?_;clear hG;intro u23 hG
     refine Exists.elim hG ?_;clear hG;intro u24 hG
     refine Exists.elim hG ?_;clear hG;intro u25 hG
     refine Exists.elim hG ?_;clear hG;intro u26 hG
     refine Exists.elim hG ?_;clear hG;intro u27 hG
     refine Exists.elim hG ?_;clear hG;intro u28 hG
     refine Exists.elim hG ?_;clear hG;intro u29 hG
     refine And.elim ?_ hG;clear hG;intro ha hG
     refine And.elim ?_ hG;clear hG;intro hM hG
     refine And.elim ?_ hG;clear hG;intro f0 hG
     refine And.elim ?_ hG;clear hG;intro f1 hG
     refine And.elim ?_ hG;clear hG;intro f2 hG
     refine And.elim ?_ hG;clear hG;intro f3 hG
     refine And.elim ?_ hG;clear hG;intro f4 hG
     refine And.elim ?_ hG;clear hG;intro f5 hG
     refine And.elim ?_ hG;clear hG;intro f6 hG
     refine And.elim ?_ hG;clear hG;intro f7 hG
     refine And.elim ?_ hG;clear hG;intro f8 hG
     refine And.elim ?_ hG;clear hG;intro f9 hG
     refine And.elim ?_ hG;clear hG;intro f10 hG
     refine And.elim ?_ hG;clear hG;intro f11 hG
     have f12:=hG;clear hG
     subst ha
     have HM:=Lib.hid hM
     clear hM hd
     have F0:=Lib.hid f0;clear f0
     have F1:=Lib.hid f1;clear f1
     have F2:=Lib.hid f2;clear f2
     have F3:=Lib.hid f3;clear f3
     have F4:=Lib.hid f4;clear f4
     have F5:=Lib.hid f5;clear f5
     have F6:=Lib.hid f6;clear f6
     have F7:=Lib.hid f7;clear f7
     have F8:=Lib.hid f8;clear f8
     have F9:=Lib.hid f9;clear f9
     have F10:=Lib.hid f10;clear f10
     have F11:=Lib.hid f11;clear f11
     have F12:=Lib.hid f12;clear f12
     go_simp
     go_wp2
     exact ⟨_,_,_,_,_,_,_,_,_,_,_,_,_,rfl,HM.out.same (i:=7) (by decide) (by decide) (by decide) (by decide) (by decide),F0.out,F1.out,F2.out,F3.out,F4.out,F5.out,F6.out,fun _=>rfl,F8.out,F9.out,F10.out,F11.out,F12.out⟩
    ·intro L a' wx hLi hd hG K hK
     refine Exists.elim hG ?_;clear hG;intro u3 hG
     refine Exists.elim hG ?_;clear hG;intro u18 hG
     refine Exists.elim hG ?_;clear hG;intro u19 hG
     refine Exists.elim hG ?_;clear hG;intro u20 hG
     refine Exists.elim hG ?_;clear hG;intro u21 hG
     refine Exists.elim hG ?_;clear hG;intro u22 hG
     refine Exists.elim hG ?_;clear hG;intro u23 hG
     refine Exists.elim hG ?_;clear hG;intro u24 hG
     refine Exists.elim hG ?_;clear hG;intro u25 hG
     refine Exists.elim hG ?_;clear hG;intro u26 hG
     refine Exists.elim hG ?_;clear hG;intro u27 hG
     refine Exists.elim hG ?_;clear hG;intro u28 hG
     refine Exists.elim hG ?_;clear hG;intro u29 hG
     refine And.elim ?_ hG;clear hG;intro ha hG
     refine And.elim ?_ hG;clear hG;intro hM hG
     refine And.elim ?_ hG;clear hG;intro f0 hG
     refine And.elim ?_ hG;clear hG;intro f1 hG
     refine And.elim ?_ hG;clear hG;intro f2 hG
     refine And.elim ?_ hG;clear hG;intro f3 hG
     refine And.elim ?_ hG;clear hG;intro f4 hG
     refine And.elim ?_ hG;clear hG;intro f5 hG
     refine And.elim ?_ hG;clear hG;intro f6 hG
     refine And.elim ?_ hG;clear hG;intro f7 hG
     refine And.elim ?_ hG;clear hG;intro f8 hG
     refine And.elim ?_ hG;clear hG;intro f9 hG
     refine And.elim ?_ hG;clear hG;intro f10 hG
     refine And.elim ?_ hG;clear hG;intro f11 hG
     have f12:=hG;clear hG
     subst ha
     obtain rfl:=f7 (hd ⟨7,.data⟩ (by simp) rfl)
     have c2:=hM.c2
     have HM:=Lib.hid hM
     clear hM hd
     have F0:=Lib.hid f0;clear f0
     have F1:=Lib.hid f1;clear f1
     have F2:=Lib.hid f2;clear f2
     have F3:=Lib.hid f3;clear f3
     have F4:=Lib.hid f4;clear f4
     have F5:=Lib.hid f5;clear f5
     have F6:=Lib.hid f6;clear f6
     have F7:=Lib.hid f7;clear f7
     have F8:=Lib.hid f8;clear f8
     have F9:=Lib.hid f9;clear f9
     have F10:=Lib.hid f10;clear f10
     have F11:=Lib.hid f11;clear f11
     have F12:=Lib.hid f12;clear f12
     go_simp
     go_wp2
     exact ⟨_,_,_,_,_,_,_,_,_,_,_,_,_,rfl,HM.out.same (i:=8) (by decide) (by decide) (by decide) (by decide) (by decide),F0.out,F1.out,F2.out,F3.out,F4.out,F5.out,F6.out,fun _=>rfl,fun _=>rfl,F9.out,F10.out,F11.out,F12.out⟩
    ·intro L a' wx hLi hd hG K hK
     refine Exists.elim hG ?_;clear hG;intro u3 hG
     refine Exists.elim hG ?_;clear hG;intro u18 hG
     refine Exists.elim hG ?_;clear hG;intro u19 hG
     refine Exists.elim hG ?_;clear hG;intro u20 hG
     refine Exists.elim hG ?_;clear hG;intro u21 hG
     refine Exists.elim hG ?_;clear hG;intro u22 hG
     refine Exists.elim hG ?_;clear hG;intro u23 hG
     refine Exists.elim hG ?_;clear hG;intro u24 hG
     refine Exists.elim hG ?_;clear hG;intro u25 hG
     refine Exists.elim hG ?_;clear hG;intro u26 hG
     refine Exists.elim hG ?_;clear hG;intro u27 hG
     refine Exists.elim hG ?_;clear hG;intro u28 hG
     refine Exists.elim hG ?_;clear hG;intro u29 hG
     refine And.elim ?_ hG;clear hG;intro ha hG
     refine And.elim ?_ hG;clear hG;intro hM hG
     refine And.elim ?_ hG;clear hG;intro f0 hG
     refine And.elim ?_ hG;clear hG;intro f1 hG
     refine And.elim ?_ hG;clear hG;intro f2 hG
     refine And.elim ?_ hG;clear hG;intro f3 hG
     refine And.elim ?_ hG;clear hG;intro f4 hG
     refine And.elim ?_ hG;clear hG;intro f5 hG
     refine And.elim ?_ hG;clear hG;intro f6 hG
     refine And.elim ?_ hG;clear hG;intro f7 hG
     refine And.elim ?_ hG;clear hG;intro f8 hG
     refine And.elim ?_ hG;clear hG;intro f9 hG
     refine And.elim ?_ hG;clear hG;intro f10 hG
     refine And.elim ?_ hG;clear hG;intro f11 hG
     have f12:=hG;clear hG
     subst ha
     have HM:=Lib.hid hM
     clear hM hd
     have F0:=Lib.hid f0;clear f0
     have F1:=Lib.hid f1;clear f1
     have F2:=Lib.hid f2;clear f2
     have F3:=Lib.hid f3;clear f3
     have F4:=Lib.hid f4;clear f4
     have F5:=Lib.hid f5;clear f5
     have F6:=Lib.hid f6;clear f6
     have F7:=Lib.hid f7;clear f7
     have F8:=Lib.hid f8;clear f8
     have F9:=Lib.hid f9;clear f9
     have F10:=Lib.hid f10;clear f10
     have F11:=Lib.hid f11;clear f11
     have F12:=Lib.hid f12;clear f12
     go_simp
     go_wp2
     exact ⟨_,_,_,_,_,_,_,_,_,_,_,_,_,rfl,HM.out.same (i:=9) (by decide) (by decide) (by decide) (by decide) (by decide),F0.out,F1.out,F2.out,F3.out,F4.out,F5.out,F6.out,F7.out,F8.out,fun _=>rfl,F10.out,F11.out,F12.out⟩
    ·intro L a' wx hLi hd hG K hK
     refine Exists.elim hG ?_;clear hG;intro u3 hG
     refine Exists.elim hG ?_;clear hG;intro u18 hG
     refine Exists.elim hG ?_;clear hG;intro u19 hG
     refine Exists.elim hG ?_;clear hG;intro u20 hG
     refine Exists.elim hG ?_;clear hG;intro u21 hG
     refine Exists.elim hG ?_;clear hG;intro u22 hG
     refine Exists.elim hG ?_;clear hG;intro u23 hG
     refine Exists.elim hG ?_;clear hG;intro u24 hG
     refine Exists.elim hG ?_;clear hG;intro u25 hG
     refine Exists.elim hG ?_;clear hG;intro u26 hG
     refine Exists.elim hG ?_;clear hG;intro u27 hG
     refine Exists.elim hG ?_;clear hG;intro u28 hG
     refine Exists.elim hG ?_;clear hG;intro u29 hG
     refine And.elim ?_ hG;clear hG;intro ha hG
     refine And.elim ?_ hG;clear hG;intro hM hG
     refine And.elim ?_ hG;clear hG;intro f0 hG
     refine And.elim ?_ hG;clear hG;intro f1 hG
     refine And.elim ?_ hG;clear hG;intro f2 hG
     refine And.elim ?_ hG;clear hG;intro f3 hG
     refine And.elim ?_ hG;clear hG;intro f4 hG
     refine And.elim ?_ hG;clear hG;intro f5 hG
     refine And.elim ?_ hG;clear hG;intro f6 hG
     refine And.elim ?_ hG;clear hG;intro f7 hG
     refine And.elim ?_ hG;clear hG;intro f8 hG
     refine And.elim ?_ hG;clear hG;intro f9 hG
     refine And.elim ?_ hG;clear hG;intro f10 hG
     refine And.elim ?_ hG;clear hG;intro f11 hG
     have f12:=hG;clear hG
     subst ha
     obtain rfl:=f8 (hd ⟨8,.data⟩ (by simp) rfl)
     obtain rfl:=f9 (hd ⟨9,.data⟩ (by simp) rfl)
     have HM2:=Lib.hid hM.build10
     have HM:=Lib.hid hM
     clear hM hd
     have F0:=Lib.hid f0;clear f0
     have F1:=Lib.hid f1;clear f1
     have F2:=Lib.hid f2;clear f2
     have F3:=Lib.hid f3;clear f3
     have F4:=Lib.hid f4;clear f4
     have F5:=Lib.hid f5;clear f5
     have F6:=Lib.hid f6;clear f6
     have F7:=Lib.hid f7;clear f7
     have F8:=Lib.hid f8;clear f8
     have F9:=Lib.hid f9;clear f9
     have F10:=Lib.hid f10;clear f10
     have F11:=Lib.hid f11;clear f11
     have F12:=Lib.hid f12;clear f12
     go_simp
     go_wp2
     exact ⟨_,_,_,_,_,_,_,_,_,_,_,_,_,rfl,HM2.out,F0.out,F1.out,F2.out,F3.out,F4.out,F5.out,F6.out,F7.out,fun _=>rfl,fun _=>rfl,fun _=>trivial,F11.out,F12.out⟩
    ·intro L a' wx hLi hd hG K hK
     refine Exists.elim hG ?_;clear hG;intro u3 hG
     refine Exists.elim hG ?_;clear hG;intro u18 hG
     refine Exists.elim hG ?_;clear hG;intro u19 hG
     refine Exists.elim hG ?_;clear hG;intro u20 hG
     refine Exists.elim hG ?_;clear hG;intro u21 hG
     refine Exists.elim hG ?_;clear hG;intro u22 hG
     refine Exists.elim hG ?_;clear hG;intro u23 hG
     refine Exists.elim hG ?_;clear hG;intro u24 hG
     refine Exists.elim hG ?_;clear hG;intro u25 hG
     refine Exists.elim hG ?_;clear hG;intro u26 hG
     refine Exists.elim hG ?_;clear hG;intro u27 hG
     refine Exists.elim hG ?_;clear hG;intro u28 hG
     refine Exists.elim hG ?_;clear hG;intro u29 hG
     refine And.elim ?_ hG;clear hG;intro ha hG
     refine And.elim ?_ hG;clear hG;intro hM hG
     refine And.elim ?_ hG;clear hG;intro f0 hG
     refine And.elim ?_ hG;clear hG;intro f1 hG
     refine And.elim ?_ hG;clear hG;intro f2 hG
     refine And.elim ?_ hG;clear hG;intro f3 hG
     refine And.elim ?_ hG;clear hG;intro f4 hG
     refine And.elim ?_ hG;clear hG;intro f5 hG
     refine And.elim ?_ hG;clear hG;intro f6 hG
     refine And.elim ?_ hG;clear hG;intro f7 hG
     refine And.elim ?_ hG;clear hG;intro f8 hG
     refine And.elim ?_ hG;clear hG;intro f9 hG
     refine And.elim ?_ hG;clear hG;intro f10 hG
     refine And.elim ?_ hG;clear hG;intro f11 hG
     have f12:=hG;clear hG
     subst ha
     have h6 : L 6 = true:=hd ⟨6,.data⟩ (by simp) rfl
     have h10 : L 10 = true:=hd ⟨10,.data⟩ (by simp) rfl
     obtain ⟨τ,hτ,g2,rfl,hg2,hr6⟩:=hM.at10 h6 h10 hLi
     have HM:=Lib.hid hM
     clear hM hd
     have F0:=Lib.hid f0;clear f0
     have F1:=Lib.hid f1;clear f1
     have F2:=Lib.hid f2;clear f2
     have F3:=Lib.hid f3;clear f3
     have F4:=Lib.hid f4;clear f4
     have F5:=Lib.hid f5;clear f5
     have F6:=Lib.hid f6;clear f6
     have F7:=Lib.hid f7;clear f7
     have F8:=Lib.hid f8;clear f8
     have F9:=Lib.hid f9;clear f9
     have F10:=Lib.hid f10;clear f10
     have F11:=Lib.hid f11;clear f11
     have F12:=Lib.hid f12;clear f12
     go_simp
     refine (putAllR wx τ 1 u24 (tsum [k,v]) (tbs [k,v]) hr6 (some ⟨g2,0,none⟩) 2 [0,1] hg2.blk.sl (by rintro a ha;injection ha with ha;subst ha;exact ⟨hg2.lt,by rw [hg2.own];decide⟩) (by simp [tsum] <;> omega) (by simp <;> omega)).mono ?_
     rintro e w1 ⟨v1,τ1,rfl,ho1,hb1⟩
     have HM2:=Lib.hid (HM.out.call11 hb1 ho1 h6 hLi hτ)
     clear ho1 hb1
     go_wp2
     exact ⟨_,_,_,_,_,_,_,_,_,_,_,_,_,rfl,HM2.out,F0.out,F1.out,F2.out,F3.out,F4.out,F5.out,F6.out,F7.out,F8.out,F9.out,F10.out,fun _=>trivial,F12.out⟩
    ·intro L a' wx hLi hd hG K hK
     refine Exists.elim hG ?_;clear hG;intro u3 hG
     refine Exists.elim hG ?_;clear hG;intro u18 hG
     refine Exists.elim hG ?_;clear hG;intro u19 hG
     refine Exists.elim hG ?_;clear hG;intro u20 hG
     refine Exists.elim hG ?_;clear hG;intro u21 hG
     refine Exists.elim hG ?_;clear hG;intro u22 hG
     refine Exists.elim hG ?_;clear hG;intro u23 hG
     refine Exists.elim hG ?_;clear hG;intro u24 hG
     refine Exists.elim hG ?_;clear hG;intro u25 hG
     refine Exists.elim hG ?_;clear hG;intro u26 hG
     refine Exists.elim hG ?_;clear hG;intro u27 hG
     refine Exists.elim hG ?_;clear hG;intro u28 hG
     refine Exists.elim hG ?_;clear hG;intro u29 hG
     refine And.elim ?_ hG;clear hG;intro ha hG
     refine And.elim ?_ hG;clear hG;intro hM hG
     refine And.elim ?_ hG;clear hG;intro f0 hG
     refine And.elim ?_ hG;clear hG;intro f1 hG
     refine And.elim ?_ hG;clear hG;intro f2 hG
     refine And.elim ?_ hG;clear hG;intro f3 hG
     refine And.elim ?_ hG;clear hG;intro f4 hG
     refine And.elim ?_ hG;clear hG;intro f5 hG
     refine And.elim ?_ hG;clear hG;intro f6 hG
     refine And.elim ?_ hG;clear hG;intro f7 hG
     refine And.elim ?_ hG;clear hG;intro f8 hG
     refine And.elim ?_ hG;clear hG;intro f9 hG
     refine And.elim ?_ hG;clear hG;intro f10 hG
     refine And.elim ?_ hG;clear hG;intro f11 hG
     have f12:=hG;clear hG
     subst ha
     have h11 : L 11 = true:=hd ⟨11,.data⟩ (by simp) rfl
     have HM:=Lib.hid hM
     clear hM hd
     have F0:=Lib.hid f0;clear f0
     have F1:=Lib.hid f1;clear f1
     have F2:=Lib.hid f2;clear f2
     have F3:=Lib.hid f3;clear f3
     have F4:=Lib.hid f4;clear f4
     have F5:=Lib.hid f5;clear f5
     have F6:=Lib.hid f6;clear f6
     have F7:=Lib.hid f7;clear f7
     have F8:=Lib.hid f8;clear f8
     have F9:=Lib.hid f9;clear f9
     have F10:=Lib.hid f10;clear f10
     have F11:=Lib.hid f11;clear f11
     have F12:=Lib.hid f12;clear f12
     go_simp
     go_wp2
     exact ⟨_,_,_,_,_,_,_,_,_,_,_,_,_,rfl,HM.out.put12 h11,F0.out,F1.out,F2.out,F3.out,F4.out,F5.out,F6.out,F7.out,F8.out,F9.out,F10.out,F11.out,fun _=>trivial⟩
    ·intro L a' wx hL hG
     obtain ⟨u3,u18,u19,u20,u21,u22,u23,u24,u25,u26,u27,u28,u29,rfl,hM,f0,f1,f2,f3,f4,f5,f6,f7,f8,f9,f10,f11,f12⟩:=hG
     have h11 : L 11 = true:=hL 11 (by decide)
     obtain ⟨h11',h29⟩:=hM.o12 (hL 12 (by decide))
     obtain ⟨τ',hτ⟩:=hM.ex
     have hr:=hτ.m11 h11
     have hcc:=hτ.chg
     have hz:=hτ.z
     have HR : Hid (wx.ownsRow wr.heap.size 5 1 u3 (tsum [k,v] + 2) (tbs [k,v] ++ nbs [0,1]) /\ Below wr.heap.size wr wx):=Lib.hid (by
      rw [h29,HGW.out]
      have hgl:=HL.out
      exact ⟨hr.base _ (fun i hi=>by rw [hz i (by show i < w1.heap.size;omega)];decide),HB.out.trans (by
       have h:=hcc.below_of g (by show g <= w1.heap.size;omega) (fun i hi=>by rw [hz i (by show i < w1.heap.size;omega)];decide)
       exact ⟨h.os,h.tape,h.output,h.size,h.block⟩)⟩)
     clear hM hL hτ hr hcc hz h29
     go_wp2
     go_roundw
     case rel=>exact .inr ⟨by go_num,HR.out.1,HR.out.2⟩
     case measure=>simp [intOf]
  ·have HO:=Lib.hid ho
   have HB:=Lib.hid hb
   clear ho hb
   go_wp2
   go_ret
   exact ⟨_,rfl,HO.out,HB.out⟩
end Go.Proofs.Ytlhekbjidppijaa
