/- Contracts of functions that the Top rows reach, and plain laws for them: what each returns and what it leaves in memory. Conditions: those that each theorem names. -/
import Derived.Test.YtlhekbjidppijaaGreatMAB
import Derived.Test.YtlhekbjidppijaaGreatMAH
import Derived.Test.YtlhekbjidppijaaGreatMAT
import Derived.Test.YtlhekbjidppijaaGreatMAV
import Derived.Test.YtlhekbjidppijaaGreatMAW
set_option linter.unusedVariables false
set_option linter.unusedSimpArgs false
namespace Go.Proofs.Ytlhekbjidppijaa
open Go.RowKit
structure MT (w : World) (τ : Own) (tg g b : Nat) (W : World) : Prop where
 hg : Has W τ tg g 353 #[.int .i64 0,.int .i64 0,.int .i64 0,.slice none 0 0,.slice none 0 0]
 hx : Sl W (some ⟨b,0,none⟩) (bv (List.replicate 64 0))
 hb : b ≠ g
 hc : Chg (· = tg) w τ W τ
theorem zero_cell {W : World} {b : Nat} (h : Sl W (some ⟨b,0,none⟩) (bv (List.replicate 64 0))) (j : Nat) (hj : j < 64) : W.cell? ⟨b,j,none⟩ = some (.int .u8 0):=by
 obtain ⟨b',o',e,hc⟩:=h (by simp [bv])
 cases e
 have:=hc j (.int .u8 0) (by simp only [bv,List.getElem?_map,List.getElem?_replicate,if_pos hj];rfl)
 rwa [Nat.zero_add] at this
section
variable {w W W' : World} {τ : Own} {tg g b : Nat}
theorem MT.zero (h : MT w τ tg g b W) (j : Nat) (hj : j < 64) : W.cell? ⟨b,j,none⟩ = some (.int .u8 0):=zero_cell h.hx j hj
theorem MT.set_ (h : MT w τ tg g b W) (i : Nat) (hi : i < 2) : MT w τ tg g b (W.setCell ⟨g,i,none⟩ (.int .i64 0)) where
 hg:=by
  have:=h.hg.set_ i (.int .i64 0)
  have e : (#[.int .i64 0,.int .i64 0,.int .i64 0,.slice none 0 0,.slice none 0 0] : Array Value).setIfInBounds i (.int .i64 0) = #[.int .i64 0,.int .i64 0,.int .i64 0,.slice none 0 0,.slice none 0 0]:=by
   rcases i with _ | _ | i
   ·rfl
   ·rfl
   ·omega
  rwa [e] at this
 hx:=h.hx.set_ (p:=⟨g,i,none⟩) (by rintro a ha;cases ha;exact h.hb) _
 hb:=h.hb
 hc:=h.hc.setCell (p:=⟨g,i,none⟩) h.hg.own _
theorem MT.alloc (h : MT w τ tg g b W) (o : Obj) : MT w τ tg g b (W.alloc o):=⟨h.hg.alloc o,h.hx.keep ((Below.refl _ _).alloc (Nat.le_refl _) _),h.hb,h.hc.alloc o⟩
theorem MT.drewN (h : MT w τ tg g b W) (n : Nat) : MT w τ tg g b (W.drewN n):=⟨h.hg.drewN n,h.hx,h.hb,h.hc.drewN n⟩
end
def S60 : Nat:=Plain.crc (List.replicate 60 0)
theorem S60_ne : S60 ≠ 0 /\ S60 < 4294967296:=by decide +kernel
set_option maxRecDepth 20000 in
set_option maxHeartbeats 4000000 in
theorem take296 (w : World) (τ : Own) (tg g b cx : Nat) (hM : MT w τ tg g b w) (hcx : 64 <= cx) :
 Calls Tryz.prog 296 #[.pointer (some ⟨g,0,none⟩),.int .i64 0,.slice (some ⟨b,0,none⟩) 64 cx] w fun e w'=>e = .returned (.bool false) /\ MT w τ tg g b w':=by
 have k1 : (64 : Int) <= (cx : Int):=by omega
 have k2 : cx ≠ 16:=by omega
 have k3 : cx ≠ 4:=by omega
 have k4 : cx ≠ 10:=by omega
 have k5 : cx - 16 ≠ 6:=by omega
 have ew : IntKind.i64.wrap 0 = 0:=by decide
 have z4 : (4 : Int) <= (cx : Int):=by omega
 have z10 : (10 : Int) <= (cx : Int):=by omega
 have z14 : (14 : Int) <= (cx : Int):=by omega
 have z16 : (16 : Int) <= (cx : Int):=by omega
 have z6 : (6 : Int) <= ((cx - 16 : Nat) : Int):=by omega
 have HM0:=Lib.hid (hM.drewN 1)
 clear hM
 go_enter Tryz.func296,Tryz.ntmps296
 go_wp2_with fail
 have hf:=HM0.out.hg.frozen 0
 have hc3:=HM0.out.hg.cell 0
 refine wp_region_hl [4,8,12] [0,1,2,3,6,7,4,5,8,9,10,11,12] (MT w τ tg g b) (by kernel_rfl) (by kernel_rfl) HM0.out ?_
 iterate 6 (refine hd_take (v:=?_) rfl rfl (by kernel_rfl) (fun W hW=>?_) ?_;rotate_left;(first | (go_simp;done) | (go_simp;with_reducible rfl)))
 refine hd_loud rfl rfl fun K hK=>?_
 go_simp
 refine (get295 _ b 4 6 (cx - 4) (by decide) (fun j hj=>HM0.out.zero (4 + j) (by omega))).mono ?_
 rintro e w1 ⟨rfl,rfl⟩
 refine hK _ _ HM0.out ?_
 clear hK
 refine hd_take (v:=?_) rfl rfl (by kernel_rfl) (fun W hW=>?_) ?_;rotate_left;(first | (go_simp;done) | (go_simp;with_reducible rfl))
 refine hd_loud rfl rfl fun K hK=>?_
 go_simp
 refine (get295 _ b 16 6 (cx - 16) (by decide) (fun j hj=>HM0.out.zero (16 + j) (by omega))).mono ?_
 rintro e w1 ⟨rfl,rfl⟩
 refine hK _ _ HM0.out ?_
 clear hK
 iterate 3 (refine hd_take (v:=?_) rfl rfl (by kernel_rfl) (fun W hW=>?_) ?_;rotate_left;(first | (go_simp;done) | (go_simp;with_reducible rfl)))
 refine hd_loud rfl rfl fun K hK=>?_
 go_simp
 refine hK _ _ (HM0.out.set_ 0 (by decide)) (hd_end ?_)
 clear hK hf hc3
 simp only [List.length_cons,List.length_nil,List.drop_succ_cons,List.drop_zero,Nat.zero_add,Nat.reduceAdd]
 have HM1:=Lib.hid (HM0.out.set_ 0 (by decide))
 generalize (w.drewN 1).setCell ⟨g,0,none⟩ (.int .i64 0) = w1 at HM1 ⊢
 have hf:=HM1.out.hg.frozen 1
 have hc3:=HM1.out.hg.cell 1
 go_wp2_with fail
 have HM2:=Lib.hid (HM1.out.set_ 1 (by decide))
 clear hf hc3 HM0 HM1
 generalize w1.setCell ⟨g,1,none⟩ (.int .i64 0) = wx at HM2 ⊢
 have HM1:=HM2
 clear HM2
 have HG:=Lib.hid (get295 wx b 10 4 (cx - 10) (by decide) (fun j hj=>HM1.out.zero (10 + j) (by omega)))
 refine HG.out.mono ?_
 rintro e w1 ⟨rfl,rfl⟩
 clear HG
 go_wp2_with fail
 have HS60 : Hid (Plain.crc (List.replicate 60 0) = S60):=Lib.hid rfl
 have HW60 : IntKind.u64.wrap (S60 : Int) = (S60 : Int):=by have:=S60_ne.2;exact IntWalk.u64_in _ ⟨by omega,by omega⟩
 have HNE : ((S60 : Int) != 0) = true:=by rw [bne_iff_ne];have:=S60_ne.1;omega
 have HMd:=Lib.hid (HM1.out.drewN 1)
 have HPT : Hid (Sl wx.drew (some ⟨b,4,none⟩) (bv (List.replicate 60 0))):=Lib.hid (Sl.of_cells fun j u hu=>by
  have hj : j < 60:=by have:=(List.getElem?_eq_some_iff.1 hu).1;simpa [bv] using this
  have e:=(HM1.out.drewN 1).zero (4 + j) (by omega)
  simp only [bv,List.getElem?_map,List.getElem?_replicate,if_pos hj] at hu
  rw [add_none]
  exact e.trans (by simpa using hu))
 have HSU : Hid (Calls Tryz.prog 171 #[.slice (some ⟨wx.heap.size,0,none⟩) 1 1] (wx.drew.alloc (.cells #[.slice (some ⟨b,4,none⟩) 60 (cx - 4)] 74)) fun e w'=>e = .returned (.int .u32 (S60 : Int)) /\ wx.drew.alloc (.cells #[.slice (some ⟨b,4,none⟩) 60 (cx - 4)] 74) = w'):=Lib.hid (by
  refine (sum_any (some ⟨wx.heap.size,0,none⟩) 1 1 [⟨some ⟨b,4,none⟩,cx - 4,List.replicate 60 0⟩] _ ?_ rfl (by decide) ?_).mono ?_
  ·simp only [List.map_cons,List.map_nil,Part.val,List.length_replicate];exact (Blk.new wx.drew 74 #[.slice (some ⟨b,4,none⟩) 60 (cx - 4)]).sl
  ·intro p hp;rw [List.mem_singleton.1 hp];exact ⟨HPT.out.keep ((Below.refl _ _).alloc (Nat.le_refl _) _),by simp,by intro c hc;rw [List.eq_of_mem_replicate hc];decide⟩
  ·rintro e w1 ⟨rfl,rfl⟩
   exact ⟨by rw [<- HS60.out];simp [List.flatMap],rfl⟩)
 refine wp_region_hl [2,3,7,12,52] [0,1,5,6,2,3,4,7,8,9,10,11,14,15,16,17,12,13,18,19,20,21,22,23,24,25,26,27,28,29,30,31,32,33,34,35,36,37,38,39,40,41,42,43,44,45,46,47,48,49,50,51,52] (MT w τ tg g b) (by kernel_rfl) (by kernel_rfl) HMd.out ?_
 iterate 4 (refine hd_take (v:=?_) rfl rfl (by kernel_rfl) (fun W hW=>?_) ?_;rotate_left;(first | (go_simp;done) | (go_simp;with_reducible rfl)))
 refine hd_loud rfl rfl fun K hK=>?_
 go_simp
 have HMa:=Lib.hid (HMd.out.alloc (.cells #[.slice (some ⟨b,4,none⟩) 60 (cx - 4)] 74))
 refine hK _ _ HMa.out ?_
 clear hK
 refine hd_loud rfl rfl fun K hK=>?_
 go_simp
 refine HSU.out.mono ?_
 rintro e w1 ⟨rfl,rfl⟩
 refine hK _ _ HMa.out ?_
 clear hK
 refine hd_take (v:=?_) rfl rfl (by kernel_rfl) (fun W hW=>?_) ?_;rotate_left;(first | (go_simp;done) | (go_simp;with_reducible rfl))
 refine hd_loud rfl rfl fun K hK=>?_
 go_simp
 refine (get295 _ b 0 4 cx (by decide) (fun j hj=>HMa.out.zero (0 + j) (by omega))).mono ?_
 rintro e w1 ⟨rfl,rfl⟩
 refine hK _ _ HMa.out ?_
 clear hK
 iterate 2 (refine hd_take (v:=?_) rfl rfl (by kernel_rfl) (fun W hW=>?_) ?_;rotate_left;(first | (go_simp;done) | (go_simp;with_reducible rfl)))
 iterate 6 (refine hd_skip rfl rfl (by kernel_rfl) ?_)
 refine hd_loud rfl rfl fun K hK=>?_
 go_simp
 refine hK _ _ HMa.out ?_
 clear hK
 iterate 2 (refine hd_skip rfl rfl (by kernel_rfl) ?_)
 iterate 2 (refine hd_take (v:=?_) rfl rfl (by kernel_rfl) (fun W hW=>?_) ?_;rotate_left;(first | (go_simp;done) | (go_simp;with_reducible rfl)))
 iterate 6 (refine hd_skip rfl rfl (by kernel_rfl) ?_)
 iterate 2 (refine hd_take (v:=?_) rfl rfl (by kernel_rfl) (fun W hW=>?_) ?_;rotate_left;(first | (go_simp;done) | (go_simp;with_reducible rfl)))
 iterate 6 (refine hd_skip rfl rfl (by kernel_rfl) ?_)
 iterate 2 (refine hd_take (v:=?_) rfl rfl (by kernel_rfl) (fun W hW=>?_) ?_;rotate_left;(first | (go_simp;done) | (go_simp;with_reducible rfl)))
 iterate 7 (refine hd_skip rfl rfl (by kernel_rfl) ?_)
 iterate 2 (refine hd_take (v:=?_) rfl rfl (by kernel_rfl) (fun W hW=>?_) ?_;rotate_left;(first | (go_simp;done) | (go_simp;with_reducible rfl)))
 iterate 6 (refine hd_skip rfl rfl (by kernel_rfl) ?_)
 refine hd_loud rfl rfl fun K hK=>?_
 go_simp
 refine hK _ _ HMa.out (hd_end ?_)
 clear hK
 simp only [List.length_cons,List.length_nil,List.drop_succ_cons,List.drop_zero,Nat.zero_add,Nat.reduceAdd]
 go_wp2
 go_ret
 exact ⟨rfl,HMa.out⟩
end Go.Proofs.Ytlhekbjidppijaa
namespace Go.Proofs.Ytlhekbjidppijaa
open Go.RowKit
def RdS (lp d from_ : Nat) (W : World) : Prop:=W.cell? ⟨lp,0,none⟩ = some (.pointer (some ⟨d,0,none⟩)) /\ W.cell? ⟨lp,1,none⟩ = some (.int .i64 (from_ : Int)) /\ W.cell? ⟨lp,5,none⟩ = some (.int .i64 1)
structure MR (w : World) (τ : Own) (t td lp d from_ segs n nxt g y : Nat) (fr : Bool) (vL : Value) (Z : Nat -> Prop) (W : World) : Prop where
 hl : Has W (ext τ w y) t lp 328 #[ptr d,.int .i64 (from_ : Int),.int .i64 (segs : Int),vL,.int .i64 (nxt : Int),.int .i64 1,.bool fr]
 hg : Has W (ext τ w y) y g 353 #[.int .i64 0,.int .i64 0,.int .i64 0,.slice none 0 0,.slice none 0 0]
 hd : DevAt W (ext τ w y) td d n Z
 hne : t ≠ y /\ td ≠ y /\ t ≠ td
 hc : Chg (fun x=>x = t \/ x = y) w τ W (ext τ w y)
section
variable {w W W' : World} {τ : Own} {t td lp d from_ segs n nxt g y : Nat} {fr : Bool} {vL : Value} {Z : Nat -> Prop}
theorem MR.drewN (h : MR w τ t td lp d from_ segs n nxt g y fr vL Z W) (m : Nat) : MR w τ t td lp d from_ segs n nxt g y fr vL Z (W.drewN m):=⟨h.hl.drewN m,h.hg.drewN m,h.hd.drewN m,h.hne,h.hc.drewN m⟩
theorem MR.below (h : MR w τ t td lp d from_ segs n nxt g y fr vL Z W) (hb : Below W.heap.size W W') : MR w τ t td lp d from_ segs n nxt g y fr vL Z W':=by
 have hc : Chg (fun _=>False) W (ext τ w y) W' (ext τ w y):=Chg.same_own hb
 exact ⟨h.hl.keep hc id,h.hg.keep hc id,h.hd.keep hc id,h.hne,h.hc.trans (hc.mono fun _ e=>e.elim)⟩
theorem MR.set5 (h : MR w τ t td lp d from_ segs n nxt g y fr vL Z W) : MR w τ t td lp d from_ segs n nxt g y fr vL Z (W.setCell ⟨lp,5,none⟩ (.int .i64 1)) where
 hl:=by have:=h.hl.set_ 5 (.int .i64 1);simpa using this
 hg:=h.hg.far (h.hg.other h.hl (.inr (by decide))) _
 hd:=h.hd.far (by show ext τ w y lp ≠ _;rw [h.hl.own];exact h.hne.2.2) _
 hne:=h.hne
 hc:=h.hc.setCell (p:=⟨lp,5,none⟩) (.inl h.hl.own) _
theorem MR.set0 (h : MR w τ t td lp d from_ segs n nxt g y fr vL Z W) : MR w τ t td lp d from_ segs n nxt g y fr vL Z (W.setCell ⟨g,0,none⟩ (.int .i64 0)) where
 hl:=h.hl.far (h.hl.other h.hg (.inr (by decide))) _
 hg:=by have:=h.hg.set_ 0 (.int .i64 0);simpa using this
 hd:=h.hd.far (by show ext τ w y g ≠ _;rw [h.hg.own];exact Ne.symm h.hne.2.1) _
 hne:=h.hne
 hc:=h.hc.setCell (p:=⟨g,0,none⟩) (.inr h.hg.own) _
theorem MR.read (h : MR w τ t td lp d from_ segs n nxt g y fr vL Z W) {v : Value} {l : List Nat} (l1 : l.length = 64) (l2 : l = List.replicate 64 0) (ho : W'.ownsRow W.heap.size 5 1 v 64 (bv l)) (hb : Below W.heap.size W W') :
 ∃ bx cx,v = .slice (some ⟨bx,0,none⟩) 64 cx /\ 64 <= cx /\ bx ≠ g /\ bx ≠ lp /\ Sl W' (some ⟨bx,0,none⟩) (bv (List.replicate 64 0)) /\ MR w τ t td lp d from_ segs n nxt g y fr vL Z W':=by
 obtain ⟨bx,cx,rfl,h5,h6⟩:=ho.form (by decide)
 have hle:=ho.lt bx rfl
 have h1:=h.hg.lt
 have h2:=h.hl.lt
 subst l2
 have hr:=Rw.of_new ho (Nat.le_refl _) (ext τ w y) y
 obtain ⟨A,c,e,hc,-,-,hs,-⟩:=hr.slice
 cases e
 exact ⟨bx,cx,rfl,hc,by omega,by omega,hs,h.below hb⟩
theorem MR.take (h : MR w τ t td lp d from_ segs n nxt g y fr vL Z W) {b : Nat} (h' : MT W (ext τ w y) y g b W') : MR w τ t td lp d from_ segs n nxt g y fr vL Z W':=
 ⟨h.hl.keep h'.hc h.hne.1,h'.hg,h.hd.keep h'.hc h.hne.2.1,h.hne,h.hc.trans (h'.hc.mono fun _ e=>.inr e)⟩
end
set_option maxRecDepth 20000 in
set_option maxHeartbeats 4000000 in
theorem read274 (w : World) (τ : Own) (t td lp d from_ segs n nxt k : Nat) (fr : Bool) (vL : Value) (Z : Nat -> Prop) (hl : Has w τ t lp 328 #[ptr d,.int .i64 (from_ : Int),.int .i64 (segs : Int),vL,.int .i64 (nxt : Int),.int .i64 1,.bool fr])
 (hd : DevAt w τ td d n Z) (hne : t ≠ td) (hn : from_ + k * 8 + 8 <= n) (hn2 : n <= 2048) (hz : ∀ i,i < 8 -> Z (from_ + k * 8 + i)) :
 Calls Tryz.prog 274 #[.pointer (some ⟨lp,0,none⟩),.int .i64 (k : Int)] w fun e w'=>e = .returned (.pointer none) /\ ∃ τ',Has w' τ' t lp 328 #[ptr d,.int .i64 (from_ : Int),.int .i64 (segs : Int),vL,.int .i64 (nxt : Int),.int .i64 1,.bool fr] /\ DevAt w' τ' td d n Z /\ Chg (· = t) w τ w' τ':=by
 obtain ⟨y,hy1,hy2⟩:=fresh95 w τ
 have hty : t ≠ y:=by rintro rfl;exact hy2 _ hl.lt hl.own
 have htd : td ≠ y:=by rintro rfl;exact hy2 _ hd.own.1 hd.own.2
 obtain ⟨g,hg⟩ : ∃ g,g = w.heap.size:=⟨_,rfl⟩
 obtain ⟨W1,hW1⟩ : ∃ W,W = w.alloc (.cells #[.int .i64 0,.int .i64 0,.int .i64 0,.slice none 0 0,.slice none 0 0] 353):=⟨_,rfl⟩
 have hch : Chg (fun _=>False) w τ W1 (ext τ w y):=by rw [hW1];exact ((Chg.refl _ _ _).alloc _).ext y
 have HB : Hid (MR w τ t td lp d from_ segs n nxt g y fr vL Z W1):=Lib.hid ⟨hl.keep hch id,by rw [hW1,hg];exact ⟨Blk.new _ _ _,ext_new (Nat.le_refl _)⟩,hd.keep hch id,⟨hty,htd,hne⟩,hch.mono fun _ e=>e.elim⟩
 have HFIN : Hid (∀ W,MR w τ t td lp d from_ segs n nxt g y fr vL Z W -> ∃ τ',Has W τ' t lp 328 #[ptr d,.int .i64 (from_ : Int),.int .i64 (segs : Int),vL,.int .i64 (nxt : Int),.int .i64 1,.bool fr] /\ DevAt W τ' td d n Z /\ Chg (· = t) w τ W τ'):=Lib.hid fun W h=>⟨_,h.hl,h.hd,h.hc.fresh fun i hi e=>e.elim id fun e=>absurd e (hy2 i hi)⟩
 have HZ:=Lib.hid hz
 have HN : Hid (from_ + k * 8 + 8 <= n /\ n <= 2048):=Lib.hid ⟨hn,hn2⟩
 have HW:=Lib.hid hW1
 have HG:=Lib.hid hg
 clear hl hd hz hW1 hg hy1 hy2 hty htd hch hn hn2
 go_enter Tryz.func274,Tryz.ntmps274
 go_wp2
 rw [<- HW.out,<- HG.out]
 go_loopw [6,12] (fun a b wr=>∃ i : Nat,i <= 8 /\ a = .bool (decide (i = 0)) /\ b = .int .i64 i /\ MR w τ t td lp d from_ segs n nxt g y fr vL Z wr) (fun _ b _=>8 - (intOf b).toNat)
 case atStart=>exact ⟨0,Nat.zero_le _,rfl,rfl,HB.out⟩
 case round=>
  obtain ⟨i,hi,rfl,rfl,hb⟩:=hrel
  clear HB
  have HB:=Lib.hid hb
  clear hb
  by_cases hlt : i < 8
  ·have k1 : (i : Int) < 8:=by omega
   have k2 : (0 : Int) <= (i : Int):=by omega
   have hnn:=HN.out
   have HX0 : Hid (from_ + k * 8 + i < n /\ Z (from_ + k * 8 + i)):=Lib.hid ⟨by omega,HZ.out i hlt⟩
   have x1 : IntKind.i64.wrap ((k : Int) * 8) = (k : Int) * 8:=IntWalk.i64_in _ ⟨by omega,by omega⟩
   have x2 : IntKind.i64.wrap ((from_ : Int) + (k : Int) * 8) = (from_ : Int) + (k : Int) * 8:=IntWalk.i64_in _ ⟨by omega,by omega⟩
   have x3 : IntKind.i64.wrap ((from_ : Int) + (k : Int) * 8 + (i : Int)) = ((from_ + k * 8 + i : Nat) : Int):=by rw [IntWalk.i64_in _ ⟨by omega,by omega⟩];omega
   clear hnn
   go_wp2_with fail
   have HB0:=Lib.hid (HB.out.drewN 1)
   have hRS : ∀ W,MR w τ t td lp d from_ segs n nxt g y fr vL Z W -> RdS lp d from_ W:=fun W h=>⟨h.hl.cell 0,h.hl.cell 1,h.hl.cell 5⟩
   have HRS:=Lib.hid hRS
   have S0:=Lib.hid (hRS _ HB0.out)
   clear hRS
   refine wp_region_hl [13] [0,1,2,3,4,5,6,7,8,9,10,11,12,13,14,15,16,17] (RdS lp d from_) (by kernel_rfl) (by kernel_rfl) S0.out ?_
   iterate 13 (refine hd_take (v:=?_) rfl rfl (by kernel_rfl) (fun W hW=>?_) ?_;rotate_left;(obtain ⟨r0,r1,r2⟩:=hW;first | (go_simp;done) | (go_simp;with_reducible rfl)))
   refine hd_loud rfl rfl fun K hK=>?_
   go_simp
   refine (read_any _ _ td d n Z HB0.out.hd (from_ + k * 8 + i) HX0.out.1).mono ?_
   rintro e w1 ⟨v,l,rfl,l1,l2,l3,l4,l5⟩
   obtain ⟨bx,cx,rfl,hcx,hbg,hbl,hsx,hmr⟩:=HB0.out.read l1 (l3 HX0.out.2) l4 l5
   refine hK _ _ (HRS.out _ hmr) ?_
   clear hK l1 l2 l3 l4 l5
   iterate 4 (refine hd_take (v:=?_) rfl rfl (by kernel_rfl) (fun W hW=>?_) ?_;rotate_left;(obtain ⟨r0,r1,r2⟩:=hW;first | (go_simp;done) | (go_simp;with_reducible rfl)))
   refine hd_end ?_
   simp only [List.length_cons,List.length_nil,List.drop_succ_cons,List.drop_zero,Nat.zero_add,Nat.reduceAdd]
   clear HB HB0 x1 x2 x3
   have HM1:=Lib.hid (And.intro hsx hmr)
   have HNE : Hid (bx ≠ g /\ bx ≠ lp):=Lib.hid ⟨hbg,hbl⟩
   have j1 : (64 : Int) <= (cx : Int):=by omega
   have j2 : cx ≠ 10:=by omega
   have j3 : (14 : Int) <= (cx : Int):=by omega
   have j4 : (10 : Int) <= (cx : Int):=by omega
   have HCX:=Lib.hid hcx
   have S1:=Lib.hid (HRS.out _ (hmr.drewN 1))
   have HM1d:=Lib.hid (And.intro (show Sl (w1.drewN 1) (some ⟨bx,0,none⟩) (bv (List.replicate 64 0)) from hsx) (hmr.drewN 1))
   clear hsx hmr hbg hbl hcx
   go_wp2_with fail
   refine wp_region_hl [7,10] [0,1,2,3,4,5,6,7,8,9,10] (RdS lp d from_) (by kernel_rfl) (by kernel_rfl) S1.out ?_
   iterate 7 (refine hd_take (v:=?_) rfl rfl (by kernel_rfl) (fun W hW=>?_) ?_;rotate_left;(obtain ⟨r0,r1,r2⟩:=hW;first | (go_simp;done) | (go_simp;with_reducible rfl)))
   refine hd_loud rfl rfl fun K hK=>?_
   go_simp
   refine (get295 _ bx 10 4 (cx - 10) (by decide) (fun j hj=>zero_cell HM1d.out.1 (10 + j) (by omega))).mono ?_
   rintro e w2 ⟨rfl,rfl⟩
   refine hK _ _ S1.out ?_
   clear hK
   iterate 2 (refine hd_take (v:=?_) rfl rfl (by kernel_rfl) (fun W hW=>?_) ?_;rotate_left;(obtain ⟨r0,r1,r2⟩:=hW;first | (go_simp;done) | (go_simp;with_reducible rfl)))
   refine hd_loud rfl rfl fun K hK=>?_
   go_simp
   refine hK _ _ S1.out (hd_end ?_)
   clear hK
   simp only [List.length_cons,List.length_nil,List.drop_succ_cons,List.drop_zero,Nat.zero_add,Nat.reduceAdd]
   have hf:=HM1d.out.2.hl.frozen 5
   have hc3:=HM1d.out.2.hl.cell 5
   have HM2 : Hid (Sl _ (some ⟨bx,0,none⟩) (bv (List.replicate 64 0)) /\ MR w τ t td lp d from_ segs n nxt g y fr vL Z _):=Lib.hid (And.intro (HM1d.out.1.set_ (p:=⟨lp,5,none⟩) (by rintro a ha;cases ha;exact HNE.out.2) (.int .i64 1)) (HM1d.out.2.set5))
   clear HM1 HM1d S0 S1
   by_cases hi0 : i = 0
   ·subst hi0
    go_wp2_with fail
    clear hf hc3
    generalize (w1.drewN 1).setCell ⟨lp,5,none⟩ (.int .i64 1) = wx at HM2 ⊢
    have HT:=Lib.hid (take296 wx (ext τ w y) y g bx cx ⟨HM2.out.2.hg,HM2.out.1,HNE.out.1,Chg.refl _ _ _⟩ HCX.out)
    refine HT.out.mono ?_
    rintro e w5 ⟨rfl,hmt⟩
    have HM3:=Lib.hid (HM2.out.2.take hmt)
    have c1 : w5.cell? ⟨g,0,none⟩ = some (.int .i64 0):=HM3.out.hg.cell 0
    have c2:=HM3.out.hg.frozen 0
    have HM4:=Lib.hid (HM3.out.set0)
    clear hmt HM2 HT
    go_wp2
    go_roundw
    case rel=>exact ⟨1,by omega,rfl,rfl,HM4.out⟩
    case measure=>simp [intOf]
   ·have hde : decide (i = 0) = false:=by simp [hi0]
    have hde2 : ((i : Int) == 0) = false:=by rw [beq_eq_false_iff_ne];omega
    have hde3 : ¬ ((i : Int) = 0):=by omega
    go_wp2
    go_roundw
    case rel=>exact ⟨i + 1,by omega,by simp,by go_num,HM2.out.2⟩
    case measure=>simp [intOf];omega
  ·obtain rfl : i = 8:=by omega
   have HB1:=Lib.hid (HB.out.drewN 1)
   have c1 : wr.cell? ⟨g,0,none⟩ = some (.int .i64 0):=HB.out.hg.cell 0
   have c2 : wr.cell? ⟨lp,2,none⟩ = some (.int .i64 (segs : Int)):=HB.out.hl.cell 2
   go_wp2_with fail
   go_quiet (fail)
   have HB2:=Lib.hid (HB.out.drewN nq)
   clear c1 c2 HB HB1
   go_wp2
   go_ret
   exact ⟨rfl,HFIN.out _ HB2.out⟩
end Go.Proofs.Ytlhekbjidppijaa
namespace Go.Proofs.Ytlhekbjidppijaa
open Go.RowKit
structure OG (w : World) (τ : Own) (t td lp d from_ segs n : Nat) (Z : Nat -> Prop) (W : World) (τ' : Own) : Prop where
 hl : Has W τ' t lp 328 #[ptr d,.int .i64 (from_ : Int),.int .i64 (segs : Int),.slice none 0 0,.int .i64 1,.int .i64 1,.bool true]
 hd : DevAt W τ' td d n Z
 hc : Chg (· = t) w τ W τ'
set_option maxRecDepth 20000 in
set_option maxHeartbeats 2000000 in
theorem open255 (w : World) (τ : Own) (t td d n from_ segs : Nat) (Z : Nat -> Prop) (hD : DevAt w τ td d n Z) (ht : t < 95) (htd : t ≠ td) (hs : 3 <= segs) (hs2 : segs <= 200) (hn : from_ + segs * 8 <= n) (hn2 : n <= 2048) (hz : ∀ i,from_ <= i -> i < from_ + segs * 8 -> Z i) :
 Calls Tryz.prog 255 #[.pointer (some ⟨d,0,none⟩),.int .i64 (from_ : Int),.int .i64 (segs : Int)] w fun e w'=>∃ lp τ',e = .returned (.tuple #[.pointer (some ⟨lp,0,none⟩),.int .i64 0]) /\ LogAt w' τ' t lp d from_ segs true [] /\ DevAt w' τ' td d n Z /\ Chg (· = t) w τ w' τ':=by
 obtain ⟨W1,hW1⟩ : ∃ W,W = w.alloc (.cells #[.int .i64 (segs : Int)] 3):=⟨_,rfl⟩
 obtain ⟨sb,hsb⟩ : ∃ b,b = w.heap.size:=⟨_,rfl⟩
 have hD1 : DevAt W1 τ td d n Z:=by rw [hW1];exact hD.keep ((Chg.refl (fun _=>False) w τ).alloc _) id
 have HLEN : Hid (∀ j,Calls Tryz.prog 175 #[.pointer (some ⟨d,0,none⟩)] (W1.drewN j) fun e w''=>e = .returned (.int .i64 (n : Int)) /\ ∃ m,w'' = W1.drewN m):=Lib.hid fun j=>(len_any (W1.drewN j) τ td d n Z (hD1.drewN j)).mono fun e w' ⟨h1,h2⟩=>⟨h1,j,h2⟩
 have HOG : Hid (∀ m,OG w τ t td (sb + 1) d from_ segs n Z ((W1.drewN m).alloc (.cells #[.pointer (some ⟨d,0,none⟩),.int .i64 (from_ : Int),.int .i64 (segs : Int),.slice none 0 0,.int .i64 1,.int .i64 1,.bool true] 328)) (ext τ w t)):=Lib.hid fun m=>by
  have hc : Chg (fun _=>False) w τ ((W1.drewN m).alloc (.cells #[.pointer (some ⟨d,0,none⟩),.int .i64 (from_ : Int),.int .i64 (segs : Int),.slice none 0 0,.int .i64 1,.int .i64 1,.bool true] 328)) (ext τ w t):=by
   rw [hW1]
   exact ((((Chg.refl (fun _=>False) w τ).alloc _).drewN m).alloc _).ext t
  refine ⟨⟨?_,ext_new (by omega)⟩,hD.keep hc id,hc.mono fun _ e=>e.elim⟩
  have:=Blk.new (W1.drewN m) 328 #[.pointer (some ⟨d,0,none⟩),.int .i64 (from_ : Int),.int .i64 (segs : Int),.slice none 0 0,.int .i64 1,.int .i64 1,.bool true]
  have e : (W1.drewN m).heap.size = sb + 1:=by rw [hW1,hsb];simp
  rw [e] at this
  exact this
 have HRD : Hid (∀ k W τ',k < segs -> OG w τ t td (sb + 1) d from_ segs n Z W τ' -> Calls Tryz.prog 274 #[.pointer (some ⟨sb + 1,0,none⟩),.int .i64 (k : Int)] W fun e w'=>e = .returned (.pointer none) /\ ∃ τ2,OG w τ t td (sb + 1) d from_ segs n Z w' τ2):=Lib.hid fun k W τ' hk h=>by
  refine (read274 W τ' t td (sb + 1) d from_ segs n 1 k true _ Z h.hl h.hd htd (by omega) hn2 (fun i hi=>hz _ (by omega) (by omega))).mono ?_
  rintro e w' ⟨rfl,τ2,a,b,c⟩
  exact ⟨rfl,τ2,a,b,h.hc.trans c⟩
 have HFIN : Hid (∀ W τ',OG w τ t td (sb + 1) d from_ segs n Z W τ' -> LogAt W τ' t (sb + 1) d from_ segs true [] /\ DevAt W τ' td d n Z /\ Chg (· = t) w τ W τ'):=Lib.hid fun W τ' h=>by
  refine ⟨⟨[],⟨ht,⟨.slice none 0 0,h.hl,Rw.nil _ _ _ _ _⟩,fun k p hp=>by simp at hp⟩,rfl,by simp⟩,h.hd,h.hc⟩
 have e1 : w.heap.size + 1 = sb + 1:=by rw [hsb]
 have HSB:=Lib.hid hsb
 have HW1:=Lib.hid hW1
 have c0 : W1.cell? ⟨sb,0,none⟩ = some (.int .i64 (segs : Int)):=by rw [hW1,hsb];exact (Blk.new w 3 #[.int .i64 (segs : Int)]).cell 0
 have k1 : decide ((segs : Int) < 3) = false:=by rw [decide_eq_false_iff_not];omega
 have k2 : decide (200 < (segs : Int)) = false:=by rw [decide_eq_false_iff_not];omega
 have k3 : decide ((from_ : Int) < 0) = false:=by rw [decide_eq_false_iff_not];omega
 have k4 : decide ((n : Int) - (segs : Int) * 8 < (from_ : Int)) = false:=by rw [decide_eq_false_iff_not];omega
 have k5 : (segs : Int) <= 200:=by omega
 have k6 : (n : Int) <= 2048:=by omega
 have k7 : (from_ : Int) <= 2048:=by omega
 have HSG : Hid (segs <= 200):=Lib.hid hs2
 have k8 : (0 : Int) <= (segs : Int):=by omega
 have hsz : W1.heap.size = sb + 1:=by rw [hW1,hsb];simp
 clear hD hD1 ht hs hs2 hn hn2 hz htd e1 hW1 hsb
 go_enter Tryz.func255,Tryz.ntmps255
 go_wp2_with fail
 rw [<- HW1.out,<- HSB.out]
 go_quiet (exact HLEN.out _)
 go_wp2_with fail
 have HO:=Lib.hid (HOG.out nq)
 generalize (W1.drewN nq).alloc (.cells #[.pointer (some ⟨d,0,none⟩),.int .i64 (from_ : Int),.int .i64 (segs : Int),.slice none 0 0,.int .i64 1,.int .i64 1,.bool true] 328) = W2 at *
 clear HOG HLEN hsz c0
 go_loopw [43] (fun i wr=>∃ (k : Nat) (τ' : Own),k <= segs /\ i = .int .i64 (k : Int) /\ OG w τ t td (sb + 1) d from_ segs n Z wr τ') (fun i _=>segs - (intOf i).toNat)
 case atStart=>exact ⟨0,_,Nat.zero_le _,rfl,HO.out⟩
 case round=>
  obtain ⟨k,τ',hk,rfl,hog⟩:=hrel
  clear HO
  have HO:=Lib.hid hog
  clear hog
  by_cases hlt : k < segs
  ·have j1 : (k : Int) < (segs : Int):=by omega
   go_wp2_with fail
   refine (HRD.out k wr τ' hlt HO.out).mono ?_
   rintro e w1 ⟨rfl,τ2,h2⟩
   have HO2:=Lib.hid h2
   clear h2
   go_wp2
   go_roundw
   case rel=>exact ⟨k + 1,τ2,by omega,by go_num,HO2.out⟩
   case measure=>simp [intOf];omega
  ·obtain rfl : k = segs:=by omega
   have c3 : wr.cell? ⟨sb + 1,3,none⟩ = some (.slice none 0 0):=HO.out.hl.cell 3
   have HSO:=Lib.hid (sort275z wr (.func (.func 276) #[] #[]))
   go_wp2_with fail
   refine HSO.out.mono ?_
   rintro e w1 ⟨⟨v,rfl⟩,rfl⟩
   clear HSO
   go_wp2
   go_ret2
   exact ⟨sb + 1,τ',rfl,HFIN.out _ _ HO.out⟩
end Go.Proofs.Ytlhekbjidppijaa
namespace Go.Proofs.Ytlhekbjidppijaa
open Go.RowKit
theorem all256z (w : World) (τ : Own) (t lp d from_ segs : Nat) (fr : Bool) (hL : LogAt w τ t lp d from_ segs fr []) :
 Calls Tryz.prog 256 #[.pointer (some ⟨lp,0,none⟩)] w fun e w'=>e = .returned (.slice none 0 0) /\ w' = w:=by
 obtain ⟨S,hS,hfl,hnn⟩:=hL.ex
 have hS0 : S = []:=by
  cases S with
  | nil=>rfl
  | cons p S=>
   have h1:=segs_le _ hnn
   rw [hfl] at h1
   simp at h1
 subst hS0
 obtain ⟨vL,h1,h2⟩:=hS.ex
 obtain ⟨A,c,rfl,-⟩:=h2.slice
 have p1 : w.cell? ⟨lp,3,none⟩ = some (.slice A 0 c):=h1.cell 3
 clear hL hS h1 h2 hnn hfl
 go_enter Tryz.func256,Tryz.ntmps256
 go_wp2
 go_loop [3,15] (fun o i=>o = .slice none 0 0 /\ i = .int .i64 0) (fun _ _=>0)
 case atStart=>exact ⟨rfl,rfl⟩
 case round=>
  obtain ⟨rfl,rfl⟩:=hrel
  go_wp2
  go_ret
  exact ⟨rfl,rfl⟩
set_option maxRecDepth 20000 in
set_option maxHeartbeats 1000000 in
theorem open226 (w : World) (τ : Own) (tc td d n from_ segs : Nat) (Z : Nat -> Prop) (hD : DevAt w τ td d n Z) (ht : tc + 2 < 95) (htd : td < 95 /\ (td < tc \/ tc + 2 < td)) (hs : 3 <= segs) (hs2 : segs <= 200) (hn : from_ + segs * 8 <= n) (hn2 : n <= 2048) (hz : ∀ i,from_ <= i -> i < from_ + segs * 8 -> Z i) :
 Calls Tryz.prog 226 #[.pointer (some ⟨d,0,none⟩),.int .i64 (from_ : Int),.int .i64 (segs : Int)] w fun e w'=>∃ c τ',e = .returned (.tuple #[.pointer (some ⟨c,0,none⟩),.int .i64 0]) /\ FlashAt w' τ' tc c d from_ segs n ⟨[],List.replicate 16 Place.zero,0,0⟩ /\ DevAt w' τ' td d n Z /\ Chg (· = tc + 2) w τ w' τ':=by
 have HOP:=Lib.hid (open255 w τ (tc + 2) td d n from_ segs Z hD ht (by omega) hs hs2 hn hn2 hz)
 have HN : Hid (tc + 2 < 95 /\ from_ + segs * 8 <= n /\ n <= 2048):=Lib.hid ⟨ht,hn,hn2⟩
 have HTD:=Lib.hid htd
 clear hD ht htd hs hs2 hn hn2 hz
 go_enter Tryz.func226,Tryz.ntmps226
 go_wp2_with fail
 refine HOP.out.mono ?_
 rintro e w1 ⟨lp,τ1,rfl,a1,a2,a3⟩
 have HNEW:=Lib.hid (new257 w1 τ1 (tc + 1))
 have HA:=Lib.hid (And.intro a1 (And.intro a2 a3))
 clear a1 a2 a3 HOP
 go_wp2_with fail
 refine HNEW.out.mono ?_
 rintro e w2 ⟨x,rfl,hi,hb⟩
 have hn:=HN.out
 have ht2:=HTD.out
 have hq : Chg (fun _=>False) w1 τ1 w2 (ext τ1 w1 (tc + 1)):=Chg.of_below hb _
 have hq2 : Chg (fun _=>False) w2 (ext τ1 w1 (tc + 1)) (w2.alloc (.cells #[.pointer (some ⟨lp,0,none⟩),.pointer (some ⟨x,0,none⟩)] 274)) (ext (ext τ1 w1 (tc + 1)) w2 tc):=((Chg.refl _ _ _).alloc _).ext tc
 have hq3:=hq.trans hq2
 have HF : Hid (LogAt (w2.alloc (.cells #[.pointer (some ⟨lp,0,none⟩),.pointer (some ⟨x,0,none⟩)] 274)) (ext (ext τ1 w1 (tc + 1)) w2 tc) (tc + 2) lp d from_ segs true [] /\ IndexAt (w2.alloc (.cells #[.pointer (some ⟨lp,0,none⟩),.pointer (some ⟨x,0,none⟩)] 274)) (ext (ext τ1 w1 (tc + 1)) w2 tc) (tc + 1) x (List.replicate 16 Place.zero) 0 0 /\ Has (w2.alloc (.cells #[.pointer (some ⟨lp,0,none⟩),.pointer (some ⟨x,0,none⟩)] 274)) (ext (ext τ1 w1 (tc + 1)) w2 tc) tc w2.heap.size 274 #[.pointer (some ⟨lp,0,none⟩),.pointer (some ⟨x,0,none⟩)] /\ DevAt (w2.alloc (.cells #[.pointer (some ⟨lp,0,none⟩),.pointer (some ⟨x,0,none⟩)] 274)) (ext (ext τ1 w1 (tc + 1)) w2 tc) td d n Z /\ Chg (· = tc + 2) w τ (w2.alloc (.cells #[.pointer (some ⟨lp,0,none⟩),.pointer (some ⟨x,0,none⟩)] 274)) (ext (ext τ1 w1 (tc + 1)) w2 tc)):=Lib.hid
  ⟨HA.out.1.keep hq3 (fun _ e=>e.elim),hi.keep hq2 id,⟨Blk.new _ _ _,ext_new (Nat.le_refl _)⟩,HA.out.2.1.keep hq3 id,HA.out.2.2.trans (hq3.mono fun _ e=>e.elim)⟩
 clear hi hb hn ht2 hq hq2 hq3 HNEW HA
 go_wp2_with fail
 generalize w2.alloc (.cells #[.pointer (some ⟨lp,0,none⟩),.pointer (some ⟨x,0,none⟩)] 274) = W3 at *
 generalize ext (ext τ1 w1 (tc + 1)) w2 tc = τ3 at *
 refine (all256z W3 τ3 (tc + 2) lp d from_ segs true HF.out.1).mono ?_
 rintro e w4 ⟨rfl,rfl⟩
 go_wp2
 go_loop [32] (fun i=>i = .int .i64 0) (fun _=>0)
 case atStart=>rfl
 case round=>
  subst hrel
  go_wp2
  go_ret2
  exact ⟨w2.heap.size,rfl,τ3,⟨⟨lp,x,true,HF.out.2.2.1,HF.out.1,HF.out.2.1⟩,HN.out.1,by simp,HN.out.2,Nat.zero_le _⟩,HF.out.2.2.2.1,HF.out.2.2.2.2⟩
end Go.Proofs.Ytlhekbjidppijaa
namespace Go.Proofs.Ytlhekbjidppijaa
open Go.RowKit
set_option maxRecDepth 20000 in
set_option maxHeartbeats 1000000 in
theorem open225 (w : World) (τ : Own) (tj td d n from_ segs : Nat) (Z : Nat -> Prop) (hD : DevAt w τ td d n Z) (ht : tj + 2 < 95) (htd : td < 95 /\ (td < tj \/ tj + 2 < td)) (hs : 20 <= segs) (hs2 : segs <= 200) (hn : from_ + segs * 8 <= n) (hn2 : n <= 2048) (hz : ∀ i,from_ <= i -> i < from_ + segs * 8 -> Z i) :
 Calls Tryz.prog 225 #[.pointer (some ⟨d,0,none⟩),.int .i64 (from_ : Int),.int .i64 (segs : Int)] w fun e w'=>∃ c τ',e = .returned (.tuple #[.pointer (some ⟨c,0,none⟩),.int .i64 0]) /\ JournalAt w' τ' tj c d from_ segs n 0 /\ DevAt w' τ' td d n Z /\ Chg (· = tj + 2) w τ w' τ':=by
 have HOP:=Lib.hid (open255 w τ (tj + 2) td d n from_ segs Z hD ht (by omega) (by omega) hs2 hn hn2 hz)
 have HN : Hid (tj + 2 < 95 /\ from_ + segs * 8 <= n /\ n <= 2048):=Lib.hid ⟨ht,hn,hn2⟩
 have HTD:=Lib.hid htd
 have k1 : ¬ ((segs : Int) < 20):=by omega
 clear hD ht htd hs hs2 hn hn2 hz
 go_enter Tryz.func225,Tryz.ntmps225
 go_wp2_with fail
 refine HOP.out.mono ?_
 rintro e w1 ⟨lp,τ1,rfl,a1,a2,a3⟩
 have hq : Chg (fun _=>False) w1 τ1 (w1.alloc (.cells #[.pointer (some ⟨lp,0,none⟩),.slice none 0 0] 299)) (ext τ1 w1 tj):=((Chg.refl _ _ _).alloc _).ext tj
 have HF : Hid (LogAt (w1.alloc (.cells #[.pointer (some ⟨lp,0,none⟩),.slice none 0 0] 299)) (ext τ1 w1 tj) (tj + 2) lp d from_ segs true [] /\ Has (w1.alloc (.cells #[.pointer (some ⟨lp,0,none⟩),.slice none 0 0] 299)) (ext τ1 w1 tj) tj w1.heap.size 299 #[.pointer (some ⟨lp,0,none⟩),.slice none 0 0] /\ DevAt (w1.alloc (.cells #[.pointer (some ⟨lp,0,none⟩),.slice none 0 0] 299)) (ext τ1 w1 tj) td d n Z /\ Chg (· = tj + 2) w τ (w1.alloc (.cells #[.pointer (some ⟨lp,0,none⟩),.slice none 0 0] 299)) (ext τ1 w1 tj)):=Lib.hid
  ⟨a1.keep hq (fun _ e=>e.elim),⟨Blk.new _ _ _,ext_new (Nat.le_refl _)⟩,a2.keep hq id,a3.trans (hq.mono fun _ e=>e.elim)⟩
 clear a1 a2 a3 HOP hq
 go_wp2_with fail
 generalize w1.alloc (.cells #[.pointer (some ⟨lp,0,none⟩),.slice none 0 0] 299) = W3 at *
 generalize ext τ1 w1 tj = τ3 at *
 refine (all256z W3 τ3 (tj + 2) lp d from_ segs true HF.out.1).mono ?_
 rintro e w4 ⟨rfl,rfl⟩
 go_wp2
 go_loop [38] (fun i=>i = .int .i64 0) (fun _=>0)
 case atStart=>rfl
 case round=>
  subst hrel
  go_wp2
  go_ret2
  exact ⟨w1.heap.size,rfl,τ3,⟨⟨lp,true,.slice none 0 0,[],[],rfl,rfl,HF.out.2.1,Rw.nil _ _ _ _ _,HF.out.1⟩,HN.out.1,HN.out.2,Nat.zero_le _⟩,HF.out.2.2.1,HF.out.2.2.2⟩
end Go.Proofs.Ytlhekbjidppijaa
