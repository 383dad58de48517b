/- Contracts of functions that the Top rows reach, and plain laws for them: what each returns and what it leaves in memory. Conditions: those that each theorem names. -/
import Derived.Test.YtlhekbjidppijaaGreatMAB
import Derived.Test.YtlhekbjidppijaaGreatMAS
set_option linter.unusedVariables false
set_option linter.unusedSimpArgs false
namespace Go.Proofs.Ytlhekbjidppijaa
open Go.RowKit
theorem info354 : (Tryz.prog.info? 354).map (fun i=>(i.zero.map Value.cells,i.size,i.bytes)) = some (some #[.pointer none],1,8):=by kernel_rfl
def BgS (bl vg lp g a gl n c : Nat) (W : World) : Prop:=W.cell? ⟨bl,0,none⟩ = some (.pointer (some ⟨lp,0,none⟩)) /\ W.cell? ⟨vg,0,none⟩ = some (.pointer (some ⟨g,0,none⟩)) /\ W.cell? ⟨lp,3,none⟩ = some (.slice (some ⟨a,0,none⟩) n c) /\ W.cell? ⟨a,n - 1,none⟩ = some (.pointer (some ⟨gl,0,none⟩)) /\ W.cell? ⟨gl,0,none⟩ = some (.int .i64 (n : Int))
def BgT (bl vg lp g n c : Nat) (A : Option Addr) (W : World) : Prop:=W.cell? ⟨bl,0,none⟩ = some (.pointer (some ⟨lp,0,none⟩)) /\ W.cell? ⟨vg,0,none⟩ = some (.pointer (some ⟨g,0,none⟩)) /\ W.cell? ⟨lp,3,none⟩ = some (.slice A n c)
set_option maxRecDepth 20000 in
set_option maxHeartbeats 4000000 in
theorem begin245 (w : World) (τ : Own) (t td lp d from_ segs nxt n : Nat) (fr : Bool) (S : Segs) (Z : Nat -> Prop) (hL : LogS w τ t lp d from_ segs nxt fr S) (hD : DevAt w τ td d n Z) (htd : td < 95) (hne : td ≠ t)
 (hk : S.length < segs) (hn : from_ + segs * 8 <= n) (hn2 : n <= 2048) (hnx : nxt = 1 + (S.flatMap (·.2)).length) :
 Calls Tryz.prog 245 #[.pointer (some ⟨lp,0,none⟩)] w fun e w'=>e = .returned (.int .i64 0) /\ ∃ τ' g,LogS w' τ' t lp d from_ segs nxt fr (S ++ [(g,([] : List (List UInt8)))]) /\ DevAt w' τ' td d n (fun _=>False) /\ Chg (fun x=>x % 96 = t \/ x = td) w τ w' τ':=by
 obtain ⟨y,hy1,hy2⟩:=fresh95 w τ
 obtain ⟨bl,hbl⟩ : ∃ b,b = w.heap.size:=⟨_,rfl⟩
 obtain ⟨g,hg⟩ : ∃ b,b = w.heap.size + 1:=⟨_,rfl⟩
 obtain ⟨vg,hvg⟩ : ∃ b,b = w.heap.size + 1 + 1:=⟨_,rfl⟩
 obtain ⟨vL,h1,h2⟩:=hL.ex
 have ht:=hL.ht
 obtain ⟨τ3,hτ3⟩ : ∃ τ3 : Own,τ3 = fun k=>if k < w.heap.size then τ k else if k = w.heap.size + 1 then t + 96 * (S.length + 3) else y:=⟨_,rfl⟩
 have hold : ∀ k,k < w.heap.size -> τ3 k = τ k:=fun k hk=>by rw [hτ3];simp [hk]
 obtain ⟨W3,hW3⟩ : ∃ W,W = ((w.alloc (.cells #[.pointer (some ⟨lp,0,none⟩)] 271)).alloc (.cells #[.int .i64 1,.int .i64 (nxt : Int),.int .i64 0,.slice none 0 0,.slice none 0 0] 353)).alloc (.cells #[.pointer (some ⟨w.heap.size + 1,0,none⟩)] 354):=⟨_,rfl⟩
 have hch : Chg (fun _=>False) w τ W3 τ3:=by
  rw [hW3]
  exact ((((Chg.refl _ _ _).alloc _).alloc _).alloc _).reown hold
 have HFR : Hid (∀ W τ',Chg (fun x=>x % 96 = t \/ x = td \/ x = y) w τ W τ' -> Chg (fun x=>x % 96 = t \/ x = td) w τ W τ'):=Lib.hid fun W τ' h=>h.fresh fun i hi e=>by
  rcases e with e | e | e
  ·exact .inl e
  ·exact .inr e
  ·exact absurd e (hy2 i hi)
 have HB2 : Hid (BG w τ t td y lp d from_ segs nxt n bl g vg 1 fr S vL vL S.ptrs W3 τ3):=Lib.hid (by
  refine ⟨h1.keep hch id,?_,fun k p hp=>(hL.seg k p hp).keep hch id id,⟨?_,?_⟩,⟨?_,?_⟩,⟨?_,?_⟩,(hD.keep hch id).less (fun _ h=>h.elim),hch.mono fun _ h=>h.elim⟩
  ·rw [Segs.ptrs_length];exact h2.keep hch id
  ·rw [hW3,hg]
   have:=(Blk.new (w.alloc (.cells #[.pointer (some ⟨lp,0,none⟩)] 271)) 353 #[.int .i64 1,.int .i64 (nxt : Int),.int .i64 0,.slice none 0 0,.slice none 0 0]).alloc (.cells #[.pointer (some ⟨w.heap.size + 1,0,none⟩)] 354)
   simpa using this
  ·rw [hτ3,hg];simp;intro h;omega
  ·rw [hW3,hvg,hg]
   have:=Blk.new ((w.alloc (.cells #[.pointer (some ⟨lp,0,none⟩)] 271)).alloc (.cells #[.int .i64 1,.int .i64 (nxt : Int),.int .i64 0,.slice none 0 0,.slice none 0 0] 353)) 354 #[.pointer (some ⟨w.heap.size + 1,0,none⟩)]
   simpa [ptr] using this
  ·rw [hτ3,hvg];simp;intro h;omega
  ·rw [hW3,hbl]
   have:=((Blk.new w 271 #[.pointer (some ⟨lp,0,none⟩)]).alloc (.cells #[.int .i64 1,.int .i64 (nxt : Int),.int .i64 0,.slice none 0 0,.slice none 0 0] 353)).alloc (.cells #[.pointer (some ⟨w.heap.size + 1,0,none⟩)] 354)
   simpa [ptr] using this
  ·rw [hτ3,hbl];simp)
 have HT : Hid (t < 95 /\ td < 95 /\ td ≠ t /\ y % 96 = 95):=Lib.hid ⟨ht,htd,hne,hy1⟩
 have HK:=Lib.hid hk
 have HN : Hid (from_ + segs * 8 <= n /\ n <= 2048):=Lib.hid ⟨hn,hn2⟩
 have HNX:=Lib.hid hnx
 have p1 : (w.alloc (.cells #[.pointer (some ⟨lp,0,none⟩)] 271)).cell? ⟨lp,4,none⟩ = some (.int .i64 (nxt : Int)):=(h1.alloc _).cell 4
 obtain ⟨A0,c0,hvL,hcc,hA0⟩ : ∃ A c,vL = .slice A S.length c /\ S.length <= c /\ (S.length ≠ 0 -> ∃ a,A = some ⟨a,0,none⟩):=by
  obtain ⟨A,c,h,h',_,_,_,hx,hy⟩:=h2.slice
  refine ⟨A,c,h,h',fun hne=>?_⟩
  cases A with
  | none=>exact absurd (hx rfl).1 hne
  | some a=>
   obtain ⟨b,o,s⟩:=a
   obtain ⟨rfl,rfl,_⟩:=hy _ rfl
   exact ⟨b,rfl⟩
 have p2 : (((w.alloc (.cells #[.pointer (some ⟨lp,0,none⟩)] 271)).alloc (.cells #[.int .i64 1,.int .i64 (nxt : Int),.int .i64 0,.slice none 0 0,.slice none 0 0] 353)).alloc (.cells #[.pointer (some ⟨w.heap.size + 1,0,none⟩)] 354)).cell? ⟨lp,3,none⟩ = some (.slice A0 S.length c0):=by rw [<- hvL];exact (((h1.alloc _).alloc _).alloc _).cell 3
 have HVL:=Lib.hid hvL
 have HW:=Lib.hid hW3
 have HBL : Hid (bl = w.heap.size /\ g = w.heap.size + 1 /\ vg = w.heap.size + 1 + 1):=Lib.hid ⟨hbl,hg,hvg⟩
 clear hL hD h1 h2 hy1 hy2 hch hold hτ3 hvL hW3 hbl hg hvg hnx hcc
 have HW8 : Hid (∀ (W : World) τ0 vL,BG w τ t td y lp d from_ segs nxt n bl g vg (S.length + 1) fr S vL vL S.ptrs W τ0 -> Calls Tryz.prog 248 #[.pointer (some ⟨lp,0,none⟩),.pointer (some ⟨g,0,none⟩),.int .i64 0] W fun e w'=>e = .returned (.int .i64 0) /\ ∃ τ',DevAt w' τ' td d n (fun _=>False) /\ Chg (· = td) W τ0 w' τ'):=Lib.hid (fun W τ0 vL h=>by
  have hnn:=HN.out
  have hkk:=HK.out
  have htt:=HT.out
  exact write248n W τ0 t (t + 96 * (S.length + 3)) td lp g d from_ segs S.length nxt n (fun _=>False) (fun _=>False) vL _ _ _ h.hl h.hg h.hd (by omega) (by omega) hkk (by omega) (by omega) (by omega) (fun j hj=>hj.elim))
 obtain ⟨m,hm⟩ : ∃ m,S.length = m:=⟨_,rfl⟩
 have HMM:=Lib.hid hm
 rw [hm] at p2
 have h0 : m = 0 \/ 0 < m:=by omega
 rcases h0 with h0 | h0
 focus (
  have HB3 : Hid (BG w τ t td y lp d from_ segs nxt n bl g vg (S.length + 1) fr S vL vL S.ptrs W3 τ3):=Lib.hid (by rw [hm,h0];exact HB2.out)
  clear HB2 hA0
  have k1 : ¬ ((0 : Int) < (m : Int)):=by omega
  clear hm
  go_enter Tryz.func245,Tryz.ntmps245
  go_wp2_with fail
  rw [<- HW.out,<- HBL.out.2.2,<- HBL.out.2.1,<- HBL.out.1]
  clear p1 p2 k1
  have c1:=HB3.out.hb.cell 0
  have c2:=HB3.out.hv.cell 0
  go_wp2_with fail
  clear c1 c2)
 rotate_left
 focus (
  have k1 : (0 : Int) < (m : Int):=by omega
  clear hm
  go_enter Tryz.func245,Tryz.ntmps245
  go_wp2_with fail
  rw [<- HW.out,<- HBL.out.2.2,<- HBL.out.2.1,<- HBL.out.1]
  clear p1 p2
  obtain rfl:=HMM.out
  obtain ⟨a0,rfl⟩:=hA0 (by omega)
  have HB0 : Hid (BG w τ t td y lp d from_ segs nxt n bl g vg 1 fr S (.slice (some ⟨a0,0,none⟩) S.length c0) (.slice (some ⟨a0,0,none⟩) S.length c0) S.ptrs W3.drew τ3):=Lib.hid (by have h:=HB2.out.drewN 1;rw [HVL.out] at h;exact h)
  clear HB2 hA0
  have hgl : S.length - 1 < S.length:=by omega
  obtain ⟨_,_,_,_,_,hx,-⟩:=(HB0.out.hs (S.length - 1) S[S.length - 1] (List.getElem?_eq_getElem hgl)).ex
  have hxa : S.ptrs[S.length - 1]? = some (.pointer (some ⟨S[S.length - 1].1,0,none⟩)):=by simp [Segs.ptrs,hgl]
  obtain ⟨gl,hgl'⟩ : ∃ gl,gl = S[S.length - 1].1:=⟨_,rfl⟩
  rw [<- hgl'] at hx hxa
  have e5 : S.length - 1 + 1 = S.length:=by omega
  rw [e5] at hx
  have S0 : Hid (BgS bl vg lp g a0 gl S.length c0 W3.drew):=Lib.hid (by
   have hr:=HB0.out.hr
   rw [Segs.ptrs_length] at hr
   obtain ⟨A',c',h5,-,-,-,h6,-⟩:=hr.slice
   cases h5
   obtain ⟨b',o',h7,h8⟩:=h6 (by intro e;rw [e] at hxa;cases hxa)
   cases h7
   have h9:=h8 _ _ hxa
   rw [Nat.zero_add] at h9
   exact ⟨HB0.out.hb.cell 0,HB0.out.hv.cell 0,HB0.out.hl.cell 3,h9,hx.cell 0⟩)
  have x1 : (0 : Int) <= (S.length : Int) - 1 /\ (S.length : Int) - 1 < (S.length : Int):=by omega
  have x2 : ((S.length : Int) - 1).toNat = S.length - 1:=by omega
  have x5 : (1 : Int) <= (S.length : Int):=by omega
  have hs9:=HK.out
  have hs8:=HN.out
  have x3 : IntKind.i64.wrap ((S.length : Int) - 1) = (S.length : Int) - 1:=IntWalk.i64_in _ ⟨by omega,by omega⟩
  have x4 : (S.length : Int) <= 100000:=by omega
  clear hs9 hs8 hx hxa e5 hgl' hgl
  refine wp_region_hl [] [0,1,2,3,4,5,6,7,8,9,10,11,12] (BgS bl vg lp g a0 gl S.length c0) (by kernel_rfl) (by kernel_rfl) S0.out ?_
  iterate 13 (refine hd_take (v:=?_) rfl rfl (by kernel_rfl) (fun W hW=>?_) ?_;rotate_left;(obtain ⟨r0,r1,r2,r3,r4⟩:=hW;first | (go_simp;done) | (go_simp;with_reducible rfl)))
  refine hd_end ?_
  simp only [List.length_cons,List.length_nil,List.drop_succ_cons,List.drop_zero,Nat.zero_add,Nat.reduceAdd]
  generalize W3.drew = Wd at HB0 ⊢
  have hf:=HB0.out.hg.frozen 0
  have hc3:=HB0.out.hg.cell 0
  have e1 : ((S.length + 1 : Nat) : Int) = (S.length : Int) + 1:=by omega
  have hs1:=HB0.out.setGen HT.out.1 HT.out.2.1 HT.out.2.2.1 HT.out.2.2.2 (S.length + 1)
  rw [e1] at hs1
  have HS:=Lib.hid hs1
  have c1:=hs1.hb.cell 0
  have c2:=hs1.hv.cell 0
  clear hs1 e1
  go_wp2_with fail
  clear hf hc3 x1 x2 x3 x4 x5 k1 c1 c2
  have HB3 : Hid (BG w τ t td y lp d from_ segs nxt n bl g vg (S.length + 1) fr S vL vL S.ptrs (Wd.setCell ⟨g,0,none⟩ (.int .i64 ((S.length : Int) + 1))) τ3):=Lib.hid (by rw [HVL.out];exact HS.out)
  clear HS HB0 S0
  generalize Wd.setCell ⟨g,0,none⟩ _ = W4 at HB3 ⊢)
 all_goals (
  refine (HW8.out _ _ _ HB3.out).mono ?_
  rintro e wx1 ⟨rfl,τ4,hd4,hc4⟩
  have HB4:=Lib.hid (HB3.out.dev hc4 hd4 HT.out.1 HT.out.2.1 HT.out.2.2.1 HT.out.2.2.2)
  clear hd4 hc4 HB3 HW8
  have c1:=HB4.out.hb.cell 0
  have c2:=HB4.out.hv.cell 0
  obtain ⟨A,c,rfl,HVS⟩ : ∃ A c,vL = .slice A S.length c /\ Hid (∀ W τ',BG w τ t td y lp d from_ segs nxt n bl g vg (S.length + 1) fr S vL vL S.ptrs W τ' -> Sl W A S.ptrs):=by
   obtain ⟨A,c,h1,-,-,-,-,h2,h3⟩:=HB4.out.hr.slice
   subst h1
   rw [Segs.ptrs_length] at *
   refine ⟨A,c,rfl,Lib.hid fun W τ' h=>?_⟩
   have h4:=h.hr
   rw [Segs.ptrs_length] at h4
   obtain ⟨A',c',h5,-,-,-,h6,-⟩:=h4.slice
   cases h5
   exact h6
  have HDEL : Hid (∀ W,BG w τ t td y lp d from_ segs nxt n bl g vg (S.length + 1) fr S (.slice A S.length c) (.slice A S.length c) S.ptrs W τ4 -> Calls Tryz.prog 268 #[.slice A S.length c,.func (.func 269) #[] #[.pointer (some ⟨vg,0,none⟩),.pointer (some ⟨bl,0,none⟩)]] W fun e w'=>e = .returned (.slice A S.length c) /\ ∃ m,w' = W.drewN m):=Lib.hid (fun W h=>by
   refine del268 W A S.length c S.ptrs _ _ (HVS.out W τ4 h) (Segs.ptrs_length S) (by have:=HK.out;omega) fun m i hi=>?_
   have hi' : i < S.length:=by rwa [Segs.ptrs_length] at hi
   have h':=h.drewN m
   obtain ⟨_,_,_,_,_,hx,_⟩:=(h'.hs i S[i] (List.getElem?_eq_getElem hi')).ex
   have e : S.ptrs[i] = .pointer (some ⟨S[i].1,0,none⟩):=by simp [Segs.ptrs,ptr]
   rw [e]
   refine (begin269 (W.drewN m) S[i].1 vg bl g lp segs i S.length (hx.cell 0) (h'.hv.cell 0) (h'.hg.cell 0) (h'.hb.cell 0) (h'.hl.cell 2) HK.out (by have:=HN.out;omega)).mono ?_
   rintro e w' ⟨rfl,rfl⟩
   exact ⟨rfl,m + 1,rfl⟩)
  have hmf : ∀ fn first cap w,(Instr.makeFunc fn first cap).run Tryz.prog w = .ok (.func fn first cap) w:=fun _ _ _ _=>rfl
  have S4 : Hid (BgT bl vg lp g S.length c A wx1.drew):=Lib.hid ⟨HB4.out.hb.cell 0,HB4.out.hv.cell 0,HB4.out.hl.cell 3⟩
  go_wp2_with fail
  clear c1 c2
  refine wp_region_hl [6] [0,1,2,3,4,5,6] (BgT bl vg lp g S.length c A) (by kernel_rfl) (by kernel_rfl) S4.out ?_
  iterate 6 (refine hd_take (v:=?_) rfl rfl (by kernel_rfl) (fun W hW=>?_) ?_;rotate_left;(obtain ⟨r0,r1,r2⟩:=hW;first | (go_simp;done) | (go_simp;with_reducible rfl)))
  refine hd_loud rfl rfl fun K hK=>?_
  go_simp
  refine (HDEL.out _ (HB4.out.drewN 1)).mono ?_
  rintro e wx ⟨rfl,m,hwx⟩
  have HB5 : Hid (BG w τ t td y lp d from_ segs nxt n bl g vg (S.length + 1) fr S (.slice A S.length c) (.slice A S.length c) S.ptrs wx τ4):=Lib.hid (by rw [hwx];exact (HB4.out.drewN 1).drewN m)
  refine hK _ _ ⟨HB5.out.hb.cell 0,HB5.out.hv.cell 0,HB5.out.hl.cell 3⟩ (hd_end ?_)
  clear hK hmf hwx
  simp only [List.length_cons,List.length_nil,List.drop_succ_cons,List.drop_zero,Nat.zero_add,Nat.reduceAdd]
  have hf:=HB5.out.hl.frozen 3
  have hc3:=HB5.out.hl.cell 3
  have HS:=Lib.hid (HB5.out.setL HT.out.1 HT.out.2.1 HT.out.2.2.1 HT.out.2.2.2 (.slice A S.length c) rfl)
  go_wp2_with fail
  clear hf hc3 HB5 HB4 HDEL HVS S4
  generalize wx.setCell ⟨lp,3,none⟩ _ = W5 at HS ⊢
  have HB0 : Hid (BG w τ t td y lp d from_ segs nxt n bl g vg (S.length + 1) fr S (.slice A S.length c) (.slice A S.length c) S.ptrs W5.drew τ4):=Lib.hid (HS.out.drewN 1)
  clear HS
  have HX : Hid (S.ptrs.length <= 100000):=Lib.hid (by rw [Segs.ptrs_length];have:=HK.out;have:=HN.out;omega)
  obtain ⟨i0,z0,hi0⟩:=info_cells info354
  have HI:=Lib.hid hi0
  clear hi0
  have S5 : Hid (BgT bl vg lp g S.length c A W5.drew):=Lib.hid ⟨HB0.out.hb.cell 0,HB0.out.hv.cell 0,HB0.out.hl.cell 3⟩
  go_wp2_with fail
  refine wp_region_hl [6,7] [0,1,2,3,4,5,6,7] (BgT bl vg lp g S.length c A) (by kernel_rfl) (by kernel_rfl) S5.out ?_
  iterate 6 (refine hd_take (v:=?_) rfl rfl (by kernel_rfl) (fun W hW=>?_) ?_;rotate_left;(obtain ⟨r0,r1,r2⟩:=hW;first | (go_simp;done) | (go_simp;with_reducible rfl)))
  refine hd_loud rfl rfl fun K hK=>?_
  go_simp
  have HB6:=Lib.hid (HB0.out.alloc (.cells #[ptr g] 354))
  refine hK _ _ ⟨HB6.out.hb.cell 0,HB6.out.hv.cell 0,HB6.out.hl.cell 3⟩ ?_
  clear hK
  refine hd_loud rfl rfl fun K hK=>?_
  refine step_append_row _ rfl (.tmp 53) (.tmp 55) 326 rfl (ext τ4 W5.drew y) (t + 96) 354 i0 z0 1 8 (by kernel_rfl) HI.out.1 HI.out.2.1 HI.out.2.2.2.1 HI.out.2.2.2.2 (by rw [HI.out.2.2.1];rfl) (by decide) (.slice A S.length c) S.ptrs.length S.ptrs rfl HB6.out.hr (some ⟨W5.heap.size,0,none⟩) 1 1 [ptr g] rfl rfl (Blk.new W5.drew 354 #[ptr g]).sl (by intro e;cases e) (by intro u hu;simp at hu;subst hu;rfl) (by have:=HX.out;omega) (by decide) ?_
  intro v' w' hR hC
  obtain ⟨A',c',rfl,-⟩:=hR.slice
  have HB7:=Lib.hid (HB6.out.app (ys:=S.ptrs ++ [ptr g]) HT.out.1 HT.out.2.1 HT.out.2.2.1 HT.out.2.2.2 (by rw [List.length_append];exact hR) hC)
  clear hR hC
  refine hK _ _ ⟨HB7.out.hb.cell 0,HB7.out.hv.cell 0,HB7.out.hl.cell 3⟩ (hd_end ?_)
  clear hK
  simp only [List.length_cons,List.length_nil,List.drop_succ_cons,List.drop_zero,Nat.zero_add,Nat.reduceAdd]
  have hf:=HB7.out.hl.frozen 3
  have hc3:=HB7.out.hl.cell 3
  have HS:=Lib.hid (HB7.out.setL HT.out.1 HT.out.2.1 HT.out.2.2.1 HT.out.2.2.2 (.slice A' (S.ptrs.length + 1) c') rfl)
  have c1:=HS.out.hb.cell 0
  have c2:=HS.out.hl.cell 0
  go_wp2_with fail
  clear hf hc3 HB7 HB6 HB0 S5 c1 c2
  generalize w'.setCell ⟨lp,3,none⟩ _ = W6 at HS ⊢
  have e7 : S.ptrs ++ [ptr g] = Segs.ptrs (S ++ [(g,([] : List (List UInt8)))]):=by simp [Segs.ptrs]
  have hb5:=HS.out
  rw [e7] at hb5
  have HB7:=Lib.hid hb5
  clear hb5 e7 HS
  have HFL:=Lib.hid (flush_any _ _ td d n _ HB7.out.hd HN.out.2)
  refine HFL.out.mono ?_
  rintro e wy ⟨rfl,hd7,hc7⟩
  have HB8:=Lib.hid (HB7.out.dev hc7 hd7 HT.out.1 HT.out.2.1 HT.out.2.2.1 HT.out.2.2.2)
  clear HFL HB7 hd7 hc7
  go_wp2
  go_ret
  exact ⟨rfl,_,g,HB8.out.fin HT.out.1 HNX.out,HB8.out.hd,HFR.out _ _ HB8.out.hc⟩)
end Go.Proofs.Ytlhekbjidppijaa
namespace Go.Proofs.Ytlhekbjidppijaa
open Go.RowKit
section
variable {T : Nat -> Prop} {w w' : World} {τ τ' : Own} {t n n' size size' : Nat} {e e' : TypeId} {v v' : Value} {xs xs' : List Value} {row : Option Nat}
theorem Has.grown {g : Nat} {ty : TypeId} {cs : Array Value} (h : Has w τ t g ty cs) (hg : w.grownBy w' row) (hne : row ≠ some g) (t0 : Nat) : Has w' (ext τ w t0) t g ty cs:=
 ⟨(hg.block g h.lt (Ne.symm hne)).trans h.blk,(ext_old h.lt).trans h.own⟩
theorem Rw.grown (h : Rw w τ t e size v n xs) (hg : w.grownBy w' row) (hne : ∀ g,v.ownBlock = some g -> row ≠ some g) (t0 : Nat) : Rw w' (ext τ w t0) t e size v n xs:=by
 refine ⟨⟨h.own.1,?_⟩,fun g hgg=>(ext_old (h.own.lt g hgg).2).trans (h.tag g hgg)⟩
 rcases h.own.2 with hn | ⟨g,cap,cur,rfl,hb,hgg,rest⟩
 ·exact .inl hn
 ·refine .inr ⟨g,cap,cur,rfl,hb,?_,rest⟩
  rw [hg.block g (Array.getElem?_eq_some_iff.1 hgg).1 (Ne.symm (hne g rfl))]
  exact hgg
theorem Rw.apart (h : Rw w τ t e size v n xs) {τ2 : Own} {t2 : Nat} (h' : Rw w τ2 t2 e' size' v' n' xs') (he : e ≠ e') : ∀ g,v'.ownBlock = some g -> v.ownBlock ≠ some g:=by
 intro g hg hv
 rcases h.own.2 with ⟨rfl,_⟩ | ⟨a,cap,cur,rfl,_,ha,_⟩
 ·cases hv
 ·rcases h'.own.2 with ⟨rfl,_⟩ | ⟨b,cap',cur',rfl,_,hb,_⟩
  ·cases hg
  ·have e1 : a = g:=by simpa [Value.ownBlock] using hv
   have e2 : b = g:=by simpa [Value.ownBlock] using hg
   subst e1
   subst e2
   rw [ha] at hb
   injection hb with hb
   injection hb with _ hb
   exact he hb
end
section
variable {P : Program} (w : World)
theorem run_append_row2 (τ : Own) (t : Nat) (st ty e : TypeId) (i : TypeInfo) (z : Value) (size bytes : Nat) (ht : P.underlying st = some (.slice e)) (hi : P.info? e = some i) (hz : i.zero = some z)
 (hsize : i.size = size) (hby : i.bytes = bytes) (hzs : z.cells.size = size) (hs0 : 0 < size)
 (v : Value) (n : Nat) (xs : List Value) (hown : Rw w τ t e size v n xs)
 (a : Addr) (m c : Nat) (news : List Value) (hm : news.length = m * size) (hm0 : 0 < m) (hr : Sl w (some a) news) (h1 : ∀ u ∈ news,u.oneCell' = true)
 (h63 : n + m <= 1073741824) (hbs : bytes <= 65536) :
 ∃ g cap w',(Builtin.append_ #[st,st] ty #[v,.slice (some a) m c]).run P w = .ok (.slice (some ⟨g,0,none⟩) (n + m) cap) w' /\ Rw w' (ext τ w t) t e size (.slice (some ⟨g,0,none⟩) (n + m) cap) (n + m) (xs ++ news) /\ Chg (· = t) w τ w' (ext τ w t) /\ w.grownBy w' v.ownBlock:=by
 have hbytes : (n + m) * bytes <= 140737488355328:=by
  have:=Nat.mul_le_mul h63 hbs
  omega
 have hml : n + m <= maxLen:=by unfold maxLen;omega
 have hcells : ∀ j u,news[j]? = some u -> w.cell? (a.add j) = some u:=by
  intro j u hu
  obtain ⟨b,off,h,hc⟩:=hr (by intro e;subst e;simp at hu)
  injection h with h
  subst h
  rw [add_none]
  exact hc j u hu
 obtain ⟨v',w',hrun,h2,h3,_,h5⟩:=run_append_own_at (P:=P) w 0 st ty e i z size bytes ht hi hz hsize hby hzs hs0 v n xs hown.own a m c news hm hcells h1 hml hbytes (Nat.zero_le _)
 obtain ⟨g,cap,rfl,_,hlt⟩:=h2.form (by omega)
 refine ⟨g,cap,w',hrun,⟨h2,fun g' hg=>?_⟩,(Chg.grown (Chg.refl _ _ _) h3 (fun k hk=>.inr (hown.tag k hk))).ext t,h3⟩
 rcases h5 with h5 | h5
 ·rw [h5] at hg
  rw [ext_old (hown.own.lt g' hg).2]
  exact hown.tag g' hg
 ·rw [h5] at hg
  injection hg with hg
  subst hg
  exact ext_new (Nat.le_refl _)
theorem step_append_row2 {ops : Array Oper} {o : Oper} {a : Act} {K : Act -> World -> Prop} {Q : Exit -> Act -> World -> Prop} {E : Prop} (hgd : o.guard = none) (s x : Operand) (st : TypeId)
 (ho : o.op = .call { callee:=.builtin .append,args:=#[s,x],argTypes:=#[st,st] })
 (τ : Own) (t : Nat) (e : TypeId) (i : TypeInfo) (z : Value) (size bytes : Nat) (ht : P.underlying st = some (.slice e)) (hi : P.info? e = some i) (hz : i.zero = some z)
 (hsize : i.size = size) (hby : i.bytes = bytes) (hzs : z.cells.size = size) (hs0 : 0 < size)
 (v : Value) (n : Nat) (xs : List Value) (hs : a.eval s = v) (hown : Rw w τ t e size v n xs)
 (A : Addr) (m c : Nat) (news : List Value) (hx : a.eval x = .slice (some A) m c) (hm : news.length = m * size) (hm0 : 0 < m) (hr : Sl w (some A) news) (h1 : ∀ u ∈ news,u.oneCell' = true)
 (h63 : n + m <= 1073741824) (hbs : bytes <= 65536)
 (h : ∀ g cap w',Rw w' (ext τ w t) t e size (.slice (some ⟨g,0,none⟩) (n + m) cap) (n + m) (xs ++ news) -> Chg (· = t) w τ w' (ext τ w t) -> w.grownBy w' v.ownBlock -> K (a.put o.dst (.slice (some ⟨g,0,none⟩) (n + m) cap)) w') :
 if Region.wanted o (yielded ops a.tmps) = true then Oper.wp P o a w K Q else E:=by
 have hw : Region.wanted o (yielded ops a.tmps) = true:=by simp [Region.wanted,hgd]
 rw [if_pos hw]
 obtain ⟨g,cap,w',hr,h2,h3,h4⟩:=run_append_row2 (P:=P) w τ t st o.type e i z size bytes ht hi hz hsize hby hzs hs0 v n xs hown A m c news hm hm0 hr h1 h63 hbs
 unfold Oper.wp execOp
 simp only [ho,resolve,invoke,builtin,Sem.run_bind,Sem.run_pure,Result.andThen_ok,List.map_toArray,List.map_cons,List.map_nil,hs,hx,hr]
 exact h g cap w' h2 h3 h4
end
structure Bufx (ty : TypeId) (w : World) (τ : Own) (t b N : Nat) : Prop where
 ex : ∃ l : List Nat,l.length = N /\ (∀ x ∈ l,x < 256) /\ Has w τ t b ty (bv l).toArray
section
variable {T : Nat -> Prop} {w w' : World} {τ τ' : Own} {t b N : Nat} {ty : TypeId}
theorem Bufx.keep (h : Bufx ty w τ t b N) (hc : Chg T w τ w' τ') (ht : ¬ T t) : Bufx ty w' τ' t b N:=by
 obtain ⟨l,h1,h2,h3⟩:=h.ex
 exact ⟨l,h1,h2,h3.keep hc ht⟩
theorem Bufx.far (h : Bufx ty w τ t b N) {p : Addr} (hp : b ≠ p.block) (u : Value) : Bufx ty (w.setCell p u) τ t b N:=by
 obtain ⟨l,h1,h2,h3⟩:=h.ex
 exact ⟨l,h1,h2,h3.far hp u⟩
theorem Bufx.own (h : Bufx ty w τ t b N) : τ b = t:=by
 obtain ⟨l,h1,h2,h3⟩:=h.ex
 exact h3.own
theorem Bufx.cell (h : Bufx ty w τ t b N) (i : Nat) (hi : i < N) : ∃ x : Nat,x < 256 /\ w.cell? ⟨b,i,none⟩ = some (.int .u8 (x : Int)):=by
 obtain ⟨l,h1,h2,h3⟩:=h.ex
 refine ⟨l[i]'(by omega),h2 _ (List.getElem_mem _),?_⟩
 rw [h3.cell]
 simp [bv,h1,hi]
theorem Bufx.frozen (h : Bufx ty w τ t b N) (i : Nat) : w.frozen? ⟨b,i,none⟩ = false:=by
 obtain ⟨l,h1,h2,h3⟩:=h.ex
 exact h3.frozen i
theorem Bufx.set_ (h : Bufx ty w τ t b N) (i : Nat) (hi : i < N) (x : Int) (hx : 0 <= x /\ x < 256) : Bufx ty (w.setCell ⟨b,i,none⟩ (.int .u8 x)) τ t b N:=by
 obtain ⟨l,h1,h2,h3⟩:=h.ex
 refine ⟨l.set i x.toNat,by simp [h1],?_,?_⟩
 ·intro y hy
  rcases List.mem_or_eq_of_mem_set hy with hy | rfl
  ·exact h2 y hy
  ·omega
 ·have:=h3.set_ i (.int .u8 x)
  have e : ((bv l).toArray.setIfInBounds i (.int .u8 x)) = (bv (l.set i x.toNat)).toArray:=by
   apply Array.ext'
   simp [bv,List.map_set]
   congr 2
   omega
  rw [e] at this
  exact this
theorem Bufx.sl (h : Bufx ty w τ t b N) : ∃ l : List Nat,l.length = N /\ (∀ x ∈ l,x < 256) /\ Sl w (some ⟨b,0,none⟩) (bv l):=by
 obtain ⟨l,h1,h2,h3⟩:=h.ex
 exact ⟨l,h1,h2,h3.blk.sl⟩
end
theorem put246x (ty : TypeId) (w : World) (τ : Own) (t b o n c N : Nat) (hb : Bufx ty w τ t b N) (hn : o + n <= N) (hn64 : n <= 64) (z : Int) :
 Calls Tryz.prog 246 #[.slice (some ⟨b,o,none⟩) n c,.int .u64 z] w fun e w'=>(∃ v,e = .returned v) /\ Bufx ty w' τ t b N /\ Chg (· = t) w τ w' τ:=by
 have HB:=Lib.hid hb
 clear hb
 go_enter Tryz.func246,Tryz.ntmps246
 go_wp2
 go_loopw [7] (fun i wr=>∃ k : Nat,k <= n /\ i = .int .i64 k /\ Bufx ty wr τ t b N /\ Chg (· = t) w τ wr τ) (fun i _=>n - (intOf i).toNat)
 case atStart=>exact ⟨0,Nat.zero_le _,rfl,HB.out,Chg.refl _ _ _⟩
 case round=>
  obtain ⟨k,hk,rfl,h1,h2⟩:=hrel
  by_cases hlt : k < n
  ·have k1 : (k : Int) < (n : Int):=by omega
   have k2 : (0 : Int) <= (n : Int) - 1 - (k : Int):=by omega
   have k3 : (n : Int) - 1 - (k : Int) < (n : Int):=by omega
   have k6 : (n : Int) <= 64:=by omega
   have k4 : (0 : Int) <= 8 * (k : Int):=by omega
   have k5 : ((n : Int) - 1 - (k : Int)).toNat = n - 1 - k:=by omega
   obtain ⟨x,hx,hc⟩:=h1.cell (o + (n - 1 - k)) (by omega)
   have hf:=h1.frozen (o + (n - 1 - k))
   have H1:=Lib.hid h1
   have H2:=Lib.hid h2
   clear h1 h2
   go_wp2
   go_roundw
   case rel=>exact ⟨k + 1,by omega,by go_num,H1.out.set_ _ (by omega) _ (wrap8 _),H2.out.setCell (p:=⟨b,_,none⟩) H1.out.own _⟩
   case measure=>simp [intOf];omega
  ·obtain rfl : k = n:=by omega
   have H1:=Lib.hid h1
   have H2:=Lib.hid h2
   clear h1 h2
   go_wp2
   refine bodyPost_end (by first | rfl | (simp [results];rfl)) rfl ?_
   exact ⟨⟨_,rfl⟩,H1.out,H2.out⟩
end Go.Proofs.Ytlhekbjidppijaa
namespace Go.Proofs.Ytlhekbjidppijaa
open Go.RowKit
section
variable {P : Program} {ops : Array Oper} {o : Oper} {a : Act} {Q : Exit -> Act -> World -> Prop} {w : World}
theorem wpl_app {rest : List Oper} (hgd : o.guard = none) {s x : Operand} {st : TypeId} (ho : o.op = .call { callee:=.builtin .append,args:=#[s,x],argTypes:=#[st,st] })
 (τ : Own) (t : Nat) {e : TypeId} {zs : Array Value} {size bytes : Nat} (ht : P.underlying st = some (.slice e)) (hinfo : (P.info? e).map (fun i=>(i.zero.map Value.cells,i.size,i.bytes)) = some (some zs,size,bytes))
 (hzs : zs.size = size) (hs0 : 0 < size) (hbs : bytes <= 65536) {v : Value} {n : Nat} {xs : List Value} (hs : a.eval s = v) (hown : Rw w τ t e size v n xs)
 {A : Addr} {c : Nat} {news : List Value} (hx : a.eval x = .slice (some A) 1 c) (hm : news.length = 1 * size) (hr : Sl w (some A) news) (h1 : ∀ u ∈ news,u.oneCell' = true) (h63 : n + 1 <= 1073741824)
 (h : ∀ g cap w',Rw w' (ext τ w t) t e size (.slice (some ⟨g,0,none⟩) (n + 1) cap) (n + 1) (xs ++ news) -> Chg (· = t) w τ w' (ext τ w t) -> w.grownBy w' v.ownBlock -> wpList P ops Q rest (a.put o.dst (.slice (some ⟨g,0,none⟩) (n + 1) cap)) w') : wpList P ops Q (o :: rest) a w:=by
 obtain ⟨i0,z0,hi,hz,hc,hsz,hb⟩:=info_cells hinfo
 refine wpList_plain hgd fun _ hK=>?_
 obtain ⟨g,cap,w',hr,h2,h3,h4⟩:=run_append_row2 (P:=P) w τ t st o.type e i0 z0 size bytes ht hi hz hsz hb (by rw [hc];exact hzs) hs0 v n xs hown A 1 c news hm (by decide) hr h1 h63 hbs
 unfold Oper.wp execOp
 simp only [ho,resolve,invoke,builtin,Sem.run_bind,Sem.run_pure,Result.andThen_ok,List.map_toArray,List.map_cons,List.map_nil,hs,hx,hr]
 exact hK _ _ (h g cap w' h2 h3 h4)
theorem st_app {K : Act -> World -> Prop} {E : Prop} (hgd : o.guard = none) {s x : Operand} {st : TypeId} (ho : o.op = .call { callee:=.builtin .append,args:=#[s,x],argTypes:=#[st,st] })
 (τ : Own) (t : Nat) {e : TypeId} {zs : Array Value} {size bytes : Nat} (ht : P.underlying st = some (.slice e)) (hinfo : (P.info? e).map (fun i=>(i.zero.map Value.cells,i.size,i.bytes)) = some (some zs,size,bytes))
 (hzs : zs.size = size) (hs0 : 0 < size) (hbs : bytes <= 65536) {v : Value} {n : Nat} {xs : List Value} (hs : a.eval s = v) (hown : Rw w τ t e size v n xs)
 {A : Addr} {c : Nat} {news : List Value} (hx : a.eval x = .slice (some A) 1 c) (hm : news.length = 1 * size) (hr : Sl w (some A) news) (h1 : ∀ u ∈ news,u.oneCell' = true) (h63 : n + 1 <= 1073741824)
 (h : ∀ g cap w',Rw w' (ext τ w t) t e size (.slice (some ⟨g,0,none⟩) (n + 1) cap) (n + 1) (xs ++ news) -> Chg (· = t) w τ w' (ext τ w t) -> w.grownBy w' v.ownBlock -> K (a.put o.dst (.slice (some ⟨g,0,none⟩) (n + 1) cap)) w') :
 if Region.wanted o (yielded ops a.tmps) = true then Oper.wp P o a w K Q else E:=by
 obtain ⟨i0,z0,hi,hz,hc,hsz,hb⟩:=info_cells hinfo
 exact step_append_row2 w hgd s x st ho τ t e i0 z0 size bytes ht hi hz hsz hb (by rw [hc];exact hzs) hs0 v n xs hs hown A 1 c news hx hm (by decide) hr h1 h63 hbs h
end
end Go.Proofs.Ytlhekbjidppijaa
namespace Go.Proofs.Ytlhekbjidppijaa
open Go.RowKit
structure AP (w : World) (τ : Own) (t td y lp d from_ segs n g hb : Nat) (S0 : Segs) (vL : Value) (base nxt : Nat) (fr : Bool) (bvv bvr : Value) (nb : Nat) (rvv rvr : Value) (rn : Nat) (vs : List Value) (bs : List (List UInt8)) (W : World) (τ' : Own) : Prop where
 hl : Has W τ' t lp 328 #[ptr d,.int .i64 (from_ : Int),.int .i64 (segs : Int),vL,.int .i64 (nxt : Int),.int .i64 1,.bool fr]
 hr : Rw W τ' (t + 96) 354 1 vL (S0.length + 1) (S0.ptrs ++ [ptr g])
 hs : ∀ k p,S0[k]? = some p -> SegAt W τ' (t + 96 * (k + 3)) (t + 192) p.1 k (1 + ((S0.take k).flatMap (·.2)).length) p.2
 hg : Has W τ' (t + 96 * (S0.length + 3)) g 353 #[.int .i64 ((S0.length + 1 : Nat) : Int),.int .i64 (base : Int),.int .i64 0,bvv,rvv]
 hbf : ∃ lb,Rw W τ' (t + 96 * (S0.length + 3)) 5 1 bvr nb (bv lb) /\ ∀ x ∈ lb,x < 256
 hq : Rw W τ' (t + 96 * (S0.length + 3)) 359 2 rvr rn (rcells base vs)
 hv : ∀ (i : Nat) (l : List UInt8),bs[i]? = some l -> ∃ v : Value,vs[i]? = some v /\ BodyAt W τ' (t + 192) v l
 hh : Bufx 355 W τ' y hb 8
 hd : DevAt W τ' td d n (fun _=>False)
 hc : Chg (fun x=>x % 96 = t \/ x = td \/ x = y) w τ W τ'
section
variable {w W W' : World} {τ τ' τ2 : Own} {t td y lp d from_ segs n g hb base nxt nb rn : Nat} {fr : Bool} {S0 : Segs} {vL bvv bvr rvv rvr : Value} {vs : List Value} {bs : List (List UInt8)}
theorem AP.quiet (h : AP w τ t td y lp d from_ segs n g hb S0 vL base nxt fr bvv bvr nb rvv rvr rn vs bs W τ') (hc : Chg (fun _=>False) W τ' W' τ2) : AP w τ t td y lp d from_ segs n g hb S0 vL base nxt fr bvv bvr nb rvv rvr rn vs bs W' τ2 where
 hl:=h.hl.keep hc id
 hr:=h.hr.keep hc id
 hs:=fun k p hp=>(h.hs k p hp).keep hc id id
 hg:=h.hg.keep hc id
 hbf:=by obtain ⟨lb,a,b⟩:=h.hbf;exact ⟨lb,a.keep hc id,b⟩
 hq:=h.hq.keep hc id
 hv:=fun i l hl=>by obtain ⟨v,a,b⟩:=h.hv i l hl;exact ⟨v,a,b.keep hc id⟩
 hh:=h.hh.keep hc id
 hd:=h.hd.keep hc id
 hc:=h.hc.trans (hc.mono fun _ e=>e.elim)
theorem AP.drewN (h : AP w τ t td y lp d from_ segs n g hb S0 vL base nxt fr bvv bvr nb rvv rvr rn vs bs W τ') (m : Nat) : AP w τ t td y lp d from_ segs n g hb S0 vL base nxt fr bvv bvr nb rvv rvr rn vs bs (W.drewN m) τ':=h.quiet ((Chg.refl _ _ _).drewN m)
theorem AP.alloc (h : AP w τ t td y lp d from_ segs n g hb S0 vL base nxt fr bvv bvr nb rvv rvr rn vs bs W τ') (o : Obj) : AP w τ t td y lp d from_ segs n g hb S0 vL base nxt fr bvv bvr nb rvv rvr rn vs bs (W.alloc o) (ext τ' W y):=h.quiet (((Chg.refl _ _ _).alloc o).ext y)
theorem AP.dev (h : AP w τ t td y lp d from_ segs n g hb S0 vL base nxt fr bvv bvr nb rvv rvr rn vs bs W τ') (hc : Chg (· = td) W τ' W' τ2) (hd : DevAt W' τ2 td d n (fun _=>False)) (ht : t < 95) (htd : td < 95) (hne : td ≠ t) (hy : y % 96 = 95) :
 AP w τ t td y lp d from_ segs n g hb S0 vL base nxt fr bvv bvr nb rvv rvr rn vs bs W' τ2 where
 hl:=h.hl.keep hc (by omega)
 hr:=h.hr.keep hc (by omega)
 hs:=fun k p hp=>(h.hs k p hp).keep hc (by omega) (by omega)
 hg:=h.hg.keep hc (by omega)
 hbf:=by obtain ⟨lb,a,b⟩:=h.hbf;exact ⟨lb,a.keep hc (by omega),b⟩
 hq:=h.hq.keep hc (by omega)
 hv:=fun i l hl=>by obtain ⟨v,a,b⟩:=h.hv i l hl;exact ⟨v,a,b.keep hc (by omega)⟩
 hh:=h.hh.keep hc (by omega)
 hd:=hd
 hc:=h.hc.trans (hc.mono fun _ e=>.inr (.inl e))
theorem AP.buf (h : AP w τ t td y lp d from_ segs n g hb S0 vL base nxt fr bvv bvr nb rvv rvr rn vs bs W τ') (hc : Chg (· = y) W τ' W' τ2) (hh : Bufx 355 W' τ2 y hb 8) (ht : t < 95) (htd : td < 95) (hy : y % 96 = 95) :
 AP w τ t td y lp d from_ segs n g hb S0 vL base nxt fr bvv bvr nb rvv rvr rn vs bs W' τ2 where
 hl:=h.hl.keep hc (by omega)
 hr:=h.hr.keep hc (by omega)
 hs:=fun k p hp=>(h.hs k p hp).keep hc (by omega) (by omega)
 hg:=h.hg.keep hc (by omega)
 hbf:=by obtain ⟨lb,a,b⟩:=h.hbf;exact ⟨lb,a.keep hc (by omega),b⟩
 hq:=h.hq.keep hc (by omega)
 hv:=fun i l hl=>by obtain ⟨v,a,b⟩:=h.hv i l hl;exact ⟨v,a,b.keep hc (by omega)⟩
 hh:=hh
 hd:=h.hd.keep hc (by omega)
 hc:=h.hc.trans (hc.mono fun _ e=>.inr (.inr e))
theorem AP.app5 (h : AP w τ t td y lp d from_ segs n g hb S0 vL base nxt fr bvv bvr nb rvv rvr rn vs bs W τ') (ht : t < 95) (htd : td < 95) (hne : td ≠ t) (hy : y % 96 = 95) {v : Value} {nb' : Nat} {lb' : List Nat}
 (hR : Rw W' (ext τ' W (t + 96 * (S0.length + 3))) (t + 96 * (S0.length + 3)) 5 1 v nb' (bv lb')) (hlb : ∀ x ∈ lb',x < 256) (hc : Chg (· = t + 96 * (S0.length + 3)) W τ' W' (ext τ' W (t + 96 * (S0.length + 3)))) (hg : W.grownBy W' bvr.ownBlock) :
 AP w τ t td y lp d from_ segs n g hb S0 vL base nxt fr bvv v nb' rvv rvr rn vs bs W' (ext τ' W (t + 96 * (S0.length + 3))):=by
 obtain ⟨lb,hb1,_⟩:=h.hbf
 exact {
  hl:=h.hl.keep hc (by omega)
  hr:=h.hr.keep hc (by omega)
  hs:=fun k p hp=>by
   have:=(List.getElem?_eq_some_iff.1 hp).1
   exact (h.hs k p hp).keep hc (by omega) (by omega)
  hg:=h.hg.grown hg (hb1.not h.hg (.inr (by decide))) _
  hbf:=⟨lb',hR,hlb⟩
  hq:=h.hq.grown hg (hb1.apart h.hq (by decide)) _
  hv:=fun i l hl=>by obtain ⟨v,a,b⟩:=h.hv i l hl;exact ⟨v,a,b.keep hc (by omega)⟩
  hh:=h.hh.keep hc (by omega)
  hd:=h.hd.keep hc (by omega)
  hc:=h.hc.trans (hc.mono fun _ e=>.inl (by omega)) }
theorem AP.app359 (h : AP w τ t td y lp d from_ segs n g hb S0 vL base nxt fr bvv bvr nb rvv rvr rn vs bs W τ') (ht : t < 95) (htd : td < 95) (hne : td ≠ t) (hy : y % 96 = 95) {v : Value} {rn' : Nat} {u : Value} {b : List UInt8}
 (hR : Rw W' (ext τ' W (t + 96 * (S0.length + 3))) (t + 96 * (S0.length + 3)) 359 2 v rn' (rcells base (vs ++ [u]))) (hvs : vs.length = bs.length) (hu : BodyAt W τ' (t + 192) u b) (hc : Chg (· = t + 96 * (S0.length + 3)) W τ' W' (ext τ' W (t + 96 * (S0.length + 3)))) (hg : W.grownBy W' rvr.ownBlock) :
 AP w τ t td y lp d from_ segs n g hb S0 vL base nxt fr bvv bvr nb rvv v rn' (vs ++ [u]) (bs ++ [b]) W' (ext τ' W (t + 96 * (S0.length + 3))):=by
 obtain ⟨lb,hb1,hlb⟩:=h.hbf
 exact {
  hl:=h.hl.keep hc (by omega)
  hr:=h.hr.keep hc (by omega)
  hs:=fun k p hp=>by
   have:=(List.getElem?_eq_some_iff.1 hp).1
   exact (h.hs k p hp).keep hc (by omega) (by omega)
  hg:=h.hg.grown hg (h.hq.not h.hg (.inr (by decide))) _
  hbf:=⟨lb,hb1.grown hg (h.hq.apart hb1 (by decide)) _,hlb⟩
  hq:=hR
  hv:=fun i l hl=>by
   by_cases hi : i < bs.length
   ·rw [List.getElem?_append_left hi] at hl
    obtain ⟨v,a,b⟩:=h.hv i l hl
    exact ⟨v,by rw [List.getElem?_append_left (by omega)];exact a,b.keep hc (by omega)⟩
   ·have hi2 : i = bs.length:=by
     have:=(List.getElem?_eq_some_iff.1 hl).1
     simp at this
     omega
    subst hi2
    rw [List.getElem?_append_right (Nat.le_refl _),Nat.sub_self] at hl
    simp only [List.getElem?_cons_zero,Option.some.injEq] at hl
    subst hl
    refine ⟨u,?_,hu.keep hc (by omega)⟩
    rw [List.getElem?_append_right (by omega),hvs,Nat.sub_self]
    rfl
  hh:=h.hh.keep hc (by omega)
  hd:=h.hd.keep hc (by omega)
  hc:=h.hc.trans (hc.mono fun _ e=>.inl (by omega)) }
theorem AP.setG (h : AP w τ t td y lp d from_ segs n g hb S0 vL base nxt fr bvv bvr nb rvv rvr rn vs bs W τ') (ht : t < 95) (htd : td < 95) (hne : td ≠ t) (hy : y % 96 = 95) (i : Nat) (u bvv' rvv' : Value)
 (he : (#[.int .i64 ((S0.length + 1 : Nat) : Int),.int .i64 (base : Int),.int .i64 0,bvv,rvv] : Array Value).setIfInBounds i u = #[.int .i64 ((S0.length + 1 : Nat) : Int),.int .i64 (base : Int),.int .i64 0,bvv',rvv']) :
 AP w τ t td y lp d from_ segs n g hb S0 vL base nxt fr bvv' bvr nb rvv' rvr rn vs bs (W.setCell ⟨g,i,none⟩ u) τ':=by
 obtain ⟨lb,hb1,hlb⟩:=h.hbf
 have hc : Chg (· = t + 96 * (S0.length + 3)) W τ' (W.setCell ⟨g,i,none⟩ u) τ':=(Chg.refl _ W τ').setCell (p:=⟨g,i,none⟩) h.hg.own u
 exact {
  hl:=h.hl.keep hc (by omega)
  hr:=h.hr.keep hc (by omega)
  hs:=fun k p hp=>by
   have:=(List.getElem?_eq_some_iff.1 hp).1
   exact (h.hs k p hp).keep hc (by omega) (by omega)
  hg:=by have:=h.hg.set_ i u;rwa [he] at this
  hbf:=⟨lb,hb1.far_ne (p:=⟨g,i,none⟩) (hb1.not h.hg (.inr (by decide))) u,hlb⟩
  hq:=h.hq.far_ne (p:=⟨g,i,none⟩) (h.hq.not h.hg (.inr (by decide))) u
  hv:=fun i l hl=>by obtain ⟨v,a,b⟩:=h.hv i l hl;exact ⟨v,a,b.keep hc (by omega)⟩
  hh:=h.hh.keep hc (by omega)
  hd:=h.hd.keep hc (by omega)
  hc:=h.hc.trans (hc.mono fun _ e=>.inl (by omega)) }
theorem AP.setL (h : AP w τ t td y lp d from_ segs n g hb S0 vL base nxt fr bvv bvr nb rvv rvr rn vs bs W τ') (ht : t < 95) (htd : td < 95) (hne : td ≠ t) (hy : y % 96 = 95) (i : Nat) (u : Value) (nxt' : Nat) (fr' : Bool)
 (he : (#[ptr d,.int .i64 (from_ : Int),.int .i64 (segs : Int),vL,.int .i64 (nxt : Int),.int .i64 1,.bool fr] : Array Value).setIfInBounds i u = #[ptr d,.int .i64 (from_ : Int),.int .i64 (segs : Int),vL,.int .i64 (nxt' : Int),.int .i64 1,.bool fr']) :
 AP w τ t td y lp d from_ segs n g hb S0 vL base nxt' fr' bvv bvr nb rvv rvr rn vs bs (W.setCell ⟨lp,i,none⟩ u) τ':=by
 obtain ⟨lb,hb1,hlb⟩:=h.hbf
 have hc : Chg (· = t) W τ' (W.setCell ⟨lp,i,none⟩ u) τ':=(Chg.refl _ W τ').setCell (p:=⟨lp,i,none⟩) h.hl.own u
 exact {
  hl:=by have:=h.hl.set_ i u;rwa [he] at this
  hr:=h.hr.keep hc (by omega)
  hs:=fun k p hp=>(h.hs k p hp).keep hc (by omega) (by omega)
  hg:=h.hg.keep hc (by omega)
  hbf:=⟨lb,hb1.keep hc (by omega),hlb⟩
  hq:=h.hq.keep hc (by omega)
  hv:=fun i l hl=>by obtain ⟨v,a,b⟩:=h.hv i l hl;exact ⟨v,a,b.keep hc (by omega)⟩
  hh:=h.hh.keep hc (by omega)
  hd:=h.hd.keep hc (by omega)
  hc:=h.hc.trans (hc.mono fun _ e=>.inl (by omega)) }
theorem AP.clone (h : AP w τ t td y lp d from_ segs n g hb S0 vL base nxt fr bvv bvr nb rvv rvr rn vs bs W τ') {v : Value} {l : List UInt8} (hl : 0 < l.length) (ho : W'.ownsRow W.heap.size 5 1 v l.length (ub l)) (hbl : Below W.heap.size W W') :
 ∃ τ2,AP w τ t td y lp d from_ segs n g hb S0 vL base nxt fr bvv bvr nb rvv rvr rn vs bs W' τ2 /\ BodyAt W' τ2 (t + 192) v l:=
 ⟨_,h.quiet (Chg.of_below hbl (t + 192)),Rw.of_new ho (Nat.le_refl _) τ' _,hl⟩
theorem AP.start {fr : Bool} {bs : List (List UInt8)} (h : LogS W τ' t lp d from_ segs nxt fr (S0 ++ [(g,bs)])) (hd : DevAt W τ' td d n (fun _=>False)) (hc : Chg (fun x=>x % 96 = t \/ x = td \/ x = y) w τ W τ') (o : Array Value) (ho : o = (bv (List.replicate 8 0)).toArray) :
 ∃ vL bvv rvv vs,vs.length = bs.length /\ AP w τ t td y lp d from_ segs n g W.heap.size S0 vL (1 + (S0.flatMap (·.2)).length) nxt fr bvv bvv (used bs) rvv rvv bs.length vs bs (W.alloc (.cells o 355)) (ext τ' W y):=by
 obtain ⟨vL,h1,h2⟩:=h.ex
 have hlen : S0.length < (S0 ++ [(g,bs)]).length:=by simp
 obtain ⟨bvv,nb,lb,rvv,vs,a1,a2,a3,a4,_,a5,a6,a7⟩:=(h.seg S0.length (g,bs) (by rw [List.getElem?_append_right (Nat.le_refl _),Nat.sub_self];rfl)).ex
 rw [List.take_left' rfl] at a1 a5
 ·refine ⟨vL,bvv,rvv,vs,a6,?_⟩
  have hq : Chg (fun _=>False) W τ' (W.alloc (.cells o 355)) (ext τ' W y):=((Chg.refl _ _ _).alloc _).ext y
  subst a4
  exact {
   hl:=h1.keep hq id
   hr:=by
    have:=h2.keep hq id
    simpa [Segs.ptrs] using this
   hs:=fun k p hp=>by
    have hk:=(List.getElem?_eq_some_iff.1 hp).1
    have:=(h.seg k p (by rw [List.getElem?_append_left hk];exact hp)).keep hq id id
    rw [List.take_append_of_le_length (by omega)] at this
    exact this
   hg:=a1.keep hq id
   hbf:=⟨lb,a2.keep hq id,a3⟩
   hq:=a5.keep hq id
   hv:=fun i l hl=>by obtain ⟨v,a,b⟩:=a7 i l hl;exact ⟨v,a,b.keep hq id⟩
   hh:=⟨List.replicate 8 0,List.length_replicate,fun x hx=>by rw [List.eq_of_mem_replicate hx];decide,by subst ho;exact ⟨Blk.new _ _ _,ext_new (Nat.le_refl _)⟩⟩
   hd:=hd.keep hq id
   hc:=hc.trans (hq.mono fun _ e=>e.elim) }
theorem AP.fin (h : AP w τ t td y lp d from_ segs n g hb S0 vL (1 + (S0.flatMap (·.2)).length) nxt fr bvv bvv (used bs) rvv rvv bs.length vs bs W τ') (ht : t < 95) (hvs : vs.length = bs.length) (hu : used bs <= 378) : LogS W τ' t lp d from_ segs nxt fr (S0 ++ [(g,bs)]) where
 ht:=ht
 ex:=⟨vL,h.hl,by have:=h.hr;simpa [Segs.ptrs] using this⟩
 seg:=fun k p hp=>by
  rcases Nat.lt_trichotomy k S0.length with h1 | h1 | h1
  ·rw [List.getElem?_append_left h1] at hp
   rw [List.take_append_of_le_length (by omega)]
   exact h.hs k p hp
  ·subst h1
   rw [List.getElem?_append_right (Nat.le_refl _),Nat.sub_self] at hp
   simp only [List.getElem?_cons_zero,Option.some.injEq] at hp
   subst hp
   rw [List.take_left']
   ·obtain ⟨lb,a,b⟩:=h.hbf
    exact ⟨bvv,used bs,lb,rvv,vs,h.hg,a,b,rfl,hu,h.hq,hvs,h.hv⟩
   ·rfl
  ·rw [List.getElem?_eq_none (by simp;omega)] at hp
   cases hp
end
end Go.Proofs.Ytlhekbjidppijaa
namespace Go.Proofs.Ytlhekbjidppijaa
open Go.RowKit
structure LogAt (w : World) (τ : Own) (t lp d from_ segs : Nat) (fr : Bool) (bodies : List (List UInt8)) : Prop where
 ex : ∃ S,LogS w τ t lp d from_ segs (1 + bodies.length) fr S /\ S.flatMap (·.2) = bodies /\ ∀ p ∈ S,p.2 ≠ []
theorem segs_le (S : Segs) (h : ∀ p ∈ S,p.2 ≠ []) : S.length <= (S.flatMap (·.2)).length:=by
 induction S with
 | nil=>simp
 | cons p S ih=>
  have h1 : p.2 ≠ []:=h p (by simp)
  have h2:=ih fun q hq=>h q (by simp [hq])
  have h3 : 0 < p.2.length:=List.length_pos_iff.2 h1
  rw [List.flatMap_cons,List.length_append,List.length_cons]
  omega
theorem AP.done {w W : World} {τ τ' : Own} {t td y lp d from_ segs n g hb base nxt nb rn m : Nat} {S0 : Segs} {vL bvv rvv : Value} {vs : List Value} {bs bodies : List (List UInt8)} {v : Value} {body : List UInt8}
 (h : AP w τ t td y lp d from_ segs n g hb S0 vL base (nxt + 1) false bvv bvv (nb + 8 + m) rvv rvv (rn + 1) (vs ++ [v]) (bs ++ [body]) W τ') (ht : t < 95) (hE : base = 1 + (S0.flatMap (·.2)).length /\ nxt = 1 + bodies.length /\ nb = used bs /\ rn = bs.length) (hvs : vs.length = bs.length) (hm : body.length = m)
 (h378 : nb + 8 + m <= 378) (hfl : S0.flatMap (·.2) ++ bs = bodies) (hnn : ∀ p ∈ S0,p.2 ≠ []) : LogAt W τ' t lp d from_ segs false (bodies ++ [body]):=by
 obtain ⟨rfl,rfl,rfl,rfl⟩:=hE
 subst hm
 have e1 : used bs + 8 + body.length = used (bs ++ [body]):=by rw [used_snoc];omega
 have e2 : bs.length + 1 = (bs ++ [body]).length:=by simp
 rw [e1,e2] at h
 have hf:=h.fin ht (by simp [hvs]) (by omega)
 refine ⟨S0 ++ [(g,bs ++ [body])],?_,?_,?_⟩
 ·have e3 : 1 + bodies.length + 1 = 1 + (bodies ++ [body]).length:=by simp;omega
  rw [<- e3]
  exact hf
 ·rw [<- hfl];simp
 ·intro p hp
  rcases List.mem_append.1 hp with hp | hp
  ·exact hnn p hp
  ·simp at hp;subst hp;simp
theorem LogAt.keep {T : Nat -> Prop} {w w' : World} {τ τ' : Own} {t lp d from_ segs : Nat} {fr : Bool} {bodies : List (List UInt8)} (h : LogAt w τ t lp d from_ segs fr bodies) (hc : Chg T w τ w' τ') (hT : ∀ x,T x -> x % 96 ≠ t) : LogAt w' τ' t lp d from_ segs fr bodies:=by
 obtain ⟨S,a,b,c⟩:=h.ex
 exact ⟨S,a.keep hc hT,b,c⟩
theorem LogAt.ht {w : World} {τ : Own} {t lp d from_ segs : Nat} {fr : Bool} {bodies : List (List UInt8)} (h : LogAt w τ t lp d from_ segs fr bodies) : t < 95:=by
 obtain ⟨S,a,b,c⟩:=h.ex
 exact a.ht
end Go.Proofs.Ytlhekbjidppijaa
