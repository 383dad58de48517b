/- Contracts of what TopFall reaches: what each function returns and leaves in memory. Conditions: as named. -/
import Derived.Test.YtlhekbjidppijaaGreatMAT
set_option linter.unusedVariables false
set_option linter.unusedSimpArgs false
set_option maxRecDepth 20000
set_option maxHeartbeats 8000000
namespace Go.Proofs.Ytlhekbjidppijaa
open Lib (hid)
open Go.RowKit
theorem info354:(Tryz.prog.info? 354).map (fun i=>(i.zero.map Value.cells,i.size,i.bytes))=some (some #[.pointer none],1,8):=by kernel_rfl
def BgS (bl vg lp g a gl n c:Nat)(W:World):Prop:=W.cell? ⟨bl,0,none⟩=some (.pointer (some ⟨lp,0,none⟩))/\W.cell? ⟨vg,0,none⟩=some (.pointer (some ⟨g,0,none⟩))/\W.cell? ⟨lp,3,none⟩=some (.slice (some ⟨a,0,none⟩) n c)/\W.cell? ⟨a,n-1,none⟩=some (.pointer (some ⟨gl,0,none⟩))/\W.cell? ⟨gl,0,none⟩=some (.int .i64 (n:Int))
def BgT (bl vg lp g n c:Nat)(A:Option Addr)(W:World):Prop:=W.cell? ⟨bl,0,none⟩=some (.pointer (some ⟨lp,0,none⟩))/\W.cell? ⟨vg,0,none⟩=some (.pointer (some ⟨g,0,none⟩))/\W.cell? ⟨lp,3,none⟩=some (.slice A n c)
theorem begin245 (w:World)(U:Own)(t td lp d from_ segs nxt n:Nat)(fr:Bool)(f:Lf)(S:Segs)(Z:Cont)(F:Nat->Prop)(hL:LogS w U t lp d from_ segs nxt fr f S)(hD:DevAt w U td d n Z F)(htd:td<95)(hne:td≠t)
 (hk:S.length<segs)(hn:from_+segs*8<=n)(hn2:n<=2048)(hnx:nxt=pz f (S.flatMap (·.2)).length)(hnx2:nxt<=1000000) :
 Calls Tryz.prog 245 #[.pointer (some ⟨lp,0,none⟩)] w fun e w'=>e=.returned (.int .i64 0)/\∃ U' g,LogS w' U' t lp d from_ segs nxt fr f (S++[(g,([]:List (List UInt8)))])/\DevAt w' U' td d n (upd Z (from_+S.length*8+0) (secB S.length nxt (lrun f) 0 [])) Lasts/\Chg (fun x=>x%96=t\/x=td) w U w' U':=by
 obtain⟨Z',hZ'⟩:∃ Z',Z'=upd Z (from_+S.length*8+0) (secB S.length nxt (lrun f) 0 []):=⟨_,rfl⟩;rw[<- hZ'];have HZ:=hid hZ';clear hZ';obtain⟨y,hy1,hy2⟩:=fresh95 w U;obtain⟨bl,hbl⟩:∃ b,b=w.heap.size:=⟨_,rfl⟩;obtain⟨g,hg⟩:∃ b,b=w.heap.size+1:=⟨_,rfl⟩;obtain⟨vg,hvg⟩:∃ b,b=w.heap.size+1+1:=⟨_,rfl⟩;obtain⟨vL,h1,h2⟩:=hL.ex;have ht:=hL.ht
 obtain⟨U3,hU3⟩:∃ U3:Own,U3=fun k=>if k<w.heap.size then U k else if k=w.heap.size+1 then t+96*(S.length+3) else y:=⟨_,rfl⟩
 have hold:∀ k,k<w.heap.size->U3 k=U k:=fun k hk=>by rw[hU3];simp[hk]
 obtain⟨W3,hW3⟩:∃ W,W=((w.alloc (.cells #[.pointer (some ⟨lp,0,none⟩)] 271)).alloc (.cells #[.int .i64 1,.int .i64 (nxt:Int),.int .i64 0,.slice none 0 0,.slice none 0 0] 353)).alloc (.cells #[.pointer (some ⟨w.heap.size+1,0,none⟩)] 354):=⟨_,rfl⟩
 have hch:Chg (fun _=>False) w U W3 U3:=by
  rw[hW3];exact((((Chg.refl _ _ _).alloc _).alloc _).alloc _).reown hold
 have HFR:Hid (∀ W U',Chg (fun x=>x%96=t\/x=td\/x=y) w U W U'->Chg (fun x=>x%96=t\/x=td) w U W U'):=hid fun W U' h=>h.fresh fun i hi e=>by
  rcases e with e|e|e
  ·exact .inl e
  ·exact .inr e
  ·exact absurd e (hy2 i hi)
 have HB2:Hid (BG w U t td y lp d from_ segs nxt n bl g vg 1 fr f Z S vL vL S.ptrs W3 U3):=hid (by
  refine⟨h1.keep hch id,?_,fun k p hp=>(hL.seg k p hp).keep hch id id,⟨?_,?_⟩,⟨?_,?_⟩,⟨?_,?_⟩,⟨F,hD.keep hch id⟩,hch.mono fun _ h=>h.elim⟩
  ·rw[Segs.ptrs_length];exact h2.keep hch id
  ·rw[hW3,hg]
   have:=(Blk.new (w.alloc (.cells #[.pointer (some ⟨lp,0,none⟩)] 271)) 353 #[.int .i64 1,.int .i64 (nxt:Int),.int .i64 0,.slice none 0 0,.slice none 0 0]).alloc (.cells #[.pointer (some ⟨w.heap.size+1,0,none⟩)] 354)
   simpa using this
  ·rw[hU3,hg];simp;intro h;omega
  ·rw[hW3,hvg,hg]
   have:=Blk.new ((w.alloc (.cells #[.pointer (some ⟨lp,0,none⟩)] 271)).alloc (.cells #[.int .i64 1,.int .i64 (nxt:Int),.int .i64 0,.slice none 0 0,.slice none 0 0] 353)) 354 #[.pointer (some ⟨w.heap.size+1,0,none⟩)]
   simpa [ptr] using this
  ·rw[hU3,hvg];simp;intro h;omega
  ·rw[hW3,hbl]
   have:=((Blk.new w 271 #[.pointer (some ⟨lp,0,none⟩)]).alloc (.cells #[.int .i64 1,.int .i64 (nxt:Int),.int .i64 0,.slice none 0 0,.slice none 0 0] 353)).alloc (.cells #[.pointer (some ⟨w.heap.size+1,0,none⟩)] 354)
   simpa [ptr] using this
  ·rw[hU3,hbl];simp)
 have HT:Hid (t<95/\td<95/\td≠t/\y%96=95):=hid ⟨ht,htd,hne,hy1⟩;have HK:=hid hk;have HN:Hid (from_+segs*8<=n/\n<=2048):=hid ⟨hn,hn2⟩;have HNX:=hid hnx;have p1:(w.alloc (.cells #[.pointer (some ⟨lp,0,none⟩)] 271)).cell? ⟨lp,4,none⟩=some (.int .i64 (nxt:Int)):=(h1.alloc _).cell 4
 obtain⟨A0,c0,hvL,hcc,hA0⟩:∃ A c,vL=.slice A S.length c/\S.length<=c/\(S.length≠0->∃ a,A=some ⟨a,0,none⟩):=by
  obtain⟨A,c,h,h',_,_,_,hx,hy⟩:=h2.slice;refine⟨A,c,h,h',fun hne=>?_⟩
  cases A with
  | none=>exact absurd (hx rfl).1 hne
  | some a=>
   obtain⟨b,o,s⟩:=a;obtain⟨rfl,rfl,_⟩:=hy _ rfl;exact⟨b,rfl⟩
 have p2:(((w.alloc (.cells #[.pointer (some ⟨lp,0,none⟩)] 271)).alloc (.cells #[.int .i64 1,.int .i64 (nxt:Int),.int .i64 0,.slice none 0 0,.slice none 0 0] 353)).alloc (.cells #[.pointer (some ⟨w.heap.size+1,0,none⟩)] 354)).cell? ⟨lp,3,none⟩=some (.slice A0 S.length c0):=by rw[<- hvL];exact(((h1.alloc _).alloc _).alloc _).cell 3
 have HVL:=hid hvL;have HW:=hid hW3;have HBL:Hid (bl=w.heap.size/\g=w.heap.size+1/\vg=w.heap.size+1+1):=hid ⟨hbl,hg,hvg⟩;clear hL hD h1 h2 hy1 hy2 hch hold hU3 hvL hW3 hbl hg hvg hnx hcc
 have HW8:Hid (∀ (W:World) U0 vL,BG w U t td y lp d from_ segs nxt n bl g vg (S.length+1) fr f Z S vL vL S.ptrs W U0->Calls Tryz.prog 248 #[.pointer (some ⟨lp,0,none⟩),.pointer (some ⟨g,0,none⟩),.int .i64 0] W fun e w'=>e=.returned (.int .i64 0)/\∃ U',DevAt w' U' td d n Z' Loose/\Chg (· = td) W U0 w' U'):=hid (fun W U0 vL h=>by
  have hnn:=HN.out;have hkk:=HK.out;have htt:=HT.out;obtain⟨F0,hd0⟩:=h.hd;rw[HZ.out]
  exact write248n W U0 t (t+96*(S.length+3)) td lp g d from_ segs (lrun f) S.length nxt n 0 Z F0 vL _ _ _ h.hl h.hg hd0 (by omega) (by omega) hkk (by omega) (by omega) (by omega) (by have:=lrun_le f;omega) hnx2)
 obtain⟨m,hm⟩:∃ m,S.length=m:=⟨_,rfl⟩;have HMM:=hid hm;rw[hm]at p2
 have h0:m=0\/0<m:=by omega
 rcases h0 with h0|h0
 focus(
  have HB3:Hid (BG w U t td y lp d from_ segs nxt n bl g vg (S.length+1) fr f Z S vL vL S.ptrs W3 U3):=hid (by rw[hm,h0];exact HB2.out);clear HB2 hA0
  have k1:¬ ((0:Int)<(m:Int)):=by omega
  clear hm;go_enter Tryz.func245,Tryz.ntmps245
  go_wp2_with fail
  rw[<- HW.out,<- HBL.out.2.2,<- HBL.out.2.1,<- HBL.out.1];clear p1 p2 k1;have c1:=HB3.out.hb.cell 0;have c2:=HB3.out.hv.cell 0
  go_wp2_with fail
  clear c1 c2)
 rotate_left
 focus(
  have k1:(0:Int)<(m:Int):=by omega
  clear hm;go_enter Tryz.func245,Tryz.ntmps245
  go_wp2_with fail
  rw[<- HW.out,<- HBL.out.2.2,<- HBL.out.2.1,<- HBL.out.1];clear p1 p2;obtain rfl:=HMM.out;obtain⟨a0,rfl⟩:=hA0 (by omega);have HB0:Hid (BG w U t td y lp d from_ segs nxt n bl g vg 1 fr f Z S (.slice (some ⟨a0,0,none⟩) S.length c0) (.slice (some ⟨a0,0,none⟩) S.length c0) S.ptrs W3.drew U3):=hid (by have h:=HB2.out.drewN 1;rw[HVL.out]at h;exact h);clear HB2 hA0
  have hgl:S.length-1<S.length:=by omega
  obtain⟨_,_,_,_,hx,-⟩:=(HB0.out.hs (S.length-1) S[S.length-1] (List.getElem?_eq_getElem hgl)).ex
  have hxa:S.ptrs[S.length-1]? = some (.pointer (some ⟨S[S.length-1].1,0,none⟩)):=by simp[Segs.ptrs,hgl]
  obtain⟨gl,hgl'⟩:∃ gl,gl=S[S.length-1].1:=⟨_,rfl⟩;rw[<- hgl']at hx hxa
  have e5:S.length-1+1=S.length:=by omega
  rw[e5]at hx
  have S0:Hid (BgS bl vg lp g a0 gl S.length c0 W3.drew):=hid (by
   have hr:=HB0.out.hr;rw[Segs.ptrs_length]at hr;obtain⟨A',c',h5,-,-,-,h6,-⟩:=hr.slice
   cases h5
   obtain⟨b',o',h7,h8⟩:=h6 (by intro e;rw[e]at hxa;cases hxa)
   cases h7
   have h9:=h8 _ _ hxa;rw[Nat.zero_add]at h9
   exact⟨HB0.out.hb.cell 0,HB0.out.hv.cell 0,HB0.out.hl.cell 3,h9,hx.cell 0⟩)
  have x1:(0:Int)<=(S.length:Int)-1/\(S.length:Int)-1<(S.length:Int):=by omega
  have x2:((S.length:Int)-1).toNat=S.length-1:=by omega
  have x5:(1:Int)<=(S.length:Int):=by omega
  have hs9:=HK.out;have hs8:=HN.out;have x3:IntKind.i64.wrap ((S.length:Int)-1)=(S.length:Int)-1:=IntWalk.i64_in _ ⟨by omega,by omega⟩
  have x4:(S.length:Int)<=100000:=by omega
  clear hs9 hs8 hx hxa e5 hgl' hgl;refine wp_region_hl [] [0,1,2,3,4,5,6,7,8,9,10,11,12] (BgS bl vg lp g a0 gl S.length c0) (by kernel_rfl) (by kernel_rfl) S0.out ?_
  iterate 13 (refine hd_take (v:=?_) rfl rfl (by kernel_rfl) (fun W hW=>?_) ?_;rotate_left;(obtain⟨r0,r1,r2,r3,r4⟩:=hW;first|(go_simp;done)|(go_simp;with_reducible rfl)))
  refine hd_end ?_;simp only[zqa,zqb,zqc,zqd,Nat.zero_add,Nat.reduceAdd];generalize W3.drew=Wd at HB0 ⊢;have hf:=HB0.out.hg.frozen 0;have hc3:=HB0.out.hg.cell 0
  have e1:((S.length+1:Nat):Int)=(S.length:Int)+1:=by omega
  have hs1:=HB0.out.setGen HT.out.1 HT.out.2.1 HT.out.2.2.1 HT.out.2.2.2 (S.length+1);rw[e1]at hs1;have HS:=hid hs1;have c1:=hs1.hb.cell 0;have c2:=hs1.hv.cell 0;clear hs1 e1
  go_wp2_with fail
  clear hf hc3 x1 x2 x3 x4 x5 k1 c1 c2;have HB3:Hid (BG w U t td y lp d from_ segs nxt n bl g vg (S.length+1) fr f Z S vL vL S.ptrs (Wd.setCell ⟨g,0,none⟩ (.int .i64 ((S.length:Int)+1))) U3):=hid (by rw[HVL.out];exact HS.out);clear HS HB0 S0
  generalize Wd.setCell ⟨g,0,none⟩ _=W4 at HB3 ⊢)
 all_goals (
  refine(HW8.out _ _ _ HB3.out).mono ?_;rintro e wx1 ⟨rfl,U4,hd4,hc4⟩;have HB4:=hid (HB3.out.dev hc4 hd4 HT.out.1 HT.out.2.1 HT.out.2.2.1 HT.out.2.2.2);clear hd4 hc4 HB3 HW8;have c1:=HB4.out.hb.cell 0;have c2:=HB4.out.hv.cell 0
  obtain⟨A,c,rfl,HVS⟩:∃ A c,vL=.slice A S.length c/\Hid (∀ W U',BG w U t td y lp d from_ segs nxt n bl g vg (S.length+1) fr f Z' S vL vL S.ptrs W U'->Sl W A S.ptrs):=by
   obtain⟨A,c,h1,-,-,-,-,h2,h3⟩:=HB4.out.hr.slice;subst h1;rw[Segs.ptrs_length]at *;refine⟨A,c,rfl,hid fun W U' h=>?_⟩;have h4:=h.hr;rw[Segs.ptrs_length]at h4;obtain⟨A',c',h5,-,-,-,h6,-⟩:=h4.slice
   cases h5
   exact h6
  have HDEL:Hid (∀ W,BG w U t td y lp d from_ segs nxt n bl g vg (S.length+1) fr f Z' S (.slice A S.length c) (.slice A S.length c) S.ptrs W U4->Calls Tryz.prog 268 #[.slice A S.length c,.func (.func 269) #[] #[.pointer (some ⟨vg,0,none⟩),.pointer (some ⟨bl,0,none⟩)]] W fun e w'=>e=.returned (.slice A S.length c)/\∃ m,w'=W.drewN m):=hid (fun W h=>by
   refine del268 W A S.length c S.ptrs _ _ (HVS.out W U4 h) (Segs.ptrs_length S) (by have:=HK.out;omega) fun m i hi=>?_
   have hi':i<S.length:=by rwa [Segs.ptrs_length]at hi
   have h':=h.drewN m;obtain⟨_,_,_,_,hx,_⟩:=(h'.hs i S[i] (List.getElem?_eq_getElem hi')).ex
   have e:S.ptrs[i]=.pointer (some ⟨S[i].1,0,none⟩):=by simp[Segs.ptrs,ptr]
   rw[e];refine(begin269 (W.drewN m) S[i].1 vg bl g lp segs i S.length (hx.cell 0) (h'.hv.cell 0) (h'.hg.cell 0) (h'.hb.cell 0) (h'.hl.cell 2) HK.out (by have:=HN.out;omega)).mono ?_;rintro e w' ⟨rfl,rfl⟩
   exact⟨rfl,m+1,rfl⟩)
  have hmf:∀ fn first cap w,(Instr.makeFunc fn first cap).run Tryz.prog w=.ok (.func fn first cap) w:=fun _ _ _ _=>rfl;have S4:Hid (BgT bl vg lp g S.length c A wx1.drew):=hid ⟨HB4.out.hb.cell 0,HB4.out.hv.cell 0,HB4.out.hl.cell 3⟩
  go_wp2_with fail
  clear c1 c2;refine wp_region_hl [6] [0,1,2,3,4,5,6] (BgT bl vg lp g S.length c A) (by kernel_rfl) (by kernel_rfl) S4.out ?_
  iterate 6 (refine hd_take (v:=?_) rfl rfl (by kernel_rfl) (fun W hW=>?_) ?_;rotate_left;(obtain⟨r0,r1,r2⟩:=hW;first|(go_simp;done)|(go_simp;with_reducible rfl)))
  refine hd_loud rfl rfl fun K hK=>?_;go_simp;refine(HDEL.out _ (HB4.out.drewN 1)).mono ?_;rintro e wx ⟨rfl,m,hwx⟩;have HB5:Hid (BG w U t td y lp d from_ segs nxt n bl g vg (S.length+1) fr f Z' S (.slice A S.length c) (.slice A S.length c) S.ptrs wx U4):=hid (by rw[hwx];exact(HB4.out.drewN 1).drewN m);refine hK _ _ ⟨HB5.out.hb.cell 0,HB5.out.hv.cell 0,HB5.out.hl.cell 3⟩ (hd_end ?_);clear hK hmf hwx;simp only[zqa,zqb,zqc,zqd,Nat.zero_add,Nat.reduceAdd];have hf:=HB5.out.hl.frozen 3;have hc3:=HB5.out.hl.cell 3;have HS:=hid (HB5.out.setL HT.out.1 HT.out.2.1 HT.out.2.2.1 HT.out.2.2.2 (.slice A S.length c) rfl)
  go_wp2_with fail
  clear hf hc3 HB5 HB4 HDEL HVS S4;generalize wx.setCell ⟨lp,3,none⟩ _=W5 at HS ⊢;have HB0:Hid (BG w U t td y lp d from_ segs nxt n bl g vg (S.length+1) fr f Z' S (.slice A S.length c) (.slice A S.length c) S.ptrs W5.drew U4):=hid (HS.out.drewN 1);clear HS;have HX:Hid (S.ptrs.length<=100000):=hid (by rw[Segs.ptrs_length];have:=HK.out;have:=HN.out;omega);obtain⟨i0,z0,hi0⟩:=info_cells info354;have HI:=hid hi0;clear hi0;have S5:Hid (BgT bl vg lp g S.length c A W5.drew):=hid ⟨HB0.out.hb.cell 0,HB0.out.hv.cell 0,HB0.out.hl.cell 3⟩
  go_wp2_with fail
  refine wp_region_hl [6,7] [0,1,2,3,4,5,6,7] (BgT bl vg lp g S.length c A) (by kernel_rfl) (by kernel_rfl) S5.out ?_
  iterate 6 (refine hd_take (v:=?_) rfl rfl (by kernel_rfl) (fun W hW=>?_) ?_;rotate_left;(obtain⟨r0,r1,r2⟩:=hW;first|(go_simp;done)|(go_simp;with_reducible rfl)))
  refine hd_loud rfl rfl fun K hK=>?_;go_simp;have HB6:=hid (HB0.out.alloc (.cells #[ptr g] 354));refine hK _ _ ⟨HB6.out.hb.cell 0,HB6.out.hv.cell 0,HB6.out.hl.cell 3⟩ ?_;clear hK;refine hd_loud rfl rfl fun K hK=>?_;refine step_append_row _ rfl (.tmp 53) (.tmp 55) 326 rfl (ext U4 W5.drew y) (t+96) 354 i0 z0 1 8 (by kernel_rfl) HI.out.1 HI.out.2.1 HI.out.2.2.2.1 HI.out.2.2.2.2 (by rw[HI.out.2.2.1];rfl) (by decide) (.slice A S.length c) S.ptrs.length S.ptrs rfl HB6.out.hr (some ⟨W5.heap.size,0,none⟩) 1 1 [ptr g] rfl rfl (Blk.new W5.drew 354 #[ptr g]).sl (by intro e;cases e) (by intro u hu;simp at hu;subst hu;rfl) (by have:=HX.out;omega) (by decide) ?_;intro v' w' hR hC;obtain⟨A',c',rfl,-⟩:=hR.slice;have HB7:=hid (HB6.out.app (ys:=S.ptrs++[ptr g]) HT.out.1 HT.out.2.1 HT.out.2.2.1 HT.out.2.2.2 (by rw[List.length_append];exact hR) hC);clear hR hC;refine hK _ _ ⟨HB7.out.hb.cell 0,HB7.out.hv.cell 0,HB7.out.hl.cell 3⟩ (hd_end ?_);clear hK;simp only[zqa,zqb,zqc,zqd,Nat.zero_add,Nat.reduceAdd];have hf:=HB7.out.hl.frozen 3;have hc3:=HB7.out.hl.cell 3;have HS:=hid (HB7.out.setL HT.out.1 HT.out.2.1 HT.out.2.2.1 HT.out.2.2.2 (.slice A' (S.ptrs.length+1) c') rfl);have c1:=HS.out.hb.cell 0;have c2:=HS.out.hl.cell 0
  go_wp2_with fail
  clear hf hc3 HB7 HB6 HB0 S5 c1 c2;generalize w'.setCell ⟨lp,3,none⟩ _=W6 at HS ⊢
  have e7:S.ptrs++[ptr g]=Segs.ptrs (S++[(g,([]:List (List UInt8)))]):=by simp[Segs.ptrs]
  have hb5:=HS.out;rw[e7]at hb5;have HB7:=hid hb5;clear hb5 e7 HS;obtain⟨F7,hd7'⟩:=HB7.out.hd;have HFL:=hid (flush_any _ _ td d n _ _ hd7' HN.out.2);clear hd7';refine HFL.out.mono ?_;rintro e wy ⟨rfl,hd7,hc7⟩;have HB8:=hid (HB7.out.dev hc7 hd7 HT.out.1 HT.out.2.1 HT.out.2.2.1 HT.out.2.2.2);have HD7:=hid hd7;clear HFL HB7 hd7 hc7
  go_wp2
  go_ret
  exact⟨rfl,_,g,HB8.out.fin HT.out.1 HNX.out,HD7.out,HFR.out _ _ HB8.out.hc⟩)
section
variable {T : Nat -> Prop} {w w' : World} {U U' : Own} {t n n' size size' : Nat} {e e' : TypeId} {v v' : Value} {xs xs' : List Value} {row : Option Nat}
theorem Has.grown {g:Nat}{ty:TypeId}{cs:Array Value}(h:Has w U t g ty cs)(hg:w.grownBy w' row)(hne:row≠some g)(t0:Nat):Has w' (ext U w t0) t g ty cs:=
 ⟨(hg.block g h.lt (Ne.symm hne)).trans h.blk,(ext_old h.lt).trans h.own⟩
theorem Rw.grown (h:Rw w U t e size v n xs)(hg:w.grownBy w' row)(hne:∀ g,v.ownBlock=some g->row≠some g)(t0:Nat):Rw w' (ext U w t0) t e size v n xs:=by
 refine⟨⟨h.own.1,?_⟩,fun g hgg=>(ext_old (h.own.lt g hgg).2).trans (h.tag g hgg)⟩
 rcases h.own.2 with hn|⟨g,cap,cur,rfl,hb,hgg,rest⟩
 ·exact .inl hn
 ·refine .inr ⟨g,cap,cur,rfl,hb,?_,rest⟩
  rw[hg.block g (Array.getElem?_eq_some_iff.1 hgg).1 (Ne.symm (hne g rfl))];exact hgg
theorem Rw.apart (h:Rw w U t e size v n xs){U2:Own}{t2:Nat}(h':Rw w U2 t2 e' size' v' n' xs')(he:e≠e'):∀ g,v'.ownBlock=some g->v.ownBlock≠some g:=by
 intro g hg hv
 rcases h.own.2 with ⟨rfl,_⟩|⟨a,cap,cur,rfl,_,ha,_⟩
 ·cases hv
 ·rcases h'.own.2 with ⟨rfl,_⟩|⟨b,cap',cur',rfl,_,hb,_⟩
  ·cases hg
  ·have e1:a=g:=by simpa [Value.ownBlock] using hv
   have e2:b=g:=by simpa [Value.ownBlock] using hg
   subst e1;subst e2;rw[ha]at hb
   injection hb with hb
   injection hb with _ hb
   exact he hb
end
section
variable {P : Program} (w : World)
theorem run_append_row2 (U:Own)(t:Nat)(st ty e:TypeId)(i:TypeInfo)(z:Value)(size bytes:Nat)(ht:P.underlying st=some (.slice e))(hi:P.info? e=some i)(hz:i.zero=some z)
 (hsize:i.size=size)(hby:i.bytes=bytes)(hzs:z.cells.size=size)(hs0:0<size)
 (v:Value)(n:Nat)(xs:List Value)(hown:Rw w U t e size v n xs)
 (a:Addr)(m c:Nat)(news:List Value)(hm:news.length=m*size)(hm0:0<m)(hr:Sl w (some a) news)(h1:∀ u∈news,u.oneCell'=true)
 (h63:n+m<=1073741824)(hbs:bytes<=65536) :
 ∃ g cap w',(Builtin.append_ #[st,st] ty #[v,.slice (some a) m c]).run P w=.ok (.slice (some ⟨g,0,none⟩) (n+m) cap) w'/\Rw w' (ext U w t) t e size (.slice (some ⟨g,0,none⟩) (n+m) cap) (n+m) (xs++news)/\Chg (· = t) w U w' (ext U w t)/\w.grownBy w' v.ownBlock:=by
 have hbytes:(n+m)*bytes<=140737488355328:=by
  have:=Nat.mul_le_mul h63 hbs;omega
 have hml:n+m<=maxLen:=by unfold maxLen;omega
 have hcells:∀ j u,news[j]? = some u->w.cell? (a.add j)=some u:=by
  intro j u hu;obtain⟨b,off,h,hc⟩:=hr (by intro e;subst e;simp at hu)
  injection h with h
  subst h;rw[add_none];exact hc j u hu
 obtain⟨v',w',hrun,h2,h3,_,h5⟩:=run_append_own_at (P:=P) w 0 st ty e i z size bytes ht hi hz hsize hby hzs hs0 v n xs hown.own a m c news hm hcells h1 hml hbytes (Nat.zero_le _);obtain⟨g,cap,rfl,_,hlt⟩:=h2.form (by omega);refine⟨g,cap,w',hrun,⟨h2,fun g' hg=>?_⟩,(Chg.grown (Chg.refl _ _ _) h3 (fun k hk=>.inr (hown.tag k hk))).ext t,h3⟩
 rcases h5 with h5|h5
 ·rw[h5]at hg
  rw[ext_old (hown.own.lt g' hg).2];exact hown.tag g' hg
 ·rw[h5]at hg
  injection hg with hg
  subst hg;exact ext_new (Nat.le_refl _)
theorem step_append_row2 {ops:Array Oper}{o:Oper}{a:Act}{K:Act->World->Prop}{Q:Exit->Act->World->Prop}{E:Prop}(hgd:o.guard=none)(s x:Operand)(st:TypeId)
 (ho:o.op=.call { callee:=.builtin .append,args:=#[s,x],argTypes:=#[st,st] })
 (U:Own)(t:Nat)(e:TypeId)(i:TypeInfo)(z:Value)(size bytes:Nat)(ht:P.underlying st=some (.slice e))(hi:P.info? e=some i)(hz:i.zero=some z)
 (hsize:i.size=size)(hby:i.bytes=bytes)(hzs:z.cells.size=size)(hs0:0<size)
 (v:Value)(n:Nat)(xs:List Value)(hs:a.eval s=v)(hown:Rw w U t e size v n xs)
 (A:Addr)(m c:Nat)(news:List Value)(hx:a.eval x=.slice (some A) m c)(hm:news.length=m*size)(hm0:0<m)(hr:Sl w (some A) news)(h1:∀ u∈news,u.oneCell'=true)
 (h63:n+m<=1073741824)(hbs:bytes<=65536)
 (h:∀ g cap w',Rw w' (ext U w t) t e size (.slice (some ⟨g,0,none⟩) (n+m) cap) (n+m) (xs++news)->Chg (· = t) w U w' (ext U w t)->w.grownBy w' v.ownBlock->K (a.put o.dst (.slice (some ⟨g,0,none⟩) (n+m) cap)) w') :
 if Region.wanted o (yielded ops a.tmps)=true then Oper.wp P o a w K Q else E:=by
 have hw:Region.wanted o (yielded ops a.tmps)=true:=by simp[Region.wanted,hgd]
 rw[if_pos hw];obtain⟨g,cap,w',hr,h2,h3,h4⟩:=run_append_row2 (P:=P) w U t st o.type e i z size bytes ht hi hz hsize hby hzs hs0 v n xs hown A m c news hm hm0 hr h1 h63 hbs;unfold Oper.wp execOp;simp only[ho,resolve,invoke,builtin,Sem.run_bind,Sem.run_pure,Result.andThen_ok,List.map_toArray,List.map_cons,List.map_nil,hs,hx,hr];exact h g cap w' h2 h3 h4
end
section
variable {P : Program} {ops : Array Oper} {o : Oper} {a : Act} {Q : Exit -> Act -> World -> Prop} {w : World}
theorem wpl_app {rest:List Oper}(hgd:o.guard=none){s x:Operand}{st:TypeId}(ho:o.op=.call { callee:=.builtin .append,args:=#[s,x],argTypes:=#[st,st] })
 (U:Own)(t:Nat){e:TypeId}{zs:Array Value}{size bytes:Nat}(ht:P.underlying st=some (.slice e))(hinfo:(P.info? e).map (fun i=>(i.zero.map Value.cells,i.size,i.bytes))=some (some zs,size,bytes))
 (hzs:zs.size=size)(hs0:0<size)(hbs:bytes<=65536){v:Value}{n:Nat}{xs:List Value}(hs:a.eval s=v)(hown:Rw w U t e size v n xs)
 {A:Addr}{c:Nat}{news:List Value}(hx:a.eval x=.slice (some A) 1 c)(hm:news.length=1*size)(hr:Sl w (some A) news)(h1:∀ u∈news,u.oneCell'=true)(h63:n+1<=1073741824)
 (h:∀ g cap w',Rw w' (ext U w t) t e size (.slice (some ⟨g,0,none⟩) (n+1) cap) (n+1) (xs++news)->Chg (· = t) w U w' (ext U w t)->w.grownBy w' v.ownBlock->wpList P ops Q rest (a.put o.dst (.slice (some ⟨g,0,none⟩) (n+1) cap)) w'):wpList P ops Q (o :: rest) a w:=by
 obtain⟨i0,z0,hi,hz,hc,hsz,hb⟩:=info_cells hinfo;refine wpList_plain hgd fun _ hK=>?_;obtain⟨g,cap,w',hr,h2,h3,h4⟩:=run_append_row2 (P:=P) w U t st o.type e i0 z0 size bytes ht hi hz hsz hb (by rw[hc];exact hzs) hs0 v n xs hown A 1 c news hm (by decide) hr h1 h63 hbs;unfold Oper.wp execOp;simp only[ho,resolve,invoke,builtin,Sem.run_bind,Sem.run_pure,Result.andThen_ok,List.map_toArray,List.map_cons,List.map_nil,hs,hx,hr];exact hK _ _ (h g cap w' h2 h3 h4)
theorem st_app {K:Act->World->Prop}{E:Prop}(hgd:o.guard=none){s x:Operand}{st:TypeId}(ho:o.op=.call { callee:=.builtin .append,args:=#[s,x],argTypes:=#[st,st] })
 (U:Own)(t:Nat){e:TypeId}{zs:Array Value}{size bytes:Nat}(ht:P.underlying st=some (.slice e))(hinfo:(P.info? e).map (fun i=>(i.zero.map Value.cells,i.size,i.bytes))=some (some zs,size,bytes))
 (hzs:zs.size=size)(hs0:0<size)(hbs:bytes<=65536){v:Value}{n:Nat}{xs:List Value}(hs:a.eval s=v)(hown:Rw w U t e size v n xs)
 {A:Addr}{c:Nat}{news:List Value}(hx:a.eval x=.slice (some A) 1 c)(hm:news.length=1*size)(hr:Sl w (some A) news)(h1:∀ u∈news,u.oneCell'=true)(h63:n+1<=1073741824)
 (h:∀ g cap w',Rw w' (ext U w t) t e size (.slice (some ⟨g,0,none⟩) (n+1) cap) (n+1) (xs++news)->Chg (· = t) w U w' (ext U w t)->w.grownBy w' v.ownBlock->K (a.put o.dst (.slice (some ⟨g,0,none⟩) (n+1) cap)) w') :
 if Region.wanted o (yielded ops a.tmps)=true then Oper.wp P o a w K Q else E:=by
 obtain⟨i0,z0,hi,hz,hc,hsz,hb⟩:=info_cells hinfo;exact step_append_row2 w hgd s x st ho U t e i0 z0 size bytes ht hi hz hsz hb (by rw[hc];exact hzs) hs0 v n xs hs hown A 1 c news hx hm (by decide) hr h1 h63 hbs h
end
structure AP (w:World)(U:Own)(t td y lp d from_ segs n g hb:Nat)(f:Lf)(rr:Nat)(Z:Cont)(lh lb:List Nat)(S0:Segs)(vL:Value)(base nxt:Nat)(fr:Bool)(bvv bvr:Value)(nb:Nat)(rvv rvr:Value)(rn:Nat)(vs:List Value)(bs:List (List UInt8))(W:World)(U':Own):Prop where
 hl:Has W U' t lp 328 #[ptr d,.int .i64 (from_:Int),.int .i64 (segs:Int),vL,.int .i64 (nxt:Int),.int .i64 (lrun f:Int),.bool fr]
 hr:Rw W U' (t+96) 354 1 vL (S0.length+1) (S0.ptrs++[ptr g])
 hs:∀ k p,S0[k]? = some p->SegAt W U' (t+96*(k+3)) (t+192) p.1 k f ((S0.take k).flatMap (·.2)).length p.2
 hg:Has W U' (t+96*(S0.length+3)) g 353 #[.int .i64 ((S0.length+1:Nat):Int),.int .i64 ((pz f base:Nat):Int),.int .i64 (rr:Int),bvv,rvv]
 hbf:Rw W U' (t+96*(S0.length+3)) 5 1 bvr nb (bv lb)/\∀ x∈lb,x<256
 hq:Rw W U' (t+96*(S0.length+3)) 359 2 rvr rn (rcells f base vs)
 hv:∀ (i:Nat) (l:List UInt8),bs[i]? = some l->∃ v:Value,vs[i]? = some v/\BodyAt W U' (t+192) v l
 hh:Bux 355 W U' y hb lh
 hd:∃ F,DevAt W U' td d n Z F
 hc:Chg (fun x=>x%96=t\/x=td\/x=y) w U W U'
section
variable {w W W' : World} {U U' U2 : Own} {t td y lp d from_ segs n g hb base nxt nb rn : Nat} {f : Lf} {rr : Nat} {Z Z' : Cont} {F : Nat -> Prop} {lh lh' lb : List Nat} {fr : Bool} {S0 : Segs} {vL bvv bvr rvv rvr : Value} {vs : List Value} {bs : List (List UInt8)}
theorem AP.quiet (h:AP w U t td y lp d from_ segs n g hb f rr Z lh lb S0 vL base nxt fr bvv bvr nb rvv rvr rn vs bs W U')(hc:Chg (fun _=>False) W U' W' U2):AP w U t td y lp d from_ segs n g hb f rr Z lh lb S0 vL base nxt fr bvv bvr nb rvv rvr rn vs bs W' U2 where
 hl:=h.hl.keep hc id
 hr:=h.hr.keep hc id
 hs:=fun k p hp=>(h.hs k p hp).keep hc id id
 hg:=h.hg.keep hc id
 hbf:=⟨h.hbf.1.keep hc id,h.hbf.2⟩
 hq:=h.hq.keep hc id
 hv:=fun i l hl=>by obtain⟨v,a,b⟩:=h.hv i l hl;exact⟨v,a,b.keep hc id⟩
 hh:=h.hh.keep hc id
 hd:=by obtain⟨F,h⟩:=h.hd;exact⟨F,h.keep hc id⟩
 hc:=h.hc.trans (hc.mono fun _ e=>e.elim)
theorem AP.drewN (h:AP w U t td y lp d from_ segs n g hb f rr Z lh lb S0 vL base nxt fr bvv bvr nb rvv rvr rn vs bs W U')(m:Nat):AP w U t td y lp d from_ segs n g hb f rr Z lh lb S0 vL base nxt fr bvv bvr nb rvv rvr rn vs bs (W.drewN m) U':=h.quiet ((Chg.refl _ _ _).drewN m)
theorem AP.alloc (h:AP w U t td y lp d from_ segs n g hb f rr Z lh lb S0 vL base nxt fr bvv bvr nb rvv rvr rn vs bs W U')(o:Obj):AP w U t td y lp d from_ segs n g hb f rr Z lh lb S0 vL base nxt fr bvv bvr nb rvv rvr rn vs bs (W.alloc o) (ext U' W y):=h.quiet (((Chg.refl _ _ _).alloc o).ext y)
theorem AP.dev (h:AP w U t td y lp d from_ segs n g hb f rr Z lh lb S0 vL base nxt fr bvv bvr nb rvv rvr rn vs bs W U')(hc:Chg (· = td) W U' W' U2)(hd:DevAt W' U2 td d n Z' F)(ht:t<95)(htd:td<95)(hne:td≠t)(hy:y%96=95) :
 AP w U t td y lp d from_ segs n g hb f rr Z' lh lb S0 vL base nxt fr bvv bvr nb rvv rvr rn vs bs W' U2 where
 hl:=h.hl.keep hc (by omega)
 hr:=h.hr.keep hc (by omega)
 hs:=fun k p hp=>(h.hs k p hp).keep hc (by omega) (by omega)
 hg:=h.hg.keep hc (by omega)
 hbf:=⟨h.hbf.1.keep hc (by omega),h.hbf.2⟩
 hq:=h.hq.keep hc (by omega)
 hv:=fun i l hl=>by obtain⟨v,a,b⟩:=h.hv i l hl;exact⟨v,a,b.keep hc (by omega)⟩
 hh:=h.hh.keep hc (by omega)
 hd:=⟨F,hd⟩
 hc:=h.hc.trans (hc.mono fun _ e=>.inr (.inl e))
theorem AP.buf (h:AP w U t td y lp d from_ segs n g hb f rr Z lh lb S0 vL base nxt fr bvv bvr nb rvv rvr rn vs bs W U')(hc:Chg (· = y) W U' W' U2)(hh:Bux 355 W' U2 y hb lh')(ht:t<95)(htd:td<95)(hy:y%96=95) :
 AP w U t td y lp d from_ segs n g hb f rr Z lh' lb S0 vL base nxt fr bvv bvr nb rvv rvr rn vs bs W' U2 where
 hl:=h.hl.keep hc (by omega)
 hr:=h.hr.keep hc (by omega)
 hs:=fun k p hp=>(h.hs k p hp).keep hc (by omega) (by omega)
 hg:=h.hg.keep hc (by omega)
 hbf:=⟨h.hbf.1.keep hc (by omega),h.hbf.2⟩
 hq:=h.hq.keep hc (by omega)
 hv:=fun i l hl=>by obtain⟨v,a,b⟩:=h.hv i l hl;exact⟨v,a,b.keep hc (by omega)⟩
 hh:=hh
 hd:=by obtain⟨F,h⟩:=h.hd;exact⟨F,h.keep hc (by omega)⟩
 hc:=h.hc.trans (hc.mono fun _ e=>.inr (.inr e))
theorem AP.app5 (h:AP w U t td y lp d from_ segs n g hb f rr Z lh lb S0 vL base nxt fr bvv bvr nb rvv rvr rn vs bs W U')(ht:t<95)(htd:td<95)(hne:td≠t)(hy:y%96=95){v:Value}{nb':Nat}{lb':List Nat}
 (hR:Rw W' (ext U' W (t+96*(S0.length+3))) (t+96*(S0.length+3)) 5 1 v nb' (bv lb'))(hlb:∀ x∈lb',x<256)(hc:Chg (· = t+96*(S0.length+3)) W U' W' (ext U' W (t+96*(S0.length+3))))(hg:W.grownBy W' bvr.ownBlock) :
 AP w U t td y lp d from_ segs n g hb f rr Z lh lb' S0 vL base nxt fr bvv v nb' rvv rvr rn vs bs W' (ext U' W (t+96*(S0.length+3))):=by
 have hb1:=h.hbf.1
 exact {
  hl:=h.hl.keep hc (by omega)
  hr:=h.hr.keep hc (by omega)
  hs:=fun k p hp=>by
   have:=(List.getElem?_eq_some_iff.1 hp).1;exact(h.hs k p hp).keep hc (by omega) (by omega)
  hg:=h.hg.grown hg (hb1.not h.hg (.inr (by decide))) _
  hbf:=⟨hR,hlb⟩
  hq:=h.hq.grown hg (hb1.apart h.hq (by decide)) _
  hv:=fun i l hl=>by obtain⟨v,a,b⟩:=h.hv i l hl;exact⟨v,a,b.keep hc (by omega)⟩
  hh:=h.hh.keep hc (by omega)
  hd:=by obtain⟨F,h⟩:=h.hd;exact⟨F,h.keep hc (by omega)⟩
  hc:=h.hc.trans (hc.mono fun _ e=>.inl (by omega)) }
theorem AP.app359 (h:AP w U t td y lp d from_ segs n g hb f rr Z lh lb S0 vL base nxt fr bvv bvr nb rvv rvr rn vs bs W U')(ht:t<95)(htd:td<95)(hne:td≠t)(hy:y%96=95){v:Value}{rn':Nat}{u:Value}{b:List UInt8}
 (hR:Rw W' (ext U' W (t+96*(S0.length+3))) (t+96*(S0.length+3)) 359 2 v rn' (rcells f base (vs++[u])))(hvs:vs.length=bs.length)(hu:BodyAt W U' (t+192) u b)(hc:Chg (· = t+96*(S0.length+3)) W U' W' (ext U' W (t+96*(S0.length+3))))(hg:W.grownBy W' rvr.ownBlock) :
 AP w U t td y lp d from_ segs n g hb f rr Z lh lb S0 vL base nxt fr bvv bvr nb rvv v rn' (vs++[u]) (bs++[b]) W' (ext U' W (t+96*(S0.length+3))):=by
 have hb1:=h.hbf.1;have hlb:=h.hbf.2
 exact {
  hl:=h.hl.keep hc (by omega)
  hr:=h.hr.keep hc (by omega)
  hs:=fun k p hp=>by
   have:=(List.getElem?_eq_some_iff.1 hp).1;exact(h.hs k p hp).keep hc (by omega) (by omega)
  hg:=h.hg.grown hg (h.hq.not h.hg (.inr (by decide))) _
  hbf:=⟨hb1.grown hg (h.hq.apart hb1 (by decide)) _,hlb⟩
  hq:=hR
  hv:=fun i l hl=>by
   by_cases hi:i<bs.length
   ·rw[List.getElem?_append_left hi]at hl
    obtain⟨v,a,b⟩:=h.hv i l hl;exact⟨v,by rw[List.getElem?_append_left (by omega)];exact a,b.keep hc (by omega)⟩
   ·have hi2:i=bs.length:=by
     have:=(List.getElem?_eq_some_iff.1 hl).1;simp at this;omega
    subst hi2;rw[List.getElem?_append_right (Nat.le_refl _),Nat.sub_self]at hl;simp only[List.getElem?_cons_zero,Option.some.injEq]at hl;subst hl;refine⟨u,?_,hu.keep hc (by omega)⟩;rw[List.getElem?_append_right (by omega),hvs,Nat.sub_self];rfl
  hh:=h.hh.keep hc (by omega)
  hd:=by obtain⟨F,h⟩:=h.hd;exact⟨F,h.keep hc (by omega)⟩
  hc:=h.hc.trans (hc.mono fun _ e=>.inl (by omega)) }
theorem AP.setG (h:AP w U t td y lp d from_ segs n g hb f rr Z lh lb S0 vL base nxt fr bvv bvr nb rvv rvr rn vs bs W U')(ht:t<95)(htd:td<95)(hne:td≠t)(hy:y%96=95)(i:Nat)(u bvv' rvv':Value)
 (he:(#[.int .i64 ((S0.length+1:Nat):Int),.int .i64 ((pz f base:Nat):Int),.int .i64 (rr:Int),bvv,rvv]:Array Value).setIfInBounds i u=#[.int .i64 ((S0.length+1:Nat):Int),.int .i64 ((pz f base:Nat):Int),.int .i64 (rr:Int),bvv',rvv']) :
 AP w U t td y lp d from_ segs n g hb f rr Z lh lb S0 vL base nxt fr bvv' bvr nb rvv' rvr rn vs bs (W.setCell ⟨g,i,none⟩ u) U':=by
 have hb1:=h.hbf.1;have hlb:=h.hbf.2;have hc:Chg (· = t+96*(S0.length+3)) W U' (W.setCell ⟨g,i,none⟩ u) U':=(Chg.refl _ W U').setCell (p:=⟨g,i,none⟩) h.hg.own u
 exact {
  hl:=h.hl.keep hc (by omega)
  hr:=h.hr.keep hc (by omega)
  hs:=fun k p hp=>by
   have:=(List.getElem?_eq_some_iff.1 hp).1;exact(h.hs k p hp).keep hc (by omega) (by omega)
  hg:=by have:=h.hg.set_ i u;rwa [he]at this
  hbf:=⟨hb1.far_ne (p:=⟨g,i,none⟩) (hb1.not h.hg (.inr (by decide))) u,hlb⟩
  hq:=h.hq.far_ne (p:=⟨g,i,none⟩) (h.hq.not h.hg (.inr (by decide))) u
  hv:=fun i l hl=>by obtain⟨v,a,b⟩:=h.hv i l hl;exact⟨v,a,b.keep hc (by omega)⟩
  hh:=h.hh.keep hc (by omega)
  hd:=by obtain⟨F,h⟩:=h.hd;exact⟨F,h.keep hc (by omega)⟩
  hc:=h.hc.trans (hc.mono fun _ e=>.inl (by omega)) }
theorem AP.setL (h:AP w U t td y lp d from_ segs n g hb f rr Z lh lb S0 vL base nxt fr bvv bvr nb rvv rvr rn vs bs W U')(ht:t<95)(htd:td<95)(hne:td≠t)(hy:y%96=95)(i:Nat)(u:Value)(nxt':Nat)(fr':Bool)
 (he:(#[ptr d,.int .i64 (from_:Int),.int .i64 (segs:Int),vL,.int .i64 (nxt:Int),.int .i64 (lrun f:Int),.bool fr]:Array Value).setIfInBounds i u=#[ptr d,.int .i64 (from_:Int),.int .i64 (segs:Int),vL,.int .i64 (nxt':Int),.int .i64 (lrun f:Int),.bool fr']) :
 AP w U t td y lp d from_ segs n g hb f rr Z lh lb S0 vL base nxt' fr' bvv bvr nb rvv rvr rn vs bs (W.setCell ⟨lp,i,none⟩ u) U':=by
 have hb1:=h.hbf.1;have hlb:=h.hbf.2;have hc:Chg (· = t) W U' (W.setCell ⟨lp,i,none⟩ u) U':=(Chg.refl _ W U').setCell (p:=⟨lp,i,none⟩) h.hl.own u
 exact {
  hl:=by have:=h.hl.set_ i u;rwa [he]at this
  hr:=h.hr.keep hc (by omega)
  hs:=fun k p hp=>(h.hs k p hp).keep hc (by omega) (by omega)
  hg:=h.hg.keep hc (by omega)
  hbf:=⟨hb1.keep hc (by omega),hlb⟩
  hq:=h.hq.keep hc (by omega)
  hv:=fun i l hl=>by obtain⟨v,a,b⟩:=h.hv i l hl;exact⟨v,a,b.keep hc (by omega)⟩
  hh:=h.hh.keep hc (by omega)
  hd:=by obtain⟨F,h⟩:=h.hd;exact⟨F,h.keep hc (by omega)⟩
  hc:=h.hc.trans (hc.mono fun _ e=>.inl (by omega)) }
theorem AP.clone (h:AP w U t td y lp d from_ segs n g hb f rr Z lh lb S0 vL base nxt fr bvv bvr nb rvv rvr rn vs bs W U'){v:Value}{l:List UInt8}(hl:0<l.length)(ho:W'.ownsRow W.heap.size 5 1 v l.length (ub l))(hbl:Below W.heap.size W W') :
 ∃ U2,AP w U t td y lp d from_ segs n g hb f rr Z lh lb S0 vL base nxt fr bvv bvr nb rvv rvr rn vs bs W' U2/\BodyAt W' U2 (t+192) v l:=
 ⟨_,h.quiet (Chg.of_below hbl (t+192)),Rw.of_new ho (Nat.le_refl _) U' _,hl⟩
theorem AP.start {fr:Bool}{bs:List (List UInt8)}(h:LogS W U' t lp d from_ segs nxt fr f (S0++[(g,bs)]))(hd:DevAt W U' td d n Z F)(hc:Chg (fun x=>x%96=t\/x=td\/x=y) w U W U')(o:Array Value)(ho:o=(bv (List.replicate 8 0)).toArray) :
 ∃ vL rr bvv rvv vs,vs.length=bs.length/\AP w U t td y lp d from_ segs n g W.heap.size f rr Z (List.replicate 8 0) (segB f (S0.flatMap (·.2)).length bs) S0 vL (S0.flatMap (·.2)).length nxt fr bvv bvv (used bs) rvv rvv bs.length vs bs (W.alloc (.cells o 355)) (ext U' W y):=by
 obtain⟨vL,h1,h2⟩:=h.ex;obtain⟨bvv,rr,rvv,vs,a1,a2,_,a5,a6,a7⟩:=(h.seg S0.length (g,bs) (by rw[List.getElem?_append_right (Nat.le_refl _),Nat.sub_self];rfl)).ex;rw[List.take_left' rfl]at a1 a2 a5;have hq:Chg (fun _=>False) W U' (W.alloc (.cells o 355)) (ext U' W y):=((Chg.refl _ _ _).alloc _).ext y
 exact⟨vL,rr,bvv,rvv,vs,a6,{
  hl:=h1.keep hq id
  hr:=by
   have:=h2.keep hq id
   simpa [Segs.ptrs] using this
  hs:=fun k p hp=>by
   have hk:=(List.getElem?_eq_some_iff.1 hp).1;have:=(h.seg k p (by rw[List.getElem?_append_left hk];exact hp)).keep hq id id;rw[List.take_append_of_le_length (by omega)]at this;exact this
  hg:=a1.keep hq id
  hbf:=⟨a2.keep hq id,segB_lt _ _ _⟩
  hq:=a5.keep hq id
  hv:=fun i l hl=>by obtain⟨v,a,b⟩:=a7 i l hl;exact⟨v,a,b.keep hq id⟩
  hh:=by subst ho;exact bux_new 355 W U' y _ (fun x hx=>by rw[List.eq_of_mem_replicate hx];decide)
  hd:=⟨F,hd.keep hq id⟩
  hc:=hc.trans (hq.mono fun _ e=>e.elim) }⟩
theorem AP.fin (h:AP w U t td y lp d from_ segs n g hb f rr Z lh (segB f (S0.flatMap (·.2)).length bs) S0 vL (S0.flatMap (·.2)).length nxt fr bvv bvv (used bs) rvv rvv bs.length vs bs W U')(ht:t<95)(hvs:vs.length=bs.length)(hu:used bs<=378):LogS W U' t lp d from_ segs nxt fr f (S0++[(g,bs)]) where
 ht:=ht
 ex:=⟨vL,h.hl,by have:=h.hr;simpa [Segs.ptrs] using this⟩
 seg:=fun k p hp=>by
  rcases Nat.lt_trichotomy k S0.length with h1|h1|h1
  ·rw[List.getElem?_append_left h1]at hp
   rw[List.take_append_of_le_length (by omega)];exact h.hs k p hp
  ·subst h1
   rw[List.getElem?_append_right (Nat.le_refl _),Nat.sub_self]at hp;simp only[List.getElem?_cons_zero,Option.some.injEq]at hp;subst hp;rw[List.take_left']
   ·exact⟨bvv,rr,rvv,vs,h.hg,h.hbf.1,hu,h.hq,hvs,h.hv⟩
   ·rfl
  ·rw[List.getElem?_eq_none (by simp;omega)]at hp
   cases hp
end
def segOn (k j0:Nat)(bs:List (List UInt8))(i:Nat):List Nat:=if i=0\/48*i-6<used bs then secB k (j0+1) 1 i (segB none j0 bs) else List.replicate 64 0
def LogOn (Z:Cont)(from_ segs:Nat)(S:Segs):Prop:=∀ k,k<segs->∀ i,i<8->Z (from_+k*8+i)=match S[k]? with
 | some p=>segOn k ((S.take k).flatMap (·.2)).length p.2 i
 | none=>List.replicate 64 0
def PartOn (Z:Cont)(from_ segs:Nat)(S0:Segs)(bs bs':List (List UInt8))(kk:Nat):Prop:=∀ k,k<segs->∀ i,i<8->Z (from_+k*8+i) =
 if k=S0.length then segOn k (S0.flatMap (·.2)).length (if i<kk then bs' else bs) i else match S0[k]? with
 | some p=>segOn k ((S0.take k).flatMap (·.2)).length p.2 i
 | none=>List.replicate 64 0
theorem secB_congr (k b r i:Nat)(l l':List Nat)(h:chunk i l=chunk i l'):secB k b r i l=secB k b r i l':=by
 have e:secC k b r i l=secC k b r i l':=by unfold secC;rw[h]
 unfold secB;rw[e]
theorem LogOn.begin {Z:Cont}{from_ segs g:Nat}{S:Segs}(h:LogOn Z from_ segs S)(hk:S.length<segs) :
 LogOn (upd Z (from_+S.length*8+0) (secB S.length (pz none (S.flatMap (·.2)).length) 1 0 [])) from_ segs (S++[(g,[])]):=by
 intro k hks i hi
 by_cases hc:k=S.length/\i=0
 ·obtain⟨rfl,rfl⟩:=hc
  rw[upd_self,List.getElem?_append_right (Nat.le_refl _),Nat.sub_self];simp only[List.getElem?_cons_zero];rw[List.take_left' rfl];unfold segOn;rw[if_pos (.inl rfl)];rfl
 ·rw[upd_ne _ _ _ _ (by omega),h k hks i hi]
  by_cases hkl:k<S.length
  ·rw[List.getElem?_append_left hkl,List.take_append_of_le_length (by omega)]
  ·rw[List.getElem?_eq_none (by omega)]
   by_cases he:k=S.length
   ·subst he
    rw[List.getElem?_append_right (Nat.le_refl _),Nat.sub_self];simp only[List.getElem?_cons_zero];unfold segOn;rw[if_neg (by simp only[used];omega)]
   ·rw[List.getElem?_eq_none (by simp;omega)]
section
variable {Z : Cont} {from_ segs g kk : Nat} {S0 : Segs} {bs bs' : List (List UInt8)}
theorem PartOn.start (h:LogOn Z from_ segs (S0++[(g,bs)]))(bs':List (List UInt8)):PartOn Z from_ segs S0 bs bs' 0:=by
 intro k hks i hi;rw[h k hks i hi]
 by_cases hkl:k<S0.length
 ·rw[List.getElem?_append_left hkl,List.take_append_of_le_length (by omega),if_neg (by omega)]
 ·by_cases he:k=S0.length
  ·subst he
   rw[List.getElem?_append_right (Nat.le_refl _),Nat.sub_self,if_pos rfl,if_neg (Nat.not_lt_zero _)];simp only[List.getElem?_cons_zero];rw[List.take_left' rfl]
  ·rw[List.getElem?_eq_none (by simp;omega),if_neg he,List.getElem?_eq_none (by omega)]
theorem PartOn.done (h:PartOn Z from_ segs S0 bs bs' 8):LogOn Z from_ segs (S0++[(g,bs')]):=by
 intro k hks i hi;rw[h k hks i hi]
 by_cases hkl:k<S0.length
 ·rw[List.getElem?_append_left hkl,List.take_append_of_le_length (by omega),if_neg (by omega)]
 ·by_cases he:k=S0.length
  ·subst he
   rw[List.getElem?_append_right (Nat.le_refl _),Nat.sub_self,if_pos rfl,if_pos hi];simp only[List.getElem?_cons_zero];rw[List.take_left' rfl]
  ·rw[if_neg he,List.getElem?_eq_none (l:=S0) (by omega),List.getElem?_eq_none (l:=S0++[(g,bs')]) (by simp;omega)]
theorem PartOn.wrote (h:PartOn Z from_ segs S0 bs bs' kk)(hkk:kk<8):PartOn (upd Z (from_+S0.length*8+kk) (segOn S0.length (S0.flatMap (·.2)).length bs' kk)) from_ segs S0 bs bs' (kk+1):=by
 intro k hks i hi
 by_cases hc:k=S0.length/\i=kk
 ·obtain⟨rfl,rfl⟩:=hc
  rw[upd_self,if_pos rfl,if_pos (by omega)]
 ·rw[upd_ne _ _ _ _ (by omega),h k hks i hi]
  by_cases he:k=S0.length
  ·rw[if_pos he,if_pos he]
   by_cases hl:i<kk
   ·rw[if_pos hl,if_pos (by omega)]
   ·rw[if_neg hl,if_neg (by omega)]
  ·rw[if_neg he,if_neg he]
theorem PartOn.skip (h:PartOn Z from_ segs S0 bs bs' kk)(he:segOn S0.length (S0.flatMap (·.2)).length bs' kk=segOn S0.length (S0.flatMap (·.2)).length bs kk):PartOn Z from_ segs S0 bs bs' (kk+1):=by
 intro k hks i hi;rw[h k hks i hi]
 by_cases hk:k=S0.length
 ·subst hk
  rw[if_pos rfl,if_pos rfl]
  by_cases hl:i<kk
  ·rw[if_pos hl,if_pos (by omega)]
  ·by_cases hl2:i=kk
   ·subst hl2
    rw[if_neg hl,if_pos (by omega),he]
   ·rw[if_neg hl,if_neg (by omega)]
 ·rw[if_neg hk,if_neg hk]
end
theorem segOn_same (k j0 i:Nat)(bs:List (List UInt8))(b:List UInt8)(h:48*(i+1)-6<=used bs\/used bs+b.length+8<=48*i-6):segOn k j0 (bs++[b]) i=segOn k j0 bs i:=by
 unfold segOn;rw[used_snoc]
 rcases h with h|h
 ·have h1:i=0\/48*i-6<used bs:=by omega
  have h2:i=0\/48*i-6<used bs+b.length+8:=by omega
  rw[if_pos h1,if_pos h2];refine secB_congr _ _ _ _ _ _ ?_;rw[segB_snoc];unfold chunk;have hl:(segB none j0 bs).length=used bs:=segB_len _ _ _;rw[List.drop_append_of_le_length (by omega),List.take_append_of_le_length (by rw[List.length_drop];split <;> omega)]
 ·have h1:¬ (i=0\/48*i-6<used bs):=by omega
  have h2:¬ (i=0\/48*i-6<used bs+b.length+8):=by omega
  rw[if_neg h1,if_neg h2]
theorem LogOn.congr {Z Z':Cont}{from_ segs:Nat}{S:Segs}(h:LogOn Z from_ segs S)(he:∀ j,from_<=j->j<from_+segs*8->Z' j=Z j):LogOn Z' from_ segs S:=by
 intro k hk i hi;rw[he _ (by omega) (by omega)];exact h k hk i hi
def packStep (ps:List (List (List UInt8)))(b:List UInt8):List (List (List UInt8)):=match ps.getLast? with
 | none=>[[b]]
 | some l=>if used l+8+b.length<=378 then ps.dropLast++[l++[b]] else ps++[[b]]
def pack (bodies:List (List UInt8)):List (List (List UInt8)):=bodies.foldl packStep []
theorem pack_snoc (bodies:List (List UInt8))(b:List UInt8):pack (bodies++[b])=packStep (pack bodies) b:=by simp[pack]
theorem packStep_fits (ps:List (List (List UInt8)))(l:List (List UInt8))(b:List UInt8)(h:used l+8+b.length<=378):packStep (ps++[l]) b=ps++[l++[b]]:=by
 unfold packStep;rw[List.getLast?_concat];simp only[if_pos h,List.dropLast_concat]
theorem packStep_full (ps:List (List (List UInt8)))(l:List (List UInt8))(b:List UInt8)(h:¬ used l+8+b.length<=378):packStep (ps++[l]) b=ps++[l]++[[b]]:=by
 unfold packStep;rw[List.getLast?_concat];simp only[if_neg h]
structure LogAt (w:World)(U:Own)(t lp d from_ segs:Nat)(fr:Bool)(f:Lf)(Z:Cont)(bodies:List (List UInt8)):Prop where
 ex:∃ S,LogS w U t lp d from_ segs (pz f bodies.length) fr f S/\S.flatMap (·.2)=bodies/\(∀ p∈S,p.2≠[])/\(f=none->LogOn Z from_ segs S)/\S.map (·.2)=pack bodies
 ct:∀ c,f=some c->0<c/\c<=bodies.length
theorem segs_le (S:Segs)(h:∀ p∈S,p.2≠[]):S.length<=(S.flatMap (·.2)).length:=by
 induction S with
 | nil=>simp
 | cons p S ih=>
  have h1:p.2≠[]:=h p (by simp);have h2:=ih fun q hq=>h q (by simp[hq]);have h3:0<p.2.length:=List.length_pos_iff.2 h1;rw[List.flatMap_cons,List.length_append,List.length_cons];omega
theorem pz_succ (f:Lf)(n:Nat)(h:∀ c,f=some c->c<=n):pz f (n+1)=pz f n+1:=by
 cases f with
 | none=>rfl
 | some c=>have:=h c rfl;simp only[pz];rw[if_neg (by omega),if_neg (by omega)]
theorem AP.done {w W:World}{U U':Own}{t td y lp d from_ segs n g hb base nxt nb rn m rr:Nat}{f:Lf}{Z:Cont}{lh:List Nat}{S0:Segs}{vL bvv rvv:Value}{vs:List Value}{bs bodies:List (List UInt8)}{v:Value}{body:List UInt8}
 (h:AP w U t td y lp d from_ segs n g hb f rr Z lh (segB f base (bs++[body])) S0 vL base (nxt+1) false bvv bvv (nb+8+m) rvv rvv (rn+1) (vs++[v]) (bs++[body]) W U')(ht:t<95)(hE:base=(S0.flatMap (·.2)).length/\nxt=pz f bodies.length/\nb=used bs/\rn=bs.length)(hvs:vs.length=bs.length)(hm:body.length=m)
 (h378:nb+8+m<=378)(hfl:S0.flatMap (·.2)++bs=bodies)(hnn:∀ p∈S0,p.2≠[])(hct:∀ c,f=some c->0<c/\c<=bodies.length)(hon:f=none->PartOn Z from_ segs S0 bs (bs++[body]) 8)(hpk:packStep (pack bodies) body=S0.map (·.2)++[bs++[body]]):LogAt W U' t lp d from_ segs false f Z (bodies++[body]):=by
 obtain⟨rfl,rfl,rfl,rfl⟩:=hE;subst hm
 have e1:used bs+8+body.length=used (bs++[body]):=by rw[used_snoc];omega
 have e2:bs.length+1=(bs++[body]).length:=by simp
 rw[e1,e2]at h;have hf:=h.fin ht (by simp[hvs]) (by omega);refine⟨⟨S0++[(g,bs++[body])],?_,?_,?_,fun e=>(hon e).done,by rw[pack_snoc,hpk];simp⟩,fun c hc=>⟨(hct c hc).1,by have:=(hct c hc).2;simp;omega⟩⟩
 ·rw[<- pz_succ f _ fun c hc=>(hct c hc).2]at hf
  rw[List.length_append];exact hf
 ·rw[<- hfl];simp
 ·intro p hp
  rcases List.mem_append.1 hp with hp|hp
  ·exact hnn p hp
  ·simp at hp;subst hp;simp
section
variable {T : Nat -> Prop} {w w' : World} {U U' : Own} {t lp d from_ segs : Nat} {fr : Bool} {f : Lf} {Z Z' : Cont} {bodies : List (List UInt8)}
theorem LogAt.keep (h:LogAt w U t lp d from_ segs fr f Z bodies)(hc:Chg T w U w' U')(hT:∀ x,T x->x%96≠t):LogAt w' U' t lp d from_ segs fr f Z bodies:=by
 obtain⟨S,a,b,c⟩:=h.ex;exact⟨⟨S,a.keep hc hT,b,c⟩,h.ct⟩
theorem LogAt.on (h:LogAt w U t lp d from_ segs fr f Z bodies)(he:∀ j,from_<=j->j<from_+segs*8->Z' j=Z j):LogAt w U t lp d from_ segs fr f Z' bodies:=by
 obtain⟨S,a,b,c,e,q⟩:=h.ex;exact⟨⟨S,a,b,c,fun hf=>(e hf).congr he,q⟩,h.ct⟩
end
end Go.Proofs.Ytlhekbjidppijaa
