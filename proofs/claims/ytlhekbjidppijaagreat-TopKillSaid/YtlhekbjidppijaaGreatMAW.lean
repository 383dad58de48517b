/- Contracts of functions that the Top rows reach, and plain laws for them: what each returns and what it leaves in memory. Conditions: those that each theorem names. -/
import Derived.Test.YtlhekbjidppijaaGreatMAB
import Derived.Test.YtlhekbjidppijaaGreatMAI
import Derived.Test.YtlhekbjidppijaaGreatMAV
set_option linter.unusedVariables false
set_option linter.unusedSimpArgs false
namespace Go.Proofs.Ytlhekbjidppijaa
open Go.RowKit
def JoS (bl j lp : Nat) (W : World) : Prop:=W.cell? ⟨bl,0,none⟩ = some (.pointer (some ⟨j,0,none⟩)) /\ W.cell? ⟨j,0,none⟩ = some (.pointer (some ⟨lp,0,none⟩))
def JoT (bl j n c : Nat) (A : Option Addr) (W : World) : Prop:=W.cell? ⟨bl,0,none⟩ = some (.pointer (some ⟨j,0,none⟩)) /\ W.cell? ⟨j,1,none⟩ = some (.slice A n c)
theorem info301 : (Tryz.prog.info? 301).map (fun i=>(i.zero.map Value.cells,i.size,i.bytes)) = some (some #[.int .i64 0,.string ⟨#[]⟩,.int .i64 0],3,32):=by kernel_rfl
theorem step_append_text {P : Program} (w : World) {ops : Array Oper} {o : Oper} {a : Act} {K : Act -> World -> Prop} {Q : Exit -> Act -> World -> Prop} {E : Prop} (hgd : o.guard = none) (sl x : Operand) (st u : TypeId)
 (ho : o.op = .call { callee:=.builtin .append,args:=#[sl,x],argTypes:=#[st,u] }) (τ : Own) (t : Nat)
 (e : TypeId) (i : TypeInfo) (ht : P.underlying st = some (.slice e)) (hu : P.underlying u = some .string) (hi : P.info? e = some i) (hz : i.zero = some (.int .u8 0))
 (hsize : i.size = 1) (hby : i.bytes = 1)
 (v : Value) (n : Nat) (xs : List Value) (hs : a.eval sl = v) (hown : Rw w τ t e 1 v n xs) (s : ByteArray) (hx : a.eval x = .string s) (h63 : n + s.size <= 1073741824)
 (h : ∀ v' w',Rw w' (ext τ w t) t e 1 v' (n + s.size) (xs ++ Lib.strCells s) -> Chg (· = t) w τ w' (ext τ w t) -> K (a.put o.dst v') w') :
 if Region.wanted o (yielded ops a.tmps) = true then Oper.wp P o a w K Q else E:=by
 have hw : Region.wanted o (yielded ops a.tmps) = true:=by simp [Region.wanted,hgd]
 rw [if_pos hw]
 obtain ⟨v',w',hr,h2,h3⟩:=run_append_text (P:=P) w τ t st u o.type e i ht hu hi hz hsize hby v n xs hown s h63
 unfold Oper.wp execOp
 simp only [ho,resolve,invoke,builtin,Sem.run_bind,Sem.run_pure,Result.andThen_ok,List.map_toArray,List.map_cons,List.map_nil,hs,hx,hr]
 exact h v' w' h2 h3
structure JX (w1 : World) (τ1 : Own) (tj td y y2 j d from_ segs n lp bl : Nat) (bodies : List (List UInt8)) (vc vr : Value) (keys : List ByteArray) (W : World) (τ' : Own) : Prop where
 hj : Has W τ' tj j 299 #[.pointer (some ⟨lp,0,none⟩),vc]
 hR : Rw W τ' (tj + 1) 301 3 vr keys.length (mcs 1 keys)
 hlog : ∃ fr,LogAt W τ' (tj + 2) lp d from_ segs fr bodies
 hd : DevAt W τ' td d n (fun _=>False)
 hb : Has W τ' y bl 116 #[.pointer (some ⟨j,0,none⟩)]
 hch : Chg (fun x=>FT tj td x \/ x = y \/ x = y2) w1 τ1 W τ'
def JT (tj td y y2 : Nat) : Prop:=tj + 2 < 95 /\ td < 95 /\ (td < tj \/ tj + 2 < td) /\ y % 96 = 95 /\ y2 % 96 = 95 /\ y ≠ y2
section
variable {w1 W W' : World} {τ1 τ' τ2 : Own} {tj td y y2 j d from_ segs n lp bl : Nat} {bodies bodies' : List (List UInt8)} {vc vr : Value} {keys keys' : List ByteArray}
theorem JX.quiet (h : JX w1 τ1 tj td y y2 j d from_ segs n lp bl bodies vc vr keys W τ') (hc : Chg (fun _=>False) W τ' W' τ2) : JX w1 τ1 tj td y y2 j d from_ segs n lp bl bodies vc vr keys W' τ2 where
 hj:=h.hj.keep hc id
 hR:=h.hR.keep hc id
 hlog:=by obtain ⟨fr,hl⟩:=h.hlog;exact ⟨fr,hl.keep hc (fun _ e=>e.elim)⟩
 hd:=h.hd.keep hc id
 hb:=h.hb.keep hc id
 hch:=h.hch.trans (hc.mono fun _ e=>e.elim)
theorem JX.alloc (h : JX w1 τ1 tj td y y2 j d from_ segs n lp bl bodies vc vr keys W τ') (o : Obj) : JX w1 τ1 tj td y y2 j d from_ segs n lp bl bodies vc vr keys (W.alloc o) (ext τ' W y):=h.quiet (((Chg.refl _ _ _).alloc o).ext y)
theorem JX.yy (h : JX w1 τ1 tj td y y2 j d from_ segs n lp bl bodies vc vr keys W τ') (hc : Chg (· = y2) W τ' W' τ2) (ht : JT tj td y y2) : JX w1 τ1 tj td y y2 j d from_ segs n lp bl bodies vc vr keys W' τ2:=by
 obtain ⟨h1,h2,h3,h4,h5,h6⟩:=ht
 exact {
  hj:=h.hj.keep hc (by omega)
  hR:=h.hR.keep hc (by omega)
  hlog:=by obtain ⟨fr,hl⟩:=h.hlog;exact ⟨fr,hl.keep hc (fun z e=>by subst e;omega)⟩
  hd:=h.hd.keep hc (by omega)
  hb:=h.hb.keep hc (by omega)
  hch:=h.hch.trans (hc.mono fun _ e=>.inr (.inr e)) }
theorem JX.log (h : JX w1 τ1 tj td y y2 j d from_ segs n lp bl bodies vc vr keys W τ') (ha : LogAt W' τ2 (tj + 2) lp d from_ segs false bodies') (hd : DevAt W' τ2 td d n (fun _=>False)) (hc : Chg (fun x=>x % 96 = tj + 2 \/ x = td) W τ' W' τ2) (ht : JT tj td y y2) : JX w1 τ1 tj td y y2 j d from_ segs n lp bl bodies' vc vr keys W' τ2:=by
 obtain ⟨h1,h2,h3,h4,h5,h6⟩:=ht
 exact {
  hj:=h.hj.keep hc (by omega)
  hR:=h.hR.keep hc (by omega)
  hlog:=⟨false,ha⟩
  hd:=hd
  hb:=h.hb.keep hc (by omega)
  hch:=h.hch.trans (hc.mono fun z e=>.inl (e.imp (fun e=>by omega) id)) }
theorem JX.row (h : JX w1 τ1 tj td y y2 j d from_ segs n lp bl bodies vc vr keys W τ') {v : Value} (hR : Rw W' τ2 (tj + 1) 301 3 v keys'.length (mcs 1 keys')) (hc : Chg (· = tj + 1) W τ' W' τ2) (ht : JT tj td y y2) : JX w1 τ1 tj td y y2 j d from_ segs n lp bl bodies vc v keys' W' τ2:=by
 obtain ⟨h1,h2,h3,h4,h5,h6⟩:=ht
 exact {
  hj:=h.hj.keep hc (by omega)
  hR:=hR
  hlog:=by obtain ⟨fr,hl⟩:=h.hlog;exact ⟨fr,hl.keep hc (fun z e=>by subst e;omega)⟩
  hd:=h.hd.keep hc (by omega)
  hb:=h.hb.keep hc (by omega)
  hch:=h.hch.trans (hc.mono fun z e=>.inl (.inl (by subst e;omega))) }
theorem JX.set (h : JX w1 τ1 tj td y y2 j d from_ segs n lp bl bodies vc vr keys W τ') (ht : JT tj td y y2) (v : Value) (hv : v = vr) : JX w1 τ1 tj td y y2 j d from_ segs n lp bl bodies vr vr keys (W.setCell ⟨j,1,none⟩ v) τ':=by
 obtain ⟨h1,h2,h3,h4,h5,h6⟩:=ht
 have hc : Chg (· = tj) W τ' (W.setCell ⟨j,1,none⟩ v) τ':=(Chg.refl _ _ _).setCell (p:=⟨j,1,none⟩) h.hj.own v
 subst hv
 exact {
  hj:=by have:=h.hj.set_ 1 v;simpa using this
  hR:=h.hR.keep hc (by omega)
  hlog:=by obtain ⟨fr,hl⟩:=h.hlog;exact ⟨fr,hl.keep hc (fun z e=>by subst e;omega)⟩
  hd:=h.hd.keep hc (by omega)
  hb:=h.hb.keep hc (by omega)
  hch:=h.hch.trans (hc.mono fun z e=>.inl (.inl (by subst e;omega))) }
end
set_option maxRecDepth 20000 in
set_option maxHeartbeats 4000000 in
theorem add220 (w : World) (τ : Own) (tj td j d from_ segs n cnt : Nat) (Z : Nat -> Prop) (k : ByteArray) (KB ko ck : Nat) (hJ : JournalAt w τ tj j d from_ segs n cnt) (hD : DevAt w τ td d n Z) (htd : td < 95 /\ (td < tj \/ tj + 2 < td)) (hk : keyOk k = true) (hks : k.size < 64) (hcs : cnt < segs /\ cnt < 62)
 (hkey : w.cell? ⟨KB,ko,none⟩ = some (.string k)) (hKB : KB < w.heap.size) :
 Calls Tryz.prog 220 #[.pointer (some ⟨j,0,none⟩),.slice (some ⟨KB,ko,none⟩) 1 ck] w fun e w'=>e = .returned (.tuple #[.int .i64 ((cnt + 1 : Nat) : Int),.int .i64 0]) /\ ∃ τ',JournalAt w' τ' tj j d from_ segs n (cnt + 1) /\ DevAt w' τ' td d n (fun _=>False) /\ Chg (FT tj td) w τ w' τ':=by
 obtain ⟨y,hy1,hy2⟩:=fresh95 w τ
 obtain ⟨lp,fr0,vM,keys,bodies,hkl,hbl,g1,g2,g3⟩:=hJ.ex
 obtain ⟨A,c0,rfl,-⟩:=g2.slice
 obtain ⟨bl,hbl0⟩ : ∃ b,b = w.heap.size:=⟨_,rfl⟩
 obtain ⟨w1,hw1⟩ : ∃ W,W = w.alloc (.cells #[.pointer (some ⟨j,0,none⟩)] 116):=⟨_,rfl⟩
 obtain ⟨τ1,hτ1⟩ : ∃ t : Own,t = ext τ w y:=⟨_,rfl⟩
 have hc1 : Chg (fun _=>False) w τ w1 τ1:=by rw [hw1,hτ1];exact ((Chg.refl _ _ _).alloc _).ext y
 have hBl : Has w1 τ1 y bl 116 #[.pointer (some ⟨j,0,none⟩)]:=by rw [hw1,hτ1,hbl0];exact ⟨Blk.new _ _ _,ext_new (Nat.le_refl _)⟩
 obtain ⟨y2,hz1,hz2⟩:=fresh95 w1 τ1
 have hyy : y ≠ y2:=by rintro rfl;exact hz2 bl hBl.lt hBl.own
 have hlt:=hJ.lt
 have HT : Hid (JT tj td y y2):=Lib.hid ⟨hlt,htd.1,htd.2,hy1,hz1,hyy⟩
 have hdl : k.data.toList.length = k.size:=Array.length_toList
 have hko : 0 < k.size /\ k.size <= 40:=by unfold keyOk at hk;exact of_decide_eq_true hk
 have HC : Hid (cnt + 1 < 64 /\ k.size <= 40 /\ bodies.length < segs /\ bodies.length = cnt /\ (from_ + segs * 8 <= n /\ n <= 2048) /\ keys.length = cnt):=Lib.hid ⟨by omega,hko.2,by omega,hbl,hJ.room,hkl⟩
 have HDL:=Lib.hid hdl
 have HJ1 : Hid (JX w1 τ1 tj td y y2 j d from_ segs n lp bl bodies (.slice A cnt c0) (.slice A cnt c0) keys w1 τ1):=Lib.hid ⟨g1.keep hc1 id,by rw [hkl];exact g2.keep hc1 id,⟨fr0,g3.keep hc1 (fun _ e=>e.elim)⟩,(hD.keep hc1 id).less (fun _ h=>h.elim),hBl,Chg.refl _ _ _⟩
 have HFIN : Hid (∀ W τ' b c,JX w1 τ1 tj td y y2 j d from_ segs n lp bl (bodies ++ [u8n (cnt + 1) :: k.data.toList]) (.slice (some ⟨b,0,none⟩) (cnt + 1) c) (.slice (some ⟨b,0,none⟩) (cnt + 1) c) (keys ++ [k]) W τ' -> ∃ τ',JournalAt W τ' tj j d from_ segs n (cnt + 1) /\ DevAt W τ' td d n (fun _=>False) /\ Chg (FT tj td) w τ W τ'):=Lib.hid fun W τ' b c h=>by
  obtain ⟨fr,hl⟩:=h.hlog
  have hr:=h.hR
  rw [List.length_append,hkl] at hr
  refine ⟨τ',⟨⟨lp,fr,_,keys ++ [k],_,by simp [hkl],by simp [hbl],h.hj,hr,hl⟩,hlt,hJ.room,by omega⟩,h.hd,?_⟩
  refine ((hc1.mono fun _ e=>e.elim).trans h.hch).fresh (T:=FT tj td) fun i hi e=>?_
  rcases e with e | e | e
  ·exact e
  ·exact absurd e (hy2 i hi)
  ·refine absurd ?_ (hz2 i (by rw [hw1];simp;omega))
   rw [hc1.own i hi]
   exact e
 have HTX : Hid (∀ (W : World) (τ9 : Own) (v : Value),Rw W τ9 y2 5 1 v (1 + k.size) (nbs [cnt + 1] ++ Lib.strCells k) -> ∃ b c,v = .slice (some ⟨b,0,none⟩) (1 + k.size) c /\ Sl W (some ⟨b,0,none⟩) (ub (u8n (cnt + 1) :: k.data.toList)) /\ b < W.heap.size /\ τ9 b = y2):=Lib.hid fun W τ9 v h=>by
  obtain ⟨A,c,rfl,-,-,-,hs,hA,hA2⟩:=h.slice
  cases A with
  | none=>exact absurd (hA rfl).1 (by omega)
  | some a=>
   obtain ⟨b,o,sp⟩:=a
   obtain ⟨rfl,rfl,h1,h2⟩:=hA2 _ rfl
   refine ⟨b,c,rfl,?_,h1,h2⟩
   have e : nbs [cnt + 1] ++ Lib.strCells k = ub (u8n (cnt + 1) :: k.data.toList):=by
    have:=u8n_val (cnt + 1) (by omega)
    simp only [nbs,ub,List.map_cons,this]
    simp [Lib.strCells]
   rw [<- e]
   exact hs
 have hne:=bne_nil k (by omega)
 have kk1 : ¬ ((40 : Int) < (k.size : Int)):=by omega
 have kk2 : decide ((40 : Int) < (k.size : Int)) = false:=by rw [decide_eq_false_iff_not];exact kk1
 have hkey1 : w1.cell? ⟨KB,ko,none⟩ = some (.string k):=(World.cell?_of_block (by rw [hw1];exact Below.heap_alloc _ _ _ hKB)).trans hkey
 have hkey0 : (w.alloc (.cells #[.pointer (some ⟨j,0,none⟩)] 116)).cell? ⟨KB,ko,none⟩ = some (.string k):=by rw [<- hw1];exact hkey1
 obtain ⟨i0,hi,hz0,hz1',hz2'⟩:=info_parts info5v
 have HI:=Lib.hid (And.intro hi (And.intro hz0 (And.intro hz1' hz2')))
 have HW1:=Lib.hid hw1
 have HBL0:=Lib.hid hbl0
 clear hJ hD htd hk hks hcs hkl hbl g1 g2 g3 hbl0 hw1 hτ1 hc1 hBl hz1 hz2 hyy hlt hdl hko hy1 hy2 hi hz0 hz1' hz2' hKB hkey
 go_enter Tryz.func220,Tryz.ntmps220
 go_wp2
 rw [<- HW1.out,<- HBL0.out]
 clear hkey0
 go_loop [18] (fun i=>∃ q : Nat,q <= 1 /\ i = .int .i64 (q : Int)) (fun i=>1 - (intOf i).toNat)
 case atStart=>exact ⟨0,by decide,rfl⟩
 case round=>
  obtain ⟨q,hq,rfl⟩:=hrel
  by_cases hq0 : q = 0
  ·subst hq0
   go_wp2
   go_round
   case rel=>exact ⟨1,by decide,rfl⟩
   case measure=>simp [intOf]
  ·obtain rfl : q = 1:=by omega
   go_wp2
   go_loopw [32] (fun i wr=>(i = .int .i64 0 /\ w1 = wr) \/ (i = .int .i64 1 /\ ∃ (A : Option Addr) (c0 b c : Nat) (τ3 : Own),JX w1 τ1 tj td y y2 j d from_ segs n lp bl (bodies ++ [u8n (cnt + 1) :: k.data.toList]) (.slice (some ⟨b,0,none⟩) (cnt + 1) c) (.slice (some ⟨b,0,none⟩) (cnt + 1) c) (keys ++ [k]) wr τ3)) (fun i _=>1 - (intOf i).toNat)
   case atStart=>exact .inl ⟨rfl,rfl⟩
   case round=>
    rcases hrel with ⟨rfl,rfl⟩ | ⟨rfl,_,_,b,c,τ3,hjx⟩
    ·have cb : w1.cell? ⟨bl,0,none⟩ = some (.pointer (some ⟨j,0,none⟩)):=HJ1.out.hb.cell 0
     have hrow:=HJ1.out.hR
     rw [HC.out.2.2.2.2.2] at hrow
     have HSQ:=Lib.hid (seq188 w1 τ1 j lp cnt (tj + 1) _ keys (HJ1.out.hj.cell 1) hrow HC.out.2.2.2.2.2 (by have:=HC.out.1;omega))
     have hcn : (cnt : Int) <= 62:=by have:=HC.out.1;omega
     clear hrow
     go_wp2_with fail
     refine HSQ.out.mono ?_
     rintro e w2 ⟨rfl,m,rfl⟩
     have HJ2:=Lib.hid (HJ1.out.quiet ((Chg.refl _ _ _).drewN m))
     clear HSQ cb HJ1
     generalize w1.drewN m = w2 at *
     go_wp2_with fail
     have HB0:=Lib.hid (HJ2.out.quiet ((Chg.refl _ _ _).drewN 1))
     clear HJ2
     have hJS : ∀ W τ' bo vc vr ks,JX w1 τ1 tj td y y2 j d from_ segs n lp bl bo vc vr ks W τ' -> JoS bl j lp W:=fun _ _ _ _ _ _ h=>⟨h.hb.cell 0,h.hj.cell 0⟩
     have HJS:=Lib.hid hJS
     have S0:=Lib.hid (hJS _ _ _ _ _ _ HB0.out)
     clear hJS
     refine wp_region_hl [5,6,8,9] [0,1,2,3,4,7,5,6,8,9,10,11,12,13] (JoS bl j lp) (by kernel_rfl) (by kernel_rfl) S0.out ?_
     iterate 6 (refine hd_take (v:=?_) rfl rfl (by kernel_rfl) (fun W hW=>?_) ?_;rotate_left;(obtain ⟨r0,r1⟩:=hW;first | (go_simp;done) | (go_simp;with_reducible rfl)))
     refine hd_loud rfl rfl fun K hK=>?_
     go_simp
     refine hK _ _ (HJS.out _ _ _ _ _ _ (HB0.out.alloc _)) ?_
     clear hK
     refine hd_loud rfl rfl fun K hK=>?_
     go_simp
     have hjx1:=HB0.out.alloc (.cells #[.int .i64 ((cnt + 1 : Nat) : Int)] 2)
     refine (putAllR _ (ext τ1 w2.drew y) y2 (.slice none 0 0) 0 [] (Rw.nil _ _ _ _ _) (some ⟨w2.heap.size,0,none⟩) 1 [cnt + 1] (Blk.new w2.drew 2 #[.int .i64 ((cnt + 1 : Nat) : Int)]).sl (by rintro a ha;cases ha;exact ⟨by simp,fun e=>HT.out.2.2.2.2.2 ((show ext τ1 w2.drew y w2.heap.size = y from ext_new (Nat.le_refl _)).symm.trans e)⟩) (by simp) (by intro z hz;rw [List.mem_singleton.1 hz];exact HC.out.1)).mono ?_
     rintro e w3 ⟨v',τ2,rfl,hr,hc⟩
     have HS:=Lib.hid (And.intro (by simpa using hr : Rw w3 τ2 y2 5 1 v' 1 (nbs [cnt + 1])) (hjx1.yy hc HT.out))
     clear hr hc hjx1
     refine hK _ _ (HJS.out _ _ _ _ _ _ HS.out.2) ?_
     clear hK
     refine hd_loud rfl rfl fun K hK=>?_
     refine step_append_text _ rfl (.tmp 46) (.tmp 47) 74 9 rfl τ2 y2 5 i0 (by kernel_rfl) (by kernel_rfl) HI.out.1 HI.out.2.1 HI.out.2.2.1 HI.out.2.2.2 v' 1 _ rfl HS.out.1 k rfl (by have:=HC.out.2.1;omega) ?_
     intro v3 w4 hR hC
     obtain ⟨b',c',rfl,hsl',hlt',hty'⟩:=HTX.out w4 _ v3 hR
     have HX1:=Lib.hid (HS.out.2.yy hC HT.out)
     have HSL:=Lib.hid (And.intro hsl' (And.intro hlt' hty'))
     refine hK _ _ (HJS.out _ _ _ _ _ _ HX1.out) ?_
     clear hK hR hC hsl' hlt' hty' HS
     refine hd_loud rfl rfl fun K hK=>?_
     go_simp
     obtain ⟨fr,hlog⟩:=HX1.out.hlog
     have h9:=HT.out
     unfold JT at h9
     refine (append211 _ _ (tj + 2) td lp d from_ segs n fr bodies _ (u8n (cnt + 1) :: k.data.toList) b' 0 (1 + k.size) c' hlog HX1.out.hd h9.2.1 (by omega) HC.out.2.2.1 HC.out.2.2.2.2.1.1 HC.out.2.2.2.2.1.2 (by rw [List.length_cons,HDL.out];omega) (by omega) (by have:=HC.out.2.1;omega) HSL.out.1 HSL.out.2.1 (by rw [HSL.out.2.2];omega) (by rw [HSL.out.2.2];omega)).mono ?_
     rintro e w5 ⟨rfl,τ5,ha,hd2,hc2⟩
     have HB1:=Lib.hid (HX1.out.log ha hd2 hc2 HT.out)
     rw [HC.out.2.2.2.1]
     refine hK _ _ (HJS.out _ _ _ _ _ _ HB1.out) ?_
     clear hK ha hd2 hc2 hlog h9 HX1 HSL
     iterate 4 (refine hd_take (v:=?_) rfl rfl (by kernel_rfl) (fun W hW=>?_) ?_;rotate_left;(obtain ⟨r0,r1⟩:=hW;first | (go_simp;done) | (go_simp;with_reducible rfl)))
     refine hd_end ?_
     simp only [List.length_cons,List.length_nil,List.drop_succ_cons,List.drop_zero,Nat.zero_add,Nat.reduceAdd]
     clear HB0 HTX S0 HJS
     obtain ⟨i1,z1,hi1⟩:=info_cells info301
     have HI:=Lib.hid hi1
     clear hi1
     go_wp2_with fail
     have HB0:=Lib.hid (HB1.out.quiet ((Chg.refl _ _ _).drewN 1))
     clear HB1
     have S1 : Hid (JoT bl j cnt c0 A w5.drew):=Lib.hid ⟨HB0.out.hb.cell 0,HB0.out.hj.cell 1⟩
     refine wp_region_hl [10,11] [0,1,2,3,4,5,6,7,8,9,10,11] (JoT bl j cnt c0 A) (by kernel_rfl) (by kernel_rfl) S1.out ?_
     iterate 10 (refine hd_take (v:=?_) rfl rfl (by kernel_rfl) (fun W hW=>?_) ?_;rotate_left;(obtain ⟨r0,r1⟩:=hW;first | (go_simp;done) | (go_simp;with_reducible rfl)))
     refine hd_loud rfl rfl fun K hK=>?_
     go_simp
     have HB2:=Lib.hid (HB0.out.alloc (.cells #[.int .i64 ((cnt + 1 : Nat) : Int),.string k,.int .i64 ((cnt + 1 : Nat) : Int)] 301))
     refine hK _ _ ⟨HB2.out.hb.cell 0,HB2.out.hj.cell 1⟩ ?_
     clear hK
     refine hd_loud rfl rfl fun K hK=>?_
     have hrow:=HB2.out.hR
     rw [HC.out.2.2.2.2.2] at hrow
     refine step_append_row2 _ rfl (.tmp 59) (.tmp 65) 297 rfl _ (tj + 1) 301 i1 z1 3 32 (by kernel_rfl) HI.out.1 HI.out.2.1 HI.out.2.2.2.1 HI.out.2.2.2.2 (by rw [HI.out.2.2.1];rfl) (by decide) (.slice A cnt c0) cnt (mcs 1 keys) rfl hrow ⟨w5.heap.size,0,none⟩ 1 1 _ rfl rfl (by decide) (Blk.new w5.drew 301 #[.int .i64 ((cnt + 1 : Nat) : Int),.string k,.int .i64 ((cnt + 1 : Nat) : Int)]).sl (by intro u hu;simp at hu;rcases hu with rfl | rfl | rfl <;> rfl) (by have:=HC.out.1;omega) (by decide) ?_
     intro g' cap w' hR hC hG
     have e1 : mcs 1 keys ++ [.int .i64 ((cnt + 1 : Nat) : Int),.string k,.int .i64 ((cnt + 1 : Nat) : Int)] = mcs 1 (keys ++ [k]):=by rw [mcs_snoc,HC.out.2.2.2.2.2,Nat.add_comm 1 cnt]
     rw [e1] at hR
     have HB3:=Lib.hid (HB2.out.row (keys':=keys ++ [k]) (by rw [List.length_append,HC.out.2.2.2.2.2];exact hR) hC HT.out)
     refine hK _ _ ⟨HB3.out.hb.cell 0,HB3.out.hj.cell 1⟩ (hd_end ?_)
     clear hK hR hC hG hrow e1
     simp only [List.length_cons,List.length_nil,List.drop_succ_cons,List.drop_zero,Nat.zero_add,Nat.reduceAdd]
     have hf:=HB3.out.hj.frozen 1
     have hc3:=HB3.out.hj.cell 1
     have HS:=Lib.hid (HB3.out.set HT.out (.slice (some ⟨g',0,none⟩) (cnt + 1) cap) rfl)
     go_wp2_with fail
     clear hf hc3 HB3 HB2 HB0 HI i1 z1 S1
     generalize World.setCell _ _ _ = w6 at HS ⊢
     go_wp2
     go_roundw
     case rel=>exact .inr ⟨rfl,A,c0,_,_,_,HS.out⟩
     case measure=>simp [intOf]
    ·have HB3:=Lib.hid hjx
     clear hjx HJ1 HTX
     have HDEL : Hid (∀ W τ',JX w1 τ1 tj td y y2 j d from_ segs n lp bl (bodies ++ [u8n (cnt + 1) :: k.data.toList]) (.slice (some ⟨b,0,none⟩) (cnt + 1) c) (.slice (some ⟨b,0,none⟩) (cnt + 1) c) (keys ++ [k]) W τ' -> Calls Tryz.prog 250 #[.slice (some ⟨b,0,none⟩) (cnt + 1) c,.func (.func 251) #[] #[.pointer (some ⟨bl,0,none⟩)]] W fun e w'=>e = .returned (.slice (some ⟨b,0,none⟩) (cnt + 1) c) /\ Below W.heap.size W w'):=Lib.hid fun W τ' h=>by
      have hrow:=h.hR
      rw [List.length_append,HC.out.2.2.2.2.2] at hrow
      obtain ⟨A',c',e,-,-,-,hs,-⟩:=hrow.slice
      cases e
      refine del250 W _ (cnt + 1) c 1 (keys ++ [k]) bl hs (by rw [List.length_append,HC.out.2.2.2.2.2];rfl) (by have:=HC.out.1;omega) fun W' hb i kk hkk=>?_
      have h':=h.quiet (Chg.same_own hb)
      refine add251 W' (1 + i) (1 + i) kk bl j lp (h'.hb.cell 0) (h'.hj.cell 0) (fun W'' hb''=>?_) (by omega)
      obtain ⟨fr,hl⟩:=(h'.quiet (Chg.same_own hb'')).hlog
      exact first213 W'' τ' (tj + 2) lp d from_ segs fr _ hl
     go_wp2_with fail
     have HB4:=Lib.hid (HB3.out.quiet ((Chg.refl _ _ _).drewN 1))
     clear HB3
     have hmf : ∀ fn first cap w,(Instr.makeFunc fn first cap).run Tryz.prog w = .ok (.func fn first cap) w:=fun _ _ _ _=>rfl
     have S4 : Hid (JoT bl j (cnt + 1) c (some ⟨b,0,none⟩) _):=Lib.hid ⟨HB4.out.hb.cell 0,HB4.out.hj.cell 1⟩
     refine wp_region_hl [6] [0,1,2,3,4,5,6] (JoT bl j (cnt + 1) c (some ⟨b,0,none⟩)) (by kernel_rfl) (by kernel_rfl) S4.out ?_
     iterate 6 (refine hd_take (v:=?_) rfl rfl (by kernel_rfl) (fun W hW=>?_) ?_;rotate_left;(obtain ⟨r0,r1⟩:=hW;first | (go_simp;done) | (go_simp;with_reducible rfl)))
     refine hd_loud rfl rfl fun K hK=>?_
     go_simp
     refine (HDEL.out _ _ HB4.out).mono ?_
     rintro e wx ⟨rfl,hb1⟩
     have HB5:=Lib.hid (HB4.out.quiet (Chg.same_own hb1))
     refine hK _ _ ⟨HB5.out.hb.cell 0,HB5.out.hj.cell 1⟩ (hd_end ?_)
     clear hK hmf hb1
     simp only [List.length_cons,List.length_nil,List.drop_succ_cons,List.drop_zero,Nat.zero_add,Nat.reduceAdd]
     have hf:=HB5.out.hj.frozen 1
     have hc3:=HB5.out.hj.cell 1
     have HS:=Lib.hid (HB5.out.set HT.out (.slice (some ⟨b,0,none⟩) (cnt + 1) c) rfl)
     have c0':=HS.out.hb.cell 0
     have c1':=HS.out.hj.cell 0
     go_wp2_with fail
     clear hf hc3 HB5 HB4 HDEL S4 c0' c1'
     generalize World.setCell _ _ _ = wy at HS ⊢
     have HB5:=HS
     clear HS
     obtain ⟨fr,hlog⟩:=HB5.out.hlog
     have HFL:=Lib.hid (flush163 wy τ3 (tj + 2) td lp d from_ segs n fr _ _ hlog HB5.out.hd HT.out.2.1 (by have:=HT.out;unfold JT at this;omega) HC.out.2.2.2.2.1.2)
     refine HFL.out.mono ?_
     rintro e w8 ⟨rfl,h7,h8,h9⟩
     have ht:=HT.out
     unfold JT at ht
     have HB6 : Hid (JX w1 τ1 tj td y y2 j d from_ segs n lp bl (bodies ++ [u8n (cnt + 1) :: k.data.toList]) (.slice (some ⟨b,0,none⟩) (cnt + 1) c) (.slice (some ⟨b,0,none⟩) (cnt + 1) c) (keys ++ [k]) w8 τ3):=Lib.hid ⟨HB5.out.hj.keep h9 (by omega),HB5.out.hR.keep h9 (by omega),⟨fr,h7⟩,h8,HB5.out.hb.keep h9 (by omega),HB5.out.hch.trans (h9.mono fun z e=>.inl (.inr e))⟩
     clear hlog h7 h8 h9 HFL HB5 ht
     have c0' : w8.cell? ⟨bl,0,none⟩ = some (.pointer (some ⟨j,0,none⟩)):=HB6.out.hb.cell 0
     have hrow:=HB6.out.hR
     rw [List.length_append,HC.out.2.2.2.2.2] at hrow
     have HSQ:=Lib.hid (seq188 w8 τ3 j lp (cnt + 1) (tj + 1) _ (keys ++ [k]) (HB6.out.hj.cell 1) hrow (by rw [List.length_append,HC.out.2.2.2.2.2];rfl) (by have:=HC.out.1;omega))
     clear hrow
     go_wp2_with fail
     refine HSQ.out.mono ?_
     rintro e w9 ⟨rfl,m,rfl⟩
     clear c0' HSQ
     have HB7:=Lib.hid (HB6.out.quiet ((Chg.refl _ _ _).drewN m))
     clear HB6
     go_wp2
     go_ret2
     exact ⟨rfl,HFIN.out _ τ3 b c HB7.out⟩
end Go.Proofs.Ytlhekbjidppijaa
namespace Go.Proofs.Ytlhekbjidppijaa
open Go.RowKit
structure FlX (w : World) (τ : Own) (tc td c d from_ segs n lp x : Nat) (bs : List (List UInt8)) (pl : List Place) (m used : Nat) (W : World) : Prop where
 hc : Has W τ tc c 274 #[.pointer (some ⟨lp,0,none⟩),.pointer (some ⟨x,0,none⟩)]
 hlog : ∃ fr,LogAt W τ (tc + 2) lp d from_ segs fr bs
 hidx : IndexAt W τ (tc + 1) x pl m used
 hd : DevAt W τ td d n (fun _=>False)
 hch : Chg (FT tc td) w τ W τ
 lt : tc + 2 < 95 /\ td < 95 /\ (td < tc \/ tc + 2 < td)
theorem FlX.index {w W W' : World} {τ : Own} {tc td c d from_ segs n lp x m used m' used' : Nat} {bs : List (List UInt8)} {pl pl' : List Place} (h : FlX w τ tc td c d from_ segs n lp x bs pl m used W) (hi : IndexAt W' τ (tc + 1) x pl' m' used') (hc : Chg (· = tc + 1) W τ W' τ) :
 FlX w τ tc td c d from_ segs n lp x bs pl' m' used' W' where
 hc:=h.hc.keep hc (by omega)
 hlog:=by obtain ⟨fr,hl⟩:=h.hlog;exact ⟨fr,hl.keep hc (fun y e=>by have:=h.lt;subst e;omega)⟩
 hidx:=hi
 hd:=h.hd.keep hc (by have:=h.lt;omega)
 hch:=h.hch.trans (hc.mono fun y e=>by have:=h.lt;subst e;exact .inl (by omega))
 lt:=h.lt
def GAd2 (wx0 : World) (τ0 : Own) (tc td c d from_ segs n lp x : Nat) (bs : List (List UInt8)) (pl : List Place) (m used : Nat) (c0 c1 c2 c3 c4 c5 c6 c7 c8 c9 c10 c11 c12 c13 c14 c15 c16 c27 c28 : Value) (L : Nat -> Bool) (a' : Act) (wx : World) : Prop:=
 ∃ u17 u18 u19 u20 u21 u22 u23 u24 u25 u26 : Value,a' = ⟨List.toArray (c0 :: c1 :: c2 :: c3 :: c4 :: c5 :: c6 :: c7 :: c8 :: c9 :: c10 :: c11 :: c12 :: c13 :: c14 :: c15 :: c16 :: u17 :: u18 :: u19 :: u20 :: u21 :: u22 :: u23 :: u24 :: u25 :: u26 :: c27 :: c28 :: []),[]⟩ /\ FlX wx0 τ0 tc td c d from_ segs n lp x bs pl m used wx /\ (L 0 = true -> u17 = .pointer (some ⟨c,0,none⟩)) /\ (L 1 = true -> u18 = .pointer (some ⟨c,0,none⟩)) /\ (L 2 = true -> u19 = .pointer (some ⟨c,1,none⟩)) /\ (L 3 = true -> u20 = .pointer (some ⟨x,0,none⟩)) /\ (L 4 = true -> u21 = .pointer (some ⟨c,0,none⟩)) /\ (L 5 = true -> u22 = .pointer (some ⟨c,0,none⟩)) /\ (L 6 = true -> u23 = .pointer (some ⟨c,0,none⟩)) /\ (L 7 = true -> u24 = .pointer (some ⟨lp,0,none⟩)) /\ (L 8 = true -> u25 = .int .i64 1) /\ (L 9 = true -> True)
set_option maxRecDepth 20000 in
set_option maxHeartbeats 1000000 in
theorem add160 (w : World) (τ : Own) (tc td c d from_ segs n : Nat) (s : FS) (Z : Nat -> Prop) (r : FRec) (B o m cB : Nat) (hF : FlashAt w τ tc c d from_ segs n s) (hD : DevAt w τ td d n Z) (htd : td < 95 /\ (td < tc \/ tc + 2 < td)) (hr : r.ok = true) (hle : s.recs.length < segs)
 (hm : r.bytes.length = m) (hs : Sl w (some ⟨B,o,none⟩) (ub r.bytes)) (hB : B < w.heap.size) (hB2 : ¬ FT tc td (τ B)) :
 Calls Tryz.prog 160 #[.pointer (some ⟨c,0,none⟩),.slice (some ⟨B,o,none⟩) m cB] w fun e w'=>e = .returned (.tuple #[.int .i64 ((s.recs.length + 1 : Nat) : Int),.int .i64 0]) /\
  ∃ τ',FlashAt w' τ' tc c d from_ segs n { s with recs:=s.recs ++ [r] } /\ DevAt w' τ' td d n (fun _=>False) /\ Chg (FT tc td) w τ w' τ':=by
 obtain ⟨lp,x,fr,h1,h2,h3⟩:=hF.ex
 have hlt:=hF.lt
 have hrl:=r.ok_len hr
 have HAP:=Lib.hid (append211 w τ (tc + 2) td lp d from_ segs n fr (s.recs.map FRec.bytes) Z r.bytes B o m cB h2 hD htd.1 (by omega) (by simpa using hle) hF.room.1 hF.room.2 hm (by omega) (by omega) hs hB (fun e=>hB2 (.inl (by omega))) (fun e=>hB2 (.inr e)))
 have c0 : w.cell? ⟨c,0,none⟩ = some (.pointer (some ⟨lp,0,none⟩)):=h1.cell 0
 have HX : Hid (∀ W τ',LogAt W τ' (tc + 2) lp d from_ segs false (s.recs.map FRec.bytes ++ [r.bytes]) -> DevAt W τ' td d n (fun _=>False) -> Chg (fun x=>x % 96 = tc + 2 \/ x = td) w τ W τ' -> FlX W τ' tc td c d from_ segs n lp x (s.recs.map FRec.bytes ++ [r.bytes]) s.pl s.n s.used W /\ Chg (FT tc td) w τ W τ'):=Lib.hid fun W τ' a b hc=>
  ⟨⟨h1.keep hc (by omega),⟨false,a⟩,h3.keep hc (by omega),b,Chg.refl _ _ _,hlt,htd⟩,hc.mono fun y e=>e.imp (fun e=>by omega) id⟩
 have HFIN : Hid (∀ w0 W τ',FlX w0 τ' tc td c d from_ segs n lp x (s.recs.map FRec.bytes ++ [r.bytes]) s.pl s.n s.used W -> FlashAt W τ' tc c d from_ segs n { s with recs:=s.recs ++ [r] }):=Lib.hid fun w0 W τ' h=>by
  obtain ⟨fr,hl⟩:=h.hlog
  refine ⟨⟨lp,x,fr,h.hc,?_,h.hidx⟩,hlt,fun q hq=>?_,hF.room,by simp;omega⟩
  ·rw [List.map_append];exact hl
  ·rcases List.mem_append.1 hq with hq | hq
   ·exact hF.ok q hq
   ·simp at hq;subst hq;exact hr
 have HLN : Hid ((s.recs.map FRec.bytes).length = s.recs.length):=Lib.hid (by simp)
 clear hF hD htd hs hB hB2 h1 h2 h3 hrl hlt hle
 go_enter Tryz.func160,Tryz.ntmps160
 go_wp2_with fail
 refine HAP.out.mono ?_
 rintro e w1 ⟨rfl,τ1,a1,a2,a3⟩
 obtain ⟨b1,b2⟩:=HX.out w1 τ1 a1 a2 a3
 have HB:=Lib.hid b1
 have HC:=Lib.hid b2
 rw [HLN.out]
 clear a1 a2 a3 b1 b2 HAP HX c0
 go_wp2_with fail
 have HB0 : Hid (FlX w1 τ1 tc td c d from_ segs n lp x (s.recs.map FRec.bytes ++ [r.bytes]) s.pl s.n s.used w1.drew):=Lib.hid ⟨HB.out.hc.drewN 1,(by obtain ⟨fr,hl⟩:=HB.out.hlog;exact ⟨fr,hl.keep ((Chg.refl (fun _=>False) w1 τ1).drewN 1) (fun _ e=>e.elim)⟩),HB.out.hidx.keep ((Chg.refl (fun _=>False) w1 τ1).drewN 1) id,HB.out.hd.drewN 1,HB.out.hch.drewN 1,HB.out.lt⟩
 refine wp_region_cl (GAd2 w1 τ1 tc td c d from_ segs n lp x (s.recs.map FRec.bytes ++ [r.bytes]) s.pl s.n s.used _ _ _ _ _ _ _ _ _ _ _ _ _ _ _ _ _ _ _) (by kernel_rfl) (by kernel_rfl) ⟨_,_,_,_,_,_,_,_,_,_,rfl,HB0.out,by simp⟩ ⟨?_,?_,?_,?_,?_,?_,?_,?_,?_,?_,trivial⟩ ?_
 ·intro L a' wx hLi hd hcl hG K hK
  refine Exists.elim hG ?_;clear hG;intro u17 hG
  refine Exists.elim hG ?_;clear hG;intro u18 hG
  refine Exists.elim hG ?_;clear hG;intro u19 hG
  refine Exists.elim hG ?_;clear hG;intro u20 hG
  refine Exists.elim hG ?_;clear hG;intro u21 hG
  refine Exists.elim hG ?_;clear hG;intro u22 hG
  refine Exists.elim hG ?_;clear hG;intro u23 hG
  refine Exists.elim hG ?_;clear hG;intro u24 hG
  refine Exists.elim hG ?_;clear hG;intro u25 hG
  refine Exists.elim hG ?_;clear hG;intro u26 hG
  refine And.elim ?_ hG;clear hG;intro ha hG
  refine And.elim ?_ hG;clear hG;intro hM hG
  refine And.elim ?_ hG;clear hG;intro f0 hG
  refine And.elim ?_ hG;clear hG;intro f1 hG
  refine And.elim ?_ hG;clear hG;intro f2 hG
  refine And.elim ?_ hG;clear hG;intro f3 hG
  refine And.elim ?_ hG;clear hG;intro f4 hG
  refine And.elim ?_ hG;clear hG;intro f5 hG
  refine And.elim ?_ hG;clear hG;intro f6 hG
  refine And.elim ?_ hG;clear hG;intro f7 hG
  refine And.elim ?_ hG;clear hG;intro f8 hG
  have f9:=hG;clear hG
  subst ha
  have HM:=Lib.hid hM
  clear hM hd hcl
  have F0:=Lib.hid f0;clear f0
  have F1:=Lib.hid f1;clear f1
  have F2:=Lib.hid f2;clear f2
  have F3:=Lib.hid f3;clear f3
  have F4:=Lib.hid f4;clear f4
  have F5:=Lib.hid f5;clear f5
  have F6:=Lib.hid f6;clear f6
  have F7:=Lib.hid f7;clear f7
  have F8:=Lib.hid f8;clear f8
  have F9:=Lib.hid f9;clear f9
  go_simp
  go_wp2
  exact ⟨_,_,_,_,_,_,_,_,_,_,rfl,HM.out,fun _=>rfl,F1.out,F2.out,F3.out,F4.out,F5.out,F6.out,F7.out,F8.out,F9.out⟩
 ·intro L a' wx hLi hd hcl hG K hK
  refine Exists.elim hG ?_;clear hG;intro u17 hG
  refine Exists.elim hG ?_;clear hG;intro u18 hG
  refine Exists.elim hG ?_;clear hG;intro u19 hG
  refine Exists.elim hG ?_;clear hG;intro u20 hG
  refine Exists.elim hG ?_;clear hG;intro u21 hG
  refine Exists.elim hG ?_;clear hG;intro u22 hG
  refine Exists.elim hG ?_;clear hG;intro u23 hG
  refine Exists.elim hG ?_;clear hG;intro u24 hG
  refine Exists.elim hG ?_;clear hG;intro u25 hG
  refine Exists.elim hG ?_;clear hG;intro u26 hG
  refine And.elim ?_ hG;clear hG;intro ha hG
  refine And.elim ?_ hG;clear hG;intro hM hG
  refine And.elim ?_ hG;clear hG;intro f0 hG
  refine And.elim ?_ hG;clear hG;intro f1 hG
  refine And.elim ?_ hG;clear hG;intro f2 hG
  refine And.elim ?_ hG;clear hG;intro f3 hG
  refine And.elim ?_ hG;clear hG;intro f4 hG
  refine And.elim ?_ hG;clear hG;intro f5 hG
  refine And.elim ?_ hG;clear hG;intro f6 hG
  refine And.elim ?_ hG;clear hG;intro f7 hG
  refine And.elim ?_ hG;clear hG;intro f8 hG
  have f9:=hG;clear hG
  subst ha
  obtain rfl:=f0 (hd ⟨0,.data⟩ (by simp) rfl)
  have HM:=Lib.hid hM
  clear hM hd hcl
  have F0:=Lib.hid f0;clear f0
  have F1:=Lib.hid f1;clear f1
  have F2:=Lib.hid f2;clear f2
  have F3:=Lib.hid f3;clear f3
  have F4:=Lib.hid f4;clear f4
  have F5:=Lib.hid f5;clear f5
  have F6:=Lib.hid f6;clear f6
  have F7:=Lib.hid f7;clear f7
  have F8:=Lib.hid f8;clear f8
  have F9:=Lib.hid f9;clear f9
  go_simp
  go_wp2
  exact ⟨_,_,_,_,_,_,_,_,_,_,rfl,HM.out,fun _=>rfl,fun _=>rfl,F2.out,F3.out,F4.out,F5.out,F6.out,F7.out,F8.out,F9.out⟩
 ·intro L a' wx hLi hd hcl hG K hK
  refine Exists.elim hG ?_;clear hG;intro u17 hG
  refine Exists.elim hG ?_;clear hG;intro u18 hG
  refine Exists.elim hG ?_;clear hG;intro u19 hG
  refine Exists.elim hG ?_;clear hG;intro u20 hG
  refine Exists.elim hG ?_;clear hG;intro u21 hG
  refine Exists.elim hG ?_;clear hG;intro u22 hG
  refine Exists.elim hG ?_;clear hG;intro u23 hG
  refine Exists.elim hG ?_;clear hG;intro u24 hG
  refine Exists.elim hG ?_;clear hG;intro u25 hG
  refine Exists.elim hG ?_;clear hG;intro u26 hG
  refine And.elim ?_ hG;clear hG;intro ha hG
  refine And.elim ?_ hG;clear hG;intro hM hG
  refine And.elim ?_ hG;clear hG;intro f0 hG
  refine And.elim ?_ hG;clear hG;intro f1 hG
  refine And.elim ?_ hG;clear hG;intro f2 hG
  refine And.elim ?_ hG;clear hG;intro f3 hG
  refine And.elim ?_ hG;clear hG;intro f4 hG
  refine And.elim ?_ hG;clear hG;intro f5 hG
  refine And.elim ?_ hG;clear hG;intro f6 hG
  refine And.elim ?_ hG;clear hG;intro f7 hG
  refine And.elim ?_ hG;clear hG;intro f8 hG
  have f9:=hG;clear hG
  subst ha
  obtain rfl:=f1 (hd ⟨1,.data⟩ (by simp) rfl)
  have HM:=Lib.hid hM
  clear hM hd hcl
  have F0:=Lib.hid f0;clear f0
  have F1:=Lib.hid f1;clear f1
  have F2:=Lib.hid f2;clear f2
  have F3:=Lib.hid f3;clear f3
  have F4:=Lib.hid f4;clear f4
  have F5:=Lib.hid f5;clear f5
  have F6:=Lib.hid f6;clear f6
  have F7:=Lib.hid f7;clear f7
  have F8:=Lib.hid f8;clear f8
  have F9:=Lib.hid f9;clear f9
  go_simp
  go_wp2
  exact ⟨_,_,_,_,_,_,_,_,_,_,rfl,HM.out,F0.out,fun _=>rfl,fun _=>rfl,F3.out,F4.out,F5.out,F6.out,F7.out,F8.out,F9.out⟩
 ·intro L a' wx hLi hd hcl hG K hK
  refine Exists.elim hG ?_;clear hG;intro u17 hG
  refine Exists.elim hG ?_;clear hG;intro u18 hG
  refine Exists.elim hG ?_;clear hG;intro u19 hG
  refine Exists.elim hG ?_;clear hG;intro u20 hG
  refine Exists.elim hG ?_;clear hG;intro u21 hG
  refine Exists.elim hG ?_;clear hG;intro u22 hG
  refine Exists.elim hG ?_;clear hG;intro u23 hG
  refine Exists.elim hG ?_;clear hG;intro u24 hG
  refine Exists.elim hG ?_;clear hG;intro u25 hG
  refine Exists.elim hG ?_;clear hG;intro u26 hG
  refine And.elim ?_ hG;clear hG;intro ha hG
  refine And.elim ?_ hG;clear hG;intro hM hG
  refine And.elim ?_ hG;clear hG;intro f0 hG
  refine And.elim ?_ hG;clear hG;intro f1 hG
  refine And.elim ?_ hG;clear hG;intro f2 hG
  refine And.elim ?_ hG;clear hG;intro f3 hG
  refine And.elim ?_ hG;clear hG;intro f4 hG
  refine And.elim ?_ hG;clear hG;intro f5 hG
  refine And.elim ?_ hG;clear hG;intro f6 hG
  refine And.elim ?_ hG;clear hG;intro f7 hG
  refine And.elim ?_ hG;clear hG;intro f8 hG
  have f9:=hG;clear hG
  subst ha
  obtain rfl:=f2 (hd ⟨2,.data⟩ (by simp) rfl)
  have cc : wx.cell? ⟨c,1,none⟩ = some (.pointer (some ⟨x,0,none⟩)):=hM.hc.cell 1
  have HM:=Lib.hid hM
  clear hM hd hcl
  have F0:=Lib.hid f0;clear f0
  have F1:=Lib.hid f1;clear f1
  have F2:=Lib.hid f2;clear f2
  have F3:=Lib.hid f3;clear f3
  have F4:=Lib.hid f4;clear f4
  have F5:=Lib.hid f5;clear f5
  have F6:=Lib.hid f6;clear f6
  have F7:=Lib.hid f7;clear f7
  have F8:=Lib.hid f8;clear f8
  have F9:=Lib.hid f9;clear f9
  go_simp
  go_wp2
  exact ⟨_,_,_,_,_,_,_,_,_,_,rfl,HM.out,F0.out,F1.out,fun _=>rfl,fun _=>rfl,F4.out,F5.out,F6.out,F7.out,F8.out,F9.out⟩
 ·intro L a' wx hLi hd hcl hG K hK
  refine Exists.elim hG ?_;clear hG;intro u17 hG
  refine Exists.elim hG ?_;clear hG;intro u18 hG
  refine Exists.elim hG ?_;clear hG;intro u19 hG
  refine Exists.elim hG ?_;clear hG;intro u20 hG
  refine Exists.elim hG ?_;clear hG;intro u21 hG
  refine Exists.elim hG ?_;clear hG;intro u22 hG
  refine Exists.elim hG ?_;clear hG;intro u23 hG
  refine Exists.elim hG ?_;clear hG;intro u24 hG
  refine Exists.elim hG ?_;clear hG;intro u25 hG
  refine Exists.elim hG ?_;clear hG;intro u26 hG
  refine And.elim ?_ hG;clear hG;intro ha hG
  refine And.elim ?_ hG;clear hG;intro hM hG
  refine And.elim ?_ hG;clear hG;intro f0 hG
  refine And.elim ?_ hG;clear hG;intro f1 hG
  refine And.elim ?_ hG;clear hG;intro f2 hG
  refine And.elim ?_ hG;clear hG;intro f3 hG
  refine And.elim ?_ hG;clear hG;intro f4 hG
  refine And.elim ?_ hG;clear hG;intro f5 hG
  refine And.elim ?_ hG;clear hG;intro f6 hG
  refine And.elim ?_ hG;clear hG;intro f7 hG
  refine And.elim ?_ hG;clear hG;intro f8 hG
  have f9:=hG;clear hG
  subst ha
  have HM:=Lib.hid hM
  clear hM hd hcl
  have F0:=Lib.hid f0;clear f0
  have F1:=Lib.hid f1;clear f1
  have F2:=Lib.hid f2;clear f2
  have F3:=Lib.hid f3;clear f3
  have F4:=Lib.hid f4;clear f4
  have F5:=Lib.hid f5;clear f5
  have F6:=Lib.hid f6;clear f6
  have F7:=Lib.hid f7;clear f7
  have F8:=Lib.hid f8;clear f8
  have F9:=Lib.hid f9;clear f9
  go_simp
  go_wp2
  exact ⟨_,_,_,_,_,_,_,_,_,_,rfl,HM.out,F0.out,F1.out,F2.out,F3.out,fun _=>rfl,F5.out,F6.out,F7.out,F8.out,F9.out⟩
 ·intro L a' wx hLi hd hcl hG K hK
  refine Exists.elim hG ?_;clear hG;intro u17 hG
  refine Exists.elim hG ?_;clear hG;intro u18 hG
  refine Exists.elim hG ?_;clear hG;intro u19 hG
  refine Exists.elim hG ?_;clear hG;intro u20 hG
  refine Exists.elim hG ?_;clear hG;intro u21 hG
  refine Exists.elim hG ?_;clear hG;intro u22 hG
  refine Exists.elim hG ?_;clear hG;intro u23 hG
  refine Exists.elim hG ?_;clear hG;intro u24 hG
  refine Exists.elim hG ?_;clear hG;intro u25 hG
  refine Exists.elim hG ?_;clear hG;intro u26 hG
  refine And.elim ?_ hG;clear hG;intro ha hG
  refine And.elim ?_ hG;clear hG;intro hM hG
  refine And.elim ?_ hG;clear hG;intro f0 hG
  refine And.elim ?_ hG;clear hG;intro f1 hG
  refine And.elim ?_ hG;clear hG;intro f2 hG
  refine And.elim ?_ hG;clear hG;intro f3 hG
  refine And.elim ?_ hG;clear hG;intro f4 hG
  refine And.elim ?_ hG;clear hG;intro f5 hG
  refine And.elim ?_ hG;clear hG;intro f6 hG
  refine And.elim ?_ hG;clear hG;intro f7 hG
  refine And.elim ?_ hG;clear hG;intro f8 hG
  have f9:=hG;clear hG
  subst ha
  obtain rfl:=f4 (hd ⟨4,.data⟩ (by simp) rfl)
  have HM:=Lib.hid hM
  clear hM hd hcl
  have F0:=Lib.hid f0;clear f0
  have F1:=Lib.hid f1;clear f1
  have F2:=Lib.hid f2;clear f2
  have F3:=Lib.hid f3;clear f3
  have F4:=Lib.hid f4;clear f4
  have F5:=Lib.hid f5;clear f5
  have F6:=Lib.hid f6;clear f6
  have F7:=Lib.hid f7;clear f7
  have F8:=Lib.hid f8;clear f8
  have F9:=Lib.hid f9;clear f9
  go_simp
  go_wp2
  exact ⟨_,_,_,_,_,_,_,_,_,_,rfl,HM.out,F0.out,F1.out,F2.out,F3.out,fun _=>rfl,fun _=>rfl,F6.out,F7.out,F8.out,F9.out⟩
 ·intro L a' wx hLi hd hcl hG K hK
  refine Exists.elim hG ?_;clear hG;intro u17 hG
  refine Exists.elim hG ?_;clear hG;intro u18 hG
  refine Exists.elim hG ?_;clear hG;intro u19 hG
  refine Exists.elim hG ?_;clear hG;intro u20 hG
  refine Exists.elim hG ?_;clear hG;intro u21 hG
  refine Exists.elim hG ?_;clear hG;intro u22 hG
  refine Exists.elim hG ?_;clear hG;intro u23 hG
  refine Exists.elim hG ?_;clear hG;intro u24 hG
  refine Exists.elim hG ?_;clear hG;intro u25 hG
  refine Exists.elim hG ?_;clear hG;intro u26 hG
  refine And.elim ?_ hG;clear hG;intro ha hG
  refine And.elim ?_ hG;clear hG;intro hM hG
  refine And.elim ?_ hG;clear hG;intro f0 hG
  refine And.elim ?_ hG;clear hG;intro f1 hG
  refine And.elim ?_ hG;clear hG;intro f2 hG
  refine And.elim ?_ hG;clear hG;intro f3 hG
  refine And.elim ?_ hG;clear hG;intro f4 hG
  refine And.elim ?_ hG;clear hG;intro f5 hG
  refine And.elim ?_ hG;clear hG;intro f6 hG
  refine And.elim ?_ hG;clear hG;intro f7 hG
  refine And.elim ?_ hG;clear hG;intro f8 hG
  have f9:=hG;clear hG
  subst ha
  obtain rfl:=f5 (hd ⟨5,.data⟩ (by simp) rfl)
  have HM:=Lib.hid hM
  clear hM hd hcl
  have F0:=Lib.hid f0;clear f0
  have F1:=Lib.hid f1;clear f1
  have F2:=Lib.hid f2;clear f2
  have F3:=Lib.hid f3;clear f3
  have F4:=Lib.hid f4;clear f4
  have F5:=Lib.hid f5;clear f5
  have F6:=Lib.hid f6;clear f6
  have F7:=Lib.hid f7;clear f7
  have F8:=Lib.hid f8;clear f8
  have F9:=Lib.hid f9;clear f9
  go_simp
  go_wp2
  exact ⟨_,_,_,_,_,_,_,_,_,_,rfl,HM.out,F0.out,F1.out,F2.out,F3.out,F4.out,fun _=>rfl,fun _=>rfl,F7.out,F8.out,F9.out⟩
 ·intro L a' wx hLi hd hcl hG K hK
  refine Exists.elim hG ?_;clear hG;intro u17 hG
  refine Exists.elim hG ?_;clear hG;intro u18 hG
  refine Exists.elim hG ?_;clear hG;intro u19 hG
  refine Exists.elim hG ?_;clear hG;intro u20 hG
  refine Exists.elim hG ?_;clear hG;intro u21 hG
  refine Exists.elim hG ?_;clear hG;intro u22 hG
  refine Exists.elim hG ?_;clear hG;intro u23 hG
  refine Exists.elim hG ?_;clear hG;intro u24 hG
  refine Exists.elim hG ?_;clear hG;intro u25 hG
  refine Exists.elim hG ?_;clear hG;intro u26 hG
  refine And.elim ?_ hG;clear hG;intro ha hG
  refine And.elim ?_ hG;clear hG;intro hM hG
  refine And.elim ?_ hG;clear hG;intro f0 hG
  refine And.elim ?_ hG;clear hG;intro f1 hG
  refine And.elim ?_ hG;clear hG;intro f2 hG
  refine And.elim ?_ hG;clear hG;intro f3 hG
  refine And.elim ?_ hG;clear hG;intro f4 hG
  refine And.elim ?_ hG;clear hG;intro f5 hG
  refine And.elim ?_ hG;clear hG;intro f6 hG
  refine And.elim ?_ hG;clear hG;intro f7 hG
  refine And.elim ?_ hG;clear hG;intro f8 hG
  have f9:=hG;clear hG
  subst ha
  obtain rfl:=f6 (hd ⟨6,.data⟩ (by simp) rfl)
  have cc : wx.cell? ⟨c,0,none⟩ = some (.pointer (some ⟨lp,0,none⟩)):=hM.hc.cell 0
  have HM:=Lib.hid hM
  clear hM hd hcl
  have F0:=Lib.hid f0;clear f0
  have F1:=Lib.hid f1;clear f1
  have F2:=Lib.hid f2;clear f2
  have F3:=Lib.hid f3;clear f3
  have F4:=Lib.hid f4;clear f4
  have F5:=Lib.hid f5;clear f5
  have F6:=Lib.hid f6;clear f6
  have F7:=Lib.hid f7;clear f7
  have F8:=Lib.hid f8;clear f8
  have F9:=Lib.hid f9;clear f9
  go_simp
  go_wp2
  exact ⟨_,_,_,_,_,_,_,_,_,_,rfl,HM.out,F0.out,F1.out,F2.out,F3.out,F4.out,F5.out,fun _=>rfl,fun _=>rfl,F8.out,F9.out⟩
 ·intro L a' wx hLi hd hcl hG K hK
  refine Exists.elim hG ?_;clear hG;intro u17 hG
  refine Exists.elim hG ?_;clear hG;intro u18 hG
  refine Exists.elim hG ?_;clear hG;intro u19 hG
  refine Exists.elim hG ?_;clear hG;intro u20 hG
  refine Exists.elim hG ?_;clear hG;intro u21 hG
  refine Exists.elim hG ?_;clear hG;intro u22 hG
  refine Exists.elim hG ?_;clear hG;intro u23 hG
  refine Exists.elim hG ?_;clear hG;intro u24 hG
  refine Exists.elim hG ?_;clear hG;intro u25 hG
  refine Exists.elim hG ?_;clear hG;intro u26 hG
  refine And.elim ?_ hG;clear hG;intro ha hG
  refine And.elim ?_ hG;clear hG;intro hM hG
  refine And.elim ?_ hG;clear hG;intro f0 hG
  refine And.elim ?_ hG;clear hG;intro f1 hG
  refine And.elim ?_ hG;clear hG;intro f2 hG
  refine And.elim ?_ hG;clear hG;intro f3 hG
  refine And.elim ?_ hG;clear hG;intro f4 hG
  refine And.elim ?_ hG;clear hG;intro f5 hG
  refine And.elim ?_ hG;clear hG;intro f6 hG
  refine And.elim ?_ hG;clear hG;intro f7 hG
  refine And.elim ?_ hG;clear hG;intro f8 hG
  have f9:=hG;clear hG
  subst ha
  obtain rfl:=f7 (hd ⟨7,.data⟩ (by simp) rfl)
  have HM:=Lib.hid hM
  clear hM hd hcl
  have F0:=Lib.hid f0;clear f0
  have F1:=Lib.hid f1;clear f1
  have F2:=Lib.hid f2;clear f2
  have F3:=Lib.hid f3;clear f3
  have F4:=Lib.hid f4;clear f4
  have F5:=Lib.hid f5;clear f5
  have F6:=Lib.hid f6;clear f6
  have F7:=Lib.hid f7;clear f7
  have F8:=Lib.hid f8;clear f8
  have F9:=Lib.hid f9;clear f9
  go_simp
  obtain ⟨fr9,hl9⟩:=HM.out.hlog
  refine (first213 wx τ1 (tc + 2) lp d from_ segs fr9 (s.recs.map FRec.bytes ++ [r.bytes]) hl9).mono ?_
  rintro e w1 ⟨rfl,rfl⟩
  go_wp2
  exact ⟨_,_,_,_,_,_,_,_,_,_,rfl,HM.out,F0.out,F1.out,F2.out,F3.out,F4.out,F5.out,F6.out,fun _=>rfl,fun _=>rfl,F9.out⟩
 ·intro L a' wx hLi hd hcl hG K hK
  refine Exists.elim hG ?_;clear hG;intro u17 hG
  refine Exists.elim hG ?_;clear hG;intro u18 hG
  refine Exists.elim hG ?_;clear hG;intro u19 hG
  refine Exists.elim hG ?_;clear hG;intro u20 hG
  refine Exists.elim hG ?_;clear hG;intro u21 hG
  refine Exists.elim hG ?_;clear hG;intro u22 hG
  refine Exists.elim hG ?_;clear hG;intro u23 hG
  refine Exists.elim hG ?_;clear hG;intro u24 hG
  refine Exists.elim hG ?_;clear hG;intro u25 hG
  refine Exists.elim hG ?_;clear hG;intro u26 hG
  refine And.elim ?_ hG;clear hG;intro ha hG
  refine And.elim ?_ hG;clear hG;intro hM hG
  refine And.elim ?_ hG;clear hG;intro f0 hG
  refine And.elim ?_ hG;clear hG;intro f1 hG
  refine And.elim ?_ hG;clear hG;intro f2 hG
  refine And.elim ?_ hG;clear hG;intro f3 hG
  refine And.elim ?_ hG;clear hG;intro f4 hG
  refine And.elim ?_ hG;clear hG;intro f5 hG
  refine And.elim ?_ hG;clear hG;intro f6 hG
  refine And.elim ?_ hG;clear hG;intro f7 hG
  refine And.elim ?_ hG;clear hG;intro f8 hG
  have f9:=hG;clear hG
  subst ha
  obtain rfl:=f3 (hd ⟨3,.data⟩ (by simp) rfl)
  obtain rfl:=f8 (hd ⟨8,.data⟩ (by simp) rfl)
  have HM:=Lib.hid hM
  clear hM hd hcl
  have F0:=Lib.hid f0;clear f0
  have F1:=Lib.hid f1;clear f1
  have F2:=Lib.hid f2;clear f2
  have F3:=Lib.hid f3;clear f3
  have F4:=Lib.hid f4;clear f4
  have F5:=Lib.hid f5;clear f5
  have F6:=Lib.hid f6;clear f6
  have F7:=Lib.hid f7;clear f7
  have F8:=Lib.hid f8;clear f8
  have F9:=Lib.hid f9;clear f9
  go_simp
  refine (below212 wx τ1 (tc + 1) x s.n s.used s.pl HM.out.hidx).mono ?_
  rintro e w1 ⟨rfl,hi1,hc1⟩
  have HS:=Lib.hid (HM.out.index hi1 hc1)
  clear hi1 hc1
  go_wp2
  exact ⟨_,_,_,_,_,_,_,_,_,_,rfl,HS.out,F0.out,F1.out,F2.out,fun _=>rfl,F4.out,F5.out,F6.out,F7.out,fun _=>rfl,fun _=>trivial⟩
 ·intro L a' wx hL hG
  obtain ⟨u17,u18,u19,u20,u21,u22,u23,u24,u25,u26,rfl,hM,f0,f1,f2,f3,f4,f5,f6,f7,f8,f9⟩:=hG
  have HM2:=Lib.hid hM
  clear hM hL HB HB0 f0 f1 f2 f3 f4 f5 f6 f7 f8 f9
  go_wp2
  go_ret2
  exact ⟨rfl,τ1,HFIN.out _ _ _ HM2.out,HM2.out.hd,HC.out.trans HM2.out.hch⟩
end Go.Proofs.Ytlhekbjidppijaa
