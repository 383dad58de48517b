/- Contracts of functions that the Top rows reach, and plain laws for them: what each returns and what it leaves in memory. Conditions: those that each theorem names. -/
import Derived.Test.YtlhekbjidppijaaGreatMBE
import Derived.Test.YtlhekbjidppijaaGreatMBJ
set_option linter.unusedVariables false
set_option linter.unusedSimpArgs false
namespace Go.Proofs.Ytlhekbjidppijaa
open Go.RowKit
theorem splice_all (cur : Array Value) (cs : List Value) (h : cur.size = cs.length) : splice cur 0 cs = cs.toArray:=by
 unfold splice
 rw [List.take_zero,List.nil_append,List.drop_eq_nil_of_le (by simp [h]),List.append_nil]
theorem store_fresh {P : Program} (w : World) (t : TypeId) (zs : Array Value) (cs : List Value) (hs : ∀ W,(sizeOf t).run P W = .ok cs.length W) (hz : zs.size = cs.length) (h1 : ∀ v ∈ cs,v.oneCell' = true) :
 ∃ W2,(Instr.storeAt t (.pointer (some ⟨w.heap.size,0,none⟩)) (.agg cs.toArray)).run P (w.alloc (.cells zs t)) = .ok () W2 /\ Blk W2 w.heap.size t cs.toArray /\ Below w.heap.size w W2 /\ W2.heap.size = w.heap.size + 1:=by
 obtain ⟨W2,a,b,c,d,e,f,g⟩:=run_storeAgg (P:=P) (w.alloc (.cells zs t)) t w.heap.size 0 t zs cs cs.length (hs _) rfl (Blk.new _ _ _) (by omega) h1
 rw [splice_all _ _ hz] at b
 exact ⟨W2,a,b,((Below.refl _ w).alloc (Nat.le_refl _) (.cells zs t)).trans ⟨e,f,g,by omega,fun k hk=>c k (by omega)⟩,by rw [d];simp⟩
theorem load_blk {P : Program} {W : World} {g t : Nat} {cs : List Value} (ha : (isAgg t).run P W = .ok true W) (hs : (sizeOf t).run P W = .ok cs.length W) (h : Blk W g t cs.toArray) : (Instr.loadAt t (.pointer (some ⟨g,0,none⟩))).run P W = .ok (.agg cs.toArray) W:=
 run_loadAgg W t g 0 cs cs.length ha hs rfl (fun j v hj=>by rw [Nat.zero_add,h.cell j,List.getElem?_toArray];exact hj)
def endC? (pos : Nat) (r : PReply) (l : List PCall) : Option (List PCall):=
 match l[r.id - 1]? with
 | some c=>if decide (1 <= r.id) && !c.done && decide (c.op = r.op) && decide (c.key = r.key) then some (l.set (r.id - 1) { c with done:=true,to:=pos,reply:=r }) else none
 | none=>none
def endAll? (pos : Nat) : List PReply -> List PCall -> Option (List PCall)
 | [],l=>some l
 | r :: rs,l=>match endC? pos r l with
  | some l'=>endAll? pos rs l'
  | none=>none
theorem endC_len {pos : Nat} {r : PReply} {l l' : List PCall} (h : endC? pos r l = some l') : l'.length = l.length:=by
 unfold endC? at h
 split at h
 ·split at h
  ·injection h with h;rw [<- h];simp
  ·cases h
 ·cases h
theorem endAll_len {pos : Nat} : ∀ (rs : List PReply) {l l' : List PCall},endAll? pos rs l = some l' -> l'.length = l.length
 | [],l,l',h=>by injection h with h;rw [h]
 | r :: rs,l,l',h=>by
  unfold endAll? at h
  split at h
  ·rename_i l2 h2
   rw [endAll_len rs h,endC_len h2]
  ·cases h
theorem endAll_at {pos : Nat} : ∀ (rs : List PReply) {l l' : List PCall},endAll? pos rs l = some l' -> ∀ (k : Nat) (hk : k < rs.length) (lk : List PCall),endAll? pos (rs.take k) l = some lk -> ∃ lk',endC? pos rs[k] lk = some lk' /\ endAll? pos (rs.take (k + 1)) l = some lk'
 | [],l,l',h,k,hk,lk,hl=>absurd hk (Nat.not_lt_zero _)
 | r :: rs,l,l',h,k,hk,lk,hl=>by
  unfold endAll? at h
  split at h
  ·rename_i l2 h2
   cases k with
   | zero=>
    have : l = lk:=by simpa [endAll?] using hl
    subst this
    exact ⟨l2,h2,by simp [endAll?,h2]⟩
   | succ k=>
    have hl' : endAll? pos (rs.take k) l2 = some lk:=by simpa [endAll?,h2] using hl
    obtain ⟨lk',g1,g2⟩:=endAll_at rs h k (by simpa using hk) lk hl'
    exact ⟨lk',g1,by simp [endAll?,h2,g2]⟩
  ·cases h
theorem endC108 (w : World) (τ : Own) (t p pos : Nat) (r : PReply) (cs cs' : List PCall) (h : LgAt w τ t p cs) (hn : cs.length <= 1000) (he : endC? pos r cs = some cs') :
 Calls Tryz.prog 108 #[.pointer (some ⟨p,0,none⟩),.agg (encR r).toArray,.int .i64 (pos : Int)] w fun e w'=>e = .returned (.bool true) /\ LgAt w' τ t p cs' /\ Chg (T2 t) w τ w' τ:=by
 unfold endC? at he
 split at he
 case h_2=>cases he
 rename_i c hc
 split at he
 case isFalse=>cases he
 rename_i hg
 simp only [Bool.and_eq_true,Bool.not_eq_true',decide_eq_true_eq] at hg
 obtain ⟨⟨⟨g1,g2⟩,g3⟩,g4⟩:=hg
 injection he with he
 obtain ⟨hi,hci⟩:=List.getElem?_eq_some_iff.1 hc
 subst hci
 rw [<- he]
 exact end108 w τ t p pos (r.id - 1) r cs h hn hi (by omega) g2 g3 g4
def PCl.small (s : PCl) : Bool:=decide (s.org.length <= 1000) && decide (s.log.length <= 1000)
def PCl.came? (s : PCl) (ms : List PMsg) (rs : List PReply) : Option PCl:=
 if s.small && ms.all PMsg.okB && decide (s.net.length + ms.length < 300) && decide (rs.length <= 900) then (endAll? s.org.length rs s.log).map fun l=>{ s with net:=s.net ++ ms,log:=l } else none
theorem Msgs.of_nrw {w : World} {τ : Own} {t : Nat} {v : Value} {ms : List PMsg} (h : NRw w τ t v ms) (hm : ∀ m ∈ ms,m.members = []) : Msgs w τ t v ms:=by
 refine ⟨ms.map fun m=>(m,nils),by simp [List.map_map,Function.comp_def],?_,fun x hx=>?_⟩
 ·have e : (ms.map fun m=>((m,nils) : MV)).flatMap encM = ms.flatMap encN:=by rw [List.flatMap_map];rfl
  rw [e];exact h
 ·obtain ⟨m,hm',rfl⟩:=List.mem_map.1 hx
  dsimp only
  rw [hm m hm']
  exact Rw.nil _ _ _ _ _
def CamS (c lg O b : Nat) (r : PReply) (W : World) : Prop:=W.cell? ⟨c,29,none⟩ = some (ptr lg) /\ W.cell? ⟨c,28,none⟩ = some (ptr O) /\ Blk W b 57 (encR r).toArray
def CamT (c nt b : Nat) (v : Value) (W : World) : Prop:=W.cell? ⟨c,27,none⟩ = some (ptr nt) /\ W.cell? ⟨b,0,none⟩ = some v
set_option maxRecDepth 20000 in
set_option maxHeartbeats 2000000 in
theorem came82 (w : World) (τ : Own) (c : Nat) (L : CL) (s s' : PCl) (H : CluAt w τ c L s) (tm tr : Nat) (mv pv : Value) (ms : List PMsg) (rs : List PReply) (hm : Msgs w τ tm mv ms) (hr : RRw w τ tr pv rs) (htm : tm % 96 ≠ 83) (htr : tr % 96 ≠ 83 /\ tr % 96 ≠ 85) (ha : s.came? ms rs = some s') :
 Calls Tryz.prog 82 #[ptr c,.agg #[mv,pv]] w fun e w'=>(∃ r,e = .returned r) /\ ∃ τ',CluAt w' τ' c L s' /\ Chg CT w τ w' τ':=by
 unfold PCl.came? at ha
 split at ha
 case isFalse=>cases ha
 rename_i hg
 simp only [PCl.small,Bool.and_eq_true,decide_eq_true_eq,List.all_eq_true] at hg
 obtain ⟨⟨⟨⟨ho,hlg⟩,hok⟩,hnl⟩,hrl⟩:=hg
 obtain ⟨lf,hend,hs'⟩:=Option.map_eq_some_iff.1 ha
 obtain ⟨y,hy1,hy2⟩:=fresh95 w τ
 obtain ⟨A,ca,rfl⟩ : ∃ A ca,mv = .slice A ms.length ca:=by
  obtain ⟨L,-,hr,-⟩:=hm.ex
  exact hr.value
 obtain ⟨B,cb,rfl⟩:=hr.value
 obtain ⟨W1,hW1⟩ : ∃ W,W = w.alloc (.cells #[.slice A ms.length ca,.slice B rs.length cb] 102):=⟨_,rfl⟩
 have hc1 : Chg (fun _=>False) w τ W1.drew (ext τ w y):=by rw [hW1];exact (((Chg.refl _ _ _).alloc _).ext _).drew
 have hO1 : Has W1.drew (ext τ w y) y w.heap.size 102 #[.slice A ms.length ca,.slice B rs.length cb]:=⟨by rw [hW1];exact (Blk.new _ _ _).drewN 1,ext_new (Nat.le_refl _)⟩
 have H1:=H.keep hc1 fun _ h=>h.elim
 have hm1:=hm.keep hc1 id id
 have hr1:=hr.keep hc1 id
 generalize ext τ w y = τ1 at hc1 hO1 H1 hm1 hr1
 have S1 : Hid (CamT c L.net w.heap.size (.slice A ms.length ca) W1.drew):=Lib.hid ⟨H1.blk.cell 27,hO1.cell 0⟩
 have HSd:=Lib.hid (send80 W1.drew τ1 83 tm L.net (.slice A ms.length ca) s.net ms H1.net hm1 (fun m hm=>PMsg.okB_ok (hok m hm)) hnl (by show ¬ (tm = 83 \/ tm = 83 + 96 \/ tm = 83 + 192);omega) (by show ¬ (tm + 96 = 83 \/ tm + 96 = 83 + 96 \/ tm + 96 = 83 + 192);omega))
 have HH:=Lib.hid (And.intro H1 (And.intro hr1 (And.intro hO1 (hc1.mono (T':=CT) fun _ h=>h.elim))))
 have HT:=Lib.hid (And.intro htr (And.intro ho (And.intro hlg (And.intro hrl hy1))))
 have HE:=Lib.hid (And.intro hend hs')
 have HW1:=Lib.hid hW1
 clear H hm hr hc1 hO1 H1 hm1 hr1 htm htr ho hlg hok hnl hrl hend hs' hy1 hy2 hW1 ha
 obtain ⟨q,hq⟩ : ∃ q,q = rs.length:=⟨_,rfl⟩
 have HQ:=Lib.hid hq
 rw [<- hq] at HH HW1 ⊢
 clear hq
 go_enter Tryz.func82,Tryz.ntmps82
 go_wp2_with (first | rw [<- HW1.out] | fail)
 refine wp_region_hl [] [0,1,2,3,4,5] (CamT c L.net w.heap.size (.slice A ms.length ca)) (by kernel_rfl) (by kernel_rfl) S1.out ?_
 iterate 5 (refine hd_take (v:=?_) rfl rfl (by kernel_rfl) (fun W hW=>?_) ?_;rotate_left;(obtain ⟨r0,r1⟩:=hW;first | (go_simp;done) | (go_simp;with_reducible rfl)))
 refine hd_take (v:=?_) rfl rfl (by kernel_rfl) (fun W hW=>?_) (hd_end ?_)
 rotate_left
 ·obtain ⟨r0,r1⟩:=hW;first | (go_simp;done) | (go_simp;with_reducible rfl)
 simp only [List.length_cons,List.length_nil,List.drop_succ_cons,List.drop_zero,Nat.zero_add,Nat.reduceAdd]
 go_wp2_with (go_at_call 80;fail)
 refine HSd.out.mono ?_
 rintro e w2 ⟨⟨v2,rfl⟩,τ2,hn2,hc2⟩
 have h2:=HH.out.1.setNet hn2 hc2 (by rintro x (e | e | e) <;> omega)
 have hr2:=HH.out.2.1.keep hc2 (by have:=HT.out.1;show ¬ (tr = 83 \/ tr = 83 + 96 \/ tr = 83 + 192);omega)
 have hO2:=HH.out.2.2.1.keep hc2 (by have:=HT.out.2.2.2.2;show ¬ (y = 83 \/ y = 83 + 96 \/ y = 83 + 192);omega)
 have hcc:=HH.out.2.2.2.trans (hc2.mono (T':=CT) (by rintro x (e | e | e) <;> (unfold CT;omega)))
 have c1 : w2.cell? ⟨w.heap.size,1,none⟩ = some (.slice B q cb):=hO2.cell 1
 have H2:=Lib.hid (And.intro h2 (And.intro hr2 hcc))
 clear h2 hr2 hO2 hcc hn2 hc2 HSd HH HW1
 go_wp2
 go_loopw [16] (fun i wr=>∃ (k : Nat) (τr : Own) (l : List PCall),k <= q /\ i = .int .i64 (k : Int) /\ CluAt wr τr c L { s with net:=s.net ++ ms,log:=l } /\ endAll? s.org.length (rs.take k) s.log = some l /\ Rw wr τr tr 57 6 (.slice B q cb) q (rs.flatMap encR) /\ Chg CT w τ wr τr) (fun i _=>q - (intOf i).toNat)
 case atStart=>exact ⟨0,τ2,s.log,Nat.zero_le _,rfl,H2.out.1,rfl,H2.out.2.1,H2.out.2.2⟩
 case round=>
  obtain ⟨k,τr,l,hk,rfl,hcl,hen,hrr,hch⟩:=hrel
  by_cases hlt : k < q
  ·have hkr : k < rs.length:=by rw [<- HQ.out];exact hlt
   obtain ⟨l',g1,g2⟩:=endAll_at rs HE.out.1 k hkr l hen
   have hll:=endAll_len _ hen
   obtain ⟨g,rfl⟩ : ∃ g,B = some ⟨g,0,none⟩:=by
    obtain ⟨A',c',e1,-,-,-,-,hA,ha⟩:=hrr.slice
    injection e1 with e1 _ _
    subst e1
    cases B with
    | none=>have:=(hA rfl).1;omega
    | some a=>
     obtain ⟨b0,o0,s0⟩:=a
     obtain ⟨rfl,rfl,_⟩:=ha _ rfl
     exact ⟨b0,rfl⟩
   have hld:=Rw.load (P:=Tryz.prog) encR_len (by decide) (by have:=hrr;rw [HQ.out] at this;exact this) hkr (by kernel_rfl) (by kernel_rfl)
   generalize rs[k] = r at g1 hld
   have HLd:=Lib.hid hld
   obtain ⟨W3,hst,hb3,hbl3,hsz3⟩:=store_fresh (P:=Tryz.prog) wr 57 #[.int .i64 0,.int .i64 0,.string ⟨#[]⟩,.int .i64 0,.string ⟨#[]⟩,.bool false] (encR r) (fun W=>by kernel_rfl) rfl (encR_one r)
   have HSt:=Lib.hid hst
   have hc3 : Chg (fun _=>False) wr τr W3.drew (ext τr wr y):=(Chg.of_below hbl3 _).drew
   have hcl3:=hcl.keep hc3 fun _ h=>h.elim
   have HB3 : Hid (Has W3.drew (ext τr wr y) y wr.heap.size 57 (encR r).toArray):=Lib.hid ⟨hb3.drewN 1,ext_new (Nat.le_refl _)⟩
   have S3 : Hid (CamS c L.log L.org wr.heap.size r W3.drew):=Lib.hid ⟨hcl3.blk.cell 29,hcl3.blk.cell 28,hb3.drewN 1⟩
   have HNo:=Lib.hid (now91 W3.drew (ext τr wr y) 84 L.org s.org hcl3.org)
   have HEn:=Lib.hid (endC108 W3.drew (ext τr wr y) 85 L.log s.org.length r l l' hcl3.log (by have:=HT.out.2.2.1;omega) g1)
   have HX:=Lib.hid (And.intro hcl3 (And.intro (hrr.keep hc3 id) (hch.trans (hc3.mono fun _ h=>h.elim))))
   have HG:=Lib.hid g2
   have k1 : (k : Int) < (q : Int):=by omega
   have k2 : (0 : Int) <= (k : Int):=by omega
   have k3 : (k : Int) <= 900:=by have:=HT.out.2.2.2.1;omega
   clear hcl hen hrr hch g1 g2 hll hst hb3 hbl3 hsz3 hc3 hcl3 hld c1
   go_wp2_with (first | (refine wpl_lq 57 _ rfl ?_;refine lq 57 _ _ _ rfl (by kernel_rfl) HLd.out ?_) | (refine wpl_sq 57 _ _ rfl rfl ?_;refine sq 57 _ _ _ _ W3 rfl rfl (by kernel_rfl) HSt.out ?_))
   refine wp_region_hl [9] [0,1,2,3,4,5,6,7,8,9] (CamS c L.log L.org wr.heap.size r) (by kernel_rfl) (by kernel_rfl) S3.out ?_
   iterate 4 (refine hd_take (v:=?_) rfl rfl (by kernel_rfl) (fun W hW=>?_) ?_;rotate_left;(obtain ⟨r0,r1,-⟩:=hW;first | (go_simp;done) | (go_simp;with_reducible rfl)))
   refine hd_load 57 _ rfl rfl (by kernel_rfl) rfl _ _ rfl (fun W hW=>load_blk (by kernel_rfl) (by kernel_rfl) hW.2.2) ?_
   iterate 4 (refine hd_take (v:=?_) rfl rfl (by kernel_rfl) (fun W hW=>?_) ?_;rotate_left;(obtain ⟨r0,r1,-⟩:=hW;first | (go_simp;done) | (go_simp;with_reducible rfl)))
   refine hd_loud rfl rfl fun K hK=>?_
   go_simp
   refine HNo.out.mono ?_
   rintro e w4 ⟨rfl,rfl⟩
   refine hK _ _ S3.out (hd_end ?_)
   clear hK
   simp only [List.length_cons,List.length_nil,List.drop_succ_cons,List.drop_zero,Nat.zero_add,Nat.reduceAdd]
   go_wp2_with (go_at_call 108;fail)
   refine HEn.out.mono ?_
   rintro e w5 ⟨rfl,hl5,hc5⟩
   have HF:=Lib.hid (And.intro (HX.out.1.setLog hl5 hc5 (by rintro x (e | e) <;> omega)) (And.intro (HX.out.2.1.keep hc5 (by have:=HT.out.1;show ¬ (tr = 85 \/ tr = 85 + 96);omega)) (HX.out.2.2.trans (hc5.mono (T':=CT) (by rintro x (e | e) <;> (unfold CT;omega))))))
   clear hl5 hc5
   go_wp2
   go_roundw
   case rel=>exact ⟨k + 1,_,l',by omega,by go_num,HF.out.1,HG.out,HF.out.2.1,HF.out.2.2⟩
   case measure=>simp [intOf];omega
  ·obtain rfl : k = q:=by omega
   rw [List.take_of_length_le (by rw [HQ.out];exact Nat.le_refl _),HE.out.1] at hen
   injection hen with hen
   subst hen
   have HF:=Lib.hid (And.intro hcl hch)
   clear hcl hrr hch c1
   go_wp2
   refine bodyPost_end (by first | rfl | (simp [results];rfl)) rfl ?_
   refine ⟨⟨_,rfl⟩,τr,?_,HF.out.2⟩
   rw [<- HE.out.2]
   exact HF.out.1
end Go.Proofs.Ytlhekbjidppijaa
namespace Go.Proofs.Ytlhekbjidppijaa
open Go.RowKit
def PNode.clear (p : PNode) : PNode:={ p with ms:=[],rs:=[] }
def PCl.back? (s : PCl) (i : Nat) (p : PNode) : Option PCl:=if p.ms.all fun m=>m.members.isEmpty then (s.setNode i p.clear).came? p.ms p.rs else none
abbrev NC (i : Nat) : Nat -> Prop:=NT (16 * (i - 1)) (16 * (i - 1) + 10)
theorem NC.ct {i x : Nat} (h5 : i <= 5) (h : NC i x) : CT x:=by unfold NC NT ST at h;unfold CT;omega
theorem far_nc {i : Nat} (h5 : i <= 5) : Far (16 * (i - 1)) (16 * (i - 1) + 10):=by unfold Far;omega
theorem back82 {w w' : World} {τ τ' : Own} {c i : Nat} {L : CL} {s s' : PCl} {p : PNode} {v : Value} (H : CluAt w τ c L s) (h1 : 1 <= i) (h5 : i <= s.n) (ho : OutIs w' τ' (16 * (i - 1)) (16 * (i - 1) + 10) (L.nd i) (L.dv i) (L.ck i) i v p) (hc : Chg (NC i) w τ w' τ') (ha : s.back? i p = some s') :
 Calls Tryz.prog 82 #[ptr c,v] w' fun e w2=>(∃ r,e = .returned r) /\ ∃ τ2,CluAt w2 τ2 c L s' /\ Chg CT w τ w2 τ2:=by
 have hn:=H.n5
 unfold PCl.back? at ha
 split at ha
 case isFalse=>cases ha
 rename_i hall
 obtain ⟨mv,pv,h,rfl,hN,hm,hr⟩:=ho.ex
 have hm' : ∀ m ∈ p.ms,m.members = []:=fun m hx=>by have:=List.all_eq_true.1 hall m hx;exact List.isEmpty_iff.1 this
 refine (came82 w' τ' c L (s.setNode i p.clear) s' (H.setN h1 h5 (p:=p.clear) hN rfl rfl hc fun _ h=>h) _ _ mv pv p.ms p.rs (Msgs.of_nrw hm hm') hr (by omega) (by omega) ha).mono ?_
 rintro e w2 ⟨hr,τ2,h2,hc2⟩
 exact ⟨hr,τ2,h2,(hc.mono fun x hx=>NC.ct (by omega) hx).trans hc2⟩
theorem CluAt.fits {w w' : World} {τ τ' : Own} {c i : Nat} {L : CL} {s : PCl} {T : Nat -> Prop} (H : CluAt w τ c L s) (h1 : 1 <= i) {p : PNode} (hp : s.nodes[i - 1]? = some p) (hc : Chg T w τ w' τ') (hT : ∀ x,T x -> ¬ CT x) : ∃ h,NodeAt w' τ' (16 * (i - 1)) (16 * (i - 1) + 10) (L.nd i) (L.dv i) (L.ck i) i p h:=by
 obtain ⟨a,b,h,hN⟩:=(H.keep hc hT).node i p h1 hp
 exact ⟨h,hN⟩
theorem not_nc_ck {i : Nat} (h5 : i <= 5) : ¬ NC i (16 * (i - 1) + 11):=by unfold NC NT ST;omega
theorem not_nc_y {i y : Nat} (h5 : i <= 5) (hy : 87 <= y % 96) : ¬ NC i y:=by unfold NC NT ST;omega
def PCl.hear? (s : PCl) (m : PMsg) : Option PCl:=
 if s.small && m.okB then
  if m.dst = 0 then
   if decide (m.kind = 1) && decide (1 <= m.src) && decide (m.src <= s.n) && decide (s.net.length + 1 < 300) && (grantM s.n 2 m.src m.tick).okB && s.cks[0]?.isSome then some { s with net:=s.net ++ [grantM s.n 2 m.src m.tick] } else none
  else match s.nodes[m.dst - 1]?,s.cks[m.dst]? with
   | some p,some k=>match p.step? m.dst k m with
    | some p'=>s.back? m.dst p'
    | none=>none
   | _,_=>none
 else none
def HrS (c : Nat) (a b : Value) (g : Nat) (m : PMsg) (vm : Value) (W : World) : Prop:=W.cell? ⟨c,27,none⟩ = some a /\ W.cell? ⟨c,0,none⟩ = some b /\ Blk W g 182 (msgV m vm).toArray
def HrT (c i : Nat) (a : Value) (g : Nat) (m : PMsg) (vm : Value) (W : World) : Prop:=W.cell? ⟨c,3 + i,none⟩ = some a /\ W.cell? ⟨g,2,none⟩ = some (.int .i64 (i : Int)) /\ Blk W g 182 (msgV m vm).toArray
set_option maxRecDepth 20000 in
set_option maxHeartbeats 2000000 in
theorem hears86 (w : World) (τ : Own) (c : Nat) (L : CL) (s s' : PCl) (H : CluAt w τ c L s) (tm : Nat) (m : PMsg) (vm : Value) (hm : Rw w τ tm 3 1 vm m.members.length (nnums m.members)) (htm : 87 <= tm % 96) (ha : s.hear? m = some s') :
 Calls Tryz.prog 86 #[ptr c,.agg (msgV m vm).toArray] w fun e w'=>(∃ r,e = .returned r) /\ ∃ τ',CluAt w' τ' c L s' /\ Chg CT w τ w' τ':=by
 unfold PCl.hear? at ha
 split at ha
 case isFalse=>cases ha
 rename_i hg
 simp only [Bool.and_eq_true] at hg
 have hok:=PMsg.okB_ok hg.2
 obtain ⟨y,hy1,hy2⟩:=fresh95 w τ
 obtain ⟨W1,hW1⟩ : ∃ W,W = w.alloc (.cells (msgV m vm).toArray 182):=⟨_,rfl⟩
 have hc1 : Chg (fun _=>False) w τ W1 (ext τ w y):=by rw [hW1];exact ((Chg.refl _ _ _).alloc _).ext _
 have hO1 : Has W1 (ext τ w y) y w.heap.size 182 (msgV m vm).toArray:=⟨by rw [hW1];exact Blk.new _ _ _,ext_new (Nat.le_refl _)⟩
 have H1:=H.keep hc1 fun _ h=>h.elim
 have hm1:=hm.keep hc1 id
 generalize ext τ w y = τ1 at hc1 hO1 H1 hm1
 have hcd : Chg (fun _=>False) W1 τ1 W1.drew τ1:=(Chg.refl _ _ _).drew
 have Hd:=H1.keep hcd fun _ h=>h.elim
 have hOd:=hO1.keep hcd id
 have hmd:=hm1.keep hcd id
 have hccd:=hc1.trans hcd
 have b2 : W1.cell? ⟨w.heap.size,2,none⟩ = some (.int .i64 (m.dst : Int)):=hO1.cell 2
 have HW1:=Lib.hid hW1
 have hn1:=H.n1
 have hn5:=H.n5
 split at ha
 ·rename_i hd
  split at ha
  case isFalse=>cases ha
  rename_i hcond
  simp only [Bool.and_eq_true,decide_eq_true_eq] at hcond
  obtain ⟨⟨⟨⟨⟨hk,hs1⟩,hs2⟩,hnl⟩,hgo⟩,hck⟩:=hcond
  obtain ⟨k0,hk0⟩:=Option.isSome_iff_exists.1 hck
  injection ha with ha
  have S1 : Hid (HrS c (ptr L.net) (ptr L.ctl) w.heap.size m vm W1.drew):=Lib.hid ⟨Hd.blk.cell 27,Hd.blk.cell 0,hOd.blk⟩
  have HSt:=Lib.hid (step115 W1.drew τ1 80 81 L.ctl L.cc s.n k0 Hd.ctl (Hd.ck0 k0 hk0) hn1 hn5 (by decide) m vm (by simp [upto];omega) hok hmd.nms hd hk)
  have HX:=Lib.hid (And.intro Hd (And.intro hOd (And.intro hccd (And.intro hy1 (And.intro hnl hgo)))))
  have HA:=Lib.hid ha
  have b2' : W1.cell? ⟨w.heap.size,2,none⟩ = some (.int .i64 0):=by rw [b2,hd];rfl
  clear H hm htm ha hg hok hy1 hy2 hW1 hc1 hO1 H1 hm1 hcd Hd hOd hmd hccd b2 hd hk hs1 hs2 hnl hgo hck hk0 hn1 hn5
  go_enter Tryz.func86,Tryz.ntmps86
  go_wp2_with (first | rw [<- HW1.out] | fail)
  refine wp_region_hl [9] [0,1,2,3,4,5,6,7,8,9] (HrS c (ptr L.net) (ptr L.ctl) w.heap.size m vm) (by kernel_rfl) (by kernel_rfl) S1.out ?_
  iterate 8 (refine hd_take (v:=?_) rfl rfl (by kernel_rfl) (fun W hW=>?_) ?_;rotate_left;(obtain ⟨r0,r1,-⟩:=hW;first | (go_simp;done) | (go_simp;with_reducible rfl)))
  refine hd_load 182 (.tmp 3) rfl rfl (by kernel_rfl) rfl (.pointer (some ⟨w.heap.size,0,none⟩)) (.agg (msgV m vm).toArray) (by go_simp) (fun W hW=>load_msg hW.2.2) ?_
  refine hd_loud rfl rfl fun K hK=>?_
  go_simp
  refine HSt.out.mono ?_
  rintro e w2 ⟨v2,τ2,rfl,hm2,hc2,hch2⟩
  have h2:=HX.out.1.setCtl hc2 hch2 (by rintro x (e | e) <;> omega)
  have hO2:=HX.out.2.1.keep hch2 (by have:=HX.out.2.2.2.1;show ¬ (y = 80 \/ y = 80 + 96);omega)
  have HSd:=Lib.hid (send80 w2 τ2 83 (80 + 192) L.net v2 s.net [grantM s.n 2 m.src m.tick] h2.net hm2 (fun q hq=>by rw [List.mem_singleton.1 hq];exact PMsg.okB_ok HX.out.2.2.2.2.2) HX.out.2.2.2.2.1 (by show ¬ (80 + 192 = 83 \/ 80 + 192 = 83 + 96 \/ 80 + 192 = 83 + 192);decide) (by show ¬ (80 + 192 + 96 = 83 \/ 80 + 192 + 96 = 83 + 96 \/ 80 + 192 + 96 = 83 + 192);decide))
  have S2 : Hid (HrS c (ptr L.net) (ptr L.ctl) w.heap.size m vm w2):=Lib.hid ⟨h2.blk.cell 27,h2.blk.cell 0,hO2.blk⟩
  have HY:=Lib.hid (And.intro h2 ((HX.out.2.2.1.mono (T':=CT) fun _ h=>h.elim).trans (hch2.mono (T':=CT) (by rintro x (e | e) <;> (unfold CT;omega)))))
  clear hm2 hc2 hch2 h2 hO2 HSt
  refine hK _ _ S2.out (hd_end ?_)
  clear hK
  simp only [List.length_cons,List.length_nil,List.drop_succ_cons,List.drop_zero,Nat.zero_add,Nat.reduceAdd]
  go_wp2_with (go_at_call 80;fail)
  refine HSd.out.mono ?_
  rintro e w3 ⟨⟨v3,rfl⟩,τ3,hn3,hc3⟩
  have HF:=Lib.hid (And.intro (HY.out.1.setNet hn3 hc3 (by rintro x (e | e | e) <;> omega)) (HY.out.2.trans (hc3.mono (T':=CT) (by rintro x (e | e | e) <;> (unfold CT;omega)))))
  clear hn3 hc3
  go_wp2
  refine bodyPost_ret (by first | exact results_none rfl _ _ _ | rfl) rfl ?_
  refine ⟨⟨_,rfl⟩,τ3,?_,HF.out.2⟩
  rw [<- HA.out]
  exact HF.out.1
 ·rename_i hd
  split at ha
  case h_2=>cases ha
  rename_i p k hp hk
  split at ha
  case h_2=>cases ha
  rename_i p' hp'
  have hpl:=(List.getElem?_eq_some_iff.1 hp).1
  have hlen:=H.len
  obtain ⟨i,hi⟩ : ∃ i,i = m.dst:=⟨_,rfl⟩
  rw [<- hi] at hp hk hp' ha hpl hd b2
  have hi1 : 1 <= i:=by omega
  have hin : i <= s.n:=by omega
  obtain ⟨h,hN⟩:=Hd.fits hi1 hp (Chg.refl (fun _=>False) W1.drew τ1) (fun _ h=>h.elim)
  have HSt:=Lib.hid (step116 W1.drew τ1 _ _ _ _ _ i _ k tm m vm p p' h hN (Hd.ck i k hi1 (by omega) hk) (far_nc (by omega)) (not_nc_ck (by omega)) hmd (not_nc_y (by omega) htm) hp')
  have hcell:=Hd.ndc hi1 (show i <= 5 by omega)
  unfold ndV at hcell
  rw [if_pos hin] at hcell
  have S1 : Hid (HrT c i (ptr (L.nd i)) w.heap.size m vm W1.drew):=Lib.hid ⟨hcell,by rw [hi];exact hOd.cell 2,hOd.blk⟩
  have HX:=Lib.hid (And.intro Hd (And.intro hOd (And.intro (hccd.mono (T':=CT) fun _ h=>h.elim) (And.intro hy1 (And.intro hi1 (And.intro hin hn5))))))
  have HA:=Lib.hid ha
  have k1 : (0 : Int) <= (i : Int):=by omega
  have k2 : (i : Int) < 6:=by omega
  have k3 : ¬ ((i : Int) = 0):=by omega
  have k4 : ((i : Int) == 0) = false:=by rw [beq_eq_false_iff_ne];omega
  have k5 : i < 6:=by omega
  clear H hm htm ha hg hok hy1 hy2 hW1 hc1 hO1 H1 hm1 hcd Hd hOd hmd hccd hd hp hk hp' hpl hlen hi hi1 hin hN hcell hn1 hn5
  go_enter Tryz.func86,Tryz.ntmps86
  go_wp2_with (first | rw [<- HW1.out] | fail)
  refine wp_region_hl [9] [0,1,2,3,4,5,6,7,8,9] (HrT c i (ptr (L.nd i)) w.heap.size m vm) (by kernel_rfl) (by kernel_rfl) S1.out ?_
  iterate 8 (refine hd_take (v:=?_) rfl rfl (by kernel_rfl) (fun W hW=>?_) ?_;rotate_left;(obtain ⟨r0,r1,-⟩:=hW;first | (go_simp;done) | (go_simp;with_reducible rfl)))
  refine hd_load 182 (.tmp 3) rfl rfl (by kernel_rfl) rfl (.pointer (some ⟨w.heap.size,0,none⟩)) (.agg (msgV m vm).toArray) (by go_simp) (fun W hW=>load_msg hW.2.2) ?_
  refine hd_loud rfl rfl fun K hK=>?_
  go_simp
  refine HSt.out.mono ?_
  rintro e w2 ⟨v2,τ2,rfl,ho2,hc2⟩
  have S2 : Hid (HrT c i (ptr (L.nd i)) w.heap.size m vm w2):=Lib.hid (by
   have hb:=HX.out.1.blk.keep hc2 (by have:=HX.out.2.2.2.2.2.2;have:=HX.out.2.2.2.2.2.1;unfold NT ST;omega)
   have ho:=HX.out.2.1.keep hc2 (not_nc_y (by have:=HX.out.2.2.2.2.2.2;have:=HX.out.2.2.2.2.2.1;omega) (by rw [HX.out.2.2.2.1];decide))
   have e1:=S1.out
   refine ⟨?_,?_,ho.blk⟩
   ·rw [hb.cell,<- HX.out.1.blk.cell];exact e1.1
   ·rw [ho.cell,<- HX.out.2.1.cell];exact e1.2.1)
  have HSd:=Lib.hid (back82 HX.out.1 HX.out.2.2.2.2.1 HX.out.2.2.2.2.2.1 ho2 hc2 HA.out)
  clear ho2 hc2 HSt
  refine hK _ _ S2.out (hd_end ?_)
  clear hK
  simp only [List.length_cons,List.length_nil,List.drop_succ_cons,List.drop_zero,Nat.zero_add,Nat.reduceAdd]
  go_wp2_with (go_at_call 82;fail)
  refine HSd.out.mono ?_
  rintro e w3 ⟨⟨v3,rfl⟩,τ3,h3,hc3⟩
  have HF:=Lib.hid (And.intro h3 (HX.out.2.2.1.trans hc3))
  clear h3 hc3
  go_wp2
  refine bodyPost_end (by first | rfl | (simp [results];rfl)) rfl ?_
  exact ⟨⟨_,rfl⟩,τ3,HF.out.1,HF.out.2⟩
end Go.Proofs.Ytlhekbjidppijaa
namespace Go.Proofs.Ytlhekbjidppijaa
open Go.RowKit
theorem beatNil (w : World) : Calls Tryz.prog 83 #[.pointer none] w fun e w'=>e = .returned (.agg #[.slice none 0 0,.slice none 0 0]) /\ Below w.heap.size w w':=by
 have hbw : ∀ W,W = (w.alloc (.cells #[.slice none 0 0,.slice none 0 0] 102)) -> Blk W w.heap.size 102 #[.slice none 0 0,.slice none 0 0] /\ Below w.heap.size w W:=fun W hW=>by rw [hW];exact ⟨Blk.new _ _ _,(Below.refl _ w).alloc (Nat.le_refl _) _⟩
 go_enter Tryz.func83,Tryz.ntmps83
 go_wp2
 refine bodyPost_ret (results_cell rfl _ _ _ ⟨w.heap.size,0,none⟩ (.agg #[.slice none 0 0,.slice none 0 0]) rfl ?_) rfl ?_
 ·exact loadVar_out (hbw _ rfl).1
 exact ⟨rfl,(hbw _ rfl).2⟩
def PCl.tick? (s : PCl) (i : Nat) : Option PCl:=
 if s.small && decide (i <= 5) && decide (s.net.length < 300) then
  match s.cks[i]? with
  | some k=>if k < 1099511627776 then
   if i = 0 then some { s with cks:=s.cks.set i (k + 1) }
   else match s.nodes[i - 1]? with
    | some p=>match p.beat? i (k + 1) with
     | some p'=>({ s with cks:=s.cks.set i (k + 1) } : PCl).back? i p'
     | none=>none
    | none=>some { s with cks:=s.cks.set i (k + 1) }
   else none
  | none=>none
 else none
def TicS (c : Nat) (a b : Value) (W : World) : Prop:=W.cell? ⟨c,27,none⟩ = some a /\ W.cell? ⟨c,0,none⟩ = some b
set_option maxRecDepth 20000 in
set_option maxHeartbeats 2000000 in
theorem tick63 (w : World) (τ : Own) (c : Nat) (L : CL) (s s' : PCl) (H : CluAt w τ c L s) (i : Nat) (ha : s.tick? i = some s') :
 Calls Tryz.prog 63 #[ptr c,.int .i64 (i : Int)] w fun e w'=>e = .returned (.int .i64 0) /\ ∃ τ',CluAt w' τ' c L s' /\ Chg CT w τ w' τ':=by
 unfold PCl.tick? at ha
 split at ha
 case isFalse=>cases ha
 rename_i hg
 simp only [PCl.small,Bool.and_eq_true,decide_eq_true_eq] at hg
 obtain ⟨⟨⟨ho,hlg⟩,hi5⟩,hnl⟩:=hg
 split at ha
 case h_2=>cases ha
 rename_i k hk
 split at ha
 case isFalse=>cases ha
 rename_i hkm
 have hck:=H.clk hi5 hk
 have HTk:=Lib.hid (tick79 w τ (ckTag i) (ckPos L i) k hck hkm)
 have hn5:=H.n5
 split at ha
 ·rename_i h0
  subst h0
  injection ha with ha
  have HA:=Lib.hid ha
  have HH:=Lib.hid H
  have c2 : w.cell? ⟨c,2,none⟩ = some (ptr L.cc):=H.blk.cell 2
  have HNL:=Lib.hid hnl
  unfold ckTag ckPos at HTk
  rw [if_pos rfl,if_pos rfl] at HTk
  clear H ha ho hlg hi5 hnl hk hkm hck hn5
  go_enter Tryz.func63,Tryz.ntmps63
  go_wp2_with (go_at_call 79;fail)
  refine HTk.out.mono ?_
  rintro e w2 ⟨rfl,hk2,hc2⟩
  have h2:=HH.out.setCk (i:=0) (by decide) hk2 hc2 (fun x h=>h)
  have hcd : Chg (fun _=>False) w2 τ w2.drew τ:=(Chg.refl _ _ _).drew
  have hd:=h2.keep hcd fun _ h=>h.elim
  have S1 : Hid (TicS c (ptr L.net) (ptr L.ctl) w2.drew):=Lib.hid ⟨hd.blk.cell 27,hd.blk.cell 0⟩
  have HB:=Lib.hid (beat81 w2.drew τ 80 L.ctl L.cc s.n hd.ctl)
  have HSd:=Lib.hid (send80 w2.drew τ 83 95 L.net (.slice none 0 0) s.net [] hd.net (Msgs.nil _ _ _) (fun _ h=>by cases h) (by simpa using HNL.out) (by show ¬ (95 = 83 \/ 95 = 83 + 96 \/ 95 = 83 + 192);decide) (by show ¬ (95 + 96 = 83 \/ 95 + 96 = 83 + 96 \/ 95 + 96 = 83 + 192);decide))
  have HX:=Lib.hid (And.intro hd ((hc2.mono (T':=CT) (by rintro x rfl;unfold CT;decide)).trans (hcd.mono fun _ h=>h.elim)))
  clear hk2 hc2 h2 hcd hd HTk HH
  go_wp2_with fail
  refine wp_region_hl [8] [0,1,2,3,4,5,6,7,8] (TicS c (ptr L.net) (ptr L.ctl)) (by kernel_rfl) (by kernel_rfl) S1.out ?_
  iterate 8 (refine hd_take (v:=?_) rfl rfl (by kernel_rfl) (fun W hW=>?_) ?_;rotate_left;(obtain ⟨r0,r1⟩:=hW;first | (go_simp;done) | (go_simp;with_reducible rfl)))
  refine hd_loud rfl rfl fun K hK=>?_
  go_simp
  refine HB.out.mono ?_
  rintro e w3 ⟨rfl,rfl⟩
  refine hK _ _ S1.out (hd_end ?_)
  clear hK
  simp only [List.length_cons,List.length_nil,List.drop_succ_cons,List.drop_zero,Nat.zero_add,Nat.reduceAdd]
  go_wp2_with (go_at_call 80;fail)
  refine HSd.out.mono ?_
  rintro e w3 ⟨⟨v3,rfl⟩,τ3,hn3,hc3⟩
  rw [List.append_nil] at hn3
  have HF:=Lib.hid (And.intro (HX.out.1.setNet hn3 hc3 (by rintro x (e | e | e) <;> omega)) (HX.out.2.trans (hc3.mono (T':=CT) (by rintro x (e | e | e) <;> (unfold CT;omega)))))
  clear hn3 hc3
  go_wp2
  go_ret
  refine ⟨rfl,τ3,?_,HF.out.2⟩
  rw [<- HA.out]
  exact HF.out.1
 ·rename_i h0
  have hi1 : 1 <= i:=by omega
  have c2:=H.ckc hi1 hi5
  have HH:=Lib.hid H
  have HI:=Lib.hid (And.intro hi1 (And.intro hi5 hn5))
  have k1 : (0 : Int) <= (i : Int):=by omega
  have k2 : (i : Int) < 6:=by omega
  have k3 : ¬ ((i : Int) = 0):=by omega
  have k4 : ((i : Int) == 0) = false:=by rw [beq_eq_false_iff_ne];omega
  have k5 : ¬ ((i : Int) < 0):=by omega
  have k6 : ¬ ((5 : Int) < (i : Int)):=by omega
  have k7 : i < 6:=by omega
  -- what the node's call gives
  have hB : ∀ w2 τ2,CluAt w2 τ2 c L { s with cks:=s.cks.set i (k + 1) } -> ∃ nv,w2.cell? ⟨c,3 + i,none⟩ = some nv /\ Calls Tryz.prog 83 #[nv] w2 fun e w3=>∃ v,e = .returned v /\ Calls Tryz.prog 82 #[ptr c,v] w3 fun e w4=>(∃ r,e = .returned r) /\ ∃ τ4,CluAt w4 τ4 c L s' /\ Chg CT w2 τ2 w4 τ4:=fun w2 τ2 h2=>by
   refine ⟨_,h2.ndc hi1 hi5,?_⟩
   have hlen:=h2.len
   dsimp only at hlen
   unfold ndV
   split at ha
   ·rename_i p hp
    have hpl:=(List.getElem?_eq_some_iff.1 hp).1
    rw [if_pos (show i <= s.n by omega)]
    split at ha
    case h_2=>cases ha
    rename_i p' hp'
    obtain ⟨-,-,h,hN⟩:=h2.node i p hi1 hp
    refine (beat83 w2 τ2 _ _ _ _ _ i _ (k + 1) p p' h hN (h2.ck i (k + 1) hi1 hi5 (by dsimp only;rw [List.getElem?_set_self (by have:=H.clen;omega)])) (far_nc hi5) (not_nc_ck hi5) hp').mono ?_
    rintro e w3 ⟨v,τ3,rfl,ho3,hc3⟩
    exact ⟨v,rfl,back82 h2 hi1 (show i <= s.n by omega) ho3 hc3 ha⟩
   ·rename_i hp
    have hpl:=List.getElem?_eq_none_iff.1 hp
    rw [if_neg (show ¬ i <= s.n by omega)]
    injection ha with ha
    refine (beatNil w2).mono ?_
    rintro e w3 ⟨rfl,hb⟩
    obtain ⟨τ3,h3,hc3⟩:=h2.below hb
    refine ⟨_,rfl,(came82 w3 τ3 c L _ s' h3 95 95 (.slice none 0 0) (.slice none 0 0) [] [] (Msgs.nil _ _ _) (Rw.nil _ _ _ _ _) (by decide) (by decide) ?_).mono ?_⟩
    ·unfold PCl.came?
     rw [if_pos (by simp [PCl.small,ho,hlg,hnl])]
     rw [<- ha]
     simp [endAll?]
    ·rintro e w4 ⟨hr,τ4,h4,hc4⟩
     exact ⟨hr,τ4,h4,(hc3.mono fun _ h=>h.elim).trans hc4⟩
  have HB:=Lib.hid hB
  unfold ckTag ckPos at HTk
  rw [if_neg h0,if_neg h0] at HTk
  have h0':=Lib.hid h0
  clear H ha ho hlg hnl hk hkm hck hn5 hB hi1 hi5 h0
  go_enter Tryz.func63,Tryz.ntmps63
  go_wp2_with (go_at_call 79;fail)
  refine HTk.out.mono ?_
  rintro e w2 ⟨rfl,hk2,hc2⟩
  have h2:=HH.out.setCk (i:=i) HI.out.2.1 (by unfold ckTag ckPos;rw [if_neg h0'.out,if_neg h0'.out];exact hk2) hc2 (fun x h=>by unfold ckTag;rw [if_neg h0'.out];exact h)
  obtain ⟨nv,hcell,hcall⟩:=HB.out w2 τ h2
  have HX:=Lib.hid (hc2.mono (T':=CT) (by have:=HI.out.2.1;rintro x rfl;unfold CT;omega))
  have HC:=Lib.hid hcall
  clear hk2 hc2 h2 hcall HTk HH HB
  go_wp2_with (go_at_call 83;fail)
  refine HC.out.mono ?_
  rintro e w3 ⟨v,rfl,hcall⟩
  have HC2:=Lib.hid hcall
  clear hcall HC
  go_wp2_with (go_at_call 82;fail)
  refine HC2.out.mono ?_
  rintro e w4 ⟨⟨r,rfl⟩,τ4,h4,hc4⟩
  have HF:=Lib.hid (And.intro h4 (HX.out.trans hc4))
  clear h4 hc4
  go_wp2
  go_ret
  exact ⟨rfl,τ4,HF.out.1,HF.out.2⟩
end Go.Proofs.Ytlhekbjidppijaa
namespace Go.Proofs.Ytlhekbjidppijaa
open Go.RowKit
set_option maxRecDepth 20000 in
theorem node24 (w : World) (τ : Own) (c : Nat) (L : CL) (s : PCl) (H : CluAt w τ c L s) (i : Nat) (h1 : 1 <= i) (h5 : i <= 5) :
 Calls Tryz.prog 24 #[ptr c,.int .i64 (i : Int)] w fun e w'=>e = .returned (ndV L s.n i) /\ w = w':=by
 have hc:=H.ndc h1 h5
 have k1 : (0 : Int) <= (i : Int):=by omega
 have k2 : (i : Int) < 6:=by omega
 have k5 : ¬ ((i : Int) < 1):=by omega
 have k6 : ¬ ((5 : Int) < (i : Int)):=by omega
 have k7 : i < 6:=by omega
 clear H h1 h5
 go_enter Tryz.func24,Tryz.ntmps24
 go_wp2
 go_ret
 exact ⟨rfl,rfl⟩
def PCl.read? (s : PCl) (i j : Nat) : Option PCl:=
 if s.small && decide (1 <= i) && decide (i <= 5) then
  match s.nodes[i - 1]?,s.cks[i]? with
  | some p,some k=>match p.reads[j]? with
   | some r=>match (if p.reads.length <= 1000 then p.read? i k j (atS s.org s.org.length r.w.key).1 (atS s.org s.org.length r.w.key).2 else none) with
    | some p'=>s.back? i p'
    | none=>none
   | none=>none
  | _,_=>none
 else none
def RcS (c b o j : Nat) (a : Value) (key : ByteArray) (W : World) : Prop:=W.cell? ⟨c,28,none⟩ = some a /\ W.cell? ⟨b,o + j,none⟩ = some (.string key)
set_option maxRecDepth 20000 in
set_option maxHeartbeats 2000000 in
theorem read65 (w : World) (τ : Own) (c : Nat) (L : CL) (s s' : PCl) (H : CluAt w τ c L s) (i j : Nat) (ha : s.read? i j = some s') :
 Calls Tryz.prog 65 #[ptr c,.int .i64 (i : Int),.int .i64 (j : Int)] w fun e w'=>e = .returned (.int .i64 0) /\ ∃ τ',CluAt w' τ' c L s' /\ Chg CT w τ w' τ':=by
 unfold PCl.read? at ha
 split at ha
 case isFalse=>cases ha
 rename_i hg
 simp only [PCl.small,Bool.and_eq_true,decide_eq_true_eq] at hg
 obtain ⟨⟨⟨ho,hlg⟩,h1⟩,h5⟩:=hg
 split at ha
 case h_2=>cases ha
 rename_i p k hp hk
 split at ha
 case h_2=>cases ha
 rename_i r hr
 split at ha
 case h_2=>cases ha
 rename_i p' hp'
 split at hp'
 case isFalse=>cases hp'
 rename_i hrl
 obtain ⟨y,hy1,hy2⟩:=fresh95 w τ
 have hpl:=(List.getElem?_eq_some_iff.1 hp).1
 have hlen:=H.len
 have hin : i <= s.n:=by omega
 obtain ⟨-,-,h,hN⟩:=H.node i p h1 hp
 have HNd:=Lib.hid (node24 w τ c L s H i h1 h5)
 have HRd:=Lib.hid (reads25 w τ _ _ _ _ _ i p h hN (by omega) hrl)
 have hjl:=(List.getElem?_eq_some_iff.1 hr).1
 have HX:=Lib.hid (And.intro H (And.intro ho (And.intro hy1 (And.intro h1 (And.intro h5 hin)))))
 have HP:=Lib.hid (And.intro hp (And.intro hk (And.intro hr (And.intro hp' ha))))
 have hnd : ndV L s.n i = ptr (L.nd i):=by unfold ndV;rw [if_pos hin]
 rw [hnd] at HNd
 have k1 : (0 : Int) <= (j : Int):=by omega
 have k2 : ¬ ((j : Int) < 0):=by omega
 have k3 : ¬ ((p.reads.length : Int) <= (j : Int)):=by omega
 have k4 : (j : Int) < (p.reads.length : Int):=by omega
 have k5 : ¬ (p.reads.length <= j):=by omega
 have HJ:=Lib.hid hjl
 clear H ha hp' hr hk hp h1 h5 ho hlg hy1 hrl hpl hlen hin hN hnd hjl hy2
 go_enter Tryz.func65,Tryz.ntmps65
 go_wp2_with (go_at_call 24;refine HNd.out.mono ?_;rintro e w' ⟨rfl,hw⟩;obtain rfl:=hw)
 go_wp2_with (go_at_call 25;fail)
 refine HRd.out.mono ?_
 rintro e w1 ⟨v1,rfl,ho1,hb1⟩
 have hc1 : Chg (fun _=>False) w τ w1.drew (ext τ w y):=(Chg.of_below hb1 y).drew
 have hrw : Rw w1.drew (ext τ w y) y 9 1 v1 p.reads.length (keysD p.reads):=(Rw.of_new ho1 (Nat.le_refl _) τ y).drewN 1
 have h1:=HX.out.1.keep hc1 fun _ h=>h.elim
 obtain ⟨A,ca,rfl,-,-,-,hs,-,-⟩:=hrw.slice
 obtain ⟨b,o,rfl,hcs⟩:=hs (by intro e;have:=congrArg List.length e;simp [keysD] at this;have hj:=HJ.out;rw [this] at hj;simp at hj)
 have hcj : w1.drew.cell? ⟨b,o + j,none⟩ = some (.string r.w.key):=hcs j _ (by unfold keysD;rw [List.getElem?_map,HP.out.2.2.1];rfl)
 have S1 : Hid (RcS c b o j (ptr L.org) r.w.key w1.drew):=Lib.hid ⟨h1.blk.cell 28,hcj⟩
 have HGt:=Lib.hid (get87 w1.drew _ 84 L.org s.org h1.org HX.out.2.1 r.w.key)
 have HY:=Lib.hid (And.intro h1 (hc1.mono (T':=CT) fun _ h=>h.elim))
 clear ho1 hb1 hc1 hrw h1 hs hcs hcj HRd HNd
 go_wp2_with fail
 refine wp_region_hl [8] [0,1,2,3,4,5,6,7,8,9,10,11,12] (RcS c b o j (ptr L.org) r.w.key) (by kernel_rfl) (by kernel_rfl) S1.out ?_
 iterate 8 (refine hd_take (v:=?_) rfl rfl (by kernel_rfl) (fun W hW=>?_) ?_;rotate_left;(obtain ⟨r0,r1⟩:=hW;first | (go_simp;done) | (go_simp;with_reducible rfl)))
 refine hd_loud rfl rfl fun K hK=>?_
 go_simp
 refine HGt.out.mono ?_
 rintro e w3 ⟨rfl,hb3⟩
 obtain ⟨τ3,h3,hc3⟩:=HY.out.1.below hb3
 have S3 : Hid (RcS c b o j (ptr L.org) r.w.key w3):=Lib.hid ⟨h3.blk.cell 28,by
  have hlt:=World.block_lt_of_cell? w1.drew ⟨b,o + j,none⟩ S1.out.2
  rw [<- S1.out.2];exact World.cell?_of_block (a:=⟨b,o + j,none⟩) (hb3.block b hlt)⟩
 have HZ:=Lib.hid (And.intro h3 (HY.out.2.trans (hc3.mono (T':=CT) fun _ h=>h.elim)))
 clear hb3 h3 hc3
 refine hK _ _ S3.out ?_
 clear hK
 iterate 3 (refine hd_take (v:=?_) rfl rfl (by kernel_rfl) (fun W hW=>?_) ?_;rotate_left;(first | (go_simp;done) | (go_simp;with_reducible rfl)))
 refine hd_take (v:=?_) rfl rfl (by kernel_rfl) (fun W hW=>?_) (hd_end ?_)
 rotate_left
 ·first | (go_simp;done) | (go_simp;with_reducible rfl)
 simp only [List.length_cons,List.length_nil,List.drop_succ_cons,List.drop_zero,Nat.zero_add,Nat.reduceAdd]
 have hcl:=HZ.out.1
 obtain ⟨-,-,h',hN'⟩:=hcl.node i p HX.out.2.2.2.1 HP.out.1
 have HRe:=Lib.hid (read88 w3 τ3 _ _ _ _ _ i _ k j _ _ p p' h' hN' (hcl.ck i k HX.out.2.2.2.1 HX.out.2.2.2.2.1 HP.out.2.1) (far_nc HX.out.2.2.2.2.1) (not_nc_ck HX.out.2.2.2.2.1) HP.out.2.2.2.1)
 clear hcl hN'
 go_wp2_with (go_at_call 88;fail)
 refine HRe.out.mono ?_
 rintro e w4 ⟨v4,τ4,rfl,ho4,hc4⟩
 have HBk:=Lib.hid (back82 HZ.out.1 HX.out.2.2.2.1 HX.out.2.2.2.2.2 ho4 hc4 HP.out.2.2.2.2)
 clear ho4 hc4
 go_wp2_with (go_at_call 82;fail)
 refine HBk.out.mono ?_
 rintro e w5 ⟨⟨v5,rfl⟩,τ5,h5,hc5⟩
 have HF:=Lib.hid (And.intro h5 (HZ.out.2.trans hc5))
 clear h5 hc5
 go_wp2
 go_ret
 exact ⟨rfl,τ5,HF.out.1,HF.out.2⟩
end Go.Proofs.Ytlhekbjidppijaa
namespace Go.Proofs.Ytlhekbjidppijaa
open Go.RowKit
def PCl.call? (s : PCl) (op i : Nat) (key : ByteArray) : Option PCl:=
 if s.small && decide (1 <= i) && decide (i <= 5) then
  match s.nodes[i - 1]?,s.cks[i]? with
  | some p,some k=>match p.ask? i k ⟨0,s.log.length + 1,op,key⟩ with
   | some p'=>({ s with log:=s.log ++ [⟨s.log.length + 1,op,key,i,s.org.length,0,false,⟨0,0,⟨#[]⟩,0,⟨#[]⟩,false⟩⟩] } : PCl).back? i p'
   | none=>none
  | _,_=>none
 else none
def CaS (c : Nat) (a b : Value) (W : World) : Prop:=W.cell? ⟨c,29,none⟩ = some a /\ W.cell? ⟨c,28,none⟩ = some b
set_option maxRecDepth 20000 in
set_option maxHeartbeats 2000000 in
theorem call67 (w : World) (τ : Own) (c : Nat) (L : CL) (s s' : PCl) (H : CluAt w τ c L s) (op i : Nat) (key : ByteArray) (ha : s.call? op i key = some s') :
 Calls Tryz.prog 67 #[ptr c,.int .i64 (op : Int),.int .i64 (i : Int),.string key] w fun e w'=>e = .returned (.int .i64 0) /\ ∃ τ',CluAt w' τ' c L s' /\ Chg CT w τ w' τ':=by
 unfold PCl.call? at ha
 split at ha
 case isFalse=>cases ha
 rename_i hg
 simp only [PCl.small,Bool.and_eq_true,decide_eq_true_eq] at hg
 obtain ⟨⟨⟨ho,hlg⟩,h1⟩,h5⟩:=hg
 split at ha
 case h_2=>cases ha
 rename_i p k hp hk
 split at ha
 case h_2=>cases ha
 rename_i p' hp'
 have hpl:=(List.getElem?_eq_some_iff.1 hp).1
 have hlen:=H.len
 have hin : i <= s.n:=by omega
 have HNd:=Lib.hid (node24 w τ c L s H i h1 h5)
 have hnd : ndV L s.n i = ptr (L.nd i):=by unfold ndV;rw [if_pos hin]
 rw [hnd] at HNd
 have hcd : Chg (fun _=>False) w τ w.drew τ:=(Chg.refl _ _ _).drew
 have hd:=H.keep hcd fun _ h=>h.elim
 have S1 : Hid (CaS c (ptr L.log) (ptr L.org) w.drew):=Lib.hid ⟨hd.blk.cell 29,hd.blk.cell 28⟩
 have HNo:=Lib.hid (now91 w.drew τ 84 L.org s.org hd.org)
 have HBe:=Lib.hid (begin90 w.drew τ 85 L.log op i s.org.length key s.log hd.log hlg)
 have HX:=Lib.hid (And.intro hd (And.intro (hcd.mono (T':=CT) fun _ h=>h.elim) (And.intro h1 (And.intro h5 (And.intro hin (And.intro hp (And.intro hk (And.intro hp' ha))))))))
 clear H ho hlg h1 h5 ha hp' hk hp hpl hlen hin hnd hcd hd
 go_enter Tryz.func67,Tryz.ntmps67
 go_wp2_with (go_at_call 24;refine HNd.out.mono ?_;rintro e w' ⟨rfl,hw⟩;obtain rfl:=hw)
 go_wp2_with fail
 refine wp_region_hl [13,14,17] [0,1,2,3,4,5,6,7,8,9,10,11,12,15,16,13,14,17] (CaS c (ptr L.log) (ptr L.org)) (by kernel_rfl) (by kernel_rfl) S1.out ?_
 iterate 15 (refine hd_take (v:=?_) rfl rfl (by kernel_rfl) (fun W hW=>?_) ?_;rotate_left;(obtain ⟨r0,r1⟩:=hW;first | (go_simp;done) | (go_simp;with_reducible rfl)))
 refine hd_loud rfl rfl fun K hK=>?_
 go_simp
 refine HNo.out.mono ?_
 rintro e w2 ⟨rfl,rfl⟩
 refine hK _ _ S1.out ?_
 clear hK
 refine hd_loud rfl rfl fun K hK=>?_
 go_simp
 refine HBe.out.mono ?_
 rintro e w2 ⟨rfl,τ2,hl2,hc2⟩
 have h2:=HX.out.1.setLog hl2 hc2 (by rintro x (e | e) <;> omega)
 have S2 : Hid (CaS c (ptr L.log) (ptr L.org) w2):=Lib.hid ⟨h2.blk.cell 29,h2.blk.cell 28⟩
 obtain ⟨-,-,h',hN'⟩:=h2.node i p HX.out.2.2.1 HX.out.2.2.2.2.2.1
 have HAs:=Lib.hid (ask89 w2 τ2 _ _ _ _ _ i _ k (s.log.length + 1) op key p p' h' hN' (h2.ck i k HX.out.2.2.1 HX.out.2.2.2.1 HX.out.2.2.2.2.2.2.1) (far_nc HX.out.2.2.2.1) (not_nc_ck HX.out.2.2.2.1) HX.out.2.2.2.2.2.2.2.1)
 have H2:=Lib.hid (And.intro h2 (HX.out.2.1.trans (hc2.mono (T':=CT) (by rintro x (e | e) <;> (unfold CT;omega)))))
 clear hl2 hc2 h2 hN' HBe HNo
 refine hK _ _ S2.out ?_
 clear hK
 refine hd_loud rfl rfl fun K hK=>?_
 go_simp
 refine HAs.out.mono ?_
 rintro e w3 ⟨v3,τ3,rfl,ho3,hc3⟩
 have HBk:=Lib.hid (back82 H2.out.1 HX.out.2.2.1 HX.out.2.2.2.2.1 ho3 hc3 HX.out.2.2.2.2.2.2.2.2)
 have S3 : Hid (CaS c (ptr L.log) (ptr L.org) w3):=Lib.hid (by
  have hb:=H2.out.1.blk.keep hc3 (by have:=HX.out.2.2.2.1;unfold NT ST;omega)
  exact ⟨hb.cell 29,hb.cell 28⟩)
 clear ho3 hc3 HAs
 refine hK _ _ S3.out (hd_end ?_)
 clear hK
 simp only [List.length_cons,List.length_nil,List.drop_succ_cons,List.drop_zero,Nat.zero_add,Nat.reduceAdd]
 go_wp2_with (go_at_call 82;fail)
 refine HBk.out.mono ?_
 rintro e w4 ⟨⟨v4,rfl⟩,τ4,h4,hc4⟩
 have HF:=Lib.hid (And.intro h4 (H2.out.2.trans hc4))
 clear h4 hc4
 go_wp2
 go_ret
 exact ⟨rfl,τ4,HF.out.1,HF.out.2⟩
end Go.Proofs.Ytlhekbjidppijaa
namespace Go.Proofs.Ytlhekbjidppijaa
open Go.RowKit
def PNode.new (fs : FS) (cnt tn : Nat) (m : MS) : PNode:=⟨fs,cnt,tn,m,0,0,0,none,[],[],[],0,[],[]⟩
set_option maxRecDepth 20000 in
theorem begin137 (w : World) (τ : Own) (ts n S d k i cnt tn : Nat) (fs : FS) (m : MS) (hS : StoreAt w τ ts S d fs cnt tn m) (hn : n < 95) :
 Calls Tryz.prog 137 #[.int .i64 (i : Int),.pointer (some ⟨S,0,none⟩),.int .i64 0,.pointer (some ⟨k,0,none⟩)] w fun e w'=>∃ N h τ',e = .returned (.tuple #[.pointer (some ⟨N,0,none⟩),.int .i64 0]) /\ NodeAt w' τ' ts n N d k i (PNode.new fs cnt tn m) h /\ Chg (fun _=>False) w τ w' τ':=by
 have HS:=Lib.hid hS
 have HT : Hid (∀ W τ',Calls Tryz.prog 183 #[] W fun e w'=>∃ T,e = .returned (.pointer (some ⟨T,0,none⟩)) /\ TokAt w' (ext τ' W (n + 672)) (n + 672) T [] /\ Below W.heap.size W w'):=Lib.hid fun W τ'=>tokNew W τ' (n + 672)
 clear hS
 go_enter Tryz.func137,Tryz.ntmps137
 go_wp2_with (go_at_call 182;fail)
 refine (lease182 w k).mono ?_
 rintro e w1 ⟨rfl,hw1⟩
 have hc1 : Chg (fun _=>False) w τ w1 (ext τ w (n + 576)):=by rw [hw1];exact ((Chg.refl _ _ _).alloc _).ext _
 have hl1 : LeaseAt w1 (ext τ w (n + 576)) (n + 576) w.heap.size k 0 0 0:=⟨by rw [hw1];exact Blk.new _ _ _,ext_new (Nat.le_refl _)⟩
 have HC1:=Lib.hid hc1
 have HL1:=Lib.hid hl1
 clear hc1 hl1 hw1
 go_wp2_with (go_at_call 183;fail)
 refine (HT.out w1 (ext τ w (n + 576))).mono ?_
 rintro e w2 ⟨T,rfl,ht,hb⟩
 have hc2 : Chg (fun _=>False) w1 (ext τ w (n + 576)) w2 (ext (ext τ w (n + 576)) w1 (n + 672)):=Chg.of_below hb _
 generalize hτ : ext (ext τ w (n + 576)) w1 (n + 672) = τ2 at ht hc2
 have HC2:=Lib.hid hc2
 have HT2:=Lib.hid ht
 clear ht hc2 hb hτ
 go_wp2
 go_ret2
 have hc3 (o : Obj) : Chg (fun _=>False) w2 τ2 (w2.alloc o) (ext τ2 w2 n):=((Chg.refl _ _ _).alloc o).ext n
 exact ⟨w2.heap.size,⟨S,w.heap.size,i,.pointer none,T,.slice none 0 0,.slice none 0 0,0⟩,ext τ2 w2 n,rfl,
  ⟨rfl,rfl,⟨_,_,⟨Blk.new _ _ _,ext_new (Nat.le_refl _)⟩,Rw.nil _ _ _ _ _,Rw.nil _ _ _ _ _⟩,HS.out.keep ((HC1.out.trans HC2.out).trans (hc3 _)) fun _ h=>h.elim,HL1.out.keep (HC2.out.trans (hc3 _)) id,HT2.out.keep (hc3 _) id,Rw.nil _ _ _ _ _,Rw.nil _ _ _ _ _,rfl⟩,
  (HC1.out.trans HC2.out).trans (hc3 _)⟩
set_option maxRecDepth 20000 in
theorem make103 (w : World) (τ : Own) (ts n d k i : Nat) (hD : DevAt w τ (ts + 9) d 1200 (fun _=>True)) (hlt : ts + 9 < 95) (hn : n < 95) (hi : 1 <= i) (hi5 : i <= 5) :
 Calls Tryz.prog 103 #[.int .i64 (i : Int),.pointer (some ⟨d,0,none⟩),.pointer (some ⟨k,0,none⟩)] w fun e w'=>∃ N h τ',e = .returned (.tuple #[.pointer (some ⟨N,0,none⟩),.int .i64 0]) /\ NodeAt w' τ' ts n N d k i (PNode.new FS.zero 0 2 ⟨1,0,0,false⟩) h /\ Chg (ST ts) w τ w' τ':=by
 have HM:=Lib.hid (make138 w τ ts d hD hlt)
 have k1 : ¬ ((i : Int) < 1):=by omega
 have k2 : ¬ ((5 : Int) < (i : Int)):=by omega
 clear hD
 go_enter Tryz.func103,Tryz.ntmps103
 go_wp2_with (go_at_call 138;fail)
 refine HM.out.mono ?_
 rintro e w1 ⟨S,τ1,rfl,hs,hc⟩
 have HB:=Lib.hid (begin137 w1 τ1 ts n S d k i 0 2 FS.zero ⟨1,0,0,false⟩ hs hn)
 have HC:=Lib.hid hc
 clear hs hc
 go_wp2_with (go_at_call 137;fail)
 refine HB.out.mono ?_
 rintro e w2 ⟨N,h,τ2,rfl,hN,hc2⟩
 have HF:=Lib.hid (And.intro hN (HC.out.trans (hc2.mono fun _ h=>h.elim)))
 clear hN hc2
 go_wp2
 go_ret2
 exact ⟨N,h,τ2,rfl,HF.out⟩
end Go.Proofs.Ytlhekbjidppijaa
