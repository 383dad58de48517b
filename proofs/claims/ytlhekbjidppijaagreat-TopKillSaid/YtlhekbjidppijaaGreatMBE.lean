/- Contracts of functions that the Top rows reach, and plain laws for them: what each returns and what it leaves in memory. Conditions: those that each theorem names. -/
import Derived.Test.YtlhekbjidppijaaGreatMAG
import Derived.Test.YtlhekbjidppijaaGreatMAH
import Derived.Test.YtlhekbjidppijaaGreatMAZ
import Derived.Test.YtlhekbjidppijaaGreatMBB
import Derived.Test.YtlhekbjidppijaaGreatMBD
set_option linter.unusedVariables false
set_option linter.unusedSimpArgs false
namespace Go.Proofs.Ytlhekbjidppijaa
open Go.RowKit
structure PWait where
 w : PWho
 id : Nat
 to : Nat
 when_ : Nat
structure PRead where
 w : PWho
 tok : Nat
def encT (x : PWait) : List Value:=[.int .i64 (x.w.node : Int),.int .i64 (x.w.id : Int),.int .i64 (x.w.op : Int),.string x.w.key,.int .i64 (x.id : Int),.int .i64 (x.to : Int),.int .i64 (x.when_ : Int)]
def encD (x : PRead) : List Value:=[.int .i64 (x.w.node : Int),.int .i64 (x.w.id : Int),.int .i64 (x.w.op : Int),.string x.w.key,.int .i64 (x.tok : Int)]
structure PNode where
 fs : FS
 cnt : Nat
 tn : Nat
 m : MS
 ep : Nat
 en : Nat
 top : Nat
 ring : Option (List Nat)
 toks : List TkS
 waits : List PWait
 reads : List PRead
 asked : Nat
 ms : List PMsg
 rs : List PReply
def RgAt (w : World) (τ : Own) (t : Nat) (v : Value) : Option (List Nat) -> Prop
 | none=>v = .pointer none
 | some ns=>∃ r,v = .pointer (some ⟨r,0,none⟩) /\ RingAt w τ t r 1 ns /\ NodesOk ns
theorem RgAt.keep {T : Nat -> Prop} {w w' : World} {τ τ' : Own} {t : Nat} {v : Value} {o : Option (List Nat)} (h : RgAt w τ t v o) (hc : Chg T w τ w' τ') (ht : ¬ T t) : RgAt w' τ' t v o:=by
 cases o with
 | none=>exact h
 | some ns=>obtain ⟨r,a,b,c⟩:=h;exact ⟨r,a,b.keep hc ht,c⟩
structure NodeAt (w : World) (τ : Own) (ts n N d k i : Nat) (s : PNode) (h : Hd) : Prop where
 id : h.id = i
 asked : h.asked = s.asked
 out : OutAt w τ n N h s.ms s.rs
 store : StoreAt w τ ts h.S d s.fs s.cnt s.tn s.m
 lease : LeaseAt w τ (n + 576) h.L k s.ep s.en s.top
 toks : TokAt w τ (n + 672) h.T s.toks
 waits : Rw w τ (n + 96) 212 7 h.wv s.waits.length (s.waits.flatMap encT)
 reads : Rw w τ (n + 192) 108 5 h.rv s.reads.length (s.reads.flatMap encD)
 ring : RgAt w τ (n + 768) h.rg s.ring
def NT (ts n x : Nat) : Prop:=ST ts x \/ x % 96 = n
theorem NodeAt.keep {T : Nat -> Prop} {w w' : World} {τ τ' : Own} {ts n N d k i : Nat} {s : PNode} {h : Hd} (H : NodeAt w τ ts n N d k i s h) (hc : Chg T w τ w' τ') (hn : n < 95) (hT : ∀ x,T x -> ¬ NT ts n x) : NodeAt w' τ' ts n N d k i s h:=by
 have k (x : Nat) (hx : x % 96 = n) : ¬ T x:=fun h=>hT x h (.inr hx)
 exact ⟨H.id,H.asked,H.out.keep hc (k _ (by omega)) (k _ (by omega)) (k _ (by omega)),H.store.keep hc fun x hx h=>hT x hx (.inl h),H.lease.keep hc (k _ (by omega)),H.toks.keep hc (k _ (by omega)),H.waits.keep hc (k _ (by omega)),H.reads.keep hc (k _ (by omega)),H.ring.keep hc (k _ (by omega))⟩
end Go.Proofs.Ytlhekbjidppijaa
namespace Go.Proofs.Ytlhekbjidppijaa
open Go.RowKit
theorem info9 : (Tryz.prog.info? 9).map (fun i=>(i.zero.map Value.cells,i.size,i.bytes)) = some (some #[.string ⟨#[]⟩],1,16):=by kernel_rfl
theorem encD_len (x : PRead) : (encD x).length = 5:=rfl
theorem sl_at {w : World} {t : TypeId} {xs : List Value} {g : Nat} (hg : g = w.heap.size) : Sl (w.alloc (.cells xs.toArray t)) (some ⟨g,0,none⟩) xs:=by
 subst hg
 exact (Blk.new w t _).sl
def keysD (l : List PRead) : List Value:=l.map fun x=>.string x.w.key
set_option maxRecDepth 20000 in
set_option maxHeartbeats 1000000 in
theorem reads25 (w : World) (τ : Own) (ts n N d k i : Nat) (s : PNode) (h : Hd) (H : NodeAt w τ ts n N d k i s h) (hn : n < 95) (hl : s.reads.length <= 1000) :
 Calls Tryz.prog 25 #[.pointer (some ⟨N,0,none⟩)] w fun e w'=>∃ v,e = .returned v /\ w'.ownsRow w.heap.size 9 1 v s.reads.length (keysD s.reads) /\ Below w.heap.size w w':=by
 obtain ⟨-,-,hout,-,-,-,-,hrd,-⟩:=H
 obtain ⟨mv,pv,hN,-,-⟩:=hout.ex
 obtain ⟨A,c,hrv,-,-,-,hs,hA,-⟩:=hrd.slice
 obtain ⟨y,hy1,hy2⟩:=fresh95 w τ
 have c10 : w.cell? ⟨N,10,none⟩ = some (.slice A s.reads.length c):=by rw [<- hrv];exact hN.cell 10
 have HC : Hid (∀ W τ',Chg (· = y) w τ W τ' -> ∀ q (hq : q < s.reads.length),∃ g o,A = some ⟨g,o,none⟩ /\ ∀ r v,(encD s.reads[q])[r]? = some v -> W.cell? ⟨g,o + (q * 5 + r),none⟩ = some v):=Lib.hid fun W τ' hc q hq=>by
  obtain ⟨A',c',e1,-,-,-,hs',-,-⟩:=(hrd.keep hc (by omega)).slice
  rw [hrv] at e1
  injection e1 with e1 _ _
  subst e1
  exact Sl.flat encD_len (by decide) hs' q hq
 have HY:=Lib.hid hy2
 obtain ⟨L,hL⟩ : ∃ L,L = s.reads:=⟨_,rfl⟩
 rw [<- hL] at HC c10 hl ⊢
 obtain ⟨m,hm⟩ : ∃ m,m = L.length:=⟨_,rfl⟩
 have HM:=Lib.hid hm
 rw [<- hm] at c10 hl
 clear hout hrd hN hrv hs hA hy1 hy2 hL hm
 go_enter Tryz.func25,Tryz.ntmps25
 go_wp2
 go_loopw [3,13] (fun l q wr=>∃ (j : Nat) (τr : Own),j <= m /\ q = .int .i64 (j : Int) /\ Rw wr τr y 9 1 l j (keysD (L.take j)) /\ Chg (· = y) w τ wr τr) (fun _ q _=>m - (intOf q).toNat)
 case atStart=>exact ⟨0,τ,Nat.zero_le _,rfl,by simpa [keysD] using Rw.nil w τ y 9 1,Chg.refl _ _ _⟩
 case round=>
  obtain ⟨j,τr,hj,rfl,hrw,hch⟩:=hrel
  obtain ⟨B,b,rfl⟩:=hrw.value
  have HR:=Lib.hid hrw
  have HB:=Lib.hid hch
  clear hrw hch
  by_cases hlt : j < m
  ·have hjl : j < L.length:=by rw [<- HM.out];exact hlt
   obtain ⟨g,o,rfl,hcs⟩:=HC.out wr τr HB.out j hjl
   have HT : Hid (keysD (L.take (j + 1)) = keysD (L.take j) ++ [.string L[j].w.key]):=Lib.hid (by rw [List.take_succ_eq_append_getElem hjl,keysD,List.map_append];rfl)
   generalize L[j] = x at hcs HT
   obtain ⟨⟨xn,xi,xo,xk⟩,xt⟩:=x
   have q0 : wr.cell? ⟨g,o + j * 5,none⟩ = some (.int .i64 (xn : Int)):=hcs 0 _ rfl
   have q1 : wr.cell? ⟨g,o + j * 5 + 1,none⟩ = some (.int .i64 (xi : Int)):=hcs 1 _ rfl
   have q2 : wr.cell? ⟨g,o + j * 5 + 2,none⟩ = some (.int .i64 (xo : Int)):=hcs 2 _ rfl
   have q3 : wr.cell? ⟨g,o + j * 5 + 3,none⟩ = some (.string xk):=hcs 3 _ rfl
   have q4 : wr.cell? ⟨g,o + j * 5 + 4,none⟩ = some (.int .i64 (xt : Int)):=hcs 4 _ rfl
   have k1 : (j : Int) < (m : Int):=by omega
   have k2 : (0 : Int) <= (j : Int):=by omega
   clear hcs c10
   go_wp2_with (at_builtin;refine wpl_app (news:=[.string xk]) rfl rfl τr y (by kernel_rfl) info9 rfl (by decide) (by decide) rfl ((HR.out.alloc _).alloc _) rfl rfl (sl_at (by simp)) (by simp [Value.oneCell']) (by omega) ?_)
   intro g2 cap2 w3 hr3 hc3 hg3
   have HR3:=Lib.hid hr3
   have HB3:=Lib.hid (((HB.out.alloc _).alloc _).trans hc3)
   clear hr3 hc3 hg3
   go_wp2
   go_roundw
   case rel=>exact ⟨j + 1,_,by omega,by go_num,by rw [HT.out];exact HR3.out,HB3.out⟩
   case measure=>simp [intOf];omega
  ·obtain rfl : j = m:=by omega
   have HF : Hid (wr.ownsRow w.heap.size 9 1 (.slice B j b) L.length (keysD L) /\ Below w.heap.size w wr):=Lib.hid (by
    have h1:=HR.out
    rw [List.take_of_length_le (by rw [HM.out];exact Nat.le_refl _)] at h1
    refine ⟨?_,HB.out.below_of _ (Nat.le_refl _) HY.out⟩
    have:=h1.base w.heap.size fun q hq=>by rw [HB.out.own q hq];exact HY.out q hq
    rwa [HM.out] at this ⊢)
   go_wp2
   go_ret
   exact ⟨_,rfl,HF.out⟩
end Go.Proofs.Ytlhekbjidppijaa
namespace Go.Proofs.Ytlhekbjidppijaa
open Go.RowKit
def Far (ts n : Nat) : Prop:=n < 95 /\ ts + 9 < 95 /\ (n < ts \/ ts + 9 < n)
theorem NodeAt.said {w w' : World} {τ τ' : Own} {ts n N d k i : Nat} {s : PNode} {h : Hd} {ms : List PMsg} {rs : List PReply} (H : NodeAt w τ ts n N d k i s h) (hf : Far ts n) (ho : OutAt w' τ' n N h ms rs) (hc : Chg (TO n) w τ w' τ') : NodeAt w' τ' ts n N d k i { s with ms:=ms,rs:=rs } h:=by
 obtain ⟨h1,h2,h3⟩:=hf
 have k (x : Nat) (hx : x % 96 = n) (h : x ≠ n /\ x ≠ n + 288 /\ x ≠ n + 480) : ¬ TO n x:=by rintro (e | e | e) <;> omega
 exact ⟨H.id,H.asked,ho,H.store.keep hc fun x hx h=>by unfold ST at h;rcases hx with e | e | e <;> omega,H.lease.keep hc (k _ (by omega) (by omega)),H.toks.keep hc (k _ (by omega) (by omega)),H.waits.keep hc (k _ (by omega) (by omega)),H.reads.keep hc (k _ (by omega) (by omega)),H.ring.keep hc (k _ (by omega) (by omega))⟩
def PNode.tell (s : PNode) (i : Nat) (x : PWho) (err : Nat) (val : ByteArray) (has : Bool) : PNode:={ s with ms:=tellMs i x err val has s.ms,rs:=tellRs x err val has s.rs }
theorem nodeTell (w : World) (τ : Own) (ts n N d k i : Nat) (s : PNode) (h : Hd) (H : NodeAt w τ ts n N d k i s h) (hf : Far ts n) (hl : s.ms.length <= 1000) (hl2 : s.rs.length <= 1000) (x : PWho) (err : Nat) (val : ByteArray) (has : Bool) :
 Calls Tryz.prog 112 #[.pointer (some ⟨N,0,none⟩),.agg (encW x).toArray,.int .i64 (err : Int),.string val,.bool has] w fun e w'=>(∃ r,e = .returned r) /\ ∃ τ',NodeAt w' τ' ts n N d k i (s.tell i x err val has) h /\ Chg (TO n) w τ w' τ':=by
 refine (tell112 w τ n N h s.ms s.rs H.out hl hl2 x err val has).mono ?_
 rintro e w' ⟨hr,τ',a,b⟩
 rw [H.id] at a
 exact ⟨hr,τ',H.said hf a b,b⟩
theorem nodeSay (w : World) (τ : Own) (ts n N d k i : Nat) (s : PNode) (h : Hd) (H : NodeAt w τ ts n N d k i s h) (hf : Far ts n) (hl : s.ms.length <= 1000) (b c : Nat) (m : PMsg) (hb : Blk w b 182 (encN m).toArray) (hτ : ¬ TO n (τ b)) :
 Calls Tryz.prog 109 #[.pointer (some ⟨N,0,none⟩),.slice (some ⟨b,0,none⟩) 1 c] w fun e w'=>(∃ r,e = .returned r) /\ ∃ τ',NodeAt w' τ' ts n N d k i { s with ms:=s.ms ++ [{ m with src:=i }] } h /\ Chg (TO n) w τ w' τ':=by
 refine (say109 w τ n N h s.ms s.rs H.out hl b c m hb hτ).mono ?_
 rintro e w' ⟨hr,τ',a,b⟩
 rw [H.id] at a
 exact ⟨hr,τ',H.said hf a b,b⟩
theorem nodeDid (w : World) (τ : Own) (ts n N d k i : Nat) (s : PNode) (h : Hd) (H : NodeAt w τ ts n N d k i s h) (hf : Far ts n) :
 Calls Tryz.prog 113 #[.pointer (some ⟨N,0,none⟩)] w fun e w'=>∃ mv pv,e = .returned (.agg #[mv,pv]) /\ NodeAt w' τ ts n N d k i { s with ms:=[],rs:=[] } h /\ NRw w' τ (n + 288) mv s.ms /\ RRw w' τ (n + 480) pv s.rs /\ Chg (· = n) w τ w' τ:=by
 refine (did113 w τ n N h s.ms s.rs H.out).mono ?_
 rintro e w' ⟨mv,pv,rfl,a,b,c,hc⟩
 exact ⟨mv,pv,rfl,H.said hf a (hc.mono fun x h=>.inl h),b,c,hc⟩
theorem encT_len (x : PWait) : (encT x).length = 7:=rfl
def isAns (m : PMsg) (x : PWait) : Bool:=decide (x.to = m.src) && decide (x.id = m.id)
set_option maxRecDepth 20000 in
theorem ans209 (w : World) (B : Nat) (m : PMsg) (vm : Value) (hB : Blk w B 182 (msgV m vm).toArray) (x : PWait) :
 Calls Tryz.prog 209 #[.agg (encT x).toArray,.pointer (some ⟨B,0,none⟩)] w fun e w'=>e = .returned (.bool (isAns m x)) /\ Below w.heap.size w w':=by
 have hlt:=hB.lt
 have b1:=(hB.alloc (.cells (encT x).toArray 212)).cell 1
 have b7:=(hB.alloc (.cells (encT x).toArray 212)).cell 7
 have hX : Blk (w.alloc (.cells (encT x).toArray 212)) w.heap.size 212 (encT x).toArray:=Blk.new _ _ _
 have x4:=hX.cell 4
 have x5:=hX.cell 5
 unfold encT at x4 x5
 unfold msgV at b1 b7
 obtain ⟨W,hW⟩ : ∃ W,W = w.alloc (.cells (encT x).toArray 212):=⟨_,rfl⟩
 have HB : Hid (Below w.heap.size w W):=Lib.hid (by rw [hW];exact (Below.refl _ w).alloc (Nat.le_refl _) _)
 unfold encT at hW b1 b7
 rw [<- hW] at b1 b7 x4 x5
 have HW:=Lib.hid hW
 clear hW hX hB
 unfold encT
 have HI : Hid (isAns m x = (decide (x.to = m.src) && decide (x.id = m.id))):=Lib.hid rfl
 by_cases h1 : x.to = m.src
 ·have e1 : ((x.to : Int) == (m.src : Int)) = true:=by rw [beq_iff_eq];omega
  by_cases h2 : x.id = m.id
  ·have e2 : ((x.id : Int) == (m.id : Int)) = true:=by rw [beq_iff_eq];omega
   have HI2 : Hid (isAns m x = true):=Lib.hid (by rw [HI.out];simp [h1,h2])
   clear h1 h2 HI
   go_enter Tryz.func209,Tryz.ntmps209
   go_wp2_with (rw [<- HW.out])
   go_ret
   exact ⟨by rw [HI2.out];rfl,HB.out⟩
  ·have e2 : ((x.id : Int) == (m.id : Int)) = false:=by rw [beq_eq_false_iff_ne];omega
   have HI2 : Hid (isAns m x = false):=Lib.hid (by rw [HI.out];simp [h2])
   clear h1 h2 HI
   go_enter Tryz.func209,Tryz.ntmps209
   go_wp2_with (rw [<- HW.out])
   go_ret
   exact ⟨by rw [HI2.out];rfl,HB.out⟩
 ·have e1 : ((x.to : Int) == (m.src : Int)) = false:=by rw [beq_eq_false_iff_ne];omega
  have HI2 : Hid (isAns m x = false):=Lib.hid (by rw [HI.out];simp [h1])
  clear h1 HI
  go_enter Tryz.func209,Tryz.ntmps209
  go_wp2_with (rw [<- HW.out])
  go_ret
  exact ⟨by rw [HI2.out];rfl,HB.out⟩
set_option maxRecDepth 20000 in
theorem idx208 (w : World) (B : Nat) (m : PMsg) (vm : Value) (hB : Blk w B 182 (msgV m vm).toArray) (A : Option Addr) (n c : Nat) (L : List PWait) (hs : Sl w A (L.flatMap encT)) (hn : L.length = n) (hm : n <= 1000) :
 Calls Tryz.prog 208 #[.slice A n c,.func (.func 209) #[] #[.pointer (some ⟨B,0,none⟩)]] w fun e w'=>(∃ q : Int,e = .returned (.int .i64 q) /\ ((∃ p,∃ h : p < L.length,q = (p : Int) /\ isAns m L[p] = true /\ ∀ j (h : j < L.length),j < p -> isAns m L[j] = false) \/ (q = -1 /\ ∀ j (h : j < L.length),isAns m L[j] = false))) /\ Below w.heap.size w w':=by
 have HA : Hid (∀ W x,Below w.heap.size w W -> Calls Tryz.prog 209 #[.agg (encT x).toArray,.pointer (some ⟨B,0,none⟩)] W fun e w'=>e = .returned (.bool (isAns m x)) /\ Below W.heap.size W w'):=Lib.hid fun W x hb=>ans209 W B m vm (hB.below hb hB.lt) x
 have HC : Hid (∀ W,Below w.heap.size w W -> ∀ q (hq : q < L.length),∃ g o,A = some ⟨g,o,none⟩ /\ (Instr.loadAt 212 (.pointer (some ⟨g,o + q * 7,none⟩))).run Tryz.prog W = .ok (.agg (encT L[q]).toArray) W):=Lib.hid fun W hb q hq=>by
  obtain ⟨g,o,rfl,hc⟩:=Sl.flat encT_len (by decide) (hs.keep hb) q hq
  exact ⟨g,o,rfl,run_loadAgg W 212 g (o + q * 7) (encT L[q]) 7 (by kernel_rfl) (by kernel_rfl) rfl fun j v hj=>by rw [Nat.add_assoc];exact hc j v hj⟩
 clear hs hB
 go_enter Tryz.func208,Tryz.ntmps208
 go_wp2
 go_loopw [8] (fun i wr=>∃ p : Nat,p <= n /\ i = .int .i64 (p : Int) /\ Below w.heap.size w wr /\ ∀ j (h : j < L.length),j < p -> isAns m L[j] = false) (fun i _=>n - (intOf i).toNat)
 case atStart=>exact ⟨0,Nat.zero_le _,rfl,Below.refl _ _,fun j _ h=>absurd h (Nat.not_lt_zero _)⟩
 case round=>
  obtain ⟨p,hp,rfl,hbl,hno⟩:=hrel
  have HB:=Lib.hid hbl
  have HN:=Lib.hid hno
  clear hbl hno
  by_cases hlt : p < n
  ·have hpl : p < L.length:=by omega
   obtain ⟨g,o,rfl,hload⟩:=HC.out wr HB.out p hpl
   have HLd:=Lib.hid hload
   have HCl:=Lib.hid (HA.out wr L[p] HB.out)
   have k1 : (p : Int) < (n : Int):=by omega
   have k2 : (0 : Int) <= (p : Int):=by omega
   clear hload
   cases ha : isAns m L[p] with
   | true=>
    rw [ha] at HCl
    have HF : Hid (∃ p',∃ h : p' < L.length,(p : Int) = (p' : Int) /\ isAns m L[p'] = true /\ ∀ j (h : j < L.length),j < p' -> isAns m L[j] = false):=Lib.hid ⟨p,hpl,rfl,ha,HN.out⟩
    clear ha
    go_wp2_with (first | (refine wpl_lq 212 _ rfl ?_;refine lq _ _ _ _ rfl (by kernel_rfl) HLd.out ?_) | (go_at_call 209;fail))
    refine HCl.out.mono ?_
    rintro e w2 ⟨rfl,hb2⟩
    have HB2:=Lib.hid (HB.out.trans (hb2.mono HB.out.size))
    clear hb2
    go_wp2
    go_ret
    exact ⟨⟨_,rfl,.inl HF.out⟩,HB2.out⟩
   | false=>
    rw [ha] at HCl
    have HF : Hid (∀ j (h : j < L.length),j < p + 1 -> isAns m L[j] = false):=Lib.hid fun j h hj=>by
     by_cases e : j = p
     ·subst e;exact ha
     ·exact HN.out j h (by omega)
    clear ha
    go_wp2_with (first | (refine wpl_lq 212 _ rfl ?_;refine lq _ _ _ _ rfl (by kernel_rfl) HLd.out ?_) | (go_at_call 209;fail))
    refine HCl.out.mono ?_
    rintro e w2 ⟨rfl,hb2⟩
    have HB2:=Lib.hid (HB.out.trans (hb2.mono HB.out.size))
    clear hb2
    go_wp2
    go_roundw
    case rel=>exact ⟨p + 1,by omega,by go_num,HB2.out,HF.out⟩
    case measure=>simp [intOf];omega
  ·obtain rfl : p = n:=by omega
   have HF : Hid (∀ j (h : j < L.length),isAns m L[j] = false):=Lib.hid fun j h=>HN.out j h (by omega)
   go_wp2
   go_ret
   exact ⟨⟨_,rfl,.inr ⟨rfl,HF.out⟩⟩,HB.out⟩
end Go.Proofs.Ytlhekbjidppijaa
namespace Go.Proofs.Ytlhekbjidppijaa
open Go.RowKit
def ansErr (m : PMsg) : Nat:=if m.err = 7 then 6 else m.err
def ansHas (m : PMsg) (x : PWho) : Bool:=decide (ansErr m = 0) && decide (x.op = 1) && decide (m.ik.size ≠ 0) && !m.ig
def ansVal (m : PMsg) (x : PWho) : ByteArray:=if ansHas m x then m.iv else ⟨#[]⟩
theorem encT_one (x : PWait) : ∀ u ∈ encT x,u.oneCell' = true:=by
 intro u hu
 simp only [encT,List.mem_cons,List.not_mem_nil,or_false] at hu
 rcases hu with rfl | rfl | rfl | rfl | rfl | rfl | rfl <;> rfl
theorem NodeAt.setWaits {w w' W : World} {τ : Own} {ts n N d k i : Nat} {s : PNode} {h : Hd} {v : Value} {L : List PWait} (H : NodeAt w τ ts n N d k i s h) (hf : Far ts n) (hr : Rw w' τ (n + 96) 212 7 v L.length (L.flatMap encT)) (hc : Chg (· = n + 96) w τ w' τ) (hW : W = w'.setCell ⟨N,9,none⟩ v) :
 NodeAt W τ ts n N d k i { s with waits:=L } { h with wv:=v } /\ Chg (fun x=>x = n \/ x = n + 96) w τ W τ:=by
 obtain ⟨h1,h2,h3⟩:=hf
 obtain ⟨mv,pv,hN,hm,hp⟩:=H.out.ex
 have hN':=hN.keep hc (by omega)
 have hc2 : Chg (· = n) w' τ W τ:=by rw [hW];exact (Chg.refl _ _ _).setCell (p:=⟨N,9,none⟩) hN'.own _
 have hcc : Chg (fun x=>x = n \/ x = n + 96) w τ W τ:=(hc.mono fun x h=>.inr h).trans (hc2.mono fun x h=>.inl h)
 have kk (x : Nat) (h : x ≠ n /\ x ≠ n + 96) : ¬ (x = n \/ x = n + 96):=by rintro (e | e) <;> omega
 refine ⟨⟨H.id,H.asked,⟨mv,pv,by rw [hW];exact hN'.set_ 9 v,hm.keep hcc (kk _ (by omega)),hp.keep hcc (kk _ (by omega))⟩,H.store.keep hcc fun x hx h=>by unfold ST at h;rcases hx with e | e <;> omega,H.lease.keep hcc (kk _ (by omega)),H.toks.keep hcc (kk _ (by omega)),hr.keep hc2 (by omega),H.reads.keep hcc (kk _ (by omega)),H.ring.keep hcc (kk _ (by omega))⟩,hcc⟩
set_option maxRecDepth 20000 in
set_option maxHeartbeats 1000000 in
theorem answerHit (w : World) (τ : Own) (ts n N d k i : Nat) (s : PNode) (h : Hd) (H : NodeAt w τ ts n N d k i s h) (hf : Far ts n) (hl : s.ms.length <= 1000) (hl2 : s.rs.length <= 1000) (hlw : s.waits.length <= 1000) (m : PMsg) (vm : Value)
 (p : Nat) (hp : p < s.waits.length) (hpa : isAns m s.waits[p] = true) (hpn : ∀ j (h : j < s.waits.length),j < p -> isAns m s.waits[j] = false) :
 Calls Tryz.prog 159 #[.pointer (some ⟨N,0,none⟩),.agg (msgV m vm).toArray] w fun e w'=>(∃ r,e = .returned r) /\ ∃ h' τ',NodeAt w' τ' ts n N d k i ({ s with waits:=s.waits.take p ++ s.waits.drop (p + 1) }.tell i s.waits[p].w (ansErr m) (ansVal m s.waits[p].w) (ansHas m s.waits[p].w)) h' /\ Chg (fun x=>x % 96 = n) w τ w' τ':=by
 obtain ⟨W0,hW0⟩ : ∃ W,W = w.alloc (.cells (msgV m vm).toArray 182):=⟨_,rfl⟩
 have hB0 : Blk W0 w.heap.size 182 (msgV m vm).toArray:=by rw [hW0];exact Blk.new _ _ _
 have HNw : Hid (N < w.heap.size):=Lib.hid (by obtain ⟨mv,pv,hN,-,-⟩:=H.out.ex;exact hN.lt)
 have hc0 : Chg (fun _=>False) w τ W0 (ext τ w (n + 864)):=by rw [hW0];exact ((Chg.refl _ _ _).alloc _).ext _
 have hN0:=H.keep hc0 hf.1 (fun _ h=>h.elim)
 obtain ⟨A,c,hwv,-,-,-,hs,-,-⟩:=hN0.waits.slice
 have HI:=Lib.hid (idx208 W0 w.heap.size m vm hB0 A s.waits.length c s.waits hs rfl hlw)
 obtain ⟨mv,pv,hNb,-,-⟩:=hN0.out.ex
 have c9 : W0.cell? ⟨N,9,none⟩ = some (.slice A s.waits.length c):=by rw [<- hwv];exact hNb.cell 9
 have hmf : ∀ fn first cap w,(Instr.makeFunc fn first cap).run Tryz.prog w = .ok (.func fn first cap) w:=fun _ _ _ _=>rfl
 have HB0:=Lib.hid hB0
 have HC0:=Lib.hid hc0
 have HN0:=Lib.hid hN0
 have HW:=Lib.hid hW0
 have HWV:=Lib.hid hwv
 have HF:=Lib.hid hf
 have HPA:=Lib.hid (And.intro hpa hpn)
 clear H hf hB0 hc0 hN0 hs hNb hW0 hwv hpa hpn
 go_enter Tryz.func159,Tryz.ntmps159
 go_wp2_with (first | (rw [<- HW.out]) | (go_at_call 208;fail))
 refine HI.out.mono ?_
 rintro e w1 ⟨⟨q,rfl,hq⟩,hb1⟩
 obtain rfl : q = (p : Int):=by
  obtain ⟨g1,g2⟩:=HPA.out
  rcases hq with ⟨p',hp',rfl,g3,g4⟩ | ⟨rfl,g3⟩
  ·rcases Nat.lt_trichotomy p p' with h | rfl | h
   ·rw [g4 p hp h] at g1;cases g1
   ·rfl
   ·rw [g2 p' hp' h] at g3;cases g3
  ·rw [g3 p hp] at g1;cases g1
 have hc01 : Chg (fun _=>False) W0 (ext τ w (n + 864)) w1 (ext (ext τ w (n + 864)) W0 (n + 864)):=Chg.of_below hb1 _
 generalize ext (ext τ w (n + 864)) W0 (n + 864) = τ1 at hc01
 have hN1:=HN0.out.keep hc01 HF.out.1 (fun _ h=>h.elim)
 have hB1 : Has w1 τ1 (n + 864) w.heap.size 182 (msgV m vm).toArray:=Has.keep ⟨HB0.out,ext_new (Nat.le_refl _)⟩ hc01 id
 obtain ⟨A',c',hwv',-,-,-,hs,-,-⟩:=hN1.waits.slice
 obtain ⟨rfl,rfl⟩ : A' = A /\ c' = c:=by
  have e:=hwv'.symm.trans HWV.out
  injection e with e1 _ e2
  exact ⟨e1,e2⟩
 obtain ⟨g,o,rfl,hcs⟩:=Sl.flat encT_len (by decide) hs p hp
 obtain ⟨x,hx⟩ : ∃ x,x = s.waits[p]:=⟨_,rfl⟩
 rw [<- hx] at hcs
 have q0 : w1.cell? ⟨g,o + p * 7,none⟩ = some (.int .i64 (x.w.node : Int)):=hcs 0 _ rfl
 have q1 : w1.cell? ⟨g,o + p * 7 + 1,none⟩ = some (.int .i64 (x.w.id : Int)):=hcs 1 _ rfl
 have q2 : w1.cell? ⟨g,o + p * 7 + 2,none⟩ = some (.int .i64 (x.w.op : Int)):=hcs 2 _ rfl
 have q3 : w1.cell? ⟨g,o + p * 7 + 3,none⟩ = some (.string x.w.key):=hcs 3 _ rfl
 obtain ⟨mv1,pv1,hNb,-,-⟩:=hN1.out.ex
 have d9 : w1.cell? ⟨N,9,none⟩ = some (.slice (some ⟨g,o,none⟩) s.waits.length c'):=by rw [<- hwv'];exact hNb.cell 9
 have hNl:=hNb.lt
 have HX:=Lib.hid hx
 have HN1:=Lib.hid hN1
 have HB1:=Lib.hid hB1
 have HWV1:=Lib.hid hwv'
 have HC1:=Lib.hid (HC0.out.trans hc01)
 have k1 : ¬ ((p : Int) < 0):=by omega
 have k2 : (p : Int) < (s.waits.length : Int):=by omega
 have k3 : (0 : Int) <= (p : Int):=by omega
 have k4 : (p : Int) <= 1000:=by omega
 clear hc01 hN1 hB1 hs hcs hNb hx hb1 hq HI HN0 HB0 HC0 c9 hwv'
 go_wp2_with (go_at_call 210;fail)
 have hc12 : Chg (fun _=>False) w1 τ1 (w1.alloc (.cells #[.int .i64 (x.w.node : Int),.int .i64 (x.w.id : Int),.int .i64 (x.w.op : Int),.string x.w.key] 106)) (ext τ1 w1 (n + 864)):=((Chg.refl _ _ _).alloc _).ext _
 have hN2:=HN1.out.keep hc12 HF.out.1 (fun _ h=>h.elim)
 have hr2:=hN2.waits
 rw [HWV1.out] at hr2
 refine (del210 _ (ext τ1 w1 (n + 864)) (n + 96) _ s.waits.length p _ hr2 hp (by omega) (flat_one encT_one _)).mono ?_
 rintro e w3 ⟨v3,rfl,hr3,hc3⟩
 obtain ⟨A3,c3,rfl,-⟩:=hr3.slice
 rw [flat_take encT_len,flat_drop encT_len,<- List.flatMap_append] at hr3
 obtain ⟨L2,hL2⟩ : ∃ L2,L2 = s.waits.take p ++ s.waits.drop (p + 1):=⟨_,rfl⟩
 have hlen2 : s.waits.length - 1 = L2.length:=by rw [hL2];simp;omega
 rw [<- hL2,hlen2] at hr3
 rw [hlen2]
 obtain ⟨W4,hW4⟩ : ∃ W,W = w3.setCell ⟨N,9,none⟩ (.slice A3 L2.length c3):=⟨_,rfl⟩
 obtain ⟨hN4,hc4⟩:=hN2.setWaits HF.out hr3 hc3 hW4
 obtain ⟨mv2,pv2,hNb2,-,-⟩:=(hN2.out.ex)
 have hNb3:=hNb2.keep hc3 (by omega)
 have e9:=hNb3.cell 9
 have g9:=hNb3.frozen 9
 have hw : w.heap.size < w1.heap.size:=HB1.out.lt
 have hne1 : N ≠ w.heap.size:=fun e=>by have:=HNw.out;omega
 have hne2 : N ≠ w1.heap.size:=by omega
 have hn95:=HF.out.1
 have HC4 : Hid (Chg (fun x=>x % 96 = n) w τ W4 (ext τ1 w1 (n + 864))):=Lib.hid (((HC1.out.trans hc12).mono fun _ h=>h.elim).trans (hc4.mono fun x h=>by rcases h with e | e <;> omega))
 have HT : Hid (∀ (err : Nat) (val : ByteArray) (has : Bool),Calls Tryz.prog 112 #[.pointer (some ⟨N,0,none⟩),.agg (encW x.w).toArray,.int .i64 (err : Int),.string val,.bool has] W4 fun e w'=>(∃ r,e = .returned r) /\ ∃ τ',NodeAt w' τ' ts n N d k i (({ s with waits:=L2 } : PNode).tell i x.w err val has) _ /\ Chg (TO n) W4 (ext τ1 w1 (n + 864)) w' τ'):=Lib.hid fun err val has=>nodeTell W4 (ext τ1 w1 (n + 864)) ts n N d k i _ _ hN4 HF.out hl hl2 x.w err val has
 have HL2:=Lib.hid hL2
 have hB3:=(HB1.out.keep hc12 id).keep hc3 (by omega)
 have hX3 : Has w3 (ext τ1 w1 (n + 864)) (n + 864) w1.heap.size 106 (encW x.w).toArray:=(Has.keep ⟨Blk.new _ _ _,ext_new (Nat.le_refl _)⟩ hc3 (by omega))
 have hIn:=MsgIn.of hB3.blk
 unfold MsgIn at hIn
 obtain ⟨-,-,-,-,-,-,-,-,-,-,b10,-,b12,b13,-,b15,-⟩:=hIn
 have x0:=hX3.cell 0
 have x1:=hX3.cell 1
 have x2:=hX3.cell 2
 have x3:=hX3.cell 3
 unfold encW at x0 x1 x2 x3 HT
 have HW4:=Lib.hid hW4
 have HEr : Hid (ansErr m = if m.err = 7 then 6 else m.err):=Lib.hid rfl
 have HHa : Hid (ansHas m x.w = (decide (ansErr m = 0) && decide (x.w.op = 1) && decide (m.ik.size ≠ 0) && !m.ig)):=Lib.hid rfl
 have HVa : Hid (ansVal m x.w = if ansHas m x.w then m.iv else ⟨#[]⟩):=Lib.hid rfl
 clear hB3 hX3 hN4 hc4 hNb2 hr3 hc3 hr2 hN2 hc12 hL2 hw hlen2 q0 q1 q2 q3 d9
 by_cases h7 : m.err = 7
 ·have HE : Hid (ansErr m = 6 /\ ansVal m x.w = ⟨#[]⟩ /\ ansHas m x.w = false):=Lib.hid (by
   have h1 : ansErr m = 6:=by rw [HEr.out,if_pos h7]
   have h2 : ansHas m x.w = false:=by rw [HHa.out,h1];simp
   exact ⟨h1,by rw [HVa.out,h2];rfl,h2⟩)
  have k7 : ((m.err : Int) == 7) = true:=by rw [beq_iff_eq];omega
  clear h7 HEr HHa HVa
  go_wp2_with (go_at_call 112;fail)
  rw [<- HW4.out]
  refine (HT.out 6 ⟨#[]⟩ false).mono ?_
  rintro e w5 ⟨⟨r,rfl⟩,τ5,hn5,hc5⟩
  have H5:=Lib.hid (And.intro hn5 hc5)
  clear hn5 hc5
  go_wp2
  refine bodyPost_end (by first | rfl | (simp [results];rfl)) rfl ?_
  rw [<- HX.out,HE.out.1,HE.out.2.1,HE.out.2.2,<- HL2.out]
  exact ⟨⟨_,rfl⟩,_,τ5,H5.out.1,HC4.out.trans (H5.out.2.mono fun x h=>by rcases h with e | e | e <;> omega)⟩
 ·have k7 : ((m.err : Int) == 7) = false:=by rw [beq_eq_false_iff_ne];omega
  have HEr2 : Hid (ansErr m = m.err):=Lib.hid (by rw [HEr.out,if_neg h7])
  clear h7 HEr
  by_cases h0 : m.err = 0
  ·have k0 : ((m.err : Int) == 0) = true:=by rw [beq_iff_eq];omega
   by_cases h1 : x.w.op = 1
   ·have k1' : ((x.w.op : Int) == 1) = true:=by rw [beq_iff_eq];omega
    by_cases h2 : m.ik.size = 0
    ·have HE : Hid (ansErr m = m.err /\ ansVal m x.w = ⟨#[]⟩ /\ ansHas m x.w = false):=Lib.hid (by
      have h2 : ansHas m x.w = false:=by rw [HHa.out];simp [h2]
      exact ⟨HEr2.out,by rw [HVa.out,h2];rfl,h2⟩)
     rw [bnil m.ik h2] at b12
     clear h0 h1 h2 HEr2 HHa HVa
     go_wp2_with (go_at_call 112;fail)
     rw [<- HW4.out]
     refine (HT.out m.err ⟨#[]⟩ false).mono ?_
     rintro e w5 ⟨⟨r,rfl⟩,τ5,hn5,hc5⟩
     have H5:=Lib.hid (And.intro hn5 hc5)
     clear hn5 hc5
     go_wp2
     refine bodyPost_end (by first | rfl | (simp [results];rfl)) rfl ?_
     rw [<- HX.out,HE.out.1,HE.out.2.1,HE.out.2.2,<- HL2.out]
     exact ⟨⟨_,rfl⟩,_,τ5,H5.out.1,HC4.out.trans (H5.out.2.mono fun x h=>by rcases h with e | e | e <;> omega)⟩
    ·have hne:=bne_nil m.ik h2
     cases hg : m.ig with
     | true=>
      have HE : Hid (ansErr m = m.err /\ ansVal m x.w = ⟨#[]⟩ /\ ansHas m x.w = false):=Lib.hid (by
       have h2 : ansHas m x.w = false:=by rw [HHa.out];simp [hg]
       exact ⟨HEr2.out,by rw [HVa.out,h2];rfl,h2⟩)
      rw [hg] at b15
      clear h0 h1 h2 HEr2 HHa HVa hg
      go_wp2_with (go_at_call 112;fail)
      rw [<- HW4.out]
      refine (HT.out m.err ⟨#[]⟩ false).mono ?_
      rintro e w5 ⟨⟨r,rfl⟩,τ5,hn5,hc5⟩
      have H5:=Lib.hid (And.intro hn5 hc5)
      clear hn5 hc5
      go_wp2
      refine bodyPost_end (by first | rfl | (simp [results];rfl)) rfl ?_
      rw [<- HX.out,HE.out.1,HE.out.2.1,HE.out.2.2,<- HL2.out]
      exact ⟨⟨_,rfl⟩,_,τ5,H5.out.1,HC4.out.trans (H5.out.2.mono fun x h=>by rcases h with e | e | e <;> omega)⟩
     | false=>
      have HE : Hid (ansErr m = m.err /\ ansVal m x.w = m.iv /\ ansHas m x.w = true):=Lib.hid (by
       have h2 : ansHas m x.w = true:=by rw [HHa.out,HEr2.out];simp [hg,h0,h1,h2]
       exact ⟨HEr2.out,by rw [HVa.out,h2];rfl,h2⟩)
      rw [hg] at b15
      clear h0 h1 h2 HEr2 HHa HVa hg
      go_wp2_with (go_at_call 112;fail)
      rw [<- HW4.out]
      refine (HT.out m.err m.iv true).mono ?_
      rintro e w5 ⟨⟨r,rfl⟩,τ5,hn5,hc5⟩
      have H5:=Lib.hid (And.intro hn5 hc5)
      clear hn5 hc5
      go_wp2
      refine bodyPost_end (by first | rfl | (simp [results];rfl)) rfl ?_
      rw [<- HX.out,HE.out.1,HE.out.2.1,HE.out.2.2,<- HL2.out]
      exact ⟨⟨_,rfl⟩,_,τ5,H5.out.1,HC4.out.trans (H5.out.2.mono fun x h=>by rcases h with e | e | e <;> omega)⟩
   ·have k1' : ((x.w.op : Int) == 1) = false:=by rw [beq_eq_false_iff_ne];omega
    have HE : Hid (ansErr m = m.err /\ ansVal m x.w = ⟨#[]⟩ /\ ansHas m x.w = false):=Lib.hid (by
     have h2 : ansHas m x.w = false:=by rw [HHa.out];simp [h1]
     exact ⟨HEr2.out,by rw [HVa.out,h2];rfl,h2⟩)
    clear h0 h1 HEr2 HHa HVa
    go_wp2_with (go_at_call 112;fail)
    rw [<- HW4.out]
    refine (HT.out m.err ⟨#[]⟩ false).mono ?_
    rintro e w5 ⟨⟨r,rfl⟩,τ5,hn5,hc5⟩
    have H5:=Lib.hid (And.intro hn5 hc5)
    clear hn5 hc5
    go_wp2
    refine bodyPost_end (by first | rfl | (simp [results];rfl)) rfl ?_
    rw [<- HX.out,HE.out.1,HE.out.2.1,HE.out.2.2,<- HL2.out]
    exact ⟨⟨_,rfl⟩,_,τ5,H5.out.1,HC4.out.trans (H5.out.2.mono fun x h=>by rcases h with e | e | e <;> omega)⟩
  ·have k0 : ((m.err : Int) == 0) = false:=by rw [beq_eq_false_iff_ne];omega
   have HE : Hid (ansErr m = m.err /\ ansVal m x.w = ⟨#[]⟩ /\ ansHas m x.w = false):=Lib.hid (by
    have h2 : ansHas m x.w = false:=by rw [HHa.out,HEr2.out];simp [h0]
    exact ⟨HEr2.out,by rw [HVa.out,h2];rfl,h2⟩)
   clear h0 HEr2 HHa HVa
   go_wp2_with (go_at_call 112;fail)
   rw [<- HW4.out]
   refine (HT.out m.err ⟨#[]⟩ false).mono ?_
   rintro e w5 ⟨⟨r,rfl⟩,τ5,hn5,hc5⟩
   have H5:=Lib.hid (And.intro hn5 hc5)
   clear hn5 hc5
   go_wp2
   refine bodyPost_end (by first | rfl | (simp [results];rfl)) rfl ?_
   rw [<- HX.out,HE.out.1,HE.out.2.1,HE.out.2.2,<- HL2.out]
   exact ⟨⟨_,rfl⟩,_,τ5,H5.out.1,HC4.out.trans (H5.out.2.mono fun x h=>by rcases h with e | e | e <;> omega)⟩
end Go.Proofs.Ytlhekbjidppijaa
namespace Go.Proofs.Ytlhekbjidppijaa
open Go.RowKit
section
variable {w w' W : World} {τ τ' : Own} {ts n N d k i : Nat} {s : PNode} {h : Hd}
theorem StoreAt.flash {st cnt tn : Nat} {fs : FS} {m : MS} (H : StoreAt w τ ts st d fs cnt tn m) : ∃ c j k,Has w τ ts st 119 #[.pointer (some ⟨c,0,none⟩),.pointer (some ⟨j,0,none⟩),.pointer (some ⟨k,0,none⟩),.int .i64 1] /\ FlashAt w τ (ts + 6) c d 162 129 1200 fs /\ KeeperAt w τ (ts + 1) k d 0 tn m /\ DevAt w τ (ts + 9) d 1200 (fun _=>False) /\
 (∀ fs' w' τ',FlashAt w' τ' (ts + 6) c d 162 129 1200 fs' -> DevAt w' τ' (ts + 9) d 1200 (fun _=>False) -> Chg (FT (ts + 6) (ts + 9)) w τ w' τ' -> StoreAt w' τ' ts st d fs' cnt tn m) /\
 (∀ tn' m' w' τ',KeeperAt w' τ' (ts + 1) k d 0 tn' m' -> DevAt w' τ' (ts + 9) d 1200 (fun _=>False) -> Chg (fun x=>x = ts + 1 \/ x = ts + 1 + 1 \/ x = ts + 9) w τ w' τ' -> StoreAt w' τ' ts st d fs cnt tn' m'):=by
 obtain ⟨c,j,k,h1,h2,h3,h4,h5⟩:=H.ex
 have hl:=H.lt
 refine ⟨c,j,k,h1,h2,h4,h5,fun fs' w' τ' a b hc=>⟨⟨c,j,k,h1.keep hc ?_,a,h3.keep hc ?_,h4.keep hc ?_ ?_,b⟩,hl⟩,fun tn' m' w' τ' a b hc=>⟨⟨c,j,k,h1.keep hc ?_,h2.keep hc ?_,h3.keep hc ?_,a,b⟩,hl⟩⟩
 ·unfold FT;omega
 ·unfold FT;intro x hx;omega
 ·unfold FT;omega
 ·unfold FT;omega
 ·omega
 ·intro x hx;omega
 ·intro x hx;omega
theorem NodeAt.setStore (H : NodeAt w τ ts n N d k i s h) (hf : Far ts n) {fs : FS} {cnt tn : Nat} {m : MS} (hs : StoreAt w' τ' ts h.S d fs cnt tn m) (hc : Chg (ST ts) w τ w' τ') : NodeAt w' τ' ts n N d k i { s with fs:=fs,cnt:=cnt,tn:=tn,m:=m } h:=by
 obtain ⟨h1,h2,h3⟩:=hf
 have kk (x : Nat) (hx : x % 96 = n) : ¬ ST ts x:=by unfold ST;omega
 exact ⟨H.id,H.asked,H.out.keep hc (kk _ (by omega)) (kk _ (by omega)) (kk _ (by omega)),hs,H.lease.keep hc (kk _ (by omega)),H.toks.keep hc (kk _ (by omega)),H.waits.keep hc (kk _ (by omega)),H.reads.keep hc (kk _ (by omega)),H.ring.keep hc (kk _ (by omega))⟩
theorem NodeAt.setLease (H : NodeAt w τ ts n N d k i s h) (hf : Far ts n) {ep en top : Nat} (hl : LeaseAt w' τ' (n + 576) h.L k ep en top) (hc : Chg (· = n + 576) w τ w' τ') : NodeAt w' τ' ts n N d k i { s with ep:=ep,en:=en,top:=top } h:=by
 obtain ⟨h1,h2,h3⟩:=hf
 exact ⟨H.id,H.asked,H.out.keep hc (by omega) (by omega) (by omega),H.store.keep hc fun x hx h=>by unfold ST at h;omega,hl,H.toks.keep hc (by omega),H.waits.keep hc (by omega),H.reads.keep hc (by omega),H.ring.keep hc (by omega)⟩
theorem NodeAt.setToks (H : NodeAt w τ ts n N d k i s h) (hf : Far ts n) {L : List TkS} (hl : TokAt w' τ' (n + 672) h.T L) (hc : Chg (· = n + 672) w τ w' τ') : NodeAt w' τ' ts n N d k i { s with toks:=L } h:=by
 obtain ⟨h1,h2,h3⟩:=hf
 exact ⟨H.id,H.asked,H.out.keep hc (by omega) (by omega) (by omega),H.store.keep hc fun x hx h=>by unfold ST at h;omega,H.lease.keep hc (by omega),hl,H.waits.keep hc (by omega),H.reads.keep hc (by omega),H.ring.keep hc (by omega)⟩
theorem NodeAt.setAsked (H : NodeAt w τ ts n N d k i s h) (hf : Far ts n) (a : Nat) (hW : W = w.setCell ⟨N,11,none⟩ (.int .i64 (a : Int))) : NodeAt W τ ts n N d k i { s with asked:=a } { h with asked:=a } /\ Chg (· = n) w τ W τ:=by
 obtain ⟨h1,h2,h3⟩:=hf
 obtain ⟨mv,pv,hN,hm,hp⟩:=H.out.ex
 have hc : Chg (· = n) w τ W τ:=by rw [hW];exact (Chg.refl _ _ _).setCell (p:=⟨N,11,none⟩) hN.own _
 exact ⟨⟨H.id,rfl,⟨mv,pv,by rw [hW];exact hN.set_ 11 _,hm.keep hc (by omega),hp.keep hc (by omega)⟩,H.store.keep hc fun x hx h=>by unfold ST at h;omega,H.lease.keep hc (by omega),H.toks.keep hc (by omega),H.waits.keep hc (by omega),H.reads.keep hc (by omega),H.ring.keep hc (by omega)⟩,hc⟩
theorem NodeAt.setRing (H : NodeAt w τ ts n N d k i s h) (hf : Far ts n) {r : Nat} {ns : List Nat} (hr : RingAt w' τ' (n + 768) r 1 ns) (hok : NodesOk ns) (hc0 : Chg (fun _=>False) w τ w' τ') (hW : W = w'.setCell ⟨N,3,none⟩ (.pointer (some ⟨r,0,none⟩))) : NodeAt W τ' ts n N d k i { s with ring:=some ns } { h with rg:=.pointer (some ⟨r,0,none⟩) } /\ Chg (· = n) w τ W τ':=by
 have H':=H.keep hc0 hf.1 fun _ h=>h.elim
 obtain ⟨h1,h2,h3⟩:=hf
 obtain ⟨mv,pv,hN,hm,hp⟩:=H'.out.ex
 have hc : Chg (· = n) w' τ' W τ':=by rw [hW];exact (Chg.refl _ _ _).setCell (p:=⟨N,3,none⟩) hN.own _
 exact ⟨⟨H'.id,H'.asked,⟨mv,pv,by rw [hW];exact hN.set_ 3 _,hm.keep hc (by omega),hp.keep hc (by omega)⟩,H'.store.keep hc fun x hx h=>by unfold ST at h;omega,H'.lease.keep hc (by omega),H'.toks.keep hc (by omega),H'.waits.keep hc (by omega),H'.reads.keep hc (by omega),⟨r,rfl,hr.keep hc (by omega),hok⟩⟩,(hc0.mono fun _ h=>h.elim).trans hc⟩
end
set_option maxRecDepth 20000 in
theorem started165 (w : World) (τ : Own) (ts st d cnt tn : Nat) (fs : FS) (m : MS) (hS : StoreAt w τ ts st d fs cnt tn m) : Calls Tryz.prog 165 #[.pointer (some ⟨st,0,none⟩)] w fun e w'=>e = .returned (.int .i64 1) /\ w = w':=by
 obtain ⟨c,j,k,h1,-⟩:=hS.ex
 have c3 : w.cell? ⟨st,3,none⟩ = some (.int .i64 1):=h1.cell 3
 clear hS h1
 go_enter Tryz.func165,Tryz.ntmps165
 go_wp2
 go_ret
 exact ⟨rfl,rfl⟩
set_option maxRecDepth 20000 in
theorem still202 (w : World) (τ : Own) (ts n N d k i : Nat) (s : PNode) (h : Hd) (H : NodeAt w τ ts n N d k i s h) (hf : Far ts n) :
 Calls Tryz.prog 202 #[.pointer (some ⟨N,0,none⟩)] w fun e w'=>(∃ r,e = .returned r) /\ NodeAt w' τ ts n N d k i s h /\ Chg (· = n) w τ w' τ:=by
 obtain ⟨mv,pv,hN,hm,hp⟩:=H.out.ex
 have c5 : w.cell? ⟨N,5,none⟩ = some (.bool false):=hN.cell 5
 have c6 : w.cell? ⟨N,6,none⟩ = some (.slice none 0 0):=hN.cell 6
 have c7 : w.cell? ⟨N,7,none⟩ = some (.map none):=hN.cell 7
 have c8 : w.cell? ⟨N,8,none⟩ = some (.map none):=hN.cell 8
 have f5:=hN.frozen 5
 have f6:=hN.frozen 6
 have f7:=hN.frozen 7
 have f8:=hN.frozen 8
 have HF : Hid (∀ W,W = (((w.setCell ⟨N,5,none⟩ (.bool false)).setCell ⟨N,6,none⟩ (.slice none 0 0)).setCell ⟨N,7,none⟩ (.map none)).setCell ⟨N,8,none⟩ (.map none) -> NodeAt W τ ts n N d k i s h /\ Chg (· = n) w τ W τ):=Lib.hid fun W hW=>by
  obtain ⟨h1,h2,h3⟩:=hf
  have hc : Chg (· = n) w τ W τ:=by
   rw [hW]
   exact ((((Chg.refl _ _ _).setCell (p:=⟨N,5,none⟩) hN.own _).setCell (p:=⟨N,6,none⟩) hN.own _).setCell (p:=⟨N,7,none⟩) hN.own _).setCell (p:=⟨N,8,none⟩) hN.own _
  have hN' : Has W τ n N 104 (hdV h mv pv).toArray:=by
   rw [hW]
   exact (((hN.set_ 5 (.bool false)).set_ 6 (.slice none 0 0)).set_ 7 (.map none)).set_ 8 (.map none)
  exact ⟨⟨H.id,H.asked,⟨mv,pv,hN',hm.keep hc (by omega),hp.keep hc (by omega)⟩,H.store.keep hc fun x hx h=>by unfold ST at h;omega,H.lease.keep hc (by omega),H.toks.keep hc (by omega),H.waits.keep hc (by omega),H.reads.keep hc (by omega),H.ring.keep hc (by omega)⟩,hc⟩
 clear H hf hN hm hp
 go_enter Tryz.func202,Tryz.ntmps202
 go_wp2
 refine bodyPost_end (by first | rfl | (simp [results];rfl)) rfl ?_
 exact ⟨⟨_,rfl⟩,HF.out _ rfl⟩
end Go.Proofs.Ytlhekbjidppijaa
