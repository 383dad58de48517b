/- Contracts of functions that the Top rows reach, and plain laws for them: what each returns and what it leaves in memory. Conditions: those that each theorem names. -/
import Derived.Test.YtlhekbjidppijaaGreatMAZ
import Derived.Test.YtlhekbjidppijaaGreatMBE
import Derived.Test.YtlhekbjidppijaaGreatMBG
set_option linter.unusedVariables false
set_option linter.unusedSimpArgs false
namespace Go.Proofs.Ytlhekbjidppijaa
open Go.RowKit
set_option maxRecDepth 20000 in
theorem drops196z (w : World) (τ : Own) (ts n N d k i : Nat) (s : PNode) (h : Hd) (H : NodeAt w τ ts n N d k i s h) (hz : ∀ p ∈ s.fs.pl,p.has = false) (f : Value) :
 Calls Tryz.prog 196 #[.pointer (some ⟨N,0,none⟩),f] w fun e w'=>(∃ r,e = .returned r) /\ Below w.heap.size w w':=by
 obtain ⟨mv,pv,hN,-,-⟩:=H.out.ex
 obtain ⟨c,j,kp,hS,hF,-⟩:=H.store.ex
 have c0 : w.cell? ⟨N,0,none⟩ = some (.pointer (some ⟨h.S,0,none⟩)):=hN.cell 0
 have s0 : w.cell? ⟨h.S,0,none⟩ = some (.pointer (some ⟨c,0,none⟩)):=hS.cell 0
 have HK:=Lib.hid (keys236z w τ (ts + 6) c d 162 129 1200 s.fs hF hz)
 clear H hN hS hF hz
 go_enter Tryz.func196,Tryz.ntmps196
 go_wp2_with (go_at_call 236;fail)
 refine HK.out.mono ?_
 rintro e w1 ⟨rfl,hb⟩
 have HB:=Lib.hid hb
 clear hb
 go_wp2
 go_loop [4,16] (fun l i=>l = .slice none 0 0 /\ i = .int .i64 0) (fun _ _=>0)
 case atStart=>exact ⟨rfl,rfl⟩
 case round=>
  obtain ⟨rfl,rfl⟩:=hrel
  go_wp2
  refine bodyPost_end (by first | rfl | (simp [results];rfl)) rfl ?_
  exact ⟨⟨_,rfl⟩,HB.out⟩
set_option maxRecDepth 20000 in
theorem strange203z (w : World) (τ : Own) (ts n N d k i : Nat) (s : PNode) (h : Hd) (H : NodeAt w τ ts n N d k i s h) (hn : n < 95) (hz : ∀ p ∈ s.fs.pl,p.has = false) :
 Calls Tryz.prog 203 #[.pointer (some ⟨N,0,none⟩)] w fun e w'=>(∃ r,e = .returned r) /\ ∃ τ',NodeAt w' τ' ts n N d k i s h /\ Chg (fun _=>False) w τ w' τ':=by
 have hc (W : World) (hb : Below w.heap.size w W) : Chg (fun _=>False) w τ W (ext τ w 0):=Chg.of_below hb _
 obtain ⟨W0,hW0⟩ : ∃ W,W = w.alloc (.cells #[.pointer (some ⟨N,0,none⟩)] 41):=⟨_,rfl⟩
 have hB0 : Blk W0 w.heap.size 41 #[.pointer (some ⟨N,0,none⟩)]:=by rw [hW0];exact Blk.new _ _ _
 have hb0 : Below w.heap.size w W0:=by rw [hW0];exact (Below.refl _ w).alloc (Nat.le_refl _) _
 have hH0:=H.keep (hc W0 hb0) hn fun _ h=>h.elim
 obtain ⟨mv,pv,hN,-,-⟩:=hH0.out.ex
 have c3 : W0.cell? ⟨N,3,none⟩ = some h.rg:=hN.cell 3
 have b0:=hB0.cell 0
 have HD : Hid (∀ f,Calls Tryz.prog 196 #[.pointer (some ⟨N,0,none⟩),f] W0 fun e w'=>(∃ r,e = .returned r) /\ Below W0.heap.size W0 w'):=Lib.hid fun f=>drops196z W0 _ ts n N d k i s h hH0 hz f
 have HE : Hid (∀ W,Below w.heap.size w W -> ∃ τ',NodeAt W τ' ts n N d k i s h /\ Chg (fun _=>False) w τ W τ'):=Lib.hid fun W hb=>⟨_,H.keep (hc W hb) hn fun _ h=>h.elim,hc W hb⟩
 have hmf : ∀ fn first cap w,(Instr.makeFunc fn first cap).run Tryz.prog w = .ok (.func fn first cap) w:=fun _ _ _ _=>rfl
 have HB0:=Lib.hid hb0
 have HW:=Lib.hid hW0
 have hrg : h.rg = .pointer none \/ ∃ r,h.rg = .pointer (some ⟨r,0,none⟩):=by
  have:=H.ring
  cases hs : s.ring with
  | none=>rw [hs] at this;exact .inl this
  | some ns=>rw [hs] at this;obtain ⟨r,e,-⟩:=this;exact .inr ⟨r,e⟩
 clear H hc hB0 hb0 hH0 hN hz hW0
 rcases hrg with e | ⟨r,e⟩
 ·rw [e] at c3
  clear e
  go_enter Tryz.func203,Tryz.ntmps203
  go_wp2_with (first | rw [<- HW.out] | fail)
  refine bodyPost_end (by first | rfl | (simp [results];rfl)) rfl ?_
  exact ⟨⟨_,rfl⟩,HE.out _ HB0.out⟩
 ·rw [e] at c3
  clear e
  go_enter Tryz.func203,Tryz.ntmps203
  go_wp2_with (first | rw [<- HW.out] | (go_at_call 196;fail))
  refine (HD.out _).mono ?_
  rintro e w1 ⟨⟨v,rfl⟩,hb1⟩
  have HB1:=Lib.hid (HB0.out.trans (hb1.mono HB0.out.size))
  clear hb1
  go_wp2
  refine bodyPost_end (by first | rfl | (simp [results];rfl)) rfl ?_
  exact ⟨⟨_,rfl⟩,HE.out _ HB1.out⟩
set_option maxRecDepth 20000 in
theorem adoptSame (w : World) (τ : Own) (ts n N d k i : Nat) (s : PNode) (h : Hd) (H : NodeAt w τ ts n N d k i s h) (hf : Far ts n) (he : s.m.e = 1) (ns : List Nat) (hr : s.ring = some ns) (v : Value) :
 Calls Tryz.prog 190 #[.pointer (some ⟨N,0,none⟩),.int .i64 1,v] w fun e w'=>(∃ r,e = .returned r) /\ Below w.heap.size w w':=by
 obtain ⟨mv,pv,hN,-,-⟩:=H.out.ex
 obtain ⟨c,j,kp,hS,-,-,hK,-⟩:=H.store.ex
 have hrg:=H.ring
 rw [hr] at hrg
 obtain ⟨r,hrv,-,-⟩:=hrg
 have c0 : w.cell? ⟨N,0,none⟩ = some (.pointer (some ⟨h.S,0,none⟩)):=hN.cell 0
 have s2 : w.cell? ⟨h.S,2,none⟩ = some (.pointer (some ⟨kp,0,none⟩)):=hS.cell 2
 have HM:=Lib.hid (meta48 w τ (ts + 1) kp d 0 s.tn s.m hK)
 have HN : Hid (∀ W,Below w.heap.size w W -> W.cell? ⟨N,3,none⟩ = some (.pointer (some ⟨r,0,none⟩))):=Lib.hid fun W hb=>by
  have:=(hN.keep (Chg.of_below hb (τ:=τ) 0 : Chg (fun _=>False) w τ W _) id).cell 3
  rw [<- hrv];exact this
 rw [he,show ((1 : Nat) : Int) = 1 from rfl] at HM
 clear H hN hS hK hf hr hrv he
 go_enter Tryz.func190,Tryz.ntmps190
 go_wp2_with (go_at_call 48;fail)
 refine HM.out.mono ?_
 rintro e w1 ⟨rfl,hb1⟩
 have HB:=Lib.hid (hb1.alloc hb1.size (.cells #[.int .i64 (s.m.b : Int),.int .i64 1,.int .i64 (s.m.r : Int),.bool s.m.f] 45))
 have d3:=HN.out _ HB.out
 clear hb1
 go_wp2
 refine bodyPost_ret (by first | exact results_none rfl _ _ _ | exact Great.results_none rfl _ _ _ | rfl) rfl ?_
 exact ⟨⟨_,rfl⟩,HB.out⟩
structure AdS (w : World) (τ : Own) (ts n N d k i mb mm tm : Nat) (v : Value) (ns : List Nat) (s : PNode) (h : Hd) (W : World) (τ' : Own) : Prop where
 node : NodeAt W τ' ts n N d k i s h
 mta : Has W τ' (n + 864) mb 45 #[.int .i64 (mm : Int),.int .i64 0,.int .i64 0,.bool false]
 mem : Rw W τ' tm 3 1 v ns.length (nnums ns)
 chg : Chg (NT ts n) w τ W τ'
theorem AdS.step {w W W2 : World} {τ τ1 τ2 : Own} {ts n N d k i mb mm tm : Nat} {v : Value} {ns : List Nat} {s s2 : PNode} {h h2 : Hd} {T : Nat -> Prop} (A : AdS w τ ts n N d k i mb mm tm v ns s h W τ1) (H : NodeAt W2 τ2 ts n N d k i s2 h2) (hc : Chg T W τ1 W2 τ2) (h1 : ∀ x,T x -> NT ts n x) (h2' : ¬ T (n + 864)) (h3 : ¬ T tm) : AdS w τ ts n N d k i mb mm tm v ns s2 h2 W2 τ2:=
 ⟨H,A.mta.keep hc h2',A.mem.keep hc h3,A.chg.trans (hc.mono h1)⟩
theorem AdS.cells {w W : World} {τ τ1 : Own} {ts n N d k i mb mm tm : Nat} {v : Value} {ns : List Nat} {s : PNode} {h : Hd} (A : AdS w τ ts n N d k i mb mm tm v ns s h W τ1) : W.cell? ⟨N,0,none⟩ = some (.pointer (some ⟨h.S,0,none⟩)) /\ W.cell? ⟨N,1,none⟩ = some (.pointer (some ⟨h.L,0,none⟩)) /\ W.cell? ⟨N,4,none⟩ = some (.pointer (some ⟨h.T,0,none⟩)) /\ W.cell? ⟨N,9,none⟩ = some h.wv /\ W.cell? ⟨mb,0,none⟩ = some (.int .i64 (mm : Int)) /\ W.cell? ⟨mb,1,none⟩ = some (.int .i64 0) /\ W.cell? ⟨mb,2,none⟩ = some (.int .i64 0):=by
 obtain ⟨mv,pv,hN,-,-⟩:=A.node.out.ex
 exact ⟨hN.cell 0,hN.cell 1,hN.cell 4,hN.cell 9,A.mta.cell 0,A.mta.cell 1,A.mta.cell 2⟩
def SaveS (N S kp mb mm : Nat) (W : World) : Prop:=W.cell? ⟨N,0,none⟩ = some (.pointer (some ⟨S,0,none⟩)) /\ W.cell? ⟨S,2,none⟩ = some (.pointer (some ⟨kp,0,none⟩)) /\ W.cell? ⟨mb,0,none⟩ = some (.int .i64 (mm : Int))
def PNode.adopt (s : PNode) (fs : FS) (ns : List Nat) : PNode:=
 { s with fs:=fs,tn:=s.tn + 1,m:=⟨s.m.b,1,0,false⟩,ring:=some ns,ep:=0,en:=0,top:=0,toks:=s.toks.map (hurt1 fun _=>true),waits:=[] }
set_option maxRecDepth 20000 in
set_option maxHeartbeats 2000000 in
theorem adoptNew (w : World) (τ : Own) (ts n N d k i tm : Nat) (s : PNode) (h : Hd) (H : NodeAt w τ ts n N d k i s h) (hf : Far ts n) (hb : s.m.b < 64) (he : s.m.e = 0) (hr : s.m.r = 0) (hfr : s.m.f = false) (fs : FS) (hw : fwipe 129 s.fs = some fs) (htn : s.tn + 1 <= 1000000) (hwt : s.waits = []) (htk : s.toks.length <= 900)
 (A : Option Addr) (c : Nat) (ns : List Nat) (hm : Rw w τ tm 3 1 (.slice A ns.length c) ns.length (nnums ns)) (htm : ¬ NT ts n tm) (hok : NodesOk ns) :
 Calls Tryz.prog 190 #[.pointer (some ⟨N,0,none⟩),.int .i64 1,.slice A ns.length c] w fun e w'=>(∃ r,e = .returned r) /\ ∃ h' τ',NodeAt w' τ' ts n N d k i (s.adopt fs ns) h' /\ Chg (NT ts n) w τ w' τ':=by
 have hf':=hf
 obtain ⟨hf1,hf2,hf3⟩:=hf'
 have HT (x : Nat) (hx : x = n \/ x = n + 576 \/ x = n + 672 \/ x = n + 96) : NT ts n x /\ x ≠ tm /\ x ≠ n + 864:=by
  refine ⟨.inr (by omega),?_,by omega⟩
  rintro rfl
  exact htm (.inr (by omega))
 have HTS (x : Nat) (hx : ST ts x) : NT ts n x /\ x ≠ tm /\ x ≠ n + 864:=by
  refine ⟨.inl hx,?_,?_⟩
  ·rintro rfl;exact htm (.inl hx)
  ·rintro rfl;unfold ST at hx;omega
 have HTM:=Lib.hid (And.intro HT HTS)
 clear HT HTS
 obtain ⟨mv,pv,hN,-,-⟩:=H.out.ex
 obtain ⟨cf,j,kp,hS,-,hK,-⟩:=H.store.flash
 have c0 : w.cell? ⟨N,0,none⟩ = some (.pointer (some ⟨h.S,0,none⟩)):=hN.cell 0
 have s2 : w.cell? ⟨h.S,2,none⟩ = some (.pointer (some ⟨kp,0,none⟩)):=hS.cell 2
 have HM:=Lib.hid (meta48 w τ (ts + 1) kp d 0 s.tn s.m hK)
 rw [he,hr,hfr,show ((0 : Nat) : Int) = 0 from rfl] at HM
 have HH:=Lib.hid H
 have HMm:=Lib.hid hm
 have HF:=Lib.hid hf
 have HOK:=Lib.hid hok
 have HW:=Lib.hid hw
 have HB:=Lib.hid (And.intro hb (And.intro he (And.intro hr (And.intro hfr htn))))
 have HWT:=Lib.hid hwt
 clear H hN hS hK hm hf hok hw hb he hr hfr htn hwt
 go_enter Tryz.func190,Tryz.ntmps190
 go_wp2_with (go_at_call 48;fail)
 refine HM.out.mono ?_
 rintro e w1 ⟨rfl,hb1⟩
 have A1 : Hid (∀ W,W = w1.alloc (.cells #[.int .i64 (s.m.b : Int),.int .i64 0,.int .i64 0,.bool false] 45) -> ∃ τ1,AdS w τ ts n N d k i w1.heap.size s.m.b tm (.slice A ns.length c) ns s h W τ1):=Lib.hid fun W hW=>by
  have hc1 : Chg (fun _=>False) w τ w1 (ext τ w (n + 864)):=Chg.of_below hb1 _
  have hc : Chg (fun _=>False) w τ W (ext τ w (n + 864)):=by rw [hW];exact hc1.alloc _
  exact ⟨_,HH.out.keep hc HF.out.1 (fun _ h=>h.elim),⟨by rw [hW];exact Blk.new _ _ _,ext_new hb1.size⟩,HMm.out.keep hc id,hc.mono fun _ h=>h.elim⟩
 obtain ⟨W1,hW1⟩ : ∃ W,W = w1.alloc (.cells #[.int .i64 (s.m.b : Int),.int .i64 0,.int .i64 0,.bool false] 45):=⟨_,rfl⟩
 obtain ⟨τ1,hA1⟩:=A1.out W1 hW1
 obtain ⟨c0',c1',c4',c9',m0,m1,m2⟩:=hA1.cells
 obtain ⟨cf1,j1,kp1,hS1,hF1,hK1,hD1,hfl1,-⟩:=hA1.node.store.flash
 have s0 : W1.cell? ⟨h.S,0,none⟩ = some (.pointer (some ⟨cf1,0,none⟩)):=hS1.cell 0
 have HWi:=Lib.hid ((wipe229 W1 τ1 (ts + 6) (ts + 9) cf1 d 162 129 1200 s.fs fs (fun _=>False) hF1 hD1 (by omega) HW.out))
 have HSt:=Lib.hid hfl1
 have HW1:=Lib.hid hW1
 have HA1:=Lib.hid hA1
 clear hW1 hA1 A1 hb1 HM c0 s2 hS1 hF1 hK1 hD1 hfl1
 go_wp2_with (first | rw [<- HW1.out] | (go_at_call 229;fail))
 refine HWi.out.mono ?_
 rintro e w2 ⟨rfl,τ2,hf2',hd2,hc2⟩
 have hA2:=HA1.out.step (HA1.out.node.setStore HF.out (HSt.out fs w2 τ2 hf2' hd2 hc2) (hc2.mono fun x hx=>by unfold FT at hx;unfold ST;omega)) hc2 (fun x hx=>(HTM.out.2 x (by unfold FT at hx;unfold ST;omega)).1) (fun hx=>(HTM.out.2 _ (by unfold FT at hx;unfold ST;omega)).2.2 rfl) (fun hx=>(HTM.out.2 _ (by unfold FT at hx;unfold ST;omega)).2.1 rfl)
 obtain ⟨c0',c1',c4',c9',m0,m1,m2⟩:=hA2.cells
 obtain ⟨cf2,j2,kp2,hS2,hF2,hK2,hD2,-,hkp2⟩:=hA2.node.store.flash
 have S2 : Hid (SaveS N h.S kp2 w1.heap.size s.m.b w2.drew):=Lib.hid ⟨c0',hS2.cell 2,m0⟩
 have HSv : Hid (∀ W,W = w2.drew -> Calls Tryz.prog 192 #[.pointer (some ⟨kp2,0,none⟩),.agg #[.int .i64 (s.m.b : Int),.int .i64 1,.int .i64 0,.bool false]] W fun e w'=>e = .returned (.int .i64 0) /\ ∃ τ' h',AdS w τ ts n N d k i w1.heap.size s.m.b tm (.slice A ns.length c) ns { s with fs:=fs,tn:=s.tn + 1,m:=⟨s.m.b,1,0,false⟩ } h' w' τ'):=Lib.hid fun W hW=>by
  obtain ⟨g1,g2,g3,g4,g5⟩:=HB.out
  subst hW
  have hcd : Chg (fun _=>False) w2 τ2 w2.drew τ2:=(Chg.refl _ _ _).drew
  refine (save192 w2.drew τ2 (ts + 1) kp2 0 (ts + 9) d 1200 s.tn s.m ⟨s.m.b,1,0,false⟩ (fun _=>False) (fun _=>False) (hK2.keep hcd id id) (hD2.keep hcd id) (by omega) (by omega) (by omega) (by omega) g5 (fun i h=>h.elim) (by simp [MS.ok];omega) ⟨Nat.le_refl _,by rw [g2];exact Nat.zero_le _⟩).mono ?_
  rintro e w' ⟨rfl,τ',k1,k2,k3⟩
  have hcc:=hcd.mono (fun _ h=>h.elim) |>.trans k3
  exact ⟨rfl,τ',h,hA2.step (hA2.node.setStore HF.out (hkp2 _ _ _ _ k1 k2 hcc) (hcc.mono fun x hx=>by unfold ST;omega)) hcc (fun x hx=>(HTM.out.2 x (by unfold ST;omega)).1) (fun hx=>(HTM.out.2 _ (by unfold ST;omega)).2.2 rfl) (fun hx=>(HTM.out.2 _ (by unfold ST;omega)).2.1 rfl)⟩
 have HA2:=Lib.hid hA2
 clear hA2 hS2 hF2 hK2 hD2 hkp2 HA1 HW1 HWi HSt hf2' hd2 hc2 s0
 go_wp2_with fail
 refine wp_region_hl [] [0,1,2,3,4,5,6,7,8,9,10] (SaveS N h.S kp2 w1.heap.size s.m.b) (by kernel_rfl) (by kernel_rfl) S2.out ?_
 iterate 10 (refine hd_take (v:=?_) rfl rfl (by kernel_rfl) (fun W hW=>?_) ?_;rotate_left;(obtain ⟨r0,r1,r2⟩:=hW;first | (go_simp;done) | (go_simp;with_reducible rfl)))
 refine hd_take (v:=?_) rfl rfl (by kernel_rfl) (fun W hW=>?_) (hd_end ?_)
 rotate_left
 ·obtain ⟨r0,r1,r2⟩:=hW;first | (go_simp;done) | (go_simp;with_reducible rfl)
 simp only [List.length_cons,List.length_nil,List.drop_succ_cons,List.drop_zero,Nat.zero_add,Nat.reduceAdd]
 go_wp2_with (go_at_call 192;fail)
 refine (HSv.out _ rfl).mono ?_
 rintro e w3 ⟨rfl,τ3,h3,hA3⟩
 obtain ⟨c0',c1',c4',c9',m0,m1,m2⟩:=hA3.cells
 have HA3:=Lib.hid hA3
 clear hA3 HSv HA2 S2
 have HRn : Hid (Calls Tryz.prog 195 #[.int .i64 1,.slice A ns.length c] w3 fun e w'=>∃ r τ',e = .returned (.pointer (some ⟨r,0,none⟩)) /\ RingAt w' τ' (n + 768) r 1 ns /\ w3.heap.size <= r /\ Chg (fun _=>False) w3 τ3 w' τ' /\ ∀ k,w3.heap.size <= k -> τ' k = n + 768):=Lib.hid (by
  obtain ⟨A',c',e,q1,q2,q3⟩:=HA3.out.mem.nms
  injection e with e1 e2 e3
  subst e1
  subst e3
  exact ring195 w3 τ3 (n + 768) 1 A ns.length c ns q1 rfl HOK.out q3 (Nat.le_refl _) (by decide))
 go_wp2_with (go_at_call 195;fail)
 refine HRn.out.mono ?_
 rintro e w4 ⟨r,τ4,rfl,hr4,-,hc4,-⟩
 obtain ⟨mv4,pv4,hN4,-,-⟩:=HA3.out.node.out.ex
 have hN4':=hN4.keep hc4 id
 have d3:=hN4'.cell 3
 have f3:=hN4'.frozen 3
 have HA4 : Hid (∀ W,W = w4.setCell ⟨N,3,none⟩ (.pointer (some ⟨r,0,none⟩)) -> ∃ h',AdS w τ ts n N d k i w1.heap.size s.m.b tm (.slice A ns.length c) ns { s with fs:=fs,tn:=s.tn + 1,m:=⟨s.m.b,1,0,false⟩,ring:=some ns } h' W τ4):=Lib.hid fun W hW=>by
  obtain ⟨k1,k2⟩:=HA3.out.node.setRing HF.out hr4 HOK.out hc4 hW
  exact ⟨_,HA3.out.step k1 k2 (fun x hx=>(HTM.out.1 x (.inl hx)).1) (fun hx=>(HTM.out.1 _ (.inl hx)).2.2 rfl) (fun hx=>(HTM.out.1 _ (.inl hx)).2.1 rfl)⟩
 clear hr4 hc4 hN4 hN4' HRn
 obtain ⟨W4,hW4⟩ : ∃ W,W = w4.setCell ⟨N,3,none⟩ (.pointer (some ⟨r,0,none⟩)):=⟨_,rfl⟩
 obtain ⟨h4,hA4⟩:=HA4.out W4 hW4
 have HW4:=Lib.hid hW4
 have HZ : Hid (∀ p ∈ fs.pl,p.has = false):=Lib.hid (by
  have:=HW.out
  unfold fwipe at this
  split at this
  ·injection this with this
   subst this
   intro p hp
   rw [List.eq_of_mem_replicate hp]
   rfl
  ·cases this)
 have HSr:=Lib.hid (strange203z W4 τ4 ts n N d k i _ h4 hA4.node HF.out.1 HZ.out)
 have HA4':=Lib.hid hA4
 clear hW4 hA4 HA4
 go_wp2_with (first | rw [<- HW4.out] | (go_at_call 203;fail))
 refine HSr.out.mono ?_
 rintro e w5 ⟨⟨v5,rfl⟩,τ5,hn5,hc5⟩
 have hA5:=HA4'.out.step hn5 hc5 (fun _ h=>h.elim) id id
 obtain ⟨c0',c1',c4',c9',m0,m1,m2⟩:=hA5.cells
 have HDr:=Lib.hid (drop230 w5 τ5 (n + 576) h4.L k _ _ _ hA5.node.lease)
 have HA5:=Lib.hid hA5
 clear hA5 hn5 hc5 HSr HA4' HW4 HA3 d3 f3
 go_wp2_with (go_at_call 230;fail)
 refine HDr.out.mono ?_
 rintro e w6 ⟨⟨v6,rfl⟩,hl6,hc6⟩
 have hA6:=HA5.out.step (HA5.out.node.setLease HF.out hl6 hc6) hc6 (fun x hx=>(HTM.out.1 x (.inr (.inl hx))).1) (fun hx=>(HTM.out.1 _ (.inr (.inl hx))).2.2 rfl) (fun hx=>(HTM.out.1 _ (.inr (.inl hx))).2.1 rfl)
 obtain ⟨c0',c1',c4',c9',m0,m1,m2⟩:=hA6.cells
 have HCl:=Lib.hid (tokClear w6 τ5 (n + 672) h4.T s.toks hA6.node.toks (by omega))
 have HA6:=Lib.hid hA6
 clear hA6 hl6 hc6 HDr HA5
 go_wp2_with (go_at_call 199;fail)
 refine HCl.out.mono ?_
 rintro e w7 ⟨⟨v7,rfl⟩,hl7,hc7⟩
 have hA7:=HA6.out.step (HA6.out.node.setToks HF.out hl7 hc7) hc7 (fun x hx=>(HTM.out.1 x (.inr (.inr (.inl hx)))).1) (fun hx=>(HTM.out.1 _ (.inr (.inr (.inl hx)))).2.2 rfl) (fun hx=>(HTM.out.1 _ (.inr (.inr (.inl hx)))).2.1 rfl)
 have HSi:=Lib.hid (still202 w7 τ5 ts n N d k i _ h4 hA7.node HF.out)
 have HA7:=Lib.hid hA7
 clear hA7 hl7 hc7 HCl HA6
 go_wp2_with (go_at_call 202;fail)
 refine HSi.out.mono ?_
 rintro e w8 ⟨⟨v8,rfl⟩,hn8,hc8⟩
 have hA8:=HA7.out.step hn8 hc8 (fun x hx=>(HTM.out.1 x (.inl hx)).1) (fun hx=>(HTM.out.1 _ (.inl hx)).2.2 rfl) (fun hx=>(HTM.out.1 _ (.inl hx)).2.1 rfl)
 obtain ⟨c0',c1',c4',c9',m0,m1,m2⟩:=hA8.cells
 have hwv:=hA8.node.waits
 obtain ⟨A9,d9,hwv9,-⟩:=hwv.slice
 simp only [HWT.out,List.length_nil] at hwv9
 rw [hwv9] at c9'
 obtain ⟨mv9,pv9,hN9,-,-⟩:=hA8.node.out.ex
 have f9:=hN9.frozen 9
 have HA9 : Hid (∀ W,W = w8.setCell ⟨N,9,none⟩ (.slice none 0 0) -> ∃ h',NodeAt W τ5 ts n N d k i (s.adopt fs ns) h' /\ Chg (NT ts n) w τ W τ5):=Lib.hid fun W hW=>by
  obtain ⟨k1,k2⟩:=hA8.node.setWaits HF.out (L:=[]) (Rw.nil w8 τ5 (n + 96) 212 7) (Chg.refl _ _ _) hW
  exact ⟨_,k1,hA8.chg.trans (k2.mono fun x hx=>(HTM.out.1 x (by omega)).1)⟩
 clear hA8 hn8 hc8 HSi HA7 hwv hwv9 hN9
 go_wp2
 go_loop [86] (fun i=>i = .int .i64 0) (fun _=>0)
 case atStart=>rfl
 case round=>
  subst hrel
  go_wp2
  refine bodyPost_end (by first | rfl | (simp [results];rfl)) rfl ?_
  obtain ⟨h',k1,k2⟩:=HA9.out _ rfl
  exact ⟨⟨_,rfl⟩,h',τ5,k1,k2⟩
end Go.Proofs.Ytlhekbjidppijaa
namespace Go.Proofs.Ytlhekbjidppijaa
open Go.RowKit
def PNode.take (s : PNode) (now tick : Nat) : PNode:={ s with ep:=(takeF s.ep s.en s.top now tick 1).1,en:=(takeF s.ep s.en s.top now tick 1).2.1,top:=(takeF s.ep s.en s.top now tick 1).2.2 }
def Adopts (s s1 : PNode) (ns : List Nat) : Prop:=
 (s.m.e = 1 /\ (∃ ns',s.ring = some ns') /\ s1 = s) \/ (s.m.b < 64 /\ s.m.e = 0 /\ s.m.r = 0 /\ s.m.f = false /\ s.tn + 1 <= 1000000 /\ s.waits = [] /\ s.toks.length <= 900 /\ ∃ fs,fwipe 129 s.fs = some fs /\ s1 = s.adopt fs ns)
theorem adopt190 (w : World) (τ : Own) (ts n N d k i tm : Nat) (s s1 : PNode) (h : Hd) (H : NodeAt w τ ts n N d k i s h) (hf : Far ts n) (v : Value) (ns : List Nat) (hm : Rw w τ tm 3 1 v ns.length (nnums ns)) (htm : ¬ NT ts n tm) (hok : NodesOk ns) (ha : Adopts s s1 ns) :
 Calls Tryz.prog 190 #[.pointer (some ⟨N,0,none⟩),.int .i64 1,v] w fun e w'=>(∃ r,e = .returned r) /\ ∃ h' τ',NodeAt w' τ' ts n N d k i s1 h' /\ Chg (NT ts n) w τ w' τ':=by
 rcases ha with ⟨he,⟨ns',hr⟩,rfl⟩ | ⟨h1,h2,h3,h4,h5,h6,h7,fs,h8,rfl⟩
 ·refine (adoptSame w τ ts n N d k i s1 h H hf he ns' hr v).mono ?_
  rintro e w' ⟨hr,hb⟩
  have hc : Chg (fun _=>False) w τ w' (ext τ w 0):=Chg.of_below hb _
  exact ⟨hr,h,_,H.keep hc hf.1 (fun _ h=>h.elim),hc.mono fun _ h=>h.elim⟩
 ·obtain ⟨A,c,rfl⟩:=hm.value
  exact adoptNew w τ ts n N d k i tm s h H hf h1 h2 h3 h4 fs h8 h5 h6 h7 A c ns hm htm hok
def GrS (N L b : Nat) (m : PMsg) (W : World) : Prop:=W.cell? ⟨N,1,none⟩ = some (.pointer (some ⟨L,0,none⟩)) /\ W.cell? ⟨b,4,none⟩ = some (.int .i64 (m.tick : Int)) /\ W.cell? ⟨b,3,none⟩ = some (.int .i64 1)
set_option maxRecDepth 20000 in
set_option maxHeartbeats 2000000 in
theorem grant153 (w : World) (τ : Own) (ts n N d k i tk now tm : Nat) (m : PMsg) (vm : Value) (s s1 : PNode) (h : Hd) (H : NodeAt w τ ts n N d k i s h) (hk : ClockAt w τ tk k now) (hf : Far ts n) (htk : ¬ NT ts n tk) (hm : Rw w τ tm 3 1 vm m.members.length (nnums m.members)) (htm : ¬ NT ts n tm) (hok : NodesOk m.members)
 (hkd : m.kind = 2) (hme : m.epoch = 1) (hmt : m.tick <= now) (hnow : now <= 1099511627776) (ha : Adopts s s1 m.members) (htop : s1.top <= 1) :
 Calls Tryz.prog 153 #[.pointer (some ⟨N,0,none⟩),.agg (msgV m vm).toArray] w fun e w'=>(∃ r,e = .returned r) /\ ∃ h' τ',NodeAt w' τ' ts n N d k i (s1.take now m.tick) h' /\ Chg (NT ts n) w τ w' τ':=by
 have hee : s.m.e = 0 \/ s.m.e = 1:=by rcases ha with ⟨h,-⟩ | ⟨-,h,-⟩ <;> omega
 obtain ⟨y,hy1,hy2⟩:=fresh95 w τ
 have hy : ¬ NT ts n y:=by obtain ⟨g1,g2,g3⟩:=hf;unfold NT ST;omega
 obtain ⟨W0,hW0⟩ : ∃ W,W = w.alloc (.cells (msgV m vm).toArray 182):=⟨_,rfl⟩
 have hc0 : Chg (fun _=>False) w τ W0 (ext τ w y):=by rw [hW0];exact ((Chg.refl _ _ _).alloc _).ext _
 have hB0 : Has W0 (ext τ w y) y w.heap.size 182 (msgV m vm).toArray:=⟨by rw [hW0];exact Blk.new _ _ _,ext_new (Nat.le_refl _)⟩
 have hN0:=H.keep hc0 hf.1 fun _ h=>h.elim
 have hk0:=hk.keep hc0 (fun h=>h)
 have hm0:=hm.keep hc0 (fun h=>h)
 generalize ext τ w y = τ0 at *
 obtain ⟨mv,pv,hNb,-,-⟩:=hN0.out.ex
 obtain ⟨cf,jf,kp,hS,-,-,hK,-⟩:=hN0.store.ex
 have c0 : W0.cell? ⟨N,0,none⟩ = some (.pointer (some ⟨h.S,0,none⟩)):=hNb.cell 0
 have s2 : W0.cell? ⟨h.S,2,none⟩ = some (.pointer (some ⟨kp,0,none⟩)):=hS.cell 2
 have HM:=Lib.hid (meta48 W0 τ0 (ts + 1) kp d 0 s.tn s.m hK)
 have HA : Hid (∀ W,Below W0.heap.size W0 W -> ∃ τ',NodeAt W τ' ts n N d k i s h /\ Has W τ' y w.heap.size 182 (msgV m vm).toArray /\ ClockAt W τ' tk k now /\ Rw W τ' tm 3 1 vm m.members.length (nnums m.members) /\ Chg (fun _=>False) w τ W τ'):=Lib.hid fun W hb=>by
  have hc : Chg (fun _=>False) W0 τ0 W (ext τ0 W0 0):=Chg.of_below hb _
  exact ⟨_,hN0.keep hc hf.1 (fun _ h=>h.elim),hB0.keep hc (fun h=>h),hk0.keep hc (fun h=>h),hm0.keep hc (fun h=>h),hc0.trans hc⟩
 have HF:=Lib.hid (And.intro hf (And.intro hy (And.intro htk htm)))
 have HX:=Lib.hid (And.intro hok (And.intro ha (And.intro htop (And.intro hmt hnow))))
 have HW:=Lib.hid hW0
 have HKd:=Lib.hid (And.intro hkd hme)
 have hf1:=field45_1
 clear H hk hf htk hm htm hok ha htop hy1 hy2 hy hc0 hB0 hN0 hk0 hm0 hNb hS hK hW0 hkd hme hmt hnow
 rcases hee with hee | hee
 all_goals (
  rw [hee] at HM
  first | rw [show ((0 : Nat) : Int) = 0 from rfl] at HM | rw [show ((1 : Nat) : Int) = 1 from rfl] at HM
  clear hee
  go_enter Tryz.func153,Tryz.ntmps153
  go_wp2_with (first | rw [<- HW.out] | (go_at_call 48;fail))
  refine HM.out.mono ?_
  rintro e w1 ⟨rfl,hb1⟩
  have HB1:=Lib.hid hb1
  obtain ⟨τ1,a1,a2,a3,a4,a5⟩:=HA.out w1 hb1
  have b0 : w1.cell? ⟨w.heap.size,0,none⟩ = some (.int .i64 2):=by rw [a2.cell 0];simp [msgV,HKd.out.1]
  have b3 : w1.cell? ⟨w.heap.size,3,none⟩ = some (.int .i64 1):=by rw [a2.cell 3];simp [msgV,HKd.out.2]
  have b18 : w1.cell? ⟨w.heap.size,18,none⟩ = some vm:=by rw [a2.cell 18];rfl
  have HAd:=Lib.hid (adopt190 w1 τ1 ts n N d k i tm s s1 h a1 HF.out.1 vm m.members a4 HF.out.2.2.2 HX.out.1 HX.out.2.1)
  have HB2:=Lib.hid a2
  have HK2:=Lib.hid a3
  have HC2:=Lib.hid a5
  clear a1 a2 a3 a4 a5 hb1 HM
  go_wp2_with (go_at_call 190;fail)
  refine HAd.out.mono ?_
  rintro e w2 ⟨⟨r,rfl⟩,h2,τ2,hn2,hc2⟩
  have hB2:=HB2.out.keep hc2 HF.out.2.1
  have hk2:=HK2.out.keep hc2 HF.out.2.2.1
  have b0 : w2.cell? ⟨w.heap.size,0,none⟩ = some (.int .i64 2):=by rw [hB2.cell 0];simp [msgV,HKd.out.1]
  have b3 : w2.cell? ⟨w.heap.size,3,none⟩ = some (.int .i64 1):=by rw [hB2.cell 3];simp [msgV,HKd.out.2]
  have b4 : w2.cell? ⟨w.heap.size,4,none⟩ = some (.int .i64 (m.tick : Int)):=by rw [hB2.cell 4];rfl
  obtain ⟨mv2,pv2,hNb2,-,-⟩:=hn2.out.ex
  have hcd : Chg (fun _=>False) w2 τ2 w2.drew τ2:=(Chg.refl _ _ _).drew
  have S2 : Hid (GrS N h2.L w.heap.size m w2.drew):=Lib.hid ⟨hNb2.cell 1,b4,b3⟩
  have HTk:=Lib.hid (take191 w2.drew τ2 (n + 576) h2.L k s1.ep s1.en s1.top tk now m.tick 1 (hn2.lease.keep hcd (fun h=>h)) (hk2.keep hcd (fun h=>h)) (Nat.le_refl _) HX.out.2.2.1 HX.out.2.2.2.1 HX.out.2.2.2.2)
  have HN2:=Lib.hid hn2
  have HC3:=Lib.hid ((HC2.out.mono fun _ h=>h.elim).trans hc2)
  clear hn2 hc2 hB2 hk2 hNb2 hcd HAd HC2 HB2 HK2
  go_wp2_with fail
  refine wp_region_hl [] [0,1,2,3,4,5,6,7] (GrS N h2.L w.heap.size m) (by kernel_rfl) (by kernel_rfl) S2.out ?_
  iterate 7 (refine hd_take (v:=?_) rfl rfl (by kernel_rfl) (fun W hW=>?_) ?_;rotate_left;(obtain ⟨r0,r1,r2⟩:=hW;first | (go_simp;done) | (go_simp;with_reducible rfl)))
  refine hd_take (v:=?_) rfl rfl (by kernel_rfl) (fun W hW=>?_) (hd_end ?_)
  rotate_left
  ·obtain ⟨r0,r1,r2⟩:=hW;first | (go_simp;done) | (go_simp;with_reducible rfl)
  simp only [List.length_cons,List.length_nil,List.drop_succ_cons,List.drop_zero,Nat.zero_add,Nat.reduceAdd]
  go_wp2_with (go_at_call 191;fail)
  refine HTk.out.mono ?_
  rintro e w3 ⟨⟨bb,rfl⟩,hl3,hc3⟩
  have HFF : Hid (NodeAt w3 τ2 ts n N d k i (s1.take now m.tick) h2 /\ Chg (NT ts n) w τ w3 τ2):=Lib.hid (by
   have hcc:=((Chg.refl (· = n + 576) w2 τ2).drew).trans hc3
   exact ⟨HN2.out.setLease HF.out.1 hl3 hcc,HC3.out.trans (hcc.mono fun x hx=>.inr (by have:=HF.out.1.1;omega))⟩)
  clear hl3 hc3
  go_wp2
  refine bodyPost_end (by first | rfl | (simp [results];rfl)) rfl ?_
  exact ⟨⟨_,rfl⟩,h2,τ2,HFF.out⟩)
end Go.Proofs.Ytlhekbjidppijaa
namespace Go.Proofs.Ytlhekbjidppijaa
open Go.RowKit
structure OutIs (w : World) (τ : Own) (ts n N d k i : Nat) (v : Value) (s : PNode) : Prop where
 ex : ∃ mv pv h,v = .agg #[mv,pv] /\ NodeAt w τ ts n N d k i { s with ms:=[],rs:=[] } h /\ NRw w τ (n + 288) mv s.ms /\ RRw w τ (n + 480) pv s.rs
theorem OutIs.keep {T : Nat -> Prop} {w w' : World} {τ τ' : Own} {ts n N d k i : Nat} {v : Value} {s : PNode} (H : OutIs w τ ts n N d k i v s) (hc : Chg T w τ w' τ') (hn : n < 95) (hT : ∀ x,T x -> ¬ NT ts n x) : OutIs w' τ' ts n N d k i v s:=by
 obtain ⟨mv,pv,h,e,a,b,c⟩:=H.ex
 exact ⟨mv,pv,h,e,a.keep hc hn hT,b.keep hc fun h=>hT _ h (.inr (by omega)),c.keep hc fun h=>hT _ h (.inr (by omega))⟩
theorem loadVar_out {W : World} {g : Nat} {mv pv : Value} (h : Blk W g 102 #[mv,pv]) : (loadVar 102 ⟨g,0,none⟩).run Tryz.prog W = .ok (.agg #[mv,pv]) W:=
 run_loadVarAgg W 102 g 0 [mv,pv] 2 (by kernel_rfl) (by kernel_rfl) rfl (fun j v hj=>by rw [Nat.zero_add,h.cell j,<- hj];simp)
theorem NodeAt.did {w : World} {τ : Own} {ts n N d k i : Nat} {s : PNode} {h : Hd} (H : NodeAt w τ ts n N d k i s h) (hf : Far ts n) :
 Calls Tryz.prog 113 #[.pointer (some ⟨N,0,none⟩)] w fun e w'=>∃ A c B e',e = .returned (.agg #[.slice A s.ms.length c,.slice B s.rs.length e']) /\ OutIs w' τ ts n N d k i (.agg #[.slice A s.ms.length c,.slice B s.rs.length e']) s /\ Chg (· = n) w τ w' τ:=by
 refine (nodeDid w τ ts n N d k i s h H hf).mono ?_
 rintro e w' ⟨mv,pv,rfl,a,b,c,hc⟩
 obtain ⟨A,cc,rfl⟩:=b.value
 obtain ⟨B,dd,rfl⟩:=c.value
 exact ⟨A,cc,B,dd,rfl,⟨_,_,h,rfl,a,b,c⟩,hc⟩
set_option maxRecDepth 20000 in
set_option maxHeartbeats 1000000 in
theorem ask89 (w : World) (τ : Own) (ts n N d k i tk now ci op : Nat) (key : ByteArray) (s s' : PNode) (h : Hd) (H : NodeAt w τ ts n N d k i s h) (hk : ClockAt w τ tk k now) (hf : Far ts n) (htk : ¬ NT ts n tk) (ha : s.ask? i now ⟨0,ci,op,key⟩ = some s') :
 Calls Tryz.prog 89 #[.pointer (some ⟨N,0,none⟩),.int .i64 (ci : Int),.int .i64 (op : Int),.string key] w fun e w'=>∃ v τ',e = .returned v /\ OutIs w' τ' ts n N d k i v s' /\ Chg (NT ts n) w τ w' τ':=by
 obtain ⟨y,hy1,hy2⟩:=fresh95 w τ
 obtain ⟨W1,hW1⟩ : ∃ W,W = w.alloc (.cells #[.slice none 0 0,.slice none 0 0] 102):=⟨_,rfl⟩
 have hc1 : Chg (fun _=>False) w τ W1 (ext τ w y):=by rw [hW1];exact ((Chg.refl _ _ _).alloc _).ext _
 have hO : Has W1 (ext τ w y) y w.heap.size 102 #[.slice none 0 0,.slice none 0 0]:=⟨by rw [hW1];exact Blk.new _ _ _,ext_new (Nat.le_refl _)⟩
 have HA:=Lib.hid (ask121 W1 (ext τ w y) ts n N d k i tk now s s' h (H.keep hc1 hf.1 fun _ h=>h.elim) (hk.keep hc1 id) hf htk _ ha)
 have hy : ¬ NT ts n y:=by obtain ⟨g1,g2,g3⟩:=hf;unfold NT ST;omega
 have HY:=Lib.hid hy
 have HF:=Lib.hid hf
 have HC1:=Lib.hid hc1
 have HO:=Lib.hid hO
 have HW:=Lib.hid hW1
 unfold encW at HA
 clear H hk hf htk ha hc1 hO hW1 hy hy1 hy2
 go_enter Tryz.func89,Tryz.ntmps89
 go_wp2_with (first | rw [<- HW.out] | (go_at_call 121;fail))
 refine HA.out.mono ?_
 rintro e w2 ⟨⟨r,rfl⟩,h2,τ2,hn2,hc2⟩
 have HO2:=Lib.hid (HO.out.keep hc2 HY.out)
 have HD:=Lib.hid (hn2.did HF.out)
 have HC2:=Lib.hid ((HC1.out.mono fun _ h=>h.elim).trans hc2)
 clear hn2 hc2 HA
 go_wp2_with (go_at_call 113;fail)
 refine HD.out.mono ?_
 rintro e w3 ⟨A,ca,B,cb,rfl,ho3,hc3⟩
 have hO3:=HO2.out.keep hc3 (by intro e;exact HY.out (.inr (by have:=HF.out.1;omega)))
 have o0 : w3.cell? ⟨w.heap.size,0,none⟩ = some (.slice none 0 0):=hO3.cell 0
 have o1 : w3.cell? ⟨w.heap.size,1,none⟩ = some (.slice none 0 0):=hO3.cell 1
 have p0:=hO3.frozen 0
 have p1:=hO3.frozen 1
 have HB : Hid (∀ W,W = (w3.setCell ⟨w.heap.size,0,none⟩ (.slice A s'.ms.length ca)).setCell ⟨w.heap.size,1,none⟩ (.slice B s'.rs.length cb) -> Blk W w.heap.size 102 #[.slice A s'.ms.length ca,.slice B s'.rs.length cb] /\ OutIs W τ2 ts n N d k i (.agg #[.slice A s'.ms.length ca,.slice B s'.rs.length cb]) s' /\ Chg (NT ts n) w τ W τ2):=Lib.hid fun W hW=>by
  have hc4 : Chg (fun q=>q = y) w3 τ2 W τ2:=by rw [hW];exact ((Chg.refl _ _ _).setCell (p:=⟨w.heap.size,0,none⟩) hO3.own _).setCell (p:=⟨w.heap.size,1,none⟩) hO3.own _
  have hc4' : Chg (NT ts n) w τ W τ2:=by
   rw [hW]
   exact ((HC2.out.trans (hc3.mono fun x hx=>(show NT ts n x from .inr (by have:=HF.out.1;omega)))).setNew (p:=⟨w.heap.size,0,none⟩) (Nat.le_refl _) _).setNew (p:=⟨w.heap.size,1,none⟩) (Nat.le_refl _) _
  exact ⟨by rw [hW];exact ((hO3.set_ 0 (.slice A s'.ms.length ca)).set_ 1 (.slice B s'.rs.length cb)).blk,ho3.keep hc4 HF.out.1 (fun x hx=>by rw [hx];exact HY.out),hc4'⟩
 clear ho3 hc3 hO3 HD HC2 HO2
 go_wp2
 refine bodyPost_ret (results_cell rfl _ _ _ ⟨w.heap.size,0,none⟩ (.agg #[.slice A s'.ms.length ca,.slice B s'.rs.length cb]) rfl ?_) rfl ?_
 ·exact loadVar_out (HB.out _ rfl).1
 exact ⟨_,τ2,rfl,(HB.out _ rfl).2⟩
end Go.Proofs.Ytlhekbjidppijaa
namespace Go.Proofs.Ytlhekbjidppijaa
open Go.RowKit
def whoM (m : PMsg) : PWho:=⟨m.src,m.id,m.op,m.key⟩
def ForS (N S kp b : Nat) (m : PMsg) (W : World) : Prop:=W.cell? ⟨N,0,none⟩ = some (.pointer (some ⟨S,0,none⟩)) /\ W.cell? ⟨S,2,none⟩ = some (.pointer (some ⟨kp,0,none⟩)) /\ W.cell? ⟨b,3,none⟩ = some (.int .i64 (m.epoch : Int))
set_option maxRecDepth 20000 in
set_option maxHeartbeats 1000000 in
theorem foreign158 (w : World) (τ : Own) (ts n N d k i tk now : Nat) (m : PMsg) (vm : Value) (s s' : PNode) (h : Hd) (H : NodeAt w τ ts n N d k i s h) (hk : ClockAt w τ tk k now) (hf : Far ts n) (htk : ¬ NT ts n tk) (hme : m.epoch = s.m.e) (ha : s.ask? i now (whoM m) = some s') :
 Calls Tryz.prog 158 #[.pointer (some ⟨N,0,none⟩),.agg (msgV m vm).toArray] w fun e w'=>(∃ r,e = .returned r) /\ ∃ h' τ',NodeAt w' τ' ts n N d k i s' h' /\ Chg (NT ts n) w τ w' τ':=by
 obtain ⟨W0,hW0⟩ : ∃ W,W = w.alloc (.cells (msgV m vm).toArray 182):=⟨_,rfl⟩
 have hB0 : Blk W0 w.heap.size 182 (msgV m vm).toArray:=by rw [hW0];exact Blk.new _ _ _
 have hc0 : Chg (fun _=>False) w τ W0 (ext τ w (n + 864)):=by rw [hW0];exact ((Chg.refl _ _ _).alloc _).ext _
 have hX0 : Has W0 (ext τ w (n + 864)) (n + 864) w.heap.size 182 (msgV m vm).toArray:=⟨hB0,ext_new (Nat.le_refl _)⟩
 generalize ext τ w (n + 864) = τ0 at hc0 hX0
 obtain ⟨W1,hW1⟩ : ∃ W,W = W0.alloc (.cells (encW (whoM m)).toArray 106):=⟨_,rfl⟩
 have hc1 : Chg (fun _=>False) W0 τ0 W1 (ext τ0 W0 (n + 864)):=by rw [hW1];exact ((Chg.refl _ _ _).alloc _).ext _
 have hY1 : Has W1 (ext τ0 W0 (n + 864)) (n + 864) W0.heap.size 106 (encW (whoM m)).toArray:=⟨by rw [hW1];exact Blk.new _ _ _,ext_new (Nat.le_refl _)⟩
 have hX1:=hX0.keep hc1 id
 have hc01:=hc0.trans hc1
 have hN1:=H.keep hc01 hf.1 fun _ h=>h.elim
 have hk1:=hk.keep hc01 (fun h=>h)
 generalize ext τ0 W0 (n + 864) = τ1 at hc01 hN1 hk1 hX1 hY1 hc1
 obtain ⟨mv,pv,hNb,-,-⟩:=hN1.out.ex
 obtain ⟨cf,jf,kp,hS,-,-,hK,-⟩:=hN1.store.ex
 have HA : Hid (∀ W,Below W1.heap.size W1 W -> ForS N h.S kp w.heap.size m W /\ ∃ τ',NodeAt W τ' ts n N d k i s h /\ Has W τ' (n + 864) W0.heap.size 106 (encW (whoM m)).toArray /\ ClockAt W τ' tk k now /\ Chg (fun _=>False) w τ W τ'):=Lib.hid fun W hb=>by
  have hc : Chg (fun _=>False) W1 τ1 W (ext τ1 W1 0):=Chg.of_below hb _
  have a1:=hNb.keep hc id
  exact ⟨⟨a1.cell 0,(hS.keep hc id).cell 2,(hX1.keep hc id).cell 3⟩,_,hN1.keep hc hf.1 (fun _ h=>h.elim),hY1.keep hc id,hk1.keep hc (fun h=>h),hc01.trans hc⟩
 have HM:=Lib.hid (meta48 W1.drew τ1 (ts + 1) kp d 0 s.tn s.m (hK.keep (Chg.refl (fun _=>False) W1 τ1).drew id id))
 have S1:=Lib.hid (HA.out W1.drew (Below.refl _ W1).drew).1
 have hIn : MsgIn W0 w.heap.size m vm:=MsgIn.of hB0
 unfold MsgIn at hIn
 obtain ⟨b0,b1,b2,b3,b4,b5,b6,b7,b8,b9,-⟩:=hIn
 have HF:=Lib.hid (And.intro hf htk)
 have HAs:=Lib.hid ha
 have HW0:=Lib.hid hW0
 have HW1:=Lib.hid hW1
 have hf1:=field45_1
 have e1 : ((m.epoch : Int) != (s.m.e : Int)) = false:=by rw [bne_eq_false_iff_eq];omega
 unfold encW whoM at HW1
 dsimp only at HW1
 clear H hk hf htk ha hB0 hc0 hX0 hc1 hY1 hX1 hc01 hN1 hk1 hNb hS hK hW0 hW1 hme
 go_enter Tryz.func158,Tryz.ntmps158
 go_wp2_with (first | rw [<- HW0.out] | rw [<- HW1.out] | fail)
 refine wp_region_hl [9] [0,1,2,3,4,5,6,7,8,9,10] (ForS N h.S kp w.heap.size m) (by kernel_rfl) (by kernel_rfl) S1.out ?_
 iterate 9 (refine hd_take (v:=?_) rfl rfl (by kernel_rfl) (fun W hW=>?_) ?_;rotate_left;(obtain ⟨r0,r1,r2⟩:=hW;first | (go_simp;done) | (go_simp;with_reducible rfl)))
 refine hd_loud rfl rfl fun K hK=>?_
 go_simp
 refine HM.out.mono ?_
 rintro e w2 ⟨rfl,hb2⟩
 have HB2:=Lib.hid ((Below.refl W1.heap.size W1).drew.trans (hb2.mono (Nat.le_refl _)))
 obtain ⟨S2,τ2,a1,a2,a3,a4⟩:=HA.out w2 HB2.out
 have c0 : w2.cell? ⟨W0.heap.size,0,none⟩ = some (.int .i64 (m.src : Int)):=a2.cell 0
 have c1 : w2.cell? ⟨W0.heap.size,1,none⟩ = some (.int .i64 (m.id : Int)):=a2.cell 1
 have c2 : w2.cell? ⟨W0.heap.size,2,none⟩ = some (.int .i64 (m.op : Int)):=a2.cell 2
 have c3 : w2.cell? ⟨W0.heap.size,3,none⟩ = some (.string m.key):=a2.cell 3
 have HAk:=Lib.hid (ask121 w2 τ2 ts n N d k i tk now s s' h a1 a3 HF.out.1 HF.out.2 (whoM m) HAs.out)
 have HC2:=Lib.hid a4
 have HS2:=Lib.hid S2
 clear hb2 a1 a2 a3 a4 S2
 refine hK _ _ HS2.out ?_
 clear hK
 refine hd_take (v:=?_) rfl rfl (by kernel_rfl) (fun W hW=>?_) (hd_end ?_)
 rotate_left
 ·first | (go_simp;done) | (go_simp;with_reducible rfl)
 simp only [List.length_cons,List.length_nil,List.drop_succ_cons,List.drop_zero,Nat.zero_add,Nat.reduceAdd]
 unfold encW whoM at HAk
 dsimp only at HAk
 go_wp2_with (go_at_call 121;fail)
 refine HAk.out.mono ?_
 rintro e w3 ⟨⟨r,rfl⟩,h3,τ3,k1,k2⟩
 have HFF:=Lib.hid (And.intro k1 ((HC2.out.mono fun _ h=>h.elim).trans k2))
 clear k1 k2
 go_wp2
 refine bodyPost_end (by first | rfl | (simp [results];rfl)) rfl ?_
 exact ⟨⟨_,rfl⟩,h3,τ3,HFF.out⟩
end Go.Proofs.Ytlhekbjidppijaa
