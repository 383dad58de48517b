/- Contracts of functions that the Top rows reach, and plain laws for them: what each returns and what it leaves in memory. Conditions: those that each theorem names. -/
import Derived.Test.YtlhekbjidppijaaGreatMAB
import Derived.Test.YtlhekbjidppijaaGreatMAN
import Derived.Test.YtlhekbjidppijaaGreatMAP
import Derived.Test.YtlhekbjidppijaaGreatMAT
import Derived.Test.YtlhekbjidppijaaGreatMAU
set_option linter.unusedVariables false
set_option linter.unusedSimpArgs false
namespace Go.Proofs.Ytlhekbjidppijaa
open Go.RowKit
theorem info359 : (Tryz.prog.info? 359).map (fun i=>(i.zero.map Value.cells,i.size,i.bytes)) = some (some #[.int .i64 0,.slice none 0 0],2,32):=by kernel_rfl
theorem bv_append (a b : List Nat) : bv (a ++ b) = bv a ++ bv b:=by simp [bv]
def ApN (lp nxt : Nat) (W : World) : Prop:=W.cell? ⟨lp,4,none⟩ = some (.int .i64 (nxt : Int)) /\ True
def ApG (g : Nat) (v : Value) (W : World) : Prop:=W.cell? ⟨g,3,none⟩ = some v /\ True
def ApQ (lp g nxt : Nat) (v : Value) (W : World) : Prop:=W.cell? ⟨lp,4,none⟩ = some (.int .i64 (nxt : Int)) /\ W.cell? ⟨g,4,none⟩ = some v
def ApR (lp d nxt : Nat) (W : World) : Prop:=W.cell? ⟨lp,4,none⟩ = some (.int .i64 ((nxt : Int) + 1)) /\ W.cell? ⟨lp,0,none⟩ = some (.pointer (some ⟨d,0,none⟩))
set_option maxRecDepth 20000 in
set_option maxHeartbeats 8000000 in
theorem append211 (w : World) (τ : Own) (t td lp d from_ segs n : Nat) (fr : Bool) (bodies : List (List UInt8)) (Z : Nat -> Prop) (body : List UInt8) (B o m cB : Nat)
 (hL : LogAt w τ t lp d from_ segs fr bodies) (hD : DevAt w τ td d n Z) (htd : td < 95) (hne : td ≠ t) (hk : bodies.length < segs) (hn : from_ + segs * 8 <= n) (hn2 : n <= 2048)
 (hm : body.length = m) (hm1 : 1 <= m) (hm3 : m <= 300) (hs : Sl w (some ⟨B,o,none⟩) (ub body)) (hB : B < w.heap.size) (hB2 : τ B % 96 ≠ t) (hB3 : τ B ≠ td) :
 Calls Tryz.prog 211 #[.pointer (some ⟨lp,0,none⟩),.slice (some ⟨B,o,none⟩) m cB] w fun e w'=>e = .returned (.tuple #[.int .i64 ((bodies.length + 1 : Nat) : Int),.int .i64 0]) /\
  ∃ τ',LogAt w' τ' t lp d from_ segs false (bodies ++ [body]) /\ DevAt w' τ' td d n (fun _=>False) /\ Chg (fun x=>x % 96 = t \/ x = td) w τ w' τ':=by
 obtain ⟨S,hS,hfl,hnn⟩:=hL.ex
 obtain ⟨y,hy1,hy2⟩:=fresh95 w τ
 have ht:=hS.ht
 have hsl:=segs_le S hnn
 rw [hfl] at hsl
 have HT : Hid (t < 95 /\ td < 95 /\ td ≠ t /\ y % 96 = 95):=Lib.hid ⟨ht,htd,hne,hy1⟩
 have HK:=Lib.hid hk
 have HN : Hid (from_ + segs * 8 <= n /\ n <= 2048):=Lib.hid ⟨hn,hn2⟩
 have HFR : Hid (∀ W τ',Chg (fun x=>x % 96 = t \/ x = td \/ x = y) w τ W τ' -> Chg (fun x=>x % 96 = t \/ x = td) w τ W τ'):=Lib.hid fun W τ' h=>h.fresh fun i hi e=>by
  rcases e with e | e | e
  ·exact .inl e
  ·exact .inr e
  ·exact absurd e (hy2 i hi)
 have HUB : Hid ((ub body).length = m * 1 /\ m <= 1073741824 /\ ∀ W τ',Chg (fun x=>x % 96 = t \/ x = td \/ x = y) w τ W τ' -> Sl W (some ⟨B,o,none⟩) (ub body)):=Lib.hid ⟨by simp [ub_length,hm],by omega,fun W τ' h=>hs.other h (by
  rintro a ha
  cases ha
  exact ⟨hB,fun e=>e.elim hB2 fun e=>e.elim hB3 (hy2 B hB)⟩)⟩
 have eub : ub body = bv (body.map UInt8.toNat):=by simp [ub,bv]
 have HBD : Hid (∀ W τ',Chg (fun x=>x % 96 = t \/ x = td \/ x = y) w τ W τ' -> Sl W (some ⟨B,o,none⟩) (bv (body.map UInt8.toNat)) /\ ∀ x ∈ body.map UInt8.toNat,x < 256):=Lib.hid fun W τ' h=>⟨eub ▸ HUB.out.2.2 W τ' h,fun x hx=>by
  obtain ⟨b,_,rfl⟩:=List.mem_map.1 hx
  exact b.toNat_lt⟩
 have HML:=Lib.hid hm
 have HPOS : Hid (0 < body.length):=Lib.hid (by omega)
 have HDF:=Lib.hid (hD.less (Z':=fun _=>False) fun _ h=>h.elim)
 have HSL:=Lib.hid hsl
 have HFL:=Lib.hid hfl
 have HNN:=Lib.hid hnn
 have HM3 : Hid (1 <= m /\ m <= 300):=Lib.hid ⟨hm1,hm3⟩
 have m1 : (1 : Int) <= (m : Int):=by omega
 have m2 : (m : Int) <= 300:=by omega
 have m3 : ¬ ((m : Int) < 1):=by omega
 have m4 : ¬ ((300 : Int) < (m : Int)):=by omega
 clear hL hD hy1 hy2 hs hB hB2 hB3 eub hsl hfl hnn hm hm1 hm3 htd hne hk hn hn2
 obtain ⟨vL,h1,h2⟩:=hS.ex
 obtain ⟨A,c,rfl,hcc,-,-,hsl,hA,hA2⟩:=h2.slice
 have p1 : w.cell? ⟨lp,3,none⟩ = some (.slice A S.length c):=h1.cell 3
 have h0 : S.length = 0 \/ ¬ S.length = 0:=by omega
 rcases h0 with h0 | h0
 focus (
  have hs0 : S = []:=List.eq_nil_of_length_eq_zero h0
  subst hs0
  have HBG:=Lib.hid (begin245 w τ t td lp d from_ segs (1 + bodies.length) n fr [] _ hS HDF.out HT.out.2.1 HT.out.2.2.1 (by have:=HK.out;simp;omega) HN.out.1 HN.out.2 (by rw [HFL.out]))
  clear hS h1 h2 hcc hsl hA hA2
  go_enter Tryz.func211,Tryz.ntmps211
  go_wp2_with fail
  refine HBG.out.mono ?_
  rintro e w1 ⟨rfl,τ1,g,hS1,hD1,hC1⟩
  obtain ⟨S0,hS0⟩ : ∃ S0 : Segs,S0 = []:=⟨_,rfl⟩
  obtain ⟨bs,hbs⟩ : ∃ bs : List (List UInt8),bs = []:=⟨_,rfl⟩
  have HST : Hid (LogS w1 τ1 t lp d from_ segs (1 + bodies.length) fr (S0 ++ [(g,bs)]) /\ DevAt w1 τ1 td d n (fun _=>False) /\ Chg (fun x=>x % 96 = t \/ x = td) w τ w1 τ1):=Lib.hid ⟨by rw [hS0,hbs];exact hS1,hD1,hC1⟩
  have HPL : Hid (S0.flatMap (·.2) ++ bs = bodies /\ (∀ p ∈ S0,p.2 ≠ []) /\ used bs + 8 + m <= 378 /\ S0.length <= bodies.length):=Lib.hid ⟨by rw [hS0,hbs,<- HFL.out];rfl,by rw [hS0];simp,by have:=HM3.out;rw [hbs];simp [used];omega,by rw [hS0];simp⟩
  clear hS1 hD1 hC1 hS0 hbs HSL HFL HNN HBG p1 HDF)
 rotate_left
 focus (
  obtain ⟨S0,⟨g,bs⟩,rfl⟩ : ∃ (S0 : Segs) (p : Nat × List (List UInt8)),S = S0 ++ [p]:=by
   have hne : S ≠ []:=by intro h;subst h;exact h0 rfl
   exact ⟨S.dropLast,S.getLast hne,(List.dropLast_concat_getLast hne).symm⟩
  have hlen : (S0 ++ [(g,bs)]).length = S0.length + 1:=by simp
  rw [hlen] at p1 hcc hA
  obtain ⟨a0,rfl⟩ : ∃ a,A = some ⟨a,0,none⟩:=by
   cases A with
   | none=>exact absurd (hA rfl).1 (by omega)
   | some a=>
    obtain ⟨b,o,s⟩:=a
    obtain ⟨rfl,rfl,_⟩:=hA2 _ rfl
    exact ⟨b,rfl⟩
  have p2 : w.cell? ⟨a0,S0.length,none⟩ = some (.pointer (some ⟨g,0,none⟩)):=by
   have e : (Segs.ptrs (S0 ++ [(g,bs)]))[S0.length]? = some (ptr g):=by simp [Segs.ptrs]
   obtain ⟨b',o',h7,h8⟩:=hsl (by intro h;rw [h] at e;cases e)
   cases h7
   have:=h8 _ _ e
   rwa [Nat.zero_add] at this
  obtain ⟨nb,hnb⟩ : ∃ nb,nb = used bs:=⟨_,rfl⟩
  obtain ⟨X,cx,p3⟩ : ∃ X cx,w.cell? ⟨g,3,none⟩ = some (.slice X nb cx):=by
   obtain ⟨bvv,nb',lb,rvv,vs,a1,a2,a3,a4,_⟩:=(hS.seg S0.length (g,bs) (by rw [List.getElem?_append_right (Nat.le_refl _),Nat.sub_self];rfl)).ex
   obtain ⟨X,cx,rfl,-⟩:=a2.slice
   refine ⟨X,cx,?_⟩
   rw [hnb,<- a4]
   exact a1.cell 3
  have hs0 : S0.length + 1 <= bodies.length:=by have:=HSL.out;rw [hlen] at this;exact this
  have hkk:=HK.out
  have hnn:=HN.out
  have r0 : ¬ ((S0.length : Int) + 1 = 0):=by omega
  have r0' : ((S0.length : Int) + 1 == 0) = false:=by rw [beq_eq_false_iff_ne];exact r0
  have r3 : (0 : Int) <= (S0.length : Int):=by omega
  have r4 : (S0.length : Int) < (S0.length : Int) + 1:=by omega
  have r5 : (S0.length : Int) <= 100000:=by omega
  have hfull : (370 : Int) - (m : Int) < (nb : Int) \/ ¬ ((370 : Int) - (m : Int) < (nb : Int)):=by omega
  rcases hfull with hfull | hfull
  focus (
   have HBG:=Lib.hid (begin245 w τ t td lp d from_ segs (1 + bodies.length) n fr (S0 ++ [(g,bs)]) _ hS HDF.out HT.out.2.1 HT.out.2.2.1 (by rw [hlen];omega) HN.out.1 HN.out.2 (by rw [HFL.out]))
   clear hS h1 h2 hcc hsl hA hA2 hkk hnn
   go_enter Tryz.func211,Tryz.ntmps211
   go_wp2_with fail
   refine HBG.out.mono ?_
   rintro e w1 ⟨rfl,τ1,g',hS1,hD1,hC1⟩
   obtain ⟨S0,g,bs,HST,HPL⟩ : ∃ (S1 : Segs) (g1 : Nat) (bs1 : List (List UInt8)),Hid (LogS w1 τ1 t lp d from_ segs (1 + bodies.length) fr (S1 ++ [(g1,bs1)]) /\ DevAt w1 τ1 td d n (fun _=>False) /\ Chg (fun x=>x % 96 = t \/ x = td) w τ w1 τ1) /\ Hid (S1.flatMap (·.2) ++ bs1 = bodies /\ (∀ p ∈ S1,p.2 ≠ []) /\ used bs1 + 8 + m <= 378 /\ S1.length <= bodies.length):=
    ⟨S0 ++ [(g,bs)],g',[],Lib.hid ⟨hS1,hD1,hC1⟩,Lib.hid ⟨by rw [List.append_nil];exact HFL.out,HNN.out,by have:=HM3.out;simp [used];omega,HSL.out⟩⟩
   clear hS1 hD1 hC1 HSL HFL HNN HBG p1 p2 p3 HDF r0 r0' r3 r4 r5 hfull hnb hlen hs0)
  rotate_left
  focus (
   have hfull2 : decide ((370 : Int) - (m : Int) < (nb : Int)) = false:=by rw [decide_eq_false_iff_not];exact hfull
   have HST : Hid (LogS w τ t lp d from_ segs (1 + bodies.length) fr (S0 ++ [(g,bs)]) /\ DevAt w τ td d n (fun _=>False) /\ Chg (fun x=>x % 96 = t \/ x = td) w τ w τ):=Lib.hid ⟨hS,HDF.out,Chg.refl _ _ _⟩
   have HPL : Hid (S0.flatMap (·.2) ++ bs = bodies /\ (∀ p ∈ S0,p.2 ≠ []) /\ used bs + 8 + m <= 378 /\ S0.length <= bodies.length):=Lib.hid ⟨by have:=HFL.out;simpa using this,fun p hp=>HNN.out p (by simp [hp]),by rw [<- hnb];omega,by omega⟩
   clear hS h1 h2 hcc hsl hA hA2 hkk hnn HSL HFL HNN HDF hs0 hlen hnb
   go_enter Tryz.func211,Tryz.ntmps211
   go_wp2_with fail
   clear p1 p2 p3 r0 r0' r3 r4 r5 hfull hfull2
   obtain ⟨w1,τ1,hw1,HST⟩ : ∃ W T,w = W /\ Hid (LogS W T t lp d from_ segs (1 + bodies.length) fr (S0 ++ [(g,bs)]) /\ DevAt W T td d n (fun _=>False) /\ Chg (fun x=>x % 96 = t \/ x = td) w τ W T):=⟨w,τ,rfl,HST⟩
   rw [hw1]
   clear hw1))
 all_goals (
  obtain ⟨vL1,q1,q2⟩:=HST.out.1.ex
  obtain ⟨A1,c1,rfl,hcc1,-,-,hsl1,hA1,hA2⟩:=q2.slice
  have hlen : (S0 ++ [(g,bs)]).length = S0.length + 1:=by simp
  rw [hlen] at q1 q2 hcc1 hA1
  obtain ⟨a1,rfl⟩ : ∃ a,A1 = some ⟨a,0,none⟩:=by
   cases A1 with
   | none=>exact absurd (hA1 rfl).1 (by omega)
   | some a=>
    obtain ⟨b,o,s⟩:=a
    obtain ⟨rfl,rfl,_⟩:=hA2 _ rfl
    exact ⟨b,rfl⟩
  have r1 : w1.cell? ⟨lp,3,none⟩ = some (.slice (some ⟨a1,0,none⟩) (S0.length + 1) c1):=q1.cell 3
  have r2 : w1.cell? ⟨a1,S0.length,none⟩ = some (.pointer (some ⟨g,0,none⟩)):=by
   have e : (Segs.ptrs (S0 ++ [(g,bs)]))[S0.length]? = some (ptr g):=by simp [Segs.ptrs]
   obtain ⟨b',o',h7,h8⟩:=hsl1 (by intro h;rw [h] at e;cases e)
   cases h7
   have:=h8 _ _ e
   rwa [Nat.zero_add] at this
  have r3 : (0 : Int) <= (S0.length : Int):=by omega
  have r4 : (S0.length : Int) < (S0.length : Int) + 1:=by omega
  have hk8:=HPL.out.2.2.2
  have hk9:=HK.out
  have hk7:=HN.out
  have r5 : (S0.length : Int) <= 100000:=by omega
  clear q1 q2 hcc1 hsl1 hA1 hA2 hlen hk7 hk8 hk9
  go_wp2_with fail
  go_quiet (fail)
  go_wp2_with fail
  clear r1 r2 r3 r4 r5
  obtain ⟨vL,bvv,rvv,vs,hvs,hap⟩:=AP.start (y:=y) (w:=w) (τ:=τ) (HST.out.1.keep ((Chg.refl (fun _=>False) w1 τ1).drewN nq) (fun _ h=>h.elim)) (HST.out.2.1.drewN nq) ((HST.out.2.2.mono (T':=fun x=>x % 96 = t \/ x = td \/ x = y) (fun _ h=>h.imp_right .inl)).drewN nq) #[.int .u8 0,.int .u8 0,.int .u8 0,.int .u8 0,.int .u8 0,.int .u8 0,.int .u8 0,.int .u8 0] rfl
  replace hap : AP w τ t td y lp d from_ segs n g w1.heap.size S0 vL (1 + (S0.flatMap (·.2)).length) (1 + bodies.length) fr bvv bvv (used bs) rvv rvv bs.length vs bs ((w1.drewN nq).alloc (.cells #[.int .u8 0,.int .u8 0,.int .u8 0,.int .u8 0,.int .u8 0,.int .u8 0,.int .u8 0,.int .u8 0] 355)) (ext τ1 (w1.drewN nq) y):=hap
  have HPW : Hid (S0.flatMap (·.2) ++ bs = bodies /\ (∀ p ∈ S0,p.2 ≠ []) /\ used bs + 8 + m <= 378 /\ S0.length <= bodies.length):=HPL
  clear HST HPL
  generalize w1.heap.size = hb at *
  generalize (w1.drewN nq).alloc (.cells #[.int .u8 0,.int .u8 0,.int .u8 0,.int .u8 0,.int .u8 0,.int .u8 0,.int .u8 0,.int .u8 0] 355) = W2 at *
  generalize ext τ1 (w1.drewN nq) y = τ2 at *
  obtain ⟨base,hbase⟩ : ∃ b,b = 1 + (S0.flatMap (·.2)).length:=⟨_,rfl⟩
  obtain ⟨nxt,hnxt⟩ : ∃ b,b = 1 + bodies.length:=⟨_,rfl⟩
  obtain ⟨nb,hnb⟩ : ∃ b,b = used bs:=⟨_,rfl⟩
  obtain ⟨rn,hrn⟩ : ∃ b,b = bs.length:=⟨_,rfl⟩
  rw [<- hbase,<- hnxt,<- hnb,<- hrn] at hap
  have hnb3:=HPW.out.2.2.1
  have hk8:=HPW.out.2.2.2
  have hk9:=HK.out
  have hk7:=HN.out
  have hflen : S0.flatMap (·.2) ++ bs = bodies:=HPW.out.1
  have HNX : Hid (base + vs.length = nxt):=Lib.hid (by rw [hbase,hnxt,hvs,<- hflen,List.length_append];omega)
  rw [<- hnb] at hnb3
  have HX : Hid (nb + 8 + m <= 378 /\ rn <= 100000 /\ nxt <= 100000 /\ 1 <= m):=Lib.hid ⟨hnb3,by rw [hrn];have : bs.length <= bodies.length:=by { rw [<- hflen];simp };omega,by omega,by have:=HM3.out;omega⟩
  have HE : Hid (base = 1 + (S0.flatMap (·.2)).length /\ nxt = 1 + bodies.length /\ nb = used bs /\ rn = bs.length):=Lib.hid ⟨hbase,hnxt,hnb,hrn⟩
  have HVS:=Lib.hid hvs
  obtain ⟨lb0,hlb0,-⟩:=hap.hbf
  obtain ⟨Ab,cb,rfl,-⟩:=hlb0.slice
  have HN64 : Hid (IntKind.u64.wrap (nxt : Int) = (nxt : Int)):=Lib.hid (by have:=HX.out;exact IntWalk.u64_in _ ⟨by omega,by omega⟩)
  clear hlb0 lb0 hbase hnxt hnb hrn hvs hflen hk7 hk8 hk9 hnb3
  have HB0:=Lib.hid hap
  clear hap
  refine (put246x 355 _ τ2 y hb 0 2 8 8 HB0.out.hh (by decide) (by decide) _).mono ?_
  rintro e w3 ⟨⟨v,rfl⟩,hh1,hc1⟩
  have HB1:=Lib.hid (HB0.out.buf hc1 hh1 HT.out.1 HT.out.2.1 HT.out.2.2.2)
  clear hh1 hc1 HB0
  go_wp2_with fail
  have HB0:=Lib.hid (HB1.out.drewN 1)
  clear HB1
  have S13 : Hid (ApN lp nxt w3.drew):=Lib.hid ⟨HB0.out.hl.cell 4,trivial⟩
  have x64:=HN64.out
  refine wp_region_hl [] [0,1,2,3,4,5] (ApN lp nxt) (by kernel_rfl) (by kernel_rfl) S13.out ?_
  iterate 6 (refine hd_take (v:=?_) rfl rfl (by kernel_rfl) (fun W hW=>?_) ?_;rotate_left;(obtain ⟨r0,-⟩:=hW;first | (go_simp;done) | (go_simp;with_reducible rfl)))
  refine hd_end ?_
  simp only [List.length_cons,List.length_nil,List.drop_succ_cons,List.drop_zero,Nat.zero_add,Nat.reduceAdd]
  clear x64 S13
  go_wp2_with (go_at_call 246;fail)
  refine (put246x 355 _ τ2 y hb 2 6 6 8 HB0.out.hh (by decide) (by decide) _).mono ?_
  rintro e w4 ⟨⟨v,rfl⟩,hh1,hc1⟩
  have HB1:=Lib.hid (HB0.out.buf hc1 hh1 HT.out.1 HT.out.2.1 HT.out.2.2.2)
  clear hh1 hc1 HB0
  have c3:=HB1.out.hg.cell 3
  go_wp2_with fail
  clear c3
  have HB0:=Lib.hid (HB1.out.drewN 1)
  clear HB1
  obtain ⟨i0,z0,hi0⟩:=info_cells info5
  have HI:=Lib.hid hi0
  clear hi0
  have S15 : Hid (ApG g (.slice Ab nb cb) w4.drew):=Lib.hid ⟨HB0.out.hg.cell 3,trivial⟩
  refine wp_region_hl [6,8] [0,1,2,3,4,5,7,6,8] (ApG g (.slice Ab nb cb)) (by kernel_rfl) (by kernel_rfl) S15.out ?_
  iterate 7 (refine hd_take (v:=?_) rfl rfl (by kernel_rfl) (fun W hW=>?_) ?_;rotate_left;(obtain ⟨r0,-⟩:=hW;first | (go_simp;done) | (go_simp;with_reducible rfl)))
  refine hd_loud rfl rfl fun K hK=>?_
  obtain ⟨lb,hlb1,hlb2⟩:=HB0.out.hbf
  obtain ⟨lh,hl1,hl2,hl3⟩:=HB0.out.hh.sl
  refine step_append_row2 _ rfl (.tmp 88) (.tmp 89) 74 rfl τ2 (t + 96 * (S0.length + 3)) 5 i0 z0 1 1 (by kernel_rfl) HI.out.1 HI.out.2.1 HI.out.2.2.2.1 HI.out.2.2.2.2 (by rw [HI.out.2.2.1];rfl) (by decide) (.slice Ab nb cb) nb (bv lb) (by go_simp) hlb1 ⟨hb,0,none⟩ 8 8 (bv lh) (by go_simp) (by simp [bv,hl1]) (by have:=HX.out;omega) hl3 (by intro u hu;simp [bv] at hu;obtain ⟨x,hx,rfl⟩:=hu;rfl) (by have:=HX.out;omega) (by decide) ?_
  intro ga ca w5 hR hC hG
  rw [<- bv_append] at hR
  have HB1:=Lib.hid (HB0.out.app5 HT.out.1 HT.out.2.1 HT.out.2.2.1 HT.out.2.2.2 hR (by intro x hx;rcases List.mem_append.1 hx with hx | hx;exact hlb2 x hx;exact hl2 x hx) hC hG)
  refine hK _ _ ⟨HB1.out.hg.cell 3,trivial⟩ ?_
  clear hK hR hC hG hl1 hl2 hl3 hlb1 hlb2 lb lh
  refine hd_loud rfl rfl fun K hK=>?_
  obtain ⟨lb,hlb1,hlb2⟩:=HB1.out.hbf
  have hbd:=HBD.out w5 _ HB1.out.hc
  refine step_append_row2 _ rfl (.tmp 90) (.tmp 91) 74 rfl _ (t + 96 * (S0.length + 3)) 5 i0 z0 1 1 (by kernel_rfl) HI.out.1 HI.out.2.1 HI.out.2.2.2.1 HI.out.2.2.2.2 (by rw [HI.out.2.2.1];rfl) (by decide) (.slice (some ⟨ga,0,none⟩) (nb + 8) ca) (nb + 8) (bv lb) (by go_simp) hlb1 ⟨B,o,none⟩ m cB (bv (body.map UInt8.toNat)) (by go_simp) (by simp [bv];exact HML.out) (by have:=HX.out;omega) hbd.1 (by intro u hu;simp [bv] at hu;obtain ⟨x,hx,rfl⟩:=hu;rfl) (by have:=HX.out;omega) (by decide) ?_
  intro bo co w6 hR hC hG
  rw [<- bv_append] at hR
  have HB2:=Lib.hid (HB1.out.app5 HT.out.1 HT.out.2.1 HT.out.2.2.1 HT.out.2.2.2 hR (by intro x hx;rcases List.mem_append.1 hx with hx | hx;exact hlb2 x hx;exact hbd.2 x hx) hC hG)
  refine hK _ _ ⟨HB2.out.hg.cell 3,trivial⟩ (hd_end ?_)
  clear hK hR hC hG hlb1 hlb2 hbd lb HB0 HB1
  simp only [List.length_cons,List.length_nil,List.drop_succ_cons,List.drop_zero,Nat.zero_add,Nat.reduceAdd]
  have hf:=HB2.out.hg.frozen 3
  have hc3:=HB2.out.hg.cell 3
  have HB1:=Lib.hid (HB2.out.setG HT.out.1 HT.out.2.1 HT.out.2.2.1 HT.out.2.2.2 3 _ (.slice (some ⟨bo,0,none⟩) (nb + 8 + m) co) rvv rfl)
  go_wp2_with fail
  clear hf hc3 HB2 S15 HI i0 z0
  generalize w6.setCell ⟨g,3,none⟩ (.slice (some ⟨bo,0,none⟩) (nb + 8 + m) co) = w7 at HB1 ⊢
  have HCAP : Hid (nb + 8 + m <= co):=Lib.hid (by
   obtain ⟨lb,h1,_⟩:=HB1.out.hbf
   obtain ⟨_,_,h5,h6,_⟩:=h1.slice
   cases h5
   exact h6)
  go_wp2_with fail
  go_loopw [95] (fun i wr=>∃ (k : Nat) (τ4 : Own),k <= 8 /\ i = .int .i64 k /\ AP w τ t td y lp d from_ segs n g hb S0 vL base nxt fr (.slice (some ⟨bo,0,none⟩) (nb + 8 + m) co) (.slice (some ⟨bo,0,none⟩) (nb + 8 + m) co) (nb + 8 + m) rvv rvv rn vs bs wr τ4) (fun i _=>8 - (intOf i).toNat)
  case atStart=>exact ⟨0,_,Nat.zero_le _,rfl,HB1.out⟩
  case round=>
   obtain ⟨k,τ4,hk,rfl,hap⟩:=hrel
   clear HB1
   have HB1:=Lib.hid hap
   clear hap
   by_cases hlt : k < 8
   ·have hl8:=HB1.out.hl
    have hg8:=HB1.out.hg
    obtain ⟨lb,hbf1,hbf2⟩:=HB1.out.hbf
    have hx8:=HX.out
    have hs8:=HPW.out.2.2.2
    have hk8:=HK.out
    have hn8:=HN.out
    have HWR : Hid (∀ j : Nat,Calls Tryz.prog 248 #[.pointer (some ⟨lp,0,none⟩),.pointer (some ⟨g,0,none⟩),.int .i64 (k : Int)] (wr.drewN j) fun e w'=>e = .returned (.int .i64 0) /\ ∃ τ',DevAt w' τ' td d n (fun _=>False) /\ Chg (· = td) (wr.drewN j) τ4 w' τ'):=Lib.hid fun j=>by
     have ht8:=HT.out
     exact write248s (wr.drewN j) τ4 t (t + 96 * (S0.length + 3)) td lp g d from_ segs S0.length base k n bo (nb + 8 + m) co (fun _=>False) (fun _=>False) _ _ _ _ lb (hbf1.drewN j) hbf2 (by omega) HCAP.out (hl8.drewN j) (hg8.drewN j) (HB1.out.hd.drewN j) (by omega) (by omega) (by omega) (by omega) hlt (by omega) (by omega) (fun j hj=>hj.elim)
    have HS1 : Hid (∀ j,Calls Tryz.prog 247 #[.int .i64 ((k : Int) + 1)] (wr.drewN j) fun e w'=>e = .returned (.int .i64 ((48 * (k + 1) - 6 : Nat) : Int)) /\ ∃ m,w' = wr.drewN m):=Lib.hid fun j=>by
     have h:=(start247 (wr.drewN j) (k + 1) (by omega)).mono (R':=fun e w'=>e = .returned (.int .i64 ((48 * (k + 1) - 6 : Nat) : Int)) /\ ∃ m,w' = wr.drewN m) (fun e w' ⟨h1,h2⟩=>⟨h1,j,h2.symm⟩)
     have e1 : ((k + 1 : Nat) : Int) = (k : Int) + 1:=by omega
     rw [e1] at h
     exact h
    have HS2 : Hid (∀ j,Calls Tryz.prog 247 #[.int .i64 (k : Int)] (wr.drewN j) fun e w'=>e = .returned (.int .i64 ((48 * k - 6 : Nat) : Int)) /\ ∃ m,w' = wr.drewN m):=Lib.hid fun j=>(start247 (wr.drewN j) k (by omega)).mono fun e w' ⟨h1,h2⟩=>⟨h1,j,h2.symm⟩
    generalize 48 * (k + 1) - 6 = s1 at *
    generalize 48 * k - 6 = s0 at *
    have cg:=hg8.cell 3
    have k1 : (k : Int) < 8:=by omega
    have k2 : (0 : Int) <= (k : Int):=by omega
    clear hl8 hg8 hbf1 hbf2 lb hx8 hs8 hk8 hn8
    by_cases hs1 : nb < s1
    ·have d1 : (nb : Int) < (s1 : Int):=by omega
     by_cases hs2 : s0 < nb + 8 + m
     ·have d2 : (s0 : Int) < (nb : Int) + 8 + (m : Int):=by omega
      clear hs1 hs2
      go_wp2_with fail
      go_quiet (first | exact HS1.out _ | exact HS2.out _)
      go_wp2_with fail
      refine (HWR.out _).mono ?_
      rintro e w5 ⟨rfl,τ5,hd5,hc5⟩
      have HB2:=Lib.hid ((HB1.out.drewN _).dev hc5 hd5 HT.out.1 HT.out.2.1 HT.out.2.2.1 HT.out.2.2.2)
      clear hd5 hc5 cg
      go_wp2
      go_roundw
      case rel=>exact ⟨k + 1,τ5,by omega,by go_num,HB2.out⟩
      case measure=>simp [intOf];omega
     ·have d2 : decide ((s0 : Int) < (nb : Int) + 8 + (m : Int)) = false:=by rw [decide_eq_false_iff_not];omega
      clear hs1 hs2
      go_wp2_with fail
      go_quiet (first | exact HS1.out _ | exact HS2.out _)
      go_wp2
      go_roundw
      case rel=>exact ⟨k + 1,τ4,by omega,by go_num,HB1.out.drewN _⟩
      case measure=>simp [intOf];omega
    ·have d1 : decide ((nb : Int) < (s1 : Int)) = false:=by rw [decide_eq_false_iff_not];omega
     have d3 : decide (nb < s1) = false:=by rw [decide_eq_false_iff_not];omega
     have d4 : s1 <= nb:=by omega
     go_wp2_with fail
     go_quiet (first | exact HS1.out _ | exact HS2.out _)
     go_wp2
     go_roundw
     case rel=>exact ⟨k + 1,τ4,by omega,by go_num,HB1.out.drewN _⟩
     case measure=>simp [intOf];omega
   ·obtain rfl : k = 8:=by omega
    go_wp2_with fail
    have HB0:=Lib.hid (HB1.out.drewN 1)
    clear HB1
    obtain ⟨i0,z0,hi0⟩:=info_cells info359
    have HI:=Lib.hid hi0
    have HONE : Hid (∀ (W : World) (τ9 : Own) (v : Value),BodyAt W τ9 (t + 192) v body -> v.oneCell' = true):=Lib.hid fun W τ9 v h=>by
     obtain ⟨A,c,rfl,-⟩:=h.row.slice
     rfl
    clear hi0
    have S24 : Hid (ApQ lp g nxt rvv wr.drew):=Lib.hid ⟨HB0.out.hl.cell 4,HB0.out.hg.cell 4⟩
    refine wp_region_hl [10,12,13] [0,1,2,3,4,5,6,7,8,9,10,11,12,13] (ApQ lp g nxt rvv) (by kernel_rfl) (by kernel_rfl) S24.out ?_
    iterate 10 (refine hd_take (v:=?_) rfl rfl (by kernel_rfl) (fun W hW=>?_) ?_;rotate_left;(obtain ⟨r0,r1⟩:=hW;first | (go_simp;done) | (go_simp;with_reducible rfl)))
    refine hd_loud rfl rfl fun K hK=>?_
    go_simp
    refine (clone172 _ (some ⟨B,o,none⟩) m cB (ub body) HUB.out.1 (HUB.out.2.2 _ _ HB0.out.hc) (ub_one body) (by intro e;cases e) HUB.out.2.1).mono ?_
    rintro e w5 ⟨v,rfl,ho,hbl⟩
    obtain ⟨τ5,hap5,hbd5⟩:=HB0.out.clone (v:=v) (l:=body) HPOS.out (by have h:=HML.out;rw [h];exact ho) hbl
    obtain ⟨Av,cv,rfl,-⟩:=hbd5.row.slice
    have H5:=Lib.hid (And.intro hap5 hbd5)
    refine hK _ _ ⟨hap5.hl.cell 4,hap5.hg.cell 4⟩ ?_
    clear hK ho hbl hap5 hbd5
    refine hd_take (v:=?_) rfl rfl (by kernel_rfl) (fun W hW=>?_) ?_;rotate_left;(obtain ⟨r0,r1⟩:=hW;first | (go_simp;done) | (go_simp;with_reducible rfl))
    refine hd_loud rfl rfl fun K hK=>?_
    go_simp
    have HB6:=Lib.hid (H5.out.1.alloc (.cells #[.int .i64 (nxt : Int),.slice Av body.length cv] 359))
    have HD6:=Lib.hid (H5.out.2.keep (((Chg.refl (fun _=>False) w5 τ5).alloc (.cells #[.int .i64 (nxt : Int),.slice Av body.length cv] 359)).ext y) id)
    refine hK _ _ ⟨HB6.out.hl.cell 4,HB6.out.hg.cell 4⟩ ?_
    clear hK
    refine hd_loud rfl rfl fun K hK=>?_
    refine step_append_row2 _ rfl (.tmp 125) (.tmp 133) 351 rfl _ (t + 96 * (S0.length + 3)) 359 i0 z0 2 32 (by kernel_rfl) HI.out.1 HI.out.2.1 HI.out.2.2.2.1 HI.out.2.2.2.2 (by rw [HI.out.2.2.1];rfl) (by decide) rvv rn (rcells base vs) (by go_simp) HB6.out.hq ⟨w5.heap.size,0,none⟩ 1 1 [.int .i64 (nxt : Int),.slice Av body.length cv] (by go_simp) (by rfl) (by have:=HX.out;omega) (Blk.new w5 359 #[.int .i64 (nxt : Int),.slice Av body.length cv]).sl (by intro u hu;simp at hu;rcases hu with rfl | rfl <;> rfl) (by have:=HX.out;omega) (by decide) ?_
    intro b3 c3 w6 hR hC hG
    have e1 : rcells base vs ++ [.int .i64 (nxt : Int),.slice Av body.length cv] = rcells base (vs ++ [.slice Av body.length cv]):=by rw [rcells_snoc,HNX.out]
    rw [e1] at hR
    have HB7:=Lib.hid (HB6.out.app359 HT.out.1 HT.out.2.1 HT.out.2.2.1 HT.out.2.2.2 hR HVS.out HD6.out hC hG)
    refine hK _ _ ⟨HB7.out.hl.cell 4,HB7.out.hg.cell 4⟩ (hd_end ?_)
    clear hK hR hC hG e1 HB6 HD6 H5 HB0
    simp only [List.length_cons,List.length_nil,List.drop_succ_cons,List.drop_zero,Nat.zero_add,Nat.reduceAdd]
    have hf:=HB7.out.hg.frozen 4
    have hc3:=HB7.out.hg.cell 4
    have HB1:=Lib.hid (HB7.out.setG HT.out.1 HT.out.2.1 HT.out.2.2.1 HT.out.2.2.2 4 _ (.slice (some ⟨bo,0,none⟩) (nb + 8 + m) co) (.slice (some ⟨b3,0,none⟩) (rn + 1) c3) rfl)
    obtain ⟨v,hv⟩ : ∃ v,v = Value.slice Av body.length cv:=⟨_,rfl⟩
    obtain ⟨wx,hwx⟩ : ∃ W,W = w6.setCell ⟨g,4,none⟩ (.slice (some ⟨b3,0,none⟩) (rn + 1) c3):=⟨_,rfl⟩
    rw [<- hwx,<- hv] at HB1
    have HWX:=Lib.hid hwx
    clear hwx hv HB7 S24 HI i0 z0 HONE
    have c1 : wx.cell? ⟨lp,4,none⟩ = some (.int .i64 (nxt : Int)):=HB1.out.hl.cell 4
    have c4:=HB1.out.hl.frozen 4
    have c5:=HB1.out.hl.frozen 6
    have c6 : wx.cell? ⟨lp,6,none⟩ = some (.bool fr):=HB1.out.hl.cell 6
    have HB2 : Hid (AP w τ t td y lp d from_ segs n g hb S0 vL base (nxt + 1) fr (.slice (some ⟨bo,0,none⟩) (nb + 8 + m) co) (.slice (some ⟨bo,0,none⟩) (nb + 8 + m) co) (nb + 8 + m) (.slice (some ⟨b3,0,none⟩) (rn + 1) c3) (.slice (some ⟨b3,0,none⟩) (rn + 1) c3) (rn + 1) (vs ++ [v]) (bs ++ [body]) (wx.setCell ⟨lp,4,none⟩ (.int .i64 ((nxt : Int) + 1))) _):=Lib.hid (by
     have:=HB1.out.setL HT.out.1 HT.out.2.1 HT.out.2.2.1 HT.out.2.2.2 4 (.int .i64 ((nxt : Int) + 1)) (nxt + 1) fr rfl
     exact this)
    have k1 : (nxt : Int) <= 100000:=by have:=HX.out;omega
    have k0 : (0 : Int) <= (nxt : Int):=by omega
    clear HB1
    have HLA : Hid (∀ W τ',AP w τ t td y lp d from_ segs n g hb S0 vL base (nxt + 1) false (.slice (some ⟨bo,0,none⟩) (nb + 8 + m) co) (.slice (some ⟨bo,0,none⟩) (nb + 8 + m) co) (nb + 8 + m) (.slice (some ⟨b3,0,none⟩) (rn + 1) c3) (.slice (some ⟨b3,0,none⟩) (rn + 1) c3) (rn + 1) (vs ++ [v]) (bs ++ [body]) W τ' -> LogAt W τ' t lp d from_ segs false (bodies ++ [body])):=Lib.hid fun W τ' h=>h.done HT.out.1 HE.out HVS.out HML.out HX.out.1 HPW.out.1 HPW.out.2.1
    have HRES : Hid ((nxt : Int) = ((bodies.length + 1 : Nat) : Int)):=Lib.hid (by have:=HE.out.2.1;omega)
    cases fr with
    | true=>
     have HB3:=Lib.hid (HB2.out.setL HT.out.1 HT.out.2.1 HT.out.2.2.1 HT.out.2.2.2 6 (.bool false) (nxt + 1) false rfl)
     clear HB2
     go_wp2_with (first | rw [<- HWX.out] | fail)
     clear c1 c4 c5 c6 hf hc3
     generalize (wx.setCell ⟨lp,4,none⟩ (.int .i64 ((nxt : Int) + 1))).setCell ⟨lp,6,none⟩ (.bool false) = W9 at *
     have HN1 : Hid (IntKind.i64.wrap (nxt : Int) = (nxt : Int)):=Lib.hid (IntWalk.i64_in _ ⟨by omega,by omega⟩)
     have HB0:=Lib.hid (HB3.out.drewN 1)
     clear HB3
     have x1:=HN1.out
     have S28 : Hid (ApR lp d nxt W9.drew):=Lib.hid ⟨HB0.out.hl.cell 4,HB0.out.hl.cell 0⟩
     refine wp_region_hl [9] [0,1,2,3,4,5,6,7,8,9,10,11] (ApR lp d nxt) (by kernel_rfl) (by kernel_rfl) S28.out ?_
     iterate 9 (refine hd_take (v:=?_) rfl rfl (by kernel_rfl) (fun W hW=>?_) ?_;rotate_left;(obtain ⟨r0,r1⟩:=hW;first | (go_simp;done) | (go_simp;with_reducible rfl)))
     refine hd_loud rfl rfl fun K hK=>?_
     go_simp
     refine (flush_any _ _ td d n _ HB0.out.hd HN.out.2).mono ?_
     rintro e w10 ⟨rfl,hd1,hc1⟩
     have HB1:=Lib.hid (HB0.out.dev hc1 hd1 HT.out.1 HT.out.2.1 HT.out.2.2.1 HT.out.2.2.2)
     refine hK _ _ ⟨HB1.out.hl.cell 4,HB1.out.hl.cell 0⟩ ?_
     clear hd1 hc1 hK
     iterate 2 (refine hd_take (v:=?_) rfl rfl (by kernel_rfl) (fun W hW=>?_) ?_;rotate_left;(obtain ⟨r0,r1⟩:=hW;first | (go_simp;done) | (go_simp;with_reducible rfl)))
     refine hd_end ?_
     simp only [List.length_cons,List.length_nil,List.drop_succ_cons,List.drop_zero,Nat.zero_add,Nat.reduceAdd]
     clear x1 HB0 S28
     go_wp2_with fail
     go_ret2
     exact ⟨by rw [HRES.out];rfl,_,HLA.out _ _ HB1.out,HB1.out.hd,HFR.out _ _ HB1.out.hc⟩
    | false=>
     go_wp2_with (first | rw [<- HWX.out] | fail)
     go_ret2
     exact ⟨by rw [HRES.out];rfl,_,HLA.out _ _ HB2.out,HB2.out.hd,HFR.out _ _ HB2.out.hc⟩)
end Go.Proofs.Ytlhekbjidppijaa
namespace Go.Proofs.Ytlhekbjidppijaa
open Go.RowKit
inductive FRec where
 | entry (k v : ByteArray) (g : Bool)
 | wipe
def FRec.bytes : FRec -> List UInt8
 | .entry k v g=>1 :: ibs k v (if g then 1 else 0)
 | .wipe=>[2]
def FRec.ok : FRec -> Bool
 | .entry k v g=>itemOk k v g && decide (k.size < 64) && decide (v.size < 64)
 | .wipe=>true
theorem FRec.ok_len (r : FRec) (h : r.ok = true) : 1 <= r.bytes.length /\ r.bytes.length <= 200:=by
 cases r with
 | wipe=>simp [FRec.bytes]
 | entry k v g=>
  simp only [FRec.ok,Bool.and_eq_true,decide_eq_true_eq] at h
  simp only [FRec.bytes,List.length_cons,ibs_length]
  omega
structure FS where
 recs : List FRec
 pl : List Place
 n : Nat
 used : Nat
def FT (tc td x : Nat) : Prop:=(tc <= x % 96 /\ x % 96 <= tc + 2) \/ x = td
structure FlashAt (w : World) (τ : Own) (tc c d from_ segs n : Nat) (s : FS) : Prop where
 ex : ∃ lp x fr,Has w τ tc c 274 #[.pointer (some ⟨lp,0,none⟩),.pointer (some ⟨x,0,none⟩)] /\ LogAt w τ (tc + 2) lp d from_ segs fr (s.recs.map FRec.bytes) /\ IndexAt w τ (tc + 1) x s.pl s.n s.used
 lt : tc + 2 < 95
 ok : ∀ r ∈ s.recs,r.ok = true
 room : from_ + segs * 8 <= n /\ n <= 2048
 le : s.recs.length <= segs
section
variable {T : Nat -> Prop} {w w' : World} {τ τ' : Own} {tc c d from_ segs n : Nat} {s : FS}
theorem FlashAt.keep (h : FlashAt w τ tc c d from_ segs n s) (hc : Chg T w τ w' τ') (hT : ∀ x,T x -> ¬ (tc <= x % 96 /\ x % 96 <= tc + 2)) : FlashAt w' τ' tc c d from_ segs n s:=by
 obtain ⟨lp,x,fr,h1,h2,h3⟩:=h.ex
 have:=h.lt
 exact ⟨⟨lp,x,fr,h1.keep hc (fun e=>hT _ e (by omega)),h2.keep hc (fun y e he=>hT _ e (by omega)),h3.keep hc (fun e=>hT _ e (by omega))⟩,h.lt,h.ok,h.room,h.le⟩
theorem FlashAt.quiet (h : FlashAt w τ tc c d from_ segs n s) (hc : Chg (fun _=>False) w τ w' τ') : FlashAt w' τ' tc c d from_ segs n s:=h.keep hc fun _ e=>e.elim
end
set_option maxRecDepth 20000 in
set_option maxHeartbeats 1000000 in
theorem read258 (w : World) (b c m : Nat) (k v : ByteArray) (g : Bool) (hok : (FRec.entry k v g).ok = true) (hm : m = (FRec.entry k v g).bytes.length) (hmc : m <= c) (hc : c <= 9223372036854775807)
 (hs : Sl w (some ⟨b,0,none⟩) (ub (FRec.entry k v g).bytes)) :
 Calls Tryz.prog 258 #[.slice (some ⟨b,0,none⟩) m c] w fun e w'=>e = .returned (.tuple #[.agg #[.string k,.string v,.int .i64 0,.bool g],.bool true]) /\ Below w.heap.size w w':=by
 simp only [FRec.ok,Bool.and_eq_true,decide_eq_true_eq] at hok
 obtain ⟨⟨ho,hk⟩,hv⟩:=hok
 have hlen : (FRec.entry k v g).bytes.length = k.size + v.size + 5:=by simp [FRec.bytes,ibs_length]
 rw [hlen] at hm
 have hcell : ∀ W,Below w.heap.size w W -> ∀ j u,(ub (1 :: ibs k v (if g then 1 else 0)))[j]? = some u -> W.cell? ⟨b,j,none⟩ = some u:=fun W hb j u hu=>by
  obtain ⟨b',o',e,hcc⟩:=(hs.keep hb) (by simp [FRec.bytes,ub])
  cases e
  have:=hcc j u hu
  rwa [Nat.zero_add] at this
 have HD : Hid (∀ W,Below w.heap.size w W -> Calls Tryz.prog 278 #[.slice (some ⟨b,1,none⟩) (k.size + v.size + 4) (c - 1)] W fun e w'=>∃ r,e = .returned (.tuple #[r,.int .i64 0]) /\ w'.ownsRow W.heap.size 178 4 r 1 [.string k,.string v,.int .i64 0,.bool g] /\ Below W.heap.size W w'):=Lib.hid fun W hb=>
  decode_big W b 1 (c - 1) k v g (if g then 1 else 0) rfl ho hk hv (by omega) (by omega) (fun j u hu=>by
   have:=hcell W hb (1 + j) u (by simp only [ub,List.map_cons];rw [Nat.add_comm,List.getElem?_cons_succ];exact hu)
   exact this)
 have c0 : ∀ W,Below w.heap.size w W -> W.cell? ⟨b,0,none⟩ = some (.int .u8 1):=fun W hb=>hcell W hb 0 _ (by simp [ub])
 have HC0:=Lib.hid c0
 have d0:=c0 (w.alloc (.cells #[.string ⟨#[]⟩,.string ⟨#[]⟩,.int .i64 0,.bool false] 178)) ((Below.refl _ _).alloc (Nat.le_refl _) _)
 have HB0 : Hid (Below w.heap.size w (w.alloc (.cells #[.string ⟨#[]⟩,.string ⟨#[]⟩,.int .i64 0,.bool false] 178))):=Lib.hid ((Below.refl _ _).alloc (Nat.le_refl _) _)
 have k9 : (c : Int) <= 9223372036854775807:=by omega
 have k1 : (1 : Int) <= (m : Int):=by omega
 have k2 : ¬ ((m : Int) < 1):=by omega
 have k3 : decide ((m : Int) < 1) = false:=by rw [decide_eq_false_iff_not];exact k2
 have k4 : (0 : Int) < (m : Int):=by omega
 have k5 : (m : Int) <= (c : Int):=by omega
 have k6 : c ≠ 1:=by omega
 clear hcell c0 hs hlen
 go_enter Tryz.func258,Tryz.ntmps258
 go_wp2_with fail
 have hb:=Blk.new w 178 #[.string ⟨#[]⟩,.string ⟨#[]⟩,.int .i64 0,.bool false]
 refine (HD.out _ HB0.out).mono ?_
 rintro e w1 ⟨r,rfl,ho1,hb1⟩
 obtain ⟨r0,cr,rfl,hcr,hlt⟩:=ho1.form (by decide)
 have hr:=ho1.cells (g:=r0) rfl
 have q0 : w1.cell? ⟨r0,0,none⟩ = some (.string k):=by have:=hr 0 _ rfl;rw [add_none,Nat.zero_add] at this;exact this
 have q1 : w1.cell? ⟨r0,1,none⟩ = some (.string v):=by have:=hr 1 _ rfl;rw [add_none,Nat.zero_add] at this;exact this
 have q2 : w1.cell? ⟨r0,2,none⟩ = some (.int .i64 0):=by have:=hr 2 _ rfl;rw [add_none,Nat.zero_add] at this;exact this
 have q3 : w1.cell? ⟨r0,3,none⟩ = some (.bool g):=by have:=hr 3 _ rfl;rw [add_none,Nat.zero_add] at this;exact this
 have hge:=(ho1.lt r0 rfl).1
 have hbk : Blk w1 w.heap.size 178 #[.string ⟨#[]⟩,.string ⟨#[]⟩,.int .i64 0,.bool false]:=(hb1.block _ (by simp)).trans hb
 have hne : r0 ≠ w.heap.size:=by simp at hge;omega
 have HB1 : Hid (Below w.heap.size w w1):=Lib.hid (HB0.out.trans (hb1.mono HB0.out.size))
 have s0 : w1.cell? ⟨w.heap.size,0,none⟩ = some (.string ⟨#[]⟩):=hbk.cell 0
 have s1 : w1.cell? ⟨w.heap.size,1,none⟩ = some (.string ⟨#[]⟩):=hbk.cell 1
 have s2 : w1.cell? ⟨w.heap.size,2,none⟩ = some (.int .i64 0):=hbk.cell 2
 have s3 : w1.cell? ⟨w.heap.size,3,none⟩ = some (.bool false):=hbk.cell 3
 have f0:=hbk.frozen 0
 have f1:=hbk.frozen 1
 have f2:=hbk.frozen 2
 have f3:=hbk.frozen 3
 have HBK:=Lib.hid hbk
 clear hr ho1 hb1 hb hbk d0 HD HB0 HC0 hge
 go_wp2
 have hB4:=(((HBK.out.set_ 0 (.string k)).set_ 1 (.string v)).set_ 2 (.int .i64 0)).set_ 3 (.bool g)
 have hsz : ∀ j,w.heap.size <= (⟨w.heap.size,j,none⟩ : Addr).block:=fun j=>Nat.le_refl _
 have hfin : Below w.heap.size w ((((w1.setCell ⟨w.heap.size,0,none⟩ (.string k)).setCell ⟨w.heap.size,1,none⟩ (.string v)).setCell ⟨w.heap.size,2,none⟩ (.int .i64 0)).setCell ⟨w.heap.size,3,none⟩ (.bool g)):=(((HB1.out.setCell (hsz 0) _).setCell (hsz 1) _).setCell (hsz 2) _).setCell (hsz 3) _
 generalize (((w1.setCell ⟨w.heap.size,0,none⟩ (.string k)).setCell ⟨w.heap.size,1,none⟩ (.string v)).setCell ⟨w.heap.size,2,none⟩ (.int .i64 0)).setCell ⟨w.heap.size,3,none⟩ (.bool g) = Wf at hB4 hfin ⊢
 have z0 : Wf.cell? ⟨w.heap.size,0,none⟩ = some (.string k):=hB4.cell 0
 have z1 : Wf.cell? ⟨w.heap.size,1,none⟩ = some (.string v):=hB4.cell 1
 have z2 : Wf.cell? ⟨w.heap.size,2,none⟩ = some (.int .i64 0):=hB4.cell 2
 have z3 : Wf.cell? ⟨w.heap.size,3,none⟩ = some (.bool g):=hB4.cell 3
 exact bodyPost_ret (v:=.tuple #[.agg #[.string k,.string v,.int .i64 0,.bool g],.bool true]) (by simp [results,Tryz.results258,go_sem,z0,z1,z2,z3]) rfl ⟨rfl,hfin⟩
end Go.Proofs.Ytlhekbjidppijaa
namespace Go.Proofs.Ytlhekbjidppijaa
open Go.RowKit
def mcs : Nat -> List ByteArray -> List Value
 | _,[]=>[]
 | b,k :: ks=>.int .i64 (b : Int) :: .string k :: .int .i64 (b : Int) :: mcs (b + 1) ks
theorem mcs_length (b : Nat) (ks : List ByteArray) : (mcs b ks).length = ks.length * 3:=by
 induction ks generalizing b with
 | nil=>rfl
 | cons v l ih=>simp only [mcs,List.length_cons,ih];omega
theorem mcs_snoc (b : Nat) (ks : List ByteArray) (k : ByteArray) : mcs b (ks ++ [k]) = mcs b ks ++ [.int .i64 ((b + ks.length : Nat) : Int),.string k,.int .i64 ((b + ks.length : Nat) : Int)]:=by
 induction ks generalizing b with
 | nil=>simp [mcs]
 | cons x l ih=>simp only [List.cons_append,mcs,ih,List.length_cons];rw [show b + 1 + l.length = b + (l.length + 1) by omega]
theorem mcs_get (b : Nat) (ks : List ByteArray) (i : Nat) (h : i < ks.length) : (mcs b ks)[i * 3]? = some (.int .i64 ((b + i : Nat) : Int)) /\ (mcs b ks)[i * 3 + 1]? = some (.string ks[i]) /\ (mcs b ks)[i * 3 + 2]? = some (.int .i64 ((b + i : Nat) : Int)):=by
 induction ks generalizing b i with
 | nil=>simp at h
 | cons x l ih=>
  cases i with
  | zero=>simp [mcs]
  | succ i=>
   have:=ih (b + 1) i (by simpa using h)
   rw [show (i + 1) * 3 = i * 3 + 1 + 1 + 1 by omega]
   rw [show b + (i + 1) = b + 1 + i by omega]
   refine ⟨?_,?_,?_⟩
   ·simp only [mcs,List.getElem?_cons_succ];exact this.1
   ·rw [show i * 3 + 1 + 1 + 1 + 1 = i * 3 + 1 + 1 + 1 + 1 from rfl]
    simp only [mcs,List.getElem?_cons_succ,List.getElem_cons_succ];exact this.2.1
   ·rw [show i * 3 + 1 + 1 + 1 + 2 = i * 3 + 2 + 1 + 1 + 1 from rfl]
    simp only [mcs,List.getElem?_cons_succ];exact this.2.2
structure JournalAt (w : World) (τ : Own) (tj j d from_ segs n cnt : Nat) : Prop where
 ex : ∃ (lp : Nat) (fr : Bool) (vM : Value) (keys : List ByteArray) (bodies : List (List UInt8)),keys.length = cnt /\ bodies.length = cnt /\ Has w τ tj j 299 #[.pointer (some ⟨lp,0,none⟩),vM] /\ Rw w τ (tj + 1) 301 3 vM cnt (mcs 1 keys) /\ LogAt w τ (tj + 2) lp d from_ segs fr bodies
 lt : tj + 2 < 95
 room : from_ + segs * 8 <= n /\ n <= 2048
 le : cnt <= segs
section
variable {T : Nat -> Prop} {w w' : World} {τ τ' : Own} {tj j d from_ segs n cnt : Nat}
theorem JournalAt.keep (h : JournalAt w τ tj j d from_ segs n cnt) (hc : Chg T w τ w' τ') (hT : ∀ x,T x -> ¬ (tj <= x % 96 /\ x % 96 <= tj + 2)) : JournalAt w' τ' tj j d from_ segs n cnt:=by
 obtain ⟨lp,fr,vM,keys,bodies,h1,h2,h3,h4,h5⟩:=h.ex
 have:=h.lt
 exact ⟨⟨lp,fr,vM,keys,bodies,h1,h2,h3.keep hc (fun e=>hT _ e (by omega)),h4.keep hc (fun e=>hT _ e (by omega)),h5.keep hc (fun y e he=>hT _ e (by omega))⟩,h.lt,h.room,h.le⟩
end
set_option maxRecDepth 20000 in
theorem seq188 (w : World) (τ : Own) (j lp cnt tj : Nat) (vM : Value) (keys : List ByteArray) (hj : w.cell? ⟨j,1,none⟩ = some vM) (hR : Rw w τ tj 301 3 vM cnt (mcs 1 keys)) (hk : keys.length = cnt) (hm : cnt <= 1000) :
 Calls Tryz.prog 188 #[.pointer (some ⟨j,0,none⟩)] w fun e w'=>e = .returned (.int .i64 (cnt : Int)) /\ ∃ m,w' = w.drewN m:=by
 obtain ⟨A,c,rfl,-,-,-,hs,hA,-⟩:=hR.slice
 by_cases h0 : cnt = 0
 ·subst h0
  clear hR hs hA hk
  go_enter Tryz.func188,Tryz.ntmps188
  go_wp2
  go_ret
  exact ⟨rfl,0,rfl⟩
 ·obtain ⟨i,rfl⟩ : ∃ i,cnt = i + 1:=⟨cnt - 1,by omega⟩
  obtain ⟨b,o,rfl,hc⟩:=hs (by intro e;have:=mcs_length 1 keys;rw [e,hk] at this;simp at this)
  have c1 : w.cell? ⟨b,o + i * 3,none⟩ = some (.int .i64 ((1 + i : Nat) : Int)):=hc _ _ (mcs_get 1 keys i (by omega)).1
  have k1 : (0 : Int) <= (i : Int):=by omega
  have k2 : (i : Int) < (i : Int) + 1:=by omega
  have k3 : (i : Int) <= 1000:=by omega
  have k4 : ¬ ((i : Int) + 1 = 0):=by omega
  have k5 : ((i : Int) + 1 == 0) = false:=by rw [beq_eq_false_iff_ne];exact k4
  have HE : Hid ((1 + i : Nat) = i + 1):=Lib.hid (by omega)
  rw [HE.out] at c1
  clear hR hs hA hk hc
  go_enter Tryz.func188,Tryz.ntmps188
  go_wp2_with fail
  go_quiet (fail)
  go_wp2
  go_ret
  exact ⟨rfl,nq,rfl⟩
set_option maxRecDepth 20000 in
theorem add251 (w : World) (a p : Nat) (k : ByteArray) (bl j lp : Nat) (h1 : w.cell? ⟨bl,0,none⟩ = some (.pointer (some ⟨j,0,none⟩))) (h2 : w.cell? ⟨j,0,none⟩ = some (.pointer (some ⟨lp,0,none⟩)))
 (hF : ∀ W,Below w.heap.size w W -> Calls Tryz.prog 213 #[.pointer (some ⟨lp,0,none⟩)] W fun e w'=>e = .returned (.int .i64 1) /\ w' = W) (hp : 1 <= p) :
 Calls Tryz.prog 251 #[.agg #[.int .i64 (a : Int),.string k,.int .i64 (p : Int)],.pointer (some ⟨bl,0,none⟩)] w fun e w'=>e = .returned (.bool false) /\ Below w.heap.size w w':=by
 have hB1 : Below w.heap.size w (w.alloc (.cells #[.int .i64 (a : Int),.string k,.int .i64 (p : Int)] 301)):=(Below.refl _ _).alloc (Nat.le_refl _) _
 have hlt : ∀ x y v,w.cell? ⟨x,y,none⟩ = some v -> x < w.heap.size:=fun x y v h=>World.block_lt_of_cell? w ⟨x,y,none⟩ h
 have d1:=(hB1.cell (p:=⟨bl,0,none⟩) (hlt _ _ _ h1)).trans h1
 have d2:=(hB1.cell (p:=⟨j,0,none⟩) (hlt _ _ _ h2)).trans h2
 have HF : Hid (∀ m,Calls Tryz.prog 213 #[.pointer (some ⟨lp,0,none⟩)] ((w.alloc (.cells #[.int .i64 (a : Int),.string k,.int .i64 (p : Int)] 301)).drewN m) fun e w''=>e = .returned (.int .i64 1) /\ ∃ m',w'' = (w.alloc (.cells #[.int .i64 (a : Int),.string k,.int .i64 (p : Int)] 301)).drewN m'):=Lib.hid fun m=>
  (hF ((w.alloc (.cells #[.int .i64 (a : Int),.string k,.int .i64 (p : Int)] 301)).drewN m) ⟨hB1.os,hB1.tape,hB1.output,hB1.size,hB1.block⟩).mono fun e w' ⟨h1,h2⟩=>⟨h1,m,h2⟩
 have k1 : decide ((p : Int) < 1) = false:=by rw [decide_eq_false_iff_not];omega
 have HB1:=Lib.hid hB1
 clear hF h1 h2 hlt hB1
 go_enter Tryz.func251,Tryz.ntmps251
 go_wp2_with fail
 go_quiet (exact HF.out _)
 go_wp2
 go_ret
 exact ⟨rfl,⟨HB1.out.os,HB1.out.tape,HB1.out.output,HB1.out.size,HB1.out.block⟩⟩
set_option maxRecDepth 20000 in
theorem idx271 (w : World) (A : Option Addr) (n c b0 : Nat) (keys : List ByteArray) (bl : Nat) (hs : Sl w A (mcs b0 keys)) (hn : keys.length = n) (hm : n <= 1000000)
 (hF : ∀ W,Below w.heap.size w W -> ∀ i k,keys[i]? = some k -> Calls Tryz.prog 251 #[.agg #[.int .i64 ((b0 + i : Nat) : Int),.string k,.int .i64 ((b0 + i : Nat) : Int)],.pointer (some ⟨bl,0,none⟩)] W fun e w'=>e = .returned (.bool false) /\ Below W.heap.size W w') :
 Calls Tryz.prog 271 #[.slice A n c,.func (.func 251) #[] #[.pointer (some ⟨bl,0,none⟩)]] w fun e w'=>e = .returned (.int .i64 (-1)) /\ Below w.heap.size w w':=by
 have HS:=Lib.hid hs
 have HF:=Lib.hid hF
 clear hs hF
 go_enter Tryz.func271,Tryz.ntmps271
 go_wp2
 go_loopw [8] (fun i wr=>∃ k : Nat,k <= n /\ i = .int .i64 k /\ Below w.heap.size w wr) (fun i _=>n - (intOf i).toNat)
 case atStart=>exact ⟨0,Nat.zero_le _,rfl,Below.refl _ _⟩
 case round=>
  obtain ⟨k,hk,rfl,hb⟩:=hrel
  have HB:=Lib.hid hb
  clear hb
  by_cases hlt : k < n
  ·have k1 : (k : Int) < (n : Int):=by omega
   have k2 : (0 : Int) <= (k : Int):=by omega
   have hkl : k < keys.length:=by omega
   obtain ⟨b,off,rfl,hcs⟩:=(HS.out.keep HB.out) (by intro e;have:=mcs_length b0 keys;rw [e] at this;simp at this;omega)
   obtain ⟨m0,m1,m2⟩:=mcs_get b0 keys k hkl
   have c0 : wr.cell? ⟨b,off + k * 3,none⟩ = some (.int .i64 ((b0 + k : Nat) : Int)):=hcs _ _ m0
   have c1 : wr.cell? ⟨b,off + k * 3 + 1,none⟩ = some (.string keys[k]):=hcs _ _ m1
   have c2 : wr.cell? ⟨b,off + k * 3 + 2,none⟩ = some (.int .i64 ((b0 + k : Nat) : Int)):=hcs _ _ m2
   have HQ:=Lib.hid (HF.out wr HB.out k keys[k] (List.getElem?_eq_getElem hkl))
   clear hcs m0 m1 m2
   generalize keys[k] = q at *
   generalize ((b0 + k : Nat) : Int) = z at *
   go_wp2_with fail
   refine HQ.out.mono ?_
   rintro e w1 ⟨rfl,hb⟩
   have HB1:=Lib.hid (HB.out.trans (hb.mono HB.out.size))
   clear HQ c0 c1 c2 hb
   go_wp2
   go_roundw
   case rel=>exact ⟨k + 1,by omega,by go_num,HB1.out⟩
   case measure=>simp [intOf];omega
  ·obtain rfl : k = n:=by omega
   go_wp2
   go_ret
   exact ⟨rfl,HB.out⟩
set_option maxRecDepth 20000 in
theorem del250 (w : World) (A : Option Addr) (n c b0 : Nat) (keys : List ByteArray) (bl : Nat) (hs : Sl w A (mcs b0 keys)) (hn : keys.length = n) (hm : n <= 1000000)
 (hF : ∀ W,Below w.heap.size w W -> ∀ i k,keys[i]? = some k -> Calls Tryz.prog 251 #[.agg #[.int .i64 ((b0 + i : Nat) : Int),.string k,.int .i64 ((b0 + i : Nat) : Int)],.pointer (some ⟨bl,0,none⟩)] W fun e w'=>e = .returned (.bool false) /\ Below W.heap.size W w') :
 Calls Tryz.prog 250 #[.slice A n c,.func (.func 251) #[] #[.pointer (some ⟨bl,0,none⟩)]] w fun e w'=>e = .returned (.slice A n c) /\ Below w.heap.size w w':=by
 have HQ:=Lib.hid (idx271 w A n c b0 keys bl hs hn hm hF)
 clear hs hF
 go_enter Tryz.func250,Tryz.ntmps250
 go_wp2_with fail
 refine HQ.out.mono ?_
 rintro e w1 ⟨rfl,hb⟩
 have HB:=Lib.hid hb
 clear hb
 go_wp2
 go_ret
 exact ⟨rfl,HB.out⟩
end Go.Proofs.Ytlhekbjidppijaa
