/- Contracts of functions that the Top rows reach, and plain laws for them: what each returns and what it leaves in memory. Conditions: those that each theorem names. -/
import Derived.Test.YtlhekbjidppijaaGreatMAT
set_option linter.unusedVariables false
set_option linter.unusedSimpArgs false
namespace Go.Proofs.Ytlhekbjidppijaa
open Go.RowKit
theorem flush163 (w : World) (τ : Own) (t td lp d from_ segs n : Nat) (fr : Bool) (bodies : List (List UInt8)) (Z : Nat -> Prop) (hL : LogAt w τ t lp d from_ segs fr bodies) (hD : DevAt w τ td d n Z) (htd : td < 95) (hne : td ≠ t) (hn2 : n <= 2048) :
 Calls Tryz.prog 163 #[.pointer (some ⟨lp,0,none⟩)] w fun e w'=>e = .returned (.int .i64 0) /\ LogAt w' τ t lp d from_ segs fr bodies /\ DevAt w' τ td d n Z /\ Chg (· = td) w τ w' τ:=by
 obtain ⟨S,hS,hfl,hnn⟩:=hL.ex
 obtain ⟨vL,h1,h2⟩:=hS.ex
 have c0 : w.cell? ⟨lp,0,none⟩ = some (.pointer (some ⟨d,0,none⟩)):=h1.cell 0
 have HF:=Lib.hid (flush_any w τ td d n Z hD hn2)
 have HL:=Lib.hid hL
 clear hL hS h1 h2 hfl hnn
 go_enter Tryz.func163,Tryz.ntmps163
 go_wp2_with fail
 refine HF.out.mono ?_
 rintro e w1 ⟨rfl,h1,h2⟩
 have HR:=Lib.hid (And.intro h1 h2)
 clear h1 h2 c0
 go_wp2
 go_ret
 exact ⟨rfl,HL.out.keep HR.out.2 (fun x e=>by subst e;omega),HR.out.1,HR.out.2⟩
set_option maxRecDepth 20000 in
theorem first213 (w : World) (τ : Own) (t lp d from_ segs : Nat) (fr : Bool) (bodies : List (List UInt8)) (hL : LogAt w τ t lp d from_ segs fr bodies) :
 Calls Tryz.prog 213 #[.pointer (some ⟨lp,0,none⟩)] w fun e w'=>e = .returned (.int .i64 1) /\ w' = w:=by
 obtain ⟨S,hS,hfl,hnn⟩:=hL.ex
 obtain ⟨vL,h1,h2⟩:=hS.ex
 obtain ⟨A,c,rfl,hcc,-,-,hsl,hA,hA2⟩:=h2.slice
 have p1 : w.cell? ⟨lp,3,none⟩ = some (.slice A S.length c):=h1.cell 3
 have p2 : w.cell? ⟨lp,4,none⟩ = some (.int .i64 ((1 + bodies.length : Nat) : Int)):=h1.cell 4
 cases S with
 | nil=>
  simp at hfl
  subst hfl
  clear hL hS h1 h2 hcc hsl hA hA2 hnn
  go_enter Tryz.func213,Tryz.ntmps213
  go_wp2
  go_loop [12] (fun i=>i = .int .i64 0) (fun i=>0)
  case atStart=>rfl
  case round=>
   subst hrel
   go_wp2
   go_ret
   exact ⟨rfl,rfl⟩
 | cons p S=>
  obtain ⟨g,bs⟩:=p
  obtain ⟨bvv,nb,lb,rvv,vs,a1,-,-,-,-,a5,a6,-⟩:=(hS.seg 0 (g,bs) rfl).ex
  simp only [List.take_zero,List.flatMap_nil,List.length_nil,Nat.add_zero] at a5
  have hb0 : 0 < bs.length:=List.length_pos_iff.2 (hnn (g,bs) (by simp))
  obtain ⟨b0,c0,rfl,-,-,-,hs5,-,-⟩:=a5.slice
  cases vs with
  | nil=>simp at a6;omega
  | cons v vs=>
   obtain ⟨bb,oo,rfl,hc5⟩:=hs5 (by simp [rcells])
   have q1 : w.cell? ⟨bb,oo,none⟩ = some (.int .i64 1):=by have:=hc5 0 (.int .i64 1) (by simp [rcells]);simpa using this
   obtain ⟨aa,ao,rfl,hc6⟩:=hsl (by simp [Segs.ptrs])
   have q2 : w.cell? ⟨aa,ao,none⟩ = some (.pointer (some ⟨g,0,none⟩)):=by have:=hc6 0 (ptr g) (by simp [Segs.ptrs]);simpa using this
   have q3 : w.cell? ⟨g,4,none⟩ = some (.slice (some ⟨bb,oo,none⟩) bs.length c0):=a1.cell 4
   have k1 : (0 : Int) < (bs.length : Int):=by omega
   have hl : ((g,bs) :: S).length = S.length + 1:=rfl
   rw [hl] at p1
   have k2 : (0 : Int) < (S.length : Int) + 1:=by omega
   clear hL hS h1 h2 hcc hsl hA hA2 hnn hfl a1 a5 a6 hs5 hc5 hc6 hl p2
   go_enter Tryz.func213,Tryz.ntmps213
   go_wp2
   go_loop [12] (fun i=>i = .int .i64 0) (fun i=>0)
   case atStart=>rfl
   case round=>
    subst hrel
    go_wp2
    go_ret
    exact ⟨rfl,rfl⟩
def cmp (a p : Int) : Int:=if a < p then -1 else if p < a then 1 else 0
theorem cmp294 (w : World) (a p : Int) (v : Value) (hv : v.oneCell' = true) (ha : 0 <= a /\ a <= 1000000) (hp : 0 <= p /\ p <= 1000000) :
 Calls Tryz.prog 294 #[.agg #[.int .i64 a,v],.int .i64 p] w fun e w'=>e = .returned (.int .i64 (cmp a p)) /\ Below w.heap.size w w':=by
 obtain ⟨ha0,ha1⟩:=ha
 obtain ⟨hp0,hp1⟩:=hp
 have HC : Hid (min (max (a - p) (-1)) 1 = cmp a p):=Lib.hid (by unfold cmp;split <;> (try split) <;> omega)
 go_enter Tryz.func294,Tryz.ntmps294
 go_wp2
 all_goals
  go_ret
  refine ⟨?_,((Chg.refl (fun _=>False) w (fun _=>0)).alloc _).below⟩
  refine congrArg (fun z=>Ending.returned (Value.int IntKind.i64 z)) ?_
  grind [cmp]
def posOf (n base p : Nat) : Nat:=if p < base then 0 else if p < base + n then p - base else n
set_option maxRecDepth 20000 in
theorem bsf293 (w : World) (A : Option Addr) (n c base p : Nat) (vs : List Value) (hs : Sl w A (rcells base vs)) (hn : vs.length = n) (hv : ∀ v ∈ vs,v.oneCell' = true) (hm : base + n <= 100000) (hp : p <= 100000) :
 Calls Tryz.prog 293 #[.slice A n c,.int .i64 (p : Int),.func (.func 294) #[] #[]] w fun e w'=>e = .returned (.tuple #[.int .i64 ((posOf n base p : Nat) : Int),.bool (decide (base <= p /\ p < base + n))]) /\ Below w.heap.size w w':=by
 have HS:=Lib.hid hs
 have HV:=Lib.hid hv
 clear hs hv
 obtain ⟨q,hq⟩ : ∃ q,q = posOf n base p:=⟨_,rfl⟩
 have hq2 : q <= n:=by rw [hq];unfold posOf;split <;> (try split) <;> omega
 have HQ : Hid (∀ h,h < n -> (base + h < p ↔ h < q)):=Lib.hid fun h hh=>by rw [hq];unfold posOf;split <;> (try split) <;> omega
 obtain ⟨r,hr⟩ : ∃ r,r = decide (base <= p /\ p < base + n):=⟨_,rfl⟩
 rw [<- hr]
 have HQ2 : Hid (q < n -> ∀ x : Int,x = cmp ((base + q : Nat) : Int) (p : Int) -> r = decide (x = 0)):=Lib.hid fun hh x hx=>by
  have h1:=hq
  unfold posOf at h1
  subst hx
  rw [hr,decide_eq_decide]
  unfold cmp
  split at h1 <;> (try split at h1) <;> split <;> (try split) <;> omega
 have HQ3 : Hid (q = n -> r = false):=Lib.hid fun hh=>by
  have h1:=hq
  unfold posOf at h1
  rw [hr,decide_eq_false_iff_not]
  split at h1 <;> (try split at h1) <;> omega
 clear hr
 rw [<- hq]
 clear hq
 have HCELL : Hid (∀ h,h < n -> ∃ B o,A = some ⟨B,o,none⟩ /\ ∃ v,v.oneCell' = true /\ ∀ W,Below w.heap.size w W -> W.cell? ⟨B,o + h * 2,none⟩ = some (.int .i64 ((base + h : Nat) : Int)) /\ W.cell? ⟨B,o + h * 2 + 1,none⟩ = some v):=Lib.hid fun h hh=>by
  have hr:=rcells_get base vs h (by omega)
  have hne : rcells base vs ≠ []:=by intro e;rw [e] at hr;simp at hr
  obtain ⟨B,o,rfl,-⟩:=HS.out hne
  refine ⟨B,o,rfl,vs[h]'(by omega),HV.out _ (List.getElem_mem _),fun W hb=>?_⟩
  obtain ⟨B',o',e,hc⟩:=(HS.out.keep hb) hne
  cases e
  have c1:=hc _ _ hr.1
  have c2:=hc _ _ hr.2
  rw [<- Nat.add_assoc] at c2
  rw [Nat.mul_comm] at c1 c2
  exact ⟨c1,c2⟩
 go_enter Tryz.func293,Tryz.ntmps293
 go_wp2
 go_loopw [9,10] (fun i j wr=>∃ a b : Nat,a <= q /\ q <= b /\ b <= n /\ i = .int .i64 a /\ j = .int .i64 b /\ Below w.heap.size w wr) (fun i j _=>(intOf j).toNat - (intOf i).toNat)
 case atStart=>exact ⟨0,n,Nat.zero_le _,hq2,Nat.le_refl _,rfl,rfl,Below.refl _ _⟩
 case round=>
  obtain ⟨a,b,ha,hb,hbn,rfl,rfl,hbl⟩:=hrel
  have HBL:=Lib.hid hbl
  clear hbl
  by_cases hab : a < b
  ·have k1 : (a : Int) < (b : Int):=by omega
   obtain ⟨h,hh⟩ : ∃ h,h = (a + b) / 2:=⟨_,rfl⟩
   have he : ((a : Int) + (b : Int)) / 2 = (h : Int):=by omega
   have hlt : h < n:=by omega
   have hha : a <= h:=by omega
   have hhb : h < b:=by omega
   clear hh
   have k2 : (0 : Int) <= (h : Int):=by omega
   have k3 : (h : Int) < (n : Int):=by omega
   have k4 : (b : Int) <= 100000:=by omega
   obtain ⟨B,o,rfl,v,hv1,hcc⟩:=HCELL.out h hlt
   obtain ⟨c1,c2⟩:=hcc wr HBL.out
   have HCMP:=Lib.hid (cmp294 wr ((base + h : Nat) : Int) (p : Int) v hv1 (by omega) (by omega))
   clear hcc
   by_cases hlp : h < q
   ·have HC1 : Hid (cmp ((base + h : Nat) : Int) (p : Int) = -1):=Lib.hid (by
     have:=(HQ.out h hlt).2 hlp
     unfold cmp
     rw [if_pos (by omega)])
    go_wp2_with fail
    refine HCMP.out.mono ?_
    rintro e w1 ⟨rfl,hb1⟩
    rw [HC1.out]
    have HB1:=Lib.hid (HBL.out.trans (hb1.mono HBL.out.size))
    clear hb1 HCMP HC1
    go_wp2
    go_roundw
    case rel=>exact ⟨h + 1,b,by omega,hb,hbn,by go_num,rfl,HB1.out⟩
    case measure=>simp [intOf];omega
   ·have HC1 : Hid (∃ x : Int,cmp ((base + h : Nat) : Int) (p : Int) = x /\ ¬ x < 0):=Lib.hid (by
     have : ¬ (base + h < p):=fun hx=>hlp ((HQ.out h hlt).1 hx)
     refine ⟨_,rfl,?_⟩
     unfold cmp
     rw [if_neg (by omega)]
     split <;> omega)
    go_wp2_with fail
    refine HCMP.out.mono ?_
    rintro e w1 ⟨rfl,hb1⟩
    obtain ⟨x,hx1,hx2⟩:=HC1.out
    rw [hx1]
    have HB1:=Lib.hid (HBL.out.trans (hb1.mono HBL.out.size))
    clear hb1 HCMP HC1 hx1
    go_wp2
    go_roundw
    case rel=>exact ⟨a,h,ha,by omega,by omega,rfl,rfl,HB1.out⟩
    case measure=>simp [intOf];omega
  ·obtain rfl : a = q:=by omega
   have k1 : ¬ ((a : Int) < (b : Int)):=by omega
   by_cases hqn : a < n
   ·have k2 : (a : Int) < (n : Int):=by omega
    have k3 : (0 : Int) <= (a : Int):=by omega
    obtain ⟨B,o,rfl,v,hv1,hcc⟩:=HCELL.out a hqn
    obtain ⟨c1,c2⟩:=hcc wr HBL.out
    have HCMP:=Lib.hid (cmp294 wr ((base + a : Nat) : Int) (p : Int) v hv1 (by omega) (by omega))
    have HC1 : Hid (∃ x : Int,cmp ((base + a : Nat) : Int) (p : Int) = x /\ r = decide (x = 0)):=Lib.hid ⟨_,rfl,HQ2.out hqn _ rfl⟩
    clear hcc
    go_wp2_with fail
    refine HCMP.out.mono ?_
    rintro e w1 ⟨rfl,hb1⟩
    obtain ⟨x,hx1,hx2⟩:=HC1.out
    rw [hx1]
    have HB1:=Lib.hid (HBL.out.trans (hb1.mono HBL.out.size))
    have HX2:=Lib.hid hx2
    clear hb1 HCMP HC1 hx1 hx2
    go_wp2
    go_ret2
    exact ⟨by rw [HX2.out];rfl,HB1.out⟩
   ·have hqe : a = n:=by omega
    have k2 : decide ((a : Int) < (n : Int)) = false:=by rw [decide_eq_false_iff_not];omega
    obtain rfl:=HQ3.out hqe
    go_wp2
    go_ret2
    exact ⟨rfl,HBL.out⟩
end Go.Proofs.Ytlhekbjidppijaa
namespace Go.Proofs.Ytlhekbjidppijaa
open Go.RowKit
theorem ownsRow_mono {w : World} {b b' : Nat} {e : TypeId} {size : Nat} {v : Value} {n : Nat} {xs : List Value} (h : w.ownsRow b e size v n xs) (hb : b' <= b) : w.ownsRow b' e size v n xs:=by
 refine ⟨h.1,?_⟩
 rcases h.2 with hn | ⟨g,cap,cur,rfl,h1,rest⟩
 ·exact .inl hn
 ·exact .inr ⟨g,cap,cur,rfl,Nat.le_trans hb h1,rest⟩
theorem flat_at (S : Segs) (k : Nat) (q : Nat × List (List UInt8)) (hq : S[k]? = some q) : (S.take (k + 1)).flatMap (·.2) = (S.take k).flatMap (·.2) ++ q.2:=by
 obtain ⟨hk,hqe⟩:=List.getElem?_eq_some_iff.1 hq
 rw [List.take_succ_eq_append_getElem hk,List.flatMap_append,hqe]
 simp
theorem seg_flat_get (S : Segs) (k : Nat) (q : Nat × List (List UInt8)) (hq : S[k]? = some q) (j : Nat) (hj : j < q.2.length) : (S.flatMap (·.2))[((S.take k).flatMap (·.2)).length + j]? = q.2[j]?:=by
 obtain ⟨hk,hqe⟩:=List.getElem?_eq_some_iff.1 hq
 have e : S.flatMap (·.2) = (S.take (k + 1)).flatMap (·.2) ++ (S.drop (k + 1)).flatMap (·.2):=by rw [<- List.flatMap_append,List.take_append_drop]
 rw [e,flat_at S k q hq,List.append_assoc,List.getElem?_append_right (by omega),Nat.add_sub_cancel_left,List.getElem?_append_left hj]
set_option maxRecDepth 20000 in
set_option maxHeartbeats 1000000 in
theorem read273 (w : World) (τ : Own) (t lp d from_ segs : Nat) (fr : Bool) (bodies : List (List UInt8)) (hL : LogAt w τ t lp d from_ segs fr bodies) (p : Nat) (body : List UInt8) (hp : 1 <= p) (hb : bodies[p - 1]? = some body) (hm : bodies.length <= 50000) (hy3 : body.length <= 100000) :
 Calls Tryz.prog 273 #[.pointer (some ⟨lp,0,none⟩),.int .i64 (p : Int)] w fun e w'=>∃ v,e = .returned (.tuple #[v,.int .i64 0]) /\ w'.ownsRow w.heap.size 5 1 v body.length (ub body) /\ Below w.heap.size w w':=by
 obtain ⟨S,hS,hfl,hnn⟩:=hL.ex
 obtain ⟨vL,h1,h2⟩:=hS.ex
 obtain ⟨A,c,rfl,hcc,-,-,hsl,hA,hA2⟩:=h2.slice
 have p1 : w.cell? ⟨lp,3,none⟩ = some (.slice A S.length c):=h1.cell 3
 have hpl : p - 1 < bodies.length:=(List.getElem?_eq_some_iff.1 hb).1
 have hslen : S.length <= 50000:=by have:=segs_le S hnn;rw [hfl] at this;omega
 have HSEG : Hid (∀ (k : Nat) (q : Nat × List (List UInt8)),S[k]? = some q -> ∃ (b a : Nat),A = some ⟨b,a,none⟩ /\ ∃ (X : Option Addr) (cx : Nat) (vs : List Value),vs.length = q.2.length /\ (∀ v ∈ vs,v.oneCell' = true) /\
  (∀ W,Below w.heap.size w W -> W.cell? ⟨b,a + k,none⟩ = some (.pointer (some ⟨q.1,0,none⟩)) /\ W.cell? ⟨q.1,4,none⟩ = some (.slice X q.2.length cx) /\ Sl W X (rcells (1 + ((S.take k).flatMap (·.2)).length) vs)) /\
  ∀ (i : Nat) (l : List UInt8),q.2[i]? = some l -> ∃ (Y : Option Addr) (cy : Nat),vs[i]? = some (.slice Y l.length cy) /\ (Y = none -> l.length = 0) /\ ∀ W,Below w.heap.size w W -> Sl W Y (ub l)):=Lib.hid (by
  intro k q hq
  have hk:=(List.getElem?_eq_some_iff.1 hq).1
  have e : S.ptrs[k]? = some (ptr q.1):=by simp [Segs.ptrs,hq]
  have hne : S.ptrs ≠ []:=by intro h;rw [h] at e;cases e
  obtain ⟨b,a,rfl,-⟩:=hsl hne
  refine ⟨b,a,rfl,?_⟩
  obtain ⟨bvv,nb,lb,rvv,vs,a1,-,-,-,-,a5,a6,a7⟩:=(hS.seg k q hq).ex
  obtain ⟨X,cx,rfl,-,-,-,hx,-,-⟩:=a5.slice
  refine ⟨X,cx,vs,a6,fun v hv=>?_,fun W hbl=>⟨?_,?_,hx.keep hbl⟩,fun i l hl=>?_⟩
  ·obtain ⟨i,hi,rfl⟩:=List.mem_iff_getElem.1 hv
   obtain ⟨v',hv',hbd⟩:=a7 i (q.2[i]'(by omega)) (List.getElem?_eq_getElem (by omega))
   rw [List.getElem?_eq_getElem hi] at hv'
   injection hv' with hv'
   obtain ⟨Y,cy,e,-⟩:=hbd.row.slice
   rw [hv',e]
   rfl
  ·obtain ⟨b',a',e',hc⟩:=(hsl.keep hbl) hne
   cases e'
   exact hc _ _ e
  ·exact (hbl.cell (p:=⟨q.1,4,none⟩) a1.lt).trans (a1.cell 4)
  ·obtain ⟨v',hv',hbd⟩:=a7 i l hl
   obtain ⟨Y,cy,rfl,-,-,-,h5,h6,-⟩:=hbd.row.slice
   exact ⟨Y,cy,hv',fun e=>(h6 e).1,fun W hbl=>h5.keep hbl⟩)
 have HFG : Hid (∀ (k : Nat) (q : Nat × List (List UInt8)),S[k]? = some q -> 1 + ((S.take k).flatMap (·.2)).length <= p -> p < 1 + ((S.take k).flatMap (·.2)).length + q.2.length -> q.2[p - (1 + ((S.take k).flatMap (·.2)).length)]? = some body):=Lib.hid fun k q hq h1 h2=>by
  rw [<- seg_flat_get S k q hq _ (by omega),hfl,<- hb]
  congr 1
  omega
 have HNX : Hid (∀ (k : Nat) (q : Nat × List (List UInt8)),S[k]? = some q -> ((S.take (k + 1)).flatMap (·.2)).length = ((S.take k).flatMap (·.2)).length + q.2.length /\ ((S.take (k + 1)).flatMap (·.2)).length <= 50000):=Lib.hid fun k q hq=>by
  have e:=flat_at S k q hq
  refine ⟨by rw [e,List.length_append],?_⟩
  have e2 : S.flatMap (·.2) = (S.take (k + 1)).flatMap (·.2) ++ (S.drop (k + 1)).flatMap (·.2):=by rw [<- List.flatMap_append,List.take_append_drop]
  have:=congrArg List.length e2
  rw [hfl,List.length_append] at this
  omega
 have HALL : Hid ((S.take S.length).flatMap (·.2) = bodies):=Lib.hid (by rw [List.take_length];exact hfl)
 have HP1 : Hid (w.cell? ⟨lp,3,none⟩ = some (.slice A S.length c)):=Lib.hid p1
 clear hL hS h1 h2 hcc hsl hA hA2 hnn hfl hb
 go_enter Tryz.func273,Tryz.ntmps273
 go_wp2
 go_loopw [17] (fun i wr=>∃ k : Nat,k <= S.length /\ i = .int .i64 k /\ Below w.heap.size w wr /\ 1 + ((S.take k).flatMap (·.2)).length <= p) (fun i _=>S.length - (intOf i).toNat)
 case atStart=>exact ⟨0,Nat.zero_le _,rfl,Below.refl _ _,by simpa using hp⟩
 case round=>
  obtain ⟨k,hk,rfl,hbl,hbase⟩:=hrel
  have HBL:=Lib.hid hbl
  clear hbl p1
  by_cases hlt : k < S.length
  ·obtain ⟨q,hq⟩ : ∃ q,S[k]? = some q:=⟨_,List.getElem?_eq_getElem hlt⟩
   obtain ⟨b,a,rfl,X,cx,vs,hv1,hv2,hW,hbd⟩:=HSEG.out k q hq
   have hnx:=HNX.out k q hq
   have hfg:=HFG.out k q hq hbase
   obtain ⟨c1,c2,c3⟩:=hW wr HBL.out
   have HW:=Lib.hid hW
   have HBD:=Lib.hid hbd
   have HFG2:=Lib.hid hfg
   have k1 : (k : Int) < (S.length : Int):=by omega
   have k2 : (0 : Int) <= (k : Int):=by omega
   obtain ⟨base,hba⟩ : ∃ base,base = 1 + ((S.take k).flatMap (·.2)).length:=⟨_,rfl⟩
   rw [<- hba] at c3 hfg hbase HW HFG2
   have HBSF:=Lib.hid (bsf293 wr X q.2.length cx base p vs c3 hv1 hv2 (by have h1:=hnx.1;have h2:=hnx.2;omega) (by omega))
   have HNX2 : Hid (base + q.2.length = 1 + ((S.take (k + 1)).flatMap (·.2)).length):=Lib.hid (by rw [hnx.1];omega)
   clear c3 hnx hfg hW hbd hv2 hba
   obtain ⟨g,bs⟩:=q
   have k3 : (bs.length : Int) <= 1000000000:=by
    have h1 : base + bs.length = 1 + ((S.take (k + 1)).flatMap (·.2)).length:=HNX2.out
    have h2:=(HNX.out k _ hq).2
    omega
   replace c1 : wr.cell? ⟨b,a + k,none⟩ = some (.pointer (some ⟨g,0,none⟩)):=c1
   replace c2 : wr.cell? ⟨g,4,none⟩ = some (.slice X bs.length cx):=c2
   by_cases hin : p < base + bs.length
   ·have hpo : posOf bs.length base p = p - base:=by unfold posOf;rw [if_neg (by omega),if_pos hin]
    have hde : decide (base <= p /\ p < base + bs.length) = true:=by simp [hbase,hin]
    go_wp2_with fail
    refine HBSF.out.mono ?_
    rintro e w1 ⟨rfl,hb1⟩
    have hbl1:=HBL.out.trans (hb1.mono HBL.out.size)
    rw [hde,hpo]
    obtain ⟨Y,cy,hy1,hy2,hy4⟩:=HBD.out (p - base) body (HFG2.out hin)
    obtain ⟨-,d2,d3⟩:=HW.out w1 hbl1
    have hne : rcells base vs ≠ []:=by intro e;have:=rcells_get base vs (p - base) (List.getElem?_eq_some_iff.1 hy1).1;rw [e] at this;simp at this
    obtain ⟨B,o,rfl,hc⟩:=d3 hne
    have d4 : w1.cell? ⟨B,o + (p - base) * 2 + 1,none⟩ = some (.slice Y body.length cy):=by
     have h1:=(rcells_get base vs (p - base) (List.getElem?_eq_some_iff.1 hy1).1).2
     rw [(List.getElem?_eq_some_iff.1 hy1).2] at h1
     have:=hc _ _ h1
     rw [<- Nat.add_assoc,Nat.mul_comm] at this
     exact this
    replace d2 : w1.cell? ⟨g,4,none⟩ = some (.slice (some ⟨B,o,none⟩) bs.length cx):=d2
    obtain ⟨j,hj⟩ : ∃ j,j = p - base:=⟨_,rfl⟩
    rw [<- hj] at d4 ⊢
    have j1 : (0 : Int) <= (j : Int):=by omega
    have j2 : (j : Int) < (bs.length : Int):=by omega
    have HCL:=Lib.hid (clone172 w1 Y body.length cy (ub body) (by simp [ub_length]) (hy4 w1 hbl1) (ub_one body) hy2 (by omega))
    have HB1:=Lib.hid hbl1
    clear hb1 hbl1 hy1 hy2 hy4 d3 hne hc HBSF HW HBD HFG2 hj hpo hde c1 c2 HSEG HFG HNX HALL
    go_wp2_with fail
    refine HCL.out.mono ?_
    rintro e w2 ⟨v,rfl,ho,hb2⟩
    have HR:=Lib.hid (And.intro (ownsRow_mono ho HB1.out.size) (HB1.out.trans (hb2.mono HB1.out.size)))
    clear ho hb2 HCL d2 d4
    go_wp2
    go_ret2
    exact ⟨v,rfl,HR.out.1,HR.out.2⟩
   ·have hde : decide (base <= p /\ p < base + bs.length) = false:=by simp [hin]
    go_wp2_with fail
    refine HBSF.out.mono ?_
    rintro e w1 ⟨rfl,hb1⟩
    have HB1:=Lib.hid (HBL.out.trans (hb1.mono HBL.out.size))
    rw [hde]
    clear hb1 HBSF HW HBD HFG2 c1 c2
    go_wp2
    go_roundw
    case rel=>exact ⟨k + 1,by omega,by go_num,HB1.out,by rw [<- HNX2.out];exact Nat.not_lt.1 hin⟩
    case measure=>simp [intOf];omega
  ·obtain rfl : k = S.length:=by omega
   rw [HALL.out] at hbase
   omega
end Go.Proofs.Ytlhekbjidppijaa
