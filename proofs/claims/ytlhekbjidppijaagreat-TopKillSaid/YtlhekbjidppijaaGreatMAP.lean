/- Contracts of functions that the Top rows reach, and plain laws for them: what each returns and what it leaves in memory. Conditions: those that each theorem names. -/
import Derived.Test.YtlhekbjidppijaaGreatMAB
import Derived.Test.YtlhekbjidppijaaGreatMAE
import Derived.Test.YtlhekbjidppijaaGreatMAO
set_option linter.unusedVariables false
set_option linter.unusedSimpArgs false
namespace Go.Proofs.Ytlhekbjidppijaa
open Go.RowKit
structure Place where
 key : ByteArray
 pos : Nat
 has : Bool
 gone : Bool
def Place.zero : Place:=⟨.empty,0,false,false⟩
def Place.cells (p : Place) : List Value:=[.string p.key,.int .i64 (p.pos : Int),.bool p.has,.bool p.gone]
def plc (pl : List Place) : List Value:=pl.flatMap Place.cells
theorem plc_length (pl : List Place) : (plc pl).length = pl.length * 4:=by
 induction pl with
 | nil=>rfl
 | cons p pl ih=>simp only [plc,List.flatMap_cons,List.length_append,List.length_cons] at *;rw [ih];simp [Place.cells];omega
theorem plc_get (pl : List Place) (i : Nat) (p : Place) (h : pl[i]? = some p) (j : Nat) (hj : j < 4) : (plc pl)[i * 4 + j]? = p.cells[j]?:=by
 induction pl generalizing i with
 | nil=>simp at h
 | cons q pl ih=>
  cases i with
  | zero=>
   simp only [List.getElem?_cons_zero,Option.some.injEq] at h
   subst h
   rw [Nat.zero_mul,Nat.zero_add]
   simp only [plc,List.flatMap_cons]
   rw [List.getElem?_append_left (by simpa [Place.cells] using hj)]
  | succ i=>
   rw [List.getElem?_cons_succ] at h
   have:=ih i h
   simp only [plc,List.flatMap_cons]
   rw [List.getElem?_append_right (by simp [Place.cells];omega)]
   simp only [Place.cells,List.length_cons,List.length_nil]
   rw [show (i + 1) * 4 + j - (0 + 1 + 1 + 1 + 1) = i * 4 + j by omega]
   exact this
theorem plc_set (pl : List Place) (i : Nat) (hi : i < pl.length) (p q : Place) (h : pl[i]? = some p) : plc (pl.set i q) = ((((plc pl).set (i * 4) (.string q.key)).set (i * 4 + 1) (.int .i64 (q.pos : Int))).set (i * 4 + 2) (.bool q.has)).set (i * 4 + 3) (.bool q.gone):=by
 induction pl generalizing i with
 | nil=>simp at hi
 | cons r pl ih=>
  cases i with
  | zero=>simp [plc,Place.cells]
  | succ i=>
   rw [List.getElem?_cons_succ] at h
   have:=ih i (by simpa using hi) h
   simp only [List.set_cons_succ,plc,List.flatMap_cons] at this ⊢
   rw [this]
   rw [show (i + 1) * 4 = i * 4 + 4 by omega]
   simp only [Place.cells,List.cons_append,List.nil_append]
   rw [show i * 4 + 4 + 1 = i * 4 + 1 + 4 by omega,show i * 4 + 4 + 2 = i * 4 + 2 + 4 by omega,show i * 4 + 4 + 3 = i * 4 + 3 + 4 by omega]
   simp only [List.set_cons_succ]
structure IndexAt (w : World) (τ : Own) (t x : Nat) (pl : List Place) (n used : Nat) : Prop where
 ex : ∃ T,Has w τ t x 321 #[.slice (some ⟨T,0,none⟩) 16 16,.int .i64 (n : Int),.int .i64 (used : Int)] /\ Has w τ t T 325 (plc pl).toArray
 len : pl.length = 16
 pos : ∀ p ∈ pl,p.has = true -> 1 <= p.pos
 sm : n <= 1000000 /\ used <= 1000000
section
variable {T : Nat -> Prop} {w w' : World} {τ τ' : Own} {t x n used : Nat} {pl : List Place}
theorem IndexAt.keep (h : IndexAt w τ t x pl n used) (hc : Chg T w τ w' τ') (ht : ¬ T t) : IndexAt w' τ' t x pl n used:=by
 obtain ⟨g,a,b⟩:=h.ex
 exact ⟨⟨g,a.keep hc ht,b.keep hc ht⟩,h.len,h.pos,h.sm⟩
theorem IndexAt.below (h : IndexAt w τ t x pl n used) (hb : Below w.heap.size w w') : IndexAt w' τ t x pl n used:=h.keep (Chg.same_own hb) id
end
def oi : Option Nat -> Int
 | none=>-1
 | some n=>n
def findP (pl : List Place) (key : ByteArray) : Nat -> Nat -> Option Nat -> Option Nat × Option Nat
 | 0,_,free=>(none,free)
 | f + 1,i,free=>match pl[i]? with
  | none=>(none,free)
  | some p=>if p.has = true /\ p.key = key then (some i,some i) else
   let free':=if p.has = false /\ free = none then some i else free
   if p.has = false /\ p.gone = false then (none,free') else findP pl key f ((i + 1) % 16) free'
def hashK (key : ByteArray) : Nat:=Plain.mix [nb key] % 16
def findK (pl : List Place) (key : ByteArray) : Option Nat × Option Nat:=findP pl key 16 (hashK key) none
theorem info325 : (Tryz.prog.info? 325).map (fun i=>(i.zero.map Value.cells,i.size,i.bytes)) = some (some #[.string ⟨#[]⟩,.int .i64 0,.bool false,.bool false],4,32):=by kernel_rfl
theorem made_places : madeCells #[.string ⟨#[]⟩,.int .i64 0,.bool false,.bool false] (16 * 4) = (plc (List.replicate 16 Place.zero)).toArray:=by kernel_rfl
theorem new257 (w : World) (τ : Own) (t : Nat) : Calls Tryz.prog 257 #[] w fun e w'=>∃ x,e = .returned (.pointer (some ⟨x,0,none⟩)) /\ IndexAt w' (ext τ w t) t x (List.replicate 16 Place.zero) 0 0 /\ Below w.heap.size w w':=by
 obtain ⟨i,v,hi,hz,hc,hs,hb⟩:=info_cells info325
 have hmk : ∀ W : World,(Instr.makeSlice 319 (.int .i64 16) (.int .i64 16)).run Tryz.prog W = .ok (.slice (some ⟨W.heap.size,0,none⟩) 16 16) (W.alloc (.cells (plc (List.replicate 16 Place.zero)).toArray 325)):=fun W=>by
  have h:=run_make (P:=Tryz.prog) W 319 325 i v (by kernel_rfl) hi hz .i64 .i64 16 16 (by omega) (Int.le_refl _) (by rw [hb];decide) (by decide)
  rw [hc,hs] at h
  have e : ((16 : Int).toNat * 4) = 16 * 4:=rfl
  rw [e,made_places] at h
  exact h
 clear hi hz hc hs hb
 have hlen : (List.replicate 16 Place.zero).length = 16:=by simp
 have hpos : ∀ p ∈ List.replicate 16 Place.zero,p.has = true -> 1 <= p.pos:=by
  intro p hp hh
  rw [List.eq_of_mem_replicate hp] at hh
  cases hh
 generalize List.replicate 16 Place.zero = pl at *
 have HL:=Lib.hid (And.intro hlen hpos)
 clear hlen hpos
 go_enter Tryz.func257,Tryz.ntmps257
 go_wp2
 go_ret
 refine ⟨_,rfl,⟨⟨w.heap.size,⟨?_,?_⟩,⟨?_,?_⟩⟩,HL.out.1,HL.out.2,by decide,by decide⟩,?_⟩
 ·have:=Blk.new (w.alloc (.cells (plc pl).toArray 325)) 321 #[.slice (some ⟨w.heap.size,0,none⟩) 16 16,.int .i64 0,.int .i64 0]
  simpa using this
 ·exact ext_new (by simp)
 ·exact (Blk.new w 325 (plc pl).toArray).alloc _
 ·exact ext_new (Nat.le_refl _)
 ·exact ((Chg.refl (fun _=>False) w τ).alloc _ |>.alloc _).below
end Go.Proofs.Ytlhekbjidppijaa
namespace Go.Proofs.Ytlhekbjidppijaa
open Go.RowKit
def IfS (x T : Nat) (W : World) : Prop:=W.cell? ⟨x,0,none⟩ = some (.slice (some ⟨T,0,none⟩) 16 16) /\ True
theorem text_ne {a b : ByteArray} (h : ¬ a = b) : (a.toList == b.toList) = false:=by
 rw [beq_eq_false_iff_ne]
 intro e
 rw [ByteArray.toList_eq,ByteArray.toList_eq] at e
 exact h (ByteArray.ext (Array.toList_inj.1 e))
theorem hashK_lt (key : ByteArray) : hashK key < 16:=Nat.mod_lt _ (by decide)
set_option maxRecDepth 20000 in
set_option maxHeartbeats 4000000 in
theorem find216 (w : World) (τ : Own) (t x n used : Nat) (pl : List Place) (key : ByteArray) (h : IndexAt w τ t x pl n used) (hks : key.size <= 9223372036854775807) :
 Calls Tryz.prog 216 #[.pointer (some ⟨x,0,none⟩),.string key] w fun e w'=>e = .returned (.tuple #[.int .i64 (oi (findK pl key).1),.int .i64 (oi (findK pl key).2)]) /\ Below w.heap.size w w':=by
 obtain ⟨T,h1,h2⟩:=h.ex
 have HH1 : Hid (∀ W,Below w.heap.size w W -> W.cell? ⟨x,0,none⟩ = some (.slice (some ⟨T,0,none⟩) 16 16)):=Lib.hid fun W hb=>(hb.cell (p:=⟨x,0,none⟩) h1.lt).trans (h1.cell 0)
 have HPL : Hid (∀ i p,pl[i]? = some p -> ∀ W,Below w.heap.size w W -> W.cell? ⟨T,i * 4,none⟩ = some (.string p.key) /\ W.cell? ⟨T,i * 4 + 1,none⟩ = some (.int .i64 (p.pos : Int)) /\ W.cell? ⟨T,i * 4 + 2,none⟩ = some (.bool p.has) /\ W.cell? ⟨T,i * 4 + 3,none⟩ = some (.bool p.gone)):=Lib.hid fun i p hp W hb=>by
  have hk:=h2.keep (T:=fun _=>False) (Chg.same_own (τ:=τ) hb) id
  have e:=fun j hj=>plc_get pl i p hp j hj
  refine ⟨?_,?_,?_,?_⟩
  ·rw [hk.cell];simpa [Place.cells] using e 0 (by decide)
  ·rw [hk.cell];simpa [Place.cells] using e 1 (by decide)
  ·rw [hk.cell];simpa [Place.cells] using e 2 (by decide)
  ·rw [hk.cell];simpa [Place.cells] using e 3 (by decide)
 have HLEN:=Lib.hid h.len
 have HKS:=Lib.hid hks
 have HR : Hid (IntKind.u64.wrap (((Plain.mix [nb key] : Nat) : Int) % 16) = ((Plain.mix [nb key] : Nat) : Int) % 16):=Lib.hid (by
  refine IntWalk.u64_in _ ⟨?_,?_⟩ <;> omega)
 have HH : Hid (IntKind.i64.wrap (((Plain.mix [nb key] : Nat) : Int) % 16) = ((hashK key : Nat) : Int)):=Lib.hid (by
  rw [IntWalk.i64_in _ ⟨by omega,by omega⟩]
  unfold hashK
  omega)
 have hH:=hashK_lt key
 have HFK : Hid (findP pl key 16 (hashK key) none = findK pl key):=Lib.hid rfl
 clear h h1 h2 hks
 go_enter Tryz.func216,Tryz.ntmps216
 go_wp2_with fail
 have S0 : Hid (IfS x T w.drew):=Lib.hid ⟨HH1.out _ (Below.refl _ _).drew,trivial⟩
 refine wp_region_hl [1,2] [0,3,4,5,6,7,8,1,2] (IfS x T) (by kernel_rfl) (by kernel_rfl) S0.out ?_
 iterate 7 (refine hd_take (v:=?_) rfl rfl (by kernel_rfl) (fun W hW=>?_) ?_;rotate_left;(obtain ⟨r0,-⟩:=hW;first | (go_simp;done) | (go_simp;with_reducible rfl)))
 refine hd_loud rfl rfl fun K hK=>?_
 go_simp
 have hal : ∀ o,IfS x T (w.drew.alloc o):=fun o=>⟨HH1.out _ ((Below.refl _ _).drew.alloc (Nat.le_refl _) _),trivial⟩
 refine hK _ _ (hal _) ?_
 clear hK
 refine hd_loud rfl rfl fun K hK=>?_
 go_simp
 refine (of_any (some ⟨w.heap.size,0,none⟩) 1 1 [key] _ (Blk.new w.drew 9 #[.string key]).sl rfl (by decide) (by intro s hs;rw [List.mem_singleton.1 hs];exact HKS.out)).mono ?_
 rintro e w1 ⟨rfl,rfl⟩
 refine hK _ _ (hal _) (hd_end ?_)
 clear hK hal
 simp only [List.length_cons,List.length_nil,List.drop_succ_cons,List.drop_zero,Nat.zero_add,Nat.reduceAdd]
 have x1:=HR.out
 have x2:=HH.out
 have HB0 : Hid (Below w.heap.size w (w.drew.alloc (.cells #[.string key] 9))):=Lib.hid ((Below.refl _ _).drew.alloc (Nat.le_refl _) _)
 generalize hW1 : w.drew.alloc (.cells #[.string key] 9) = W1 at *
 have c0:=HH1.out W1 HB0.out
 generalize hashK key = a0 at *
 go_wp2_with fail
 clear x1 x2 HR HH
 go_loopw [6,7,25] (fun s6 s7 s25 wr=>∃ (k a : Nat) (free : Option Nat),k <= 16 /\ a < 16 /\ s6 = .int .i64 (oi free) /\ s7 = .int .i64 (a : Int) /\ s25 = .int .i64 (k : Int) /\ Below w.heap.size w wr /\ findP pl key (16 - k) a free = findK pl key) (fun _ _ s _=>16 - (intOf s).toNat)
 case atStart=>exact ⟨0,a0,none,by decide,hH,rfl,rfl,rfl,HB0.out,HFK.out⟩
 case round=>
  obtain ⟨k,a,free,hk,ha,rfl,rfl,rfl,hbl,hfp⟩:=hrel
  have HBL:=Lib.hid hbl
  have HFP:=Lib.hid hfp
  clear hbl hfp c0 HB0 HFK hW1
  by_cases hlt : k < 16
  ·obtain ⟨p,hp⟩ : ∃ p,pl[a]? = some p:=⟨_,List.getElem?_eq_getElem (by rw [HLEN.out];exact ha)⟩
   obtain ⟨d0,d1,d2,d3⟩:=HPL.out a p hp wr HBL.out
   have c0:=HH1.out wr HBL.out
   have k1 : (k : Int) < 16:=by omega
   have k2 : (0 : Int) <= (a : Int):=by omega
   have k3 : (a : Int) < 16:=by omega
   have HB1 : Hid (Below w.heap.size w (wr.alloc (.cells #[.string p.key,.int .i64 (p.pos : Int),.bool p.has,.bool p.gone] 325))):=Lib.hid (HBL.out.alloc HBL.out.size _)
   have c1:=HH1.out _ HB1.out
   have e16 : 16 - k = (16 - (k + 1)) + 1:=by omega
   have HST : Hid (findK pl key = if p.has = true /\ p.key = key then (some a,some a) else
    let free':=if p.has = false /\ free = none then some a else free
    if p.has = false /\ p.gone = false then (none,free') else findP pl key (16 - (k + 1)) ((a + 1) % 16) free'):=Lib.hid (by
     rw [<- HFP.out,e16]
     simp only [findP,hp])
   clear hp HFP e16
   obtain ⟨pk,pp,ph,pg⟩:=p
   simp only at d0 d1 d2 d3 HST HB1 c1
   cases ph with
   | true=>
    by_cases hke : pk = key
    ·have HRES : Hid (findK pl key = (some a,some a)):=Lib.hid (by rw [HST.out];simp [hke])
     subst hke
     go_wp2
     go_ret2
     exact ⟨by rw [HRES.out];rfl,HB1.out⟩
    ·have HN : Hid (findP pl key (16 - (k + 1)) ((a + 1) % 16) free = findK pl key):=Lib.hid (by rw [HST.out];simp [hke])
     have hk2:=text_ne hke
     go_wp2
     go_roundw
     case rel=>exact ⟨k + 1,(a + 1) % 16,free,by omega,Nat.mod_lt _ (by decide),rfl,by go_num,by go_num,HB1.out,HN.out⟩
     case measure=>simp [intOf];omega
   | false=>
    cases free with
    | none=>
     cases pg with
     | false=>
      have HRES : Hid (findK pl key = (none,some a)):=Lib.hid (by rw [HST.out];simp)
      go_wp2
      go_ret2
      exact ⟨by rw [HRES.out];rfl,HB1.out⟩
     | true=>
      have HN : Hid (findP pl key (16 - (k + 1)) ((a + 1) % 16) (some a) = findK pl key):=Lib.hid (by rw [HST.out];simp)
      go_wp2
      go_roundw
      case rel=>exact ⟨k + 1,(a + 1) % 16,some a,by omega,Nat.mod_lt _ (by decide),rfl,by go_num,by go_num,HB1.out,HN.out⟩
      case measure=>simp [intOf];omega
    | some fr=>
     have hfr : ¬ ((fr : Int) < 0):=by omega
     cases pg with
     | false=>
      have HRES : Hid (findK pl key = (none,some fr)):=Lib.hid (by rw [HST.out];simp)
      go_wp2
      go_ret2
      exact ⟨by rw [HRES.out];rfl,HB1.out⟩
     | true=>
      have HN : Hid (findP pl key (16 - (k + 1)) ((a + 1) % 16) (some fr) = findK pl key):=Lib.hid (by rw [HST.out];simp)
      go_wp2
      go_roundw
      case rel=>exact ⟨k + 1,(a + 1) % 16,some fr,by omega,Nat.mod_lt _ (by decide),rfl,by go_num,by go_num,HB1.out,HN.out⟩
      case measure=>simp [intOf];omega
  ·obtain rfl : k = 16:=by omega
   have HRES : Hid (findK pl key = (none,free)):=Lib.hid (by rw [<- HFP.out];rfl)
   go_wp2
   go_ret2
   exact ⟨by rw [HRES.out];rfl,HBL.out⟩
end Go.Proofs.Ytlhekbjidppijaa
namespace Go.Proofs.Ytlhekbjidppijaa
open Go.RowKit
theorem findP_lt (pl : List Place) (key : ByteArray) : ∀ f i free,i < 16 -> (∀ x,free = some x -> x < 16) -> (∀ x,(findP pl key f i free).1 = some x -> x < 16) /\ ∀ x,(findP pl key f i free).2 = some x -> x < 16:=by
 intro f
 induction f with
 | zero=>intro i free hi hf;exact ⟨fun x h=>by simp [findP] at h,fun x h=>hf x h⟩
 | succ f ih=>
  intro i free hi hf
  unfold findP
  split
  ·exact ⟨fun x h=>by simp at h,fun x h=>hf x h⟩
  ·split
   ·exact ⟨fun x h=>by simp at h;omega,fun x h=>by simp at h;omega⟩
   ·have hf' : ∀ (b : Prop) [Decidable b],∀ x,(if b then some i else free) = some x -> x < 16:=by
     intro b _ x h
     split at h
     ·injection h with h;omega
     ·exact hf x h
    dsimp only
    split
    ·exact ⟨fun x h=>by simp at h,fun x h=>hf' _ x h⟩
    ·exact ih _ _ (Nat.mod_lt _ (by decide)) (hf' _)
theorem findK_lt (pl : List Place) (key : ByteArray) : (∀ x,(findK pl key).1 = some x -> x < 16) /\ ∀ x,(findK pl key).2 = some x -> x < 16:=findP_lt pl key 16 _ none (hashK_lt key) (fun x h=>by cases h)
def getP (pl : List Place) (key : ByteArray) : Option Nat:=match (findK pl key).1 with
 | none=>none
 | some i=>match pl[i]? with
  | none=>none
  | some p=>some p.pos
section
variable {w : World} {τ : Own} {t x n used : Nat} {pl : List Place}
theorem IndexAt.cells (h : IndexAt w τ t x pl n used) : ∃ T,Has w τ t x 321 #[.slice (some ⟨T,0,none⟩) 16 16,.int .i64 (n : Int),.int .i64 (used : Int)] /\ Has w τ t T 325 (plc pl).toArray /\ x ≠ T /\ ∀ i p,pl[i]? = some p -> ∀ W,Below w.heap.size w W -> W.cell? ⟨T,i * 4,none⟩ = some (.string p.key) /\ W.cell? ⟨T,i * 4 + 1,none⟩ = some (.int .i64 (p.pos : Int)) /\ W.cell? ⟨T,i * 4 + 2,none⟩ = some (.bool p.has) /\ W.cell? ⟨T,i * 4 + 3,none⟩ = some (.bool p.gone):=by
 obtain ⟨T,h1,h2⟩:=h.ex
 refine ⟨T,h1,h2,h1.other h2 (.inr (by decide)),fun i p hp W hb=>?_⟩
 have hk:=h2.keep (T:=fun _=>False) (Chg.same_own (τ:=τ) hb) id
 have e:=fun j hj=>plc_get pl i p hp j hj
 refine ⟨?_,?_,?_,?_⟩
 ·rw [hk.cell];simpa [Place.cells] using e 0 (by decide)
 ·rw [hk.cell];simpa [Place.cells] using e 1 (by decide)
 ·rw [hk.cell];simpa [Place.cells] using e 2 (by decide)
 ·rw [hk.cell];simpa [Place.cells] using e 3 (by decide)
end
theorem get272 (w : World) (τ : Own) (t x n used : Nat) (pl : List Place) (key : ByteArray) (h : IndexAt w τ t x pl n used) (hks : key.size <= 9223372036854775807) :
 Calls Tryz.prog 272 #[.pointer (some ⟨x,0,none⟩),.string key] w fun e w'=>e = .returned (.tuple #[.int .i64 (((getP pl key).getD 0 : Nat) : Int),.bool (getP pl key).isSome]) /\ Below w.heap.size w w':=by
 have HF:=Lib.hid (find216 w τ t x n used pl key h hks)
 have hl:=(findK_lt pl key).1
 obtain ⟨T,h1,h2,hne,hc⟩:=h.cells
 have HG : Hid (getP pl key = match (findK pl key).1 with | none=>none | some i=>match pl[i]? with | none=>none | some p=>some p.pos):=Lib.hid rfl
 generalize getP pl key = r at *
 generalize findK pl key = fk at *
 obtain ⟨at_,free⟩:=fk
 dsimp only at HF hl HG
 generalize oi free = fv at HF
 cases at_ with
 | none=>
  have hr : r = none:=HG.out
  subst hr
  clear h h1 h2 hc hl HG hne
  go_enter Tryz.func272,Tryz.ntmps272
  go_wp2_with fail
  refine HF.out.mono ?_
  rintro e w1 ⟨rfl,hb⟩
  have HB:=Lib.hid hb
  clear hb HF
  simp only [oi]
  go_wp2
  go_ret2
  exact ⟨rfl,HB.out⟩
 | some i=>
  have hi : i < 16:=hl i rfl
  obtain ⟨p,hp⟩ : ∃ p,pl[i]? = some p:=⟨_,List.getElem?_eq_getElem (by rw [h.len];exact hi)⟩
  have hr : r = some p.pos:=by rw [HG.out];simp only [hp]
  subst hr
  have HC1 : Hid (∀ W,Below w.heap.size w W -> W.cell? ⟨x,0,none⟩ = some (.slice (some ⟨T,0,none⟩) 16 16) /\ W.cell? ⟨T,i * 4 + 1,none⟩ = some (.int .i64 (p.pos : Int))):=Lib.hid fun W hb=>⟨(hb.cell (p:=⟨x,0,none⟩) h1.lt).trans (h1.cell 0),(hc i p hp W hb).2.1⟩
  have k1 : (0 : Int) <= (i : Int):=by omega
  have k2 : (i : Int) < 16:=by omega
  clear h h1 h2 hc hl HG hne hp
  go_enter Tryz.func272,Tryz.ntmps272
  go_wp2_with fail
  refine HF.out.mono ?_
  rintro e w1 ⟨rfl,hb⟩
  have HB:=Lib.hid hb
  obtain ⟨c1,c2⟩:=HC1.out w1 hb
  clear hb HF HC1
  simp only [oi]
  go_wp2
  go_ret2
  exact ⟨rfl,HB.out⟩
def dropP (pl : List Place) (key : ByteArray) : List Place:=match (findK pl key).1 with
 | none=>pl
 | some i=>pl.set i ⟨.empty,0,false,true⟩
theorem IndexAt.put {w : World} {τ : Own} {t x n used n' used' : Nat} {pl : List Place} (h : IndexAt w τ t x pl n used) (i : Nat) (p : Place) (hi : i < 16) (hp : p.has = true -> 1 <= p.pos) (w' : World) (hs : n' <= 1000000 /\ used' <= 1000000)
 (hw : ∀ T,Has w τ t x 321 #[.slice (some ⟨T,0,none⟩) 16 16,.int .i64 (n : Int),.int .i64 (used : Int)] -> Has w τ t T 325 (plc pl).toArray -> x ≠ T ->
   Has w' τ t x 321 #[.slice (some ⟨T,0,none⟩) 16 16,.int .i64 (n' : Int),.int .i64 (used' : Int)] /\ Has w' τ t T 325 (plc (pl.set i p)).toArray) : IndexAt w' τ t x (pl.set i p) n' used':=by
 obtain ⟨T,h1,h2⟩:=h.ex
 refine ⟨⟨T,hw T h1 h2 (h1.other h2 (.inr (by decide)))⟩,by rw [List.length_set];exact h.len,fun q hq=>?_,hs⟩
 rcases List.mem_or_eq_of_mem_set hq with hq | rfl
 ·exact h.pos q hq
 ·exact hp
theorem Chg.place {w0 w : World} {τ0 τ : Own} {t T i : Nat} (h : Chg (· = t) w0 τ0 w τ) (hT : τ T = t) (a b c d : Value) : Chg (· = t) w0 τ0 ((((w.setCell ⟨T,i * 4,none⟩ a).setCell ⟨T,i * 4 + 1,none⟩ b).setCell ⟨T,i * 4 + 2,none⟩ c).setCell ⟨T,i * 4 + 3,none⟩ d) τ:=
 (((h.setCell (p:=⟨T,_,none⟩) hT a).setCell (p:=⟨T,_,none⟩) hT b).setCell (p:=⟨T,_,none⟩) hT c).setCell (p:=⟨T,_,none⟩) hT d
theorem Has.placeFar {w : World} {τ : Own} {t g T i : Nat} {ty : TypeId} {cs : Array Value} (h : Has w τ t g ty cs) (hT : g ≠ T) (a b c d : Value) : Has ((((w.setCell ⟨T,i * 4,none⟩ a).setCell ⟨T,i * 4 + 1,none⟩ b).setCell ⟨T,i * 4 + 2,none⟩ c).setCell ⟨T,i * 4 + 3,none⟩ d) τ t g ty cs:=
 (((h.far (p:=⟨T,_,none⟩) hT a).far (p:=⟨T,_,none⟩) hT b).far (p:=⟨T,_,none⟩) hT c).far (p:=⟨T,_,none⟩) hT d
theorem Has.place {w : World} {τ : Own} {t T : Nat} {pl : List Place} (h : Has w τ t T 325 (plc pl).toArray) (i : Nat) (hi : i < pl.length) (q : Place) :
 Has ((((w.setCell ⟨T,i * 4,none⟩ (.string q.key)).setCell ⟨T,i * 4 + 1,none⟩ (.int .i64 (q.pos : Int))).setCell ⟨T,i * 4 + 2,none⟩ (.bool q.has)).setCell ⟨T,i * 4 + 3,none⟩ (.bool q.gone)) τ t T 325 (plc (pl.set i q)).toArray:=by
 have h4:=(((h.set_ (i * 4) (.string q.key)).set_ (i * 4 + 1) (.int .i64 (q.pos : Int))).set_ (i * 4 + 2) (.bool q.has)).set_ (i * 4 + 3) (.bool q.gone)
 rw [plc_set pl i hi pl[i] q (List.getElem?_eq_getElem hi)]
 simpa using h4
set_option maxRecDepth 20000 in
theorem drop252 (w : World) (τ : Own) (t x n used : Nat) (pl : List Place) (key : ByteArray) (h : IndexAt w τ t x pl n used) (hks : key.size <= 9223372036854775807) (hn : (findK pl key).1 ≠ none -> 1 <= n) :
 Calls Tryz.prog 252 #[.pointer (some ⟨x,0,none⟩),.string key] w fun e w'=>e = .returned (.bool (findK pl key).1.isSome) /\ IndexAt w' τ t x (dropP pl key) (if (findK pl key).1.isSome then n - 1 else n) used /\ Chg (· = t) w τ w' τ:=by
 have HF:=Lib.hid (find216 w τ t x n used pl key h hks)
 have hl:=(findK_lt pl key).1
 have HD : Hid (dropP pl key = match (findK pl key).1 with | none=>pl | some i=>pl.set i ⟨.empty,0,false,true⟩):=Lib.hid rfl
 generalize dropP pl key = r at *
 generalize findK pl key = fk at *
 obtain ⟨at_,free⟩:=fk
 dsimp only at HF hl HD hn ⊢
 generalize oi free = fv at HF
 cases at_ with
 | none=>
  have hr : r = pl:=HD.out
  subst hr
  have HI:=Lib.hid h
  clear h hl HD
  go_enter Tryz.func252,Tryz.ntmps252
  go_wp2_with fail
  refine HF.out.mono ?_
  rintro e w1 ⟨rfl,hb⟩
  have HB:=Lib.hid hb
  clear hb HF
  simp only [oi]
  go_wp2
  go_ret
  exact ⟨rfl,HI.out.below HB.out,(Chg.same_own HB.out).mono fun _ e=>e.elim⟩
 | some i=>
  have hi : i < 16:=hl i rfl
  have hr : r = pl.set i ⟨.empty,0,false,true⟩:=HD.out
  subst hr
  have hn1:=hn (by simp)
  have HI:=Lib.hid h
  obtain ⟨T,h1,h2,hne,hc⟩:=h.cells
  obtain ⟨p,hp⟩ : ∃ p,pl[i]? = some p:=⟨_,List.getElem?_eq_getElem (by rw [h.len];exact hi)⟩
  have HPC:=Lib.hid (hc i p hp)
  have kneg : ¬ ((i : Int) < 0):=by omega
  have HC1 : Hid (∀ W,Below w.heap.size w W -> Has W τ t x 321 #[.slice (some ⟨T,0,none⟩) 16 16,.int .i64 (n : Int),.int .i64 (used : Int)] /\ Has W τ t T 325 (plc pl).toArray):=Lib.hid fun W hb=>⟨h1.keep (T:=fun _=>False) (Chg.same_own (τ:=τ) hb) id,h2.keep (T:=fun _=>False) (Chg.same_own (τ:=τ) hb) id⟩
  have k1 : (0 : Int) <= (i : Int):=by omega
  have k2 : (i : Int) < 16:=by omega
  have k3 : (n : Int) <= 1000000:=by have:=h.sm.1;omega
  have k4 : (1 : Int) <= (n : Int):=by omega
  clear h h1 h2 hc hl HD
  go_enter Tryz.func252,Tryz.ntmps252
  go_wp2_with fail
  refine HF.out.mono ?_
  rintro e w1 ⟨rfl,hb⟩
  have HB:=Lib.hid hb
  obtain ⟨c1,c2⟩:=HC1.out w1 hb
  have d0:=c1.cell 0
  have d1:=c1.cell 1
  have d2:=c1.frozen 1
  have d3:=c2.frozen (i * 4)
  have d4:=c2.frozen (i * 4 + 1)
  have d5:=c2.frozen (i * 4 + 2)
  have d6:=c2.frozen (i * 4 + 3)
  obtain ⟨e0,e1,e2,e3⟩:=HPC.out w1 hb
  have HC3:=Lib.hid c1
  have HC4:=Lib.hid c2
  clear hb HF HC1 HPC c1 c2 hp
  have hne':=Ne.symm hne
  simp only [oi]
  go_wp2
  go_ret
  have en : ((n : Int) - 1) = ((n - 1 : Nat) : Int):=by omega
  rw [en]
  have hh:=HI.out
  refine ⟨rfl,⟨⟨T,?_,?_⟩,by rw [List.length_set];exact hh.len,fun q hq=>?_,by have:=hh.sm;omega⟩,?_⟩
  ·have:=(HC3.out.placeFar (i:=i) hne (.string ⟨#[]⟩) (.int .i64 0) (.bool false) (.bool true)).set_ 1 (.int .i64 ((n - 1 : Nat) : Int))
   simpa using this
  ·exact (HC4.out.place i (by rw [hh.len];exact hi) ⟨.empty,0,false,true⟩).far (p:=⟨x,1,none⟩) hne' _
  ·rcases List.mem_or_eq_of_mem_set hq with hq | rfl
   ·exact hh.pos q hq
   ·intro e;cases e
  ·exact (((Chg.same_own HB.out).mono fun _ e=>e.elim).place HC4.out.own _ _ _ _).setCell (p:=⟨x,1,none⟩) HC3.out.own _
end Go.Proofs.Ytlhekbjidppijaa
namespace Go.Proofs.Ytlhekbjidppijaa
open Go.RowKit
def putP (pl : List Place) (n used : Nat) (key : ByteArray) (pos : Nat) : Option (List Place × Nat × Nat):=
 if 16 <= 2 * used then none else match findK pl key with
 | (some i,_)=>match pl[i]? with
  | none=>none
  | some p=>some (pl.set i ⟨p.key,pos,p.has,p.gone⟩,n,used)
 | (none,some f)=>match pl[f]? with
  | none=>none
  | some p=>some (pl.set f ⟨key,pos,true,false⟩,n + 1,if p.gone then used else used + 1)
 | (none,none)=>none
theorem below_of_drew {w w' : World} {m : Nat} (h : Below (w.drewN m).heap.size (w.drewN m) w') : Below w.heap.size w w':=⟨h.os,h.tape,h.output,h.size,h.block⟩
set_option maxRecDepth 20000 in
set_option maxHeartbeats 2000000 in
theorem put162 (w : World) (τ : Own) (t x n used n' used' pos : Nat) (pl pl' : List Place) (key : ByteArray) (h : IndexAt w τ t x pl n used) (hks : key.size <= 9223372036854775807) (hput : putP pl n used key pos = some (pl',n',used')) (hpos : 1 <= pos) (hps : pos <= 1000000) (hn9 : n < 1000000) :
 Calls Tryz.prog 162 #[.pointer (some ⟨x,0,none⟩),.string key,.int .i64 (pos : Int)] w fun e w'=>(∃ v,e = .returned v) /\ IndexAt w' τ t x pl' n' used' /\ Chg (· = t) w τ w' τ:=by
 have HF : Hid (∀ m,Calls Tryz.prog 216 #[.pointer (some ⟨x,0,none⟩),.string key] (w.drewN m) fun e w'=>e = .returned (.tuple #[.int .i64 (oi (findK pl key).1),.int .i64 (oi (findK pl key).2)]) /\ Below w.heap.size w w'):=Lib.hid fun m=>by
  refine (find216 (w.drewN m) τ t x n used pl key (h.keep ((Chg.refl (fun _=>False) w τ).drewN m) id) hks).mono ?_
  rintro e w' ⟨rfl,hb⟩
  exact ⟨rfl,below_of_drew hb⟩
 have hl:=findK_lt pl key
 unfold putP at hput
 split at hput
 ·cases hput
 rename_i hus
 generalize findK pl key = fk at *
 obtain ⟨at_,free⟩:=fk
 dsimp only at HF hl hput
 obtain ⟨T,h1,h2,hne,hc⟩:=h.cells
 have HI:=Lib.hid h
 have HC1 : Hid (∀ W,Below w.heap.size w W -> Has W τ t x 321 #[.slice (some ⟨T,0,none⟩) 16 16,.int .i64 (n : Int),.int .i64 (used : Int)] /\ Has W τ t T 325 (plc pl).toArray):=Lib.hid fun W hb=>⟨h1.keep (T:=fun _=>False) (Chg.same_own (τ:=τ) hb) id,h2.keep (T:=fun _=>False) (Chg.same_own (τ:=τ) hb) id⟩
 have b0 : w.cell? ⟨x,0,none⟩ = some (.slice (some ⟨T,0,none⟩) 16 16):=h1.cell 0
 have b2 : w.cell? ⟨x,2,none⟩ = some (.int .i64 (used : Int)):=h1.cell 2
 have u1 : (used : Int) <= 7:=by omega
 have u0 : (0 : Int) <= (used : Int):=by omega
 have u2 : decide ((16 : Int) <= 2 * (used : Int)) = false:=by rw [decide_eq_false_iff_not];omega
 have u3 : (pos : Int) <= 1000000:=by omega
 have u4 : (n : Int) < 1000000:=by omega
 have u5 : (0 : Int) <= (n : Int):=by omega
 have hne':=Ne.symm hne
 have HPOS:=Lib.hid hpos
 cases at_ with
 | some i=>
  generalize oi free = fv at HF
  have hi : i < 16:=hl.1 i rfl
  obtain ⟨p,hp⟩ : ∃ p,pl[i]? = some p:=⟨_,List.getElem?_eq_getElem (by rw [h.len];exact hi)⟩
  simp only [hp,Option.some.injEq,Prod.mk.injEq] at hput
  obtain ⟨rfl,rfl,rfl⟩:=hput
  have HPC:=Lib.hid (hc i p hp)
  have HPI:=Lib.hid hp
  have kneg : ¬ ((i : Int) < 0):=by omega
  have k1 : (0 : Int) <= (i : Int):=by omega
  have k2 : (i : Int) < 16:=by omega
  clear h h1 h2 hc hl hp hpos hks
  go_enter Tryz.func162,Tryz.ntmps162
  go_wp2_with fail
  go_quiet (fail)
  go_wp2_with fail
  refine (HF.out _).mono ?_
  rintro e w1 ⟨rfl,hb⟩
  have HB:=Lib.hid hb
  obtain ⟨c1,c2⟩:=HC1.out w1 hb
  have d0:=c1.cell 0
  have d4:=c2.frozen (i * 4 + 1)
  obtain ⟨e0,e1,e2,e3⟩:=HPC.out w1 hb
  have HC3:=Lib.hid c1
  have HC4:=Lib.hid c2
  clear hb HF HC1 HPC c1 c2 b0 b2
  simp only [oi]
  go_wp2
  go_ret
  have hh:=HI.out
  have hpi:=HPI.out
  refine ⟨⟨_,rfl⟩,⟨⟨T,HC3.out.far (p:=⟨T,_,none⟩) hne _,?_⟩,by rw [List.length_set];exact hh.len,fun q hq=>?_,hh.sm⟩,?_⟩
  ·have h5:=HC4.out.set_ (i * 4 + 1) (.int .i64 (pos : Int))
   have hil : i < pl.length:=by rw [hh.len];exact hi
   have e6 : ((plc pl).set (i * 4 + 1) (.int .i64 (pos : Int))) = plc (pl.set i ⟨p.key,pos,p.has,p.gone⟩):=by
    rw [plc_set pl i hil p ⟨p.key,pos,p.has,p.gone⟩ hpi]
    have g0:=plc_get pl i p hpi 0 (by decide)
    have g2:=plc_get pl i p hpi 2 (by decide)
    have g3:=plc_get pl i p hpi 3 (by decide)
    simp only [Place.cells,List.getElem?_cons_zero,List.getElem?_cons_succ,Nat.add_zero] at g0 g2 g3
    refine List.ext_getElem? fun k=>?_
    simp only [List.getElem?_set,List.length_set]
    have:=plc_length pl
    by_cases q3 : i * 4 + 3 = k
    ·subst q3;simp [g3];omega
    ·by_cases q2 : i * 4 + 2 = k
     ·subst q2;simp [g2];omega
     ·by_cases q0 : i * 4 = k
      ·subst q0;simp [g0];omega
      ·simp [q3,q2,q0]
   rw [<- e6]
   simpa using h5
  ·rcases List.mem_or_eq_of_mem_set hq with hq | rfl
   ·exact hh.pos q hq
   ·intro _;exact HPOS.out
  ·exact ((Chg.same_own HB.out).mono fun _ e=>e.elim).setCell (p:=⟨T,_,none⟩) HC4.out.own _
 | none=>
  cases free with
  | none=>cases hput
  | some f=>
   have hi : f < 16:=hl.2 f rfl
   obtain ⟨p,hp⟩ : ∃ p,pl[f]? = some p:=⟨_,List.getElem?_eq_getElem (by rw [h.len];exact hi)⟩
   simp only [hp,Option.some.injEq,Prod.mk.injEq] at hput
   obtain ⟨rfl,rfl,hus'⟩:=hput
   have HPC:=Lib.hid (hc f p hp)
   have HUS:=Lib.hid hus'
   have kneg : ¬ ((f : Int) < 0):=by omega
   have k1 : (0 : Int) <= (f : Int):=by omega
   have k2 : (f : Int) < 16:=by omega
   clear h h1 h2 hc hl hp hpos hks hus'
   cases hg : p.gone with
   | true=>
    go_enter Tryz.func162,Tryz.ntmps162
    go_wp2_with fail
    go_quiet (fail)
    go_wp2_with fail
    refine (HF.out _).mono ?_
    rintro e w1 ⟨rfl,hb⟩
    have HB:=Lib.hid hb
    obtain ⟨c1,c2⟩:=HC1.out w1 hb
    have d0:=c1.cell 0
    have d1:=c1.cell 1
    have d2:=c1.frozen 1
    have d3:=c2.frozen (f * 4)
    have d4:=c2.frozen (f * 4 + 1)
    have d5:=c2.frozen (f * 4 + 2)
    have d6:=c2.frozen (f * 4 + 3)
    obtain ⟨e0,e1,e2,e3⟩:=HPC.out w1 hb
    rw [hg] at e3
    have HC3:=Lib.hid c1
    have HC4:=Lib.hid c2
    clear hb HF HC1 HPC c1 c2 b0 b2
    simp only [oi]
    go_wp2
    go_ret
    have hh:=HI.out
    obtain rfl : used = used':=by have:=HUS.out;rw [hg] at this;simpa using this
    refine ⟨⟨_,rfl⟩,⟨⟨T,?_,?_⟩,by rw [List.length_set];exact hh.len,fun q hq=>?_,by have:=hh.sm;omega⟩,?_⟩
    ·have:=(HC3.out.placeFar (i:=f) hne (.string key) (.int .i64 (pos : Int)) (.bool true) (.bool false)).set_ 1 (.int .i64 ((n : Int) + 1))
     simpa using this
    ·exact (HC4.out.place f (by rw [hh.len];exact hi) ⟨key,pos,true,false⟩).far (p:=⟨x,1,none⟩) hne' _
    ·rcases List.mem_or_eq_of_mem_set hq with hq | rfl
     ·exact hh.pos q hq
     ·intro _;exact HPOS.out
    ·exact (((Chg.same_own HB.out).mono fun _ e=>e.elim).place HC4.out.own _ _ _ _).setCell (p:=⟨x,1,none⟩) HC3.out.own _
   | false=>
    go_enter Tryz.func162,Tryz.ntmps162
    go_wp2_with fail
    go_quiet (fail)
    go_wp2_with fail
    refine (HF.out _).mono ?_
    rintro e w1 ⟨rfl,hb⟩
    have HB:=Lib.hid hb
    obtain ⟨c1,c2⟩:=HC1.out w1 hb
    have d0:=c1.cell 0
    have d1:=c1.cell 1
    have d2:=c1.frozen 1
    have d7:=c1.cell 2
    have d8:=c1.frozen 2
    have d3:=c2.frozen (f * 4)
    have d4:=c2.frozen (f * 4 + 1)
    have d5:=c2.frozen (f * 4 + 2)
    have d6:=c2.frozen (f * 4 + 3)
    obtain ⟨e0,e1,e2,e3⟩:=HPC.out w1 hb
    rw [hg] at e3
    have HC3:=Lib.hid c1
    have HC4:=Lib.hid c2
    clear hb HF HC1 HPC c1 c2 b0 b2
    simp only [oi]
    go_wp2
    go_ret
    have hh:=HI.out
    obtain rfl : used + 1 = used':=by have:=HUS.out;rw [hg] at this;simpa using this
    refine ⟨⟨_,rfl⟩,⟨⟨T,?_,?_⟩,by rw [List.length_set];exact hh.len,fun q hq=>?_,by have:=hh.sm;omega⟩,?_⟩
    ·have:=((HC3.out.set_ 2 (.int .i64 ((used : Int) + 1))).placeFar (i:=f) hne (.string key) (.int .i64 (pos : Int)) (.bool true) (.bool false)).set_ 1 (.int .i64 ((n : Int) + 1))
     simpa using this
    ·exact ((HC4.out.far (p:=⟨x,2,none⟩) hne' _).place f (by rw [hh.len];exact hi) ⟨key,pos,true,false⟩).far (p:=⟨x,1,none⟩) hne' _
    ·rcases List.mem_or_eq_of_mem_set hq with hq | rfl
     ·exact hh.pos q hq
     ·intro _;exact HPOS.out
    ·exact ((((Chg.same_own HB.out).mono fun _ e=>e.elim).setCell (p:=⟨x,2,none⟩) HC3.out.own _).place HC4.out.own _ _ _ _).setCell (p:=⟨x,1,none⟩) HC3.out.own _
set_option maxRecDepth 20000 in
theorem below212 (w : World) (τ : Own) (t x n used : Nat) (pl : List Place) (h : IndexAt w τ t x pl n used) :
 Calls Tryz.prog 212 #[.pointer (some ⟨x,0,none⟩),.int .i64 1] w fun e w'=>e = .returned (.int .i64 0) /\ IndexAt w' τ t x pl n used /\ Chg (· = t) w τ w' τ:=by
 obtain ⟨T,h1,h2,hne,hc⟩:=h.cells
 have HI:=Lib.hid h
 have HC1 : Hid (∀ W,Below w.heap.size w W -> Has W τ t x 321 #[.slice (some ⟨T,0,none⟩) 16 16,.int .i64 (n : Int),.int .i64 (used : Int)]):=Lib.hid fun W hb=>h1.keep (T:=fun _=>False) (Chg.same_own (τ:=τ) hb) id
 have HPC:=Lib.hid hc
 have b0 : w.cell? ⟨x,0,none⟩ = some (.slice (some ⟨T,0,none⟩) 16 16):=h1.cell 0
 have HW : Hid (IntKind.i64.wrap (n : Int) = (n : Int)):=Lib.hid (by have:=h.sm;exact IntWalk.i64_in _ ⟨by omega,by omega⟩)
 have u5 : (0 : Int) <= (n : Int):=by omega
 have u6 : (n : Int) <= 1000000:=by have:=h.sm;omega
 clear h h1 h2 hc
 go_enter Tryz.func212,Tryz.ntmps212
 go_wp2
 go_loopw [5,15] (fun s5 s15 wr=>∃ k : Nat,k <= 16 /\ s5 = .int .i64 0 /\ s15 = .int .i64 (k : Int) /\ Below w.heap.size w wr) (fun _ s _=>16 - (intOf s).toNat)
 case atStart=>exact ⟨0,by decide,rfl,rfl,Below.refl _ _⟩
 case round=>
  obtain ⟨k,hk,rfl,rfl,hbl⟩:=hrel
  have HBL:=Lib.hid hbl
  clear hbl b0
  by_cases hlt : k < 16
  ·obtain ⟨p,hp⟩ : ∃ p,pl[k]? = some p:=⟨_,List.getElem?_eq_getElem (by rw [HI.out.len];exact hlt)⟩
   obtain ⟨e0,e1,e2,e3⟩:=HPC.out k p hp wr HBL.out
   have hpos:=HI.out.pos p (List.mem_of_getElem? hp)
   have k1 : (k : Int) < 16:=by omega
   have k2 : (0 : Int) <= (k : Int):=by omega
   have HB1 : Hid (Below w.heap.size w (wr.alloc (.cells #[.string p.key,.int .i64 (p.pos : Int),.bool p.has,.bool p.gone] 325))):=Lib.hid (HBL.out.alloc HBL.out.size _)
   clear hp
   obtain ⟨pk,pp,ph,pg⟩:=p
   dsimp only at e0 e1 e2 e3 HB1 hpos
   cases ph with
   | true=>
    have h9:=hpos rfl
    have k3 : ¬ ((pp : Int) < 1):=by omega
    have k4 : decide ((pp : Int) < 1) = false:=by rw [decide_eq_false_iff_not];exact k3
    go_wp2
    go_roundw
    case rel=>exact ⟨k + 1,by omega,rfl,by go_num,HB1.out⟩
    case measure=>simp [intOf];omega
   | false=>
    go_wp2
    go_roundw
    case rel=>exact ⟨k + 1,by omega,rfl,by go_num,HB1.out⟩
    case measure=>simp [intOf];omega
  ·obtain rfl : k = 16:=by omega
   have c1:=HC1.out wr HBL.out
   have HC2:=Lib.hid c1
   have d1:=c1.cell 1
   have d2:=c1.frozen 1
   clear c1
   go_wp2
   go_ret
   refine ⟨rfl,?_,((Chg.same_own HBL.out).mono fun _ e=>e.elim).setCell (p:=⟨x,1,none⟩) HC2.out.own _⟩
   have hi:=HI.out.below HBL.out
   obtain ⟨T',g1,g2⟩:=hi.ex
   refine ⟨⟨T',?_,g2.far (p:=⟨x,1,none⟩) (g2.other g1 (.inr (by decide))) _⟩,hi.len,hi.pos,hi.sm⟩
   have:=g1.set_ 1 (.int .i64 (n : Int))
   simpa using this
end Go.Proofs.Ytlhekbjidppijaa
