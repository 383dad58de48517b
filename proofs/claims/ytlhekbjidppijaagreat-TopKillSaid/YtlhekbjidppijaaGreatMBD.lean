/- Contracts of functions that the Top rows reach, and plain laws for them: what each returns and what it leaves in memory. Conditions: those that each theorem names. -/
import Derived.Sort.OwnSorted
import Derived.Test.YtlhekbjidppijaaGreatMAB
import Derived.Test.YtlhekbjidppijaaGreatMAC
import Derived.Test.YtlhekbjidppijaaGreatMAE
import Derived.Test.YtlhekbjidppijaaGreatMAF
import Derived.Test.YtlhekbjidppijaaGreatMAI
import Derived.Test.YtlhekbjidppijaaGreatMAN
import Derived.Test.YtlhekbjidppijaaGreatMAT
import Derived.Test.YtlhekbjidppijaaGreatMAY
set_option linter.unusedVariables false
set_option linter.unusedSimpArgs false
namespace Go.Proofs.Ytlhekbjidppijaa
open Go.RowKit Go.Sort
theorem ltOf_cmpP : ltOf cmpP = lessP:=by
 funext a b
 unfold ltOf cmpP
 have:=swoP a b a
 by_cases h1 : lessP a b = true
 ·simp [h1]
 ·by_cases h2 : lessP b a = true <;> simp [h1,h2]
theorem SWO_P : SWO (ltOf cmpP):=by
 rw [ltOf_cmpP]
 exact ⟨fun x=>(swoP x x x).1,fun x y z=>(swoP x y z).2.1,fun x y z=>(swoP x y z).2.2⟩
theorem totalP (x y : Nat × Nat) (h1 : lessP x y = false) (h2 : lessP y x = false) : x = y:=by
 obtain ⟨a,b⟩:=x
 obtain ⟨c,d⟩:=y
 simp only [lessP,decide_eq_false_iff_not] at h1 h2
 exact Prod.ext (by dsimp only;omega) (by dsimp only;omega)
def insP (x : Nat × Nat) : List (Nat × Nat) -> List (Nat × Nat)
 | []=>[x]
 | y :: l=>if lessP y x then y :: insP x l else x :: y :: l
def sortP : List (Nat × Nat) -> List (Nat × Nat)
 | []=>[]
 | x :: l=>insP x (sortP l)
theorem insP_perm (x : Nat × Nat) : ∀ l,(insP x l).Perm (x :: l)
 | []=>.refl _
 | y :: l=>by
  unfold insP
  split
  ·exact ((insP_perm x l).cons y).trans (.swap _ _ _)
  ·exact .refl _
theorem sortP_perm : ∀ l,(sortP l).Perm l
 | []=>.refl _
 | x :: l=>(insP_perm x _).trans ((sortP_perm l).cons x)
theorem insP_sorted (x : Nat × Nat) : ∀ l : List (Nat × Nat),l.Pairwise (fun a b=>lessP b a = false) -> (insP x l).Pairwise (fun a b=>lessP b a = false)
 | [],_=>by simp [insP]
 | y :: l,h=>by
  unfold insP
  rw [List.pairwise_cons] at h
  split
  ·rename_i hy
   rw [List.pairwise_cons]
   refine ⟨fun z hz=>?_,insP_sorted x l h.2⟩
   rcases List.mem_cons.1 ((insP_perm x l).mem_iff.1 hz) with rfl | hz
   ·have:=(swoP y z y).2.1 hy
    cases hh : lessP z y
    ·rfl
    ·rw [(swoP y y y).1] at this
     exact (this hh).symm
   ·exact h.1 z hz
  ·rename_i hy
   have hy' : lessP y x = false:=by simpa using hy
   rw [List.pairwise_cons]
   refine ⟨fun z hz=>?_,List.pairwise_cons.2 h⟩
   rcases List.mem_cons.1 hz with rfl | hz
   ·exact hy'
   ·exact (swoP z y x).2.2 (h.1 z hz) hy'
theorem sortP_sorted : ∀ l,(sortP l).Pairwise (fun a b=>lessP b a = false)
 | []=>.nil
 | x :: l=>insP_sorted x _ (sortP_sorted l)
theorem sorted_eq {d d' : Array (Nat × Nat)} (hp : PermIn 0 d.size d d') (hs : SortedIn (ltOf cmpP) 0 d.size d') : d'.toList = sortP d.toList:=by
 rw [ltOf_cmpP] at hs
 obtain ⟨h1,_,h3⟩:=hp
 have h3' : d'.toList.Perm d.toList:=by
  have e1 : (d'.extract 0 d.size) = d':=by rw [<- h1];simp
  have e2 : (d.extract 0 d.size) = d:=by simp
  rwa [e1,e2] at h3
 refine List.Perm.eq_of_pairwise (le:=fun a b=>lessP b a = false) (fun a b _ _ h h'=>totalP a b h' h) ?_ (sortP_sorted _) (h3'.trans (sortP_perm _).symm)
 rw [List.pairwise_iff_getElem]
 intro i j hi hj hij
 have:=hs i j (Nat.zero_le _) hij (by simpa [<- h1] using hj)
 simpa [getElem!_pos,show i < d'.size by simpa using hi,show j < d'.size by simpa using hj] using this
theorem enc_len (x : Nat × Nat) : (encP x).length = 2:=rfl
theorem flatP_get : ∀ (l : List (Nat × Nat)) (t : Nat),(l.flatMap encP)[t]? = (l[t / 2]?).bind fun x=>(encP x)[t % 2]?
 | [],t=>by simp
 | x :: l,t=>by
  rw [List.flatMap_cons,List.getElem?_append,enc_len]
  split
  ·rename_i h
   rw [Nat.div_eq_of_lt h,Nat.mod_eq_of_lt h]
   simp
  ·rename_i h
   obtain ⟨u,rfl⟩ : ∃ u,t = u + 2:=⟨t - 2,by omega⟩
   rw [Nat.add_sub_cancel,flatP_get l u,show (u + 2) / 2 = u / 2 + 1 by omega,Nat.add_mod_right]
   simp
theorem flatK_list (l : List (Nat × Nat)) : (flatK encP 2 l.toArray).toList = l.flatMap encP:=by
 apply List.ext_getElem?
 intro t
 rw [flatP_get,Array.getElem?_toList]
 by_cases h : t < l.length * 2
 ·have h2 : t / 2 < l.length:=by omega
  have h3 : t % 2 < 2:=Nat.mod_lt _ (by omega)
  simp only [flatK,List.size_toArray]
  rw [Array.getElem?_eq_getElem (by simpa using h)]
  simp [h2,encP,h3]
 ·rw [Array.getElem?_eq_none (by simpa using h),List.getElem?_eq_none (by omega)]
  rfl
section
variable {w : World} {τ : Own} {t g n cap q : Nat} {os : Array Obj} {l l' : List (Nat × Nat)}
theorem heap_sortedP {cur : Array Value} {e : TypeId} {fr : Nat × Nat} (F : Array Value) (hb : w.heap[g]? = some (.cells cur e fr)) :
 (grow (putRow id (Sort.ahead w q) g 0 F) os).heap[g]? = some (.cells (putCells id 0 F cur) e fr):=by
 have hg : g < w.heap.size:=(Array.getElem?_eq_some_iff.1 hb).1
 rw [heap_grow_old _ _ (by simpa using hg)]
 simp [putRow,mapBlock,Sort.ahead,Array.getElem?_modify,hb,onCells]
theorem grownBy_sortedP (F : Array Value) : w.grownBy (grow (putRow id (Sort.ahead w q) g 0 F) os) (some g):=by
 refine ⟨rfl,rfl,rfl,by simp,fun k hk hne=>?_⟩
 rw [heap_grow_old _ _ (by simpa using hk)]
 have : g ≠ k:=fun e=>hne (by rw [e])
 simp [putRow,mapBlock,Sort.ahead,Array.getElem?_modify,this]
theorem take_putCellsP (cur F : Array Value) (h : F.size <= cur.size) : (putCells id 0 F cur).toList.take F.size = F.toList:=by
 apply List.ext_getElem?
 intro j
 by_cases hj : j < F.size
 ·rw [List.getElem?_take_of_lt hj,Array.getElem?_toList]
  simp [putCells,hj,show j < cur.size by omega]
 ·rw [List.getElem?_take_eq_none (by omega),List.getElem?_eq_none (by simp;omega)]
end
theorem sort264 (w : World) (τ : Own) (t n : Nat) (v : Value) (l : List (Nat × Nat)) (hr : Rw w τ t 170 2 v n (l.flatMap encP)) (hn : 0 < n) (hn2 : n < 1000)
 (hcl : ∀ (W : World) (x y : Nat × Nat),Calls Tryz.prog 265 #[.agg #[.int .u64 (x.1 : Int),.int .i64 (x.2 : Int)],.agg #[.int .u64 (y.1 : Int),.int .i64 (y.2 : Int)]] W fun e w'=>e = .returned (.int .i64 (cmpP x y)) /\ ∃ q os',w' = grow (W.drewN q) os') :
 Calls Tryz.prog 264 #[v,.func (.func 265) #[] #[]] w fun e w'=>e = .returned (.tuple #[]) /\ ∃ τ',Rw w' τ' t 170 2 v n ((sortP l).flatMap encP) /\ Chg (· = t) w τ w' τ':=by
 have hlen : l.length = n:=by
  have:=hr.own.1
  have e : ∀ l : List (Nat × Nat),(l.flatMap encP).length = l.length * 2:=fun l=>by
   induction l with
   | nil=>rfl
   | cons x l ih=>rw [List.flatMap_cons,List.length_append,ih,enc_len,List.length_cons];omega
  rw [e] at this
  omega
 obtain ⟨hl,hr2⟩:=hr.own
 rcases hr2 with ⟨_,h0⟩ | ⟨g,cap,cur,rfl,_,hb,h1,h2,h3,h4⟩
 ·omega
 have hg : g < w.heap.size:=(Array.getElem?_eq_some_iff.1 hb).1
 have hH : HoldsK encP 2 w g 0 l.toArray:=by
  intro j hj
  rw [size_flatK,List.size_toArray] at hj
  refine ⟨?_,by simp [World.frozen?,hb]⟩
  have e1 : (cur.toList.take (n * 2))[j]? = (l.flatMap encP)[j]?:=by rw [h4]
  rw [List.getElem?_take_of_lt (by omega)] at e1
  simp only [World.cell?,hb,Nat.zero_add]
  simp only [Option.isSome_none,Bool.false_eq_true,if_false]
  rw [<- Array.getElem?_toList,e1,<- flatK_list,Array.getElem?_toList]
  rw [Array.getElem?_eq_getElem (by simp;omega),getElem!_pos _ _ (by simp;omega)]
  rfl
 have eg : ∀ args w,(callFunc 265 args).run Tryz.prog w = .ok (.enter 265 args) w:=enters_of Tryz.func265 (by kernel_rfl) rfl
 have hcon:=AnyQ.slices_SortFunc Tryz.sortPt 2 Tryz.isAgg170 Tryz.sizeOf170 encP (fun _=>rfl) (fun x v hv=>by simp [encP] at hv;rcases hv with rfl | rfl <;> rfl) cmpP SWO_P 265 #[] g 0 cap l.toArray w eg
  (fun _ _ _ _ x y=>hcl _ x y) hH hg (by simp;omega)
 change Calls Tryz.prog 264 _ _ _ at hcon
 rw [List.size_toArray,hlen] at hcon
 refine hcon.mono ?_
 rintro e w' ⟨rfl,d',m,os,hp,hs,rfl⟩
 have e1:=sorted_eq (d:=l.toArray) (d':=d') (by simpa [hlen] using hp) (by simpa [hlen] using hs)
 have e2 : d' = (sortP l).toArray:=by
  apply Array.ext'
  rw [e1]
 subst e2
 have hsl : (sortP l).length = n:=by rw [(sortP_perm l).length_eq,hlen]
 refine ⟨rfl,ext τ w t,⟨⟨?_,.inr ⟨g,cap,_,rfl,Nat.zero_le _,heap_sortedP _ hb,h1,h2,by simp [putCells,h3],?_⟩⟩,fun g' hg'=>?_⟩,(Chg.grown (Chg.refl _ _ _) (grownBy_sortedP _) (fun k hk=>?_)).ext t⟩
 ·rw [<- flatK_list];simp [hsl]
 ·have:=take_putCellsP cur (flatK encP 2 (sortP l).toArray) (by simp [hsl];rw [h3];omega)
  rw [size_flatK,List.size_toArray,hsl] at this
  rw [this,flatK_list]
 ·injection hg' with hg'
  subst hg'
  rw [ext_old hg]
  exact hr.tag _ rfl
 ·injection hk with hk
  subst hk
  exact .inr (hr.tag _ rfl)
def Gr (W w' : World) : Prop:=∃ os,w' = grow W os
theorem Gr.refl (W : World) : Gr W W:=⟨#[],(grow_empty W).symm⟩
theorem Gr.alloc {W w' : World} (h : Gr W w') (o : Obj) : Gr W (w'.alloc o):=by
 obtain ⟨os,rfl⟩:=h
 exact ⟨_,by rw [alloc_eq_grow,grow_grow]⟩
set_option maxRecDepth 20000 in
theorem of265 (W : World) (x y : Nat × Nat) : Calls Tryz.prog 265 #[.agg #[.int .u64 (x.1 : Int),.int .i64 (x.2 : Int)],.agg #[.int .u64 (y.1 : Int),.int .i64 (y.2 : Int)]] W fun e w'=>e = .returned (.int .i64 (cmpP x y)) /\ ∃ q os',w' = grow (W.drewN q) os':=by
 suffices h : Calls Tryz.prog 265 #[.agg #[.int .u64 (x.1 : Int),.int .i64 (x.2 : Int)],.agg #[.int .u64 (y.1 : Int),.int .i64 (y.2 : Int)]] W fun e w'=>e = .returned (.int .i64 (cmpP x y)) /\ Gr W w' from
  h.mono fun e w' h=>⟨h.1,0,h.2⟩
 have H1:=fun W=>less266 W x y
 have H2:=fun W=>less266 W y x
 obtain ⟨r,hr⟩ : ∃ r,r = cmpP x y:=⟨_,rfl⟩
 have HR:=Lib.hid hr
 unfold cmpP at hr
 rw [<- HR.out]
 clear HR
 generalize (x.1 : Int) = a at *
 generalize (x.2 : Int) = b at *
 generalize (y.1 : Int) = c at *
 generalize (y.2 : Int) = d at *
 cases e1 : lessP x y with
 | true=>
  rw [e1] at H1 hr
  simp only [if_true] at hr
  subst hr
  clear H2 e1
  go_enter Tryz.func265,Tryz.ntmps265
  go_wp2_with (go_at_call 266;refine (H1 _).mono ?_;rintro e w' ⟨rfl,rfl⟩)
  go_ret
  exact ⟨rfl,((((Gr.refl _).alloc _).alloc _).alloc _).alloc _⟩
 | false=>
  rw [e1] at H1 hr
  cases e2 : lessP y x with
  | true=>
   rw [e2] at H2 hr
   simp at hr
   subst hr
   clear e1 e2
   go_enter Tryz.func265,Tryz.ntmps265
   go_wp2_with fail
   refine (H1 _).mono ?_
   rintro e w' ⟨rfl,rfl⟩
   clear H1
   go_wp2_with fail
   refine (H2 _).mono ?_
   rintro e w' ⟨rfl,rfl⟩
   clear H2
   go_wp2
   go_ret
   exact ⟨rfl,((((((Gr.refl _).alloc _).alloc _).alloc _).alloc _).alloc _).alloc _⟩
  | false=>
   rw [e2] at H2 hr
   simp at hr
   subst hr
   clear e1 e2
   go_enter Tryz.func265,Tryz.ntmps265
   go_wp2_with fail
   refine (H1 _).mono ?_
   rintro e w' ⟨rfl,rfl⟩
   clear H1
   go_wp2_with fail
   refine (H2 _).mono ?_
   rintro e w' ⟨rfl,rfl⟩
   clear H2
   go_wp2
   go_ret
   exact ⟨rfl,((((((Gr.refl _).alloc _).alloc _).alloc _).alloc _).alloc _).alloc _⟩
end Go.Proofs.Ytlhekbjidppijaa
namespace Go.Proofs.Ytlhekbjidppijaa
open Go.RowKit
def pts8 (n k : Nat) : List (Nat × Nat):=(List.range k).map fun i : Nat=>(Plain.stir (pt (n : Int) (i : Int)),n)
def ptsAll (ns : List Nat) : List (Nat × Nat):=ns.flatMap (pts8 · 8)
theorem pts8_succ (n k : Nat) : pts8 n (k + 1) = pts8 n k ++ [(Plain.stir (pt (n : Int) (k : Int)),n)]:=by simp [pts8,List.range_succ]
theorem pts8_len (n k : Nat) : (pts8 n k).length = k:=by simp [pts8]
theorem ptsAll_len : ∀ ns,(ptsAll ns).length = ns.length * 8
 | []=>rfl
 | n :: ns=>by rw [ptsAll,List.flatMap_cons,List.length_append,pts8_len];have:=ptsAll_len ns;rw [ptsAll] at this;rw [this,List.length_cons];omega
theorem ptsAll_snoc (ns : List Nat) (n : Nat) : ptsAll (ns ++ [n]) = ptsAll ns ++ pts8 n 8:=by simp [ptsAll]
theorem info170 : (Tryz.prog.info? 170).map (fun i=>(i.zero.map Value.cells,i.size,i.bytes)) = some (some #[.int .u64 0,.int .i64 0],2,16):=by kernel_rfl
set_option maxRecDepth 20000 in
theorem of235 (w : World) (τ : Own) (t : Nat) (A : Option Addr) (n c : Nat) (ns : List Nat) (hs : Sl w A (nnums ns)) (hn : ns.length = n) (hok : NodesOk ns) (hA : ∀ a,A = some a -> a.block < w.heap.size /\ τ a.block ≠ t) :
 Calls Tryz.prog 235 #[.slice A n c] w fun e w'=>∃ v τ',e = .returned v /\ Rw w' τ' t 170 2 v (n * 8) ((sortP (ptsAll ns)).flatMap encP) /\ Chg (· = t) w τ w' τ':=by
 obtain ⟨i0,z0,hi,hz,hc,hs0,hb⟩:=info_cells info170
 have HI:=Lib.hid (And.intro hi (And.intro hz (And.intro hc (And.intro hs0 hb))))
 clear hi hz hc hs0 hb
 have HOK:=Lib.hid hok
 have h1:=hok.ne
 have h2:=hok.le
 obtain ⟨b,o,rfl,hcs⟩:=hs (by intro e;have:=congrArg List.length e;simp [nnums] at this;subst this;simp at h1)
 have HM:=Lib.hid (may72 w (some ⟨b,o,none⟩) n c ns hs hn hok)
 obtain ⟨hb1,hb2⟩:=hA _ rfl
 have HC : Hid (∀ W τ',Chg (· = t) w τ W τ' -> ∀ i (h : i < ns.length),W.cell? ⟨b,o + i,none⟩ = some (.int .i64 (ns[i] : Int))):=Lib.hid fun W τ' hc i h=>
  (World.cell?_of_block (a:=⟨b,o + i,none⟩) (hc.block b hb1 hb2)).trans (hcs i _ (nnums_get ns i h))
 have k0 : 0 < n:=by omega
 clear hs hok hcs hb1 hb2 hA
 have HN:=Lib.hid hn
 go_enter Tryz.func235,Tryz.ntmps235
 go_wp2_with (go_at_call 72;refine HM.out.mono ?_;rintro e w' ⟨rfl,hw⟩;obtain rfl:=hw.symm)
 go_loopw [3,12] (fun l i wr=>∃ (k : Nat) (τr : Own),k <= n /\ i = .int .i64 (k : Int) /\ Rw wr τr t 170 2 l (k * 8) ((ptsAll (ns.take k)).flatMap encP) /\ Chg (· = t) w τ wr τr) (fun _ i _=>n - (intOf i).toNat)
 case atStart=>exact ⟨0,τ,Nat.zero_le _,rfl,by simpa [ptsAll] using Rw.nil w τ t 170 2,Chg.refl _ _ _⟩
 case round=>
  obtain ⟨k,τr,hk,rfl,hrw,hch⟩:=hrel
  have HR:=Lib.hid hrw
  have HB:=Lib.hid hch
  clear hrw hch
  by_cases hlt : k < n
  ·have hkl : k < ns.length:=by omega
   have c0:=HC.out wr τr HB.out k hkl
   obtain ⟨e1,e2⟩:=HOK.out.each k hkl
   have HT : Hid (ptsAll (ns.take (k + 1)) = ptsAll (ns.take k) ++ pts8 ns[k] 8):=Lib.hid (by rw [List.take_succ_eq_append_getElem hkl,ptsAll_snoc])
   generalize hz : ns[k] = z at *
   have k1 : (k : Int) < (n : Int):=by omega
   have k2 : (0 : Int) <= (k : Int):=by omega
   have k5 : (k : Int) <= 5:=by omega
   clear hz
   go_wp2
   go_loopw [3,16] (fun l i wq=>∃ (j : Nat) (τq : Own),j <= 8 /\ i = .int .i64 (j : Int) /\ Rw wq τq t 170 2 l (k * 8 + j) ((ptsAll (ns.take k) ++ pts8 z j).flatMap encP) /\ Chg (· = t) w τ wq τq) (fun _ i _=>8 - (intOf i).toNat)
   case atStart=>exact ⟨0,τr,Nat.zero_le _,rfl,by simpa [pts8] using HR.out,HB.out⟩
   case round=>
    obtain ⟨j,τq,hj,rfl,hrw,hch⟩:=hrel
    have HR2:=Lib.hid hrw
    have HB2:=Lib.hid hch
    clear hrw hch c0
    by_cases hlt2 : j < 8
    ·have j1 : (j : Int) < 8:=by omega
     have j2 : (0 : Int) <= (j : Int):=by omega
     have HP:=Lib.hid (point_any (z : Int) (j : Int))
     obtain ⟨q,hq⟩ : ∃ q,q = Plain.stir (pt (z : Int) (j : Int)):=⟨_,rfl⟩
     rw [<- hq] at HP
     have HT2 : Hid ((ptsAll (ns.take k) ++ pts8 z j).flatMap encP ++ [.int .u64 (q : Int),.int .i64 (z : Int)] = (ptsAll (ns.take k) ++ pts8 z (j + 1)).flatMap encP):=Lib.hid (by
      rw [pts8_succ,hq,<- List.append_assoc,List.flatMap_append (xs:=ptsAll (ns.take k) ++ pts8 z j)];rfl)
     clear hq
     go_wp2_with (first | (go_at_call 263;refine (HP.out _).mono ?_;rintro e w' ⟨rfl,rfl⟩) | (at_builtin;refine wpList_append_row2 _ rfl _ _ 166 rfl τq t 170 i0 z0 2 16 (by kernel_rfl) HI.out.1 HI.out.2.1 HI.out.2.2.2.1 HI.out.2.2.2.2 (by rw [HI.out.2.2.1];rfl) (by decide) _ (k * 8 + j) _ (by rfl) (HR2.out.alloc _) ⟨_,0,none⟩ 1 1 [.int .u64 (q : Int),.int .i64 (z : Int)] (by rfl) rfl (by decide) (Blk.new _ _ _).sl (by simp [Value.oneCell']) (by omega) (by decide) ?_;intro g cap w3 hr3 hc3 hg3))
     rw [HT2.out] at hr3
     have HR3:=Lib.hid hr3
     have HB3:=Lib.hid ((HB2.out.alloc _).trans hc3)
     clear hr3 hc3 hg3
     go_wp2
     go_roundw
     case rel=>exact ⟨j + 1,_,by omega,by go_num,by have:=HR3.out;rwa [show k * 8 + j + 1 = k * 8 + (j + 1) by omega] at this,HB3.out⟩
     case measure=>simp [intOf];omega
    ·obtain rfl : j = 8:=by omega
     go_wp2
     go_roundw
     case rel=>exact ⟨k + 1,_,by omega,by go_num,by have:=HR2.out;rw [<- HT.out] at this;rwa [show (k + 1) * 8 = k * 8 + 8 by omega],HB2.out⟩
     case measure=>simp [intOf];omega
  ·obtain rfl : k = n:=by omega
   have HS:=Lib.hid (sort264 wr τr t (k * 8) _ (ptsAll ns) (by have:=HR.out;rw [List.take_of_length_le (by have:=HN.out;omega)] at this;exact this) (by omega) (by omega) of265)
   go_wp2_with (go_at_call 264;refine HS.out.mono ?_;rintro e w' ⟨rfl,τ2,hr2,hc2⟩)
   go_ret
   exact ⟨_,τ2,rfl,hr2,HB.out.trans hc2⟩
structure RingAt (w : World) (τ : Own) (t r epoch : Nat) (ns : List Nat) : Prop where
 ex : ∃ vn vl,Has w τ t r 168 #[.int .i64 (epoch : Int),vn,vl] /\ Rw w τ t 3 1 vn ns.length (nnums ns) /\ Rw w τ t 170 2 vl (ns.length * 8) ((sortP (ptsAll ns)).flatMap encP)
theorem RingAt.keep {T : Nat -> Prop} {w w' : World} {τ τ' : Own} {t r epoch : Nat} {ns : List Nat} (h : RingAt w τ t r epoch ns) (hc : Chg T w τ w' τ') (ht : ¬ T t) : RingAt w' τ' t r epoch ns:=by
 obtain ⟨vn,vl,h1,h2,h3⟩:=h.ex
 exact ⟨vn,vl,h1.keep hc ht,h2.keep hc ht,h3.keep hc ht⟩
set_option maxRecDepth 20000 in
theorem ring195 (w : World) (τ : Own) (t epoch : Nat) (A : Option Addr) (n c : Nat) (ns : List Nat) (hs : Sl w A (nnums ns)) (hn : ns.length = n) (hok : NodesOk ns) (hA : ∀ a,A = some a -> a.block < w.heap.size) (he : 1 <= epoch) (he2 : epoch < 64) :
 Calls Tryz.prog 195 #[.int .i64 (epoch : Int),.slice A n c] w fun e w'=>∃ r τ',e = .returned (.pointer (some ⟨r,0,none⟩)) /\ RingAt w' τ' t r epoch ns /\ w.heap.size <= r /\ Chg (fun _=>False) w τ w' τ' /\ ∀ k,w.heap.size <= k -> τ' k = t:=by
 have HM:=Lib.hid (may72 w A n c ns hs hn hok)
 have hlen:=hok.le
 have h1:=hok.ne
 have hAn : A = none -> n = 0:=by
  intro e
  obtain ⟨b,o,h,_⟩:=hs (by intro e;have:=congrArg List.length e;simp [nnums] at this;subst this;simp at h1)
  rw [e] at h;cases h
 have HCL:=Lib.hid (clone99 w A n c (nnums ns) (by simp [nnums,hn]) hs (by simp [nnums,Value.oneCell']) hAn (by omega))
 have HS:=Lib.hid hs
 have HOK:=Lib.hid hok
 have HA:=Lib.hid hA
 have k1 : ¬ ((epoch : Int) < 1):=by omega
 have k2 : ¬ ((1099511627776 : Int) < (epoch : Int)):=by omega
 clear hs hok hA h1 hAn
 go_enter Tryz.func195,Tryz.ntmps195
 go_wp2_with (go_at_call 72;refine HM.out.mono ?_;rintro e w' ⟨rfl,hw⟩;obtain rfl:=hw.symm)
 refine HCL.out.mono ?_
 rintro e w1 ⟨v1,rfl,ho1,hb1⟩
 obtain ⟨y,hy1,hy2⟩:=fresh95 w τ
 have HG1 : Hid (∀ g,v1.ownBlock = some g -> w.heap.size <= g):=Lib.hid fun g hg=>(ho1.lt g hg).1
 have hr1:=Rw.of_new (w0:=w) ho1 (Nat.le_refl _) τ (y + 1)
 have hc1 : Chg (fun _=>False) w τ w1 (ext τ w (y + 1)):=Chg.of_below hb1 (y + 1)
 have HR1:=Lib.hid hr1
 have HC1:=Lib.hid hc1
 have HS1 : Hid (Sl w1 A (nnums ns)):=Lib.hid (HS.out.keep hb1)
 have HY:=Lib.hid hy2
 clear ho1 hb1 HM HCL hr1 hc1 hy1 hy2
 go_wp2_with fail
 refine (of235 w1 (ext τ w (y + 1)) y A n c ns HS1.out hn HOK.out fun a ha=>⟨Nat.lt_of_lt_of_le (HA.out a ha) HC1.out.size,by rw [ext_old (HA.out a ha)];exact HY.out _ (HA.out a ha)⟩).mono ?_
 rintro e w2 ⟨v2,τ2,rfl,hr2,hc2⟩
 obtain ⟨A2,c2,rfl,-⟩:=hr2.slice
 obtain ⟨A1,c1,rfl,-⟩:=HR1.out.slice
 obtain ⟨W3,hW3⟩ : ∃ W,W = w2.alloc (.cells #[.int .i64 (epoch : Int),.slice A1 n c1,.slice A2 (n * 8) c2] 168):=⟨_,rfl⟩
 have HF : Hid (RingAt W3 (ext τ w t) t w2.heap.size epoch ns /\ w.heap.size <= w2.heap.size /\ Chg (fun _=>False) w τ W3 (ext τ w t) /\ ∀ k,w.heap.size <= k -> ext τ w t k = t):=Lib.hid (by
  have hs:=Nat.le_trans HC1.out.size hc2.size
  have hc3 : Chg (fun _=>False) w2 τ2 W3 τ2:=by rw [hW3];exact (Chg.refl _ _ _).alloc _
  have hr1:=(HR1.out.keep hc2 (by omega)).keep hc3 id
  have hr2:=hr2.keep hc3 id
  have hold : ∀ k,k < w.heap.size -> τ2 k = τ k:=fun k hk=>(hc2.own k (Nat.lt_of_lt_of_le hk HC1.out.size)).trans (ext_old hk)
  have hch : Chg (fun _=>False) w τ w2 τ2:=((HC1.out.mono (T':=(· = y)) fun _ h=>h.elim).trans hc2).fresh fun i hi e=>absurd e (HY.out i hi)
  refine ⟨⟨_,_,⟨by rw [hW3];exact Blk.new _ _ _,ext_new hs⟩,?_,?_⟩,hs,((hch.trans hc3).reown fun k hk=>ext_old hk),fun k hk=>ext_new hk⟩
  ·rw [hn]
   refine ⟨hr1.own,fun g hg=>?_⟩
   exact ext_new (HG1.out g hg)
  ·rw [hn]
   refine ⟨hr2.own,fun g hg=>?_⟩
   rcases Nat.lt_or_ge g w.heap.size with h | h
   ·have:=hr2.tag g hg
    rw [hold g h] at this
    exact absurd this (HY.out g h)
   ·exact ext_new h)
 have HW:=Lib.hid hW3
 clear hr2 hc2 hW3 HR1 HC1 HS1 HS HOK HA HG1 HY
 go_wp2
 go_ret
 rw [<- HW.out]
 exact ⟨_,_,rfl,HF.out.1,HF.out.2.1,HF.out.2.2⟩
def ownL (h : Nat) : List (Nat × Nat) -> Option Nat
 | []=>none
 | p :: l=>if h <= p.1 then some p.2 else ownL h l
def owner (ns : List Nat) (h : Nat) : Nat:=(ownL h (sortP (ptsAll ns))).getD (((sortP (ptsAll ns)).map (·.2)).headD 0)
theorem ownL_snoc (h : Nat) : ∀ (l : List (Nat × Nat)) (p : Nat × Nat),ownL h l = none -> ownL h (l ++ [p]) = if h <= p.1 then some p.2 else none
 | [],p,_=>rfl
 | q :: l,p,e=>by
  unfold ownL at e
  by_cases hq : h <= q.1
  ·rw [if_pos hq] at e;cases e
  ·rw [if_neg hq] at e
   rw [List.cons_append]
   unfold ownL
   rw [if_neg hq]
   exact ownL_snoc h l p e
theorem ownL_app (h : Nat) (b : Nat) : ∀ (l l' : List (Nat × Nat)),ownL h l = some b -> ownL h (l ++ l') = some b
 | [],_,e=>by cases e
 | q :: l,l',e=>by
  rw [List.cons_append]
  unfold ownL at e ⊢
  by_cases hq : h <= q.1
  ·rw [if_pos hq] at e ⊢;exact e
  ·rw [if_neg hq] at e ⊢;exact ownL_app h b l l' e
set_option maxRecDepth 20000 in
theorem owner60 (w : World) (τ : Own) (t r epoch h : Nat) (ns : List Nat) (hr : RingAt w τ t r epoch ns) (hok : NodesOk ns) :
 Calls Tryz.prog 60 #[.pointer (some ⟨r,0,none⟩),.int .u64 (h : Int)] w fun e w'=>e = .returned (.int .i64 (owner ns h : Int)) /\ Below w.heap.size w w':=by
 obtain ⟨vn,vl,h1,h2,h3⟩:=hr.ex
 obtain ⟨A,c,rfl,-,-,hl,hs,-,-⟩:=h3.slice
 obtain ⟨N,hN⟩ : ∃ N,N = ns.length * 8:=⟨_,rfl⟩
 have hn0:=hok.ne
 have hn5:=hok.le
 obtain ⟨L,hL⟩ : ∃ L,L = sortP (ptsAll ns):=⟨_,rfl⟩
 have hLN : L.length = N:=by rw [hL,(sortP_perm _).length_eq,ptsAll_len,hN]
 rw [<- hL] at hs hl
 rw [<- hN] at hl h1
 obtain ⟨b,o,rfl,hcs⟩:=hs (by intro e;rw [e] at hl;simp at hl;omega)
 have c2:=h1.cell 2
 have HC : Hid (∀ W,Below w.heap.size w W -> W.cell? ⟨r,2,none⟩ = some (.slice (some ⟨b,o,none⟩) N c) /\ ∀ k (hk : k < L.length),W.cell? ⟨b,o + k * 2,none⟩ = some (.int .u64 (L[k].1 : Int)) /\ W.cell? ⟨b,o + k * 2 + 1,none⟩ = some (.int .i64 (L[k].2 : Int))):=Lib.hid (by
  intro W hb
  refine ⟨(World.cell?_of_block (a:=⟨r,2,none⟩) (hb.block r h1.lt)).trans c2,fun k hk=>?_⟩
  have g : ∀ j u,(L.flatMap encP)[j]? = some u -> W.cell? ⟨b,o + j,none⟩ = some u:=fun j u hu=>
   (Sl.keep (w:=w) (w':=W) (A:=some ⟨b,o,none⟩) (xs:=L.flatMap encP) (fun _=>⟨b,o,rfl,hcs⟩) hb (by intro e;rw [e] at hu;simp at hu)).elim fun b' h=>h.elim fun o' h=>by
     obtain ⟨h,h'⟩:=h
     cases h
     exact h' j u hu
  refine ⟨g (k * 2) _ ?_,g (k * 2 + 1) _ ?_⟩
  ·rw [flatP_get,Nat.mul_div_cancel _ (by omega),Nat.mul_mod_left,List.getElem?_eq_getElem hk];rfl
  ·rw [flatP_get,show (k * 2 + 1) / 2 = k by omega,show (k * 2 + 1) % 2 = 1 by omega,List.getElem?_eq_getElem hk];rfl)
 have HO : Hid (∀ h,owner ns h = (ownL h L).getD ((L.map (·.2)).headD 0)):=Lib.hid fun h=>by rw [hL];rfl
 clear h1 h2 h3 hs hcs hr hL
 have k0 : (0 : Int) < (N : Int):=by omega
 go_enter Tryz.func60,Tryz.ntmps60
 go_wp2
 go_loopw [14] (fun i wr=>∃ k : Nat,k <= N /\ i = .int .i64 (k : Int) /\ Below w.heap.size w wr /\ ownL h (L.take k) = none) (fun i _=>N - (intOf i).toNat)
 case atStart=>exact ⟨0,Nat.zero_le _,rfl,Below.refl _ _,rfl⟩
 case round=>
  obtain ⟨k,hk,rfl,hbl,hno⟩:=hrel
  obtain ⟨cr,hcs⟩:=HC.out wr hbl
  have HB:=Lib.hid hbl
  by_cases hlt : k < N
  ·have hkl : k < L.length:=by omega
   obtain ⟨p1,p2⟩:=hcs k hkl
   have HT : Hid (L.take (k + 1) = L.take k ++ [L[k]]):=Lib.hid (List.take_succ_eq_append_getElem hkl)
   have k1 : (k : Int) < (N : Int):=by omega
   have k2 : (0 : Int) <= (k : Int):=by omega
   have HD : Hid (L = L.take k ++ (L[k] :: L.drop (k + 1))):=Lib.hid (by rw [List.getElem_cons_drop,List.take_append_drop])
   generalize L[k] = q at *
   obtain ⟨x,y⟩:=q
   dsimp only at p1 p2
   clear hcs c2 cr
   by_cases hx : h <= x
   ·have x1 : (h : Int) <= (x : Int):=by omega
    have HW : Hid (owner ns h = y):=Lib.hid (by
     have : ownL h L = some y:=by
      rw [HD.out,<- List.singleton_append,<- List.append_assoc]
      exact ownL_app h y _ _ (by rw [ownL_snoc h _ _ hno];exact if_pos hx)
     rw [HO.out,this];rfl)
    go_wp2
    go_ret
    exact ⟨by rw [HW.out];rfl,HB.out.alloc HB.out.size _⟩
   ·have x1 : (x : Int) < (h : Int):=by omega
    go_wp2
    go_roundw
    case rel=>exact ⟨k + 1,by omega,by go_num,HB.out.alloc HB.out.size _,by rw [HT.out,ownL_snoc h _ _ hno];exact if_neg hx⟩
    case measure=>simp [intOf];omega
  ·obtain rfl : k = N:=by omega
   obtain ⟨p1,p2⟩:=hcs 0 (by omega)
   have HW : Hid (owner ns h = (L[0]'(by omega)).2):=Lib.hid (by
    rw [List.take_of_length_le (by omega)] at hno
    rw [HO.out,hno]
    cases L with
    | nil=>simp at hLN;omega
    | cons q l=>rfl)
   clear hcs c2
   go_wp2
   go_ret
   exact ⟨by rw [HW.out];rfl,HB.out⟩
set_option maxRecDepth 20000 in
theorem of46 (w : World) (τ : Own) (t r epoch : Nat) (k : ByteArray) (ns : List Nat) (hr : RingAt w τ t r epoch ns) (hok : NodesOk ns) (hk : k.size <= 9223372036854775807) :
 Calls Tryz.prog 46 #[.pointer (some ⟨r,0,none⟩),.string k] w fun e w'=>e = .returned (.int .i64 (owner ns (Plain.mix [nb k]) : Int)) /\ Below w.heap.size w w':=by
 have HR:=Lib.hid hr
 clear hr
 go_enter Tryz.func46,Tryz.ntmps46
 go_wp2_with fail
 refine (of_any (some ⟨w.heap.size,0,none⟩) 1 1 [k] _ (Blk.new w 9 #[.string k]).sl rfl (by decide) (fun s hs=>by simp at hs;subst hs;exact hk)).mono ?_
 rintro e w1 ⟨rfl,rfl⟩
 go_wp2_with fail
 refine (owner60 _ τ t r epoch (Plain.mix ([k].map nb)) ns ?_ hok).mono ?_
 ·obtain ⟨vn,vl,h1,h2,h3⟩:=HR.out.ex
  exact ⟨vn,vl,⟨h1.blk.alloc _,h1.own⟩,h2.alloc _,h3.alloc _⟩
 rintro e w2 ⟨rfl,hb⟩
 have HB : Hid (Below w.heap.size w w2):=Lib.hid (((Below.refl _ w).alloc (Nat.le_refl _) _).trans (hb.mono (by simp)))
 clear hb
 go_wp2
 go_ret
 exact ⟨rfl,HB.out⟩
end Go.Proofs.Ytlhekbjidppijaa
namespace Go.Proofs.Ytlhekbjidppijaa
open Go.RowKit
set_option maxRecDepth 20000 in
set_option maxHeartbeats 1000000 in
theorem nodes57 (w : World) (A : Option Addr) (n c : Nat) (ns : List Nat) (hs : Sl w A (nnums ns)) (hn : ns.length = n) (hok : NodesOk ns) :
 Calls Tryz.prog 57 #[.slice A n c] w fun e w'=>e = .returned (.bool true) /\ ∃ m,w' = w.drewN m:=by
 have HOK:=Lib.hid hok
 have h1:=hok.ne
 have h2:=hok.le
 obtain ⟨b,o,rfl,hc⟩:=hs (by intro e;simp [nnums] at e;subst e;simp at h1)
 have HC : Hid (∀ i (h : i < ns.length),w.cell? ⟨b,o + i,none⟩ = some (.int .i64 (ns[i] : Int))):=Lib.hid fun i h=>hc i _ (nnums_get ns i h)
 have k0 : (0 : Int) < (n : Int):=by omega
 have k00 : 0 < n:=by omega
 clear hs hok hc
 go_enter Tryz.func57,Tryz.ntmps57
 go_wp2
 go_loopw [3] (fun i wr=>∃ k q : Nat,k <= n /\ i = .int .i64 (k : Int) /\ wr = w.drewN q) (fun i _=>n - (intOf i).toNat)
 case atStart=>exact ⟨0,0,Nat.zero_le _,rfl,rfl⟩
 case round=>
  obtain ⟨k,q,hk,rfl,rfl⟩:=hrel
  by_cases hlt : k < n
  ·have hkl : k < ns.length:=by omega
   have c0:=HC.out k hkl
   obtain ⟨e1,e2⟩:=HOK.out.each k hkl
   generalize hz : ns[k] = z at *
   have k1 : (k : Int) < (n : Int):=by omega
   have k2 : (0 : Int) <= (k : Int):=by omega
   have k3 : ¬ ((z : Int) < 1):=by omega
   have k4 : ¬ ((5 : Int) < (z : Int)):=by omega
   have k5 : (k : Int) <= 5:=by omega
   have d1 : decide ((z : Int) < 1) = false:=by rw [decide_eq_false_iff_not];omega
   have d2 : decide ((5 : Int) < (z : Int)) = false:=by rw [decide_eq_false_iff_not];omega
   by_cases hk0 : k = 0
   ·subst hk0
    rw [Nat.add_zero] at c0
    go_wp2_with fail
    refine wp_region_hl [] [0,1,2,3,4,5,6,7,8,9,10,11,12,13,14,15,16,17,18,19,20,21,22,23,24] (fun W=>W.cell? ⟨b,o,none⟩ = some (.int .i64 (z : Int))) (by kernel_rfl) (by kernel_rfl) c0 ?_
    iterate 16 (refine hd_take (v:=?_) rfl rfl (by kernel_rfl) (fun W hW=>?_) ?_;rotate_left;(first | (go_simp;done) | (go_simp;with_reducible rfl)))
    iterate 8 (refine hd_skip rfl rfl (by kernel_rfl) ?_)
    refine hd_skip rfl rfl (by kernel_rfl) (hd_end ?_)
    simp only [List.length_cons,List.length_nil,List.drop_succ_cons,List.drop_zero,Nat.zero_add,Nat.reduceAdd]
    go_wp2
    go_roundw
    case rel=>exact ⟨1,_,by omega,rfl,rfl⟩
    case measure=>simp [intOf];omega
   ·obtain ⟨j,rfl⟩ : ∃ j,k = j + 1:=⟨k - 1,by omega⟩
    have hi:=HOK.out.inc j hkl
    rw [hz] at hi
    have c1:=HC.out j (by omega)
    generalize ns[j] = y at *
    have j1 : (0 : Int) < (j : Int) + 1:=by omega
    have j2 : (j : Int) < (n : Int):=by omega
    have j3 : (0 : Int) <= (j : Int):=by omega
    have j4 : ¬ ((z : Int) <= (y : Int)):=by omega
    have j5 : (j : Int) <= 5:=by omega
    have jw : IntKind.i64.wrap (j : Int) = (j : Int):=by rw [IntKind.wrap_i64];omega
    have j6 : (0 : Int) <= (j : Int) + 1:=by omega
    have d3 : decide ((z : Int) <= (y : Int)) = false:=by rw [decide_eq_false_iff_not];omega
    have d4 : decide ((0 : Int) < (j : Int) + 1) = true:=by rw [decide_eq_true_iff];omega
    go_wp2_with fail
    refine wp_region_hl [] [0,1,2,3,4,5,6,7,8,9,10,11,12,13,14,15,16,17,18,19,20,21,22,23,24] (fun W=>W.cell? ⟨b,o + (j + 1),none⟩ = some (.int .i64 (z : Int)) /\ W.cell? ⟨b,o + j,none⟩ = some (.int .i64 (y : Int))) (by kernel_rfl) (by kernel_rfl) ⟨c0,c1⟩ ?_
    iterate 24 (refine hd_take (v:=?_) rfl rfl (by kernel_rfl) (fun W hW=>?_) ?_;rotate_left;(obtain ⟨r0,r1⟩:=hW;first | (go_simp;done) | (go_simp;with_reducible rfl)))
    (refine hd_take (v:=?_) rfl rfl (by kernel_rfl) (fun W hW=>?_) (hd_end ?_);rotate_left;(obtain ⟨r0,r1⟩:=hW;first | (go_simp;done) | (go_simp;with_reducible rfl)))
    simp only [List.length_cons,List.length_nil,List.drop_succ_cons,List.drop_zero,Nat.zero_add,Nat.reduceAdd]
    go_wp2
    go_roundw
    case rel=>exact ⟨j + 1 + 1,_,by omega,by go_num,rfl⟩
    case measure=>simp [intOf];omega
  ·obtain rfl : k = n:=by omega
   go_wp2
   go_ret
   exact ⟨rfl,q,rfl⟩
end Go.Proofs.Ytlhekbjidppijaa
namespace Go.Proofs.Ytlhekbjidppijaa
open Go.RowKit
def rb (h : Nat) (s : Nat × Nat) (q : Nat × Nat) : Nat × Nat:=if h <= q.1 /\ (s.1 = 0 \/ q.1 < s.2 \/ q.1 = s.2 /\ q.2 < s.1) then (q.2,q.1) else s
def rl (s : Nat × Nat) (q : Nat × Nat) : Nat × Nat:=if s.1 = 0 \/ q.1 < s.2 \/ q.1 = s.2 /\ q.2 < s.1 then (q.2,q.1) else s
def refOwner (ns : List Nat) (h : Nat) : Nat:=let b:=((ptsAll ns).foldl (rb h) (0,0)).1;if b = 0 then ((ptsAll ns).foldl rl (0,0)).1 else b
theorem rl_cases (l lo p z : Nat) : (rl (l,lo) (p,z) = (z,p) /\ ((l : Int) == 0) = true) \/ (rl (l,lo) (p,z) = (z,p) /\ ((l : Int) == 0) = false /\ decide ((p : Int) < (lo : Int)) = true) \/ (rl (l,lo) (p,z) = (z,p) /\ ((l : Int) == 0) = false /\ decide ((p : Int) < (lo : Int)) = false /\ ((p : Int) == (lo : Int)) = true /\ decide ((z : Int) < (l : Int)) = true)
 \/ (rl (l,lo) (p,z) = (l,lo) /\ ((l : Int) == 0) = false /\ decide ((p : Int) < (lo : Int)) = false /\ ((p : Int) == (lo : Int)) = true /\ decide ((z : Int) < (l : Int)) = false) \/ (rl (l,lo) (p,z) = (l,lo) /\ ((l : Int) == 0) = false /\ decide ((p : Int) < (lo : Int)) = false /\ ((p : Int) == (lo : Int)) = false):=by
 unfold rl
 simp only [beq_iff_eq,beq_eq_false_iff_ne,decide_eq_true_eq,decide_eq_false_iff_not]
 by_cases h1 : l = 0
 ·left;exact ⟨if_pos (.inl h1),by omega⟩
 by_cases h2 : p < lo
 ·right;left;exact ⟨if_pos (.inr (.inl h2)),by omega,by omega⟩
 by_cases h3 : p = lo
 ·by_cases h4 : z < l
  ·right;right;left;exact ⟨if_pos (.inr (.inr ⟨h3,h4⟩)),by omega,by omega,by omega,by omega⟩
  ·right;right;right;left;exact ⟨if_neg (by omega),by omega,by omega,by omega,by omega⟩
 ·right;right;right;right;exact ⟨if_neg (by omega),by omega,by omega,by omega⟩
theorem rb_cases (h b a p z : Nat) : (rb h (b,a) (p,z) = (b,a) /\ decide ((h : Int) <= (p : Int)) = false) \/ (rb h (b,a) (p,z) = (z,p) /\ decide ((h : Int) <= (p : Int)) = true /\ ((b : Int) == 0) = true) \/ (rb h (b,a) (p,z) = (z,p) /\ decide ((h : Int) <= (p : Int)) = true /\ ((b : Int) == 0) = false /\ decide ((p : Int) < (a : Int)) = true) \/ (rb h (b,a) (p,z) = (z,p) /\ decide ((h : Int) <= (p : Int)) = true /\ ((b : Int) == 0) = false /\ decide ((p : Int) < (a : Int)) = false /\ ((p : Int) == (a : Int)) = true /\ decide ((z : Int) < (b : Int)) = true)
 \/ (rb h (b,a) (p,z) = (b,a) /\ decide ((h : Int) <= (p : Int)) = true /\ ((b : Int) == 0) = false /\ decide ((p : Int) < (a : Int)) = false /\ ((p : Int) == (a : Int)) = true /\ decide ((z : Int) < (b : Int)) = false) \/ (rb h (b,a) (p,z) = (b,a) /\ decide ((h : Int) <= (p : Int)) = true /\ ((b : Int) == 0) = false /\ decide ((p : Int) < (a : Int)) = false /\ ((p : Int) == (a : Int)) = false):=by
 unfold rb
 simp only [beq_iff_eq,beq_eq_false_iff_ne,decide_eq_true_eq,decide_eq_false_iff_not]
 by_cases h0 : h <= p
 ·by_cases h1 : b = 0
  ·right;left;exact ⟨if_pos ⟨h0,.inl h1⟩,by omega,by omega⟩
  by_cases h2 : p < a
  ·right;right;left;exact ⟨if_pos ⟨h0,.inr (.inl h2)⟩,by omega,by omega,by omega⟩
  by_cases h3 : p = a
  ·by_cases h4 : z < b
   ·right;right;right;left;exact ⟨if_pos ⟨h0,.inr (.inr ⟨h3,h4⟩)⟩,by omega,by omega,by omega,by omega,by omega⟩
   ·right;right;right;right;left;exact ⟨if_neg (by omega),by omega,by omega,by omega,by omega,by omega⟩
  ·right;right;right;right;right;exact ⟨if_neg (by omega),by omega,by omega,by omega,by omega⟩
 ·left;exact ⟨if_neg (by omega),by omega⟩
theorem ptsAll_step (ns : List Nat) (k : Nat) (hk : k < ns.length) : ptsAll (ns.take (k + 1)) = ptsAll (ns.take k) ++ pts8 ns[k] 8:=by rw [List.take_succ_eq_append_getElem hk,ptsAll_snoc]
set_option maxRecDepth 20000 in
set_option maxHeartbeats 4000000 in
theorem refOwner41 (w : World) (A : Option Addr) (n c h : Nat) (ns : List Nat) (hs : Sl w A (nnums ns)) (hn : ns.length = n) (hok : NodesOk ns) :
 Calls Tryz.prog 41 #[.slice A n c,.int .u64 (h : Int)] w fun e w'=>e = .returned (.int .i64 (refOwner ns h : Int)) /\ Below w.heap.size w w':=by
 have HN:=Lib.hid (nodes57 w A n c ns hs hn hok)
 have h1:=hok.ne
 have h2:=hok.le
 obtain ⟨b,o,rfl,hc⟩:=hs (by intro e;simp [nnums] at e;subst e;simp at h1)
 have HC : Hid (∀ q i (h : i < ns.length),(w.drewN q).cell? ⟨b,o + i,none⟩ = some (.int .i64 (ns[i] : Int))):=Lib.hid fun q i h=>hc i _ (nnums_get ns i h)
 clear hs hok hc
 go_enter Tryz.func41,Tryz.ntmps41
 go_wp2_with (go_at_call 57;fail)
 refine HN.out.mono ?_
 rintro e w1 ⟨rfl,q,rfl⟩
 go_wp2
 go_loop [5,6,7,8,9] (fun vb vl va vo i=>∃ k : Nat,k <= n /\ i = .int .i64 (k : Int) /\ vb = .int .i64 (((ptsAll (ns.take k)).foldl (rb h) (0,0)).1 : Int) /\ va = .int .u64 (((ptsAll (ns.take k)).foldl (rb h) (0,0)).2 : Int) /\ vl = .int .i64 (((ptsAll (ns.take k)).foldl rl (0,0)).1 : Int) /\ vo = .int .u64 (((ptsAll (ns.take k)).foldl rl (0,0)).2 : Int)) (fun _ _ _ _ i=>n - (intOf i).toNat)
 case atStart=>exact ⟨0,Nat.zero_le _,rfl,rfl,rfl,rfl,rfl⟩
 case round=>
  obtain ⟨k,hk,rfl,rfl,rfl,rfl,rfl⟩:=hrel
  by_cases hlt : k < n
  ·have hkl : k < ns.length:=by omega
   have c0:=HC.out q k hkl
   have HT:=Lib.hid (ptsAll_step ns k hkl)
   generalize ns[k] = z at *
   have k1 : (k : Int) < (n : Int):=by omega
   have k2 : (0 : Int) <= (k : Int):=by omega
   have k5 : (k : Int) <= 5:=by omega
   go_wp2
   go_loop [5,6,7,8,10] (fun vb vl va vo i=>∃ j : Nat,j <= 8 /\ i = .int .i64 (j : Int) /\ vb = .int .i64 (((ptsAll (ns.take k) ++ pts8 z j).foldl (rb h) (0,0)).1 : Int) /\ va = .int .u64 (((ptsAll (ns.take k) ++ pts8 z j).foldl (rb h) (0,0)).2 : Int) /\ vl = .int .i64 (((ptsAll (ns.take k) ++ pts8 z j).foldl rl (0,0)).1 : Int) /\ vo = .int .u64 (((ptsAll (ns.take k) ++ pts8 z j).foldl rl (0,0)).2 : Int)) (fun _ _ _ _ i=>8 - (intOf i).toNat)
   case atStart=>exact ⟨0,Nat.zero_le _,rfl,by simp [pts8],by simp [pts8],by simp [pts8],by simp [pts8]⟩
   case round=>
    obtain ⟨j,hj,rfl,rfl,rfl,rfl,rfl⟩:=hrel
    by_cases hlt2 : j < 8
    ·have j1 : (j : Int) < 8:=by omega
     have j2 : (0 : Int) <= (j : Int):=by omega
     obtain ⟨p,hp⟩ : ∃ p,p = Plain.stir (pt (z : Int) (j : Int)):=⟨_,rfl⟩
     have HS : Hid ((ptsAll (ns.take k) ++ pts8 z (j + 1)).foldl (rb h) (0,0) = rb h ((ptsAll (ns.take k) ++ pts8 z j).foldl (rb h) (0,0)) (p,z) /\ (ptsAll (ns.take k) ++ pts8 z (j + 1)).foldl rl (0,0) = rl ((ptsAll (ns.take k) ++ pts8 z j).foldl rl (0,0)) (p,z)):=Lib.hid (by
      constructor
      ·rw [pts8_succ,<- List.append_assoc,List.foldl_append,hp];rfl
      ·rw [pts8_succ,<- List.append_assoc,List.foldl_append,hp];rfl)
     have HP:=Lib.hid (fun W=>pointR_any (z : Int) (j : Int) W)
     rw [<- hp] at HP
     clear hp
     generalize (ptsAll (ns.take k) ++ pts8 z j).foldl (rb h) (0,0) = sb at *
     generalize (ptsAll (ns.take k) ++ pts8 z j).foldl rl (0,0) = sl at *
     obtain ⟨vb,va⟩:=sb
     obtain ⟨vl,vo⟩:=sl
     dsimp only at *
     have HRl:=rl_cases vl vo p z
     have HRb:=rb_cases h vb va p z
     rcases HRl with ⟨r,f1⟩ | ⟨r,f1,f2⟩ | ⟨r,f1,f2,f3,f4⟩ | ⟨r,f1,f2,f3,f4⟩ | ⟨r,f1,f2,f3⟩ <;>
      rcases HRb with ⟨t,g1⟩ | ⟨t,g1,g2⟩ | ⟨t,g1,g2,g3⟩ | ⟨t,g1,g2,g3,g4,g5⟩ | ⟨t,g1,g2,g3,g4,g5⟩ | ⟨t,g1,g2,g3,g4⟩ <;>
      (have HR:=Lib.hid (And.intro r t)
       clear r t
       simp only [decide_eq_true_eq,decide_eq_false_iff_not,beq_iff_eq,beq_eq_false_iff_ne] at *
       go_wp2_with (go_at_call 58;refine (HP.out _).mono ?_;rintro e w' ⟨rfl,rfl⟩)
       all_goals first
        | (exfalso;omega)
        | (go_round
           case rel=>exact ⟨j + 1,by omega,by go_num,by (first | (rw [HS.out.1,HR.out.2];done) | (rw [HS.out.1,HR.out.2];congr 1;dsimp only;omega)),by (first | (rw [HS.out.1,HR.out.2];done) | (rw [HS.out.1,HR.out.2];congr 1;dsimp only;omega)),by (first | (rw [HS.out.2,HR.out.1];done) | (rw [HS.out.2,HR.out.1];congr 1;dsimp only;omega)),by (first | (rw [HS.out.2,HR.out.1];done) | (rw [HS.out.2,HR.out.1];congr 1;dsimp only;omega))⟩
           case measure=>simp [intOf];omega))
    ·obtain rfl : j = 8:=by omega
     rw [<- HT.out]
     go_wp2
     go_round
     case rel=>exact ⟨k + 1,by omega,by go_num,rfl,rfl,rfl,rfl⟩
     case measure=>simp [intOf];omega
  ·obtain rfl : k = n:=by omega
   have HF : Hid (refOwner ns h = if ((ptsAll ns).foldl (rb h) (0,0)).1 = 0 then ((ptsAll ns).foldl rl (0,0)).1 else ((ptsAll ns).foldl (rb h) (0,0)).1):=Lib.hid rfl
   rw [List.take_of_length_le (by omega)]
   generalize (ptsAll ns).foldl (rb h) (0,0) = sb at *
   generalize (ptsAll ns).foldl rl (0,0) = sl at *
   obtain ⟨vb,va⟩:=sb
   obtain ⟨vl,vo⟩:=sl
   dsimp only at *
   by_cases h0 : vb = 0
   ·have e1 : ((vb : Int) == 0) = true:=by rw [beq_iff_eq];omega
    have HF2 : Hid (refOwner ns h = vl):=Lib.hid (by rw [HF.out,if_pos h0])
    clear h0 HF
    go_wp2
    go_ret
    exact ⟨by rw [HF2.out];rfl,below_drewN' (Below.refl _ _) _⟩
   ·have e1 : ((vb : Int) == 0) = false:=by rw [beq_eq_false_iff_ne];omega
    have HF2 : Hid (refOwner ns h = vb):=Lib.hid (by rw [HF.out,if_neg h0])
    clear h0 HF
    go_wp2
    go_ret
    exact ⟨by rw [HF2.out];rfl,below_drewN' (Below.refl _ _) _⟩
end Go.Proofs.Ytlhekbjidppijaa
