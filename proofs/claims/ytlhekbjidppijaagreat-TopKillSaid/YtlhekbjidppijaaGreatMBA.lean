/- Contracts of functions that the Top rows reach, and plain laws for them: what each returns and what it leaves in memory. Conditions: those that each theorem names. -/
import Derived.Test.YtlhekbjidppijaaGreatMAB
import Derived.Test.YtlhekbjidppijaaGreatMAI
import Derived.Test.YtlhekbjidppijaaGreatMAT
set_option linter.unusedVariables false
set_option linter.unusedSimpArgs false
namespace Go.Proofs.Ytlhekbjidppijaa
open Go.RowKit
theorem step_append_row3 {P : Program} {ops : Array Oper} {o : Oper} {a : Act} {Q : Exit -> Act -> World -> Prop} {w : World} {K : Act -> World -> Prop} {E : Prop} (hgd : o.guard = none) {s x : Operand} {st : TypeId} (ho : o.op = .call { callee:=.builtin .append,args:=#[s,x],argTypes:=#[st,st] })
 (τ : Own) (t : Nat) {e : TypeId} {zs : Array Value} {size bytes : Nat} (ht : P.underlying st = some (.slice e)) (hinfo : (P.info? e).map (fun i=>(i.zero.map Value.cells,i.size,i.bytes)) = some (some zs,size,bytes))
 (hzs : zs.size = size) (hs0 : 0 < size) (hbs : bytes <= 65536) {v : Value} {n : Nat} {xs : List Value} (hs : a.eval s = v) (hown : Rw w τ t e size v n xs)
 {A : Addr} {c : Nat} {news : List Value} (hx : a.eval x = .slice (some A) 1 c) (hm : news.length = 1 * size) (hr : Sl w (some A) news) (h1 : ∀ u ∈ news,u.oneCell' = true) (h63 : n + 1 <= 1073741824)
 (h : ∀ g cap w',Rw w' (ext τ w t) t e size (.slice (some ⟨g,0,none⟩) (n + 1) cap) (n + 1) (xs ++ news) -> Chg (· = t) w τ w' (ext τ w t) -> w.grownBy w' v.ownBlock -> (v.ownBlock = some g \/ g = w.heap.size) -> K (a.put o.dst (.slice (some ⟨g,0,none⟩) (n + 1) cap)) w') :
 if Region.wanted o (yielded ops a.tmps) = true then Oper.wp P o a w K Q else E:=by
 obtain ⟨i,z,hi,hz,hc,hsize,hby⟩:=info_cells hinfo
 have hw : Region.wanted o (yielded ops a.tmps) = true:=by simp [Region.wanted,hgd]
 rw [if_pos hw]
 have hbytes : (n + 1) * bytes <= 140737488355328:=by
  have:=Nat.mul_le_mul h63 hbs
  omega
 have hml : n + 1 <= maxLen:=by unfold maxLen;omega
 have hcells : ∀ j u,news[j]? = some u -> w.cell? (A.add j) = some u:=by
  intro j u hu
  obtain ⟨b,off,h,hc⟩:=hr (by intro e;subst e;simp at hu)
  injection h with h
  subst h
  rw [add_none]
  exact hc j u hu
 obtain ⟨v',w',hrun,h2,h3,_,h5⟩:=run_append_own_at (P:=P) w 0 st o.type e i z size bytes ht hi hz hsize hby (by rw [hc];exact hzs) hs0 v n xs hown.own A 1 c news hm hcells h1 hml hbytes (Nat.zero_le _)
 obtain ⟨g,cap,rfl,_,hlt⟩:=h2.form (by omega)
 unfold Oper.wp execOp
 simp only [ho,resolve,invoke,builtin,Sem.run_bind,Sem.run_pure,Result.andThen_ok,List.map_toArray,List.map_cons,List.map_nil,hs,hx,hrun]
 refine h g cap w' ⟨h2,fun g' hg=>?_⟩ ((Chg.grown (Chg.refl _ _ _) h3 (fun k hk=>.inr (hown.tag k hk))).ext t) h3 ?_
 ·rcases h5 with h5 | h5
  ·rw [h5] at hg
   rw [ext_old (hown.own.lt g' hg).2]
   exact hown.tag g' hg
  ·rw [h5] at hg
   injection hg with hg
   subst hg
   exact ext_new (Nat.le_refl _)
 ·rcases h5 with h5 | h5
  ·left;rw [<- h5];rfl
  ·right;simpa [Value.ownBlock] using h5
structure EntsT (w : World) (τ : Own) (t : Nat) (L : List St) (l : List (Ent ByteArray)) : Prop where
 nodup : (l.map (·.1)).Nodup
 each : ∀ p ∈ l,Rw w τ t 137 3 p.2.1 (rowsOf p.1 L).length ((rowsOf p.1 L).flatMap ORw.cells)
 miss : ∀ k,(∀ p ∈ l,p.1 ≠ k) -> rowsOf k L = []
 apart : ∀ p ∈ l,∀ q ∈ l,p.1 ≠ q.1 -> p.2.1.ownBlock ≠ q.2.1.ownBlock
structure OrgAt (w : World) (τ : Own) (t O : Nat) (L : List St) : Prop where
 ex : ∃ M l c,Has w τ t O 132 #[.int .i64 (L.length : Int),.map (some M)] /\ MapAt w M mkS l c /\ τ M = t /\ EntsT w τ (t + 96) L l
theorem OrgAt.keep {T : Nat -> Prop} {w w' : World} {τ τ' : Own} {t O : Nat} {L : List St} (h : OrgAt w τ t O L) (hc : Chg T w τ w' τ') (h1 : ¬ T t) (h2 : ¬ T (t + 96)) : OrgAt w' τ' t O L:=by
 obtain ⟨M,l,c,a,b,d,e⟩:=h.ex
 have hM:=(Array.getElem?_eq_some_iff.1 b).1
 exact ⟨M,l,c,a.keep hc h1,(hc.block M hM (by rw [d];exact h1)).trans b,(hc.own M hM).trans d,e.nodup,fun p hp=>(e.each p hp).keep hc h2,e.miss,e.apart⟩
theorem OrgAt.org {w : World} {τ : Own} {t O : Nat} {L : List St} (h : OrgAt w τ t O L) : ∃ M,Org w 0 O M L:=by
 obtain ⟨M,l,c,a,b,d,e⟩:=h.ex
 exact ⟨M,Nat.zero_le _,Nat.zero_le _,a.blk,l,c,b,e.nodup,fun p hp=>(e.each p hp).own,e.miss,e.apart⟩
theorem new75 (w : World) (τ : Own) (t : Nat) : Calls Tryz.prog 75 #[] w fun e w'=>∃ O,e = .returned (.pointer (some ⟨O,0,none⟩)) /\ OrgAt w' (ext τ w t) t O [] /\ Below w.heap.size w w':=by
 have hmm:=@run_makeMap Tryz.prog
 go_enter Tryz.func75,Tryz.ntmps75
 go_wp2
 go_ret
 refine ⟨w.heap.size + 1,rfl,⟨w.heap.size,[],0,⟨?_,ext_new (by omega)⟩,?_,ext_new (Nat.le_refl _),by simp,(by intro p h;cases h),fun _ _=>rfl,(by intro p h;cases h)⟩,((Below.refl _ _).alloc (Nat.le_refl _) _).alloc (by simp) _⟩
 ·have h:=Blk.new (w.alloc (.map #[] 0)) 132 #[.int .i64 0,.map (some w.heap.size)]
  rw [World.size_alloc] at h
  exact h
 ·unfold MapAt
  rw [Below.heap_alloc _ _ _ (by simp)]
  exact heap_alloc_new w _
theorem now91 (w : World) (τ : Own) (t O : Nat) (L : List St) (h : OrgAt w τ t O L) : Calls Tryz.prog 91 #[.pointer (some ⟨O,0,none⟩)] w fun e w'=>e = .returned (.int .i64 (L.length : Int)) /\ w = w':=by
 obtain ⟨M,h⟩:=h.org
 exact nowO w 0 O M L h
theorem get87 (w : World) (τ : Own) (t O : Nat) (L : List St) (h : OrgAt w τ t O L) (hl : L.length <= 1000) (k : ByteArray) :
 Calls Tryz.prog 87 #[.pointer (some ⟨O,0,none⟩),.string k] w fun e w'=>e = .returned (.tuple #[.string (atS L L.length k).1,.bool (atS L L.length k).2]) /\ Below w.heap.size w w':=by
 have HN:=Lib.hid (now91 w τ t O L h)
 obtain ⟨M,h⟩:=h.org
 have HA:=Lib.hid (atO w 0 O M L h (by omega) (L.length : Int) k)
 have e1 : atF L (L.length : Int) k = atS L L.length k:=by unfold atF;rw [if_neg (by omega)];rfl
 rw [e1] at HA
 clear h e1
 go_enter Tryz.func87,Tryz.ntmps87
 go_wp2_with (first | (go_at_call 91;refine HN.out.mono ?_;rintro e w' ⟨rfl,rfl⟩) | (go_at_call 56;refine HA.out.mono ?_;rintro e w' ⟨rfl,n,rfl⟩))
 go_ret2
 exact ⟨rfl,below_drewN (Below.refl _ _) _⟩
theorem held40 (w : World) (τ : Own) (t O : Nat) (L : List St) (h : OrgAt w τ t O L) (hl : L.length <= 1000) (k v : ByteArray) (hb : Bool) (a b : Nat) (h2 : b <= L.length) :
 Calls Tryz.prog 40 #[.pointer (some ⟨O,0,none⟩),.string k,.string v,.bool hb,.int .i64 (a : Int),.int .i64 (b : Int)] w fun e w'=>∃ r : Bool,e = .returned (.bool r) /\ (r = true ↔ heldS L k v hb a b) /\ Below w.heap.size w w':=by
 obtain ⟨M,h⟩:=h.org
 refine (heldO w 0 O M L h (by omega) k v hb (a : Int) (b : Int) (by omega) (by omega)).mono ?_
 rintro e w' ⟨r,rfl,hr,hb'⟩
 exact ⟨r,rfl,hr.trans (heldF_iff L k v hb _ _ a b (by omega) (by omega)),hb'⟩
end Go.Proofs.Ytlhekbjidppijaa
