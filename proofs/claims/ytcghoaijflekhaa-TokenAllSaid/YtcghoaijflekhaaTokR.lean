/- The reference's rights: a row of structs behind one block. Conditions: lengths. -/
import Derived.Test.YtcghoaijflekhaaTokV
import Derived.Maps.AppendAt
import Derived.Deep.AppendLies
namespace Go.Proofs.Ytcghoaijflekhaa
open Go.RowKit
def rcells (L : List TkS) : List Value := L.flatMap fun t => [.string t.key, .bool t.good, .bool t.used]
theorem rcells_length (L : List TkS) : (rcells L).length = L.length * 3 := by
  induction L with
  | nil => rfl
  | cons t L ih => 
    show (([.string t.key, .bool t.good, .bool t.used] : List Value) ++ rcells L).length = _
    rw [List.length_append, ih, List.length_cons]
    simp; omega
theorem rcells_append (L K : List TkS) : rcells (L ++ K) = rcells L ++ rcells K := by unfold rcells; rw [List.flatMap_append]
theorem rcells_get (L : List TkS) : ∀ (i : Nat) (h : i < L.length), (rcells L)[i * 3]? = some (.string L[i].key) ∧ (rcells L)[i * 3 + 1]? = some (.bool L[i].good) ∧ (rcells L)[i * 3 + 2]? = some (.bool L[i].used) := by
  induction L with
  | nil => intro i h; simp at h
  | cons t L ih =>
    intro i h
    have e : rcells (t :: L) = .string t.key :: .bool t.good :: .bool t.used :: rcells L := rfl
    rw [e]
    cases i with
    | zero => exact ⟨rfl, rfl, rfl⟩
    | succ i =>
      have := ih i (by simpa using h)
      rw [show (i + 1) * 3 = i * 3 + 1 + 1 + 1 by omega, show i * 3 + 1 + 1 + 1 + 1 = (i * 3 + 1) + 1 + 1 + 1 by omega, show i * 3 + 1 + 1 + 1 + 2 = (i * 3 + 2) + 1 + 1 + 1 by omega]
      simpa using this
theorem rcells_set (L : List TkS) : ∀ (i : Nat) (_ : i < L.length) (x : TkS), rcells (L.set i x) = (((rcells L).set (i * 3) (.string x.key)).set (i * 3 + 1) (.bool x.good)).set (i * 3 + 2) (.bool x.used) := by
  induction L with
  | nil => intro i h; simp at h
  | cons t L ih =>
    intro i h x
    have e : ∀ t L, rcells (t :: L) = .string t.key :: .bool t.good :: .bool t.used :: rcells L := fun _ _ => rfl
    cases i with
    | zero => rfl
    | succ i =>
      rw [List.set_cons_succ, e, e, ih i (by simpa using h) x, show (i + 1) * 3 = i * 3 + 1 + 1 + 1 by omega]
      rfl
/-- objects of some make are kept -/
def Keeps (q : Obj → Bool) (w w' : World) : Prop := ∀ (g : Nat) (o : Obj), w.heap[g]? = some o → q o = true → w'.heap[g]? = some o
theorem Keeps.refl (q : Obj → Bool) (w : World) : Keeps q w w := fun _ _ h _ => h
theorem Keeps.trans {q : Obj → Bool} {a b c : World} (h : Keeps q a b) (k : Keeps q b c) : Keeps q a c := fun g o h1 h2 => k g o (h g o h1 h2) h2
theorem Keeps.drewN {q : Obj → Bool} {a b : World} (h : Keeps q a b) (n : Nat) : Keeps q a (b.drewN n) := h
theorem Keeps.alloc {q : Obj → Bool} {a b : World} (h : Keeps q a b) (o : Obj) : Keeps q a (b.alloc o) := fun g x h1 h2 => (Below.heap_alloc b o g (Array.getElem?_eq_some_iff.1 (h g x h1 h2)).1).trans (h g x h1 h2)
theorem Keeps.grown {q : Obj → Bool} {a b c : World} {row : Option Nat} (h : Keeps q a b) (hg : b.grownBy c row) (hr : ∀ r o, row = some r → b.heap[r]? = some o → q o = false) : Keeps q a c := fun g x h1 h2 => by
  have hx := h g x h1 h2
  refine (hg.block g (Array.getElem?_eq_some_iff.1 hx).1 (fun e => ?_)).trans hx
  have := hr g x e.symm hx
  rw [this] at h2; cases h2
theorem Keeps.setCell {q : Obj → Bool} {a b : World} (h : Keeps q a b) (p : Addr) (u : Value) (hp : ∀ o, b.heap[p.block]? = some o → q o = false) : Keeps q a (b.setCell p u) :=
  h.grown (set_grown b p u) (fun r o e ho => by injection e with e; subst e; exact hp o ho)
/-- not of the reference's blocks -/
def notR : Obj → Bool
  | .cells _ e _ => e != 40 && e != 57
  | _ => true
/-- not of the table's blocks -/
def notT : Obj → Bool
  | .cells _ e _ => e != 49 && e != 55
  | .map _ _ => false
  | _ => true
structure RTok (w : World) (base R : Nat) (L : List TkS) : Prop where
  hR : base ≤ R
  ex : ∃ v, Blk w R 40 #[v] ∧ w.ownsRow base 57 3 v L.length (rcells L)
theorem RTok.keep {w w' : World} {base R : Nat} {L : List TkS} (h : RTok w base R L) (hk : Keeps notT w w') : RTok w' base R L := by
  obtain ⟨h1, v, h2, h3⟩ := h
  refine ⟨h1, v, hk R _ h2 rfl, h3.1, ?_⟩
  rcases h3.2 with h4 | ⟨g, cap, cur, h5, h6, h7, h8⟩
  · exact .inl h4
  · exact .inr ⟨g, cap, cur, h5, h6, hk g _ h7 rfl, h8⟩
theorem RTok.shape {w : World} {base R : Nat} {L : List TkS} (h : RTok w base R L) : ∃ A c, Blk w R 40 #[.slice A L.length c] ∧ L.length ≤ c ∧ c ≤ maxLen ∧ w.ownsRow base 57 3 (.slice A L.length c) L.length (rcells L) := by
  obtain ⟨h1, v, h2, h3⟩ := h
  rcases h3.2 with ⟨h4, h5⟩ | ⟨g, cap, cur, h5, h6, h7, h8, h9, _⟩
  · have e : L = [] := by
      have := rcells_length L
      rw [h5] at this
      exact List.eq_nil_of_length_eq_zero (by simp at this; omega)
    subst e
    subst h4
    exact ⟨none, 0, h2, Nat.le_refl _, Nat.zero_le _, h3⟩
  · subst h5
    exact ⟨_, cap, h2, h8, h9, h3⟩
/-- the i-th right's cells -/
theorem own_at {w : World} {base : Nat} {A : Option Addr} {c : Nat} {L : List TkS} (h : w.ownsRow base 57 3 (.slice A L.length c) L.length (rcells L)) (i : Nat) (hi : i < L.length) :
    ∃ g, A = some ⟨g, 0, none⟩ ∧ base ≤ g ∧ (∃ cur, w.heap[g]? = some (.cells cur 57 (0, 0))) ∧ w.cell? ⟨g, i * 3, none⟩ = some (.string L[i].key) ∧ w.cell? ⟨g, i * 3 + 1, none⟩ = some (.bool L[i].good) ∧ w.cell? ⟨g, i * 3 + 2, none⟩ = some (.bool L[i].used) ∧ ∀ j, w.frozen? ⟨g, j, none⟩ = false := by
  rcases h.2 with ⟨h4, _⟩ | ⟨g, cap, cur, h5, h6, h7, h8⟩
  · injection h4 with _ h4 _
    omega
  · injection h5 with ha _ _
    subst ha
    obtain ⟨e1, e2, e3⟩ := rcells_get L i hi
    refine ⟨g, rfl, h6, ⟨cur, h7⟩, ?_, ?_, ?_, fun j => by simp [World.frozen?, h7]⟩
    · rw [h.cellAt _ (by omega)]; exact e1
    · rw [h.cellAt _ (by omega)]; exact e2
    · rw [h.cellAt _ (by omega)]; exact e3
theorem info57 : (Try.prog.info? 57).map (fun i => (i.zero, i.size, i.bytes)) = some (some (.agg #[.string ByteArray.empty, .bool false, .bool false]), 3, 24) := by kernel_rfl
set_option maxHeartbeats 1000000 in
theorem rlen_any (w : World) (base R : Nat) (L : List TkS) (h : RTok w base R L) (hlen : L.length < 1099511627776) :
    Calls Try.prog 19 #[.pointer (some ⟨R, 0, none⟩)] w fun e w' => e = .returned (.int .i64 (cntLeft L : Int)) ∧ w = w' := by
  obtain ⟨A, c, hb, _, _, ho⟩ := h.shape
  have c0 : w.cell? ⟨R, 0, none⟩ = some (.slice A (L.length) c) := hb.cell 0
  have HO := Lib.hid ho
  clear h hb ho
  go_enter Try.func19, Try.ntmps19
  go_wp2
  go_loop [3, 4] (fun n i => ∃ k : Nat, k ≤ L.length ∧ i = .int .i64 k ∧ n = .int .i64 (((List.range k).filter (left L)).length : Int)) (fun _ i => L.length - (intOf i).toNat)
  case atStart => exact ⟨0, Nat.zero_le _, rfl, rfl⟩
  case round =>
    obtain ⟨k, hk, rfl, rfl⟩ := hrel
    by_cases hlt : k < L.length
    · obtain ⟨g, rfl, _, _, _, _, hu, _⟩ := own_at HO.out k hlt
      have hle := List.length_filter_le (left L) (List.range k)
      rw [List.length_range] at hle
      have HS : Hid (((List.range (k + 1)).filter (left L)).length = ((List.range k).filter (left L)).length + if L[k].used then 0 else 1) := by
        refine Lib.hid ?_
        rw [List.range_succ, List.filter_append, List.length_append]
        have : left L k = !L[k].used := by unfold left; rw [List.getElem?_eq_getElem hlt]
        cases hx : L[k].used <;> simp [this, hx]
      generalize L[k].used = d at *
      cases d with
      | true =>
        go_wp2
        exact ⟨⟨k + 1, by omega, by go_num, by rw [HS.out]; rfl⟩, by simp [intOf]; omega⟩
      | false =>
        go_wp2
        exact ⟨⟨k + 1, by omega, by go_num, by rw [HS.out]; go_num⟩, by simp [intOf]; omega⟩
    · obtain rfl : k = L.length := by omega
      go_wp2
      go_ret
      exact ⟨rfl, rfl⟩
set_option maxHeartbeats 1000000 in
theorem rgive_any (w : World) (base R : Nat) (L : List TkS) (key : ByteArray) (h : RTok w base R L) (hlen : L.length < 1099511627) :
    Calls Try.prog 15 #[.pointer (some ⟨R, 0, none⟩), .string key] w fun e w' => e = .returned (.int .i64 ((L.length : Int) + 1)) ∧ RTok w' base R (L ++ [⟨key, true, false⟩]) ∧ Below base w w' ∧ Keeps notR w w' := by
  obtain ⟨i0, hi, hz0, hz1, hz2⟩ := info_parts info57
  obtain ⟨A, c, hb, hc1, hc2, ho⟩ := h.shape
  have c0 : w.cell? ⟨R, 0, none⟩ = some (.slice A (L.length) c) := hb.cell 0
  have hR := h.hR
  have hRl := hb.lt
  have HB := Lib.hid hb
  have HO := Lib.hid (ho.alloc (.cells #[.string key, .bool true, .bool false] 57))
  have HO0 := Lib.hid ho
  clear h hb ho
  go_enter Try.func15, Try.ntmps15
  go_wp2_with (at_builtin; refine wpList_append_lies _ rfl (.tmp 9) (.tmp 12) 38 rfl base 57 i0 _ 3 24 Try.underlying38 hi hz0 hz1 hz2 rfl (by decide) (.slice A L.length c) L.length (rcells L) rfl HO.out ⟨w.heap.size, 0, none⟩ 1 1 [.string key, .bool true, .bool false] rfl rfl ?c1 ?c2 (by decide) ?c3 ?c4 ?c5 (w.heap.size + 1) ?c6 ?_)
  case c1 => exact World.news_of_block (heap_alloc_new w _)
  case c2 => simp [Value.oneCell']
  case c3 => unfold maxLen; omega
  case c4 => omega
  case c5 => rw [World.size_alloc]; omega
  case c6 => rw [World.size_alloc]
  intro g cap w1 hown hg hat hlt
  have HAT := Lib.hid hat
  have hrow : ∀ r o, (Value.slice A L.length c).ownBlock = some r → (w.alloc (.cells #[.string key, .bool true, .bool false] 57)).heap[r]? = some o → ∃ cur, o = .cells cur 57 (0, 0) := by
    intro r o h1 h2
    rcases HO.out.2 with ⟨h4, _⟩ | ⟨g', cap', cur, h5, _, h7, _⟩
    · rw [h4] at h1; simp [Value.ownBlock] at h1
    · rw [h5] at h1
      simp [Value.ownBlock] at h1
      subst h1
      rw [h7] at h2
      exact ⟨cur, by cases h2; rfl⟩
  have hRA : Blk (w.alloc (.cells #[.string key, .bool true, .bool false] 57)) R 40 #[.slice A L.length c] := HB.out.alloc _
  have hb1 : Blk w1 R 40 #[.slice A L.length c] := hRA.grown hg (fun e => by
    obtain ⟨cur, h⟩ := hrow R _ e.symm hRA
    cases h)
  have hgR : g ≠ R := fun e => by
    subst e
    rcases hown.2 with ⟨h4, _⟩ | ⟨g', cap', cur, h5, _, h7, _⟩
    · cases h4
    · cases h5
      unfold Blk at hb1
      rw [hb1] at h7
      cases h7
  have c1 : w1.cell? ⟨R, 0, none⟩ = some (.slice A (L.length) c) := hb1.cell 0
  have f1 : w1.frozen? ⟨R, 0, none⟩ = false := hb1.frozen 0
  have HT : Hid (RTok (w1.setCell ⟨R, 0, none⟩ (.slice (some ⟨g, 0, none⟩) (L.length + 1) cap)) base R (L ++ [⟨key, true, false⟩])) := by
    refine Lib.hid ⟨hR, _, hb1.set_ 0 _, ?_⟩
    rw [List.length_append, List.length_singleton, rcells_append]
    exact own_far hown _ (by simp [Value.ownBlock]; exact hgR) _
  have HBL : Hid (Below base w (w1.setCell ⟨R, 0, none⟩ (.slice (some ⟨g, 0, none⟩) (L.length + 1) cap))) := Lib.hid ((((Below.refl base w).alloc (by omega) _).grown hg (by rw [World.size_alloc]; omega) (fun r hr => (HO0.out.lt r hr).1)).setCell (p := ⟨R, 0, none⟩) hR _)
  have HK : Hid (Keeps notR w (w1.setCell ⟨R, 0, none⟩ (.slice (some ⟨g, 0, none⟩) (L.length + 1) cap))) := Lib.hid ((((Keeps.refl notR w).alloc _).grown hg (fun r o h1 h2 => by obtain ⟨cur, rfl⟩ := hrow r o h1 h2; rfl)).setCell _ _ (fun o h => by
    have h' : w1.heap[R]? = some o := h
    unfold Blk at hb1
    rw [hb1] at h'
    cases h'
    rfl))
  clear hown hg hat hlt hrow hRA hb1 hgR
  go_wp2
  go_ret
  exact ⟨rfl, HT.out, HBL.out, HK.out⟩
set_option maxHeartbeats 1000000 in
theorem ruse_no (w : World) (base R : Nat) (L : List TkS) (id : Int) (h : RTok w base R L) (hlen : L.length < 1099511627) (hno : ∀ i, i < L.length → left L i = true → id ≠ (i : Int) + 1) :
    Calls Try.prog 16 #[.pointer (some ⟨R, 0, none⟩), .int .i64 id] w fun e w' => e = .returned (.tuple #[.string ByteArray.empty, .bool false]) ∧ w = w' := by
  obtain ⟨A, c, hb, hc1, hc2, ho⟩ := h.shape
  have c0 : w.cell? ⟨R, 0, none⟩ = some (.slice A (L.length) c) := hb.cell 0
  have HO := Lib.hid ho
  have HNO := Lib.hid hno
  clear h hb ho hno
  by_cases h1 : id < 1
  · go_enter Try.func16, Try.ntmps16
    go_wp2
    go_ret2
    exact ⟨rfl, rfl⟩
  · by_cases h2 : (L.length : Int) < id
    · go_enter Try.func16, Try.ntmps16
      go_wp2
      go_ret2
      exact ⟨rfl, rfl⟩
    · obtain ⟨i, rfl⟩ : ∃ i : Nat, id = (i : Int) + 1 := ⟨(id - 1).toNat, by omega⟩
      have hi : i < L.length := by omega
      obtain ⟨g, rfl, _, _, _, _, hu, _⟩ := own_at HO.out i hi
      have hus : L[i].used = true := by
        cases hx : L[i].used with
        | true => rfl
        | false => exact absurd rfl (HNO.out i hi (by unfold left; rw [List.getElem?_eq_getElem hi]; simp [hx]))
      rw [hus] at hu
      clear hus
      go_enter Try.func16, Try.ntmps16
      go_wp2
      go_ret2
      exact ⟨rfl, rfl⟩
set_option maxHeartbeats 1000000 in
theorem ruse_yes (w : World) (base R : Nat) (L : List TkS) (i : Nat) (h : RTok w base R L) (hlen : L.length < 1099511627) (hi : i < L.length) (hus : L[i].used = false) :
    Calls Try.prog 16 #[.pointer (some ⟨R, 0, none⟩), .int .i64 ((i : Int) + 1)] w fun e w' => e = .returned (.tuple #[.string L[i].key, .bool L[i].good]) ∧ RTok w' base R (L.set i ⟨L[i].key, L[i].good, true⟩) ∧ Below base w w' ∧ Keeps notR w w' := by
  obtain ⟨A, c, hb, hc1, hc2, ho⟩ := h.shape
  have c0 : w.cell? ⟨R, 0, none⟩ = some (.slice A (L.length) c) := hb.cell 0
  have hR := h.hR
  obtain ⟨g, rfl, hg, ⟨cur, hcur⟩, hk, hgd, hu, hf⟩ := own_at ho i hi
  have hgR : g ≠ R := fun e => by
    subst e
    unfold Blk at hb
    rw [hb] at hcur
    cases hcur
  have HX : Hid (RTok (w.setCell ⟨g, i * 3 + 2, none⟩ (.bool true)) base R (L.set i ⟨L[i].key, L[i].good, true⟩) ∧ Below base w (w.setCell ⟨g, i * 3 + 2, none⟩ (.bool true)) ∧ Keeps notR w (w.setCell ⟨g, i * 3 + 2, none⟩ (.bool true))) := by
    refine Lib.hid ⟨⟨hR, _, hb.far (p := ⟨g, i * 3 + 2, none⟩) (Ne.symm hgR) _, ?_⟩, (Below.refl base w).setCell (p := ⟨g, i * 3 + 2, none⟩) hg _, (Keeps.refl notR w).setCell _ _ (fun o ho => by
      have h' : w.heap[g]? = some o := ho
      rw [hcur] at h'
      cases h'
      rfl)⟩
    have hst := ho.stored (i * 3 + 2) (.bool true)
    rw [List.length_set, rcells_set L i hi]
    obtain ⟨e1, e2, e3⟩ := rcells_get L i hi
    rw [show (rcells L).set (i * 3) (.string L[i].key) = rcells L from by
      apply List.ext_getElem?
      intro j
      rw [List.getElem?_set]
      split
      · rename_i e
        subst e
        rw [e1]
        simp
        have := rcells_length L
        omega
      · rfl]
    rw [show (rcells L).set (i * 3 + 1) (.bool L[i].good) = rcells L from by
      apply List.ext_getElem?
      intro j
      rw [List.getElem?_set]
      split
      · rename_i e
        subst e
        rw [e2]
        simp
        have := rcells_length L
        omega
      · rfl]
    exact hst.1
  have hf2 := hf (i * 3 + 2)
  rw [hus] at hu
  have HU := Lib.hid hus
  clear h hb ho hcur hf hgR hus
  generalize L[i].key = ky at *
  generalize L[i].good = gd at *
  go_enter Try.func16, Try.ntmps16
  go_wp2
  go_quiet (fail)
  go_wp2
  go_ret2
  exact ⟨rfl, HX.out.1.keep (fun _ _ h _ => h), below_drewN' HX.out.2.1 _, HX.out.2.2⟩
end Go.Proofs.Ytcghoaijflekhaa
