/- Walks of the rights' table, third part: kill. Conditions: lengths. -/
import Derived.Test.YtcghoaijflekhaaTokP
import Derived.Test.YtcghoaijflekhaaTokK
namespace Go.Proofs.Ytcghoaijflekhaa
open Go.RowKit
/-- all other old blocks stand -/
def Apart (bl : Nat → Nat) (n : Nat) (w w' : World) : Prop := ∀ g, g < w.heap.size → (∀ j, j < n → bl j ≠ g) → w'.heap[g]? = w.heap[g]?
theorem Tok.bl_ne {w : World} {base T M : Nat} {L : List TkS} {bl : Nat → Nat} (h : Tok w base T M L bl) : T ≠ M ∧ ∀ j, j < L.length → bl j ≠ M ∧ bl j ≠ T ∧ bl j < w.heap.size := by
  refine ⟨fun e => ?_, fun j hj => ⟨fun e => ?_, fun e => ?_, (h.each j hj).2.lt⟩⟩
  · have h1 := h.map
    have h3 := h.blk
    unfold MapAt at h1
    unfold Blk at h3
    rw [e, h1] at h3
    cases h3
  · have h1 := h.map
    have h3 := (h.each j hj).2
    unfold MapAt at h1
    unfold Blk at h3
    rw [e, h1] at h3
    cases h3
  · have h1 := h.blk
    have h3 := (h.each j hj).2
    unfold Blk at h1 h3
    rw [e, h1] at h3
    cases h3
def seenSize (w : World) (r : Nat) : Nat := match w.heap[r]? with
  | some (.mapIter _ _ s _) => s.size
  | _ => 0
theorem IterAt.size {w : World} {r b c : Nat} {S : List Nat} (h : IterAt w r b c S) : seenSize w r = S.length := by
  unfold seenSize
  unfold IterAt at h
  rw [h]
  simp
theorem nodup_le {S : List Nat} {n : Nat} (hn : S.Nodup) (hb : ∀ i ∈ S, i < n) : S.length ≤ n := by
  have hp : S.Perm ((List.range n).filter (· ∈ S)) := by
    rw [List.perm_ext_iff_of_nodup hn (List.nodup_range.sublist List.filter_sublist)]
    intro a
    rw [List.mem_filter]
    simp
    exact hb a
  have := hp.length_eq
  have h2 := List.length_filter_le (fun a => decide (a ∈ S)) (List.range n)
  rw [List.length_range] at h2
  omega
theorem Tok.alloc {w : World} {base T M : Nat} {L : List TkS} {bl : Nat → Nat} (h : Tok w base T M L bl) (o : Obj) : Tok (w.alloc o) base T M L bl :=
  ⟨h.hT, h.hM, h.blk.alloc o, (Below.heap_alloc w o M (Array.getElem?_eq_some_iff.1 h.map).1).trans h.map, h.one, fun i hi => ⟨(h.each i hi).1, (h.each i hi).2.alloc o⟩⟩
theorem Tok.above {w : World} {base T M : Nat} {L : List TkS} {bl : Nat → Nat} (h : Tok w base T M L bl) : base ≤ w.heap.size := Nat.le_of_lt (Nat.lt_of_le_of_lt h.hT h.blk.lt)
theorem Tok.bad {w : World} {base T M : Nat} {L : List TkS} {bl : Nat → Nat} (h : Tok w base T M L bl) (i : Nat) (hi : i < L.length) (x : TkS) (hk : L[i].key = x.key) (hu : L[i].used = x.used) (hg : x.good = false) : Tok (w.setCell ⟨bl i, 1, none⟩ (.bool false)) base T M (L.set i x) bl := by
  obtain ⟨h1, h2⟩ := h.bl_ne
  obtain ⟨hM, hT, _⟩ := h2 i hi
  have e : entsF (left (L.set i x)) L.length bl = entsF (left L) L.length bl := entsF_congr (fun j hj => by
    unfold left
    rw [List.getElem?_set]
    by_cases hij : i = j
    · subst hij; simp [hi, hu]
    · simp [hij]) (fun _ _ => rfl)
  refine ⟨h.hT, h.hM, ?_, ?_, ?_, ?_⟩
  · rw [List.length_set]; exact h.blk.far (Ne.symm hT) _
  · rw [List.length_set, e]
    exact (Below.heap_setCell _ _ _ _ (Ne.symm hM)).trans h.map
  · intro a b ha hb; rw [List.length_set] at ha hb; exact h.one a b ha hb
  · intro a ha
    rw [List.length_set] at ha
    obtain ⟨h3, h4⟩ := h.each a ha
    refine ⟨h3, ?_⟩
    by_cases hai : i = a
    · subst hai
      have := h4.set_ 1 (.bool false)
      rw [List.getElem_set_self, ← hk, hg]
      exact this
    · rw [List.getElem_set_ne hai]
      exact h4.far (fun e => hai (h.one i a hi ha e.symm)) _
theorem mem_entsF {p : Nat → Bool} {n : Nat} {bl : Nat → Nat} {i : Nat} (hi : i < n) (hp : p i = true) : ((((i : Nat) : Int) + 1, .pointer (some ⟨bl i, 0, none⟩), i) : Ent Int) ∈ entsF p n bl :=
  List.mem_map.2 ⟨i, List.mem_filter.2 ⟨by simpa using hi, hp⟩, rfl⟩
theorem of_mem_entsF {p : Nat → Bool} {n : Nat} {bl : Nat → Nat} {k : Int} {v : Value} {i : Nat} (h : ((k, v, i) : Ent Int) ∈ entsF p n bl) : i < n ∧ p i = true ∧ k = (i : Int) + 1 ∧ v = .pointer (some ⟨bl i, 0, none⟩) := by
  obtain ⟨a, ha, he⟩ := List.mem_map.1 h
  obtain ⟨h1, h2⟩ := List.mem_filter.1 ha
  cases he
  exact ⟨by simpa using h1, h2, rfl, rfl⟩
theorem Tok.grown {w w' : World} {base T M r : Nat} {L : List TkS} {bl : Nat → Nat} (h : Tok w base T M L bl) (hg : w.grownBy w' (some r)) (hT : T ≠ r) (hM : M ≠ r) (hb : ∀ j, j < L.length → bl j ≠ r) : Tok w' base T M L bl :=
  ⟨h.hT, h.hM, h.blk.grown hg (by simpa using hT), (hg.block M (Array.getElem?_eq_some_iff.1 h.map).1 (by simpa using hM)).trans h.map, h.one, fun i hi => ⟨(h.each i hi).1, (h.each i hi).2.grown hg (by simpa using hb i hi)⟩⟩
set_option maxHeartbeats 1000000 in
theorem kill_any (w : World) (base T M : Nat) (L : List TkS) (bl : Nat → Nat) (h : Tok w base T M L bl) (hlen : L.length < 1099511627776) (f : ByteArray → Bool) (p : Addr)
    (hF : ∀ wr s, Apart bl L.length w wr → Calls Try.prog 21 #[.string s, .pointer (some p)] wr fun e w' => e = .returned (.bool (f s)) ∧ wr = w') :
    Calls Try.prog 20 #[.pointer (some ⟨T, 0, none⟩), .func (.func 21) #[] #[.pointer (some p)]] w fun e w' => e = .returned (.int .i64 ((L.filter (hit f)).length : Int)) ∧ Tok w' base T M (L.map (hurt1 f)) bl ∧ Below base w w' ∧ Apart bl L.length w w' := by
  have c1 : w.cell? ⟨T, 1, none⟩ = some (.map (some M)) := h.blk.cell 1
  have hrange := run_range_at (P := Try.prog) Try.underlying47 h.map
  have HT0 := Lib.hid h
  have HF := Lib.hid hF
  clear h hF
  go_enter Try.func20, Try.ntmps20
  go_wp2
  go_loopw [5] (fun n wr => ∃ S : List Nat, S.Nodup ∧ (∀ i ∈ S, i < L.length) ∧ n = .int .i64 ((S.filter (hitAt f L)).length : Int) ∧ Tok wr base T M (hurtIn f S L) bl ∧ IterAt wr w.heap.size M L.length S ∧ Below base w wr ∧ Apart bl L.length w wr) (fun _ wr => L.length - seenSize wr w.heap.size)
  case atStart =>
    refine ⟨[], List.nodup_nil, by simp, rfl, ?_, heap_alloc_new w _, (Below.refl _ _).alloc HT0.out.above _, fun g hg _ => Below.heap_alloc _ _ _ hg⟩
    rw [hurtIn_nil]
    exact HT0.out.alloc _
  case round =>
    obtain ⟨S, hS, hSb, rfl, hT, hI, hB, hA⟩ := hrel
    have HS := Lib.hid hS
    have HSb := Lib.hid hSb
    have HB := Lib.hid hB
    have HA := Lib.hid hA
    have HT := Lib.hid hT
    have HI := Lib.hid hI
    have hmap := hT.map
    have hst := stamped_entsF (left (hurtIn f S L)) (hurtIn f S L).length bl
    rw [hurtIn_length] at hmap hst
    clear hS hSb hB hA hT hI
    go_wp2_with (refine wpList_next_at rfl (.tmp 14) rfl rfl hmap hst HI.out ?done ?more)
    case done =>
      intro hall
      have HE1 : Hid (hurtIn f S L = L.map (hurt1 f)) := Lib.hid (hurtIn_all f S L fun i hi hl => hall _ _ _ (mem_entsF hi (by rw [left_hurtIn]; exact hl)))
      have HE2 : Hid ((S.filter (hitAt f L)).length = (L.filter (hit f)).length) := Lib.hid (hits_end f S L HS.out HSb.out fun i hi hl => hall _ _ _ (mem_entsF hi (by rw [left_hurtIn]; exact hl)))
      clear hall hmap hst
      go_wp2
      go_ret
      refine ⟨by rw [HE2.out]; rfl, by rw [← HE1.out]; exact HT.out, HB.out, HA.out⟩
    case more =>
      intro k v i hq hns w2 hI2 hg2 hsz2 hent
      obtain ⟨hi, hl, rfl, rfl⟩ := of_mem_entsF hq
      rw [left_hurtIn] at hl
      have hbn := HT0.out.bl_ne
      have hent := hent (by have := (Array.getElem?_eq_some_iff.1 HT0.out.map).1; omega)
      unfold mkI at hent
      have HT2 := Lib.hid (HT.out.grown hg2 (by have := HT0.out.blk.lt; omega) (by have := (Array.getElem?_eq_some_iff.1 HT0.out.map).1; omega) (fun j hj => by rw [hurtIn_length] at hj; have := (hbn.2 j hj).2.2; omega))
      have hi' : i < (hurtIn f S L).length := by rw [hurtIn_length]; exact hi
      have hgi : (hurtIn f S L)[i] = L[i] := by rw [hurtIn_get, if_neg hns]
      have hblk := (HT2.out.each i hi').2
      rw [hgi] at hblk
      have hk : w2.cell? ⟨bl i, 0, none⟩ = some (.string L[i].key) := hblk.cell 0
      have hg : w2.cell? ⟨bl i, 1, none⟩ = some (.bool L[i].good) := hblk.cell 1
      have hfz := hblk.frozen 1
      have hused : L[i].used = false := by
        unfold left at hl
        rw [List.getElem?_eq_getElem hi] at hl
        simpa using hl
      have hat : hitAt f L i = hit f L[i] := by unfold hitAt; rw [List.getElem?_eq_getElem hi]
      have hA2 : Apart bl L.length w w2 := fun g hg1 hg3 => (hg2.block g (by have := HB.out.size; have h4 := (Array.getElem?_eq_some_iff.1 (HI.out : wr.heap[w.heap.size]? = _)).1; omega) (by simp; omega)).trans (HA.out g hg1 hg3)
      have HA2 := Lib.hid hA2
      have HB2 := Lib.hid (HB.out.grown hg2 (by have := HT.out.above; omega) (fun g hg' => by cases hg'; exact HT0.out.above))
      have HS2 : Hid ((S ++ [i]).Nodup ∧ (∀ j ∈ S ++ [i], j < L.length) ∧ (S ++ [i]).length ≤ L.length) := by
        have h1 : (S ++ [i]).Nodup := by rw [List.nodup_append]; exact ⟨HS.out, by simp, by simp; intro a ha e; exact hns (e ▸ ha)⟩
        have h2 : ∀ j ∈ S ++ [i], j < L.length := by
          intro j hj
          rcases List.mem_append.1 hj with h | h
          · exact HSb.out j h
          · simp at h; omega
        exact Lib.hid ⟨h1, h2, nodup_le h1 h2⟩
      have HI2 := Lib.hid hI2
      have HHG : Hid ((hit f L[i] = false → hurtIn f (S ++ [i]) L = hurtIn f S L ∧ ((S ++ [i]).filter (hitAt f L)).length = (S.filter (hitAt f L)).length) ∧ (hit f L[i] = true → hurtIn f (S ++ [i]) L = (hurtIn f S L).set i ⟨L[i].key, false, L[i].used⟩ ∧ ((S ++ [i]).filter (hitAt f L)).length = (S.filter (hitAt f L)).length + 1)) := by
        refine Lib.hid ⟨fun h => ⟨hurtIn_miss f S L i (hat.trans h), ?_⟩, fun h => ⟨hurtIn_hit f S L i hi h, ?_⟩⟩
        · rw [List.filter_append, List.length_append]; simp [hat, h]
        · rw [List.filter_append, List.length_append]; simp [hat, h]
      have hhit : hit f L[i] = (L[i].good && f L[i].key) := by unfold hit; rw [hused]; rfl
      rw [hhit] at HHG
      have HBNE := Lib.hid hbn
      have HKU : Hid ((hurtIn f S L)[i].key = L[i].key ∧ (hurtIn f S L)[i].used = L[i].used) := Lib.hid (by rw [hgi]; exact ⟨rfl, rfl⟩)
      have HI3 := Lib.hid hi
      clear hat hhit hA2 hI2 hg2 hsz2 hq hns hl hbn hblk hgi hused hst hmap
      generalize L[i].key = ky at hk HHG HKU
      generalize L[i].good = gd at hg HHG
      cases gd with
      | false =>
        go_wp2
        obtain ⟨e1, e2⟩ := HHG.out.1 rfl
        refine ⟨⟨S ++ [i], HS2.out.1, HS2.out.2.1, by rw [e2], by rw [e1]; exact HT2.out, HI2.out, HB2.out, HA2.out⟩, ?_⟩
        have := HI.out.size
        have := HI2.out.size
        have := HS2.out.2.2
        rw [List.length_append, List.length_singleton] at *
        omega
      | true =>
        go_wp2_with fail
        refine (HF.out w2 ky HA2.out).mono ?_
        rintro e w3 ⟨rfl, rfl⟩
        have HSZ : Hid (L.length - seenSize w2 w.heap.size < L.length - seenSize wr w.heap.size ∧ seenSize w2 w.heap.size = (S ++ [i]).length) := by
          have h1 := HI.out.size
          have h2 := HI2.out.size
          have h3 := HS2.out.2.2
          refine Lib.hid ⟨?_, h2⟩
          rw [List.length_append, List.length_singleton] at *
          omega
        by_cases hf : f ky = true
        · have HS3 : Hid (Tok (w2.setCell ⟨bl i, 1, none⟩ (.bool false)) base T M (hurtIn f (S ++ [i]) L) bl ∧ IterAt (w2.setCell ⟨bl i, 1, none⟩ (.bool false)) w.heap.size M L.length (S ++ [i]) ∧ Below base w (w2.setCell ⟨bl i, 1, none⟩ (.bool false)) ∧ Apart bl L.length w (w2.setCell ⟨bl i, 1, none⟩ (.bool false)) ∧ ((S ++ [i]).filter (hitAt f L)).length = (S.filter (hitAt f L)).length + 1) := by
            obtain ⟨e1, e2⟩ := HHG.out.2 (by rw [hf]; rfl)
            have hb := (HBNE.out.2 i HI3.out).2.2
            refine Lib.hid ⟨?_, ?_, ?_, ?_, e2⟩
            · rw [e1]
              exact HT2.out.bad i hi' _ (HKU.out.1) (HKU.out.2) rfl
            · exact (Below.heap_setCell _ _ _ _ (by show w.heap.size ≠ bl i; omega)).trans HI2.out
            · exact HB2.out.setCell (HT0.out.each i HI3.out).1 _
            · exact fun g hg1 hg3 => (Below.heap_setCell _ _ _ _ (fun e => hg3 i HI3.out e.symm)).trans (HA2.out g hg1 hg3)
          have HZ : Hid (seenSize (w2.setCell ⟨bl i, 1, none⟩ (.bool false)) w.heap.size = (S ++ [i]).length) := Lib.hid HS3.out.2.1.size
          rw [hf]
          clear hf
          have hfl2 : (S.filter (hitAt f L)).length < 1099511627776 := by
            have hfl := List.length_filter_le (hitAt f L) S
            have hsl := HS2.out.2.2
            rw [List.length_append, List.length_singleton] at hsl
            omega
          go_wp2
          obtain ⟨x1, x2, x3, x4, x5⟩ := HS3.out
          refine ⟨⟨S ++ [i], HS2.out.1, HS2.out.2.1, by rw [x5]; go_num, x1, x2, x3, x4⟩, ?_⟩
          rw [HZ.out, ← HSZ.out.2]
          exact HSZ.out.1
        · have hf' : f ky = false := by cases h : f ky <;> simp_all
          rw [hf']
          clear hf
          go_wp2
          obtain ⟨e1, e2⟩ := HHG.out.1 (by rw [hf']; rfl)
          refine ⟨⟨S ++ [i], HS2.out.1, HS2.out.2.1, by rw [e2], by rw [e1]; exact HT2.out, HI2.out, HB2.out, HA2.out⟩, HSZ.out.1⟩
set_option maxHeartbeats 1000000 in
theorem killc_any (w : World) (base T M : Nat) (L : List TkS) (bl : Nat → Nat) (h : Tok w base T M L bl) (hlen : L.length < 1099511627776) (f : ByteArray → Bool)
    (hF : ∀ wr s, Apart bl L.length w wr → Calls Try.prog 23 #[.string s] wr fun e w' => e = .returned (.bool (f s)) ∧ wr = w') :
    Calls Try.prog 20 #[.pointer (some ⟨T, 0, none⟩), .func (.func 23) #[] #[]] w fun e w' => e = .returned (.int .i64 ((L.filter (hit f)).length : Int)) ∧ Tok w' base T M (L.map (hurt1 f)) bl ∧ Below base w w' ∧ Apart bl L.length w w' := by
  have c1 : w.cell? ⟨T, 1, none⟩ = some (.map (some M)) := h.blk.cell 1
  have hrange := run_range_at (P := Try.prog) Try.underlying47 h.map
  have HT0 := Lib.hid h
  have HF := Lib.hid hF
  clear h hF
  go_enter Try.func20, Try.ntmps20
  go_wp2
  go_loopw [5] (fun n wr => ∃ S : List Nat, S.Nodup ∧ (∀ i ∈ S, i < L.length) ∧ n = .int .i64 ((S.filter (hitAt f L)).length : Int) ∧ Tok wr base T M (hurtIn f S L) bl ∧ IterAt wr w.heap.size M L.length S ∧ Below base w wr ∧ Apart bl L.length w wr) (fun _ wr => L.length - seenSize wr w.heap.size)
  case atStart =>
    refine ⟨[], List.nodup_nil, by simp, rfl, ?_, heap_alloc_new w _, (Below.refl _ _).alloc HT0.out.above _, fun g hg _ => Below.heap_alloc _ _ _ hg⟩
    rw [hurtIn_nil]
    exact HT0.out.alloc _
  case round =>
    obtain ⟨S, hS, hSb, rfl, hT, hI, hB, hA⟩ := hrel
    have HS := Lib.hid hS
    have HSb := Lib.hid hSb
    have HB := Lib.hid hB
    have HA := Lib.hid hA
    have HT := Lib.hid hT
    have HI := Lib.hid hI
    have hmap := hT.map
    have hst := stamped_entsF (left (hurtIn f S L)) (hurtIn f S L).length bl
    rw [hurtIn_length] at hmap hst
    clear hS hSb hB hA hT hI
    go_wp2_with (refine wpList_next_at rfl (.tmp 14) rfl rfl hmap hst HI.out ?done ?more)
    case done =>
      intro hall
      have HE1 : Hid (hurtIn f S L = L.map (hurt1 f)) := Lib.hid (hurtIn_all f S L fun i hi hl => hall _ _ _ (mem_entsF hi (by rw [left_hurtIn]; exact hl)))
      have HE2 : Hid ((S.filter (hitAt f L)).length = (L.filter (hit f)).length) := Lib.hid (hits_end f S L HS.out HSb.out fun i hi hl => hall _ _ _ (mem_entsF hi (by rw [left_hurtIn]; exact hl)))
      clear hall hmap hst
      go_wp2
      go_ret
      refine ⟨by rw [HE2.out]; rfl, by rw [← HE1.out]; exact HT.out, HB.out, HA.out⟩
    case more =>
      intro k v i hq hns w2 hI2 hg2 hsz2 hent
      obtain ⟨hi, hl, rfl, rfl⟩ := of_mem_entsF hq
      rw [left_hurtIn] at hl
      have hbn := HT0.out.bl_ne
      have hent := hent (by have := (Array.getElem?_eq_some_iff.1 HT0.out.map).1; omega)
      unfold mkI at hent
      have HT2 := Lib.hid (HT.out.grown hg2 (by have := HT0.out.blk.lt; omega) (by have := (Array.getElem?_eq_some_iff.1 HT0.out.map).1; omega) (fun j hj => by rw [hurtIn_length] at hj; have := (hbn.2 j hj).2.2; omega))
      have hi' : i < (hurtIn f S L).length := by rw [hurtIn_length]; exact hi
      have hgi : (hurtIn f S L)[i] = L[i] := by rw [hurtIn_get, if_neg hns]
      have hblk := (HT2.out.each i hi').2
      rw [hgi] at hblk
      have hk : w2.cell? ⟨bl i, 0, none⟩ = some (.string L[i].key) := hblk.cell 0
      have hg : w2.cell? ⟨bl i, 1, none⟩ = some (.bool L[i].good) := hblk.cell 1
      have hfz := hblk.frozen 1
      have hused : L[i].used = false := by
        unfold left at hl
        rw [List.getElem?_eq_getElem hi] at hl
        simpa using hl
      have hat : hitAt f L i = hit f L[i] := by unfold hitAt; rw [List.getElem?_eq_getElem hi]
      have hA2 : Apart bl L.length w w2 := fun g hg1 hg3 => (hg2.block g (by have := HB.out.size; have h4 := (Array.getElem?_eq_some_iff.1 (HI.out : wr.heap[w.heap.size]? = _)).1; omega) (by simp; omega)).trans (HA.out g hg1 hg3)
      have HA2 := Lib.hid hA2
      have HB2 := Lib.hid (HB.out.grown hg2 (by have := HT.out.above; omega) (fun g hg' => by cases hg'; exact HT0.out.above))
      have HS2 : Hid ((S ++ [i]).Nodup ∧ (∀ j ∈ S ++ [i], j < L.length) ∧ (S ++ [i]).length ≤ L.length) := by
        have h1 : (S ++ [i]).Nodup := by rw [List.nodup_append]; exact ⟨HS.out, by simp, by simp; intro a ha e; exact hns (e ▸ ha)⟩
        have h2 : ∀ j ∈ S ++ [i], j < L.length := by
          intro j hj
          rcases List.mem_append.1 hj with h | h
          · exact HSb.out j h
          · simp at h; omega
        exact Lib.hid ⟨h1, h2, nodup_le h1 h2⟩
      have HI2 := Lib.hid hI2
      have HHG : Hid ((hit f L[i] = false → hurtIn f (S ++ [i]) L = hurtIn f S L ∧ ((S ++ [i]).filter (hitAt f L)).length = (S.filter (hitAt f L)).length) ∧ (hit f L[i] = true → hurtIn f (S ++ [i]) L = (hurtIn f S L).set i ⟨L[i].key, false, L[i].used⟩ ∧ ((S ++ [i]).filter (hitAt f L)).length = (S.filter (hitAt f L)).length + 1)) := by
        refine Lib.hid ⟨fun h => ⟨hurtIn_miss f S L i (hat.trans h), ?_⟩, fun h => ⟨hurtIn_hit f S L i hi h, ?_⟩⟩
        · rw [List.filter_append, List.length_append]; simp [hat, h]
        · rw [List.filter_append, List.length_append]; simp [hat, h]
      have hhit : hit f L[i] = (L[i].good && f L[i].key) := by unfold hit; rw [hused]; rfl
      rw [hhit] at HHG
      have HBNE := Lib.hid hbn
      have HKU : Hid ((hurtIn f S L)[i].key = L[i].key ∧ (hurtIn f S L)[i].used = L[i].used) := Lib.hid (by rw [hgi]; exact ⟨rfl, rfl⟩)
      have HI3 := Lib.hid hi
      clear hat hhit hA2 hI2 hg2 hsz2 hq hns hl hbn hblk hgi hused hst hmap
      generalize L[i].key = ky at hk HHG HKU
      generalize L[i].good = gd at hg HHG
      cases gd with
      | false =>
        go_wp2
        obtain ⟨e1, e2⟩ := HHG.out.1 rfl
        refine ⟨⟨S ++ [i], HS2.out.1, HS2.out.2.1, by rw [e2], by rw [e1]; exact HT2.out, HI2.out, HB2.out, HA2.out⟩, ?_⟩
        have := HI.out.size
        have := HI2.out.size
        have := HS2.out.2.2
        rw [List.length_append, List.length_singleton] at *
        omega
      | true =>
        go_wp2_with fail
        refine (HF.out w2 ky HA2.out).mono ?_
        rintro e w3 ⟨rfl, rfl⟩
        have HSZ : Hid (L.length - seenSize w2 w.heap.size < L.length - seenSize wr w.heap.size ∧ seenSize w2 w.heap.size = (S ++ [i]).length) := by
          have h1 := HI.out.size
          have h2 := HI2.out.size
          have h3 := HS2.out.2.2
          refine Lib.hid ⟨?_, h2⟩
          rw [List.length_append, List.length_singleton] at *
          omega
        by_cases hf : f ky = true
        · have HS3 : Hid (Tok (w2.setCell ⟨bl i, 1, none⟩ (.bool false)) base T M (hurtIn f (S ++ [i]) L) bl ∧ IterAt (w2.setCell ⟨bl i, 1, none⟩ (.bool false)) w.heap.size M L.length (S ++ [i]) ∧ Below base w (w2.setCell ⟨bl i, 1, none⟩ (.bool false)) ∧ Apart bl L.length w (w2.setCell ⟨bl i, 1, none⟩ (.bool false)) ∧ ((S ++ [i]).filter (hitAt f L)).length = (S.filter (hitAt f L)).length + 1) := by
            obtain ⟨e1, e2⟩ := HHG.out.2 (by rw [hf]; rfl)
            have hb := (HBNE.out.2 i HI3.out).2.2
            refine Lib.hid ⟨?_, ?_, ?_, ?_, e2⟩
            · rw [e1]
              exact HT2.out.bad i hi' _ (HKU.out.1) (HKU.out.2) rfl
            · exact (Below.heap_setCell _ _ _ _ (by show w.heap.size ≠ bl i; omega)).trans HI2.out
            · exact HB2.out.setCell (HT0.out.each i HI3.out).1 _
            · exact fun g hg1 hg3 => (Below.heap_setCell _ _ _ _ (fun e => hg3 i HI3.out e.symm)).trans (HA2.out g hg1 hg3)
          have HZ : Hid (seenSize (w2.setCell ⟨bl i, 1, none⟩ (.bool false)) w.heap.size = (S ++ [i]).length) := Lib.hid HS3.out.2.1.size
          rw [hf]
          clear hf
          have hfl2 : (S.filter (hitAt f L)).length < 1099511627776 := by
            have hfl := List.length_filter_le (hitAt f L) S
            have hsl := HS2.out.2.2
            rw [List.length_append, List.length_singleton] at hsl
            omega
          go_wp2
          obtain ⟨x1, x2, x3, x4, x5⟩ := HS3.out
          refine ⟨⟨S ++ [i], HS2.out.1, HS2.out.2.1, by rw [x5]; go_num, x1, x2, x3, x4⟩, ?_⟩
          rw [HZ.out, ← HSZ.out.2]
          exact HSZ.out.1
        · have hf' : f ky = false := by cases h : f ky <;> simp_all
          rw [hf']
          clear hf
          go_wp2
          obtain ⟨e1, e2⟩ := HHG.out.1 (by rw [hf']; rfl)
          refine ⟨⟨S ++ [i], HS2.out.1, HS2.out.2.1, by rw [e2], by rw [e1]; exact HT2.out, HI2.out, HB2.out, HA2.out⟩, HSZ.out.1⟩
def inB (s : ByteArray) (ss : List ByteArray) : Bool := ss.any fun x => decide (s = x)
theorem inB_iff (s : ByteArray) (ss : List ByteArray) : inB s ss = true ↔ s ∈ ss := by unfold inB; simp
set_option maxHeartbeats 1000000 in
theorem clear_any (w : World) (base T M : Nat) (L : List TkS) (bl : Nat → Nat) (h : Tok w base T M L bl) (hlen : L.length < 1099511627776) :
    Calls Try.prog 18 #[.pointer (some ⟨T, 0, none⟩)] w fun e w' => e = .returned (.int .i64 ((L.filter (hit fun _ => true)).length : Int)) ∧ Tok w' base T M (L.map (hurt1 fun _ => true)) bl ∧ Below base w w' := by
  have HX := Lib.hid (killc_any w base T M L bl h hlen (fun _ => true) (fun wr s _ => cleared_any s wr))
  clear h
  go_enter Try.func18, Try.ntmps18
  go_wp2_with fail
  refine HX.out.mono ?_
  rintro e w' ⟨rfl, h1, h2, _⟩
  have H1 := Lib.hid h1
  clear h1
  go_wp2
  go_ret
  exact ⟨rfl, H1.out, h2⟩
set_option maxHeartbeats 1000000 in
theorem kills_any (w : World) (base T M : Nat) (L : List TkS) (bl : Nat → Nat) (h : Tok w base T M L bl) (hlen : L.length < 1099511627776) (A : Option Addr) (n c : Nat) (ss : List ByteArray) (hr : Sl w A (ss.map .string)) (hn : ss.length = n) (hm : n ≤ 9223372036854775807)
    (hA : ∀ a, A = some a → a.block < w.heap.size ∧ ∀ j, j < L.length → bl j ≠ a.block) :
    Calls Try.prog 9 #[.pointer (some ⟨T, 0, none⟩), .slice A n c] w fun e w' => e = .returned (.int .i64 ((L.filter (hit fun s => inB s ss)).length : Int)) ∧ Tok w' base T M (L.map (hurt1 fun s => inB s ss)) bl ∧ Below base w w' := by
  have hb := h.bl_ne
  have hcell : (w.alloc (.cells #[.slice A n c] 34)).cell? ⟨w.heap.size, 0, none⟩ = some (.slice A n c) := (Blk.new w 34 #[.slice A n c]).cell 0
  have HX := Lib.hid (kill_any (w.alloc (.cells #[.slice A n c] 34)) base T M L bl (h.alloc _) hlen (fun s => inB s ss) ⟨w.heap.size, 0, none⟩ (fun wr s ha => by
    have hc : wr.cell? ⟨w.heap.size, 0, none⟩ = some (.slice A n c) := by
      have := ha w.heap.size (by simp) (fun j hj e => by have := (hb.2 j hj).2.2; omega)
      unfold World.cell?
      unfold World.cell? at hcell
      rw [this]
      exact hcell
    have hs : Sl wr A (ss.map .string) := by
      intro hne
      obtain ⟨b, off, rfl, hcs⟩ := hr hne
      refine ⟨b, off, rfl, fun j u hu => ?_⟩
      obtain ⟨h1, h2⟩ := hA _ rfl
      have := ha b (by simp; exact Nat.lt_succ_of_lt h1) (fun j hj => h2 j hj)
      have h0 := hcs j u hu
      unfold World.cell? at h0 ⊢
      rw [this, Below.heap_alloc _ _ _ h1]
      exact h0
    exact (killed_any ⟨w.heap.size, 0, none⟩ A n c ss s wr hc hs hn hm).mono (by
      rintro e w' ⟨b, rfl, hb2, rfl⟩
      refine ⟨?_, rfl⟩
      congr 2
      rw [Bool.eq_iff_iff, hb2, inB_iff])))
  have hbase := h.above
  clear h hr hb hA
  go_enter Try.func9, Try.ntmps9
  go_wp2_with fail
  refine HX.out.mono ?_
  rintro e w' ⟨rfl, h1, h2, _⟩
  have H1 := Lib.hid h1
  have H2 := Lib.hid (((Below.refl base w).alloc hbase (.cells #[.slice A n c] 34)).trans h2)
  clear h1
  go_wp2
  go_ret
  exact ⟨rfl, H1.out, H2.out⟩
end Go.Proofs.Ytcghoaijflekhaa
