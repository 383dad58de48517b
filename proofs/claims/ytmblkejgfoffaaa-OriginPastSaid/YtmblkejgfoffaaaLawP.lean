/- The law OriginPast: its walk. No condition. -/
import Derived.Test.YtmblkejgfoffaaaLaws
namespace Go.Proofs.Ytmblkejgfoffaaa
open Go.RowKit
section
variable {P : Program} (w : World)
theorem run_append_nilN (base : Nat) (t ty e : TypeId) (i : TypeInfo) (size : Nat) (ht : P.underlying t = some (.slice e)) (hi : P.info? e = some i)
    (v : Value) (n : Nat) (xs : List Value) (hown : w.ownsRow base e size v n xs) (c : Nat) : (Builtin.append_ #[t, t] ty #[v, .slice none 0 c]).run P w = .ok v w := by
  rcases hown.2 with ⟨rfl, rfl⟩ | ⟨g, cap, cur, rfl, _, _, hnc, _⟩
  · simp [Builtin.append_, run_underlying ht, sizeOf, typeInfo, hi, Builtin.lenOf, Builtin.firstCells]
  · simp [Builtin.append_, run_underlying ht, sizeOf, typeInfo, hi, Builtin.lenOf, Builtin.firstCells, hnc, storeCells]
theorem run_append_slN (base : Nat) (t ty e : TypeId) (i : TypeInfo) (z : Value) (size bytes : Nat) (ht : P.underlying t = some (.slice e)) (hi : P.info? e = some i) (hz : i.zero = some z)
    (hsize : i.size = size) (hby : i.bytes = bytes) (hzs : z.cells.size = size) (hs0 : 0 < size)
    (v : Value) (n : Nat) (xs : List Value) (hown : w.ownsRow base e size v n xs)
    (A : Option Addr) (m c : Nat) (news : List Value) (hm : news.length = m * size) (hr : Sl w A news) (h1 : ∀ u ∈ news, u.oneCell' = true)
    (h63 : n + m ≤ maxLen) (hbytes : (n + m) * bytes ≤ 140737488355328) (hbase : base ≤ w.heap.size) :
    ∃ v' w', (Builtin.append_ #[t, t] ty #[v, .slice A m c]).run P w = .ok v' w' ∧ w'.ownsRow base e size v' (n + m) (xs ++ news) ∧ w.grownBy w' v.ownBlock := by
  rcases A with _ | ad
  · have hn : news = [] := by
      rcases news with _ | ⟨x, l⟩
      · rfl
      · obtain ⟨b, off, h, _⟩ := hr (by simp)
        cases h
    subst hn
    have hm0 : m = 0 := by
      rcases Nat.eq_zero_or_pos m with h | h
      · exact h
      · have := Nat.mul_pos h hs0
        simp at hm
        omega
    subst hm0
    exact ⟨v, w, run_append_nilN w base t ty e i size ht hi v n xs hown c, by simpa using hown, World.grownBy.refl w _⟩
  · have hcells : ∀ j u, news[j]? = some u → w.cell? (ad.add j) = some u := by
      intro j u hu
      obtain ⟨b, off, h, hc⟩ := hr (by intro e; subst e; simp at hu)
      injection h with h
      subst h
      have := hc j u hu
      by_cases hj : j = 0
      · subst hj; simpa [Addr.add] using this
      · simpa [Addr.add, hj] using this
    obtain ⟨v', w', hrun, h2, h3, _⟩ := run_append_own (P := P) w base t ty e i z size bytes ht hi hz hsize hby hzs hs0 v n xs hown ad m c news hm hcells h1 h63 hbytes hbase
    exact ⟨v', w', hrun, h2, h3⟩
theorem wpList_append_slN {ops : Array Oper} {rest : List Oper} {o : Oper} {a : Act} {Q : Exit → Act → World → Prop} (hgd : o.guard = none) (s x : Operand) (t : TypeId)
    (ho : o.op = .call { callee := .builtin .append, args := #[s, x], argTypes := #[t, t] })
    (base : Nat) (e : TypeId) (i : TypeInfo) (z : Value) (size bytes : Nat) (ht : P.underlying t = some (.slice e)) (hi : P.info? e = some i) (hz : i.zero = some z)
    (hsize : i.size = size) (hby : i.bytes = bytes) (hzs : z.cells.size = size) (hs0 : 0 < size)
    (v : Value) (n : Nat) (xs : List Value) (hs : a.eval s = v) (hown : w.ownsRow base e size v n xs)
    (A : Option Addr) (m c : Nat) (news : List Value) (hx : a.eval x = .slice A m c) (hm : news.length = m * size) (hr : Sl w A news) (h1 : ∀ u ∈ news, u.oneCell' = true)
    (h63 : n + m ≤ maxLen) (hbytes : (n + m) * bytes ≤ 140737488355328) (hbase : base ≤ w.heap.size)
    (h : ∀ v' w', w'.ownsRow base e size v' (n + m) (xs ++ news) → w.grownBy w' v.ownBlock → wpList P ops Q rest (a.put o.dst v') w') : wpList P ops Q (o :: rest) a w :=
  wpList_plain hgd fun K hK => by
    obtain ⟨v', w', hrun, h2, h3⟩ := run_append_slN (P := P) w base t o.type e i z size bytes ht hi hz hsize hby hzs hs0 v n xs hown A m c news hm hr h1 h63 hbytes hbase
    unfold Oper.wp execOp
    simp only [ho, resolve, invoke, builtin, Sem.run_bind, Sem.run_pure, Result.andThen_ok, List.map_toArray, List.map_cons, List.map_nil, hs, hx, hrun]
    exact hK _ _ (h v' w' h2 h3)
end
theorem cells_one (L : List St) : ∀ u ∈ L.flatMap St.cells, u.oneCell' = true := by
  intro u hu
  obtain ⟨s, _, h⟩ := List.mem_flatMap.1 hu
  unfold St.cells at h
  simp at h
  rcases h with rfl | rfl | rfl <;> rfl
set_option maxHeartbeats 4000000 in
theorem past_in (w : World) (A : Option Addr) (n c : Nat) (L : List St) (hn : L.length = n) (hm : n ≤ 9223372036854775807) (hs : Sl w A (L.flatMap St.cells)) (hz : ∀ s ∈ L, s.key.size ≤ maxLen ∧ s.val.size ≤ maxLen)
    (A' : Option Addr) (n' c' : Nat) (L' : List St) (hn' : L'.length = n') (hm' : n' ≤ 9223372036854775807) (hs' : Sl w A' (L'.flatMap St.cells)) (hz' : ∀ s ∈ L', s.key.size ≤ maxLen ∧ s.val.size ≤ maxLen) (k : ByteArray) :
    Calls Try.prog 7 #[.slice A n c, .slice A' n' c', .string k] w fun e w' => e = .returned (.bool true) ∧ Below w.heap.size w w' := by
  obtain ⟨i0, hi, hz0, hz1, hz2⟩ := info_parts info55
  have HI0 := Lib.hid (And.intro hi (And.intro hz0 (And.intro hz1 hz2)))
  clear hi hz0 hz1 hz2
  have HS := Lib.hid hs
  have HZ := Lib.hid hz
  have HN := Lib.hid hn
  have HS' := Lib.hid hs'
  have HZ' := Lib.hid hz'
  have HN' := Lib.hid hn'
  clear hs hz hn hs' hz' hn'
  by_cases hk : 20 < k.size
  all_goals
    have hk2 : (20 : Int) < (k.size : Int) ∨ ¬ (20 : Int) < (k.size : Int) := Classical.em _
    go_enter Try.func7, Try.ntmps7
    go_wp2_with fail
    refine (begun_any w).mono ?_
    rintro e w1 ⟨rfl, hb1⟩
    have HB1 := Lib.hid hb1
    clear hb1
    go_wp2_with fail
    refine (cutl_sl w1 A n c 15 L HN.out hm (by omega) (HS.out.keep HB1.out) HZ.out).mono ?_
    rintro e w2 ⟨A2, c2, rfl, hs2, hb2⟩
    have HS2 := Lib.hid hs2
    have HB2 := Lib.hid (HB1.out.trans (hb2.mono HB1.out.size))
    clear hs2 hb2
    go_wp2_with fail
    refine (cutl_sl w2 A' n' c' 10 L' HN'.out hm' (by omega) (HS'.out.keep HB2.out) HZ'.out).mono ?_
    rintro e w3 ⟨A3, c3, rfl, hs3, hb3⟩
    have HS3 := Lib.hid hs3
    have HS23 := Lib.hid (HS2.out.keep hb3)
    have HB3 := Lib.hid (HB2.out.trans (hb3.mono HB2.out.size))
    clear hs3 hb3
  · go_wp2
    go_ret
    exact ⟨rfl, HB3.out⟩
  · clear hk2
    have hk3 : ¬ (20 : Int) < (k.size : Int) := by omega
    have hq1 : (cutL (min n 15) L).length ≤ 15 := Nat.le_trans (cutL_len _ _) (Nat.min_le_right _ _)
    have hq2 : (cutL (min n' 10) L').length ≤ 10 := Nat.le_trans (cutL_len _ _) (Nat.min_le_right _ _)
    have HNR : Hid (∀ s ∈ cutL (min n 15) L ++ cutL (min n' 10) L', norm s = s) := Lib.hid (by
      intro s hs
      have key : ∀ (a : Nat) (Z : List St), s ∈ cutL a Z → norm s = s := by
        intro a Z h
        unfold cutL at h
        obtain ⟨x, _, rfl⟩ := List.mem_map.1 h
        unfold cut1 norm
        cases x.has <;> rfl
      rcases List.mem_append.1 hs with h | h
      · exact key _ _ h
      · exact key _ _ h)
    generalize cutL (min n 15) L = Q at *
    generalize cutL (min n' 10) L' = R at *
    have HM1 : Hid (Q.map norm = Q) := Lib.hid (by
      conv => rhs; rw [← List.map_id Q]
      exact List.map_congr_left (fun s hs => HNR.out s (by simp [hs])))
    have HM2 : Hid ((Q ++ R).map norm = Q ++ R) := Lib.hid (by
      conv => rhs; rw [← List.map_id (Q ++ R)]
      exact List.map_congr_left (fun s hs => HNR.out s hs))
    go_wp2_with fail
    refine (made_any w3 A2 Q.length c2 Q rfl (by omega) HS23.out).mono ?_
    rw [HM1.out]
    rintro e w4 ⟨O, M, rfl, ho4, hb4⟩
    have HO4 := Lib.hid (ho4.low HB3.out.size)
    have HB4 := Lib.hid (HB3.out.trans (hb4.mono HB3.out.size))
    have HS24 := Lib.hid (HS23.out.keep hb4)
    have HS34 := Lib.hid (HS3.out.keep hb4)
    clear ho4 hb4 HS23 HS3 HS2
    have hbase4 := HB4.out.size
    go_wp2_with (at_builtin; refine wpList_append_slN _ rfl (.const (.slice none 0 0)) (.tmp 27) 22 rfl w4.heap.size 55 i0 _ 3 40 Try.underlying22 HI0.out.1 HI0.out.2.1 HI0.out.2.2.1 HI0.out.2.2.2 rfl (by decide) (.slice none 0 0) 0 [] rfl (World.ownsRow_nil _ _ _ _) A2 Q.length c2 _ rfl (flat_length (C := 3) (fun _ => rfl) Q) HS24.out (cells_one Q) ?c1 ?c2 ?c3 ?_)
    case c1 => unfold maxLen; omega
    case c2 => omega
    case c3 => exact Nat.le_refl _
    intro v5 w5 hown5 hg5
    have HO5 := Lib.hid hown5
    have HB5 : Hid (Below w4.heap.size w4 w5) := Lib.hid ((Below.refl _ _).grown hg5 (Nat.le_refl _) (by simp [Value.ownBlock]))
    have HS35 := Lib.hid (HS34.out.keep HB5.out)
    have hsz5 := HB5.out.size
    clear hown5 hg5
    go_wp2_with (at_builtin; refine wpList_append_slN _ rfl (.tmp 28) (.tmp 29) 22 rfl w4.heap.size 55 i0 _ 3 40 Try.underlying22 HI0.out.1 HI0.out.2.1 HI0.out.2.2.1 HI0.out.2.2.2 rfl (by decide) v5 Q.length (Q.flatMap St.cells) rfl HO5.out A3 R.length c3 _ rfl (flat_length (C := 3) (fun _ => rfl) R) HS35.out (cells_one R) ?c1 ?c2 ?c3 ?_)
    case c1 => unfold maxLen; omega
    case c2 => omega
    case c3 => exact hsz5
    intro v6 w6 hown6 hg6
    have HO6 : Hid (w6.ownsRow w4.heap.size 55 3 v6 (Q ++ R).length ((Q ++ R).flatMap St.cells)) := Lib.hid (by
      rw [List.length_append, List.flatMap_append]
      simpa using hown6)
    have HB6 : Hid (Below w4.heap.size w4 w6) := Lib.hid (HB5.out.grown hg6 hsz5 (fun g hg => (HO5.out.lt g hg).1))
    clear hown6 hg6
    obtain ⟨A6, c6, rfl, _, _, hs6, _⟩ := own_flat (C := 3) HO6.out
    have HS6 := Lib.hid hs6
    clear hs6
    have hqr : Q.length + R.length ≤ 1000 := by omega
    go_wp2_with fail
    refine (made_any w6 A6 (Q.length + R.length) c6 (Q ++ R) (by rw [List.length_append]) hqr HS6.out).mono ?_
    rw [HM2.out]
    rintro e w7 ⟨O', M', rfl, ho7, hb7⟩
    have HP7 := Lib.hid ho7
    have HO7 := Lib.hid ((HO4.out.below HB6.out).below hb7)
    have HB7 := Lib.hid ((HB4.out.trans (HB6.out.mono hbase4)).trans (hb7.mono (Nat.le_trans hbase4 HB6.out.size)))
    clear ho7 hb7
    go_wp2
    go_loopw [10] (fun i wr => ∃ (j q : Nat), j ≤ Q.length + 1 ∧ i = .int .i64 j ∧ wr = w7.drewN q) (fun i _ => (Q.length + 1 - (intOf i).toNat))
    case atStart => exact ⟨0, 0, by omega, rfl, rfl⟩
    case round =>
      obtain ⟨j, q, hj, rfl, rfl⟩ := hrel
      by_cases hle : j ≤ Q.length
      · have hle2 : (j : Int) ≤ (Q.length : Int) := by omega
        have HE : Hid (atF (Q ++ R) (j : Int) k = atF Q (j : Int) k) := Lib.hid (by
          unfold atF
          rw [if_neg (by rw [List.length_append]; omega), if_neg (by omega)]
          exact atS_append_le Q R k _ (by omega))
        go_wp2_with fail
        refine (at_any (w7.drewN q) w.heap.size O M Q (HO7.out.drewN _) (by omega) (j : Int) k).mono ?_
        rintro e w8 ⟨rfl, n8, rfl⟩
        go_wp2_with fail
        refine (at_any (w7.drewN _) w6.heap.size O' M' (Q ++ R) (HP7.out.drewN _) (by rw [List.length_append]; omega) (j : Int) k).mono ?_
        rw [HE.out]
        rintro e w9 ⟨rfl, n9, rfl⟩
        generalize atF Q (j : Int) k = r0
        obtain ⟨v0, h0⟩ := r0
        have hbb : (h0 != h0) = false := by cases h0 <;> rfl
        go_wp2
        exact ⟨⟨j + 1, _, by omega, by go_num, rfl⟩, by simp [intOf]; omega⟩
      · have hle2 : ¬ (j : Int) ≤ (Q.length : Int) := by omega
        go_wp2
        go_ret
        exact ⟨rfl, below_drewN HB7.out _⟩
theorem originPast.walk (w : World) (A : Option Addr) (n c : Nat) (L : List St) (h : L.length = n ∧ n ≤ c ∧ c ≤ maxLen ∧ (∀ o ∈ L, o.key.size ≤ maxLen ∧ o.val.size ≤ maxLen) ∧ Sl w A (L.flatMap St.cells))
    (A' : Option Addr) (n' c' : Nat) (L' : List St) (h' : L'.length = n' ∧ n' ≤ c' ∧ c' ≤ maxLen ∧ (∀ o ∈ L', o.key.size ≤ maxLen ∧ o.val.size ≤ maxLen) ∧ Sl w A' (L'.flatMap St.cells)) (k : ByteArray) (_ : k.size ≤ maxLen) :
    Calls Try.prog 7 #[.slice A n c, .slice A' n' c', .string k] w fun e w' => e = .returned (.bool true) ∧ Below w.heap.size w w' := by
  obtain ⟨h1, h2, h3, h4, h5⟩ := h
  obtain ⟨h1', h2', h3', h4', h5'⟩ := h'
  exact past_in w A n c L h1 (by unfold maxLen at h3; omega) h5 h4 A' n' c' L' h1' (by unfold maxLen at h3'; omega) h5' h4' k
end Go.Proofs.Ytmblkejgfoffaaa
