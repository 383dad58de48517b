/- The reference's Held; openers; the laws' beginning. Conditions: lengths. -/
import Derived.Test.YtmblkejgfoffaaaHeld
import Derived.Test.YtmblkejgfoffaaaMade
import Derived.Test.YtmblkejgfoffaaaCutL
namespace Go.Proofs.Ytmblkejgfoffaaa
open Go.RowKit Go.ChangeShapes Go.WideShapes
/-- what the reference's Held leaves -/
def HeldPost (H : Prop) (w : World) (e : Ending) (w' : World) : Prop := ∃ r : Bool, e = .returned (.bool r) ∧ (r = true ↔ H) ∧ ∃ q, w' = w.drewN q
set_option maxHeartbeats 8000000 in
theorem rheld_a (w : World) (A : Option Addr) (c : Nat) (L : List St) (hm : L.length ≤ 1000) (hs : Sl w A (L.flatMap St.cells)) (k v : ByteArray) (hb : Bool) (x : Nat) (hx : 0 < x) (b : Int) (h2 : b ≤ (L.length : Int)) :
    Calls Try.prog 19 #[.slice A L.length c, .string k, .string v, .bool hb, .int .i64 (x : Int), .int .i64 b] w (HeldPost (HeldF L k v hb (x : Int) b) w) := by
  have HS := Lib.hid hs
  clear hs
  have hx0 : (0 : Int) < (x : Int) := by omega
  go_enter Try.func19, Try.ntmps19
  go_wp2
  go_loopw [13] (fun i wr => ∃ (p q : Nat), x ≤ p ∧ p ≤ x + L.length + 1 ∧ (p = x ∨ p ≤ L.length + 1) ∧ i = .int .i64 p ∧ (∀ j, x ≤ j → j < p → atS L j k ≠ (v, hb)) ∧ wr = w.drewN q) (fun i _ => L.length + 1 - (intOf i).toNat)
  case atStart => exact ⟨x, 0, Nat.le_refl _, by omega, .inl rfl, rfl, fun j h1 h2 => by omega, rfl⟩
  case round =>
    obtain ⟨p, q, hp1, hp2, hp3, rfl, hno, rfl⟩ := hrel
    have HNO := Lib.hid hno
    clear hno
    by_cases hle : (p : Int) ≤ b
    · have HAT : Hid (atF L (p : Int) k = atS L p k) := Lib.hid (by unfold atF; rw [if_neg (by omega)]; rfl)
      have hpl : p ≤ L.length := by omega
      go_wp2_with fail
      refine (rat_any (w.drewN q) A L.length c L rfl (by omega) (HS.out) (p : Int) k).mono ?_
      rw [HAT.out]
      rintro e w2 ⟨rfl, n2, rfl⟩
      obtain ⟨r0, hr0⟩ : ∃ r0, atS L p k = r0 := ⟨_, rfl⟩
      have HR0 := Lib.hid hr0
      rw [hr0]
      clear hr0
      obtain ⟨v0, h0⟩ := r0
      by_cases hv : v0 = v ∧ h0 = hb
      · obtain ⟨rfl, rfl⟩ := hv
        have HY : Hid (HeldF L k v0 h0 (x : Int) b) := Lib.hid ⟨p, by omega, by omega, by omega, hpl, HR0.out⟩
        have hbb : (h0 == h0) = true := by cases h0 <;> rfl
        go_wp2
        go_ret
        exact ⟨true, rfl, by simp; exact HY.out, _, rfl⟩
      · have HN2 : Hid (∀ j, x ≤ j → j < p + 1 → atS L j k ≠ (v, hb)) := Lib.hid (fun j h1 h2 => by
          by_cases hj : j = p
          · rw [hj, HR0.out]
            exact fun e => hv ⟨congrArg Prod.fst e, congrArg Prod.snd e⟩
          · exact HNO.out j h1 (by omega))
        have hcs : ((h0 == hb) = false) ∨ ((h0 == hb) = true ∧ (v0.toList == v.toList) = false) := by
          by_cases h1 : h0 = hb
          · right
            refine ⟨by rw [h1]; cases hb <;> rfl, ?_⟩
            rw [beq_eq_false_iff_ne]
            exact fun e => hv ⟨toList_inj e, h1⟩
          · left
            cases h0 <;> cases hb <;> simp_all
        clear hv
        rcases hcs with h5 | ⟨h5, h6⟩
        all_goals
          go_wp2
          exact ⟨⟨p + 1, _, by omega, by omega, .inr (by omega), by go_num, HN2.out, rfl⟩, by simp [intOf]; omega⟩
    · have HNH : Hid (¬ HeldF L k v hb (x : Int) b) := Lib.hid (by
        rintro ⟨j, h0, h1, h2, h3, h4⟩
        exact HNO.out j (by omega) (by omega) h4)
      go_wp2
      go_ret
      exact ⟨false, rfl, by simp; exact HNH.out, _, rfl⟩
set_option maxHeartbeats 8000000 in
theorem rheld_b (w : World) (A : Option Addr) (c : Nat) (L : List St) (hm : L.length ≤ 1000) (hs : Sl w A (L.flatMap St.cells)) (k v : ByteArray) (hb : Bool) (a : Int) (b : Int) (h1 : a < 0) (h2 : b ≤ (L.length : Int)) :
    Calls Try.prog 19 #[.slice A L.length c, .string k, .string v, .bool hb, .int .i64 a, .int .i64 b] w (HeldPost (HeldF L k v hb a b) w) := by
  have HS := Lib.hid hs
  clear hs
  go_enter Try.func19, Try.ntmps19
  go_wp2
  go_loopw [13] (fun i wr => ∃ (p q : Nat), 0 ≤ p ∧ p ≤ 0 + L.length + 1 ∧ (p = 0 ∨ p ≤ L.length + 1) ∧ i = .int .i64 p ∧ (∀ j, 0 ≤ j → j < p → atS L j k ≠ (v, hb)) ∧ wr = w.drewN q) (fun i _ => L.length + 1 - (intOf i).toNat)
  case atStart => exact ⟨0, 0, Nat.le_refl _, by omega, .inl rfl, rfl, fun j h1 h2 => by omega, rfl⟩
  case round =>
    obtain ⟨p, q, hp1, hp2, hp3, rfl, hno, rfl⟩ := hrel
    have HNO := Lib.hid hno
    clear hno
    by_cases hle : (p : Int) ≤ b
    · have HAT : Hid (atF L (p : Int) k = atS L p k) := Lib.hid (by unfold atF; rw [if_neg (by omega)]; rfl)
      have hpl : p ≤ L.length := by omega
      go_wp2_with fail
      refine (rat_any (w.drewN q) A L.length c L rfl (by omega) (HS.out) (p : Int) k).mono ?_
      rw [HAT.out]
      rintro e w2 ⟨rfl, n2, rfl⟩
      obtain ⟨r0, hr0⟩ : ∃ r0, atS L p k = r0 := ⟨_, rfl⟩
      have HR0 := Lib.hid hr0
      rw [hr0]
      clear hr0
      obtain ⟨v0, h0⟩ := r0
      by_cases hv : v0 = v ∧ h0 = hb
      · obtain ⟨rfl, rfl⟩ := hv
        have HY : Hid (HeldF L k v0 h0 a b) := Lib.hid ⟨p, by omega, by omega, by omega, hpl, HR0.out⟩
        have hbb : (h0 == h0) = true := by cases h0 <;> rfl
        go_wp2
        go_ret
        exact ⟨true, rfl, by simp; exact HY.out, _, rfl⟩
      · have HN2 : Hid (∀ j, 0 ≤ j → j < p + 1 → atS L j k ≠ (v, hb)) := Lib.hid (fun j h1 h2 => by
          by_cases hj : j = p
          · rw [hj, HR0.out]
            exact fun e => hv ⟨congrArg Prod.fst e, congrArg Prod.snd e⟩
          · exact HNO.out j h1 (by omega))
        have hcs : ((h0 == hb) = false) ∨ ((h0 == hb) = true ∧ (v0.toList == v.toList) = false) := by
          by_cases h1 : h0 = hb
          · right
            refine ⟨by rw [h1]; cases hb <;> rfl, ?_⟩
            rw [beq_eq_false_iff_ne]
            exact fun e => hv ⟨toList_inj e, h1⟩
          · left
            cases h0 <;> cases hb <;> simp_all
        clear hv
        rcases hcs with h5 | ⟨h5, h6⟩
        all_goals
          go_wp2
          exact ⟨⟨p + 1, _, by omega, by omega, .inr (by omega), by go_num, HN2.out, rfl⟩, by simp [intOf]; omega⟩
    · have HNH : Hid (¬ HeldF L k v hb a b) := Lib.hid (by
        rintro ⟨j, h0, h1, h2, h3, h4⟩
        exact HNO.out j (by omega) (by omega) h4)
      go_wp2
      go_ret
      exact ⟨false, rfl, by simp; exact HNH.out, _, rfl⟩
set_option maxHeartbeats 8000000 in
theorem rheld_c (w : World) (A : Option Addr) (c : Nat) (L : List St) (hm : L.length ≤ 1000) (hs : Sl w A (L.flatMap St.cells)) (k v : ByteArray) (hb : Bool) (x : Nat) (hx : 0 < x) (b : Int) (h2 : (L.length : Int) < b) :
    Calls Try.prog 19 #[.slice A L.length c, .string k, .string v, .bool hb, .int .i64 (x : Int), .int .i64 b] w (HeldPost (HeldF L k v hb (x : Int) b) w) := by
  have HS := Lib.hid hs
  clear hs
  have hx0 : (0 : Int) < (x : Int) := by omega
  go_enter Try.func19, Try.ntmps19
  go_wp2
  go_loopw [13] (fun i wr => ∃ (p q : Nat), x ≤ p ∧ p ≤ x + L.length + 1 ∧ (p = x ∨ p ≤ L.length + 1) ∧ i = .int .i64 p ∧ (∀ j, x ≤ j → j < p → atS L j k ≠ (v, hb)) ∧ wr = w.drewN q) (fun i _ => L.length + 1 - (intOf i).toNat)
  case atStart => exact ⟨x, 0, Nat.le_refl _, by omega, .inl rfl, rfl, fun j h1 h2 => by omega, rfl⟩
  case round =>
    obtain ⟨p, q, hp1, hp2, hp3, rfl, hno, rfl⟩ := hrel
    have HNO := Lib.hid hno
    clear hno
    by_cases hle : (p : Int) ≤ (L.length : Int)
    · have HAT : Hid (atF L (p : Int) k = atS L p k) := Lib.hid (by unfold atF; rw [if_neg (by omega)]; rfl)
      have hpl : p ≤ L.length := by omega
      go_wp2_with fail
      refine (rat_any (w.drewN q) A L.length c L rfl (by omega) (HS.out) (p : Int) k).mono ?_
      rw [HAT.out]
      rintro e w2 ⟨rfl, n2, rfl⟩
      obtain ⟨r0, hr0⟩ : ∃ r0, atS L p k = r0 := ⟨_, rfl⟩
      have HR0 := Lib.hid hr0
      rw [hr0]
      clear hr0
      obtain ⟨v0, h0⟩ := r0
      by_cases hv : v0 = v ∧ h0 = hb
      · obtain ⟨rfl, rfl⟩ := hv
        have HY : Hid (HeldF L k v0 h0 (x : Int) b) := Lib.hid ⟨p, by omega, by omega, by omega, hpl, HR0.out⟩
        have hbb : (h0 == h0) = true := by cases h0 <;> rfl
        go_wp2
        go_ret
        exact ⟨true, rfl, by simp; exact HY.out, _, rfl⟩
      · have HN2 : Hid (∀ j, x ≤ j → j < p + 1 → atS L j k ≠ (v, hb)) := Lib.hid (fun j h1 h2 => by
          by_cases hj : j = p
          · rw [hj, HR0.out]
            exact fun e => hv ⟨congrArg Prod.fst e, congrArg Prod.snd e⟩
          · exact HNO.out j h1 (by omega))
        have hcs : ((h0 == hb) = false) ∨ ((h0 == hb) = true ∧ (v0.toList == v.toList) = false) := by
          by_cases h1 : h0 = hb
          · right
            refine ⟨by rw [h1]; cases hb <;> rfl, ?_⟩
            rw [beq_eq_false_iff_ne]
            exact fun e => hv ⟨toList_inj e, h1⟩
          · left
            cases h0 <;> cases hb <;> simp_all
        clear hv
        rcases hcs with h5 | ⟨h5, h6⟩
        all_goals
          go_wp2
          exact ⟨⟨p + 1, _, by omega, by omega, .inr (by omega), by go_num, HN2.out, rfl⟩, by simp [intOf]; omega⟩
    · have HNH : Hid (¬ HeldF L k v hb (x : Int) b) := Lib.hid (by
        rintro ⟨j, h0, h1, h2, h3, h4⟩
        exact HNO.out j (by omega) (by omega) h4)
      go_wp2
      go_ret
      exact ⟨false, rfl, by simp; exact HNH.out, _, rfl⟩
set_option maxHeartbeats 8000000 in
theorem rheld_d (w : World) (A : Option Addr) (c : Nat) (L : List St) (hm : L.length ≤ 1000) (hs : Sl w A (L.flatMap St.cells)) (k v : ByteArray) (hb : Bool) (a : Int) (b : Int) (h1 : a < 0) (h2 : (L.length : Int) < b) :
    Calls Try.prog 19 #[.slice A L.length c, .string k, .string v, .bool hb, .int .i64 a, .int .i64 b] w (HeldPost (HeldF L k v hb a b) w) := by
  have HS := Lib.hid hs
  clear hs
  go_enter Try.func19, Try.ntmps19
  go_wp2
  go_loopw [13] (fun i wr => ∃ (p q : Nat), 0 ≤ p ∧ p ≤ 0 + L.length + 1 ∧ (p = 0 ∨ p ≤ L.length + 1) ∧ i = .int .i64 p ∧ (∀ j, 0 ≤ j → j < p → atS L j k ≠ (v, hb)) ∧ wr = w.drewN q) (fun i _ => L.length + 1 - (intOf i).toNat)
  case atStart => exact ⟨0, 0, Nat.le_refl _, by omega, .inl rfl, rfl, fun j h1 h2 => by omega, rfl⟩
  case round =>
    obtain ⟨p, q, hp1, hp2, hp3, rfl, hno, rfl⟩ := hrel
    have HNO := Lib.hid hno
    clear hno
    by_cases hle : (p : Int) ≤ (L.length : Int)
    · have HAT : Hid (atF L (p : Int) k = atS L p k) := Lib.hid (by unfold atF; rw [if_neg (by omega)]; rfl)
      have hpl : p ≤ L.length := by omega
      go_wp2_with fail
      refine (rat_any (w.drewN q) A L.length c L rfl (by omega) (HS.out) (p : Int) k).mono ?_
      rw [HAT.out]
      rintro e w2 ⟨rfl, n2, rfl⟩
      obtain ⟨r0, hr0⟩ : ∃ r0, atS L p k = r0 := ⟨_, rfl⟩
      have HR0 := Lib.hid hr0
      rw [hr0]
      clear hr0
      obtain ⟨v0, h0⟩ := r0
      by_cases hv : v0 = v ∧ h0 = hb
      · obtain ⟨rfl, rfl⟩ := hv
        have HY : Hid (HeldF L k v0 h0 a b) := Lib.hid ⟨p, by omega, by omega, by omega, hpl, HR0.out⟩
        have hbb : (h0 == h0) = true := by cases h0 <;> rfl
        go_wp2
        go_ret
        exact ⟨true, rfl, by simp; exact HY.out, _, rfl⟩
      · have HN2 : Hid (∀ j, 0 ≤ j → j < p + 1 → atS L j k ≠ (v, hb)) := Lib.hid (fun j h1 h2 => by
          by_cases hj : j = p
          · rw [hj, HR0.out]
            exact fun e => hv ⟨congrArg Prod.fst e, congrArg Prod.snd e⟩
          · exact HNO.out j h1 (by omega))
        have hcs : ((h0 == hb) = false) ∨ ((h0 == hb) = true ∧ (v0.toList == v.toList) = false) := by
          by_cases h1 : h0 = hb
          · right
            refine ⟨by rw [h1]; cases hb <;> rfl, ?_⟩
            rw [beq_eq_false_iff_ne]
            exact fun e => hv ⟨toList_inj e, h1⟩
          · left
            cases h0 <;> cases hb <;> simp_all
        clear hv
        rcases hcs with h5 | ⟨h5, h6⟩
        all_goals
          go_wp2
          exact ⟨⟨p + 1, _, by omega, by omega, .inr (by omega), by go_num, HN2.out, rfl⟩, by simp [intOf]; omega⟩
    · have HNH : Hid (¬ HeldF L k v hb a b) := Lib.hid (by
        rintro ⟨j, h0, h1, h2, h3, h4⟩
        exact HNO.out j (by omega) (by omega) h4)
      go_wp2
      go_ret
      exact ⟨false, rfl, by simp; exact HNH.out, _, rfl⟩
set_option maxHeartbeats 8000000 in
theorem rheld_e (w : World) (A : Option Addr) (c : Nat) (L : List St) (hm : L.length ≤ 1000) (hs : Sl w A (L.flatMap St.cells)) (k v : ByteArray) (hb : Bool) (b : Int) (h2 : b ≤ (L.length : Int)) :
    Calls Try.prog 19 #[.slice A L.length c, .string k, .string v, .bool hb, .int .i64 0, .int .i64 b] w (HeldPost (HeldF L k v hb 0 b) w) := by
  have HS := Lib.hid hs
  clear hs
  go_enter Try.func19, Try.ntmps19
  go_wp2
  go_loopw [13] (fun i wr => ∃ (p q : Nat), 0 ≤ p ∧ p ≤ 0 + L.length + 1 ∧ (p = 0 ∨ p ≤ L.length + 1) ∧ i = .int .i64 p ∧ (∀ j, 0 ≤ j → j < p → atS L j k ≠ (v, hb)) ∧ wr = w.drewN q) (fun i _ => L.length + 1 - (intOf i).toNat)
  case atStart => exact ⟨0, 0, Nat.le_refl _, by omega, .inl rfl, rfl, fun j h1 h2 => by omega, rfl⟩
  case round =>
    obtain ⟨p, q, hp1, hp2, hp3, rfl, hno, rfl⟩ := hrel
    have HNO := Lib.hid hno
    clear hno
    by_cases hle : (p : Int) ≤ b
    · have HAT : Hid (atF L (p : Int) k = atS L p k) := Lib.hid (by unfold atF; rw [if_neg (by omega)]; rfl)
      have hpl : p ≤ L.length := by omega
      go_wp2_with fail
      refine (rat_any (w.drewN q) A L.length c L rfl (by omega) (HS.out) (p : Int) k).mono ?_
      rw [HAT.out]
      rintro e w2 ⟨rfl, n2, rfl⟩
      obtain ⟨r0, hr0⟩ : ∃ r0, atS L p k = r0 := ⟨_, rfl⟩
      have HR0 := Lib.hid hr0
      rw [hr0]
      clear hr0
      obtain ⟨v0, h0⟩ := r0
      by_cases hv : v0 = v ∧ h0 = hb
      · obtain ⟨rfl, rfl⟩ := hv
        have HY : Hid (HeldF L k v0 h0 0 b) := Lib.hid ⟨p, by omega, by omega, by omega, hpl, HR0.out⟩
        have hbb : (h0 == h0) = true := by cases h0 <;> rfl
        go_wp2
        go_ret
        exact ⟨true, rfl, by simp; exact HY.out, _, rfl⟩
      · have HN2 : Hid (∀ j, 0 ≤ j → j < p + 1 → atS L j k ≠ (v, hb)) := Lib.hid (fun j h1 h2 => by
          by_cases hj : j = p
          · rw [hj, HR0.out]
            exact fun e => hv ⟨congrArg Prod.fst e, congrArg Prod.snd e⟩
          · exact HNO.out j h1 (by omega))
        have hcs : ((h0 == hb) = false) ∨ ((h0 == hb) = true ∧ (v0.toList == v.toList) = false) := by
          by_cases h1 : h0 = hb
          · right
            refine ⟨by rw [h1]; cases hb <;> rfl, ?_⟩
            rw [beq_eq_false_iff_ne]
            exact fun e => hv ⟨toList_inj e, h1⟩
          · left
            cases h0 <;> cases hb <;> simp_all
        clear hv
        rcases hcs with h5 | ⟨h5, h6⟩
        all_goals
          go_wp2
          exact ⟨⟨p + 1, _, by omega, by omega, .inr (by omega), by go_num, HN2.out, rfl⟩, by simp [intOf]; omega⟩
    · have HNH : Hid (¬ HeldF L k v hb 0 b) := Lib.hid (by
        rintro ⟨j, h0, h1, h2, h3, h4⟩
        exact HNO.out j (by omega) (by omega) h4)
      go_wp2
      go_ret
      exact ⟨false, rfl, by simp; exact HNH.out, _, rfl⟩
set_option maxHeartbeats 8000000 in
theorem rheld_f (w : World) (A : Option Addr) (c : Nat) (L : List St) (hm : L.length ≤ 1000) (hs : Sl w A (L.flatMap St.cells)) (k v : ByteArray) (hb : Bool) (b : Int) (h2 : (L.length : Int) < b) :
    Calls Try.prog 19 #[.slice A L.length c, .string k, .string v, .bool hb, .int .i64 0, .int .i64 b] w (HeldPost (HeldF L k v hb 0 b) w) := by
  have HS := Lib.hid hs
  clear hs
  go_enter Try.func19, Try.ntmps19
  go_wp2
  go_loopw [13] (fun i wr => ∃ (p q : Nat), 0 ≤ p ∧ p ≤ 0 + L.length + 1 ∧ (p = 0 ∨ p ≤ L.length + 1) ∧ i = .int .i64 p ∧ (∀ j, 0 ≤ j → j < p → atS L j k ≠ (v, hb)) ∧ wr = w.drewN q) (fun i _ => L.length + 1 - (intOf i).toNat)
  case atStart => exact ⟨0, 0, Nat.le_refl _, by omega, .inl rfl, rfl, fun j h1 h2 => by omega, rfl⟩
  case round =>
    obtain ⟨p, q, hp1, hp2, hp3, rfl, hno, rfl⟩ := hrel
    have HNO := Lib.hid hno
    clear hno
    by_cases hle : (p : Int) ≤ (L.length : Int)
    · have HAT : Hid (atF L (p : Int) k = atS L p k) := Lib.hid (by unfold atF; rw [if_neg (by omega)]; rfl)
      have hpl : p ≤ L.length := by omega
      go_wp2_with fail
      refine (rat_any (w.drewN q) A L.length c L rfl (by omega) (HS.out) (p : Int) k).mono ?_
      rw [HAT.out]
      rintro e w2 ⟨rfl, n2, rfl⟩
      obtain ⟨r0, hr0⟩ : ∃ r0, atS L p k = r0 := ⟨_, rfl⟩
      have HR0 := Lib.hid hr0
      rw [hr0]
      clear hr0
      obtain ⟨v0, h0⟩ := r0
      by_cases hv : v0 = v ∧ h0 = hb
      · obtain ⟨rfl, rfl⟩ := hv
        have HY : Hid (HeldF L k v0 h0 0 b) := Lib.hid ⟨p, by omega, by omega, by omega, hpl, HR0.out⟩
        have hbb : (h0 == h0) = true := by cases h0 <;> rfl
        go_wp2
        go_ret
        exact ⟨true, rfl, by simp; exact HY.out, _, rfl⟩
      · have HN2 : Hid (∀ j, 0 ≤ j → j < p + 1 → atS L j k ≠ (v, hb)) := Lib.hid (fun j h1 h2 => by
          by_cases hj : j = p
          · rw [hj, HR0.out]
            exact fun e => hv ⟨congrArg Prod.fst e, congrArg Prod.snd e⟩
          · exact HNO.out j h1 (by omega))
        have hcs : ((h0 == hb) = false) ∨ ((h0 == hb) = true ∧ (v0.toList == v.toList) = false) := by
          by_cases h1 : h0 = hb
          · right
            refine ⟨by rw [h1]; cases hb <;> rfl, ?_⟩
            rw [beq_eq_false_iff_ne]
            exact fun e => hv ⟨toList_inj e, h1⟩
          · left
            cases h0 <;> cases hb <;> simp_all
        clear hv
        rcases hcs with h5 | ⟨h5, h6⟩
        all_goals
          go_wp2
          exact ⟨⟨p + 1, _, by omega, by omega, .inr (by omega), by go_num, HN2.out, rfl⟩, by simp [intOf]; omega⟩
    · have HNH : Hid (¬ HeldF L k v hb 0 b) := Lib.hid (by
        rintro ⟨j, h0, h1, h2, h3, h4⟩
        exact HNO.out j (by omega) (by omega) h4)
      go_wp2
      go_ret
      exact ⟨false, rfl, by simp; exact HNH.out, _, rfl⟩
theorem rheld_any (w : World) (A : Option Addr) (c : Nat) (L : List St) (hm : L.length ≤ 1000) (hs : Sl w A (L.flatMap St.cells)) (k v : ByteArray) (hb : Bool) (a b : Int) :
    Calls Try.prog 19 #[.slice A L.length c, .string k, .string v, .bool hb, .int .i64 a, .int .i64 b] w fun e w' => ∃ r : Bool, e = .returned (.bool r) ∧ (r = true ↔ HeldF L k v hb a b) ∧ ∃ q, w' = w.drewN q := by
  by_cases h1 : a < 0
  · by_cases h2 : b ≤ (L.length : Int)
    · exact rheld_b w A c L hm hs k v hb a b h1 h2
    · exact rheld_d w A c L hm hs k v hb a b h1 (by omega)
  · obtain ⟨x, rfl⟩ : ∃ x : Nat, a = x := ⟨a.toNat, by omega⟩
    rcases Nat.eq_zero_or_pos x with rfl | hx
    · by_cases h2 : b ≤ (L.length : Int)
      · exact rheld_e w A c L hm hs k v hb b h2
      · exact rheld_f w A c L hm hs k v hb b (by omega)
    · by_cases h2 : b ≤ (L.length : Int)
      · exact rheld_a w A c L hm hs k v hb x hx b h2
      · exact rheld_c w A c L hm hs k v hb x hx b (by omega)
theorem held_yes (w : World) (base O M : Nat) (L : List St) (h : Org w base O M L) (hl : L.length < 1099511627) (k v : ByteArray) (hb : Bool) (a b : Int) (hh : HeldF L k v hb a b) :
    Calls Try.prog 18 #[.pointer (some ⟨O, 0, none⟩), .string k, .string v, .bool hb, .int .i64 a, .int .i64 b] w fun e w' => e = .returned (.bool true) ∧ Below w.heap.size w w' :=
  (held_any w base O M L h hl k v hb a b).mono fun _ _ ⟨r, h1, h2, h3⟩ => ⟨by rw [h1, h2.2 hh], h3⟩
theorem held_no (w : World) (base O M : Nat) (L : List St) (h : Org w base O M L) (hl : L.length < 1099511627) (k v : ByteArray) (hb : Bool) (a b : Int) (hh : ¬ HeldF L k v hb a b) :
    Calls Try.prog 18 #[.pointer (some ⟨O, 0, none⟩), .string k, .string v, .bool hb, .int .i64 a, .int .i64 b] w fun e w' => e = .returned (.bool false) ∧ Below w.heap.size w w' :=
  (held_any w base O M L h hl k v hb a b).mono fun _ _ ⟨r, h1, h2, h3⟩ => ⟨by
    rw [h1]
    cases r with
    | false => rfl
    | true => exact absurd (h2.1 rfl) hh, h3⟩
/-- told sets, cut: as a slice -/
theorem cutl_sl (w : World) (A : Option Addr) (n c m : Nat) (L : List St) (hn : L.length = n) (hm : n ≤ 9223372036854775807) (hm2 : m ≤ 1000) (hs : Sl w A (L.flatMap St.cells)) (hz : ∀ s ∈ L, s.key.size ≤ maxLen ∧ s.val.size ≤ maxLen) :
    Calls Try.prog 11 #[.slice A n c, .int .i64 m] w fun e w' => ∃ A' c', e = .returned (.slice A' (cutL (min n m) L).length c') ∧ Sl w' A' ((cutL (min n m) L).flatMap St.cells) ∧ Below w.heap.size w w' :=
  (cutl_any w A n c m L hn hm hm2 hs hz).mono (by
    rintro e w' ⟨v, rfl, ho, hb⟩
    obtain ⟨A', c', rfl, _, _, hs', _⟩ := own_flat (C := 3) ho
    exact ⟨A', c', rfl, hs', hb⟩)
section
variable {H : Type} {enc : TypeId × Value → H} {W : World}
theorem sets_each (n : Nat) (cs : List Value) (x : DataW H × List MemPlace) (h : DataW.trod enc Try.prog W 0 (fun _ => true) true n 55 cs = some x) : ∃ o : St, cs = o.cells ∧ (o.key.size ≤ maxLen ∧ o.val.size ≤ maxLen) := by
  obtain ⟨xs, m, _, _, hl, hxl, hg⟩ := DataW.trod_struct Try.underlying55 h
  have hl4 : cs.length = 3 := hl.trans (by kernel_rfl)
  obtain ⟨v0, e0, g0⟩ := one_of hl4 (show 0 < 3 by decide)
  obtain ⟨v1, e1, g1⟩ := one_of hl4 (show 1 < 3 by decide)
  obtain ⟨v2, e2, g2⟩ := one_of hl4 (show 2 < 3 by decide)
  have h0 : DataW.trod enc Try.prog W 0 (fun _ => true) true m 9 ((cs.drop 0).take (Try.prog.cellsOf 9)) = xs[0]? := hg 0 _ rfl
  have h1 : DataW.trod enc Try.prog W 0 (fun _ => true) true m 9 ((cs.drop 1).take (Try.prog.cellsOf 9)) = xs[1]? := hg 1 _ rfl
  have h2 : DataW.trod enc Try.prog W 0 (fun _ => true) true m 4 ((cs.drop 2).take (Try.prog.cellsOf 4)) = xs[2]? := hg 2 _ rfl
  have c9 : Try.prog.cellsOf 9 = 1 := by kernel_rfl
  have c4 : Try.prog.cellsOf 4 = 1 := by kernel_rfl
  rw [c9] at h0 h1
  rw [c4] at h2
  have hx : xs.length = 3 := hxl
  rw [e0, List.getElem?_eq_getElem (by omega)] at h0
  rw [e1, List.getElem?_eq_getElem (by omega)] at h1
  rw [e2, List.getElem?_eq_getElem (by omega)] at h2
  obtain ⟨a0, q0, _, w0⟩ := DataW.trod_string Try.underlying9 h0
  obtain ⟨a1, q1, _, w1⟩ := DataW.trod_string Try.underlying9 h1
  obtain ⟨a2, q2, _⟩ := DataW.trod_bool Try.underlying4 h2
  cases q0
  cases q1
  cases q2
  refine ⟨⟨a0, a1, a2⟩, ?_, w0, w1⟩
  apply List.ext_getElem?
  intro i
  match i with
  | 0 => exact g0
  | 1 => exact g1
  | 2 => exact g2
  | i + 3 => rw [List.getElem?_eq_none (by omega), List.getElem?_eq_none (by show 3 ≤ _; omega)]
theorem open_setsR (A : Option Addr) (len cap : Nat) {d : DataW H} {p : List MemPlace} (h : DataW.Trod enc Try.prog W 0 (fun _ => true) true 22 (.slice A len cap) d p) :
    ∃ os : List St, os.length = len ∧ len ≤ cap ∧ cap ≤ maxLen ∧ (∀ o ∈ os, o.key.size ≤ maxLen ∧ o.val.size ≤ maxLen) ∧ Sl W A (os.flatMap St.cells) :=
  open_slice_of St.cells (fun o => o.key.size ≤ maxLen ∧ o.val.size ≤ maxLen) 3 (fun _ => rfl) (by decide) Try.underlying22 (by kernel_rfl) sets_each h
end
def k107 : ByteArray := ⟨#[107]⟩
def one1 : St := ⟨⟨#[107]⟩, ⟨#[118]⟩, true⟩
set_option maxHeartbeats 2000000 in
theorem begun_any (w : World) : Calls Try.prog 10 #[] w fun e w' => e = .returned (.bool true) ∧ Below w.heap.size w w' := by
  go_enter Try.func10, Try.ntmps10
  go_wp2_with fail
  refine (new_any w).mono ?_
  rintro e w1 ⟨O, M, rfl, ho1, hb1⟩
  have HO1 := Lib.hid ho1
  have HB1 := Lib.hid hb1
  clear ho1 hb1
  go_wp2_with fail
  refine (set_any w1 w.heap.size O M [] HO1.out (by decide) ⟨#[107]⟩ ⟨#[118]⟩ true).mono ?_
  rintro e w2 ⟨rfl, ho2, hb2⟩
  have HO2 : Hid (Org w2 w.heap.size O M [one1]) := Lib.hid ho2
  have HB2 := Lib.hid (HB1.out.trans hb2)
  clear ho2 hb2
  rw [show (([] : List St).length : Int) + 1 = 1 from rfl]
  go_wp2_with fail
  refine (get_any w2 w.heap.size O M [one1] HO2.out (by decide) ⟨#[107]⟩).mono ?_
  rintro e w3 ⟨rfl, n3, rfl⟩
  rw [show (atS [one1] [one1].length ⟨#[107]⟩) = (⟨#[118]⟩, true) from rfl]
  go_wp2_with fail
  refine (at_any (w2.drewN n3) w.heap.size O M [one1] (HO2.out.drewN _) (by decide) 0 ⟨#[107]⟩).mono ?_
  rw [show (atF [one1] 0 ⟨#[107]⟩) = (ByteArray.empty, false) from rfl]
  rintro e w4 ⟨rfl, n4, rfl⟩
  go_wp2_with fail
  refine (now_any _ w.heap.size O M [one1] (HO2.out.drewN _)).mono ?_
  rintro e w5 ⟨rfl, rfl⟩
  rw [show (([one1] : List St).length : Int) = 1 from rfl]
  go_wp2_with fail
  refine (held_yes _ w.heap.size O M [one1] (HO2.out.drewN _) (by decide) ⟨#[107]⟩ ⟨#[]⟩ false 0 0 ⟨0, by decide, by decide, by decide, by decide, rfl⟩).mono ?_
  rintro e w6 ⟨rfl, hb6⟩
  have HO6 := Lib.hid ((HO2.out.drewN _).below hb6)
  have HB6 := Lib.hid ((below_drewN HB2.out _).trans (hb6.mono (below_drewN HB2.out _).size))
  clear hb6
  go_wp2_with fail
  refine (held_no w6 w.heap.size O M [one1] HO6.out (by decide) ⟨#[107]⟩ ⟨#[]⟩ false 1 1 (by
    rintro ⟨p, h0, h1, h2, h3, h4⟩
    obtain rfl : p = 1 := by omega
    exact absurd (congrArg Prod.snd h4) (by decide))).mono ?_
  rintro e w7 ⟨rfl, hb7⟩
  have HO7 := Lib.hid (HO6.out.below hb7)
  have HB7 := Lib.hid (HB6.out.trans (hb7.mono HB6.out.size))
  clear hb7
  go_wp2_with fail
  refine (held_yes w7 w.heap.size O M [one1] HO7.out (by decide) ⟨#[107]⟩ ⟨#[118]⟩ true 0 9 ⟨1, by decide, by decide, by decide, by decide, rfl⟩).mono ?_
  rintro e w8 ⟨rfl, hb8⟩
  have HB8 := Lib.hid (HB7.out.trans (hb8.mono HB7.out.size))
  clear hb8
  go_wp2
  go_ret
  exact ⟨rfl, HB8.out⟩
end Go.Proofs.Ytmblkejgfoffaaa
