/- The law TokenKeys: its plain laws. No walk. -/
import Derived.Test.YtcghoaijflekhaaTokY
import Derived.Laws.BytesArg
namespace Go.Proofs.Ytcghoaijflekhaa
open Go.RowKit
def kb (x : Int) : ByteArray := strOfNums [x]
theorem kb_inj {x y : Int} (hx : 0 ≤ x ∧ x < 256) (hy : 0 ≤ y ∧ y < 256) (h : kb x = kb y) : x = y := by
  have h1 : ((kb x).data.toList).head? = ((kb y).data.toList).head? := by rw [h]
  unfold kb at h1
  rw [strOfNums_data, strOfNums_data] at h1
  simp only [List.map_cons, List.map_nil, List.head?_cons, Option.some.injEq] at h1
  have h2 := congrArg UInt8.toNat h1
  simp at h2
  omega
def kyl (n : Nat) (g : Nat → Bool) (m : Nat) : List TkS := (List.range n).map fun i : Nat => ⟨kb (97 + (i : Int) % 5), g (i % 5), decide (i < m)⟩
theorem kyl_length (n : Nat) (g : Nat → Bool) (m : Nat) : (kyl n g m).length = n := by simp [kyl]
theorem kyl_get (n : Nat) (g : Nat → Bool) (m i : Nat) (h : i < (kyl n g m).length) : (kyl n g m)[i] = ⟨kb (97 + (i : Int) % 5), g (i % 5), decide (i < m)⟩ := by simp [kyl]
theorem kyl_give (k : Nat) : kyl k (fun _ => true) 0 ++ [⟨kb (97 + (k : Int) % 5), true, false⟩] = kyl (k + 1) (fun _ => true) 0 := by
  unfold kyl
  rw [List.range_succ, List.map_append]
  rfl
def deadIn (ss : List ByteArray) (j : Nat) : Bool := inB (kb (97 + (j : Int))) ss
theorem kyl_kill (n : Nat) (ss : List ByteArray) : (kyl n (fun _ => true) 0).map (hurt1 fun s => inB s ss) = kyl n (fun j => !deadIn ss j) 0 := by
  unfold kyl
  rw [List.map_map]
  apply List.map_congr_left
  intro i _
  have e : ((i % 5 : Nat) : Int) = (i : Int) % 5 := by omega
  show hurt1 _ ⟨kb (97 + (i : Int) % 5), true, decide (i < 0)⟩ = ⟨kb (97 + (i : Int) % 5), !inB (kb (97 + ((i % 5 : Nat) : Int))) ss, decide (i < 0)⟩
  rw [e]
  unfold hurt1 hit
  cases h : inB (kb (97 + (i : Int) % 5)) ss <;> simp [h]
def cntD (ss : List ByteArray) (n : Nat) : Nat := ((List.range n).filter fun i : Nat => deadIn ss (i % 5)).length
theorem cntD_succ (ss : List ByteArray) (n : Nat) : cntD ss (n + 1) = cntD ss n + if deadIn ss (n % 5) then 1 else 0 := by
  unfold cntD
  rw [List.range_succ, List.filter_append, List.length_append]
  cases h : deadIn ss (n % 5) <;> simp [h]
theorem cntD_le (ss : List ByteArray) (n : Nat) : cntD ss n ≤ n := by
  have := List.length_filter_le (fun i : Nat => deadIn ss (i % 5)) (List.range n)
  rw [List.length_range] at this
  exact this
theorem kyl_hits (n : Nat) (ss : List ByteArray) : ((kyl n (fun _ => true) 0).filter (hit fun s => inB s ss)).length = cntD ss n := by
  unfold kyl cntD
  rw [List.filter_map, List.length_map]
  apply congrArg
  apply List.filter_congr
  intro i _
  have e : ((i % 5 : Nat) : Int) = (i : Int) % 5 := by omega
  unfold deadIn
  rw [e]
  simp [hit]
theorem kyl_none (n : Nat) (ss : List ByteArray) : ((kyl n (fun j => !deadIn ss j) 0).filter (hit fun s => inB s ss)).length = 0 := by
  rw [List.length_eq_zero_iff, List.filter_eq_nil_iff]
  intro x hx
  unfold kyl at hx
  obtain ⟨i, hi, rfl⟩ := List.mem_map.1 hx
  have e : ((i % 5 : Nat) : Int) = (i : Int) % 5 := by omega
  simp only [hit, deadIn, e]
  cases h : inB (kb (97 + (i : Int) % 5)) ss <;> simp
theorem kyl_again (n : Nat) (ss : List ByteArray) : (kyl n (fun j => !deadIn ss j) 0).map (hurt1 fun s => inB s ss) = kyl n (fun j => !deadIn ss j) 0 := by
  have h := kyl_none n ss
  rw [List.length_eq_zero_iff, List.filter_eq_nil_iff] at h
  have : (kyl n (fun j => !deadIn ss j) 0).map (hurt1 fun s => inB s ss) = (kyl n (fun j => !deadIn ss j) 0).map id := by
    apply List.map_congr_left
    intro x hx
    have := h x hx
    unfold hurt1
    simp at this
    simp [this]
  rw [this, List.map_id]
theorem kyl_left (n : Nat) (g : Nat → Bool) (m i : Nat) (h : i < n) : left (kyl n g m) i = !decide (i < m) := by
  unfold left
  rw [List.getElem?_eq_getElem (by rw [kyl_length]; exact h), kyl_get]
theorem kyl_all (n : Nat) (g : Nat → Bool) : cntLeft (kyl n g 0) = n := by
  unfold cntLeft
  rw [List.filter_eq_self.2, List.length_range, kyl_length]
  intro i hi
  rw [kyl_left _ _ _ _ (by simpa [kyl_length] using hi)]
  simp
theorem kyl_use (n : Nat) (g : Nat → Bool) (m : Nat) : (kyl n g m).set m ⟨kb (97 + (m : Int) % 5), g (m % 5), true⟩ = kyl n g (m + 1) := by
  apply List.ext_getElem
  · simp [kyl]
  · intro i h1 h2
    rw [List.getElem_set, kyl_get, kyl_get]
    by_cases hmi : m = i
    · subst hmi; simp
    · have : decide (i < m) = decide (i < m + 1) := by rw [decide_eq_decide]; omega
      simp [hmi, this]
/-- the keys that are killed -/
def kr (z : Int) : Int := z.tmod 5 % 5
theorem kr_lt (z : Int) : 0 ≤ kr z ∧ kr z < 5 := by unfold kr; omega
theorem tm5 (z : Int) : -4 ≤ z.tmod 5 ∧ z.tmod 5 ≤ 4 := by
  have h1 := Int.tmod_lt_of_pos z (b := 5) (by decide)
  have h2 := Int.lt_tmod_of_pos z (b := 5) (by decide)
  omega
def dk (zs : List Int) (j : Nat) : List ByteArray := (zs.take j).map fun z => kb (97 + kr z)
theorem dk_length (zs : List Int) (j : Nat) (h : j ≤ zs.length) : (dk zs j).length = j := by
  unfold dk; rw [List.length_map, List.length_take]; omega
theorem dk_succ (zs : List Int) (j : Nat) (h : j < zs.length) : dk zs (j + 1) = dk zs j ++ [kb (97 + kr zs[j])] := by
  unfold dk
  rw [List.take_succ_eq_append_getElem h, List.map_append]; rfl
theorem deadIn_append (ss : List ByteArray) (r : Int) (hr : 0 ≤ r ∧ r < 5) (i : Nat) (hi : i < 5) : deadIn (ss ++ [kb (97 + r)]) i = if i = r.toNat then true else deadIn ss i := by
  unfold deadIn
  by_cases h : i = r.toNat
  · rw [if_pos h, inB_iff]
    have : (i : Int) = r := by omega
    rw [this]; simp
  · rw [if_neg h, Bool.eq_iff_iff, inB_iff, inB_iff, List.mem_append, List.mem_singleton]
    constructor
    · rintro (h1 | h1)
      · exact h1
      · have := kb_inj (by omega) (by omega) h1; omega
    · exact .inl
def dcells (ss : List ByteArray) : Array Value := #[.bool (deadIn ss 0), .bool (deadIn ss 1), .bool (deadIn ss 2), .bool (deadIn ss 3), .bool (deadIn ss 4)]
theorem dcells_nil : dcells [] = #[.bool false, .bool false, .bool false, .bool false, .bool false] := rfl
theorem dcells_get (ss : List ByteArray) (i : Nat) (h : i < 5) : (dcells ss)[i]? = some (.bool (deadIn ss i)) := by
  match i, h with
  | 0, _ => rfl
  | 1, _ => rfl
  | 2, _ => rfl
  | 3, _ => rfl
  | 4, _ => rfl
theorem dcells_set (ss : List ByteArray) (r : Int) (hr : 0 ≤ r ∧ r < 5) : (dcells ss).setIfInBounds r.toNat (.bool true) = dcells (ss ++ [kb (97 + r)]) := by
  apply Array.ext'
  apply List.ext_getElem?
  intro i
  rw [Array.getElem?_toList, Array.getElem?_toList]
  by_cases hi : i < 5
  · rw [dcells_get _ i hi, deadIn_append ss r hr i hi]
    by_cases h : i = r.toNat
    · subst h
      rw [if_pos rfl]
      have hs : r.toNat < (dcells ss).size := by show _ < 5; exact hi
      simp [hs]
    · rw [if_neg h, Array.getElem?_setIfInBounds_ne (Ne.symm h), dcells_get _ i hi]
  · have h1 : (dcells (ss ++ [kb (97 + r)])).size = 5 := rfl
    have h2 : ((dcells ss).setIfInBounds r.toNat (.bool true)).size = 5 := by rw [Array.size_setIfInBounds]; rfl
    rw [Array.getElem?_eq_none (by omega), Array.getElem?_eq_none (by omega)]
end Go.Proofs.Ytcghoaijflekhaa
