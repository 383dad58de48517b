/- Contracts of functions that the Top rows reach, and plain laws for them: what each returns and what it leaves in memory. Conditions: those that each theorem names. -/
import Derived.BigGuardPart
import Derived.Test.YtlhekbjidppijaaGreatMAJ
set_option linter.unusedVariables false
set_option linter.unusedSimpArgs false
namespace Go.Proofs.Ytlhekbjidppijaa
open Go.RowKit
def keyOk (k : ByteArray) : Bool:=decide (0 < k.size /\ k.size <= 40)
theorem bne_nil (a : ByteArray) (h : a.size ≠ 0) : a.toList.isEmpty = false:=by
 rw [ByteArray.toList_eq]
 cases hd : a.data.toList with
 | nil=>
  exfalso
  apply h
  have h1 : a.data.toList.length = 0:=by rw [hd];rfl
  rw [Array.length_toList] at h1
  exact h1
 | cons x l=>rfl
theorem bnil (a : ByteArray) (h : a.size = 0) : a = ⟨#[]⟩:=by
 cases a with | mk d=>
  have : d.size = 0:=h
  rw [Array.eq_empty_of_size_eq_zero this]
theorem key_any (w : World) (k : ByteArray) (hk : k.size <= 1099511627776) : Calls Tryz.prog 164 #[.string k] w fun e w'=>e = .returned (.bool (keyOk k)) /\ w = w':=by
 by_cases h0 : k.size = 0
 ·obtain rfl:=bnil k h0
  clear h0 hk
  go_enter Tryz.func164,Tryz.ntmps164
  go_wp2
  go_ret
  exact ⟨rfl,rfl⟩
 ·have HF : Hid (keyOk k = decide ((k.size : Int) <= 40)):=Lib.hid (by unfold keyOk;rw [decide_eq_decide];omega)
  have hne:=bne_nil k h0
  clear h0
  go_enter Tryz.func164,Tryz.ntmps164
  go_wp2
  go_ret
  exact ⟨by rw [HF.out];rfl,rfl⟩
def itemV (k v : ByteArray) (g : Bool) : Value:=.agg #[.string k,.string v,.int .i64 0,.bool g]
def itemOk (k v : ByteArray) (g : Bool) : Bool:=keyOk k && (!g || decide (v.size = 0))
set_option maxRecDepth 20000 in
theorem may_any (w : World) (k v : ByteArray) (g : Bool) (hk : k.size <= 1099511627776) (hv : v.size <= 200) : Calls Tryz.prog 140 #[itemV k v g] w fun e w'=>e = .returned (.bool (itemOk k v g)) /\ Below w.heap.size w w':=by
 unfold itemV
 have HK:=fun W=>Lib.hid (key_any W k hk)
 have hv' : ¬ ((200 : Int) < (v.size : Int)):=by omega
 cases hko : keyOk k with
 | false=>
  have HKO:=Lib.hid hko
  clear hko
  go_enter Tryz.func140,Tryz.ntmps140
  go_wp2_with fail
  refine ((HK _).out).mono ?_
  rw [HKO.out]
  rintro e w' ⟨rfl,rfl⟩
  go_wp2
  go_ret
  exact ⟨by unfold itemOk;rw [HKO.out];rfl,(Below.refl _ w).alloc (Nat.le_refl _) _⟩
 | true=>
  have HKO:=Lib.hid hko
  clear hko
  cases g with
  | false=>
   go_enter Tryz.func140,Tryz.ntmps140
   go_wp2_with fail
   refine ((HK _).out).mono ?_
   rw [HKO.out]
   rintro e w' ⟨rfl,rfl⟩
   go_wp2
   go_ret
   exact ⟨by unfold itemOk;rw [HKO.out];rfl,(Below.refl _ w).alloc (Nat.le_refl _) _⟩
  | true=>
   by_cases h0 : v.size = 0
   ·obtain rfl:=bnil v h0
    clear h0
    go_enter Tryz.func140,Tryz.ntmps140
    go_wp2_with fail
    refine ((HK _).out).mono ?_
    rw [HKO.out]
    rintro e w' ⟨rfl,rfl⟩
    go_wp2
    go_ret
    exact ⟨by unfold itemOk;rw [HKO.out];rfl,(Below.refl _ w).alloc (Nat.le_refl _) _⟩
   ·have hne:=bne_nil v h0
    have HD : Hid (decide (v.size = 0) = false):=Lib.hid (by simp [h0])
    clear h0
    go_enter Tryz.func140,Tryz.ntmps140
    go_wp2_with fail
    refine ((HK _).out).mono ?_
    rw [HKO.out]
    rintro e w' ⟨rfl,rfl⟩
    go_wp2
    go_ret
    exact ⟨by unfold itemOk;rw [HKO.out,HD.out];rfl,(Below.refl _ w).alloc (Nat.le_refl _) _⟩
set_option maxRecDepth 20000 in
theorem live_any (w : World) (k v : ByteArray) (g : Bool) (now : Int) (hk : k.size <= 1099511627776) (hv : v.size <= 200) : Calls Tryz.prog 254 #[itemV k v g,.int .i64 now] w fun e w'=>e = .returned (.bool (itemOk k v g && !g)) /\ Below w.heap.size w w':=by
 have HM:=fun W=>Lib.hid (may_any W k v g hk hv)
 unfold itemV at HM ⊢
 cases hko : itemOk k v g with
 | false=>
  have HKO:=Lib.hid hko
  clear hko
  go_enter Tryz.func254,Tryz.ntmps254
  go_wp2_with fail
  refine ((HM _).out).mono ?_
  rw [HKO.out]
  rintro e w' ⟨rfl,hb⟩
  have HB : Hid (Below w.heap.size w w'):=Lib.hid (((Below.refl _ w).alloc (Nat.le_refl _) _).trans (hb.mono (by simp)))
  clear hb
  go_wp2
  go_ret
  exact ⟨rfl,HB.out⟩
 | true=>
  have HKO:=Lib.hid hko
  clear hko
  go_enter Tryz.func254,Tryz.ntmps254
  go_wp2_with fail
  refine ((HM _).out).mono ?_
  rw [HKO.out]
  rintro e w' ⟨rfl,hb⟩
  have HB : Hid (Below w.heap.size w w'):=Lib.hid (((Below.refl _ w).alloc (Nat.le_refl _) _).trans (hb.mono (by simp)))
  have hblk : Blk w' w.heap.size 178 #[.string k,.string v,.int .i64 0,.bool g]:=(hb.block _ (by simp)).trans (Blk.new w 178 _)
  have c2:=hblk.cell 2
  have c3:=hblk.cell 3
  clear hb hblk
  cases g with
  | false=>
   go_wp2
   go_ret
   exact ⟨rfl,HB.out⟩
  | true=>
   go_wp2
   go_ret
   exact ⟨rfl,HB.out⟩
end Go.Proofs.Ytlhekbjidppijaa
