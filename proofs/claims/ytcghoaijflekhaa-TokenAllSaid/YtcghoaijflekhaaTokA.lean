/- The law TokenAll: its walk. No condition. -/
import Derived.Test.YtcghoaijflekhaaTokL
namespace Go.Proofs.Ytcghoaijflekhaa
open Go.RowKit
theorem texts_sl (A : Option Addr) (n c : Nat) (ss : List ByteArray) (w : World) (hr : Sl w A (ss.map .string)) (hn : ss.length = n) (h1 : n ≤ 9223372036854775807) (hz : ∀ s ∈ ss, s.size ≤ 9223372036854775807) :
    Calls Try.prog 14 #[.slice A n c, .int .i64 4, .int .i64 30] w fun e w' => ∃ A' c', e = .returned (.slice A' (textsTo ss 30 (min n 4)).length c') ∧ Sl w' A' ((textsTo ss 30 (min n 4)).map .string) ∧ (∀ a, A' = some a → w.heap.size ≤ a.block ∧ ∃ cur, w'.heap[a.block]? = some (.cells cur 9 (0, 0))) ∧ Below w.heap.size w w' :=
  (texts_any A n c ss 4 30 (by omega) (by omega) w hr hn h1 hz).mono (by
    rintro e w' ⟨v, rfl, ho, hb⟩
    obtain ⟨A', c', rfl, _, _, _, hs⟩ := Sl.of_own ho
    refine ⟨A', c', rfl, hs, fun a ha => ?_, hb⟩
    subst ha
    rcases ho.2 with ⟨h4, _⟩ | ⟨g, cap, cur, h5, h6, h7, _⟩
    · cases h4
    · cases h5
      exact ⟨h6, cur, h7⟩)
def GA (W0 : World) (D : Nat) (kind id : Int) (key : ByteArray) (Ak : Option Addr) (nk ck : Nat) (ss : List ByteArray) (c0 c1 c2 c3 c4 c5 c6 c7 c8 c9 c10 c11 c12 c13 c14 c15 c16 c17 c18 c19 c20 c21 c22 c23 c24 c25 c26 c27 c28 c29 c30 c31 c40 c41 c42 c43 c44 c45 c46 c47 c48 c49 c50 c51 c52 c53 c54 c55 c56 c57 c58 c59 c60 c61 c62 c63 c64 c65 c66 c67 c68 c69 c70 c71 c72 c73 c74 c75 c76 c77 c78 c79 c80 c81 c82 c83 c84 c85 c86 c87 c88 c89 c90 c91 c92 c93 c94 c95 c96 c97 : Value) (L : Nat → Bool) (a' : Act) (wx : World) : Prop :=
  ∃ u32 u33 u34 u35 u36 u37 u38 u39 : Value, a' = ⟨List.toArray (c0 :: c1 :: c2 :: c3 :: c4 :: c5 :: c6 :: c7 :: c8 :: c9 :: c10 :: c11 :: c12 :: c13 :: c14 :: c15 :: c16 :: c17 :: c18 :: c19 :: c20 :: c21 :: c22 :: c23 :: c24 :: c25 :: c26 :: c27 :: c28 :: c29 :: c30 :: c31 :: u32 :: u33 :: u34 :: u35 :: u36 :: u37 :: u38 :: u39 :: c40 :: c41 :: c42 :: c43 :: c44 :: c45 :: c46 :: c47 :: c48 :: c49 :: c50 :: c51 :: c52 :: c53 :: c54 :: c55 :: c56 :: c57 :: c58 :: c59 :: c60 :: c61 :: c62 :: c63 :: c64 :: c65 :: c66 :: c67 :: c68 :: c69 :: c70 :: c71 :: c72 :: c73 :: c74 :: c75 :: c76 :: c77 :: c78 :: c79 :: c80 :: c81 :: c82 :: c83 :: c84 :: c85 :: c86 :: c87 :: c88 :: c89 :: c90 :: c91 :: c92 :: c93 :: c94 :: c95 :: c96 :: c97 :: []), []⟩ ∧ MA W0 D kind id key Ak nk ck ss L u37 wx ∧ (L 0 = true → u32 = .pointer (some ⟨D, 2, none⟩)) ∧ (L 1 = true → u33 = .string key) ∧ (L 2 = true → u34 = .string (cutS key 30)) ∧ (L 3 = true → u35 = .pointer (some ⟨D, 3, none⟩)) ∧ (L 4 = true → u36 = .slice Ak nk ck) ∧ (L 5 = true → True) ∧ (L 6 = true → u38 = .pointer (some ⟨D, 2, none⟩)) ∧ (L 8 = true → u39 = .pointer (some ⟨D, 3, none⟩))
def GB (w : World) (D T M R : Nat) (cs : Array Value) (lo : Nat) (u : Value) (ss : List ByteArray) (La Lb : List TkS) (ky : ByteArray) (c0 c1 c2 c3 c4 c5 c6 c7 c8 c9 c10 c11 c12 c13 c14 c15 c16 c17 c18 c19 c20 c21 c22 c23 c24 c25 c26 c27 c28 c29 c30 c31 c32 c33 c34 c35 c36 c37 c38 c39 c40 c41 c42 c43 c44 c45 c46 c47 c48 c58 c59 c60 c61 c62 c63 c64 c65 c66 c67 c68 c69 c70 c71 c72 c73 c74 c75 c76 c77 c78 c79 c80 c81 c82 c83 c84 c85 c86 c87 c88 c89 c90 c91 c92 c93 c94 c95 c96 c97 : Value) (L : Nat → Bool) (a' : Act) (wx : World) : Prop :=
  ∃ u49 u50 u51 u52 u53 u54 u55 u56 u57 : Value, a' = ⟨List.toArray (c0 :: c1 :: c2 :: c3 :: c4 :: c5 :: c6 :: c7 :: c8 :: c9 :: c10 :: c11 :: c12 :: c13 :: c14 :: c15 :: c16 :: c17 :: c18 :: c19 :: c20 :: c21 :: c22 :: c23 :: c24 :: c25 :: c26 :: c27 :: c28 :: c29 :: c30 :: c31 :: c32 :: c33 :: c34 :: c35 :: c36 :: c37 :: c38 :: c39 :: c40 :: c41 :: c42 :: c43 :: c44 :: c45 :: c46 :: c47 :: c48 :: u49 :: u50 :: u51 :: u52 :: u53 :: u54 :: u55 :: u56 :: u57 :: c58 :: c59 :: c60 :: c61 :: c62 :: c63 :: c64 :: c65 :: c66 :: c67 :: c68 :: c69 :: c70 :: c71 :: c72 :: c73 :: c74 :: c75 :: c76 :: c77 :: c78 :: c79 :: c80 :: c81 :: c82 :: c83 :: c84 :: c85 :: c86 :: c87 :: c88 :: c89 :: c90 :: c91 :: c92 :: c93 :: c94 :: c95 :: c96 :: c97 :: []), []⟩ ∧ MB w D T M R cs lo u ss La Lb L wx ∧ (L 0 = true → u49 = .pointer (some ⟨T, 0, none⟩)) ∧ (L 1 = true → u50 = .pointer (some ⟨D, 2, none⟩)) ∧ (L 2 = true → u51 = .string ky) ∧ (L 3 = true → u52 = .int .i64 ((La.length : Int) + 1)) ∧ (L 4 = true → u53 = .pointer (some ⟨R, 0, none⟩)) ∧ (L 5 = true → u54 = .pointer (some ⟨D, 2, none⟩)) ∧ (L 6 = true → u55 = .string ky) ∧ (L 7 = true → u56 = .int .i64 ((La.length : Int) + 1)) ∧ (L 8 = true → u57 = .bool false)
def GK (w : World) (D T M R : Nat) (cs : Array Value) (lo : Nat) (u : Value) (ss : List ByteArray) (La Lb : List TkS) (A5 : Option Addr) (cc5 : Nat) (c0 c1 c2 c3 c4 c5 c6 c7 c8 c9 c10 c11 c12 c13 c14 c15 c16 c17 c18 c19 c20 c21 c22 c23 c24 c25 c26 c27 c28 c29 c30 c31 c32 c33 c34 c35 c36 c37 c38 c39 c40 c41 c42 c43 c44 c45 c46 c47 c48 c49 c50 c51 c52 c53 c54 c55 c56 c57 c58 c59 c60 c61 c62 c63 c64 c65 c66 c67 c68 c69 c70 c71 c72 c73 c74 c75 c76 c77 c78 c79 c80 c81 c82 c83 c93 c94 c95 c96 c97 : Value) (L : Nat → Bool) (a' : Act) (wx : World) : Prop :=
  ∃ u84 u85 u86 u87 u88 u89 u90 u91 u92 : Value, a' = ⟨List.toArray (c0 :: c1 :: c2 :: c3 :: c4 :: c5 :: c6 :: c7 :: c8 :: c9 :: c10 :: c11 :: c12 :: c13 :: c14 :: c15 :: c16 :: c17 :: c18 :: c19 :: c20 :: c21 :: c22 :: c23 :: c24 :: c25 :: c26 :: c27 :: c28 :: c29 :: c30 :: c31 :: c32 :: c33 :: c34 :: c35 :: c36 :: c37 :: c38 :: c39 :: c40 :: c41 :: c42 :: c43 :: c44 :: c45 :: c46 :: c47 :: c48 :: c49 :: c50 :: c51 :: c52 :: c53 :: c54 :: c55 :: c56 :: c57 :: c58 :: c59 :: c60 :: c61 :: c62 :: c63 :: c64 :: c65 :: c66 :: c67 :: c68 :: c69 :: c70 :: c71 :: c72 :: c73 :: c74 :: c75 :: c76 :: c77 :: c78 :: c79 :: c80 :: c81 :: c82 :: c83 :: u84 :: u85 :: u86 :: u87 :: u88 :: u89 :: u90 :: u91 :: u92 :: c93 :: c94 :: c95 :: c96 :: c97 :: []), []⟩ ∧ MB w D T M R cs lo u ss La Lb L wx ∧ (L 0 = true → u84 = .pointer (some ⟨T, 0, none⟩)) ∧ (L 1 = true → u85 = .pointer (some ⟨D, 3, none⟩)) ∧ (L 2 = true → u86 = .slice A5 ss.length cc5) ∧ (L 3 = true → u87 = .int .i64 ((La.filter (hit fun s => inB s ss)).length : Int)) ∧ (L 4 = true → u88 = .pointer (some ⟨R, 0, none⟩)) ∧ (L 5 = true → u89 = .pointer (some ⟨D, 3, none⟩)) ∧ (L 6 = true → u90 = .slice A5 ss.length cc5) ∧ (L 7 = true → u91 = .int .i64 ((La.filter (hit fun s => inB s ss)).length : Int)) ∧ (L 8 = true → u92 = .bool false)
set_option maxRecDepth 100000 in
set_option maxHeartbeats 8000000 in
theorem all_in (w : World) (A : Option Addr) (len cap : Nat) (os : List OpS) (hn : os.length = len) (hok : ∀ o ∈ os, o.ok w) (hs : Sl w A (os.flatMap OpS.cells)) :
    Calls Try.prog 5 #[.slice A len cap] w fun e w' => e = .returned (.bool true) ∧ Below w.heap.size w w' := by
  have HN := Lib.hid hn
  have HOK := Lib.hid hok
  have HS := Lib.hid hs
  clear hn hok hs
  go_enter Try.func5, Try.ntmps5
  go_wp2_with fail
  refine (begun_any w).mono ?_
  rintro e w1 ⟨rfl, hb1⟩
  have HB1 := Lib.hid hb1
  clear hb1
  go_wp2_with fail
  refine (new_any w1).mono ?_
  rintro e w2 ⟨T, M, bl0, rfl, hT2, hB2⟩
  have HT2 := Lib.hid (hT2.low HB1.out.size)
  have HB2 := Lib.hid (HB1.out.trans (hB2.mono HB1.out.size))
  clear hT2 hB2
  go_wp2
  go_loopw [6] (fun i wr => ∃ (k : Nat) (La : List TkS) (bl : Nat → Nat), k ≤ len ∧ k ≤ 60 ∧ i = .int .i64 k ∧ La.length ≤ k ∧ Tok wr w.heap.size T M La bl ∧ RTok wr w.heap.size w2.heap.size La ∧ Below w.heap.size w wr) (fun i _ => len - (intOf i).toNat)
  case atStart =>
    have h1 := HB2.out.size
    have hr : RTok (w2.alloc (.cells #[.slice none 0 0] 40)) w.heap.size w2.heap.size [] := ⟨h1, _, Blk.new w2 40 _, World.ownsRow_nil _ _ _ _⟩
    exact ⟨0, [], bl0, Nat.zero_le _, Nat.zero_le _, rfl, Nat.le_refl _, HT2.out.alloc _, hr, HB2.out.alloc h1 _⟩
  case round =>
    obtain ⟨k, La, bl, hk, hk6, rfl, hL, hT, hR, hB⟩ := hrel
    have HT := Lib.hid hT
    have HR := Lib.hid hR
    have HB := Lib.hid hB
    clear hT hR hB
    by_cases hgo : k < len ∧ k < 60
    · obtain ⟨hlt, hl6⟩ := hgo
      have hlt' : k < os.length := by rw [HN.out]; exact hlt
      obtain ⟨b, off, rfl, hc⟩ := (HS.out.keep HB.out).flat (C := 4) (fun _ => rfl) (by decide) k hlt'
      have hok := HOK.out _ (List.getElem_mem hlt')
      generalize os[k] = o at hc hok
      have hc0 : wr.cell? ⟨b, off + k * 4, none⟩ = some (.int .i64 o.kind) := hc 0 _ rfl
      have hc1 : wr.cell? ⟨b, off + k * 4 + 1, none⟩ = some (.int .i64 o.id) := hc 1 _ rfl
      have hc2 : wr.cell? ⟨b, off + k * 4 + 2, none⟩ = some (.string o.key) := hc 2 _ rfl
      have hc3 : wr.cell? ⟨b, off + k * 4 + 3, none⟩ = some (.slice o.A o.n o.c) := hc 3 _ rfl
      have HOKO := Lib.hid hok
      clear hc hok
      obtain ⟨kind, id, key, Ak, nk, ck, ss⟩ := o
      go_wp2
      have HD0 := Lib.hid (Blk.new wr 42 #[.int .i64 kind, .int .i64 id, .string key, .slice Ak nk ck])
      have HT0 := Lib.hid (HT.out.alloc (.cells #[.int .i64 kind, .int .i64 id, .string key, .slice Ak nk ck] 42))
      have HR0 := Lib.hid (HR.out.keep ((Keeps.refl notT wr).alloc (.cells #[.int .i64 kind, .int .i64 id, .string key, .slice Ak nk ck] 42)))
      have HB0 := Lib.hid (HB.out.alloc HT.out.above (.cells #[.int .i64 kind, .int .i64 id, .string key, .slice Ak nk ck] 42))
      have hDl : w.heap.size ≤ wr.heap.size := HB.out.size
      generalize wr.alloc (.cells #[.int .i64 kind, .int .i64 id, .string key, .slice Ak nk ck] 42) = W0 at *
      clear hc0 hc1 hc2 hc3 HT HR HB
      generalize wr.heap.size = D at *
      clear wr
      obtain ⟨_, _, hkz, hnm, _, _, hz, hsl⟩ := HOKO.out
      have HKZ := Lib.hid hkz
      have HZ := Lib.hid hz
      have HNM := Lib.hid hnm
      have HSL := Lib.hid hsl
      have HDL := Lib.hid hDl
      have hnk : nk ≤ 9223372036854775807 := Nat.le_trans HOKO.out.2.2.2.2.1 HOKO.out.2.2.2.2.2.1
      clear hkz hz hsl hDl hnm
      refine wp_region_inv (GA W0 D kind id key Ak nk ck ss _ _ _ _ _ _ _ _ _ _ _ _ _ _ _ _ _ _ _ _ _ _ _ _ _ _ _ _ _ _ _ _ _ _ _ _ _ _ _ _ _ _ _ _ _ _ _ _ _ _ _ _ _ _ _ _ _ _ _ _ _ _ _ _ _ _ _ _ _ _ _ _ _ _ _ _ _ _ _ _ _ _ _ _ _ _ _ _ _ _) (by kernel_rfl) (by kernel_rfl) ⟨_, _, _, _, _, _, _, _, rfl, MA.start HD0.out.lt HD0.out _, by simp⟩ ⟨?_, ?_, ?_, ?_, ?_, ?_, ?_, ?_, ?_, ?_, trivial⟩ ?_
      · intro L a' wx hLi hd hG K hK
        refine Exists.elim hG ?_; clear hG; intro u32 hG
        refine Exists.elim hG ?_; clear hG; intro u33 hG
        refine Exists.elim hG ?_; clear hG; intro u34 hG
        refine Exists.elim hG ?_; clear hG; intro u35 hG
        refine Exists.elim hG ?_; clear hG; intro u36 hG
        refine Exists.elim hG ?_; clear hG; intro u37 hG
        refine Exists.elim hG ?_; clear hG; intro u38 hG
        refine Exists.elim hG ?_; clear hG; intro u39 hG
        refine And.elim ?_ hG; clear hG; intro ha hG
        refine And.elim ?_ hG; clear hG; intro hM hG
        refine And.elim ?_ hG; clear hG; intro f0 hG
        refine And.elim ?_ hG; clear hG; intro f1 hG
        refine And.elim ?_ hG; clear hG; intro f2 hG
        refine And.elim ?_ hG; clear hG; intro f3 hG
        refine And.elim ?_ hG; clear hG; intro f4 hG
        refine And.elim ?_ hG; clear hG; intro f5 hG
        refine And.elim ?_ hG; clear hG; intro f6 hG
        have f7 := hG; clear hG
        subst ha
        have HM := Lib.hid hM
        clear hM hd
        have F0 := Lib.hid f0; clear f0
        have F1 := Lib.hid f1; clear f1
        have F2 := Lib.hid f2; clear f2
        have F3 := Lib.hid f3; clear f3
        have F4 := Lib.hid f4; clear f4
        have F5 := Lib.hid f5; clear f5
        have F6 := Lib.hid f6; clear f6
        have F7 := Lib.hid f7; clear f7
        go_simp
        go_wp2
        exact ⟨_, _, _, _, _, _, _, _, rfl, HM.out.same (i := 0) (by decide) (by decide) (by decide), fun _ => rfl, F1.out, F2.out, F3.out, F4.out, F5.out, F6.out, F7.out⟩
      · intro L a' wx hLi hd hG K hK
        refine Exists.elim hG ?_; clear hG; intro u32 hG
        refine Exists.elim hG ?_; clear hG; intro u33 hG
        refine Exists.elim hG ?_; clear hG; intro u34 hG
        refine Exists.elim hG ?_; clear hG; intro u35 hG
        refine Exists.elim hG ?_; clear hG; intro u36 hG
        refine Exists.elim hG ?_; clear hG; intro u37 hG
        refine Exists.elim hG ?_; clear hG; intro u38 hG
        refine Exists.elim hG ?_; clear hG; intro u39 hG
        refine And.elim ?_ hG; clear hG; intro ha hG
        refine And.elim ?_ hG; clear hG; intro hM hG
        refine And.elim ?_ hG; clear hG; intro f0 hG
        refine And.elim ?_ hG; clear hG; intro f1 hG
        refine And.elim ?_ hG; clear hG; intro f2 hG
        refine And.elim ?_ hG; clear hG; intro f3 hG
        refine And.elim ?_ hG; clear hG; intro f4 hG
        refine And.elim ?_ hG; clear hG; intro f5 hG
        refine And.elim ?_ hG; clear hG; intro f6 hG
        have f7 := hG; clear hG
        subst ha
        obtain rfl := f0 (hd ⟨0, .data⟩ (by simp) rfl)
        have hcell := hM.key hLi
        have HM := Lib.hid hM
        clear hM hd
        have F0 := Lib.hid f0; clear f0
        have F1 := Lib.hid f1; clear f1
        have F2 := Lib.hid f2; clear f2
        have F3 := Lib.hid f3; clear f3
        have F4 := Lib.hid f4; clear f4
        have F5 := Lib.hid f5; clear f5
        have F6 := Lib.hid f6; clear f6
        have F7 := Lib.hid f7; clear f7
        go_simp
        go_wp2
        exact ⟨_, _, _, _, _, _, _, _, rfl, HM.out.same (i := 1) (by decide) (by decide) (by decide), fun _ => rfl, fun _ => rfl, F2.out, F3.out, F4.out, F5.out, F6.out, F7.out⟩
      · intro L a' wx hLi hd hG K hK
        refine Exists.elim hG ?_; clear hG; intro u32 hG
        refine Exists.elim hG ?_; clear hG; intro u33 hG
        refine Exists.elim hG ?_; clear hG; intro u34 hG
        refine Exists.elim hG ?_; clear hG; intro u35 hG
        refine Exists.elim hG ?_; clear hG; intro u36 hG
        refine Exists.elim hG ?_; clear hG; intro u37 hG
        refine Exists.elim hG ?_; clear hG; intro u38 hG
        refine Exists.elim hG ?_; clear hG; intro u39 hG
        refine And.elim ?_ hG; clear hG; intro ha hG
        refine And.elim ?_ hG; clear hG; intro hM hG
        refine And.elim ?_ hG; clear hG; intro f0 hG
        refine And.elim ?_ hG; clear hG; intro f1 hG
        refine And.elim ?_ hG; clear hG; intro f2 hG
        refine And.elim ?_ hG; clear hG; intro f3 hG
        refine And.elim ?_ hG; clear hG; intro f4 hG
        refine And.elim ?_ hG; clear hG; intro f5 hG
        refine And.elim ?_ hG; clear hG; intro f6 hG
        have f7 := hG; clear hG
        subst ha
        obtain rfl := f1 (hd ⟨1, .data⟩ (by simp) rfl)
        have HM := Lib.hid hM
        clear hM hd
        have F0 := Lib.hid f0; clear f0
        have F1 := Lib.hid f1; clear f1
        have F2 := Lib.hid f2; clear f2
        have F3 := Lib.hid f3; clear f3
        have F4 := Lib.hid f4; clear f4
        have F5 := Lib.hid f5; clear f5
        have F6 := Lib.hid f6; clear f6
        have F7 := Lib.hid f7; clear f7
        go_simp
        refine (cut_any key 30 (by omega) _ HKZ.out).mono ?_
        rintro e w' ⟨rfl, rfl⟩
        go_wp2
        exact ⟨_, _, _, _, _, _, _, _, rfl, HM.out.same (i := 2) (by decide) (by decide) (by decide), F0.out, fun _ => rfl, fun _ => rfl, F3.out, F4.out, F5.out, F6.out, F7.out⟩
      · intro L a' wx hLi hd hG K hK
        refine Exists.elim hG ?_; clear hG; intro u32 hG
        refine Exists.elim hG ?_; clear hG; intro u33 hG
        refine Exists.elim hG ?_; clear hG; intro u34 hG
        refine Exists.elim hG ?_; clear hG; intro u35 hG
        refine Exists.elim hG ?_; clear hG; intro u36 hG
        refine Exists.elim hG ?_; clear hG; intro u37 hG
        refine Exists.elim hG ?_; clear hG; intro u38 hG
        refine Exists.elim hG ?_; clear hG; intro u39 hG
        refine And.elim ?_ hG; clear hG; intro ha hG
        refine And.elim ?_ hG; clear hG; intro hM hG
        refine And.elim ?_ hG; clear hG; intro f0 hG
        refine And.elim ?_ hG; clear hG; intro f1 hG
        refine And.elim ?_ hG; clear hG; intro f2 hG
        refine And.elim ?_ hG; clear hG; intro f3 hG
        refine And.elim ?_ hG; clear hG; intro f4 hG
        refine And.elim ?_ hG; clear hG; intro f5 hG
        refine And.elim ?_ hG; clear hG; intro f6 hG
        have f7 := hG; clear hG
        subst ha
        have HM := Lib.hid hM
        clear hM hd
        have F0 := Lib.hid f0; clear f0
        have F1 := Lib.hid f1; clear f1
        have F2 := Lib.hid f2; clear f2
        have F3 := Lib.hid f3; clear f3
        have F4 := Lib.hid f4; clear f4
        have F5 := Lib.hid f5; clear f5
        have F6 := Lib.hid f6; clear f6
        have F7 := Lib.hid f7; clear f7
        go_simp
        go_wp2
        exact ⟨_, _, _, _, _, _, _, _, rfl, HM.out.same (i := 3) (by decide) (by decide) (by decide), F0.out, F1.out, F2.out, fun _ => rfl, F4.out, F5.out, F6.out, F7.out⟩
      · intro L a' wx hLi hd hG K hK
        refine Exists.elim hG ?_; clear hG; intro u32 hG
        refine Exists.elim hG ?_; clear hG; intro u33 hG
        refine Exists.elim hG ?_; clear hG; intro u34 hG
        refine Exists.elim hG ?_; clear hG; intro u35 hG
        refine Exists.elim hG ?_; clear hG; intro u36 hG
        refine Exists.elim hG ?_; clear hG; intro u37 hG
        refine Exists.elim hG ?_; clear hG; intro u38 hG
        refine Exists.elim hG ?_; clear hG; intro u39 hG
        refine And.elim ?_ hG; clear hG; intro ha hG
        refine And.elim ?_ hG; clear hG; intro hM hG
        refine And.elim ?_ hG; clear hG; intro f0 hG
        refine And.elim ?_ hG; clear hG; intro f1 hG
        refine And.elim ?_ hG; clear hG; intro f2 hG
        refine And.elim ?_ hG; clear hG; intro f3 hG
        refine And.elim ?_ hG; clear hG; intro f4 hG
        refine And.elim ?_ hG; clear hG; intro f5 hG
        refine And.elim ?_ hG; clear hG; intro f6 hG
        have f7 := hG; clear hG
        subst ha
        obtain rfl := f3 (hd ⟨3, .data⟩ (by simp) rfl)
        have hcell := hM.keys hLi
        have HM := Lib.hid hM
        clear hM hd
        have F0 := Lib.hid f0; clear f0
        have F1 := Lib.hid f1; clear f1
        have F2 := Lib.hid f2; clear f2
        have F3 := Lib.hid f3; clear f3
        have F4 := Lib.hid f4; clear f4
        have F5 := Lib.hid f5; clear f5
        have F6 := Lib.hid f6; clear f6
        have F7 := Lib.hid f7; clear f7
        go_simp
        go_wp2
        exact ⟨_, _, _, _, _, _, _, _, rfl, HM.out.same (i := 4) (by decide) (by decide) (by decide), F0.out, F1.out, F2.out, fun _ => rfl, fun _ => rfl, F5.out, F6.out, F7.out⟩
      · intro L a' wx hLi hd hG K hK
        refine Exists.elim hG ?_; clear hG; intro u32 hG
        refine Exists.elim hG ?_; clear hG; intro u33 hG
        refine Exists.elim hG ?_; clear hG; intro u34 hG
        refine Exists.elim hG ?_; clear hG; intro u35 hG
        refine Exists.elim hG ?_; clear hG; intro u36 hG
        refine Exists.elim hG ?_; clear hG; intro u37 hG
        refine Exists.elim hG ?_; clear hG; intro u38 hG
        refine Exists.elim hG ?_; clear hG; intro u39 hG
        refine And.elim ?_ hG; clear hG; intro ha hG
        refine And.elim ?_ hG; clear hG; intro hM hG
        refine And.elim ?_ hG; clear hG; intro f0 hG
        refine And.elim ?_ hG; clear hG; intro f1 hG
        refine And.elim ?_ hG; clear hG; intro f2 hG
        refine And.elim ?_ hG; clear hG; intro f3 hG
        refine And.elim ?_ hG; clear hG; intro f4 hG
        refine And.elim ?_ hG; clear hG; intro f5 hG
        refine And.elim ?_ hG; clear hG; intro f6 hG
        have f7 := hG; clear hG
        subst ha
        obtain rfl := f4 (hd ⟨4, .data⟩ (by simp) rfl)
        have hslx := hM.slx HDL.out HB0.out HSL.out
        have HM := Lib.hid hM
        clear hM hd
        have F0 := Lib.hid f0; clear f0
        have F1 := Lib.hid f1; clear f1
        have F2 := Lib.hid f2; clear f2
        have F3 := Lib.hid f3; clear f3
        have F4 := Lib.hid f4; clear f4
        have F5 := Lib.hid f5; clear f5
        have F6 := Lib.hid f6; clear f6
        have F7 := Lib.hid f7; clear f7
        go_simp
        refine (texts_sl Ak nk ck ss _ hslx HNM.out hnk HZ.out).mono ?_
        rintro e w5 ⟨A5, c5, rfl, hs5, ha5, hb5⟩
        have HM5 := Lib.hid (HM.out.call (c5 := c5) hLi hs5 ha5 hb5)
        clear hs5 ha5 hb5
        go_wp2
        exact ⟨_, _, _, _, _, _, _, _, rfl, HM5.out, F0.out, F1.out, F2.out, F3.out, fun _ => rfl, fun _ => trivial, F6.out, F7.out⟩
      · intro L a' wx hLi hd hG K hK
        refine Exists.elim hG ?_; clear hG; intro u32 hG
        refine Exists.elim hG ?_; clear hG; intro u33 hG
        refine Exists.elim hG ?_; clear hG; intro u34 hG
        refine Exists.elim hG ?_; clear hG; intro u35 hG
        refine Exists.elim hG ?_; clear hG; intro u36 hG
        refine Exists.elim hG ?_; clear hG; intro u37 hG
        refine Exists.elim hG ?_; clear hG; intro u38 hG
        refine Exists.elim hG ?_; clear hG; intro u39 hG
        refine And.elim ?_ hG; clear hG; intro ha hG
        refine And.elim ?_ hG; clear hG; intro hM hG
        refine And.elim ?_ hG; clear hG; intro f0 hG
        refine And.elim ?_ hG; clear hG; intro f1 hG
        refine And.elim ?_ hG; clear hG; intro f2 hG
        refine And.elim ?_ hG; clear hG; intro f3 hG
        refine And.elim ?_ hG; clear hG; intro f4 hG
        refine And.elim ?_ hG; clear hG; intro f5 hG
        refine And.elim ?_ hG; clear hG; intro f6 hG
        have f7 := hG; clear hG
        subst ha
        have HM := Lib.hid hM
        clear hM hd
        have F0 := Lib.hid f0; clear f0
        have F1 := Lib.hid f1; clear f1
        have F2 := Lib.hid f2; clear f2
        have F3 := Lib.hid f3; clear f3
        have F4 := Lib.hid f4; clear f4
        have F5 := Lib.hid f5; clear f5
        have F6 := Lib.hid f6; clear f6
        have F7 := Lib.hid f7; clear f7
        go_simp
        go_wp2
        exact ⟨_, _, _, _, _, _, _, _, rfl, HM.out.same (i := 6) (by decide) (by decide) (by decide), F0.out, F1.out, F2.out, F3.out, F4.out, F5.out, fun _ => rfl, F7.out⟩
      · intro L a' wx hLi hd hG K hK
        refine Exists.elim hG ?_; clear hG; intro u32 hG
        refine Exists.elim hG ?_; clear hG; intro u33 hG
        refine Exists.elim hG ?_; clear hG; intro u34 hG
        refine Exists.elim hG ?_; clear hG; intro u35 hG
        refine Exists.elim hG ?_; clear hG; intro u36 hG
        refine Exists.elim hG ?_; clear hG; intro u37 hG
        refine Exists.elim hG ?_; clear hG; intro u38 hG
        refine Exists.elim hG ?_; clear hG; intro u39 hG
        refine And.elim ?_ hG; clear hG; intro ha hG
        refine And.elim ?_ hG; clear hG; intro hM hG
        refine And.elim ?_ hG; clear hG; intro f0 hG
        refine And.elim ?_ hG; clear hG; intro f1 hG
        refine And.elim ?_ hG; clear hG; intro f2 hG
        refine And.elim ?_ hG; clear hG; intro f3 hG
        refine And.elim ?_ hG; clear hG; intro f4 hG
        refine And.elim ?_ hG; clear hG; intro f5 hG
        refine And.elim ?_ hG; clear hG; intro f6 hG
        have f7 := hG; clear hG
        subst ha
        obtain rfl := f6 (hd ⟨6, .data⟩ (by simp) rfl)
        obtain rfl := f2 (hd ⟨2, .data⟩ (by simp) rfl)
        have h1 : L 1 = true := hd ⟨1, .phase⟩ (by simp) rfl
        have HM7 := Lib.hid (hM.put2 h1)
        obtain ⟨xd, hdc⟩ := hM.two
        have hdf := hM.frz 2
        have HM := Lib.hid hM
        clear hM hd
        have F0 := Lib.hid f0; clear f0
        have F1 := Lib.hid f1; clear f1
        have F2 := Lib.hid f2; clear f2
        have F3 := Lib.hid f3; clear f3
        have F4 := Lib.hid f4; clear f4
        have F5 := Lib.hid f5; clear f5
        have F6 := Lib.hid f6; clear f6
        have F7 := Lib.hid f7; clear f7
        go_simp
        go_wp2
        exact ⟨_, _, _, _, _, _, _, _, rfl, HM7.out, F0.out, F1.out, fun _ => rfl, F3.out, F4.out, F5.out, fun _ => rfl, F7.out⟩
      · intro L a' wx hLi hd hG K hK
        refine Exists.elim hG ?_; clear hG; intro u32 hG
        refine Exists.elim hG ?_; clear hG; intro u33 hG
        refine Exists.elim hG ?_; clear hG; intro u34 hG
        refine Exists.elim hG ?_; clear hG; intro u35 hG
        refine Exists.elim hG ?_; clear hG; intro u36 hG
        refine Exists.elim hG ?_; clear hG; intro u37 hG
        refine Exists.elim hG ?_; clear hG; intro u38 hG
        refine Exists.elim hG ?_; clear hG; intro u39 hG
        refine And.elim ?_ hG; clear hG; intro ha hG
        refine And.elim ?_ hG; clear hG; intro hM hG
        refine And.elim ?_ hG; clear hG; intro f0 hG
        refine And.elim ?_ hG; clear hG; intro f1 hG
        refine And.elim ?_ hG; clear hG; intro f2 hG
        refine And.elim ?_ hG; clear hG; intro f3 hG
        refine And.elim ?_ hG; clear hG; intro f4 hG
        refine And.elim ?_ hG; clear hG; intro f5 hG
        refine And.elim ?_ hG; clear hG; intro f6 hG
        have f7 := hG; clear hG
        subst ha
        have HM := Lib.hid hM
        clear hM hd
        have F0 := Lib.hid f0; clear f0
        have F1 := Lib.hid f1; clear f1
        have F2 := Lib.hid f2; clear f2
        have F3 := Lib.hid f3; clear f3
        have F4 := Lib.hid f4; clear f4
        have F5 := Lib.hid f5; clear f5
        have F6 := Lib.hid f6; clear f6
        have F7 := Lib.hid f7; clear f7
        go_simp
        go_wp2
        exact ⟨_, _, _, _, _, _, _, _, rfl, HM.out.same (i := 8) (by decide) (by decide) (by decide), F0.out, F1.out, F2.out, F3.out, F4.out, F5.out, F6.out, fun _ => rfl⟩
      · intro L a' wx hLi hd hG K hK
        refine Exists.elim hG ?_; clear hG; intro u32 hG
        refine Exists.elim hG ?_; clear hG; intro u33 hG
        refine Exists.elim hG ?_; clear hG; intro u34 hG
        refine Exists.elim hG ?_; clear hG; intro u35 hG
        refine Exists.elim hG ?_; clear hG; intro u36 hG
        refine Exists.elim hG ?_; clear hG; intro u37 hG
        refine Exists.elim hG ?_; clear hG; intro u38 hG
        refine Exists.elim hG ?_; clear hG; intro u39 hG
        refine And.elim ?_ hG; clear hG; intro ha hG
        refine And.elim ?_ hG; clear hG; intro hM hG
        refine And.elim ?_ hG; clear hG; intro f0 hG
        refine And.elim ?_ hG; clear hG; intro f1 hG
        refine And.elim ?_ hG; clear hG; intro f2 hG
        refine And.elim ?_ hG; clear hG; intro f3 hG
        refine And.elim ?_ hG; clear hG; intro f4 hG
        refine And.elim ?_ hG; clear hG; intro f5 hG
        refine And.elim ?_ hG; clear hG; intro f6 hG
        have f7 := hG; clear hG
        subst ha
        obtain rfl := f7 (hd ⟨8, .data⟩ (by simp) rfl)
        have h4 : L 4 = true := hd ⟨4, .phase⟩ (by simp) rfl
        have h5 : L 5 = true := hd ⟨5, .data⟩ (by simp) rfl
        obtain ⟨A5, c5, rfl, _, _⟩ := hM.own h5
        have HM9 := Lib.hid (hM.put3 h4 h5)
        obtain ⟨xd, hdc⟩ := hM.three
        have hdf := hM.frz 3
        have HM := Lib.hid hM
        clear hM hd
        have F0 := Lib.hid f0; clear f0
        have F1 := Lib.hid f1; clear f1
        have F2 := Lib.hid f2; clear f2
        have F3 := Lib.hid f3; clear f3
        have F4 := Lib.hid f4; clear f4
        have F5 := Lib.hid f5; clear f5
        have F6 := Lib.hid f6; clear f6
        have F7 := Lib.hid f7; clear f7
        go_simp
        go_wp2
        exact ⟨_, _, _, _, _, _, _, _, rfl, HM9.out, F0.out, F1.out, F2.out, F3.out, F4.out, F5.out, F6.out, fun _ => rfl⟩
      · intro L a' wx hL hG
        obtain ⟨u32, u33, u34, u35, u36, u37, u38, u39, rfl, hM, f0, f1, f2, f3, f4, f5, f6, f7⟩ := hG
        have h5 := hL 5 (by simp)
        have h7 := hL 7 (by simp)
        have h9 := hL 9 (by simp)
        obtain ⟨h0, hgrow, ⟨x2, x3, hbD, _, b2, _, b4⟩, how⟩ := hM
        obtain rfl := (b2 h7).2
        obtain rfl := (b4 h9).2
        obtain ⟨A5, c5, rfl, hs5, ha5⟩ := how h5
        have HDx := Lib.hid hbD
        have HOx : Hid (OwnTexts W0.heap.size wx (.slice A5 (keysTo ss nk).length c5) (keysTo ss nk)) := Lib.hid ⟨A5, c5, rfl, hs5, ha5⟩
        have HTx := Lib.hid (HT0.out.keepT (keeps_other hgrow HD0.out rfl))
        have HRx := Lib.hid (HR0.out.keepR (keeps_other hgrow HD0.out rfl))
        have HBx := Lib.hid (HB0.out.grown hgrow HB0.out.size (fun g hg => by cases hg; exact HDL.out))
        have hsk : (keysTo ss nk).length ≤ 4 := by
          unfold keysTo textsTo
          rw [List.length_map, List.length_take]
          omega
        clear b2 b4 how h5 h7 h9 hL f0 f1 f2 f3 f4 f5 f6 f7 hs5 ha5 HT0 HR0 HB0 HD0 hbD hgrow HKZ HZ HNM HSL hnk
        generalize keysTo ss nk = sk at *
        generalize cutS key 30 = ky at *
        generalize W0.heap.size = lo at *
        have ck0 : wx.cell? ⟨D, 0, none⟩ = some (.int .i64 kind) := HDx.out.cell 0
        have ck1 : wx.cell? ⟨D, 1, none⟩ = some (.int .i64 id) := HDx.out.cell 1
        by_cases k0 : kind = 0
        · subst k0
          go_wp2
          refine wp_region_inv (GB w D T M w2.heap.size _ _ _ _ La (La ++ [⟨ky, true, false⟩]) ky _ _ _ _ _ _ _ _ _ _ _ _ _ _ _ _ _ _ _ _ _ _ _ _ _ _ _ _ _ _ _ _ _ _ _ _ _ _ _ _ _ _ _ _ _ _ _ _ _ _ _ _ _ _ _ _ _ _ _ _ _ _ _ _ _ _ _ _ _ _ _ _ _ _ _ _ _ _ _ _ _ _ _ _ _ _ _ _ _) (by kernel_rfl) (by kernel_rfl) ⟨_, _, _, _, _, _, _, _, _, rfl, MB.start HDx.out HOx.out HTx.out HRx.out HBx.out, by simp⟩ ⟨?_, ?_, ?_, ?_, ?_, ?_, ?_, ?_, ?_, trivial⟩ ?_
          · intro L a' wx hLi hd hG K hK
            refine Exists.elim hG ?_; clear hG; intro u49 hG
            refine Exists.elim hG ?_; clear hG; intro u50 hG
            refine Exists.elim hG ?_; clear hG; intro u51 hG
            refine Exists.elim hG ?_; clear hG; intro u52 hG
            refine Exists.elim hG ?_; clear hG; intro u53 hG
            refine Exists.elim hG ?_; clear hG; intro u54 hG
            refine Exists.elim hG ?_; clear hG; intro u55 hG
            refine Exists.elim hG ?_; clear hG; intro u56 hG
            refine Exists.elim hG ?_; clear hG; intro u57 hG
            refine And.elim ?_ hG; clear hG; intro ha hG
            refine And.elim ?_ hG; clear hG; intro hM hG
            refine And.elim ?_ hG; clear hG; intro f0 hG
            refine And.elim ?_ hG; clear hG; intro f1 hG
            refine And.elim ?_ hG; clear hG; intro f2 hG
            refine And.elim ?_ hG; clear hG; intro f3 hG
            refine And.elim ?_ hG; clear hG; intro f4 hG
            refine And.elim ?_ hG; clear hG; intro f5 hG
            refine And.elim ?_ hG; clear hG; intro f6 hG
            refine And.elim ?_ hG; clear hG; intro f7 hG
            have f8 := hG; clear hG
            subst ha
            have HM := Lib.hid hM
            clear hM hd
            have F0 := Lib.hid f0; clear f0
            have F1 := Lib.hid f1; clear f1
            have F2 := Lib.hid f2; clear f2
            have F3 := Lib.hid f3; clear f3
            have F4 := Lib.hid f4; clear f4
            have F5 := Lib.hid f5; clear f5
            have F6 := Lib.hid f6; clear f6
            have F7 := Lib.hid f7; clear f7
            have F8 := Lib.hid f8; clear f8
            go_simp
            go_wp2
            exact ⟨_, _, _, _, _, _, _, _, _, rfl, HM.out.same (i := 0) (by decide) (by decide), fun _ => rfl, F1.out, F2.out, F3.out, F4.out, F5.out, F6.out, F7.out, F8.out⟩
          · intro L a' wx hLi hd hG K hK
            refine Exists.elim hG ?_; clear hG; intro u49 hG
            refine Exists.elim hG ?_; clear hG; intro u50 hG
            refine Exists.elim hG ?_; clear hG; intro u51 hG
            refine Exists.elim hG ?_; clear hG; intro u52 hG
            refine Exists.elim hG ?_; clear hG; intro u53 hG
            refine Exists.elim hG ?_; clear hG; intro u54 hG
            refine Exists.elim hG ?_; clear hG; intro u55 hG
            refine Exists.elim hG ?_; clear hG; intro u56 hG
            refine Exists.elim hG ?_; clear hG; intro u57 hG
            refine And.elim ?_ hG; clear hG; intro ha hG
            refine And.elim ?_ hG; clear hG; intro hM hG
            refine And.elim ?_ hG; clear hG; intro f0 hG
            refine And.elim ?_ hG; clear hG; intro f1 hG
            refine And.elim ?_ hG; clear hG; intro f2 hG
            refine And.elim ?_ hG; clear hG; intro f3 hG
            refine And.elim ?_ hG; clear hG; intro f4 hG
            refine And.elim ?_ hG; clear hG; intro f5 hG
            refine And.elim ?_ hG; clear hG; intro f6 hG
            refine And.elim ?_ hG; clear hG; intro f7 hG
            have f8 := hG; clear hG
            subst ha
            have HM := Lib.hid hM
            clear hM hd
            have F0 := Lib.hid f0; clear f0
            have F1 := Lib.hid f1; clear f1
            have F2 := Lib.hid f2; clear f2
            have F3 := Lib.hid f3; clear f3
            have F4 := Lib.hid f4; clear f4
            have F5 := Lib.hid f5; clear f5
            have F6 := Lib.hid f6; clear f6
            have F7 := Lib.hid f7; clear f7
            have F8 := Lib.hid f8; clear f8
            go_simp
            go_wp2
            exact ⟨_, _, _, _, _, _, _, _, _, rfl, HM.out.same (i := 1) (by decide) (by decide), F0.out, fun _ => rfl, F2.out, F3.out, F4.out, F5.out, F6.out, F7.out, F8.out⟩
          · intro L a' wx hLi hd hG K hK
            refine Exists.elim hG ?_; clear hG; intro u49 hG
            refine Exists.elim hG ?_; clear hG; intro u50 hG
            refine Exists.elim hG ?_; clear hG; intro u51 hG
            refine Exists.elim hG ?_; clear hG; intro u52 hG
            refine Exists.elim hG ?_; clear hG; intro u53 hG
            refine Exists.elim hG ?_; clear hG; intro u54 hG
            refine Exists.elim hG ?_; clear hG; intro u55 hG
            refine Exists.elim hG ?_; clear hG; intro u56 hG
            refine Exists.elim hG ?_; clear hG; intro u57 hG
            refine And.elim ?_ hG; clear hG; intro ha hG
            refine And.elim ?_ hG; clear hG; intro hM hG
            refine And.elim ?_ hG; clear hG; intro f0 hG
            refine And.elim ?_ hG; clear hG; intro f1 hG
            refine And.elim ?_ hG; clear hG; intro f2 hG
            refine And.elim ?_ hG; clear hG; intro f3 hG
            refine And.elim ?_ hG; clear hG; intro f4 hG
            refine And.elim ?_ hG; clear hG; intro f5 hG
            refine And.elim ?_ hG; clear hG; intro f6 hG
            refine And.elim ?_ hG; clear hG; intro f7 hG
            have f8 := hG; clear hG
            subst ha
            obtain rfl := f1 (hd ⟨1, .data⟩ (by simp) rfl)
            have hcell : wx.cell? ⟨D, 2, none⟩ = some (.string ky) := hM.blk.cell 2
            have HM := Lib.hid hM
            clear hM hd
            have F0 := Lib.hid f0; clear f0
            have F1 := Lib.hid f1; clear f1
            have F2 := Lib.hid f2; clear f2
            have F3 := Lib.hid f3; clear f3
            have F4 := Lib.hid f4; clear f4
            have F5 := Lib.hid f5; clear f5
            have F6 := Lib.hid f6; clear f6
            have F7 := Lib.hid f7; clear f7
            have F8 := Lib.hid f8; clear f8
            go_simp
            go_wp2
            exact ⟨_, _, _, _, _, _, _, _, _, rfl, HM.out.same (i := 2) (by decide) (by decide), F0.out, fun _ => rfl, fun _ => rfl, F3.out, F4.out, F5.out, F6.out, F7.out, F8.out⟩
          · intro L a' wx hLi hd hG K hK
            refine Exists.elim hG ?_; clear hG; intro u49 hG
            refine Exists.elim hG ?_; clear hG; intro u50 hG
            refine Exists.elim hG ?_; clear hG; intro u51 hG
            refine Exists.elim hG ?_; clear hG; intro u52 hG
            refine Exists.elim hG ?_; clear hG; intro u53 hG
            refine Exists.elim hG ?_; clear hG; intro u54 hG
            refine Exists.elim hG ?_; clear hG; intro u55 hG
            refine Exists.elim hG ?_; clear hG; intro u56 hG
            refine Exists.elim hG ?_; clear hG; intro u57 hG
            refine And.elim ?_ hG; clear hG; intro ha hG
            refine And.elim ?_ hG; clear hG; intro hM hG
            refine And.elim ?_ hG; clear hG; intro f0 hG
            refine And.elim ?_ hG; clear hG; intro f1 hG
            refine And.elim ?_ hG; clear hG; intro f2 hG
            refine And.elim ?_ hG; clear hG; intro f3 hG
            refine And.elim ?_ hG; clear hG; intro f4 hG
            refine And.elim ?_ hG; clear hG; intro f5 hG
            refine And.elim ?_ hG; clear hG; intro f6 hG
            refine And.elim ?_ hG; clear hG; intro f7 hG
            have f8 := hG; clear hG
            subst ha
            obtain rfl := f0 (hd ⟨0, .data⟩ (by simp) rfl)
            obtain rfl := f2 (hd ⟨2, .data⟩ (by simp) rfl)
            obtain ⟨bl1, ht1⟩ := hM.tokA hLi
            have HT1 := Lib.hid ht1
            clear ht1
            have HM := Lib.hid hM
            clear hM hd
            have F0 := Lib.hid f0; clear f0
            have F1 := Lib.hid f1; clear f1
            have F2 := Lib.hid f2; clear f2
            have F3 := Lib.hid f3; clear f3
            have F4 := Lib.hid f4; clear f4
            have F5 := Lib.hid f5; clear f5
            have F6 := Lib.hid f6; clear f6
            have F7 := Lib.hid f7; clear f7
            have F8 := Lib.hid f8; clear f8
            go_simp
            refine (give_k wx _ T M La bl1 ky HT1.out (by omega)).mono ?_
            rintro e wy ⟨bl2, rfl, ht2, hb2, hk2⟩
            have HM2 := Lib.hid (HM.out.give ht2 hb2 hk2)
            clear ht2 hb2 hk2
            go_wp2
            exact ⟨_, _, _, _, _, _, _, _, _, rfl, HM2.out, fun _ => rfl, F1.out, fun _ => rfl, fun _ => rfl, F4.out, F5.out, F6.out, F7.out, F8.out⟩
          · intro L a' wx hLi hd hG K hK
            refine Exists.elim hG ?_; clear hG; intro u49 hG
            refine Exists.elim hG ?_; clear hG; intro u50 hG
            refine Exists.elim hG ?_; clear hG; intro u51 hG
            refine Exists.elim hG ?_; clear hG; intro u52 hG
            refine Exists.elim hG ?_; clear hG; intro u53 hG
            refine Exists.elim hG ?_; clear hG; intro u54 hG
            refine Exists.elim hG ?_; clear hG; intro u55 hG
            refine Exists.elim hG ?_; clear hG; intro u56 hG
            refine Exists.elim hG ?_; clear hG; intro u57 hG
            refine And.elim ?_ hG; clear hG; intro ha hG
            refine And.elim ?_ hG; clear hG; intro hM hG
            refine And.elim ?_ hG; clear hG; intro f0 hG
            refine And.elim ?_ hG; clear hG; intro f1 hG
            refine And.elim ?_ hG; clear hG; intro f2 hG
            refine And.elim ?_ hG; clear hG; intro f3 hG
            refine And.elim ?_ hG; clear hG; intro f4 hG
            refine And.elim ?_ hG; clear hG; intro f5 hG
            refine And.elim ?_ hG; clear hG; intro f6 hG
            refine And.elim ?_ hG; clear hG; intro f7 hG
            have f8 := hG; clear hG
            subst ha
            have HM := Lib.hid hM
            clear hM hd
            have F0 := Lib.hid f0; clear f0
            have F1 := Lib.hid f1; clear f1
            have F2 := Lib.hid f2; clear f2
            have F3 := Lib.hid f3; clear f3
            have F4 := Lib.hid f4; clear f4
            have F5 := Lib.hid f5; clear f5
            have F6 := Lib.hid f6; clear f6
            have F7 := Lib.hid f7; clear f7
            have F8 := Lib.hid f8; clear f8
            go_simp
            go_wp2
            exact ⟨_, _, _, _, _, _, _, _, _, rfl, HM.out.same (i := 4) (by decide) (by decide), F0.out, F1.out, F2.out, F3.out, fun _ => rfl, F5.out, F6.out, F7.out, F8.out⟩
          · intro L a' wx hLi hd hG K hK
            refine Exists.elim hG ?_; clear hG; intro u49 hG
            refine Exists.elim hG ?_; clear hG; intro u50 hG
            refine Exists.elim hG ?_; clear hG; intro u51 hG
            refine Exists.elim hG ?_; clear hG; intro u52 hG
            refine Exists.elim hG ?_; clear hG; intro u53 hG
            refine Exists.elim hG ?_; clear hG; intro u54 hG
            refine Exists.elim hG ?_; clear hG; intro u55 hG
            refine Exists.elim hG ?_; clear hG; intro u56 hG
            refine Exists.elim hG ?_; clear hG; intro u57 hG
            refine And.elim ?_ hG; clear hG; intro ha hG
            refine And.elim ?_ hG; clear hG; intro hM hG
            refine And.elim ?_ hG; clear hG; intro f0 hG
            refine And.elim ?_ hG; clear hG; intro f1 hG
            refine And.elim ?_ hG; clear hG; intro f2 hG
            refine And.elim ?_ hG; clear hG; intro f3 hG
            refine And.elim ?_ hG; clear hG; intro f4 hG
            refine And.elim ?_ hG; clear hG; intro f5 hG
            refine And.elim ?_ hG; clear hG; intro f6 hG
            refine And.elim ?_ hG; clear hG; intro f7 hG
            have f8 := hG; clear hG
            subst ha
            have HM := Lib.hid hM
            clear hM hd
            have F0 := Lib.hid f0; clear f0
            have F1 := Lib.hid f1; clear f1
            have F2 := Lib.hid f2; clear f2
            have F3 := Lib.hid f3; clear f3
            have F4 := Lib.hid f4; clear f4
            have F5 := Lib.hid f5; clear f5
            have F6 := Lib.hid f6; clear f6
            have F7 := Lib.hid f7; clear f7
            have F8 := Lib.hid f8; clear f8
            go_simp
            go_wp2
            exact ⟨_, _, _, _, _, _, _, _, _, rfl, HM.out.same (i := 5) (by decide) (by decide), F0.out, F1.out, F2.out, F3.out, F4.out, fun _ => rfl, F6.out, F7.out, F8.out⟩
          · intro L a' wx hLi hd hG K hK
            refine Exists.elim hG ?_; clear hG; intro u49 hG
            refine Exists.elim hG ?_; clear hG; intro u50 hG
            refine Exists.elim hG ?_; clear hG; intro u51 hG
            refine Exists.elim hG ?_; clear hG; intro u52 hG
            refine Exists.elim hG ?_; clear hG; intro u53 hG
            refine Exists.elim hG ?_; clear hG; intro u54 hG
            refine Exists.elim hG ?_; clear hG; intro u55 hG
            refine Exists.elim hG ?_; clear hG; intro u56 hG
            refine Exists.elim hG ?_; clear hG; intro u57 hG
            refine And.elim ?_ hG; clear hG; intro ha hG
            refine And.elim ?_ hG; clear hG; intro hM hG
            refine And.elim ?_ hG; clear hG; intro f0 hG
            refine And.elim ?_ hG; clear hG; intro f1 hG
            refine And.elim ?_ hG; clear hG; intro f2 hG
            refine And.elim ?_ hG; clear hG; intro f3 hG
            refine And.elim ?_ hG; clear hG; intro f4 hG
            refine And.elim ?_ hG; clear hG; intro f5 hG
            refine And.elim ?_ hG; clear hG; intro f6 hG
            refine And.elim ?_ hG; clear hG; intro f7 hG
            have f8 := hG; clear hG
            subst ha
            obtain rfl := f5 (hd ⟨5, .data⟩ (by simp) rfl)
            have hcell : wx.cell? ⟨D, 2, none⟩ = some (.string ky) := hM.blk.cell 2
            have HM := Lib.hid hM
            clear hM hd
            have F0 := Lib.hid f0; clear f0
            have F1 := Lib.hid f1; clear f1
            have F2 := Lib.hid f2; clear f2
            have F3 := Lib.hid f3; clear f3
            have F4 := Lib.hid f4; clear f4
            have F5 := Lib.hid f5; clear f5
            have F6 := Lib.hid f6; clear f6
            have F7 := Lib.hid f7; clear f7
            have F8 := Lib.hid f8; clear f8
            go_simp
            go_wp2
            exact ⟨_, _, _, _, _, _, _, _, _, rfl, HM.out.same (i := 6) (by decide) (by decide), F0.out, F1.out, F2.out, F3.out, F4.out, fun _ => rfl, fun _ => rfl, F7.out, F8.out⟩
          · intro L a' wx hLi hd hG K hK
            refine Exists.elim hG ?_; clear hG; intro u49 hG
            refine Exists.elim hG ?_; clear hG; intro u50 hG
            refine Exists.elim hG ?_; clear hG; intro u51 hG
            refine Exists.elim hG ?_; clear hG; intro u52 hG
            refine Exists.elim hG ?_; clear hG; intro u53 hG
            refine Exists.elim hG ?_; clear hG; intro u54 hG
            refine Exists.elim hG ?_; clear hG; intro u55 hG
            refine Exists.elim hG ?_; clear hG; intro u56 hG
            refine Exists.elim hG ?_; clear hG; intro u57 hG
            refine And.elim ?_ hG; clear hG; intro ha hG
            refine And.elim ?_ hG; clear hG; intro hM hG
            refine And.elim ?_ hG; clear hG; intro f0 hG
            refine And.elim ?_ hG; clear hG; intro f1 hG
            refine And.elim ?_ hG; clear hG; intro f2 hG
            refine And.elim ?_ hG; clear hG; intro f3 hG
            refine And.elim ?_ hG; clear hG; intro f4 hG
            refine And.elim ?_ hG; clear hG; intro f5 hG
            refine And.elim ?_ hG; clear hG; intro f6 hG
            refine And.elim ?_ hG; clear hG; intro f7 hG
            have f8 := hG; clear hG
            subst ha
            obtain rfl := f4 (hd ⟨4, .data⟩ (by simp) rfl)
            obtain rfl := f6 (hd ⟨6, .data⟩ (by simp) rfl)
            have HR1 := Lib.hid (hM.rtokA hLi)
            have HM := Lib.hid hM
            clear hM hd
            have F0 := Lib.hid f0; clear f0
            have F1 := Lib.hid f1; clear f1
            have F2 := Lib.hid f2; clear f2
            have F3 := Lib.hid f3; clear f3
            have F4 := Lib.hid f4; clear f4
            have F5 := Lib.hid f5; clear f5
            have F6 := Lib.hid f6; clear f6
            have F7 := Lib.hid f7; clear f7
            have F8 := Lib.hid f8; clear f8
            go_simp
            refine (rgive_any wx _ w2.heap.size La ky HR1.out (by omega)).mono ?_
            rintro e wy ⟨rfl, hr2, hb2, hk2⟩
            have HM2 := Lib.hid (HM.out.rgive hr2 hb2 hk2)
            clear hr2 hb2 hk2
            go_wp2
            exact ⟨_, _, _, _, _, _, _, _, _, rfl, HM2.out, F0.out, F1.out, F2.out, F3.out, fun _ => rfl, F5.out, fun _ => rfl, fun _ => rfl, F8.out⟩
          · intro L a' wx hLi hd hG K hK
            refine Exists.elim hG ?_; clear hG; intro u49 hG
            refine Exists.elim hG ?_; clear hG; intro u50 hG
            refine Exists.elim hG ?_; clear hG; intro u51 hG
            refine Exists.elim hG ?_; clear hG; intro u52 hG
            refine Exists.elim hG ?_; clear hG; intro u53 hG
            refine Exists.elim hG ?_; clear hG; intro u54 hG
            refine Exists.elim hG ?_; clear hG; intro u55 hG
            refine Exists.elim hG ?_; clear hG; intro u56 hG
            refine Exists.elim hG ?_; clear hG; intro u57 hG
            refine And.elim ?_ hG; clear hG; intro ha hG
            refine And.elim ?_ hG; clear hG; intro hM hG
            refine And.elim ?_ hG; clear hG; intro f0 hG
            refine And.elim ?_ hG; clear hG; intro f1 hG
            refine And.elim ?_ hG; clear hG; intro f2 hG
            refine And.elim ?_ hG; clear hG; intro f3 hG
            refine And.elim ?_ hG; clear hG; intro f4 hG
            refine And.elim ?_ hG; clear hG; intro f5 hG
            refine And.elim ?_ hG; clear hG; intro f6 hG
            refine And.elim ?_ hG; clear hG; intro f7 hG
            have f8 := hG; clear hG
            subst ha
            obtain rfl := f3 (hd ⟨3, .data⟩ (by simp) rfl)
            obtain rfl := f7 (hd ⟨7, .data⟩ (by simp) rfl)
            have HM := Lib.hid hM
            clear hM hd
            have F0 := Lib.hid f0; clear f0
            have F1 := Lib.hid f1; clear f1
            have F2 := Lib.hid f2; clear f2
            have F3 := Lib.hid f3; clear f3
            have F4 := Lib.hid f4; clear f4
            have F5 := Lib.hid f5; clear f5
            have F6 := Lib.hid f6; clear f6
            have F7 := Lib.hid f7; clear f7
            have F8 := Lib.hid f8; clear f8
            go_simp
            go_wp2
            exact ⟨_, _, _, _, _, _, _, _, _, rfl, HM.out.same (i := 8) (by decide) (by decide), F0.out, F1.out, F2.out, fun _ => rfl, F4.out, F5.out, F6.out, fun _ => rfl, fun _ => rfl⟩
          · intro L a' wx hL hG
            obtain ⟨u49, u50, u51, u52, u53, u54, u55, u56, u57, rfl, hM, f0, f1, f2, f3, f4, f5, f6, f7, f8⟩ := hG
            have h3 := hL 3 (by simp)
            have h7 := hL 7 (by simp)
            have h8 := f8 (hL 8 (by simp))
            subst h8
            obtain ⟨_, _, ⟨bl2, ht2⟩, hr2, hb2⟩ := hM
            rw [h3, if_pos rfl] at ht2
            rw [h7, if_pos rfl] at hr2
            have HT2 := Lib.hid ht2
            have HR2 := Lib.hid hr2
            have HB2 := Lib.hid hb2
            clear f0 f1 f2 f3 f4 f5 f6 f7 f8 ht2 hr2 hb2 h3 h7 hL
            obtain ⟨Lb, hLb⟩ : ∃ Lb, Lb = La ++ [(⟨ky, true, false⟩ : TkS)] := ⟨_, rfl⟩
            rw [← hLb] at HT2 HR2
            have hlb : Lb.length ≤ k + 1 := by rw [hLb, List.length_append, List.length_singleton]; omega
            clear hLb
            go_wp2_with fail
            refine (len_any _ w.heap.size T M Lb bl2 HT2.out).mono ?_
            rintro e w7 ⟨rfl, rfl⟩
            go_wp2_with fail
            refine (rlen_any _ w.heap.size w2.heap.size Lb HR2.out (by omega)).mono ?_
            rintro e w7 ⟨rfl, rfl⟩
            go_wp2
            exact ⟨⟨k + 1, Lb, bl2, by omega, by omega, by go_num, by omega, HT2.out, HR2.out, HB2.out⟩, by simp [intOf]; omega⟩
        · by_cases k1 : kind = 1
          · subst k1
            clear k0
            by_cases hu : ∃ i : Nat, ∃ h : i < La.length, id = (i : Int) + 1 ∧ La[i].used = false
            · obtain ⟨i, hi, rfl, hus⟩ := hu
              have U1 := Lib.hid (use_k wx w.heap.size T M La bl i HTx.out hi hus)
              have U2 := Lib.hid (fun wr (h : RTok wr w.heap.size w2.heap.size La) => ruse_yes wr w.heap.size w2.heap.size La i h (by omega) hi hus)
              generalize La[i].key = ky1 at *
              generalize La[i].good = gd1 at *
              clear hus
              go_wp2_with fail
              refine U1.out.mono ?_
              rintro e w5 ⟨rfl, ht5, hb5, hk5⟩
              have HT5 := Lib.hid ht5
              have HB5 := Lib.hid (HBx.out.trans hb5)
              have HR5 := Lib.hid (HRx.out.keep hk5)
              have hck : w5.cell? ⟨D, 1, none⟩ = some (.int .i64 ((i : Int) + 1)) := by
                have : Blk w5 D 42 _ := hk5 _ _ HDx.out rfl
                exact this.cell 1
              clear ht5 hb5 hk5 ck0 ck1
              go_wp2_with fail
              refine (U2.out w5 HR5.out).mono ?_
              rintro e w6 ⟨rfl, hr6, hb6, hk6⟩
              have HT2 := Lib.hid (HT5.out.keepT (hk6.imp isT_notR))
              have HB2 := Lib.hid (HB5.out.trans hb6)
              have HR2 := Lib.hid hr6
              clear hr6 hb6 hk6 hck
              obtain ⟨Lb, hLb⟩ : ∃ Lb, Lb = La.set i ⟨ky1, gd1, true⟩ := ⟨_, rfl⟩
              rw [← hLb] at HT2 HR2
              have hlb : Lb.length ≤ k + 1 := by rw [hLb, List.length_set]; omega
              clear hLb U1 U2
              obtain ⟨bl2, hbl2⟩ : ∃ b, b = bl := ⟨_, rfl⟩
              rw [← hbl2] at HT2
              clear hbl2
              go_wp2_with fail
              refine (len_any _ w.heap.size T M Lb bl2 HT2.out).mono ?_
              rintro e w7 ⟨rfl, rfl⟩
              go_wp2_with fail
              refine (rlen_any _ w.heap.size w2.heap.size Lb HR2.out (by omega)).mono ?_
              rintro e w7 ⟨rfl, rfl⟩
              go_wp2
              exact ⟨⟨k + 1, Lb, bl2, by omega, by omega, by go_num, by omega, HT2.out, HR2.out, HB2.out⟩, by simp [intOf]; omega⟩
            · have hno : ∀ i, i < La.length → left La i = true → id ≠ (i : Int) + 1 := fun i hi hl e => hu ⟨i, hi, e, by
                unfold left at hl
                rw [List.getElem?_eq_getElem hi] at hl
                simpa using hl⟩
              have U1 := Lib.hid (use_no wx w.heap.size T M La bl id HTx.out hno)
              have U2 := Lib.hid (ruse_no wx w.heap.size w2.heap.size La id HRx.out (by omega) hno)
              clear hu hno
              go_wp2_with fail
              refine U1.out.mono ?_
              rintro e w5 ⟨rfl, rfl⟩
              go_wp2_with fail
              refine U2.out.mono ?_
              rintro e w6 ⟨rfl, rfl⟩
              obtain ⟨Lb, hLb⟩ : ∃ Lb, Lb = La := ⟨_, rfl⟩
              have HT2 := HTx
              have HR2 := HRx
              have HB2 := HBx
              rw [← hLb] at HT2 HR2
              have hlb : Lb.length ≤ k + 1 := by rw [hLb]; omega
              clear hLb U1 U2
              obtain ⟨bl2, hbl2⟩ : ∃ b, b = bl := ⟨_, rfl⟩
              rw [← hbl2] at HT2
              clear hbl2
              go_wp2_with fail
              refine (len_any _ w.heap.size T M Lb bl2 HT2.out).mono ?_
              rintro e w7 ⟨rfl, rfl⟩
              go_wp2_with fail
              refine (rlen_any _ w.heap.size w2.heap.size Lb HR2.out (by omega)).mono ?_
              rintro e w7 ⟨rfl, rfl⟩
              go_wp2
              exact ⟨⟨k + 1, Lb, bl2, by omega, by omega, by go_num, by omega, HT2.out, HR2.out, HB2.out⟩, by simp [intOf]; omega⟩
          · by_cases k2 : kind = 2
            · subst k2
              clear k0 k1
              go_wp2
              refine wp_region_inv (GK w D T M w2.heap.size _ _ _ _ La (La.map (hurt1 fun s => inB s sk)) A5 c5 _ _ _ _ _ _ _ _ _ _ _ _ _ _ _ _ _ _ _ _ _ _ _ _ _ _ _ _ _ _ _ _ _ _ _ _ _ _ _ _ _ _ _ _ _ _ _ _ _ _ _ _ _ _ _ _ _ _ _ _ _ _ _ _ _ _ _ _ _ _ _ _ _ _ _ _ _ _ _ _ _ _ _ _ _ _ _ _ _) (by kernel_rfl) (by kernel_rfl) ⟨_, _, _, _, _, _, _, _, _, rfl, MB.start HDx.out HOx.out HTx.out HRx.out HBx.out, by simp⟩ ⟨?_, ?_, ?_, ?_, ?_, ?_, ?_, ?_, ?_, trivial⟩ ?_
              · intro L a' wx hLi hd hG K hK
                refine Exists.elim hG ?_; clear hG; intro u84 hG
                refine Exists.elim hG ?_; clear hG; intro u85 hG
                refine Exists.elim hG ?_; clear hG; intro u86 hG
                refine Exists.elim hG ?_; clear hG; intro u87 hG
                refine Exists.elim hG ?_; clear hG; intro u88 hG
                refine Exists.elim hG ?_; clear hG; intro u89 hG
                refine Exists.elim hG ?_; clear hG; intro u90 hG
                refine Exists.elim hG ?_; clear hG; intro u91 hG
                refine Exists.elim hG ?_; clear hG; intro u92 hG
                refine And.elim ?_ hG; clear hG; intro ha hG
                refine And.elim ?_ hG; clear hG; intro hM hG
                refine And.elim ?_ hG; clear hG; intro f0 hG
                refine And.elim ?_ hG; clear hG; intro f1 hG
                refine And.elim ?_ hG; clear hG; intro f2 hG
                refine And.elim ?_ hG; clear hG; intro f3 hG
                refine And.elim ?_ hG; clear hG; intro f4 hG
                refine And.elim ?_ hG; clear hG; intro f5 hG
                refine And.elim ?_ hG; clear hG; intro f6 hG
                refine And.elim ?_ hG; clear hG; intro f7 hG
                have f8 := hG; clear hG
                subst ha
                have HM := Lib.hid hM
                clear hM hd
                have F0 := Lib.hid f0; clear f0
                have F1 := Lib.hid f1; clear f1
                have F2 := Lib.hid f2; clear f2
                have F3 := Lib.hid f3; clear f3
                have F4 := Lib.hid f4; clear f4
                have F5 := Lib.hid f5; clear f5
                have F6 := Lib.hid f6; clear f6
                have F7 := Lib.hid f7; clear f7
                have F8 := Lib.hid f8; clear f8
                go_simp
                go_wp2
                exact ⟨_, _, _, _, _, _, _, _, _, rfl, HM.out.same (i := 0) (by decide) (by decide), fun _ => rfl, F1.out, F2.out, F3.out, F4.out, F5.out, F6.out, F7.out, F8.out⟩
              · intro L a' wx hLi hd hG K hK
                refine Exists.elim hG ?_; clear hG; intro u84 hG
                refine Exists.elim hG ?_; clear hG; intro u85 hG
                refine Exists.elim hG ?_; clear hG; intro u86 hG
                refine Exists.elim hG ?_; clear hG; intro u87 hG
                refine Exists.elim hG ?_; clear hG; intro u88 hG
                refine Exists.elim hG ?_; clear hG; intro u89 hG
                refine Exists.elim hG ?_; clear hG; intro u90 hG
                refine Exists.elim hG ?_; clear hG; intro u91 hG
                refine Exists.elim hG ?_; clear hG; intro u92 hG
                refine And.elim ?_ hG; clear hG; intro ha hG
                refine And.elim ?_ hG; clear hG; intro hM hG
                refine And.elim ?_ hG; clear hG; intro f0 hG
                refine And.elim ?_ hG; clear hG; intro f1 hG
                refine And.elim ?_ hG; clear hG; intro f2 hG
                refine And.elim ?_ hG; clear hG; intro f3 hG
                refine And.elim ?_ hG; clear hG; intro f4 hG
                refine And.elim ?_ hG; clear hG; intro f5 hG
                refine And.elim ?_ hG; clear hG; intro f6 hG
                refine And.elim ?_ hG; clear hG; intro f7 hG
                have f8 := hG; clear hG
                subst ha
                have HM := Lib.hid hM
                clear hM hd
                have F0 := Lib.hid f0; clear f0
                have F1 := Lib.hid f1; clear f1
                have F2 := Lib.hid f2; clear f2
                have F3 := Lib.hid f3; clear f3
                have F4 := Lib.hid f4; clear f4
                have F5 := Lib.hid f5; clear f5
                have F6 := Lib.hid f6; clear f6
                have F7 := Lib.hid f7; clear f7
                have F8 := Lib.hid f8; clear f8
                go_simp
                go_wp2
                exact ⟨_, _, _, _, _, _, _, _, _, rfl, HM.out.same (i := 1) (by decide) (by decide), F0.out, fun _ => rfl, F2.out, F3.out, F4.out, F5.out, F6.out, F7.out, F8.out⟩
              · intro L a' wx hLi hd hG K hK
                refine Exists.elim hG ?_; clear hG; intro u84 hG
                refine Exists.elim hG ?_; clear hG; intro u85 hG
                refine Exists.elim hG ?_; clear hG; intro u86 hG
                refine Exists.elim hG ?_; clear hG; intro u87 hG
                refine Exists.elim hG ?_; clear hG; intro u88 hG
                refine Exists.elim hG ?_; clear hG; intro u89 hG
                refine Exists.elim hG ?_; clear hG; intro u90 hG
                refine Exists.elim hG ?_; clear hG; intro u91 hG
                refine Exists.elim hG ?_; clear hG; intro u92 hG
                refine And.elim ?_ hG; clear hG; intro ha hG
                refine And.elim ?_ hG; clear hG; intro hM hG
                refine And.elim ?_ hG; clear hG; intro f0 hG
                refine And.elim ?_ hG; clear hG; intro f1 hG
                refine And.elim ?_ hG; clear hG; intro f2 hG
                refine And.elim ?_ hG; clear hG; intro f3 hG
                refine And.elim ?_ hG; clear hG; intro f4 hG
                refine And.elim ?_ hG; clear hG; intro f5 hG
                refine And.elim ?_ hG; clear hG; intro f6 hG
                refine And.elim ?_ hG; clear hG; intro f7 hG
                have f8 := hG; clear hG
                subst ha
                obtain rfl := f1 (hd ⟨1, .data⟩ (by simp) rfl)
                have hcell : wx.cell? ⟨D, 3, none⟩ = some (.slice A5 sk.length c5) := hM.blk.cell 3
                have HM := Lib.hid hM
                clear hM hd
                have F0 := Lib.hid f0; clear f0
                have F1 := Lib.hid f1; clear f1
                have F2 := Lib.hid f2; clear f2
                have F3 := Lib.hid f3; clear f3
                have F4 := Lib.hid f4; clear f4
                have F5 := Lib.hid f5; clear f5
                have F6 := Lib.hid f6; clear f6
                have F7 := Lib.hid f7; clear f7
                have F8 := Lib.hid f8; clear f8
                go_simp
                go_wp2
                exact ⟨_, _, _, _, _, _, _, _, _, rfl, HM.out.same (i := 2) (by decide) (by decide), F0.out, fun _ => rfl, fun _ => rfl, F3.out, F4.out, F5.out, F6.out, F7.out, F8.out⟩
              · intro L a' wx hLi hd hG K hK
                refine Exists.elim hG ?_; clear hG; intro u84 hG
                refine Exists.elim hG ?_; clear hG; intro u85 hG
                refine Exists.elim hG ?_; clear hG; intro u86 hG
                refine Exists.elim hG ?_; clear hG; intro u87 hG
                refine Exists.elim hG ?_; clear hG; intro u88 hG
                refine Exists.elim hG ?_; clear hG; intro u89 hG
                refine Exists.elim hG ?_; clear hG; intro u90 hG
                refine Exists.elim hG ?_; clear hG; intro u91 hG
                refine Exists.elim hG ?_; clear hG; intro u92 hG
                refine And.elim ?_ hG; clear hG; intro ha hG
                refine And.elim ?_ hG; clear hG; intro hM hG
                refine And.elim ?_ hG; clear hG; intro f0 hG
                refine And.elim ?_ hG; clear hG; intro f1 hG
                refine And.elim ?_ hG; clear hG; intro f2 hG
                refine And.elim ?_ hG; clear hG; intro f3 hG
                refine And.elim ?_ hG; clear hG; intro f4 hG
                refine And.elim ?_ hG; clear hG; intro f5 hG
                refine And.elim ?_ hG; clear hG; intro f6 hG
                refine And.elim ?_ hG; clear hG; intro f7 hG
                have f8 := hG; clear hG
                subst ha
                obtain rfl := f0 (hd ⟨0, .data⟩ (by simp) rfl)
                obtain rfl := f2 (hd ⟨2, .data⟩ (by simp) rfl)
                obtain ⟨bl1, ht1⟩ := hM.tokA hLi
                have HT1 := Lib.hid ht1
                clear ht1
                obtain ⟨A6, c6, he6, hs6, ha6⟩ := hM.own
                have HHA := Lib.hid ha6
                injection he6 with e1 _ e2
                subst e1 e2
                have HS6 := Lib.hid hs6
                clear hs6 ha6
                have HM := Lib.hid hM
                clear hM hd
                have F0 := Lib.hid f0; clear f0
                have F1 := Lib.hid f1; clear f1
                have F2 := Lib.hid f2; clear f2
                have F3 := Lib.hid f3; clear f3
                have F4 := Lib.hid f4; clear f4
                have F5 := Lib.hid f5; clear f5
                have F6 := Lib.hid f6; clear f6
                have F7 := Lib.hid f7; clear f7
                have F8 := Lib.hid f8; clear f8
                go_simp
                refine (kills_k wx _ T M La bl1 HT1.out (by omega) A5 sk.length c5 sk HS6.out rfl (by omega) (fun a e => (HHA.out a e).2)).mono ?_
                rintro e wy ⟨rfl, ht2, hb2, hk2⟩
                have HM2 := Lib.hid (HM.out.give ht2 hb2 hk2)
                clear ht2 hb2 hk2
                go_wp2
                exact ⟨_, _, _, _, _, _, _, _, _, rfl, HM2.out, fun _ => rfl, F1.out, fun _ => rfl, fun _ => rfl, F4.out, F5.out, F6.out, F7.out, F8.out⟩
              · intro L a' wx hLi hd hG K hK
                refine Exists.elim hG ?_; clear hG; intro u84 hG
                refine Exists.elim hG ?_; clear hG; intro u85 hG
                refine Exists.elim hG ?_; clear hG; intro u86 hG
                refine Exists.elim hG ?_; clear hG; intro u87 hG
                refine Exists.elim hG ?_; clear hG; intro u88 hG
                refine Exists.elim hG ?_; clear hG; intro u89 hG
                refine Exists.elim hG ?_; clear hG; intro u90 hG
                refine Exists.elim hG ?_; clear hG; intro u91 hG
                refine Exists.elim hG ?_; clear hG; intro u92 hG
                refine And.elim ?_ hG; clear hG; intro ha hG
                refine And.elim ?_ hG; clear hG; intro hM hG
                refine And.elim ?_ hG; clear hG; intro f0 hG
                refine And.elim ?_ hG; clear hG; intro f1 hG
                refine And.elim ?_ hG; clear hG; intro f2 hG
                refine And.elim ?_ hG; clear hG; intro f3 hG
                refine And.elim ?_ hG; clear hG; intro f4 hG
                refine And.elim ?_ hG; clear hG; intro f5 hG
                refine And.elim ?_ hG; clear hG; intro f6 hG
                refine And.elim ?_ hG; clear hG; intro f7 hG
                have f8 := hG; clear hG
                subst ha
                have HM := Lib.hid hM
                clear hM hd
                have F0 := Lib.hid f0; clear f0
                have F1 := Lib.hid f1; clear f1
                have F2 := Lib.hid f2; clear f2
                have F3 := Lib.hid f3; clear f3
                have F4 := Lib.hid f4; clear f4
                have F5 := Lib.hid f5; clear f5
                have F6 := Lib.hid f6; clear f6
                have F7 := Lib.hid f7; clear f7
                have F8 := Lib.hid f8; clear f8
                go_simp
                go_wp2
                exact ⟨_, _, _, _, _, _, _, _, _, rfl, HM.out.same (i := 4) (by decide) (by decide), F0.out, F1.out, F2.out, F3.out, fun _ => rfl, F5.out, F6.out, F7.out, F8.out⟩
              · intro L a' wx hLi hd hG K hK
                refine Exists.elim hG ?_; clear hG; intro u84 hG
                refine Exists.elim hG ?_; clear hG; intro u85 hG
                refine Exists.elim hG ?_; clear hG; intro u86 hG
                refine Exists.elim hG ?_; clear hG; intro u87 hG
                refine Exists.elim hG ?_; clear hG; intro u88 hG
                refine Exists.elim hG ?_; clear hG; intro u89 hG
                refine Exists.elim hG ?_; clear hG; intro u90 hG
                refine Exists.elim hG ?_; clear hG; intro u91 hG
                refine Exists.elim hG ?_; clear hG; intro u92 hG
                refine And.elim ?_ hG; clear hG; intro ha hG
                refine And.elim ?_ hG; clear hG; intro hM hG
                refine And.elim ?_ hG; clear hG; intro f0 hG
                refine And.elim ?_ hG; clear hG; intro f1 hG
                refine And.elim ?_ hG; clear hG; intro f2 hG
                refine And.elim ?_ hG; clear hG; intro f3 hG
                refine And.elim ?_ hG; clear hG; intro f4 hG
                refine And.elim ?_ hG; clear hG; intro f5 hG
                refine And.elim ?_ hG; clear hG; intro f6 hG
                refine And.elim ?_ hG; clear hG; intro f7 hG
                have f8 := hG; clear hG
                subst ha
                have HM := Lib.hid hM
                clear hM hd
                have F0 := Lib.hid f0; clear f0
                have F1 := Lib.hid f1; clear f1
                have F2 := Lib.hid f2; clear f2
                have F3 := Lib.hid f3; clear f3
                have F4 := Lib.hid f4; clear f4
                have F5 := Lib.hid f5; clear f5
                have F6 := Lib.hid f6; clear f6
                have F7 := Lib.hid f7; clear f7
                have F8 := Lib.hid f8; clear f8
                go_simp
                go_wp2
                exact ⟨_, _, _, _, _, _, _, _, _, rfl, HM.out.same (i := 5) (by decide) (by decide), F0.out, F1.out, F2.out, F3.out, F4.out, fun _ => rfl, F6.out, F7.out, F8.out⟩
              · intro L a' wx hLi hd hG K hK
                refine Exists.elim hG ?_; clear hG; intro u84 hG
                refine Exists.elim hG ?_; clear hG; intro u85 hG
                refine Exists.elim hG ?_; clear hG; intro u86 hG
                refine Exists.elim hG ?_; clear hG; intro u87 hG
                refine Exists.elim hG ?_; clear hG; intro u88 hG
                refine Exists.elim hG ?_; clear hG; intro u89 hG
                refine Exists.elim hG ?_; clear hG; intro u90 hG
                refine Exists.elim hG ?_; clear hG; intro u91 hG
                refine Exists.elim hG ?_; clear hG; intro u92 hG
                refine And.elim ?_ hG; clear hG; intro ha hG
                refine And.elim ?_ hG; clear hG; intro hM hG
                refine And.elim ?_ hG; clear hG; intro f0 hG
                refine And.elim ?_ hG; clear hG; intro f1 hG
                refine And.elim ?_ hG; clear hG; intro f2 hG
                refine And.elim ?_ hG; clear hG; intro f3 hG
                refine And.elim ?_ hG; clear hG; intro f4 hG
                refine And.elim ?_ hG; clear hG; intro f5 hG
                refine And.elim ?_ hG; clear hG; intro f6 hG
                refine And.elim ?_ hG; clear hG; intro f7 hG
                have f8 := hG; clear hG
                subst ha
                obtain rfl := f5 (hd ⟨5, .data⟩ (by simp) rfl)
                have hcell : wx.cell? ⟨D, 3, none⟩ = some (.slice A5 sk.length c5) := hM.blk.cell 3
                have HM := Lib.hid hM
                clear hM hd
                have F0 := Lib.hid f0; clear f0
                have F1 := Lib.hid f1; clear f1
                have F2 := Lib.hid f2; clear f2
                have F3 := Lib.hid f3; clear f3
                have F4 := Lib.hid f4; clear f4
                have F5 := Lib.hid f5; clear f5
                have F6 := Lib.hid f6; clear f6
                have F7 := Lib.hid f7; clear f7
                have F8 := Lib.hid f8; clear f8
                go_simp
                go_wp2
                exact ⟨_, _, _, _, _, _, _, _, _, rfl, HM.out.same (i := 6) (by decide) (by decide), F0.out, F1.out, F2.out, F3.out, F4.out, fun _ => rfl, fun _ => rfl, F7.out, F8.out⟩
              · intro L a' wx hLi hd hG K hK
                refine Exists.elim hG ?_; clear hG; intro u84 hG
                refine Exists.elim hG ?_; clear hG; intro u85 hG
                refine Exists.elim hG ?_; clear hG; intro u86 hG
                refine Exists.elim hG ?_; clear hG; intro u87 hG
                refine Exists.elim hG ?_; clear hG; intro u88 hG
                refine Exists.elim hG ?_; clear hG; intro u89 hG
                refine Exists.elim hG ?_; clear hG; intro u90 hG
                refine Exists.elim hG ?_; clear hG; intro u91 hG
                refine Exists.elim hG ?_; clear hG; intro u92 hG
                refine And.elim ?_ hG; clear hG; intro ha hG
                refine And.elim ?_ hG; clear hG; intro hM hG
                refine And.elim ?_ hG; clear hG; intro f0 hG
                refine And.elim ?_ hG; clear hG; intro f1 hG
                refine And.elim ?_ hG; clear hG; intro f2 hG
                refine And.elim ?_ hG; clear hG; intro f3 hG
                refine And.elim ?_ hG; clear hG; intro f4 hG
                refine And.elim ?_ hG; clear hG; intro f5 hG
                refine And.elim ?_ hG; clear hG; intro f6 hG
                refine And.elim ?_ hG; clear hG; intro f7 hG
                have f8 := hG; clear hG
                subst ha
                obtain rfl := f4 (hd ⟨4, .data⟩ (by simp) rfl)
                obtain rfl := f6 (hd ⟨6, .data⟩ (by simp) rfl)
                have HR1 := Lib.hid (hM.rtokA hLi)
                have HO6 := Lib.hid hM.own
                have HM := Lib.hid hM
                clear hM hd
                have F0 := Lib.hid f0; clear f0
                have F1 := Lib.hid f1; clear f1
                have F2 := Lib.hid f2; clear f2
                have F3 := Lib.hid f3; clear f3
                have F4 := Lib.hid f4; clear f4
                have F5 := Lib.hid f5; clear f5
                have F6 := Lib.hid f6; clear f6
                have F7 := Lib.hid f7; clear f7
                have F8 := Lib.hid f8; clear f8
                go_simp
                refine (rkill_any wx _ w2.heap.size La HR1.out (by omega) A5 sk.length c5 sk false (fun wr hk => by obtain ⟨A6, c6, he6, hs6, _⟩ := HO6.out.keep (hk.imp isD_notR); injection he6 with e1 _ e2; subst e1; exact hs6) rfl (by omega)).mono ?_
                rintro e wy ⟨rfl, hr2, hb2, hk2⟩
                have HM2 := Lib.hid (HM.out.rgive hr2 hb2 hk2)
                clear hr2 hb2 hk2
                go_wp2
                exact ⟨_, _, _, _, _, _, _, _, _, rfl, HM2.out, F0.out, F1.out, F2.out, F3.out, fun _ => rfl, F5.out, fun _ => rfl, fun _ => rfl, F8.out⟩
              · intro L a' wx hLi hd hG K hK
                refine Exists.elim hG ?_; clear hG; intro u84 hG
                refine Exists.elim hG ?_; clear hG; intro u85 hG
                refine Exists.elim hG ?_; clear hG; intro u86 hG
                refine Exists.elim hG ?_; clear hG; intro u87 hG
                refine Exists.elim hG ?_; clear hG; intro u88 hG
                refine Exists.elim hG ?_; clear hG; intro u89 hG
                refine Exists.elim hG ?_; clear hG; intro u90 hG
                refine Exists.elim hG ?_; clear hG; intro u91 hG
                refine Exists.elim hG ?_; clear hG; intro u92 hG
                refine And.elim ?_ hG; clear hG; intro ha hG
                refine And.elim ?_ hG; clear hG; intro hM hG
                refine And.elim ?_ hG; clear hG; intro f0 hG
                refine And.elim ?_ hG; clear hG; intro f1 hG
                refine And.elim ?_ hG; clear hG; intro f2 hG
                refine And.elim ?_ hG; clear hG; intro f3 hG
                refine And.elim ?_ hG; clear hG; intro f4 hG
                refine And.elim ?_ hG; clear hG; intro f5 hG
                refine And.elim ?_ hG; clear hG; intro f6 hG
                refine And.elim ?_ hG; clear hG; intro f7 hG
                have f8 := hG; clear hG
                subst ha
                obtain rfl := f3 (hd ⟨3, .data⟩ (by simp) rfl)
                obtain rfl := f7 (hd ⟨7, .data⟩ (by simp) rfl)
                have HM := Lib.hid hM
                clear hM hd
                have F0 := Lib.hid f0; clear f0
                have F1 := Lib.hid f1; clear f1
                have F2 := Lib.hid f2; clear f2
                have F3 := Lib.hid f3; clear f3
                have F4 := Lib.hid f4; clear f4
                have F5 := Lib.hid f5; clear f5
                have F6 := Lib.hid f6; clear f6
                have F7 := Lib.hid f7; clear f7
                have F8 := Lib.hid f8; clear f8
                go_simp
                go_wp2
                exact ⟨_, _, _, _, _, _, _, _, _, rfl, HM.out.same (i := 8) (by decide) (by decide), F0.out, F1.out, F2.out, fun _ => rfl, F4.out, F5.out, F6.out, fun _ => rfl, fun _ => rfl⟩
              · intro L a' wx hL hG
                obtain ⟨u84, u85, u86, u87, u88, u89, u90, u91, u92, rfl, hM, f0, f1, f2, f3, f4, f5, f6, f7, f8⟩ := hG
                have h3 := hL 3 (by simp)
                have h7 := hL 7 (by simp)
                have h8 := f8 (hL 8 (by simp))
                subst h8
                obtain ⟨_, _, ⟨bl2, ht2⟩, hr2, hb2⟩ := hM
                rw [h3, if_pos rfl] at ht2
                rw [h7, if_pos rfl] at hr2
                have HT2 := Lib.hid ht2
                have HR2 := Lib.hid hr2
                have HB2 := Lib.hid hb2
                clear f0 f1 f2 f3 f4 f5 f6 f7 f8 ht2 hr2 hb2 h3 h7 hL
                obtain ⟨Lb, hLb⟩ : ∃ Lb, Lb = La.map (hurt1 fun s => inB s sk) := ⟨_, rfl⟩
                rw [← hLb] at HT2 HR2
                have hlb : Lb.length ≤ k + 1 := by rw [hLb, List.length_map]; omega
                clear hLb
                go_wp2_with fail
                refine (len_any _ w.heap.size T M Lb bl2 HT2.out).mono ?_
                rintro e w7 ⟨rfl, rfl⟩
                go_wp2_with fail
                refine (rlen_any _ w.heap.size w2.heap.size Lb HR2.out (by omega)).mono ?_
                rintro e w7 ⟨rfl, rfl⟩
                go_wp2
                exact ⟨⟨k + 1, Lb, bl2, by omega, by omega, by go_num, by omega, HT2.out, HR2.out, HB2.out⟩, by simp [intOf]; omega⟩
            · have e1 : ((0 : Int) == kind) = false := by rw [beq_eq_false_iff_ne]; omega
              have HC := Lib.hid (clear_k wx w.heap.size T M La bl HTx.out (by omega))
              have hff : (fun s => true || inB s []) = fun _ : ByteArray => true := rfl
              have HRC := Lib.hid (fun wr (h : RTok wr w.heap.size w2.heap.size La) => rkill_any wr w.heap.size w2.heap.size La h (by omega) none 0 0 [] true (fun _ _ => Sl.nil) rfl (by omega))
              rw [hff] at HRC
              clear e1 hff
              go_wp2_with fail
              refine HC.out.mono ?_
              rintro e w5 ⟨rfl, ht5, hb5, hk5⟩
              have HT5 := Lib.hid ht5
              have HB5 := Lib.hid (HBx.out.trans hb5)
              have HR5 := Lib.hid (HRx.out.keep hk5)
              clear ht5 hb5 hk5 ck0 ck1
              go_wp2_with fail
              refine (HRC.out w5 HR5.out).mono ?_
              rintro e w6 ⟨rfl, hr6, hb6, hk6⟩
              have HT2 := Lib.hid (HT5.out.keepT (hk6.imp isT_notR))
              have HB2 := Lib.hid (HB5.out.trans hb6)
              have HR2 := Lib.hid hr6
              clear hr6 hb6 hk6
              obtain ⟨Lb, hLb⟩ : ∃ Lb, Lb = La.map (hurt1 fun _ => true) := ⟨_, rfl⟩
              rw [← hLb] at HT2 HR2
              have hlb : Lb.length ≤ k + 1 := by rw [hLb, List.length_map]; omega
              clear hLb HC HRC
              obtain ⟨bl2, hbl2⟩ : ∃ b, b = bl := ⟨_, rfl⟩
              rw [← hbl2] at HT2
              clear hbl2
              go_wp2_with fail
              refine (len_any _ w.heap.size T M Lb bl2 HT2.out).mono ?_
              rintro e w7 ⟨rfl, rfl⟩
              go_wp2_with fail
              refine (rlen_any _ w.heap.size w2.heap.size Lb HR2.out (by omega)).mono ?_
              rintro e w7 ⟨rfl, rfl⟩
              go_wp2
              exact ⟨⟨k + 1, Lb, bl2, by omega, by omega, by go_num, by omega, HT2.out, HR2.out, HB2.out⟩, by simp [intOf]; omega⟩
    · have hcs : ¬ k < len ∨ (k < len ∧ ¬ k < 60) := by omega
      clear hgo
      rcases hcs with h3 | ⟨h3, h4⟩
      all_goals
        go_wp2
        go_ret
        exact ⟨rfl, HB.out⟩
theorem open_opsR {H : Type} {enc : TypeId × Value → H} {W : World} (A : Option Addr) (len cap : Nat) {d : DataW H} {p : List MemPlace} (h : DataW.Trod enc Try.prog W 0 (fun _ => true) true 36 (.slice A len cap) d p) :
    ∃ os : List OpS, os.length = len ∧ len ≤ cap ∧ cap ≤ maxLen ∧ (∀ o ∈ os, o.ok W) ∧ Sl W A (os.flatMap OpS.cells) := open_ops h
theorem tokenAll.walk (w : World) (A : Option Addr) (len cap : Nat) (os : List OpS) (h : os.length = len ∧ len ≤ cap ∧ cap ≤ maxLen ∧ (∀ o ∈ os, o.ok w) ∧ Sl w A (os.flatMap OpS.cells)) :
    Calls Try.prog 5 #[.slice A len cap] w fun e w' => e = .returned (.bool true) ∧ Below w.heap.size w w' :=
  all_in w A len cap os h.1 h.2.2.2.1 h.2.2.2.2
end Go.Proofs.Ytcghoaijflekhaa
