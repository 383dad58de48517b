/- What memory holds while both tables are asked, in whatever order. No walk. -/
import Derived.Test.YtcghoaijflekhaaTokM
namespace Go.Proofs.Ytcghoaijflekhaa
open Go.RowKit
def isR : Obj → Bool
  | .cells _ e _ => e == 40 || e == 57
  | _ => false
def isT : Obj → Bool
  | .cells _ e _ => e == 49 || e == 55
  | .map _ _ => true
  | _ => false
/-- blocks of texts, and those that an operation lies in -/
def isD : Obj → Bool
  | .cells _ e _ => e == 42 || e == 9
  | _ => false
theorem Keeps.imp {p q : Obj → Bool} {a b : World} (h : Keeps p a b) (hi : ∀ o, q o = true → p o = true) : Keeps q a b := fun g o h1 h2 => h g o h1 (hi o h2)
theorem isR_notT (o : Obj) (h : isR o = true) : notT o = true := by
  cases o <;> simp_all [isR, notT]
  rcases h with rfl | rfl <;> decide
theorem isT_notR (o : Obj) (h : isT o = true) : notR o = true := by
  cases o <;> simp_all [isT, notR]
  rcases h with rfl | rfl <;> decide
theorem isD_notT (o : Obj) (h : isD o = true) : notT o = true := by
  cases o <;> simp_all [isD, notT]
  rcases h with rfl | rfl <;> decide
theorem isD_notR (o : Obj) (h : isD o = true) : notR o = true := by
  cases o <;> simp_all [isD, notR]
  rcases h with rfl | rfl <;> decide
theorem RTok.keepR {w w' : World} {base R : Nat} {L : List TkS} (h : RTok w base R L) (hk : Keeps isR w w') : RTok w' base R L := by
  obtain ⟨h1, v, h2, h3⟩ := h
  refine ⟨h1, v, hk R _ h2 rfl, h3.1, ?_⟩
  rcases h3.2 with h4 | ⟨g, cap, cur, h5, h6, h7, h8⟩
  · exact .inl h4
  · exact .inr ⟨g, cap, cur, h5, h6, hk g _ h7 rfl, h8⟩
theorem Tok.keepT {w w' : World} {base T M : Nat} {L : List TkS} {bl : Nat → Nat} (h : Tok w base T M L bl) (hk : Keeps isT w w') : Tok w' base T M L bl :=
  ⟨h.hT, h.hM, hk T _ h.blk rfl, hk M _ h.map rfl, h.one, fun i hi => ⟨(h.each i hi).1, hk _ _ (h.each i hi).2 rfl⟩⟩
theorem keeps_other {q : Obj → Bool} {w w' : World} {D : Nat} {cs : Array Value} {t : TypeId} (hg : w.grownBy w' (some D)) (hb : Blk w D t cs) (hq : q (.cells cs t (0, 0)) = false) : Keeps q w w' :=
  (Keeps.refl q w).grown hg (fun r o e ho => by
    cases e
    unfold Blk at hb
    rw [hb] at ho
    cases ho
    exact hq)
theorem OwnTexts.keep {lo : Nat} {w w' : World} {u : Value} {ss : List ByteArray} (h : OwnTexts lo w u ss) (hk : Keeps isD w w') : OwnTexts lo w' u ss := by
  obtain ⟨A, c, e, hs, ha⟩ := h
  refine ⟨A, c, e, fun hne => ?_, fun a e' => ⟨(ha a e').1, ?_⟩⟩
  · obtain ⟨b, off, rfl, hc⟩ := hs hne
    obtain ⟨_, cur, hcur⟩ := ha _ rfl
    refine ⟨b, off, rfl, fun j u hu => ?_⟩
    have := hc j u hu
    unfold World.cell? at this ⊢
    have h1 : w.heap[b]? = some (.cells cur 9 (0, 0)) := hcur
    have h2 : w'.heap[b]? = some (.cells cur 9 (0, 0)) := hk _ _ hcur rfl
    rw [h1] at this
    rw [h2]
    exact this
  · obtain ⟨_, cur, hcur⟩ := ha a e'
    exact ⟨cur, hk _ _ hcur rfl⟩
structure MB (w : World) (D T M R : Nat) (cs : Array Value) (lo : Nat) (u : Value) (ss : List ByteArray) (La Lb : List TkS) (L : Nat → Bool) (wx : World) : Prop where
  blk : Blk wx D 42 cs
  own : OwnTexts lo wx u ss
  tok : ∃ bl, Tok wx w.heap.size T M (if L 3 then Lb else La) bl
  rtok : RTok wx w.heap.size R (if L 7 then Lb else La)
  below : Below w.heap.size w wx
section
variable {w : World} {D T M R : Nat} {cs : Array Value} {lo : Nat} {u : Value} {ss : List ByteArray} {La Lb : List TkS} {L : Nat → Bool} {wx wy : World}
theorem MB.same (h : MB w D T M R cs lo u ss La Lb L wx) {i : Nat} (h3 : 3 ≠ i) (h7 : 7 ≠ i) : MB w D T M R cs lo u ss La Lb (Done L i) wx :=
  ⟨h.blk, h.own, by rw [Done.ne h3]; exact h.tok, by rw [Done.ne h7]; exact h.rtok, h.below⟩
theorem MB.start (hb : Blk wx D 42 cs) (ho : OwnTexts lo wx u ss) {bl : Nat → Nat} (ht : Tok wx w.heap.size T M La bl) (hr : RTok wx w.heap.size R La) (hw : Below w.heap.size w wx) : MB w D T M R cs lo u ss La Lb (fun _ => false) wx.drew :=
  ⟨hb, ho.keep (fun _ _ h _ => h), ⟨bl, ht.keepT (fun _ _ h _ => h)⟩, hr.keepR (fun _ _ h _ => h), hw.drew⟩
theorem MB.give (h : MB w D T M R cs lo u ss La Lb L wx) {bl : Nat → Nat} (ht : Tok wy w.heap.size T M Lb bl) (hb : Below w.heap.size wx wy) (hk : Keeps notT wx wy) : MB w D T M R cs lo u ss La Lb (Done L 3) wy :=
  ⟨hk _ _ h.blk rfl, h.own.keep (hk.imp isD_notT), ⟨bl, by rw [show Done L 3 3 = true from rfl, if_pos rfl]; exact ht⟩, by rw [Done.ne (by decide)]; exact h.rtok.keepR (hk.imp isR_notT), h.below.trans hb⟩
theorem MB.rgive (h : MB w D T M R cs lo u ss La Lb L wx) (ht : RTok wy w.heap.size R Lb) (hb : Below w.heap.size wx wy) (hk : Keeps notR wx wy) : MB w D T M R cs lo u ss La Lb (Done L 7) wy :=
  ⟨hk _ _ h.blk rfl, h.own.keep (hk.imp isD_notR), by
    obtain ⟨bl, h1⟩ := h.tok
    exact ⟨bl, by rw [Done.ne (by decide)]; exact h1.keepT (hk.imp isT_notR)⟩, by rw [show Done L 7 7 = true from rfl, if_pos rfl]; exact ht, h.below.trans hb⟩
theorem MB.tokA (h : MB w D T M R cs lo u ss La Lb L wx) (hl : L 3 = false) : ∃ bl, Tok wx w.heap.size T M La bl := by
  have := h.tok
  rw [hl] at this
  exact this
theorem MB.rtokA (h : MB w D T M R cs lo u ss La Lb L wx) (hl : L 7 = false) : RTok wx w.heap.size R La := by
  have := h.rtok
  rw [hl] at this
  exact this
end
end Go.Proofs.Ytcghoaijflekhaa
