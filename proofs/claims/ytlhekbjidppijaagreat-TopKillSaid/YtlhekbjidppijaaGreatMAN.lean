/- Contracts of functions that the Top rows reach, and plain laws for them: what each returns and what it leaves in memory. Conditions: those that each theorem names. -/
import Derived.Lib.SliceRun
import Derived.Test.YtlhekbjidppijaaGreatMAI
import Derived.Test.YtlhekbjidppijaaGreatMAJ
import Derived.Test.YtlhekbjidppijaaGreatMAL
import Derived.Test.YtlhekbjidppijaaGreatMAM
set_option linter.unusedVariables false
set_option linter.unusedSimpArgs false
namespace Go.Proofs.Ytlhekbjidppijaa
open Go.RowKit
def ub (l : List UInt8) : List Value:=l.map fun b=>.int .u8 (b.toNat : Int)
theorem ub_length (l : List UInt8) : (ub l).length = l.length:=by simp [ub]
theorem ub_one (l : List UInt8) : ∀ u ∈ ub l,u.oneCell' = true:=by
 intro u hu
 obtain ⟨x,_,rfl⟩:=List.mem_map.1 hu
 rfl
theorem ub_get (l : List UInt8) (j : Nat) (h : j < l.length) : (ub l)[j]? = some (.int .u8 (l[j].toNat : Int)):=by simp [ub,h]
def u8n (n : Nat) : UInt8:=UInt8.ofNat (2 * n)
theorem u8n_val (n : Nat) (h : n < 64) : ((u8n n).toNat : Int) = ((2 * n : Nat) : Int):=by
 unfold u8n
 rw [UInt8.toNat_ofNat']
 omega
def ibs (k v : ByteArray) (gn : Nat) : List UInt8:=u8n k.size :: k.data.toList ++ (u8n v.size :: v.data.toList ++ [u8n 0,u8n gn])
theorem ibs_eq (k v : ByteArray) (gn : Nat) (hk : k.size < 64) (hv : v.size < 64) (hg : gn < 64) : tbs [k,v] ++ nbs [0,gn] = ub (ibs k v gn):=by
 have e1:=u8n_val k.size hk
 have e2:=u8n_val v.size hv
 have e3:=u8n_val 0 (by decide)
 have e4:=u8n_val gn hg
 simp only [tbs,nbs,ibs,ub,List.flatMap_cons,List.flatMap_nil,List.map_cons,List.map_append,List.map_nil,e1,e2,e3,e4,List.append_nil]
 simp [Lib.strCells]
theorem ibs_length (k v : ByteArray) (gn : Nat) : (ibs k v gn).length = k.size + v.size + 4:=by
 have h1 : k.data.toList.length = k.size:=Array.length_toList
 have h2 : v.data.toList.length = v.size:=Array.length_toList
 simp only [ibs,List.length_append,List.length_cons,List.length_nil,h1,h2]
 omega
theorem eq300 (w : World) (a1 a2 : Nat) (o1 o2 c1 c2 : Nat) (l : List UInt8) (h1 : ∀ j u,(ub l)[j]? = some u -> w.cell? ⟨a1,o1 + j,none⟩ = some u) (h2 : ∀ j u,(ub l)[j]? = some u -> w.cell? ⟨a2,o2 + j,none⟩ = some u) :
 Calls Tryz.prog 300 #[.slice (some ⟨a1,o1,none⟩) l.length c1,.slice (some ⟨a2,o2,none⟩) l.length c2] w fun e w'=>e = .returned (.bool true) /\ w = w':=by
 have q1:=run_convert_bytes_back (P:=Tryz.prog) w 74 9 5 ⟨a1,o1,none⟩ c1 l (by kernel_rfl) (by kernel_rfl) (by kernel_rfl) (fun j hj=>by
  rw [add_none];exact h1 j _ (ub_get l j hj))
 have q2:=run_convert_bytes_back (P:=Tryz.prog) w 74 9 5 ⟨a2,o2,none⟩ c2 l (by kernel_rfl) (by kernel_rfl) (by kernel_rfl) (fun j hj=>by
  rw [add_none];exact h2 j _ (ub_get l j hj))
 clear h1 h2
 go_enter Tryz.func300,Tryz.ntmps300
 go_wp2
 go_ret
 exact ⟨by simp,rfl⟩
theorem info178 : (Tryz.prog.info? 178).map (fun i=>(i.zero.map Value.cells,i.size,i.bytes)) = some (some #[.string ⟨#[]⟩,.string ⟨#[]⟩,.int .i64 0,.bool false],4,48):=by kernel_rfl
theorem ibs_k0 (k v : ByteArray) (gn : Nat) (hk : k.size < 64) : (ub (ibs k v gn))[0]? = some (.int .u8 ((2 * k.size : Nat) : Int)):=by
 rw [<- u8n_val k.size hk];rfl
theorem ibs_k (k v : ByteArray) (gn : Nat) : ∀ j u,(Lib.strCells k)[j]? = some u -> (ub (ibs k v gn))[1 + j]? = some u:=by
 intro j u hu
 have hj:=(List.getElem?_eq_some_iff.1 hu).1
 have : ub (ibs k v gn) = (.int .u8 ((u8n k.size).toNat : Int)) :: (Lib.strCells k ++ ub (u8n v.size :: v.data.toList ++ [u8n 0,u8n gn])):=by simp [ub,ibs,Lib.strCells]
 rw [this,Nat.add_comm,List.getElem?_cons_succ,List.getElem?_append_left hj]
 exact hu
theorem ibs_rest (k v : ByteArray) (gn : Nat) (j : Nat) : (ub (ibs k v gn))[1 + k.size + j]? = (ub (u8n v.size :: v.data.toList ++ [u8n 0,u8n gn]))[j]?:=by
 have h : (Lib.strCells k).length = k.size:=strCells_length k
 have : ub (ibs k v gn) = (.int .u8 ((u8n k.size).toNat : Int)) :: (Lib.strCells k ++ ub (u8n v.size :: v.data.toList ++ [u8n 0,u8n gn])):=by simp [ub,ibs,Lib.strCells]
 rw [this,show 1 + k.size + j = (k.size + j) + 1 by omega,List.getElem?_cons_succ,List.getElem?_append_right (by omega),h]
 congr 1
 omega
theorem ibs_v0 (k v : ByteArray) (gn : Nat) (hv : v.size < 64) : (ub (ibs k v gn))[1 + k.size]? = some (.int .u8 ((2 * v.size : Nat) : Int)):=by
 have:=ibs_rest k v gn 0
 rw [Nat.add_zero] at this
 rw [this,<- u8n_val v.size hv];rfl
theorem ibs_v (k v : ByteArray) (gn : Nat) : ∀ j u,(Lib.strCells v)[j]? = some u -> (ub (ibs k v gn))[1 + k.size + 1 + j]? = some u:=by
 intro j u hu
 have hj:=(List.getElem?_eq_some_iff.1 hu).1
 rw [show 1 + k.size + 1 + j = 1 + k.size + (j + 1) by omega,ibs_rest]
 have : ub (u8n v.size :: v.data.toList ++ [u8n 0,u8n gn]) = (.int .u8 ((u8n v.size).toNat : Int)) :: (Lib.strCells v ++ ub [u8n 0,u8n gn]):=by simp [ub,Lib.strCells]
 rw [this,List.getElem?_cons_succ,List.getElem?_append_left hj]
 exact hu
theorem ibs_e (k v : ByteArray) (gn j : Nat) : (ub (ibs k v gn))[k.size + v.size + 2 + j]? = (ub [u8n 0,u8n gn])[j]?:=by
 have h : (Lib.strCells v).length = v.size:=strCells_length v
 rw [show k.size + v.size + 2 + j = 1 + k.size + (v.size + j + 1) by omega,ibs_rest]
 have : ub (u8n v.size :: v.data.toList ++ [u8n 0,u8n gn]) = (.int .u8 ((u8n v.size).toNat : Int)) :: (Lib.strCells v ++ ub [u8n 0,u8n gn]):=by simp [ub,Lib.strCells]
 rw [this,List.getElem?_cons_succ,List.getElem?_append_right (by omega),h]
 congr 1
 omega
theorem ibs_e0 (k v : ByteArray) (gn : Nat) : (ub (ibs k v gn))[k.size + v.size + 2]? = some (.int .u8 ((2 * 0 : Nat) : Int)):=by
 have:=ibs_e k v gn 0
 rw [Nat.add_zero] at this
 rw [this,<- u8n_val 0 (by decide)];rfl
theorem ibs_e1 (k v : ByteArray) (gn : Nat) (hg : gn < 64) : (ub (ibs k v gn))[k.size + v.size + 2 + 1]? = some (.int .u8 ((2 * gn : Nat) : Int)):=by
 rw [ibs_e,<- u8n_val gn hg];rfl
end Go.Proofs.Ytlhekbjidppijaa
namespace Go.Proofs.Ytlhekbjidppijaa
open Go.RowKit
set_option maxRecDepth 20000 in
theorem getText_big (w : World) (b off len c : Nat) (t : ByteArray) (ht : t.size < 64) (hl : t.size + 2 <= len) (hlc : len <= c) (hcm : c <= 9223372036854775807) (hc : w.cell? ⟨b,off,none⟩ = some (.int .u8 ((2 * t.size : Nat) : Int))) (hs : ∀ j u,(Lib.strCells t)[j]? = some u -> w.cell? ⟨b,off + 1 + j,none⟩ = some u) :
 Calls Tryz.prog 299 #[.slice (some ⟨b,off,none⟩) len c] w fun e w'=>e = .returned (.tuple #[.string t,.int .i64 (1 + (t.size : Int)),.int .i64 0]) /\ w = w':=by
 have hconv : (convert 74 9 (.slice (some ⟨b,off + 1,none⟩) t.size (c - 1))).run Tryz.prog w = .ok (.string t) w:=by
  have h:=run_convert_bytes_back (P:=Tryz.prog) w 74 9 5 ⟨b,off + 1,none⟩ (c - 1) t.data.toList (by kernel_rfl) (by kernel_rfl) (by kernel_rfl) (fun j hj=>by
   rw [add_none]
   refine hs j _ ?_
   unfold Lib.strCells
   rw [List.getElem?_map,List.getElem?_eq_getElem hj]
   rfl)
  have e1 : t.data.toList.length = t.size:=Array.length_toList
  have e2 : (⟨t.data.toList.toArray⟩ : ByteArray) = t:=by cases t;rfl
  rw [e1,e2] at h
  exact h
 have k4 : ¬ c = 1:=by omega
 clear hs
 go_enter Tryz.func299,Tryz.ntmps299
 go_wp2_with fail
 refine (getN_any w b off len c t.size ht (by omega) hc).mono ?_
 rintro e w' ⟨rfl,rfl⟩
 clear hc
 have k1 : ¬ ((t.size : Int) < 0):=by omega
 have k2 : ¬ ((65536 : Int) < (t.size : Int)):=by omega
 have k3 : ¬ ((len : Int) - 1 < (t.size : Int)):=by omega
 go_wp2
 go_ret3
 exact ⟨rfl,rfl⟩
set_option maxRecDepth 20000 in
set_option maxHeartbeats 1000000 in
theorem decode_big (w : World) (b off c : Nat) (k v : ByteArray) (gb : Bool) (gn : Nat) (hgn : gn = if gb then 1 else 0) (hk : itemOk k v gb = true) (hks : k.size < 64) (hvs : v.size < 64) (hlc : k.size + v.size + 4 <= c) (hcm : c <= 9223372036854775807)
 (hc : ∀ j u,(ub (ibs k v gn))[j]? = some u -> w.cell? ⟨b,off + j,none⟩ = some u) :
 Calls Tryz.prog 278 #[.slice (some ⟨b,off,none⟩) (k.size + v.size + 4) c] w fun e w'=>∃ r,e = .returned (.tuple #[r,.int .i64 0]) /\ w'.ownsRow w.heap.size 178 4 r 1 [.string k,.string v,.int .i64 0,.bool gb] /\ Below w.heap.size w w':=by
 have hg64 : gn < 64:=by rw [hgn];split <;> decide
 have hbs : b < w.heap.size:=World.block_lt_of_cell? w ⟨b,off + 0,none⟩ (hc 0 _ (ibs_k0 k v gn hks))
 obtain ⟨i0,z0,hi,hz,hzc,hs0,hby⟩:=info_cells info178
 have HI:=Lib.hid (And.intro hi (And.intro hz (And.intro hzc (And.intro hs0 hby))))
 have HC:=Lib.hid hc
 have HKO:=Lib.hid hk
 have HGN:=Lib.hid hgn
 clear hi hz hzc hs0 hby hc hk hgn
 have he : ∀ (w : World) (a : Option Addr) (n c n' c' : Nat),(binOp .eql 74 (.slice a n c) (.slice none n' c')).run Tryz.prog w = .ok (.bool a.isNone) w:=fun w a n c n' c'=>Lib.run_eql_slice_nil w _ 5 a n c n' c' (by kernel_rfl)
 have k1 : (0 : Int) < (k.size : Int) + (v.size : Int) + 4:=by omega
 have k2 : ¬ c < 1 + k.size:=by omega
 have k3 : ((1 : Int) + (k.size : Int)).toNat = 1 + k.size:=by omega
 go_enter Tryz.func278,Tryz.ntmps278
 go_wp2
 go_loopw [4,5] (fun x i wr=>(x = .slice none 0 0 /\ i = .int .i64 0 /\ wr = w) \/ (i = .int .i64 ((k.size + v.size + 4 : Nat) : Int) /\ wr.ownsRow w.heap.size 178 4 x 1 [.string k,.string v,.int .i64 0,.bool gb] /\ Below w.heap.size w wr)) (fun _ i _=>(k.size + v.size + 4) - (intOf i).toNat)
 case atStart=>exact .inl ⟨rfl,rfl,rfl⟩
 case round=>
  rcases hrel with ⟨rfl,rfl,rfl⟩ | ⟨rfl,ho,hb⟩
  ·go_wp2_with fail
   have HC1 : Hid (∀ W,Below wr.heap.size wr W -> ∀ j u,(ub (ibs k v gn))[j]? = some u -> W.cell? ⟨b,off + j,none⟩ = some u):=Lib.hid (fun W hW j u hu=>(hW.cell (p:=⟨b,off + j,none⟩) hbs).trans (HC.out j u hu))
   obtain ⟨W1,hW1⟩ : ∃ W,W = wr.alloc (.cells #[.string ⟨#[]⟩,.string ⟨#[]⟩,.int .i64 0,.bool false] 178):=⟨_,rfl⟩
   have B1 : Below wr.heap.size wr W1:=by rw [hW1];exact (Below.refl _ _).alloc (Nat.le_refl _) _
   have X1 : Blk W1 wr.heap.size 178 #[.string ⟨#[]⟩,.string ⟨#[]⟩,.int .i64 0,.bool false]:=by rw [hW1];exact Blk.new _ _ _
   have S1 : W1.heap.size = wr.heap.size + 1:=by rw [hW1];simp
   rw [<- hW1]
   refine (getText_big W1 b off (k.size + v.size + 4) c k hks (by omega) (by omega) hcm (by simpa using HC1.out W1 B1 0 _ (ibs_k0 k v gn hks)) (fun j u hu=>by rw [Nat.add_assoc];exact HC1.out W1 B1 _ _ (ibs_k k v gn j u hu))).mono ?_
   rintro e w1 ⟨rfl,rfl⟩
   clear hW1
   generalize hg : wr.heap.size = g at *
   have HGW:=Lib.hid hg
   clear hg
   have k4 : ¬ c < 1 + k.size + (1 + v.size):=by omega
   have k5 : ((1 : Int) + (k.size : Int) + (1 + (v.size : Int))).toNat = 1 + k.size + (1 + v.size):=by omega
   go_wp2_with fail
   refine (getText_big W1 b (off + (1 + k.size)) (k.size + v.size + 4 - (1 + k.size)) (c - (1 + k.size)) v hvs (by omega) (by omega) (by omega) (by simpa using HC1.out W1 B1 _ _ (ibs_v0 k v gn hvs)) (fun j u hu=>by rw [show off + (1 + k.size) + 1 + j = off + (1 + k.size + 1 + j) by omega];exact HC1.out W1 B1 _ _ (ibs_v k v gn j u hu))).mono ?_
   rintro e w1 ⟨rfl,rfl⟩
   go_wp2_with fail
   obtain ⟨W2,hW2⟩ : ∃ W,W = ((W1.alloc (.cells #[.int .i64 0] 2)).alloc (.cells #[.pointer (some ⟨g,2,none⟩),.pointer (some ⟨g + 1,0,none⟩)] 228)):=⟨_,rfl⟩
   have B2 : Below g wr W2:=by rw [hW2];exact (B1.alloc (by omega) _).alloc (by simp;omega) _
   have X2 : Blk W2 g 178 #[.string ⟨#[]⟩,.string ⟨#[]⟩,.int .i64 0,.bool false]:=by rw [hW2];exact (X1.alloc _).alloc _
   have Y2 : Blk W2 (g + 1) 2 #[.int .i64 0]:=by rw [hW2];have:=Blk.new W1 2 #[.int .i64 0];rw [S1] at this;exact this.alloc _
   have Z2 : Blk W2 (g + 1 + 1) 228 #[.pointer (some ⟨g,2,none⟩),.pointer (some ⟨g + 1,0,none⟩)]:=by rw [hW2];have:=Blk.new (W1.alloc (.cells #[.int .i64 0] 2)) 228 #[.pointer (some ⟨g,2,none⟩),.pointer (some ⟨g + 1,0,none⟩)];simp only [World.size_alloc,S1] at this;exact this
   have S2 : W2.heap.size = g + 3:=by rw [hW2];simp;omega
   rw [<- hW2]
   clear hW2
   refine (all_any W2 b (off + (1 + k.size + (1 + v.size))) (k.size + v.size + 4 - (1 + k.size + (1 + v.size))) (c - (1 + k.size + (1 + v.size))) (g + 1 + 1) 0 gn (by decide) hg64 (by omega) (by omega) ⟨g,2,none⟩ ⟨g + 1,0,none⟩ 0 0
    (by have:=HC1.out W2 B2 _ _ (ibs_e0 k v gn);rw [show off + (k.size + v.size + 2) = off + (1 + k.size + (1 + v.size)) by omega] at this;exact this)
    (by have:=HC1.out W2 B2 _ _ (ibs_e1 k v gn hg64);rw [show off + (k.size + v.size + 2 + 1) = off + (1 + k.size + (1 + v.size)) + 1 by omega] at this;exact this)
    (Z2.cell 0) (Z2.cell 1) (X2.cell 2) (Y2.cell 0) (X2.frozen 2) (Y2.frozen 0) (by show b ≠ g;omega) (by show g + 1 + 1 ≠ g;omega) (by simp)).mono ?_
   rintro e W3 ⟨rfl,hW3⟩
   have B3 : Below g wr W3:=by rw [hW3];exact (B2.setCell (p:=⟨g,2,none⟩) (Nat.le_refl _) _).setCell (p:=⟨g + 1,0,none⟩) (by show g <= g + 1;omega) _
   have X3 : Blk W3 g 178 #[.string ⟨#[]⟩,.string ⟨#[]⟩,.int .i64 0,.bool false]:=by rw [hW3];exact (X2.set_ 2 _).far (p:=⟨g + 1,0,none⟩) (by show g ≠ g + 1;omega) _
   have Y3 : Blk W3 (g + 1) 2 #[.int .i64 (gn : Int)]:=by rw [hW3];exact (Y2.far (p:=⟨g,2,none⟩) (by show g + 1 ≠ g;omega) _).set_ 0 _
   have S3 : W3.heap.size = g + 3:=by rw [hW3];simp [World.setCell];exact S2
   clear hW3 X2 Y2 Z2
   have e0:=X3.cell 0
   have e1:=X3.cell 1
   have e2:=X3.cell 2
   have e3:=X3.cell 3
   have e4:=Y3.cell 0
   have f0:=X3.frozen 0
   have f1:=X3.frozen 1
   have f3:=X3.frozen 3
   have hgb : ((gn : Int) == 1) = gb:=by rw [HGN.out];cases gb <;> rfl
   have HX3:=Lib.hid X3
   have HB3:=Lib.hid B3
   clear X1 B1 S1 B2 S2 X3 B3
   go_wp2_with (at_builtin;refine wpList_append_slN _ rfl (.tmp 63) (.tmp 65) 179 rfl g 178 i0 z0 4 48 (by kernel_rfl) HI.out.1 HI.out.2.1 HI.out.2.2.2.1 HI.out.2.2.2.2 (by rw [HI.out.2.2.1];rfl) (by decide) _ 0 [] rfl (World.ownsRow_nil _ _ _ _) (some ⟨g + 3,0,none⟩) 1 1 [.string k,.string v,.int .i64 0,.bool gb] rfl rfl ?c2 ?c3 ?c4 (by decide) ?c6 ?_)
   case c2=>
    have:=(Blk.new (((W3.setCell ⟨g,0,none⟩ (.string k)).setCell ⟨g,1,none⟩ (.string v)).setCell ⟨g,3,none⟩ (.bool gb)) 178 #[.string k,.string v,.int .i64 0,.bool gb]).sl
    have hsz : (((W3.setCell ⟨g,0,none⟩ (.string k)).setCell ⟨g,1,none⟩ (.string v)).setCell ⟨g,3,none⟩ (.bool gb)).heap.size = g + 3:=by simp [World.setCell];exact S3
    rw [hsz] at this
    exact this
   case c3=>intro u hu;simp at hu;rcases hu with rfl | rfl | rfl | rfl <;> rfl
   case c4=>unfold maxLen;omega
   case c6=>simp [World.setCell];omega
   intro v' w4 ho hgr
   have HO4 : Hid (w4.ownsRow g 178 4 v' 1 [.string k,.string v,.int .i64 0,.bool gb]):=Lib.hid (by simpa using ho)
   have HB4 : Hid (Below g wr w4):=Lib.hid (((((HB3.out.setCell (p:=⟨g,0,none⟩) (Nat.le_refl _) _).setCell (p:=⟨g,1,none⟩) (Nat.le_refl _) _).setCell (p:=⟨g,3,none⟩) (Nat.le_refl _) _).alloc (by simp [World.setCell];omega) _).grown hgr (by simp [World.setCell];omega) (by intro k hk;cases hk))
   clear ho hgr e0 e1 e2 e3 e4 f0 f1 f3 S3
   go_wp2
   go_roundw
   case rel=>exact .inr ⟨by go_num,by rw [HGW.out];exact HO4.out,by rw [HGW.out];exact HB4.out⟩
   case measure=>simp [intOf];omega
  ·have HO:=Lib.hid ho
   have HB:=Lib.hid hb
   obtain ⟨A,cx,hu,hnc,hcm2,hsl⟩ : ∃ A cx,u4 = .slice (some A) 1 cx /\ 1 <= cx /\ cx <= maxLen /\ ∀ j u,[Value.string k,.string v,.int .i64 0,.bool gb][j]? = some u -> wr.cell? ⟨A.block,0 + j,none⟩ = some u /\ A = ⟨A.block,0,none⟩:=by
    obtain ⟨g,cap,rfl,_,_⟩:=ho.form (by decide)
    refine ⟨⟨g,0,none⟩,cap,rfl,?_,?_,fun j u hu=>⟨?_,rfl⟩⟩
    ·rcases ho.2 with ⟨h,_⟩ | ⟨_,_,_,h,_,_,h1,_⟩
     ·cases h
     ·cases h;exact h1
    ·rcases ho.2 with ⟨h,_⟩ | ⟨_,_,_,h,_,_,_,h1,_⟩
     ·cases h
     ·cases h;exact h1
    ·have:=ho.cells (g:=g) rfl j u hu
     rw [add_none] at this
     exact this
   obtain ⟨ab,ao,asp⟩:=A
   have hA:=(hsl 0 _ rfl).2
   injection hA with h1 h2 h3
   subst h2 h3
   subst hu
   have HS:=Lib.hid hsl
   clear ho hb hsl h1
   go_wp2_with fail
   refine (encode_any wr ab 0 cx k v gb gn HGN.out HKO.out hks hvs (fun j u hu=>(HS.out j u hu).1)).mono ?_
   rintro e w5 ⟨r,rfl,ho5,hb5⟩
   obtain ⟨g5,cap5,rfl,hg5,_⟩:=ho5.form (by omega)
   have hlen5 : tsum [k,v] + 2 = k.size + v.size + 4:=by simp [tsum];omega
   rw [hlen5,ibs_eq k v gn hks hvs hg64] at ho5
   rw [hlen5]
   have HO5:=Lib.hid ho5
   have HB5:=Lib.hid hb5
   clear ho5 hb5
   go_wp2_with fail
   have E:=eq300 w5 g5 b 0 off cap5 c (ibs k v gn) (fun j u hu=>by have:=HO5.out.cells (g:=g5) rfl j u hu;rw [add_none] at this;exact this)
    (fun j u hu=>(HB5.out.cell (p:=⟨b,off + j,none⟩) (by have:=HB.out.size;show b < _;omega)).trans ((HB.out.cell (p:=⟨b,off + j,none⟩) hbs).trans (HC.out j u hu)))
   rw [ibs_length] at E
   refine E.mono ?_
   rintro e w6 ⟨rfl,rfl⟩
   clear E
   have HE : Hid (w5.ownsRow w.heap.size 178 4 (.slice (some ⟨ab,0,none⟩) 1 cx) 1 [.string k,.string v,.int .i64 0,.bool gb] /\ Below w.heap.size w w5):=Lib.hid ⟨HO.out.kept (row:=none) ⟨HB5.out.os,HB5.out.tape,HB5.out.output,HB5.out.size,fun i hi _=>HB5.out.block i hi⟩ (.inr (by simp [Value.ownBlock])),HB.out.trans (HB5.out.mono HB.out.size)⟩
   go_wp2
   go_ret2
   exact ⟨_,rfl,HE.out.1,HE.out.2⟩
end Go.Proofs.Ytlhekbjidppijaa
namespace Go.Proofs.Ytlhekbjidppijaa
open Go.RowKit
theorem key32 (w : World) (k : ByteArray) (hk : k.size <= 1000) : Calls Tryz.prog 32 #[.string k] w fun e w'=>e = .returned (.bool (keyOk k)) /\ w = w':=by
 have HF : Hid (keyOk k = (decide ((1 : Int) <= (k.size : Int)) && decide ((k.size : Int) <= 40))):=Lib.hid (by unfold keyOk;rw [Bool.eq_iff_iff];simp;omega)
 by_cases h1 : 1 <= k.size
 ·have k1 : (1 : Int) <= (k.size : Int):=by omega
  go_enter Tryz.func32,Tryz.ntmps32
  go_wp2
  go_ret
  exact ⟨by rw [HF.out];simp [k1],rfl⟩
 ·have k1 : ¬ ((1 : Int) <= (k.size : Int)):=by omega
  go_enter Tryz.func32,Tryz.ntmps32
  go_wp2
  go_ret
  exact ⟨by rw [HF.out];simp;omega,rfl⟩
theorem cut52 (w : World) (k : ByteArray) (n : Nat) (hk : k.size <= n) (hn : n <= 1000) : Calls Tryz.prog 52 #[.string k,.int .i64 (n : Int)] w fun e w'=>e = .returned (.string k) /\ w = w':=by
 have k1 : ¬ ((n : Int) < (k.size : Int)):=by omega
 go_enter Tryz.func52,Tryz.ntmps52
 go_wp2
 go_ret
 exact ⟨rfl,rfl⟩
def smallF (x : Int) (k : Nat) : Nat:=(x.tmod (k : Int)).natAbs
theorem small14 (w : World) (x : Int) (k : Nat) (h0 : 0 < k) (hk : k <= 1000) (hx1 : -9223372036854775808 <= x) (hx2 : x <= 9223372036854775807) : Calls Tryz.prog 14 #[.int .i64 x,.int .i64 (k : Int)] w fun e w'=>e = .returned (.int .i64 (smallF x k : Int)) /\ w = w':=by
 have k1 : ((k : Int) == 0) = false:=by rw [beq_eq_false_iff_ne];omega
 have k2 : ¬ ((k : Int) = 0):=by omega
 have hm1 : x.tmod (k : Int) < (k : Int):=Int.tmod_lt_of_pos _ (by omega)
 have hm2 : -(k : Int) < x.tmod (k : Int):=by
  have h:=Int.tmod_lt_of_pos (-x) (b:=(k : Int)) (by omega)
  rw [Int.neg_tmod] at h
  omega
 have HS : Hid ((smallF x k : Int) = if x.tmod (k : Int) < 0 then -(x.tmod (k : Int)) else x.tmod (k : Int)):=Lib.hid (by unfold smallF;split <;> omega)
 by_cases hs : x.tmod (k : Int) < 0
 ·go_enter Tryz.func14,Tryz.ntmps14
  go_wp2
  go_ret
  exact ⟨by rw [HS.out,if_pos hs];rfl,rfl⟩
 ·go_enter Tryz.func14,Tryz.ntmps14
  go_wp2
  go_ret
  exact ⟨by rw [HS.out,if_neg (by omega)];rfl,rfl⟩
theorem conv2 (w : World) (a b : Nat) (ha : a < 256) (hb : b < 256) : (convert 74 9 (.slice (some ⟨w.heap.size,0,none⟩) 2 2)).run Tryz.prog (w.alloc (.cells #[.int .u8 (a : Int),.int .u8 (b : Int)] 5)) = .ok (.string ⟨#[UInt8.ofNat a,UInt8.ofNat b]⟩) (w.alloc (.cells #[.int .u8 (a : Int),.int .u8 (b : Int)] 5)):=by
 have hB:=Blk.new w 5 #[.int .u8 (a : Int),.int .u8 (b : Int)]
 have h:=run_convert_bytes_back (P:=Tryz.prog) (w.alloc (.cells #[.int .u8 (a : Int),.int .u8 (b : Int)] 5)) 74 9 5 ⟨w.heap.size,0,none⟩ 2 [UInt8.ofNat a,UInt8.ofNat b] (by kernel_rfl) (by kernel_rfl) (by kernel_rfl) (fun j hj=>by
  rw [add_none,hB.cell]
  simp at hj
  obtain rfl | rfl : j = 0 \/ j = 1:=by omega
  ·simp [Nat.mod_eq_of_lt ha]
  ·simp [Nat.mod_eq_of_lt hb])
 simpa using h
def keyB (i : Nat) : ByteArray:=⟨#[107,101,121,32,UInt8.ofNat (97 + i % 26),UInt8.ofNat (97 + i / 26)]⟩
def valB (i n : Nat) : ByteArray:=⟨#[118,97,108,117,101,32,UInt8.ofNat (97 + i % 26),UInt8.ofNat (48 + n % 10)]⟩
set_option maxRecDepth 20000 in
theorem key17 (w : World) (i : Nat) (hi : i < 40) : Calls Tryz.prog 17 #[.int .i64 (i : Int)] w fun e w'=>e = .returned (.string (keyB i)) /\ Below w.heap.size w w':=by
 have hc:=conv2 w (97 + i % 26) (97 + i / 26) (by omega) (by omega)
 have e1 : (((97 + i % 26 : Nat)) : Int) = 97 + (i : Int) % 26:=by omega
 have e2 : (((97 + i / 26 : Nat)) : Int) = 97 + (i : Int) / 26:=by omega
 rw [e1,e2] at hc
 go_enter Tryz.func17,Tryz.ntmps17
 go_wp2
 go_ret
 refine ⟨?_,(Below.refl _ w).alloc (Nat.le_refl _) _⟩
 show Ending.returned (.string _) = _
 congr 2
 unfold keyB
 apply ByteArray.ext
 simp [UInt8.ofNat_add]
set_option maxRecDepth 20000 in
theorem val18 (w : World) (i n : Nat) (hi : i < 40) (hn : n < 10) : Calls Tryz.prog 18 #[.int .i64 (i : Int),.int .i64 (n : Int)] w fun e w'=>e = .returned (.string (valB i n)) /\ Below w.heap.size w w':=by
 have hc:=conv2 w (97 + i % 26) (48 + n % 10) (by omega) (by omega)
 have e1 : (((97 + i % 26 : Nat)) : Int) = 97 + (i : Int) % 26:=by omega
 have e2 : (((48 + n % 10 : Nat)) : Int) = 48 + (n : Int) % 10:=by omega
 rw [e1,e2] at hc
 go_enter Tryz.func18,Tryz.ntmps18
 go_wp2
 go_ret
 refine ⟨?_,(Below.refl _ w).alloc (Nat.le_refl _) _⟩
 show Ending.returned (.string _) = _
 congr 2
 unfold valB
 apply ByteArray.ext
 simp [UInt8.ofNat_add]
end Go.Proofs.Ytlhekbjidppijaa
