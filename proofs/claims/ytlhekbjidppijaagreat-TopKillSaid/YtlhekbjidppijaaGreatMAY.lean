/- Contracts of functions that the Top rows reach, and plain laws for them: what each returns and what it leaves in memory. Conditions: those that each theorem names. -/
import Derived.Test.YtlhekbjidppijaaGreatMAW
import Derived.Test.YtlhekbjidppijaaGreatMAX
set_option linter.unusedVariables false
set_option linter.unusedSimpArgs false
namespace Go.Proofs.Ytlhekbjidppijaa
open Go.RowKit
theorem owns_new (w : World) (e size : Nat) (cur : Array Value) (n : Nat) (hs : cur.size = n * size) (hm : n <= maxLen) : (w.alloc (.cells cur e)).ownsRow w.heap.size e size (.slice (some ⟨w.heap.size,0,none⟩) n n) n cur.toList:=
 ⟨by simpa using hs,.inr ⟨w.heap.size,n,cur,rfl,Nat.le_refl _,heap_alloc_new w _,Nat.le_refl _,hm,hs,by rw [List.take_of_length_le];simp [hs]⟩⟩
section
variable {P : Program} (w : World)
theorem wpList_append_row2 {ops : Array Oper} {rest : List Oper} {o : Oper} {a : Act} {Q : Exit -> Act -> World -> Prop} (hgd : o.guard = none) (s x : Operand) (st : TypeId)
 (ho : o.op = .call { callee:=.builtin .append,args:=#[s,x],argTypes:=#[st,st] })
 (τ : Own) (t : Nat) (e : TypeId) (i : TypeInfo) (z : Value) (size bytes : Nat) (ht : P.underlying st = some (.slice e)) (hi : P.info? e = some i) (hz : i.zero = some z)
 (hsize : i.size = size) (hby : i.bytes = bytes) (hzs : z.cells.size = size) (hs0 : 0 < size)
 (v : Value) (n : Nat) (xs : List Value) (hs : a.eval s = v) (hown : Rw w τ t e size v n xs)
 (A : Addr) (m c : Nat) (news : List Value) (hx : a.eval x = .slice (some A) m c) (hm : news.length = m * size) (hm0 : 0 < m) (hr : Sl w (some A) news) (h1 : ∀ u ∈ news,u.oneCell' = true)
 (h63 : n + m <= 1073741824) (hbs : bytes <= 65536)
 (h : ∀ g cap w',Rw w' (ext τ w t) t e size (.slice (some ⟨g,0,none⟩) (n + m) cap) (n + m) (xs ++ news) -> Chg (· = t) w τ w' (ext τ w t) -> w.grownBy w' v.ownBlock -> wpList P ops Q rest (a.put o.dst (.slice (some ⟨g,0,none⟩) (n + m) cap)) w') : wpList P ops Q (o :: rest) a w:=
 wpList_plain hgd fun _ hK=>by
  obtain ⟨g,cap,w',hr,h2,h3,h4⟩:=run_append_row2 (P:=P) w τ t st o.type e i z size bytes ht hi hz hsize hby hzs hs0 v n xs hown A m c news hm hm0 hr h1 h63 hbs
  unfold Oper.wp execOp
  simp only [ho,resolve,invoke,builtin,Sem.run_bind,Sem.run_pure,Result.andThen_ok,List.map_toArray,List.map_cons,List.map_nil,hs,hx,hr]
  exact hK _ _ (h g cap w' h2 h3 h4)
end
def fput (segs : Nat) (s : FS) (k v : ByteArray) : Option FS:=
 if s.recs.length < segs /\ s.n < 1000 then match putP s.pl s.n s.used k (s.recs.length + 1) with
  | some (pl,n,used)=>some ⟨s.recs ++ [.entry k v false],pl,n,used⟩
  | none=>none
 else none
def GPu7 (wx0 : World) (τ0 : Own) (tc td c d from_ segs n lp x : Nat) (bs : List (List UInt8)) (pl pl' : List Place) (m used m' used' pb pos : Nat) (k : ByteArray) (c0 c1 c2 c3 c4 c5 c6 c7 c8 c9 c10 c11 c12 c13 c14 c15 c16 c17 c18 c19 c20 c21 c22 c23 c24 c25 c26 c27 c28 c29 c38 : Value) (L : Nat -> Bool) (a' : Act) (wx : World) : Prop:=
 ∃ u30 u31 u32 u33 u34 u35 u36 u37 : Value,a' = ⟨List.toArray (c0 :: c1 :: c2 :: c3 :: c4 :: c5 :: c6 :: c7 :: c8 :: c9 :: c10 :: c11 :: c12 :: c13 :: c14 :: c15 :: c16 :: c17 :: c18 :: c19 :: c20 :: c21 :: c22 :: c23 :: c24 :: c25 :: c26 :: c27 :: c28 :: c29 :: u30 :: u31 :: u32 :: u33 :: u34 :: u35 :: u36 :: u37 :: c38 :: []),[]⟩ /\ (Ch1 wx0.drew 7 (fun W=>FlX wx0 τ0 tc td c d from_ segs n lp x bs pl' m' used' W) L wx /\ wx.cell? ⟨pb,0,none⟩ = some (.string k)) /\ (L 0 = true -> u30 = .pointer (some ⟨c,0,none⟩)) /\ (L 1 = true -> u31 = .pointer (some ⟨c,0,none⟩)) /\ (L 2 = true -> u32 = .pointer (some ⟨c,1,none⟩)) /\ (L 3 = true -> u33 = .pointer (some ⟨x,0,none⟩)) /\ (L 4 = true -> u34 = .pointer (some ⟨pb,0,none⟩)) /\ (L 5 = true -> u35 = .string k) /\ (L 6 = true -> u36 = .int .i64 (pos : Int)) /\ (L 7 = true -> True)
set_option maxRecDepth 20000 in
set_option maxHeartbeats 2000000 in
theorem put119 (w : World) (τ : Own) (tc td c d from_ segs n : Nat) (s s' : FS) (Z : Nat -> Prop) (k v : ByteArray) (hF : FlashAt w τ tc c d from_ segs n s) (hD : DevAt w τ td d n Z) (htd : td < 95 /\ (td < tc \/ tc + 2 < td)) (hok : (FRec.entry k v false).ok = true) (hput : fput segs s k v = some s') :
 Calls Tryz.prog 119 #[.pointer (some ⟨c,0,none⟩),.agg #[.string k,.string v,.int .i64 0,.bool false]] w fun e w'=>e = .returned (.int .i64 0) /\ ∃ τ',FlashAt w' τ' tc c d from_ segs n s' /\ DevAt w' τ' td d n (fun _=>False) /\ Chg (FT tc td) w τ w' τ':=by
 unfold fput at hput
 split at hput
 case isFalse=>cases hput
 rename_i hcond
 obtain ⟨hle,hn9⟩:=hcond
 split at hput
 case h_2=>cases hput
 rename_i pl' n' used' hpp
 injection hput with hput
 subst hput
 obtain ⟨y,hy1,hy2⟩:=fresh95 w τ
 have hok2:=hok
 simp only [FRec.ok,Bool.and_eq_true,decide_eq_true_eq] at hok2
 obtain ⟨⟨ho,hk⟩,hv⟩:=hok2
 obtain ⟨pb,hpb⟩ : ∃ b,b = w.heap.size:=⟨_,rfl⟩
 obtain ⟨W1,hW1⟩ : ∃ W,W = w.alloc (.cells #[.string k,.string v,.int .i64 0,.bool false] 178):=⟨_,rfl⟩
 have hB1 : Below w.heap.size w W1:=by rw [hW1];exact (Below.refl _ _).alloc (Nat.le_refl _) _
 have hK1 : Blk W1 pb 178 #[.string k,.string v,.int .i64 0,.bool false]:=by rw [hW1,hpb];exact Blk.new _ _ _
 have hS1 : W1.heap.size = w.heap.size + 1:=by rw [hW1];simp
 have HMAY:=Lib.hid (may_any W1 k v false (by omega) (by omega))
 unfold itemV at HMAY
 rw [ho] at HMAY
 -- what stays
 have HQ : Hid (∀ W,Below w.heap.size w W -> FlashAt W (ext τ w y) tc c d from_ segs n s /\ DevAt W (ext τ w y) td d n Z):=Lib.hid fun W hb=>⟨hF.quiet (Chg.of_below hb y),hD.keep (Chg.of_below (T:=fun _=>False) hb y) id⟩
 have hy95 : ¬ FT tc td y:=fun e=>by
  have:=hF.lt
  unfold FT at e
  omega
 have HADD : Hid (∀ W B m cB,Below w.heap.size w W -> (FRec.entry k v false).bytes.length = m -> Sl W (some ⟨B,0,none⟩) (ub (FRec.entry k v false).bytes) -> B < W.heap.size -> w.heap.size <= B -> Calls Tryz.prog 160 #[.pointer (some ⟨c,0,none⟩),.slice (some ⟨B,0,none⟩) m cB] W fun e w'=>e = .returned (.tuple #[.int .i64 ((s.recs.length + 1 : Nat) : Int),.int .i64 0]) /\
  ∃ τ',FlashAt w' τ' tc c d from_ segs n { s with recs:=s.recs ++ [.entry k v false] } /\ DevAt w' τ' td d n (fun _=>False) /\ Chg (FT tc td) W (ext τ w y) w' τ'):=Lib.hid fun W B m cB hb hm hs hB hB2=>
  add160 W (ext τ w y) tc td c d from_ segs n s Z _ B 0 m cB (HQ.out W hb).1 (HQ.out W hb).2 htd hok hle hm hs hB (by rw [ext_new hB2];exact hy95)
 have HFR : Hid (∀ W W' τ',Below w.heap.size w W -> Chg (FT tc td) W (ext τ w y) W' τ' -> Chg (FT tc td) w τ W' τ'):=Lib.hid fun W W' τ' hb hc=>(Chg.of_below hb y).trans hc
 have hlt:=hF.lt
 have hroom:=hF.room
 have HLT : Hid (tc + 2 < 95 /\ td < 95 /\ (td < tc \/ tc + 2 < td)):=Lib.hid ⟨hlt,htd⟩
 have HOK : Hid ((∀ r ∈ s.recs,r.ok = true) /\ (from_ + segs * 8 <= n /\ n <= 2048) /\ s.recs.length < segs /\ (FRec.entry k v false).ok = true):=Lib.hid ⟨hF.ok,hroom,hle,hok⟩
 have HKS : Hid (k.size <= 9223372036854775807 /\ putP s.pl s.n s.used k (s.recs.length + 1) = some (pl',n',used') /\ 1 <= s.recs.length + 1 /\ s.recs.length + 1 <= 1000000 /\ s.n < 1000000):=Lib.hid ⟨by omega,hpp,by omega,by omega,by omega⟩
 have HY : Hid (∀ i,i < w.heap.size -> ¬ (ext τ w y i = y)):=Lib.hid fun i hi e=>hy2 i hi ((ext_old (τ:=τ) (t:=y) hi).symm.trans e)
 have HPBY : Hid (ext τ w y pb = y /\ ¬ FT tc td y):=Lib.hid ⟨ext_new (by omega),hy95⟩
 have HEN:=Lib.hid (fun (W : World) (A : Nat) (h : _)=>encode_any W A 0 1 k v false 0 rfl ho hk hv h)
 have HIB : Hid (tbs [k,v] ++ nbs [0,0] = ub (ibs k v 0) /\ tsum [k,v] + 2 = k.size + v.size + 4):=Lib.hid ⟨ibs_eq k v 0 hk hv (by decide),by simp [tsum];omega⟩
 obtain ⟨i0,z0,hi0⟩:=info_cells info5
 have HI:=Lib.hid hi0
 have HW1:=Lib.hid hW1
 have HPB0:=Lib.hid hpb
 have HB1:=Lib.hid hB1
 have HKV : Hid (k.size < 64 /\ v.size < 64):=Lib.hid ⟨hk,hv⟩
 have g0 : W1.cell? ⟨pb,0,none⟩ = some (.string k):=hK1.cell 0
 have g1 : W1.cell? ⟨pb,1,none⟩ = some (.string v):=hK1.cell 1
 have g2 : W1.cell? ⟨pb,2,none⟩ = some (.int .i64 0):=hK1.cell 2
 have g3 : W1.cell? ⟨pb,3,none⟩ = some (.bool false):=hK1.cell 3
 have HK1:=Lib.hid hK1
 have HS1:=Lib.hid hS1
 clear hF hD hok ho hk hv hy1 hy2 hy95 hpb hW1 hB1 hK1 hS1 hlt hroom hpp hle hn9 htd hi0
 go_enter Tryz.func119,Tryz.ntmps119
 go_wp2_with fail
 rw [<- HW1.out,<- HPB0.out]
 go_wp2_with fail
 refine HMAY.out.mono ?_
 rintro e w1 ⟨rfl,hb1⟩
 have hK2 : Blk w1 pb 178 #[.string k,.string v,.int .i64 0,.bool false]:=(hb1.block pb HK1.out.lt).trans HK1.out
 have HB2:=Lib.hid (HB1.out.trans (hb1.mono HB1.out.size))
 clear g0 g1 g2 g3 hb1 HMAY
 have g0 : (w1.alloc (.cells #[.int .u8 1] 5)).cell? ⟨pb,0,none⟩ = some (.string k):=(hK2.alloc _).cell 0
 have g1 : (w1.alloc (.cells #[.int .u8 1] 5)).cell? ⟨pb,1,none⟩ = some (.string v):=(hK2.alloc _).cell 1
 have g2 : (w1.alloc (.cells #[.int .u8 1] 5)).cell? ⟨pb,2,none⟩ = some (.int .i64 0):=(hK2.alloc _).cell 2
 have g3 : (w1.alloc (.cells #[.int .u8 1] 5)).cell? ⟨pb,3,none⟩ = some (.bool false):=(hK2.alloc _).cell 3
 have g4 : w1.cell? ⟨pb,3,none⟩ = some (.bool false):=hK2.cell 3
 have HK2:=Lib.hid hK2
 have HK2lt : Hid (pb < w1.heap.size):=Lib.hid hK2.lt
 clear hK2
 go_wp2_with fail
 have HIT : Hid (Blk ((w1.alloc (.cells #[.int .u8 1] 5)).alloc (.cells #[.string k,.string v,.int .i64 0,.bool false] 178)) (w1.heap.size + 1) 178 #[.string k,.string v,.int .i64 0,.bool false] /\ Rw ((w1.alloc (.cells #[.int .u8 1] 5)).alloc (.cells #[.string k,.string v,.int .i64 0,.bool false] 178)) (ext τ w y) y 5 1 (.slice (some ⟨w1.heap.size,0,none⟩) 1 1) 1 [.int .u8 1] /\ Blk ((w1.alloc (.cells #[.int .u8 1] 5)).alloc (.cells #[.string k,.string v,.int .i64 0,.bool false] 178)) pb 178 #[.string k,.string v,.int .i64 0,.bool false] /\ Below w.heap.size w ((w1.alloc (.cells #[.int .u8 1] 5)).alloc (.cells #[.string k,.string v,.int .i64 0,.bool false] 178))):=Lib.hid ⟨by
  have:=Blk.new (w1.alloc (.cells #[.int .u8 1] 5)) 178 #[.string k,.string v,.int .i64 0,.bool false]
  simpa using this,((Rw.of_new (owns_new w1 5 1 #[.int .u8 1] 1 rfl (by decide)) HB2.out.size τ y)).alloc _,(HK2.out.alloc _).alloc _,(HB2.out.alloc HB2.out.size _).alloc (by have:=HB2.out.size;simp;omega) _⟩
 generalize (w1.alloc (.cells #[.int .u8 1] 5)).alloc (.cells #[.string k,.string v,.int .i64 0,.bool false] 178) = W3 at *
 clear g0 g1 g2 g3 g4 HK2
 refine (HEN.out W3 (w1.heap.size + 1) (fun j u hu=>by
  have:=HIT.out.1.cell j
  rw [Nat.zero_add]
  rw [this,<- hu]
  simp)).mono ?_
 rintro e w4 ⟨r,rfl,ho4,hb4⟩
 have HB4:=Lib.hid (HIT.out.2.2.2.trans (hb4.mono HIT.out.2.2.2.size))
 have HK4 : Hid (Blk w4 pb 178 #[.string k,.string v,.int .i64 0,.bool false]):=Lib.hid ((hb4.block pb HIT.out.2.2.1.lt).trans HIT.out.2.2.1)
 have HR4 : Hid (Rw w4 (ext τ w y) y 5 1 (.slice (some ⟨w1.heap.size,0,none⟩) 1 1) 1 [.int .u8 1]):=Lib.hid (HIT.out.2.1.keep (T:=fun _=>False) (Chg.same_own (τ:=ext τ w y) hb4) id)
 rw [HIB.out.1,HIB.out.2] at ho4
 have hne4 : 0 < k.size + v.size + 4:=by omega
 obtain ⟨b2,c2,rfl,hc2,hlt2⟩:=ho4.form hne4
 have hsl4 : Sl w4 (some ⟨b2,0,none⟩) (ub (ibs k v 0)):=Sl.of_cells (ho4.cells (g:=b2) rfl)
 have HSL4:=Lib.hid hsl4
 clear ho4 hb4 hc2 hlt2 hsl4 hne4 HIT HEN
 go_wp2_with (at_builtin;refine wpList_append_row2 _ rfl (.tmp 20) (.tmp 23) 74 rfl (ext τ w y) y 5 i0 z0 1 1 (by kernel_rfl) HI.out.1 HI.out.2.1 HI.out.2.2.2.1 HI.out.2.2.2.2 (by rw [HI.out.2.2.1];rfl) (by decide) (.slice (some ⟨w1.heap.size,0,none⟩) 1 1) 1 [.int .u8 1] rfl HR4.out ⟨b2,0,none⟩ (k.size + v.size + 4) c2 (ub (ibs k v 0)) rfl (by rw [ub_length,ibs_length,Nat.mul_one]) (by omega) HSL4.out (ub_one _) (by have:=HKV.out;omega) (by decide) ?_)
 intro b5 c5 w5 hR5 hC5 hG5
 obtain ⟨A5,c5',he5,-,-,hl5,hs5,-,hA5'⟩:=hR5.slice
 cases he5
 have hge5 : w.heap.size <= b5:=by
  have h1:=(hA5' _ rfl).2.2.2
  rcases Nat.lt_or_ge b5 w.heap.size with h2 | h2
  ·have h3 : b5 < w4.heap.size:=Nat.lt_of_lt_of_le h2 HB4.out.size
   rw [show (⟨b5,0,none⟩ : Addr).block = b5 from rfl,ext_old h3] at h1
   exact absurd h1 (HY.out b5 h2)
  ·exact h2
 have hb5 : Below w.heap.size w w5:=HB4.out.trans (hC5.below_of w.heap.size HB4.out.size HY.out)
 have hlt5:=(hA5' _ rfl).2.2.1
 have hK5 : Blk w5 pb 178 #[.string k,.string v,.int .i64 0,.bool false]:=by
  refine (hG5.block pb HK4.out.lt ?_).trans HK4.out
  intro e
  have hpb:=HPB0.out
  have h1 : pb = w1.heap.size:=by simpa [Value.ownBlock] using e
  have:=HB2.out.size
  have h2:=HS1.out
  have h3:=HK2lt.out
  omega
 have hsu : Sl w5 (some ⟨b5,0,none⟩) (ub (FRec.entry k v false).bytes):=by
  have e : ub (FRec.entry k v false).bytes = [.int .u8 1] ++ ub (ibs k v 0):=by simp [FRec.bytes,ub]
  rw [e]
  exact hs5
 have hlen : (FRec.entry k v false).bytes.length = 1 + (k.size + v.size + 4):=by simp [FRec.bytes,ibs_length];omega
 have HA:=Lib.hid (HADD.out w5 b5 (1 + (k.size + v.size + 4)) c5 hb5 hlen hsu hlt5 hge5)
 have HB5:=Lib.hid hb5
 have HK5:=Lib.hid hK5
 clear hl5 hA5' hR5 hC5 hG5 HR4 HK4 HSL4 hs5 hge5 hb5 hlt5 hK5 hsu hlen HADD
 go_wp2_with fail
 refine HA.out.mono ?_
 rintro e w6 ⟨rfl,τ6,hf6,hd6,hc6⟩
 obtain ⟨lp,x,fr,i1,i2',i3⟩:=hf6.ex
 obtain ⟨bs,hbs⟩ : ∃ bs,bs = (s.recs ++ [FRec.entry k v false]).map FRec.bytes:=⟨_,rfl⟩
 have i2 : LogAt w6 τ6 (tc + 2) lp d from_ segs fr bs:=by rw [hbs];exact i2'
 have HBS:=Lib.hid hbs
 clear i2' hbs
 have hblk6 : Blk w6 pb 178 #[.string k,.string v,.int .i64 0,.bool false]:=(hc6.block pb HK5.out.lt (by rw [HPBY.out.1];exact HPBY.out.2)).trans HK5.out
 have ht6 : τ6 pb = y:=(hc6.own pb HK5.out.lt).trans HPBY.out.1
 have HB0 : Hid (FlX w6 τ6 tc td c d from_ segs n lp x bs s.pl s.n s.used w6.drew):=Lib.hid ⟨i1.drewN 1,⟨fr,i2.keep ((Chg.refl (fun _=>False) w6 τ6).drewN 1) (fun _ e=>e.elim)⟩,i3.keep ((Chg.refl (fun _=>False) w6 τ6).drewN 1) id,hd6.drewN 1,(Chg.refl _ w6 τ6).drewN 1,HLT.out⟩
 have HPB : Hid (pb < w6.drew.heap.size /\ ¬ (τ6 pb = tc + 1)):=Lib.hid ⟨hblk6.lt,by rw [ht6];intro e;exact HPBY.out.2 (.inl (by have:=HLT.out;omega))⟩
 have HC6:=Lib.hid (HFR.out w5 w6 τ6 HB5.out hc6)
 have HPC6 : Hid (w6.drew.cell? ⟨pb,0,none⟩ = some (.string k)):=Lib.hid (hblk6.cell 0)
 clear hf6 hd6 hc6 i1 i2 i3 hblk6 ht6 HA HB5 HK5
 go_wp2_with fail
 refine wp_region_cl (GPu7 w6 τ6 tc td c d from_ segs n lp x bs s.pl pl' s.n s.used n' used' pb (s.recs.length + 1) k _ _ _ _ _ _ _ _ _ _ _ _ _ _ _ _ _ _ _ _ _ _ _ _ _ _ _ _ _ _ _) (by kernel_rfl) (by kernel_rfl) ⟨_,_,_,_,_,_,_,_,rfl,⟨Ch1.start rfl,HPC6.out⟩,by simp⟩ ⟨?_,?_,?_,?_,?_,?_,?_,?_,trivial⟩ ?_
 ·intro L a' wx hLi hd hcl hG K hK
  refine Exists.elim hG ?_;clear hG;intro u30 hG
  refine Exists.elim hG ?_;clear hG;intro u31 hG
  refine Exists.elim hG ?_;clear hG;intro u32 hG
  refine Exists.elim hG ?_;clear hG;intro u33 hG
  refine Exists.elim hG ?_;clear hG;intro u34 hG
  refine Exists.elim hG ?_;clear hG;intro u35 hG
  refine Exists.elim hG ?_;clear hG;intro u36 hG
  refine Exists.elim hG ?_;clear hG;intro u37 hG
  refine And.elim ?_ hG;clear hG;intro ha hG
  refine And.elim ?_ hG;clear hG;intro hM hG
  refine And.elim ?_ hG;clear hG;intro f0 hG
  refine And.elim ?_ hG;clear hG;intro f1 hG
  refine And.elim ?_ hG;clear hG;intro f2 hG
  refine And.elim ?_ hG;clear hG;intro f3 hG
  refine And.elim ?_ hG;clear hG;intro f4 hG
  refine And.elim ?_ hG;clear hG;intro f5 hG
  refine And.elim ?_ hG;clear hG;intro f6 hG
  have f7:=hG;clear hG
  subst ha
  have HM:=Lib.hid hM
  clear hM hd hcl
  have F0:=Lib.hid f0;clear f0
  have F1:=Lib.hid f1;clear f1
  have F2:=Lib.hid f2;clear f2
  have F3:=Lib.hid f3;clear f3
  have F4:=Lib.hid f4;clear f4
  have F5:=Lib.hid f5;clear f5
  have F6:=Lib.hid f6;clear f6
  have F7:=Lib.hid f7;clear f7
  go_simp
  go_wp2
  exact ⟨_,_,_,_,_,_,_,_,rfl,⟨HM.out.1.same (k:=0) (by decide),HM.out.2⟩,fun _=>rfl,F1.out,F2.out,F3.out,F4.out,F5.out,F6.out,F7.out⟩
 ·intro L a' wx hLi hd hcl hG K hK
  refine Exists.elim hG ?_;clear hG;intro u30 hG
  refine Exists.elim hG ?_;clear hG;intro u31 hG
  refine Exists.elim hG ?_;clear hG;intro u32 hG
  refine Exists.elim hG ?_;clear hG;intro u33 hG
  refine Exists.elim hG ?_;clear hG;intro u34 hG
  refine Exists.elim hG ?_;clear hG;intro u35 hG
  refine Exists.elim hG ?_;clear hG;intro u36 hG
  refine Exists.elim hG ?_;clear hG;intro u37 hG
  refine And.elim ?_ hG;clear hG;intro ha hG
  refine And.elim ?_ hG;clear hG;intro hM hG
  refine And.elim ?_ hG;clear hG;intro f0 hG
  refine And.elim ?_ hG;clear hG;intro f1 hG
  refine And.elim ?_ hG;clear hG;intro f2 hG
  refine And.elim ?_ hG;clear hG;intro f3 hG
  refine And.elim ?_ hG;clear hG;intro f4 hG
  refine And.elim ?_ hG;clear hG;intro f5 hG
  refine And.elim ?_ hG;clear hG;intro f6 hG
  have f7:=hG;clear hG
  subst ha
  obtain rfl:=f0 (hd ⟨0,.data⟩ (by simp) rfl)
  have HM:=Lib.hid hM
  clear hM hd hcl
  have F0:=Lib.hid f0;clear f0
  have F1:=Lib.hid f1;clear f1
  have F2:=Lib.hid f2;clear f2
  have F3:=Lib.hid f3;clear f3
  have F4:=Lib.hid f4;clear f4
  have F5:=Lib.hid f5;clear f5
  have F6:=Lib.hid f6;clear f6
  have F7:=Lib.hid f7;clear f7
  go_simp
  go_wp2
  exact ⟨_,_,_,_,_,_,_,_,rfl,⟨HM.out.1.same (k:=1) (by decide),HM.out.2⟩,fun _=>rfl,fun _=>rfl,F2.out,F3.out,F4.out,F5.out,F6.out,F7.out⟩
 ·intro L a' wx hLi hd hcl hG K hK
  refine Exists.elim hG ?_;clear hG;intro u30 hG
  refine Exists.elim hG ?_;clear hG;intro u31 hG
  refine Exists.elim hG ?_;clear hG;intro u32 hG
  refine Exists.elim hG ?_;clear hG;intro u33 hG
  refine Exists.elim hG ?_;clear hG;intro u34 hG
  refine Exists.elim hG ?_;clear hG;intro u35 hG
  refine Exists.elim hG ?_;clear hG;intro u36 hG
  refine Exists.elim hG ?_;clear hG;intro u37 hG
  refine And.elim ?_ hG;clear hG;intro ha hG
  refine And.elim ?_ hG;clear hG;intro hM hG
  refine And.elim ?_ hG;clear hG;intro f0 hG
  refine And.elim ?_ hG;clear hG;intro f1 hG
  refine And.elim ?_ hG;clear hG;intro f2 hG
  refine And.elim ?_ hG;clear hG;intro f3 hG
  refine And.elim ?_ hG;clear hG;intro f4 hG
  refine And.elim ?_ hG;clear hG;intro f5 hG
  refine And.elim ?_ hG;clear hG;intro f6 hG
  have f7:=hG;clear hG
  subst ha
  obtain rfl:=f1 (hd ⟨1,.data⟩ (by simp) rfl)
  have HM:=Lib.hid hM
  clear hM hd hcl
  have F0:=Lib.hid f0;clear f0
  have F1:=Lib.hid f1;clear f1
  have F2:=Lib.hid f2;clear f2
  have F3:=Lib.hid f3;clear f3
  have F4:=Lib.hid f4;clear f4
  have F5:=Lib.hid f5;clear f5
  have F6:=Lib.hid f6;clear f6
  have F7:=Lib.hid f7;clear f7
  go_simp
  go_wp2
  exact ⟨_,_,_,_,_,_,_,_,rfl,⟨HM.out.1.same (k:=2) (by decide),HM.out.2⟩,F0.out,fun _=>rfl,fun _=>rfl,F3.out,F4.out,F5.out,F6.out,F7.out⟩
 ·intro L a' wx hLi hd hcl hG K hK
  refine Exists.elim hG ?_;clear hG;intro u30 hG
  refine Exists.elim hG ?_;clear hG;intro u31 hG
  refine Exists.elim hG ?_;clear hG;intro u32 hG
  refine Exists.elim hG ?_;clear hG;intro u33 hG
  refine Exists.elim hG ?_;clear hG;intro u34 hG
  refine Exists.elim hG ?_;clear hG;intro u35 hG
  refine Exists.elim hG ?_;clear hG;intro u36 hG
  refine Exists.elim hG ?_;clear hG;intro u37 hG
  refine And.elim ?_ hG;clear hG;intro ha hG
  refine And.elim ?_ hG;clear hG;intro hM hG
  refine And.elim ?_ hG;clear hG;intro f0 hG
  refine And.elim ?_ hG;clear hG;intro f1 hG
  refine And.elim ?_ hG;clear hG;intro f2 hG
  refine And.elim ?_ hG;clear hG;intro f3 hG
  refine And.elim ?_ hG;clear hG;intro f4 hG
  refine And.elim ?_ hG;clear hG;intro f5 hG
  refine And.elim ?_ hG;clear hG;intro f6 hG
  have f7:=hG;clear hG
  subst ha
  obtain rfl:=f2 (hd ⟨2,.data⟩ (by simp) rfl)
  have cc : wx.cell? ⟨c,1,none⟩ = some (.pointer (some ⟨x,0,none⟩)):=hM.1.or.elim (fun h=>h ▸ HB0.out.hc.cell 1) (fun h=>h.hc.cell 1)
  have HM:=Lib.hid hM
  clear hM hd hcl
  have F0:=Lib.hid f0;clear f0
  have F1:=Lib.hid f1;clear f1
  have F2:=Lib.hid f2;clear f2
  have F3:=Lib.hid f3;clear f3
  have F4:=Lib.hid f4;clear f4
  have F5:=Lib.hid f5;clear f5
  have F6:=Lib.hid f6;clear f6
  have F7:=Lib.hid f7;clear f7
  go_simp
  go_wp2
  exact ⟨_,_,_,_,_,_,_,_,rfl,⟨HM.out.1.same (k:=3) (by decide),HM.out.2⟩,F0.out,F1.out,fun _=>rfl,fun _=>rfl,F4.out,F5.out,F6.out,F7.out⟩
 ·intro L a' wx hLi hd hcl hG K hK
  refine Exists.elim hG ?_;clear hG;intro u30 hG
  refine Exists.elim hG ?_;clear hG;intro u31 hG
  refine Exists.elim hG ?_;clear hG;intro u32 hG
  refine Exists.elim hG ?_;clear hG;intro u33 hG
  refine Exists.elim hG ?_;clear hG;intro u34 hG
  refine Exists.elim hG ?_;clear hG;intro u35 hG
  refine Exists.elim hG ?_;clear hG;intro u36 hG
  refine Exists.elim hG ?_;clear hG;intro u37 hG
  refine And.elim ?_ hG;clear hG;intro ha hG
  refine And.elim ?_ hG;clear hG;intro hM hG
  refine And.elim ?_ hG;clear hG;intro f0 hG
  refine And.elim ?_ hG;clear hG;intro f1 hG
  refine And.elim ?_ hG;clear hG;intro f2 hG
  refine And.elim ?_ hG;clear hG;intro f3 hG
  refine And.elim ?_ hG;clear hG;intro f4 hG
  refine And.elim ?_ hG;clear hG;intro f5 hG
  refine And.elim ?_ hG;clear hG;intro f6 hG
  have f7:=hG;clear hG
  subst ha
  have HM:=Lib.hid hM
  clear hM hd hcl
  have F0:=Lib.hid f0;clear f0
  have F1:=Lib.hid f1;clear f1
  have F2:=Lib.hid f2;clear f2
  have F3:=Lib.hid f3;clear f3
  have F4:=Lib.hid f4;clear f4
  have F5:=Lib.hid f5;clear f5
  have F6:=Lib.hid f6;clear f6
  have F7:=Lib.hid f7;clear f7
  go_simp
  go_wp2
  exact ⟨_,_,_,_,_,_,_,_,rfl,⟨HM.out.1.same (k:=4) (by decide),HM.out.2⟩,F0.out,F1.out,F2.out,F3.out,fun _=>rfl,F5.out,F6.out,F7.out⟩
 ·intro L a' wx hLi hd hcl hG K hK
  refine Exists.elim hG ?_;clear hG;intro u30 hG
  refine Exists.elim hG ?_;clear hG;intro u31 hG
  refine Exists.elim hG ?_;clear hG;intro u32 hG
  refine Exists.elim hG ?_;clear hG;intro u33 hG
  refine Exists.elim hG ?_;clear hG;intro u34 hG
  refine Exists.elim hG ?_;clear hG;intro u35 hG
  refine Exists.elim hG ?_;clear hG;intro u36 hG
  refine Exists.elim hG ?_;clear hG;intro u37 hG
  refine And.elim ?_ hG;clear hG;intro ha hG
  refine And.elim ?_ hG;clear hG;intro hM hG
  refine And.elim ?_ hG;clear hG;intro f0 hG
  refine And.elim ?_ hG;clear hG;intro f1 hG
  refine And.elim ?_ hG;clear hG;intro f2 hG
  refine And.elim ?_ hG;clear hG;intro f3 hG
  refine And.elim ?_ hG;clear hG;intro f4 hG
  refine And.elim ?_ hG;clear hG;intro f5 hG
  refine And.elim ?_ hG;clear hG;intro f6 hG
  have f7:=hG;clear hG
  subst ha
  obtain rfl:=f4 (hd ⟨4,.data⟩ (by simp) rfl)
  have cc2 : wx.cell? ⟨pb,0,none⟩ = some (.string k):=hM.2
  have HM:=Lib.hid hM
  clear hM hd hcl
  have F0:=Lib.hid f0;clear f0
  have F1:=Lib.hid f1;clear f1
  have F2:=Lib.hid f2;clear f2
  have F3:=Lib.hid f3;clear f3
  have F4:=Lib.hid f4;clear f4
  have F5:=Lib.hid f5;clear f5
  have F6:=Lib.hid f6;clear f6
  have F7:=Lib.hid f7;clear f7
  go_simp
  go_wp2
  exact ⟨_,_,_,_,_,_,_,_,rfl,⟨HM.out.1.same (k:=5) (by decide),HM.out.2⟩,F0.out,F1.out,F2.out,F3.out,fun _=>rfl,fun _=>rfl,F6.out,F7.out⟩
 ·intro L a' wx hLi hd hcl hG K hK
  refine Exists.elim hG ?_;clear hG;intro u30 hG
  refine Exists.elim hG ?_;clear hG;intro u31 hG
  refine Exists.elim hG ?_;clear hG;intro u32 hG
  refine Exists.elim hG ?_;clear hG;intro u33 hG
  refine Exists.elim hG ?_;clear hG;intro u34 hG
  refine Exists.elim hG ?_;clear hG;intro u35 hG
  refine Exists.elim hG ?_;clear hG;intro u36 hG
  refine Exists.elim hG ?_;clear hG;intro u37 hG
  refine And.elim ?_ hG;clear hG;intro ha hG
  refine And.elim ?_ hG;clear hG;intro hM hG
  refine And.elim ?_ hG;clear hG;intro f0 hG
  refine And.elim ?_ hG;clear hG;intro f1 hG
  refine And.elim ?_ hG;clear hG;intro f2 hG
  refine And.elim ?_ hG;clear hG;intro f3 hG
  refine And.elim ?_ hG;clear hG;intro f4 hG
  refine And.elim ?_ hG;clear hG;intro f5 hG
  refine And.elim ?_ hG;clear hG;intro f6 hG
  have f7:=hG;clear hG
  subst ha
  have HM:=Lib.hid hM
  clear hM hd hcl
  have F0:=Lib.hid f0;clear f0
  have F1:=Lib.hid f1;clear f1
  have F2:=Lib.hid f2;clear f2
  have F3:=Lib.hid f3;clear f3
  have F4:=Lib.hid f4;clear f4
  have F5:=Lib.hid f5;clear f5
  have F6:=Lib.hid f6;clear f6
  have F7:=Lib.hid f7;clear f7
  go_simp
  go_wp2
  exact ⟨_,_,_,_,_,_,_,_,rfl,⟨HM.out.1.same (k:=6) (by decide),HM.out.2⟩,F0.out,F1.out,F2.out,F3.out,F4.out,F5.out,fun _=>rfl,F7.out⟩
 ·intro L a' wx hLi hd hcl hG K hK
  refine Exists.elim hG ?_;clear hG;intro u30 hG
  refine Exists.elim hG ?_;clear hG;intro u31 hG
  refine Exists.elim hG ?_;clear hG;intro u32 hG
  refine Exists.elim hG ?_;clear hG;intro u33 hG
  refine Exists.elim hG ?_;clear hG;intro u34 hG
  refine Exists.elim hG ?_;clear hG;intro u35 hG
  refine Exists.elim hG ?_;clear hG;intro u36 hG
  refine Exists.elim hG ?_;clear hG;intro u37 hG
  refine And.elim ?_ hG;clear hG;intro ha hG
  refine And.elim ?_ hG;clear hG;intro hM hG
  refine And.elim ?_ hG;clear hG;intro f0 hG
  refine And.elim ?_ hG;clear hG;intro f1 hG
  refine And.elim ?_ hG;clear hG;intro f2 hG
  refine And.elim ?_ hG;clear hG;intro f3 hG
  refine And.elim ?_ hG;clear hG;intro f4 hG
  refine And.elim ?_ hG;clear hG;intro f5 hG
  refine And.elim ?_ hG;clear hG;intro f6 hG
  have f7:=hG;clear hG
  subst ha
  obtain rfl:=f3 (hd ⟨3,.data⟩ (by simp) rfl)
  obtain rfl:=f5 (hd ⟨5,.data⟩ (by simp) rfl)
  obtain rfl:=f6 (hd ⟨6,.data⟩ (by simp) rfl)
  obtain rfl:=hM.1.n hLi
  have hcf:=hM.2
  have HM:=Lib.hid hM
  clear hM hd hcl
  have F0:=Lib.hid f0;clear f0
  have F1:=Lib.hid f1;clear f1
  have F2:=Lib.hid f2;clear f2
  have F3:=Lib.hid f3;clear f3
  have F4:=Lib.hid f4;clear f4
  have F5:=Lib.hid f5;clear f5
  have F6:=Lib.hid f6;clear f6
  have F7:=Lib.hid f7;clear f7
  go_simp
  refine ((put162 _ τ6 (tc + 1) x s.n s.used n' used' (s.recs.length + 1) s.pl pl' k HB0.out.hidx HKS.out.1 HKS.out.2.1 HKS.out.2.2.1 HKS.out.2.2.2.1 HKS.out.2.2.2.2).mono ?_)
  rintro e w1 ⟨⟨v,rfl⟩,hi1,hc1⟩
  have HS:=Lib.hid (HB0.out.index hi1 hc1)
  have HS2:=Lib.hid ((hc1.block pb HPB.out.1 HPB.out.2))
  clear hi1 hc1
  go_wp2
  exact ⟨_,_,_,_,_,_,_,_,rfl,⟨Ch1.go HS.out,(World.cell?_of_block HS2.out).trans HM.out.2⟩,F0.out,F1.out,F2.out,fun _=>rfl,F4.out,fun _=>rfl,fun _=>rfl,fun _=>trivial⟩
 ·intro L a' wx hL hG
  obtain ⟨u30,u31,u32,u33,u34,u35,u36,u37,rfl,hM,f0,f1,f2,f3,f4,f5,f6,f7⟩:=hG
  have HM2:=Lib.hid (hM.1.f (hL 7 (by decide)))
  clear hM hL HB0 HPB HPC6 f0 f1 f2 f3 f4 f5 f6 f7
  go_wp2
  go_ret
  obtain ⟨fr9,hl9⟩:=HM2.out.hlog
  refine ⟨rfl,τ6,⟨⟨lp,x,fr9,HM2.out.hc,by rw [HBS.out] at hl9;exact hl9,HM2.out.hidx⟩,HLT.out.1,?_,HOK.out.2.1,?_⟩,HM2.out.hd,HC6.out.trans HM2.out.hch⟩
  ·intro q hq
   rcases List.mem_append.1 hq with hq | hq
   ·exact HOK.out.1 q hq
   ·simp at hq;subst hq;exact HOK.out.2.2.2
  ·have:=HOK.out.2.2.1;simp;omega
end Go.Proofs.Ytlhekbjidppijaa
namespace Go.Proofs.Ytlhekbjidppijaa
open Go.RowKit
def fentry (s : FS) (key : ByteArray) : Option (Option (ByteArray × ByteArray × Bool)):=match getP s.pl key with
 | none=>some none
 | some pos=>if pos = 0 \/ 50000 < s.recs.length then none else match s.recs[pos - 1]? with
  | some (.entry k v g)=>some (some (k,v,g))
  | _=>none
def itemR : Option (ByteArray × ByteArray × Bool) -> Value
 | none=>.agg #[.string ⟨#[]⟩,.string ⟨#[]⟩,.int .i64 0,.bool false]
 | some (k,v,g)=>.agg #[.string k,.string v,.int .i64 0,.bool g]
theorem flush120 (w : World) (τ : Own) (tc td c d from_ segs n : Nat) (s : FS) (Z : Nat -> Prop) (hF : FlashAt w τ tc c d from_ segs n s) (hD : DevAt w τ td d n Z) (htd : td < 95 /\ (td < tc \/ tc + 2 < td)) :
 Calls Tryz.prog 120 #[.pointer (some ⟨c,0,none⟩)] w fun e w'=>e = .returned (.int .i64 0) /\ FlashAt w' τ tc c d from_ segs n s /\ DevAt w' τ td d n Z /\ Chg (· = td) w τ w' τ:=by
 obtain ⟨lp,x,fr,h1,h2,h3⟩:=hF.ex
 have hlt:=hF.lt
 have c0 : w.cell? ⟨c,0,none⟩ = some (.pointer (some ⟨lp,0,none⟩)):=h1.cell 0
 have HF:=Lib.hid (flush163 w τ (tc + 2) td lp d from_ segs n fr _ Z h2 hD htd.1 (by omega) hF.room.2)
 have HK : Hid (∀ w',Chg (· = td) w τ w' τ -> FlashAt w' τ tc c d from_ segs n s):=Lib.hid fun w' hc=>hF.keep hc (fun x e=>by subst e;omega)
 clear hF hD htd h1 h2 h3 hlt
 go_enter Tryz.func120,Tryz.ntmps120
 go_wp2_with fail
 refine HF.out.mono ?_
 rintro e w1 ⟨rfl,-,h1,h2⟩
 have HR:=Lib.hid (And.intro h1 h2)
 clear h1 h2 c0 HF
 go_wp2
 go_ret
 exact ⟨rfl,HK.out _ HR.out.2,HR.out.1,HR.out.2⟩
theorem ret_cell178 (w w1 : World) (k v : ByteArray) (g : Bool) (rb : Nat) (hb : Below w.heap.size w w1) (hbk : Blk w1 rb 178 #[.string ⟨#[]⟩,.string ⟨#[]⟩,.int .i64 0,.bool false]) (hrb : w.heap.size <= rb) :
 ∃ Wf,Wf = (((w1.setCell ⟨rb,0,none⟩ (.string k)).setCell ⟨rb,1,none⟩ (.string v)).setCell ⟨rb,2,none⟩ (.int .i64 0)).setCell ⟨rb,3,none⟩ (.bool g) /\ Below w.heap.size w Wf /\ Wf.cell? ⟨rb,0,none⟩ = some (.string k) /\ Wf.cell? ⟨rb,1,none⟩ = some (.string v) /\ Wf.cell? ⟨rb,2,none⟩ = some (.int .i64 0) /\ Wf.cell? ⟨rb,3,none⟩ = some (.bool g):=by
 have hB4:=(((hbk.set_ 0 (.string k)).set_ 1 (.string v)).set_ 2 (.int .i64 0)).set_ 3 (.bool g)
 exact ⟨_,rfl,(((hb.setCell (p:=⟨rb,0,none⟩) hrb _).setCell (p:=⟨rb,1,none⟩) hrb _).setCell (p:=⟨rb,2,none⟩) hrb _).setCell (p:=⟨rb,3,none⟩) hrb _,hB4.cell 0,hB4.cell 1,hB4.cell 2,hB4.cell 3⟩
set_option maxRecDepth 20000 in
set_option maxHeartbeats 1000000 in
theorem entry253 (w : World) (τ : Own) (tc c d from_ segs n : Nat) (s : FS) (key : ByteArray) (r : Option (ByteArray × ByteArray × Bool)) (hF : FlashAt w τ tc c d from_ segs n s) (hks : key.size <= 9223372036854775807) (hr : fentry s key = some r) :
 Calls Tryz.prog 253 #[.pointer (some ⟨c,0,none⟩),.string key] w fun e w'=>e = .returned (.tuple #[itemR r,.bool r.isSome]) /\ Below w.heap.size w w':=by
 obtain ⟨lp,x,fr,h1,h2,h3⟩:=hF.ex
 obtain ⟨rb,hrb⟩ : ∃ b,b = w.heap.size:=⟨_,rfl⟩
 obtain ⟨W1,hW1⟩ : ∃ W,W = w.alloc (.cells #[.string ⟨#[]⟩,.string ⟨#[]⟩,.int .i64 0,.bool false] 178):=⟨_,rfl⟩
 have hB1 : Below w.heap.size w W1:=by rw [hW1];exact (Below.refl _ _).alloc (Nat.le_refl _) _
 have hK1 : Blk W1 rb 178 #[.string ⟨#[]⟩,.string ⟨#[]⟩,.int .i64 0,.bool false]:=by rw [hW1,hrb];exact Blk.new _ _ _
 have hkeep : ∀ W,Below w.heap.size w W -> Chg (fun _=>False) w τ W τ:=fun W hb=>Chg.same_own hb
 have c1 : (w.alloc (.cells #[.string ⟨#[]⟩,.string ⟨#[]⟩,.int .i64 0,.bool false] 178)).cell? ⟨c,1,none⟩ = some (.pointer (some ⟨x,0,none⟩)):=by rw [<- hW1];exact (h1.keep (hkeep W1 hB1) id).cell 1
 have HC0 : Hid (∀ W,Below w.heap.size w W -> W.cell? ⟨c,0,none⟩ = some (.pointer (some ⟨lp,0,none⟩))):=Lib.hid fun W hb=>(h1.keep (hkeep W hb) id).cell 0
 have HG:=Lib.hid (get272 W1 τ (tc + 1) x s.n s.used s.pl key (h3.keep (hkeep W1 hB1) id) hks)
 have HLOG : Hid (∀ W,Below w.heap.size w W -> LogAt W τ (tc + 2) lp d from_ segs fr (s.recs.map FRec.bytes)):=Lib.hid fun W hb=>h2.keep (hkeep W hb) (fun _ e=>e.elim)
 have HRB:=Lib.hid hrb
 have HW1:=Lib.hid hW1
 have HB1:=Lib.hid hB1
 have HK1:=Lib.hid hK1
 have hok:=hF.ok
 unfold fentry at hr
 generalize getP s.pl key = gp at *
 cases gp with
 | none=>
  injection hr with hr
  subst hr
  clear hF h1 h2 h3 hkeep hrb hW1 hB1 hK1 hok
  go_enter Tryz.func253,Tryz.ntmps253
  go_wp2_with fail
  rw [<- HW1.out,<- HRB.out]
  refine HG.out.mono ?_
  rintro e w1 ⟨rfl,hb⟩
  have hk2 : Blk w1 rb 178 #[.string ⟨#[]⟩,.string ⟨#[]⟩,.int .i64 0,.bool false]:=(hb.block rb HK1.out.lt).trans HK1.out
  have hbw:=HB1.out.trans (hb.mono HB1.out.size)
  obtain ⟨Wf,hWf,hfin,z0,z1,z2,z3⟩:=ret_cell178 w w1 ⟨#[]⟩ ⟨#[]⟩ false rb hbw hk2 (by rw [HRB.out];exact Nat.le_refl _)
  have s0 : w1.cell? ⟨rb,0,none⟩ = some (.string ⟨#[]⟩):=hk2.cell 0
  have s1 : w1.cell? ⟨rb,1,none⟩ = some (.string ⟨#[]⟩):=hk2.cell 1
  have s2 : w1.cell? ⟨rb,2,none⟩ = some (.int .i64 0):=hk2.cell 2
  have s3 : w1.cell? ⟨rb,3,none⟩ = some (.bool false):=hk2.cell 3
  have f0:=hk2.frozen 0
  have f1:=hk2.frozen 1
  have f2:=hk2.frozen 2
  have f3:=hk2.frozen 3
  have HZ:=Lib.hid (And.intro hWf (And.intro hfin (And.intro z0 (And.intro z1 (And.intro z2 z3)))))
  clear hb hbw hk2 hWf hfin z0 z1 z2 z3 HG c1
  go_wp2
  rw [<- HZ.out.1]
  obtain ⟨-,hfin,z0,z1,z2,z3⟩:=HZ.out
  exact bodyPost_ret (v:=.tuple #[.agg #[.string ⟨#[]⟩,.string ⟨#[]⟩,.int .i64 0,.bool false],.bool false]) (by simp [results,Tryz.results253,go_sem,z0,z1,z2,z3]) rfl ⟨rfl,hfin⟩
 | some pos=>
  dsimp only at hr
  split at hr
  ·cases hr
  rename_i hcond
  split at hr
  case h_2=>cases hr
  rename_i k v g hrec
  injection hr with hr
  subst hr
  have hrok:=hok _ (List.mem_of_getElem? hrec)
  have hlen:=(FRec.ok_len _ hrok)
  have hbod : (s.recs.map FRec.bytes)[pos - 1]? = some (FRec.entry k v g).bytes:=by rw [List.getElem?_map,hrec];rfl
  have HRD : Hid (∀ W,Below w.heap.size w W -> Calls Tryz.prog 273 #[.pointer (some ⟨lp,0,none⟩),.int .i64 (pos : Int)] W fun e w'=>∃ v',e = .returned (.tuple #[v',.int .i64 0]) /\ w'.ownsRow W.heap.size 5 1 v' (FRec.entry k v g).bytes.length (ub (FRec.entry k v g).bytes) /\ Below W.heap.size W w'):=Lib.hid fun W hb=>
   read273 W τ (tc + 2) lp d from_ segs fr _ (HLOG.out W hb) pos _ (by omega) hbod (by simp;omega) (by omega)
  have HRE : Hid (∀ (W : World) (b cc : Nat),(FRec.entry k v g).bytes.length <= cc -> cc <= 9223372036854775807 -> Sl W (some ⟨b,0,none⟩) (ub (FRec.entry k v g).bytes) -> Calls Tryz.prog 258 #[.slice (some ⟨b,0,none⟩) (FRec.entry k v g).bytes.length cc] W fun e w'=>e = .returned (.tuple #[.agg #[.string k,.string v,.int .i64 0,.bool g],.bool true]) /\ Below W.heap.size W w'):=Lib.hid fun W b cc h1 h2 h3=>read258 W b cc _ k v g hrok rfl h1 h2 h3
  have HLEN:=Lib.hid hlen
  clear hF h1 h2 h3 hkeep hrb hW1 hB1 hK1 hok hrec hrok hlen hbod
  generalize (FRec.entry k v g).bytes = body at *
  go_enter Tryz.func253,Tryz.ntmps253
  go_wp2_with fail
  rw [<- HW1.out,<- HRB.out]
  refine HG.out.mono ?_
  rintro e w1 ⟨rfl,hb⟩
  have hk2 : Blk w1 rb 178 #[.string ⟨#[]⟩,.string ⟨#[]⟩,.int .i64 0,.bool false]:=(hb.block rb HK1.out.lt).trans HK1.out
  have hbw:=HB1.out.trans (hb.mono HB1.out.size)
  have HK2:=Lib.hid hk2
  have HB2:=Lib.hid hbw
  have d0:=HC0.out w1 hbw
  clear hb hbw hk2 HG c1
  go_wp2_with fail
  refine (HRD.out w1 HB2.out).mono ?_
  rintro e w2 ⟨v',rfl,ho,hb⟩
  obtain ⟨b2,c2,hv2,hcap,hcm⟩ : ∃ b2 c2,v' = .slice (some ⟨b2,0,none⟩) body.length c2 /\ body.length <= c2 /\ c2 <= 9223372036854775807:=by
   have hl:=HLEN.out
   rcases ho.2 with ⟨_,h0⟩ | ⟨g2,cap,cur,e,_,_,h4,h5,_⟩
   ·omega
   ·exact ⟨g2,cap,e,h4,h5⟩
  subst hv2
  have hsl : Sl w2 (some ⟨b2,0,none⟩) (ub body):=Sl.of_cells (ho.cells (g:=b2) rfl)
  have hk3 : Blk w2 rb 178 #[.string ⟨#[]⟩,.string ⟨#[]⟩,.int .i64 0,.bool false]:=(hb.block rb HK2.out.lt).trans HK2.out
  have HB3:=Lib.hid (HB2.out.trans (hb.mono HB2.out.size))
  have HRE2:=Lib.hid (HRE.out w2 b2 c2 hcap hcm hsl)
  have HK3:=Lib.hid hk3
  clear ho hb hcap hsl hcm hk3 d0
  go_wp2_with fail
  refine HRE2.out.mono ?_
  rintro e w3 ⟨rfl,hb⟩
  have hk4 : Blk w3 rb 178 #[.string ⟨#[]⟩,.string ⟨#[]⟩,.int .i64 0,.bool false]:=(hb.block rb HK3.out.lt).trans HK3.out
  have hbw:=HB3.out.trans (hb.mono HB3.out.size)
  obtain ⟨Wf,hWf,hfin,z0,z1,z2,z3⟩:=ret_cell178 w w3 k v g rb hbw hk4 (by rw [HRB.out];exact Nat.le_refl _)
  have s0 : w3.cell? ⟨rb,0,none⟩ = some (.string ⟨#[]⟩):=hk4.cell 0
  have s1 : w3.cell? ⟨rb,1,none⟩ = some (.string ⟨#[]⟩):=hk4.cell 1
  have s2 : w3.cell? ⟨rb,2,none⟩ = some (.int .i64 0):=hk4.cell 2
  have s3 : w3.cell? ⟨rb,3,none⟩ = some (.bool false):=hk4.cell 3
  have f0:=hk4.frozen 0
  have f1:=hk4.frozen 1
  have f2:=hk4.frozen 2
  have f3:=hk4.frozen 3
  have HZ:=Lib.hid (And.intro hWf (And.intro hfin (And.intro z0 (And.intro z1 (And.intro z2 z3)))))
  clear hb hbw hk4 hWf hfin z0 z1 z2 z3
  go_wp2
  rw [<- HZ.out.1]
  obtain ⟨-,hfin,z0,z1,z2,z3⟩:=HZ.out
  exact bodyPost_ret (v:=.tuple #[.agg #[.string k,.string v,.int .i64 0,.bool g],.bool true]) (by simp [results,Tryz.results253,go_sem,z0,z1,z2,z3]) rfl ⟨rfl,hfin⟩
end Go.Proofs.Ytlhekbjidppijaa
