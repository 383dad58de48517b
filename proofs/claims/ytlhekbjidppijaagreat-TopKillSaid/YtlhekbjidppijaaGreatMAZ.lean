/- Contracts of functions that the Top rows reach, and plain laws for them: what each returns and what it leaves in memory. Conditions: those that each theorem names. -/
import Derived.Test.YtlhekbjidppijaaGreatMAH
import Derived.Test.YtlhekbjidppijaaGreatMAP
import Derived.Test.YtlhekbjidppijaaGreatMAR
import Derived.Test.YtlhekbjidppijaaGreatMAV
import Derived.Test.YtlhekbjidppijaaGreatMAW
import Derived.Test.YtlhekbjidppijaaGreatMAX
import Derived.Test.YtlhekbjidppijaaGreatMAY
set_option linter.unusedVariables false
set_option linter.unusedSimpArgs false
namespace Go.Proofs.Ytlhekbjidppijaa
open Go.RowKit
def fdrop (segs : Nat) (s : FS) (key : ByteArray) : Option FS:=
 if s.recs.length < segs /\ ((findK s.pl key).1.isSome = true -> 1 <= s.n) then some ⟨s.recs ++ [.entry key ⟨#[]⟩ true],dropP s.pl key,if (findK s.pl key).1.isSome then s.n - 1 else s.n,s.used⟩ else none
set_option maxRecDepth 20000 in
set_option maxHeartbeats 2000000 in
theorem drop221 (w : World) (τ : Own) (tc td c d from_ segs n : Nat) (s s' : FS) (Z : Nat -> Prop) (k : ByteArray) (KB ko ck : Nat) (hF : FlashAt w τ tc c d from_ segs n s) (hD : DevAt w τ td d n Z) (htd : td < 95 /\ (td < tc \/ tc + 2 < td)) (hok : (FRec.entry k ⟨#[]⟩ true).ok = true) (hdr : fdrop segs s k = some s')
 (hkey : w.cell? ⟨KB,ko,none⟩ = some (.string k)) (hKB : KB < w.heap.size /\ ¬ FT tc td (τ KB)) :
 Calls Tryz.prog 221 #[.pointer (some ⟨c,0,none⟩),.slice (some ⟨KB,ko,none⟩) 1 ck] w fun e w'=>e = .returned (.int .i64 0) /\ ∃ τ',FlashAt w' τ' tc c d from_ segs n s' /\ DevAt w' τ' td d n (fun _=>False) /\ Chg (FT tc td) w τ w' τ':=by
 unfold fdrop at hdr
 split at hdr
 case isFalse=>cases hdr
 rename_i hcond
 obtain ⟨hle,hn9⟩:=hcond
 injection hdr with hdr
 obtain ⟨y,hy1,hy2⟩:=fresh95 w τ
 have hok2:=hok
 simp only [FRec.ok,Bool.and_eq_true,decide_eq_true_eq] at hok2
 obtain ⟨⟨ho,hk⟩,hv⟩:=hok2
 have hko : keyOk k = true:=by
  unfold itemOk at ho
  simp only [Bool.and_eq_true] at ho
  exact ho.1
 have HKEY : Hid (∀ W,Calls Tryz.prog 164 #[.string k] W fun e w'=>e = .returned (.bool true) /\ W = w'):=Lib.hid fun W=>by
  have:=key_any W k (by omega)
  rw [hko] at this
  exact this
 have HQ : Hid (∀ W,Below w.heap.size w W -> FlashAt W (ext τ w y) tc c d from_ segs n s /\ DevAt W (ext τ w y) td d n Z):=Lib.hid fun W hb=>⟨hF.quiet (Chg.of_below hb y),hD.keep (Chg.of_below (T:=fun _=>False) hb y) id⟩
 have hy95 : ¬ FT tc td y:=fun e=>by
  have:=hF.lt
  unfold FT at e
  omega
 have HADD : Hid (∀ W B m cB,Below w.heap.size w W -> (FRec.entry k ⟨#[]⟩ true).bytes.length = m -> Sl W (some ⟨B,0,none⟩) (ub (FRec.entry k ⟨#[]⟩ true).bytes) -> B < W.heap.size -> w.heap.size <= B -> Calls Tryz.prog 160 #[.pointer (some ⟨c,0,none⟩),.slice (some ⟨B,0,none⟩) m cB] W fun e w'=>e = .returned (.tuple #[.int .i64 ((s.recs.length + 1 : Nat) : Int),.int .i64 0]) /\
  ∃ τ',FlashAt w' τ' tc c d from_ segs n { s with recs:=s.recs ++ [.entry k ⟨#[]⟩ true] } /\ DevAt w' τ' td d n (fun _=>False) /\ Chg (FT tc td) W (ext τ w y) w' τ'):=Lib.hid fun W B m cB hb hm hs hB hB2=>
  add160 W (ext τ w y) tc td c d from_ segs n s Z _ B 0 m cB (HQ.out W hb).1 (HQ.out W hb).2 htd hok hle hm hs hB (by rw [ext_new hB2];exact hy95)
 have HFR : Hid (∀ W W' τ',Below w.heap.size w W -> Chg (FT tc td) W (ext τ w y) W' τ' -> Chg (FT tc td) w τ W' τ'):=Lib.hid fun W W' τ' hb hc=>(Chg.of_below hb y).trans hc
 have hlt:=hF.lt
 have hroom:=hF.room
 have HLT : Hid (tc + 2 < 95 /\ td < 95 /\ (td < tc \/ tc + 2 < td)):=Lib.hid ⟨hlt,htd⟩
 have HOK : Hid ((∀ r ∈ s.recs,r.ok = true) /\ (from_ + segs * 8 <= n /\ n <= 2048) /\ s.recs.length < segs /\ (FRec.entry k ⟨#[]⟩ true).ok = true):=Lib.hid ⟨hF.ok,hroom,hle,hok⟩
 have HY : Hid (∀ i,i < w.heap.size -> ¬ (ext τ w y i = y)):=Lib.hid fun i hi e=>hy2 i hi ((ext_old (τ:=τ) (t:=y) hi).symm.trans e)
 have HEN:=Lib.hid (fun (W : World) (A : Nat) (h : _)=>encode_any W A 0 1 k ⟨#[]⟩ true 1 rfl ho hk hv h)
 have HIB : Hid (tbs [k,⟨#[]⟩] ++ nbs [0,1] = ub (ibs k ⟨#[]⟩ 1) /\ tsum [k,⟨#[]⟩] + 2 = k.size + 4):=Lib.hid ⟨ibs_eq k ⟨#[]⟩ 1 hk hv (by decide),by have e0 : (⟨#[]⟩ : ByteArray).size = 0:=rfl;simp [tsum];omega⟩
 have HDROP : Hid (∀ W τ2 x,IndexAt W τ2 (tc + 1) x s.pl s.n s.used -> Calls Tryz.prog 252 #[.pointer (some ⟨x,0,none⟩),.string k] W fun e w'=>(∃ v,e = .returned v) /\ IndexAt w' τ2 (tc + 1) x s'.pl s'.n s'.used /\ Chg (· = tc + 1) W τ2 w' τ2):=Lib.hid fun W τ2 x h=>by
  refine (drop252 W τ2 (tc + 1) x s.n s.used s.pl k h (by omega) (fun e=>hn9 (by cases h9 : (findK s.pl k).1 with | none=>exact absurd h9 e | some _=>rfl))).mono ?_
  rintro e w' ⟨rfl,h1,h2⟩
  rw [<- hdr]
  exact ⟨⟨_,rfl⟩,h1,h2⟩
 have hrec : s'.recs = s.recs ++ [.entry k ⟨#[]⟩ true]:=by rw [<- hdr]
 have HREC:=Lib.hid hrec
 obtain ⟨i0,z0,hi0⟩:=info_cells info5
 have HI:=Lib.hid hi0
 have HKV : Hid (k.size < 64):=Lib.hid hk
 have HKC : Hid (∀ W τ',Chg (FT tc td) w τ W τ' -> W.cell? ⟨KB,ko,none⟩ = some (.string k)):=Lib.hid fun W τ' hc=>(World.cell?_of_block (hc.block KB hKB.1 hKB.2)).trans hkey
 have HFIN : Hid (∀ W τ',FlashAt W τ' tc c d from_ segs n s' -> DevAt W τ' td d n (fun _=>False) -> Chg (FT tc td) w τ W τ' -> Calls Tryz.prog 163 #[.pointer (some ⟨c,0,none⟩)] W (fun _ _=>True) \/ True):=Lib.hid fun _ _ _ _ _=>.inr trivial
 clear hF hD hok ho hk hv hy1 hy2 hy95 hlt hroom hle hn9 htd hi0 hdr hko hrec hKB HFIN
 go_enter Tryz.func221,Tryz.ntmps221
 go_wp2
 go_loop [15] (fun i=>∃ j : Nat,j <= 1 /\ i = .int .i64 (j : Int)) (fun i=>1 - (intOf i).toNat)
 case atStart=>exact ⟨0,by decide,rfl⟩
 case round=>
  obtain ⟨j,hj,rfl⟩:=hrel
  by_cases hj0 : j = 0
  ·subst hj0
   go_wp2_with fail
   refine (HKEY.out w).mono ?_
   rintro e w1 ⟨rfl,rfl⟩
   go_wp2
   go_round
   case rel=>exact ⟨1,by decide,rfl⟩
   case measure=>simp [intOf]
  ·obtain rfl : j = 1:=by omega
   clear HKEY
   go_wp2
   go_loopw [25] (fun i wr=>(i = .int .i64 0 /\ wr = w) \/ (i = .int .i64 1 /\ ∃ τ',FlashAt wr τ' tc c d from_ segs n s' /\ DevAt wr τ' td d n (fun _=>False) /\ Chg (FT tc td) w τ wr τ')) (fun i _=>1 - (intOf i).toNat)
   case atStart=>exact .inl ⟨rfl,rfl⟩
   case round=>
    rcases hrel with ⟨rfl,rfl⟩ | ⟨rfl,τ2,hf2,hd2,hc2⟩
    ·go_wp2_with fail
     have HIT : Hid (Blk ((wr.alloc (.cells #[.int .u8 1] 5)).alloc (.cells #[.string k,.string ⟨#[]⟩,.int .i64 0,.bool true] 178)) (wr.heap.size + 1) 178 #[.string k,.string ⟨#[]⟩,.int .i64 0,.bool true] /\ Rw ((wr.alloc (.cells #[.int .u8 1] 5)).alloc (.cells #[.string k,.string ⟨#[]⟩,.int .i64 0,.bool true] 178)) (ext τ wr y) y 5 1 (.slice (some ⟨wr.heap.size,0,none⟩) 1 1) 1 [.int .u8 1] /\ Below wr.heap.size wr ((wr.alloc (.cells #[.int .u8 1] 5)).alloc (.cells #[.string k,.string ⟨#[]⟩,.int .i64 0,.bool true] 178))):=Lib.hid ⟨by
      have:=Blk.new (wr.alloc (.cells #[.int .u8 1] 5)) 178 #[.string k,.string ⟨#[]⟩,.int .i64 0,.bool true]
      simpa using this,((Rw.of_new (owns_new wr 5 1 #[.int .u8 1] 1 rfl (by decide)) (Nat.le_refl _) τ y)).alloc _,((Below.refl _ _).alloc (Nat.le_refl _) _).alloc (by simp) _⟩
     generalize (wr.alloc (.cells #[.int .u8 1] 5)).alloc (.cells #[.string k,.string ⟨#[]⟩,.int .i64 0,.bool true] 178) = W3 at *
     refine (HEN.out W3 (wr.heap.size + 1) (fun j u hu=>by
      have:=HIT.out.1.cell j
      rw [Nat.zero_add]
      rw [this,<- hu]
      simp)).mono ?_
     rintro e w4 ⟨r,rfl,ho4,hb4⟩
     have HB4:=Lib.hid (HIT.out.2.2.trans (hb4.mono HIT.out.2.2.size))
     have HR4 : Hid (Rw w4 (ext τ wr y) y 5 1 (.slice (some ⟨wr.heap.size,0,none⟩) 1 1) 1 [.int .u8 1]):=Lib.hid (HIT.out.2.1.keep (T:=fun _=>False) (Chg.same_own (τ:=ext τ wr y) hb4) id)
     rw [HIB.out.1,HIB.out.2] at ho4
     have hne4 : 0 < k.size + 4:=by omega
     obtain ⟨b2,c2,rfl,hc2,hlt2⟩:=ho4.form hne4
     have hsl4 : Sl w4 (some ⟨b2,0,none⟩) (ub (ibs k ⟨#[]⟩ 1)):=Sl.of_cells (ho4.cells (g:=b2) rfl)
     have HSL4:=Lib.hid hsl4
     clear ho4 hb4 hc2 hlt2 hsl4 hne4 HIT HEN
     go_wp2_with (at_builtin;refine wpList_append_row2 _ rfl (.tmp 31) (.tmp 35) 74 rfl (ext τ wr y) y 5 i0 z0 1 1 (by kernel_rfl) HI.out.1 HI.out.2.1 HI.out.2.2.2.1 HI.out.2.2.2.2 (by rw [HI.out.2.2.1];rfl) (by decide) (.slice (some ⟨wr.heap.size,0,none⟩) 1 1) 1 [.int .u8 1] rfl HR4.out ⟨b2,0,none⟩ (k.size + 4) c2 (ub (ibs k ⟨#[]⟩ 1)) rfl (by rw [ub_length,ibs_length,Nat.mul_one];rfl) (by omega) HSL4.out (ub_one _) (by have:=HKV.out;omega) (by decide) ?_)
     intro b5 c5 w5 hR5 hC5 hG5
     obtain ⟨A5,c5',he5,-,-,hl5,hs5,-,hA5'⟩:=hR5.slice
     cases he5
     have hge5 : wr.heap.size <= b5:=by
      have h1:=(hA5' _ rfl).2.2.2
      rcases Nat.lt_or_ge b5 wr.heap.size with h2 | h2
      ·have h3 : b5 < w4.heap.size:=Nat.lt_of_lt_of_le h2 HB4.out.size
       rw [show (⟨b5,0,none⟩ : Addr).block = b5 from rfl,ext_old h3] at h1
       exact absurd h1 (HY.out b5 h2)
      ·exact h2
     have hb5 : Below wr.heap.size wr w5:=HB4.out.trans (hC5.below_of wr.heap.size HB4.out.size HY.out)
     have hlt5:=(hA5' _ rfl).2.2.1
     have hsu : Sl w5 (some ⟨b5,0,none⟩) (ub (FRec.entry k ⟨#[]⟩ true).bytes):=by
      have e : ub (FRec.entry k ⟨#[]⟩ true).bytes = [.int .u8 1] ++ ub (ibs k ⟨#[]⟩ 1):=by simp [FRec.bytes,ub]
      rw [e]
      exact hs5
     have hlen : (FRec.entry k ⟨#[]⟩ true).bytes.length = 1 + (k.size + 4):=by have e0 : (⟨#[]⟩ : ByteArray).size = 0:=rfl;simp [FRec.bytes,ibs_length];omega
     have HA:=Lib.hid (HADD.out w5 b5 (1 + (k.size + 4)) c5 hb5 hlen hsu hlt5 hge5)
     have HB5:=Lib.hid hb5
     clear hl5 hA5' hR5 hC5 hG5 HR4 HSL4 hs5 hge5 hb5 hlt5 hsu hlen HADD
     go_wp2_with fail
     refine HA.out.mono ?_
     rintro e w6 ⟨rfl,τ6,hf6,hd6,hc6⟩
     obtain ⟨lp,x,fr,i1,i2,i3⟩:=hf6.ex
     have c1 : w6.cell? ⟨c,1,none⟩ = some (.pointer (some ⟨x,0,none⟩)):=i1.cell 1
     have HH:=Lib.hid (And.intro i1 (And.intro i2 (And.intro i3 (And.intro hd6 (HFR.out w5 w6 τ6 HB5.out hc6)))))
     have HDR:=Lib.hid (HDROP.out w6 τ6 x i3)
     clear hf6 hd6 hc6 i1 i2 i3 HA HB5
     go_wp2_with fail
     refine HDR.out.mono ?_
     rintro e w7 ⟨⟨v,rfl⟩,hi7,hc7⟩
     have HX:=Lib.hid (And.intro hi7 hc7)
     clear hi7 hc7 c1
     go_wp2
     go_roundw
     case rel=>
      have hl:=HLT.out
      have hx:=HX.out
      have hh:=HH.out
      have hok:=HOK.out
      refine .inr ⟨rfl,τ6,⟨⟨lp,x,fr,hh.1.keep hx.2 (by omega),?_,hx.1⟩,hl.1,?_,hok.2.1,?_⟩,hh.2.2.2.1.keep hx.2 (by omega),hh.2.2.2.2.trans (hx.2.mono fun z e=>by subst e;exact .inl (by omega))⟩
      ·rw [HREC.out]
       exact hh.2.1.keep hx.2 (fun z e=>by subst e;omega)
      ·intro q hq
       rw [HREC.out] at hq
       rcases List.mem_append.1 hq with hq | hq
       ·exact hok.1 q hq
       ·simp at hq;subst hq;exact hok.2.2.2
      ·rw [HREC.out]
       have:=hok.2.2.1
       simp
       omega
     case measure=>simp [intOf]
    ·obtain ⟨lp,x,fr,i1,i2,i3⟩:=hf2.ex
     have c0 : wr.cell? ⟨c,0,none⟩ = some (.pointer (some ⟨lp,0,none⟩)):=i1.cell 0
     have hl:=HLT.out
     have HFL:=Lib.hid (flush163 wr τ2 (tc + 2) td lp d from_ segs n fr _ _ i2 hd2 hl.2.1 (by omega) HOK.out.2.1.2)
     have HS:=Lib.hid (And.intro hf2 (And.intro hd2 hc2))
     clear hf2 hd2 hc2 i1 i2 i3 HEN HADD HDROP hl
     go_wp2_with fail
     refine HFL.out.mono ?_
     rintro e w8 ⟨rfl,-,h8,h9⟩
     have HR:=Lib.hid (And.intro h8 h9)
     clear h8 h9 c0 HFL
     go_wp2
     go_ret
     have hl:=HLT.out
     exact ⟨rfl,τ2,HS.out.1.keep HR.out.2 (fun z e=>by subst e;omega),HR.out.1,HS.out.2.2.trans (HR.out.2.mono fun z e=>.inr e)⟩
end Go.Proofs.Ytlhekbjidppijaa
namespace Go.Proofs.Ytlhekbjidppijaa
open Go.RowKit
def liveR : Option (ByteArray × ByteArray × Bool) -> Option (ByteArray × ByteArray × Bool)
 | none=>none
 | some (k,v,g)=>if itemOk k v g && !g then some (k,v,g) else none
theorem fentry_ok {s : FS} {key k v : ByteArray} {g : Bool} (hok : ∀ r ∈ s.recs,r.ok = true) (h : fentry s key = some (some (k,v,g))) : k.size < 64 /\ v.size < 64:=by
 unfold fentry at h
 split at h
 ·simp at h
 ·split at h
  ·cases h
  ·split at h
   ·rename_i k' v' g' hrec
    simp only [Option.some.injEq,Prod.mk.injEq] at h
    obtain ⟨rfl,rfl,rfl⟩:=h
    have:=hok _ (List.mem_of_getElem? hrec)
    simp only [FRec.ok,Bool.and_eq_true,decide_eq_true_eq] at this
    exact ⟨this.1.2,this.2⟩
   ·cases h
set_option maxRecDepth 20000 in
set_option maxHeartbeats 1000000 in
theorem get222 (w : World) (τ : Own) (tc c d from_ segs n : Nat) (s : FS) (key : ByteArray) (now : Int) (r : Option (ByteArray × ByteArray × Bool)) (hF : FlashAt w τ tc c d from_ segs n s) (hks : key.size <= 9223372036854775807) (hr : fentry s key = some r) :
 Calls Tryz.prog 222 #[.pointer (some ⟨c,0,none⟩),.string key,.int .i64 now] w fun e w'=>e = .returned (.tuple #[itemR (liveR r),.bool (liveR r).isSome]) /\ Below w.heap.size w w':=by
 obtain ⟨rb,hrb⟩ : ∃ b,b = w.heap.size:=⟨_,rfl⟩
 obtain ⟨W1,hW1⟩ : ∃ W,W = w.alloc (.cells #[.string ⟨#[]⟩,.string ⟨#[]⟩,.int .i64 0,.bool false] 178):=⟨_,rfl⟩
 have hB1 : Below w.heap.size w W1:=by rw [hW1];exact (Below.refl _ _).alloc (Nat.le_refl _) _
 have hK1 : Blk W1 rb 178 #[.string ⟨#[]⟩,.string ⟨#[]⟩,.int .i64 0,.bool false]:=by rw [hW1,hrb];exact Blk.new _ _ _
 have HE:=Lib.hid (entry253 W1 τ tc c d from_ segs n s key r (hF.quiet (Chg.same_own hB1)) hks hr)
 have hsz : ∀ k v g,r = some (k,v,g) -> k.size < 64 /\ v.size < 64:=fun k v g e=>fentry_ok hF.ok (by rw [hr,e])
 have HRB:=Lib.hid hrb
 have HW1:=Lib.hid hW1
 have HB1:=Lib.hid hB1
 have HK1:=Lib.hid hK1
 clear hF hr hrb hW1 hB1 hK1 hks
 cases r with
 | none=>
  go_enter Tryz.func222,Tryz.ntmps222
  go_wp2_with fail
  rw [<- HW1.out,<- HRB.out]
  refine HE.out.mono ?_
  rintro e w1 ⟨rfl,hb⟩
  have hk2 : Blk w1 rb 178 #[.string ⟨#[]⟩,.string ⟨#[]⟩,.int .i64 0,.bool false]:=(hb.block rb HK1.out.lt).trans HK1.out
  have hbw:=HB1.out.trans (hb.mono HB1.out.size)
  have hk3:=hk2.alloc (.cells #[.string ⟨#[]⟩,.string ⟨#[]⟩,.int .i64 0,.bool false] 178)
  have hbw2:=hbw.alloc hbw.size (.cells #[.string ⟨#[]⟩,.string ⟨#[]⟩,.int .i64 0,.bool false] 178)
  obtain ⟨Wf,hWf,hfin,z0,z1,z2,z3⟩:=ret_cell178 w _ ⟨#[]⟩ ⟨#[]⟩ false rb hbw2 hk3 (by rw [HRB.out];exact Nat.le_refl _)
  have s0 : (w1.alloc (.cells #[.string ⟨#[]⟩,.string ⟨#[]⟩,.int .i64 0,.bool false] 178)).cell? ⟨rb,0,none⟩ = some (.string ⟨#[]⟩):=hk3.cell 0
  have s1 : (w1.alloc (.cells #[.string ⟨#[]⟩,.string ⟨#[]⟩,.int .i64 0,.bool false] 178)).cell? ⟨rb,1,none⟩ = some (.string ⟨#[]⟩):=hk3.cell 1
  have s2 : (w1.alloc (.cells #[.string ⟨#[]⟩,.string ⟨#[]⟩,.int .i64 0,.bool false] 178)).cell? ⟨rb,2,none⟩ = some (.int .i64 0):=hk3.cell 2
  have s3 : (w1.alloc (.cells #[.string ⟨#[]⟩,.string ⟨#[]⟩,.int .i64 0,.bool false] 178)).cell? ⟨rb,3,none⟩ = some (.bool false):=hk3.cell 3
  have f0:=hk3.frozen 0
  have f1:=hk3.frozen 1
  have f2:=hk3.frozen 2
  have f3:=hk3.frozen 3
  have HZ:=Lib.hid (And.intro hWf (And.intro hfin (And.intro z0 (And.intro z1 (And.intro z2 z3)))))
  clear hb hbw hk2 hk3 hbw2 hWf hfin z0 z1 z2 z3 HE
  simp only [itemR,Option.isSome]
  go_wp2
  rw [<- HZ.out.1]
  obtain ⟨-,hfin,z0,z1,z2,z3⟩:=HZ.out
  exact bodyPost_ret (v:=.tuple #[.agg #[.string ⟨#[]⟩,.string ⟨#[]⟩,.int .i64 0,.bool false],.bool false]) (by simp [results,Tryz.results222,go_sem,z0,z1,z2,z3]) rfl ⟨rfl,hfin⟩
 | some p=>
  obtain ⟨k,v,g⟩:=p
  obtain ⟨hk,hv⟩:=hsz k v g rfl
  have HLV : Hid (∀ W,Calls Tryz.prog 254 #[itemV k v g,.int .i64 now] W fun e w'=>e = .returned (.bool (itemOk k v g && !g)) /\ Below W.heap.size W w'):=Lib.hid fun W=>live_any W k v g now (by omega) (by omega)
  have HLR : Hid (liveR (some (k,v,g)) = if itemOk k v g && !g then some (k,v,g) else none):=Lib.hid rfl
  generalize liveR (some (k,v,g)) = lr at *
  generalize (itemOk k v g && !g) = b at *
  unfold itemV at HLV
  go_enter Tryz.func222,Tryz.ntmps222
  go_wp2_with fail
  rw [<- HW1.out,<- HRB.out]
  refine HE.out.mono ?_
  rintro e w1 ⟨rfl,hb⟩
  have hk2 : Blk w1 rb 178 #[.string ⟨#[]⟩,.string ⟨#[]⟩,.int .i64 0,.bool false]:=(hb.block rb HK1.out.lt).trans HK1.out
  have hbw:=HB1.out.trans (hb.mono HB1.out.size)
  have hk3:=hk2.alloc (.cells #[.string k,.string v,.int .i64 0,.bool g] 178)
  have hx3:=Blk.new w1 178 #[.string k,.string v,.int .i64 0,.bool g]
  have hbw2:=hbw.alloc hbw.size (.cells #[.string k,.string v,.int .i64 0,.bool g] 178)
  have HK3:=Lib.hid hk3
  have HX3:=Lib.hid hx3
  have HBW:=Lib.hid hbw2
  clear hb hbw hk2 hk3 hbw2 HE hx3
  simp only [itemR,Option.isSome]
  go_wp2_with fail
  generalize w1.alloc (.cells #[.string k,.string v,.int .i64 0,.bool g] 178) = W3 at *
  refine (HLV.out W3).mono ?_
  rintro e w4 ⟨rfl,hb4⟩
  have hk4 : Blk w4 rb 178 #[.string ⟨#[]⟩,.string ⟨#[]⟩,.int .i64 0,.bool false]:=(hb4.block rb HK3.out.lt).trans HK3.out
  have hx4 : Blk w4 w1.heap.size 178 #[.string k,.string v,.int .i64 0,.bool g]:=(hb4.block _ HX3.out.lt).trans HX3.out
  have hbw4:=HBW.out.trans (hb4.mono HBW.out.size)
  have s0 : w4.cell? ⟨rb,0,none⟩ = some (.string ⟨#[]⟩):=hk4.cell 0
  have s1 : w4.cell? ⟨rb,1,none⟩ = some (.string ⟨#[]⟩):=hk4.cell 1
  have s2 : w4.cell? ⟨rb,2,none⟩ = some (.int .i64 0):=hk4.cell 2
  have s3 : w4.cell? ⟨rb,3,none⟩ = some (.bool false):=hk4.cell 3
  have f0:=hk4.frozen 0
  have f1:=hk4.frozen 1
  have f2:=hk4.frozen 2
  have f3:=hk4.frozen 3
  cases b with
  | false=>
   have hlr : lr = none:=HLR.out
   subst hlr
   obtain ⟨Wf,hWf,hfin,z0,z1,z2,z3⟩:=ret_cell178 w w4 ⟨#[]⟩ ⟨#[]⟩ false rb hbw4 hk4 (by rw [HRB.out];exact Nat.le_refl _)
   have HZ:=Lib.hid (And.intro hWf (And.intro hfin (And.intro z0 (And.intro z1 (And.intro z2 z3)))))
   clear hb4 hk4 hx4 hbw4 hWf hfin z0 z1 z2 z3
   go_wp2
   rw [<- HZ.out.1]
   obtain ⟨-,hfin,z0,z1,z2,z3⟩:=HZ.out
   exact bodyPost_ret (v:=.tuple #[.agg #[.string ⟨#[]⟩,.string ⟨#[]⟩,.int .i64 0,.bool false],.bool false]) (by simp [results,Tryz.results222,go_sem,z0,z1,z2,z3]) rfl ⟨rfl,hfin⟩
  | true=>
   have hlr : lr = some (k,v,g):=HLR.out
   subst hlr
   obtain ⟨Wf,hWf,hfin,z0,z1,z2,z3⟩:=ret_cell178 w w4 k v g rb hbw4 hk4 (by rw [HRB.out];exact Nat.le_refl _)
   have HZ:=Lib.hid (And.intro hWf (And.intro hfin (And.intro z0 (And.intro z1 (And.intro z2 z3)))))
   have t0 : w4.cell? ⟨w1.heap.size,0,none⟩ = some (.string k):=hx4.cell 0
   have t1 : w4.cell? ⟨w1.heap.size,1,none⟩ = some (.string v):=hx4.cell 1
   have t2 : w4.cell? ⟨w1.heap.size,2,none⟩ = some (.int .i64 0):=hx4.cell 2
   have t3 : w4.cell? ⟨w1.heap.size,3,none⟩ = some (.bool g):=hx4.cell 3
   clear hb4 hk4 hx4 hbw4 hWf hfin z0 z1 z2 z3
   go_wp2
   rw [<- HZ.out.1]
   obtain ⟨-,hfin,z0,z1,z2,z3⟩:=HZ.out
   exact bodyPost_ret (v:=.tuple #[.agg #[.string k,.string v,.int .i64 0,.bool g],.bool true]) (by simp [results,Tryz.results222,go_sem,z0,z1,z2,z3]) rfl ⟨rfl,hfin⟩
def fwipe (segs : Nat) (s : FS) : Option FS:=if s.recs.length < segs then some ⟨s.recs ++ [.wipe],List.replicate 16 Place.zero,0,0⟩ else none
set_option maxRecDepth 20000 in
set_option maxHeartbeats 1000000 in
theorem wipe229 (w : World) (τ : Own) (tc td c d from_ segs n : Nat) (s s' : FS) (Z : Nat -> Prop) (hF : FlashAt w τ tc c d from_ segs n s) (hD : DevAt w τ td d n Z) (htd : td < 95 /\ (td < tc \/ tc + 2 < td)) (hw : fwipe segs s = some s') :
 Calls Tryz.prog 229 #[.pointer (some ⟨c,0,none⟩)] w fun e w'=>e = .returned (.int .i64 0) /\ ∃ τ',FlashAt w' τ' tc c d from_ segs n s' /\ DevAt w' τ' td d n (fun _=>False) /\ Chg (FT tc td) w τ w' τ':=by
 unfold fwipe at hw
 split at hw
 case isFalse=>cases hw
 rename_i hle
 injection hw with hw
 subst hw
 obtain ⟨y,hy1,hy2⟩:=fresh95 w τ
 obtain ⟨W1,hW1⟩ : ∃ W,W = w.alloc (.cells #[.int .u8 2] 5):=⟨_,rfl⟩
 obtain ⟨b1,hb1⟩ : ∃ b,b = w.heap.size:=⟨_,rfl⟩
 have hB1 : Below w.heap.size w W1:=by rw [hW1];exact (Below.refl _ _).alloc (Nat.le_refl _) _
 have hK1 : Blk W1 b1 5 #[.int .u8 2]:=by rw [hW1,hb1];exact Blk.new _ _ _
 have hc1 : Chg (fun _=>False) w τ W1 (ext τ w y):=Chg.of_below hB1 y
 have hlt:=hF.lt
 have hy95 : ¬ FT tc td y:=fun e=>by unfold FT at e;omega
 have HADD:=Lib.hid (add160 W1 (ext τ w y) tc td c d from_ segs n s Z .wipe b1 0 1 1 (hF.quiet hc1) (hD.keep hc1 id) htd rfl hle rfl hK1.sl (by exact hK1.lt) (by rw [ext_new (by omega)];exact hy95))
 have HF0 : Hid (∀ W' τ',Chg (FT tc td) W1 (ext τ w y) W' τ' -> Chg (FT tc td) w τ W' τ'):=Lib.hid fun W' τ' hc=>(hc1.mono fun _ e=>e.elim).trans hc
 have HLT : Hid (tc + 2 < 95 /\ td < 95 /\ (td < tc \/ tc + 2 < td) /\ n <= 2048):=Lib.hid ⟨hlt,htd.1,htd.2,hF.room.2⟩
 have HW1:=Lib.hid hW1
 have HB1:=Lib.hid hb1
 clear hF hD htd hle hy1 hy2 hW1 hb1 hB1 hK1 hc1 hlt hy95
 go_enter Tryz.func229,Tryz.ntmps229
 go_wp2_with fail
 rw [<- HW1.out,<- HB1.out]
 refine HADD.out.mono ?_
 rintro e w2 ⟨rfl,τ2,hf2,hd2,hc2⟩
 have HNEW:=Lib.hid (new257 w2 τ2 (tc + 1))
 have HS:=Lib.hid (And.intro hf2 (And.intro hd2 hc2))
 clear hf2 hd2 hc2 HADD
 go_wp2_with fail
 refine HNEW.out.mono ?_
 rintro e w3 ⟨x,rfl,hi3,hb3⟩
 obtain ⟨lp,x0,fr,i1,i2,i3⟩:=HS.out.1.ex
 have hq : Chg (fun _=>False) w2 τ2 w3 (ext τ2 w2 (tc + 1)):=Chg.of_below hb3 _
 have j1:=i1.keep hq id
 have j2:=i2.keep hq (fun _ e=>e.elim)
 have j3:=HS.out.2.1.keep hq id
 have s1 : w3.cell? ⟨c,1,none⟩ = some (.pointer (some ⟨x0,0,none⟩)):=j1.cell 1
 have f1:=j1.frozen 1
 have hw3 : Chg (· = tc) w3 (ext τ2 w2 (tc + 1)) (w3.setCell ⟨c,1,none⟩ (.pointer (some ⟨x,0,none⟩))) (ext τ2 w2 (tc + 1)):=(Chg.refl _ _ _).setCell (p:=⟨c,1,none⟩) j1.own _
 have k1 : Has (w3.setCell ⟨c,1,none⟩ (.pointer (some ⟨x,0,none⟩))) (ext τ2 w2 (tc + 1)) tc c 274 #[.pointer (some ⟨lp,0,none⟩),.pointer (some ⟨x,0,none⟩)]:=by
  have:=j1.set_ 1 (.pointer (some ⟨x,0,none⟩))
  simpa using this
 have hlt:=HLT.out
 have HFL : Hid (FlashAt (w3.setCell ⟨c,1,none⟩ (.pointer (some ⟨x,0,none⟩))) (ext τ2 w2 (tc + 1)) tc c d from_ segs n ⟨s.recs ++ [.wipe],List.replicate 16 Place.zero,0,0⟩ /\ DevAt (w3.setCell ⟨c,1,none⟩ (.pointer (some ⟨x,0,none⟩))) (ext τ2 w2 (tc + 1)) td d n (fun _=>False) /\ Chg (FT tc td) w τ (w3.setCell ⟨c,1,none⟩ (.pointer (some ⟨x,0,none⟩))) (ext τ2 w2 (tc + 1))):=Lib.hid
  ⟨⟨⟨lp,x,fr,k1,j2.keep hw3 (fun z e=>by subst e;omega),hi3.keep hw3 (by omega)⟩,hlt.1,HS.out.1.ok,HS.out.1.room,HS.out.1.le⟩,j3.keep hw3 (by omega),HF0.out _ _ ((HS.out.2.2.trans (hq.mono fun _ e=>e.elim)).trans (hw3.mono fun z e=>by subst e;exact .inl (by omega)))⟩
 have c0 : (w3.setCell ⟨c,1,none⟩ (.pointer (some ⟨x,0,none⟩))).cell? ⟨c,0,none⟩ = some (.pointer (some ⟨lp,0,none⟩)):=k1.cell 0
 have HFLS : Hid (LogAt (w3.setCell ⟨c,1,none⟩ (.pointer (some ⟨x,0,none⟩))) (ext τ2 w2 (tc + 1)) (tc + 2) lp d from_ segs fr ((s.recs ++ [FRec.wipe]).map FRec.bytes)):=Lib.hid (j2.keep hw3 (fun z e=>by subst e;omega))
 clear i1 i2 i3 hq j1 j2 j3 hw3 k1 hi3 hb3 hlt HNEW HS
 go_wp2_with fail
 generalize w3.setCell ⟨c,1,none⟩ (.pointer (some ⟨x,0,none⟩)) = W4 at *
 generalize ext τ2 w2 (tc + 1) = τ4 at *
 have hlt:=HLT.out
 refine (flush163 W4 τ4 (tc + 2) td lp d from_ segs n fr _ _ HFLS.out HFL.out.2.1 hlt.2.1 (by omega) hlt.2.2.2).mono ?_
 rintro e w5 ⟨rfl,h1,h2,h3⟩
 have HR:=Lib.hid (And.intro h2 h3)
 clear h1 h2 h3 c0 s1 f1
 go_wp2
 go_ret
 exact ⟨rfl,τ4,HFL.out.1.keep HR.out.2 (fun z e=>by subst e;omega),HR.out.1,HFL.out.2.2.trans (HR.out.2.mono fun z e=>.inr e)⟩
end Go.Proofs.Ytlhekbjidppijaa
namespace Go.Proofs.Ytlhekbjidppijaa
open Go.RowKit
def FS.zero : FS:=⟨[],List.replicate 16 Place.zero,0,0⟩
structure StoreAt (w : World) (τ : Own) (ts st d : Nat) (fs : FS) (cnt tn : Nat) (m : MS) : Prop where
 ex : ∃ c j k,Has w τ ts st 119 #[.pointer (some ⟨c,0,none⟩),.pointer (some ⟨j,0,none⟩),.pointer (some ⟨k,0,none⟩),.int .i64 1] /\ FlashAt w τ (ts + 6) c d 162 129 1200 fs /\ JournalAt w τ (ts + 3) j d 2 20 1200 cnt /\ KeeperAt w τ (ts + 1) k d 0 tn m /\ DevAt w τ (ts + 9) d 1200 (fun _=>False)
 lt : ts + 9 < 95
def ST (ts x : Nat) : Prop:=ts <= x % 96 /\ x % 96 <= ts + 9
theorem StoreAt.keep {T : Nat -> Prop} {w w' : World} {τ τ' : Own} {ts st d cnt tn : Nat} {fs : FS} {m : MS} (h : StoreAt w τ ts st d fs cnt tn m) (hc : Chg T w τ w' τ') (hT : ∀ x,T x -> ¬ ST ts x) : StoreAt w' τ' ts st d fs cnt tn m:=by
 obtain ⟨c,j,k,h1,h2,h3,h4,h5⟩:=h.ex
 have hl:=h.lt
 have key : ∀ x,x % 96 = x -> ts <= x -> x <= ts + 9 -> ¬ T x:=fun x e a b hx=>hT x hx ⟨by omega,by omega⟩
 refine ⟨⟨c,j,k,h1.keep hc (key _ (by omega) (by omega) (by omega)),h2.keep hc (fun x hx e=>hT x hx ⟨by omega,by omega⟩),h3.keep hc (fun x hx e=>hT x hx ⟨by omega,by omega⟩),h4.keep hc (key _ (by omega) (by omega) (by omega)) (key _ (by omega) (by omega) (by omega)),h5.keep hc (key _ (by omega) (by omega) (by omega))⟩,hl⟩
theorem off179 (w : World) (τ : Own) (td d : Nat) (Z : Nat -> Prop) (h : DevAt w τ td d 1200 Z) : Calls Tryz.prog 179 #[.pointer (some ⟨d,0,none⟩)] w fun e w'=>e = .returned (.int .i64 0) /\ w' = w:=by
 have H:=Lib.hid (len_any w τ td d 1200 Z h)
 clear h
 go_enter Tryz.func179,Tryz.ntmps179
 go_wp2_with fail
 refine H.out.mono ?_
 rintro e w1 ⟨rfl,rfl⟩
 go_wp2
 go_ret
 exact ⟨rfl,rfl⟩
set_option maxRecDepth 20000 in
set_option maxHeartbeats 2000000 in
theorem parts181 (w : World) (τ : Own) (ts d k : Nat) (Z : Nat -> Prop) (hK : KeeperAt w τ (ts + 1) k d 0 1 ⟨0,0,0,false⟩) (hD : DevAt w τ (ts + 9) d 1200 Z) (hZ : ∀ i,2 <= i -> Z i) (hlt : ts + 9 < 95) :
 Calls Tryz.prog 181 #[.pointer (some ⟨d,0,none⟩),.pointer (some ⟨k,0,none⟩)] w fun e w'=>∃ st τ',e = .returned (.tuple #[.pointer (some ⟨st,0,none⟩),.int .i64 0]) /\ StoreAt w' τ' ts st d FS.zero 0 2 ⟨1,0,0,false⟩ /\ Chg (ST ts) w τ w' τ':=by
 obtain ⟨y,hy1,hy2⟩:=fresh95 w τ
 have HME : Hid (Calls Tryz.prog 48 #[.pointer (some ⟨k,0,none⟩)] w fun e w'=>e = .returned (.agg #[.int .i64 0,.int .i64 0,.int .i64 0,.bool false]) /\ Below w.heap.size w w'):=Lib.hid (meta48 w τ (ts + 1) k d 0 1 ⟨0,0,0,false⟩ hK)
 have HSV : Hid (∀ W,Below w.heap.size w W -> Calls Tryz.prog 192 #[.pointer (some ⟨k,0,none⟩),.agg #[.int .i64 1,.int .i64 0,.int .i64 0,.bool false]] W fun e w'=>e = .returned (.int .i64 0) /\ ∃ τ',KeeperAt w' τ' (ts + 1) k d 0 2 ⟨1,0,0,false⟩ /\ DevAt w' τ' (ts + 9) d 1200 (fun i=>2 <= i) /\ Chg (fun x=>x = ts + 1 \/ x = ts + 1 + 1 \/ x = ts + 9) W (ext τ w y) w' τ'):=Lib.hid fun W hb=>by
  have hc : Chg (fun _=>False) w τ W (ext τ w y):=Chg.of_below hb y
  exact save192 W (ext τ w y) (ts + 1) k 0 (ts + 9) d 1200 1 ⟨0,0,0,false⟩ ⟨1,0,0,false⟩ Z (fun i=>2 <= i) (hK.keep hc id id) (hD.keep hc id) (by omega) (by omega) (by decide) (by decide) (by decide) (fun i hi=>⟨hZ i hi,by omega,by omega⟩) rfl (by decide)
 have HLT:=Lib.hid hlt
 have HY:=Lib.hid hy1
 clear hK hD hZ hlt hy1 hy2
 go_enter Tryz.func181,Tryz.ntmps181
 go_wp2_with fail
 refine HME.out.mono ?_
 rintro e w1 ⟨rfl,hb1⟩
 have HB1:=Lib.hid hb1
 clear hb1 HME
 go_wp2_with fail
 have hbW : Below w.heap.size w (w1.alloc (.cells #[.int .i64 1,.int .i64 0,.int .i64 0,.bool false] 45)):=HB1.out.alloc HB1.out.size _
 have hmb : Has (w1.alloc (.cells #[.int .i64 1,.int .i64 0,.int .i64 0,.bool false] 45)) (ext τ w y) y w1.heap.size 45 #[.int .i64 1,.int .i64 0,.int .i64 0,.bool false]:=⟨Blk.new _ _ _,ext_new HB1.out.size⟩
 have HBW:=Lib.hid hbW
 have HMB:=Lib.hid hmb
 clear hbW hmb
 generalize w1.alloc (.cells #[.int .i64 1,.int .i64 0,.int .i64 0,.bool false] 45) = W1 at *
 generalize w1.heap.size = mb at *
 refine (HSV.out W1 HBW.out).mono ?_
 rintro e w2 ⟨rfl,τ2,hk2,hd2,hc2⟩
 have hl:=HLT.out
 have HMB2 : Hid (Has w2 τ2 y mb 45 #[.int .i64 1,.int .i64 0,.int .i64 0,.bool false]):=Lib.hid (HMB.out.keep hc2 (by have:=HY.out;omega))
 have HJO:=Lib.hid (open225 w2 τ2 (ts + 3) (ts + 9) d 1200 2 20 (fun i=>2 <= i) hd2 (by omega) (by omega) (by decide) (by decide) (by decide) (by decide) (fun i h1 h2=>h1))
 have HS2 : Hid (KeeperAt w2 τ2 (ts + 1) k d 0 2 ⟨1,0,0,false⟩ /\ Chg (ST ts) w τ w2 τ2):=Lib.hid ⟨hk2,(Chg.of_below HBW.out y).trans (hc2.mono fun x e=>by unfold ST;omega)⟩
 clear hk2 hd2 hc2 hl HSV HMB HBW
 go_wp2_with fail
 refine HJO.out.mono ?_
 rintro e w3 ⟨j,τ3,rfl,hj3,hd3,hc3⟩
 have hl:=HLT.out
 have HMB3 : Hid (Has w3 τ3 y mb 45 #[.int .i64 1,.int .i64 0,.int .i64 0,.bool false]):=Lib.hid (HMB2.out.keep hc3 (by have:=HY.out;omega))
 have HLN:=Lib.hid (len_any w3 τ3 (ts + 9) d 1200 _ hd3)
 have HFO:=Lib.hid (open226 w3 τ3 (ts + 6) (ts + 9) d 1200 162 129 (fun i=>2 <= i) hd3 (by omega) (by omega) (by decide) (by decide) (by decide) (by decide) (fun i h1 h2=>Nat.le_trans (by decide) h1))
 have HS3 : Hid (KeeperAt w3 τ3 (ts + 1) k d 0 2 ⟨1,0,0,false⟩ /\ JournalAt w3 τ3 (ts + 3) j d 2 20 1200 0 /\ Chg (ST ts) w τ w3 τ3):=Lib.hid ⟨HS2.out.1.keep hc3 (by omega) (by omega),hj3,HS2.out.2.trans (hc3.mono fun x e=>by subst e;unfold ST;omega)⟩
 clear hj3 hd3 hc3 hl HJO HS2 HMB2
 go_wp2_with fail
 refine HLN.out.mono ?_
 rintro e w4 ⟨rfl,rfl⟩
 clear HLN
 go_wp2_with fail
 refine HFO.out.mono ?_
 rintro e w5 ⟨c,τ5,rfl,hf5,hd5,hc5⟩
 have hl:=HLT.out
 have hmb5:=HMB3.out.keep hc5 (by have:=HY.out;omega)
 have c0 : w5.cell? ⟨mb,0,none⟩ = some (.int .i64 1):=hmb5.cell 0
 have hq : Chg (fun _=>False) w5 τ5 (w5.alloc (.cells #[.pointer (some ⟨c,0,none⟩),.pointer (some ⟨j,0,none⟩),.pointer (some ⟨k,0,none⟩),.int .i64 1] 119)) (ext τ5 w5 ts):=((Chg.refl _ _ _).alloc _).ext ts
 have HRES : Hid (StoreAt (w5.alloc (.cells #[.pointer (some ⟨c,0,none⟩),.pointer (some ⟨j,0,none⟩),.pointer (some ⟨k,0,none⟩),.int .i64 1] 119)) (ext τ5 w5 ts) ts w5.heap.size d FS.zero 0 2 ⟨1,0,0,false⟩ /\ Chg (ST ts) w τ (w5.alloc (.cells #[.pointer (some ⟨c,0,none⟩),.pointer (some ⟨j,0,none⟩),.pointer (some ⟨k,0,none⟩),.int .i64 1] 119)) (ext τ5 w5 ts)):=Lib.hid
  ⟨⟨⟨c,j,k,⟨Blk.new _ _ _,ext_new (Nat.le_refl _)⟩,hf5.quiet hq,(HS3.out.2.1.keep hc5 (fun x e=>by subst e;omega)).keep hq (fun _ e=>e.elim),(HS3.out.1.keep hc5 (by omega) (by omega)).keep hq id id,(hd5.less (fun _ h=>h.elim)).keep hq id⟩,hl⟩,(HS3.out.2.2.trans (hc5.mono fun x e=>by subst e;unfold ST;omega)).trans (hq.mono fun _ e=>e.elim)⟩
 clear hf5 hd5 hc5 hl hmb5 hq HFO HS3 HMB3
 go_wp2
 go_ret2
 exact ⟨w5.heap.size,_,rfl,HRES.out.1,HRES.out.2⟩
set_option maxRecDepth 20000 in
set_option maxHeartbeats 2000000 in
theorem make138 (w : World) (τ : Own) (ts d : Nat) (hD : DevAt w τ (ts + 9) d 1200 (fun _=>True)) (hlt : ts + 9 < 95) :
 Calls Tryz.prog 138 #[.pointer (some ⟨d,0,none⟩)] w fun e w'=>∃ st τ',e = .returned (.tuple #[.pointer (some ⟨st,0,none⟩),.int .i64 0]) /\ StoreAt w' τ' ts st d FS.zero 0 2 ⟨1,0,0,false⟩ /\ Chg (ST ts) w τ w' τ':=by
 have HO:=Lib.hid (off179 w τ (ts + 9) d _ hD)
 have HLN:=Lib.hid (len_any w τ (ts + 9) d 1200 _ hD)
 have HD:=Lib.hid hD
 have HLT:=Lib.hid hlt
 clear hD hlt
 go_enter Tryz.func138,Tryz.ntmps138
 go_wp2_with fail
 refine HO.out.mono ?_
 rintro e w1 ⟨rfl,rfl⟩
 go_wp2_with fail
 refine HLN.out.mono ?_
 rintro e w2 ⟨rfl,rfl⟩
 clear HO HLN
 go_wp2
 go_loopw [16] (fun i wr=>∃ k : Nat,k <= 1200 /\ i = .int .i64 (k : Int) /\ DevAt wr τ (ts + 9) d 1200 (fun _=>True) /\ Chg (· = ts + 9) w2 τ wr τ) (fun i _=>1200 - (intOf i).toNat)
 case atStart=>exact ⟨0,by decide,rfl,HD.out,Chg.refl _ _ _⟩
 case round=>
  obtain ⟨k,hk,rfl,h1,h2⟩:=hrel
  have HD1:=Lib.hid h1
  have HC1:=Lib.hid h2
  clear h1 h2 HD
  by_cases hlt : k < 1200
  ·have k2 : (k : Int) < 1200:=by omega
   have hmk:=make_zbuf wr
   have HD2 : Hid (DevAt (wr.alloc (.cells zbuf 5)) τ (ts + 9) d 1200 (fun _=>True)):=Lib.hid (HD1.out.keep ((Chg.refl (fun _=>False) wr τ).alloc _) id)
   have HZB:=Lib.hid (zbuf_sl wr)
   go_wp2_with fail
   refine (write_any _ τ (ts + 9) d 1200 (fun _=>True) (fun _=>True) HD2.out k hlt (some ⟨wr.heap.size,0,none⟩) 64 64 (List.replicate 64 0) (by simp) (by decide) (fun x hx=>by rw [List.eq_of_mem_replicate hx];decide) HZB.out (by intro e;cases e) (fun k hk=>⟨trivial,fun _ x hx=>List.eq_of_mem_replicate hx⟩)).mono ?_
   rintro e w3 ⟨rfl,hd2,hc2⟩
   have HD3:=Lib.hid hd2
   have HC3 : Hid (Chg (· = ts + 9) w2 τ w3 τ):=Lib.hid ((HC1.out.alloc _).trans hc2)
   clear hd2 hc2 hmk HZB
   go_wp2
   go_roundw
   case rel=>exact ⟨k + 1,by omega,by go_num,HD3.out,HC3.out⟩
   case measure=>simp [intOf];omega
  ·obtain rfl : k = 1200:=by omega
   have hl:=HLT.out
   have HMK:=Lib.hid (make184 wr τ (ts + 1) 0 (ts + 9) d 1200 _ (fun i=>i ≠ 0) HD1.out (by omega) (by omega) (by decide) (by decide) (fun i hi=>⟨trivial,hi⟩))
   clear hl
   go_wp2_with fail
   refine HMK.out.mono ?_
   rintro e w3 ⟨kp,τ3,rfl,hk3,hd3,hc3⟩
   have HP:=Lib.hid (parts181 w3 τ3 ts d kp (fun i=>i ≠ 0) hk3 hd3 (fun i hi=>by omega) HLT.out)
   have HC3 : Hid (Chg (ST ts) w2 τ w3 τ3):=Lib.hid ((HC1.out.mono fun x e=>by have:=HLT.out;subst e;unfold ST;omega).trans (hc3.mono fun x e=>by have:=HLT.out;unfold ST;omega))
   clear hk3 hd3 hc3 HMK
   go_wp2_with fail
   refine HP.out.mono ?_
   rintro e w4 ⟨st,τ4,rfl,hs4,hc4⟩
   have HR:=Lib.hid (And.intro hs4 (HC3.out.trans hc4))
   clear hs4 hc4
   go_wp2
   go_ret2
   exact ⟨st,τ4,rfl,HR.out.1,HR.out.2⟩
set_option maxRecDepth 20000 in
set_option maxHeartbeats 2000000 in
theorem kill167 (w : World) (τ : Own) (ts st d cnt tn : Nat) (fs fs' : FS) (m : MS) (k : ByteArray) (KB ko ck : Nat) (hS : StoreAt w τ ts st d fs cnt tn m) (hk : keyOk k = true) (hcnt : cnt < 20) (hdr : fdrop 129 fs k = some fs')
 (hkey : w.cell? ⟨KB,ko,none⟩ = some (.string k)) (hKB : KB < w.heap.size /\ ¬ ST ts (τ KB)) :
 Calls Tryz.prog 167 #[.pointer (some ⟨st,0,none⟩),.slice (some ⟨KB,ko,none⟩) 1 ck] w fun e w'=>e = .returned (.tuple #[.int .i64 ((cnt + 1 : Nat) : Int),.int .i64 0]) /\ ∃ τ',StoreAt w' τ' ts st d fs' (cnt + 1) tn m /\ Chg (ST ts) w τ w' τ':=by
 obtain ⟨c,j,kp,h1,h2,h3,h4,h5⟩:=hS.ex
 have hl:=hS.lt
 have hks : k.size < 64:=by unfold keyOk at hk;have:=of_decide_eq_true hk;omega
 have HKEY : Hid (∀ W,Calls Tryz.prog 164 #[.string k] W fun e w'=>e = .returned (.bool true) /\ W = w'):=Lib.hid fun W=>by
  have:=key_any W k (by omega)
  rw [hk] at this
  exact this
 have hok : (FRec.entry k ⟨#[]⟩ true).ok = true:=by
  show (keyOk k && (!true || decide ((⟨#[]⟩ : ByteArray).size = 0)) && decide (k.size < 64) && decide ((⟨#[]⟩ : ByteArray).size < 64)) = true
  rw [hk,decide_eq_true hks]
  rfl
 have HADD:=Lib.hid (add220 w τ (ts + 3) (ts + 9) j d 2 20 1200 cnt _ k KB ko ck h3 h5 (by omega) hk hks (by omega) hkey hKB.1)
 have HRST : Hid (∀ W τ',JournalAt W τ' (ts + 3) j d 2 20 1200 (cnt + 1) -> DevAt W τ' (ts + 9) d 1200 (fun _=>False) -> Chg (FT (ts + 3) (ts + 9)) w τ W τ' -> W.cell? ⟨st,0,none⟩ = some (.pointer (some ⟨c,0,none⟩)) /\ Calls Tryz.prog 221 #[.pointer (some ⟨c,0,none⟩),.slice (some ⟨KB,ko,none⟩) 1 ck] W fun e w'=>e = .returned (.int .i64 0) /\ ∃ τ2,StoreAt w' τ2 ts st d fs' (cnt + 1) tn m /\ Chg (ST ts) w τ w' τ2):=Lib.hid fun W τ' a b hc=>by
  have hkb : ¬ FT (ts + 3) (ts + 9) (τ KB):=fun e=>hKB.2 (by unfold FT at e;unfold ST;omega)
  have g1:=h1.keep hc (by unfold FT;omega)
  have g4:=h4.keep hc (by unfold FT;omega) (by unfold FT;omega)
  refine ⟨g1.cell 0,?_⟩
  refine (drop221 W τ' (ts + 6) (ts + 9) c d 162 129 1200 fs fs' _ k KB ko ck (h2.keep hc (fun x e=>by unfold FT at e;omega)) b (by omega) hok hdr ((World.cell?_of_block (hc.block KB hKB.1 hkb)).trans hkey) ⟨Nat.lt_of_lt_of_le hKB.1 hc.size,by rw [hc.own KB hKB.1];exact fun e=>hKB.2 (by unfold FT at e;unfold ST;omega)⟩).mono ?_
  rintro e w' ⟨rfl,τ2,f1,f2,f3⟩
  exact ⟨rfl,τ2,⟨⟨c,j,kp,g1.keep f3 (by unfold FT;omega),f1,a.keep f3 (fun x e=>by unfold FT at e;omega),g4.keep f3 (by unfold FT;omega) (by unfold FT;omega),f2⟩,hl⟩,(hc.mono fun x e=>by unfold FT at e;unfold ST;omega).trans (f3.mono fun x e=>by unfold FT at e;unfold ST;omega)⟩
 have c1 : w.cell? ⟨st,1,none⟩ = some (.pointer (some ⟨j,0,none⟩)):=h1.cell 1
 clear hS h1 h2 h3 h4 h5 hl hk hok hdr hKB hks
 go_enter Tryz.func167,Tryz.ntmps167
 go_wp2
 go_loop [15] (fun i=>∃ q : Nat,q <= 1 /\ i = .int .i64 (q : Int)) (fun i=>1 - (intOf i).toNat)
 case atStart=>exact ⟨0,by decide,rfl⟩
 case round=>
  obtain ⟨q,hq,rfl⟩:=hrel
  by_cases hq0 : q = 0
  ·subst hq0
   go_wp2_with fail
   refine (HKEY.out w).mono ?_
   rintro e w1 ⟨rfl,rfl⟩
   go_wp2
   go_round
   case rel=>exact ⟨1,by decide,rfl⟩
   case measure=>simp [intOf]
  ·obtain rfl : q = 1:=by omega
   go_wp2_with fail
   refine HADD.out.mono ?_
   rintro e w1 ⟨rfl,τ1,a1,a2,a3⟩
   obtain ⟨c0,hd⟩:=HRST.out w1 τ1 a1 a2 a3
   have HD:=Lib.hid hd
   clear a1 a2 a3 hd HADD HRST c1
   go_wp2_with fail
   refine HD.out.mono ?_
   rintro e w2 ⟨rfl,τ2,b1,b2⟩
   have HR:=Lib.hid (And.intro b1 b2)
   clear b1 b2 c0 HD
   go_wp2
   go_ret2
   exact ⟨rfl,τ2,HR.out.1,HR.out.2⟩
end Go.Proofs.Ytlhekbjidppijaa
namespace Go.Proofs.Ytlhekbjidppijaa
open Go.RowKit
theorem ins328z (w : World) : Calls Tryz.prog 328 #[.slice none 0 0,.int .i64 0,.int .i64 0] w fun e w'=>(∃ v,e = .returned v) /\ w' = w:=by
 go_enter Tryz.func328,Tryz.ntmps328
 go_wp2
 go_loop [6] (fun i=>i = .int .i64 1) (fun _=>0)
 case atStart=>rfl
 case round=>
  subst hrel
  go_wp2
  refine bodyPost_end (by first | rfl | (simp [results];rfl)) rfl ?_
  exact ⟨⟨_,rfl⟩,rfl⟩
set_option maxRecDepth 20000 in
theorem pdq315z (w : World) : Calls Tryz.prog 315 #[.slice none 0 0,.int .i64 0,.int .i64 0,.int .i64 0] w fun e w'=>(∃ v,e = .returned v) /\ w' = w:=by
 have H:=Lib.hid (ins328z w)
 go_enter Tryz.func315,Tryz.ntmps315
 go_wp2
 go_loop [1,2,3] (fun a b c=>a = .int .i64 0 /\ b = .int .i64 0 /\ c = .int .i64 0) (fun _ _ _=>0)
 case atStart=>exact ⟨rfl,rfl,rfl⟩
 case round=>
  obtain ⟨rfl,rfl,rfl⟩:=hrel
  go_wp2_with fail
  refine H.out.mono ?_
  rintro e w1 ⟨⟨v,rfl⟩,rfl⟩
  go_wp2
  refine bodyPost_ret (by first | exact results_none rfl _ _ _ | exact Great.results_none rfl _ _ _ | rfl) rfl ?_
  exact ⟨⟨_,rfl⟩,rfl⟩
theorem sort291z (w : World) : Calls Tryz.prog 291 #[.slice none 0 0] w fun e w'=>(∃ v,e = .returned v) /\ w' = w:=by
 have H:=Lib.hid (pdq315z w)
 have H2:=Lib.hid (len262z w)
 go_enter Tryz.func291,Tryz.ntmps291
 go_wp2_with fail
 refine H2.out.mono ?_
 rintro e w1 ⟨rfl,rfl⟩
 go_wp2_with fail
 refine H.out.mono ?_
 rintro e w1 ⟨⟨v,rfl⟩,rfl⟩
 go_wp2
 refine bodyPost_end (by first | rfl | (simp [results];rfl)) rfl ?_
 exact ⟨⟨_,rfl⟩,rfl⟩
def PlaceIn (W : World) (T j : Nat) (p : Place) : Prop:=W.cell? ⟨T,j * 4,none⟩ = some (.string p.key) /\ W.cell? ⟨T,j * 4 + 1,none⟩ = some (.int .i64 (p.pos : Int)) /\ W.cell? ⟨T,j * 4 + 2,none⟩ = some (.bool p.has) /\ W.cell? ⟨T,j * 4 + 3,none⟩ = some (.bool p.gone)
set_option maxRecDepth 20000 in
set_option maxHeartbeats 400000 in
theorem keys267z (w : World) (τ : Own) (t x n used : Nat) (pl : List Place) (hI : IndexAt w τ t x pl n used) (hz : ∀ p ∈ pl,p.has = false) :
 Calls Tryz.prog 267 #[.pointer (some ⟨x,0,none⟩)] w fun e w'=>e = .returned (.slice none 0 0) /\ Below w.heap.size w w':=by
 obtain ⟨T,hx,hT⟩:=hI.ex
 have c0:=hx.cell 0
 have hlen:=hI.len
 have HC : Hid (∀ W,Below w.heap.size w W -> ∀ j,j < 16 -> ∃ p : Place,p.has = false /\ PlaceIn W T j p):=Lib.hid fun W hb j hj=>by
  have hT':=hT.blk.below hb hT.blk.lt
  obtain ⟨p,hp⟩ : ∃ p,pl[j]? = some p:=⟨pl[j],List.getElem?_eq_getElem (by omega)⟩
  refine ⟨p,hz p (List.mem_of_getElem? hp),?_⟩
  have key (r : Nat) (hr : r < 4) (v : Value) (hv : p.cells[r]? = some v) : W.cell? ⟨T,j * 4 + r,none⟩ = some v:=by
   have h1:=plc_get pl j p hp r hr
   have:=hT'.cell (j * 4 + r)
   rw [List.getElem?_toArray,h1,hv] at this
   exact this
  exact ⟨key 0 (by omega) _ rfl,key 1 (by omega) _ rfl,key 2 (by omega) _ rfl,key 3 (by omega) _ rfl⟩
 have HS : Hid (∀ W,Calls Tryz.prog 291 #[.slice none 0 0] W fun e w'=>(∃ v,e = .returned v) /\ w' = W):=Lib.hid sort291z
 clear hI hx hT hz hlen
 go_enter Tryz.func267,Tryz.ntmps267
 go_wp2
 go_loopw [3,13] (fun l i wr=>∃ j : Nat,l = .slice none 0 0 /\ j <= 16 /\ i = .int .i64 (j : Int) /\ Below w.heap.size w wr) (fun _ i _=>16 - (intOf i).toNat)
 case atStart=>exact ⟨0,rfl,Nat.zero_le _,rfl,Below.refl _ _⟩
 case round=>
  obtain ⟨j,rfl,hj,rfl,hb⟩:=hrel
  have HB:=Lib.hid hb
  clear hb
  by_cases hlt : j < 16
  ·obtain ⟨p,hp,p0,p1,p2,p3⟩:=HC.out wr HB.out j hlt
   obtain ⟨pk,pp,ph,pg⟩:=p
   dsimp only at hp
   subst hp
   have k1 : (j : Int) < 16:=by omega
   have k2 : (0 : Int) <= (j : Int):=by omega
   clear c0
   go_wp2
   go_roundw
   case rel=>exact ⟨j + 1,rfl,by omega,by go_num,HB.out.alloc HB.out.size _⟩
   case measure=>simp [intOf];omega
  ·obtain rfl : j = 16:=by omega
   go_wp2_with (go_at_call 291;fail)
   refine (HS.out wr).mono ?_
   rintro e w1 ⟨⟨v,rfl⟩,rfl⟩
   go_wp2
   go_ret
   exact ⟨rfl,HB.out⟩
theorem keys236z (w : World) (τ : Own) (tc c d from_ segs n : Nat) (s : FS) (hF : FlashAt w τ tc c d from_ segs n s) (hz : ∀ p ∈ s.pl,p.has = false) :
 Calls Tryz.prog 236 #[.pointer (some ⟨c,0,none⟩)] w fun e w'=>e = .returned (.slice none 0 0) /\ Below w.heap.size w w':=by
 obtain ⟨lp,x,fr,h1,h2,h3⟩:=hF.ex
 have H:=Lib.hid (keys267z w τ (tc + 1) x s.n s.used s.pl h3 hz)
 have c1:=h1.cell 1
 clear hF h1 h2 h3 hz
 go_enter Tryz.func236,Tryz.ntmps236
 go_wp2_with (go_at_call 267;fail)
 refine H.out.mono ?_
 rintro e w1 ⟨rfl,hb⟩
 have HB:=Lib.hid hb
 clear hb
 go_wp2
 go_ret
 exact ⟨rfl,HB.out⟩
end Go.Proofs.Ytlhekbjidppijaa
