/- Contracts of what TopFall reaches: what each function returns and leaves in memory. Conditions: as named. -/
import Derived.BigGuardPart
import Derived.Test.YtlhekbjidppijaaGreatMAL
set_option linter.unusedVariables false
set_option linter.unusedSimpArgs false
set_option maxRecDepth 20000
set_option maxHeartbeats 8000000
namespace Go.Proofs.Ytlhekbjidppijaa
open Lib (hid)
open Go.RowKit
def keyOk (k:ByteArray):Bool:=decide (0<k.size/\k.size<=40)
theorem bne_nil (a:ByteArray)(h:a.size≠0):a.toList.isEmpty=false:=by
 rw[ByteArray.toList_eq]
 cases hd:a.data.toList with
 | nil=>
  exfalso
  apply h
  have h1:a.data.toList.length=0:=by rw[hd];rfl
  rw[Array.length_toList]at h1;exact h1
 | cons x l=>rfl
theorem bnil (a:ByteArray)(h:a.size=0):a=⟨#[]⟩:=by
 cases a with|mk d=>
  have:d.size=0:=h;rw[Array.eq_empty_of_size_eq_zero this]
theorem key_any (w:World)(k:ByteArray)(hk:k.size<=1099511627776):Calls Tryz.prog 164 #[.string k] w fun e w'=>e=.returned (.bool (keyOk k))/\w=w':=by
 by_cases h0:k.size=0
 ·obtain rfl:=bnil k h0
  clear h0 hk;go_enter Tryz.func164,Tryz.ntmps164
  go_wp2
  go_ret;exact⟨rfl,rfl⟩
 ·have HF:Hid (keyOk k=decide ((k.size:Int)<=40)):=hid (by unfold keyOk;rw[decide_eq_decide];omega)
  have hne:=bne_nil k h0;clear h0;go_enter Tryz.func164,Tryz.ntmps164
  go_wp2
  go_ret;exact⟨by rw[HF.out];rfl,rfl⟩
def itemV (k v:ByteArray)(g:Bool):Value:=.agg #[.string k,.string v,.int .i64 0,.bool g]
def itemOk (k v:ByteArray)(g:Bool):Bool:=keyOk k && (!g || decide (v.size=0))
theorem may_any (w:World)(k v:ByteArray)(g:Bool)(hk:k.size<=1099511627776)(hv:v.size<=200):Calls Tryz.prog 140 #[itemV k v g] w fun e w'=>e=.returned (.bool (itemOk k v g))/\Below w.heap.size w w':=by
 unfold itemV;have HK:=fun W=>hid (key_any W k hk)
 have hv':¬ ((200:Int)<(v.size:Int)):=by omega
 cases hko:keyOk k with
 | false=>
  have HKO:=hid hko;clear hko;go_enter Tryz.func140,Tryz.ntmps140
  go_wp2_with fail
  refine((HK _).out).mono ?_;rw[HKO.out];rintro e w' ⟨rfl,rfl⟩
  go_wp2
  go_ret;exact⟨by unfold itemOk;rw[HKO.out];rfl,(Below.refl _ w).alloc (Nat.le_refl _) _⟩
 | true=>
  have HKO:=hid hko;clear hko
  cases g with
  | false=>
   go_enter Tryz.func140,Tryz.ntmps140
   go_wp2_with fail
   refine((HK _).out).mono ?_;rw[HKO.out];rintro e w' ⟨rfl,rfl⟩
   go_wp2
   go_ret;exact⟨by unfold itemOk;rw[HKO.out];rfl,(Below.refl _ w).alloc (Nat.le_refl _) _⟩
  | true=>
   by_cases h0:v.size=0
   ·obtain rfl:=bnil v h0
    clear h0;go_enter Tryz.func140,Tryz.ntmps140
    go_wp2_with fail
    refine((HK _).out).mono ?_;rw[HKO.out];rintro e w' ⟨rfl,rfl⟩
    go_wp2
    go_ret;exact⟨by unfold itemOk;rw[HKO.out];rfl,(Below.refl _ w).alloc (Nat.le_refl _) _⟩
   ·have hne:=bne_nil v h0
    have HD:Hid (decide (v.size=0)=false):=hid (by simp[h0]);clear h0;go_enter Tryz.func140,Tryz.ntmps140
    go_wp2_with fail
    refine((HK _).out).mono ?_;rw[HKO.out];rintro e w' ⟨rfl,rfl⟩
    go_wp2
    go_ret;exact⟨by unfold itemOk;rw[HKO.out,HD.out];rfl,(Below.refl _ w).alloc (Nat.le_refl _) _⟩
theorem live_any (w:World)(k v:ByteArray)(g:Bool)(now:Int)(hk:k.size<=1099511627776)(hv:v.size<=200):Calls Tryz.prog 254 #[itemV k v g,.int .i64 now] w fun e w'=>e=.returned (.bool (itemOk k v g && !g))/\Below w.heap.size w w':=by
 have HM:=fun W=>hid (may_any W k v g hk hv);unfold itemV at HM ⊢
 cases hko:itemOk k v g with
 | false=>
  have HKO:=hid hko;clear hko;go_enter Tryz.func254,Tryz.ntmps254
  go_wp2_with fail
  refine((HM _).out).mono ?_;rw[HKO.out];rintro e w' ⟨rfl,hb⟩;have HB:Hid (Below w.heap.size w w'):=hid (((Below.refl _ w).alloc (Nat.le_refl _) _).trans (hb.mono (by simp)));clear hb
  go_wp2
  go_ret;exact⟨rfl,HB.out⟩
 | true=>
  have HKO:=hid hko;clear hko;go_enter Tryz.func254,Tryz.ntmps254
  go_wp2_with fail
  refine((HM _).out).mono ?_;rw[HKO.out];rintro e w' ⟨rfl,hb⟩;have HB:Hid (Below w.heap.size w w'):=hid (((Below.refl _ w).alloc (Nat.le_refl _) _).trans (hb.mono (by simp)));have hblk:Blk w' w.heap.size 178 #[.string k,.string v,.int .i64 0,.bool g]:=(hb.block _ (by simp)).trans (Blk.new w 178 _);have c2:=hblk.cell 2;have c3:=hblk.cell 3;clear hb hblk
  cases g with
  | false=>
   go_wp2
   go_ret;exact⟨rfl,HB.out⟩
  | true=>
   go_wp2
   go_ret;exact⟨rfl,HB.out⟩
structure MEx (W0:World)(k v:ByteArray)(gn:Nat)(L:Nat->Bool)(u23 u24 u28 u29:Value)(wx:World)(U:Own):Prop where
 z:∀ i,i<W0.heap.size->U i=0
 chg:Chg (fun t=>t=1\/t=2) W0 U wx U
 m5:L 5=true->∃ g1,u23=.slice (some ⟨g1,0,none⟩) 2 2/\Has wx U 2 g1 9 #[.string k,.string v]
 m6:L 6=true->L 11=false->Rw wx U 1 5 1 u24 (tsum [k,v]) (tbs [k,v])
 m10:L 10=true->∃ g1,u28=.slice (some ⟨g1,0,none⟩) 2 2/\Has wx U 2 g1 2 #[.int .i64 0,.int .i64 (gn:Int)]
 m11:L 11=true->Rw wx U 1 5 1 u29 (tsum [k,v]+2) (tbs [k,v]++nbs [0,gn])
structure ME (W0:World)(g:Nat)(k v:ByteArray)(gn:Nat)(gb:Bool)(L:Nat->Bool)(u3 u23 u24 u28 u29:Value)(wx:World):Prop where
 blk:Blk wx g 178 #[.string k,.string v,.int .i64 0,.bool gb]
 z:L 0=false->u3=.slice none 0 0
 o6:L 6=true->L 0=true
 o11:L 11=true->L 6=true
 lt:g<W0.heap.size
 o12:L 12=true->L 11=true/\u3=u29
 ex:∃ U:Own,MEx W0 k v gn L u23 u24 u28 u29 wx U
section
variable {W0 : World} {g : Nat} {k v : ByteArray} {gn : Nat} {gb : Bool} {L : Nat -> Bool} {u3 u23 u24 u28 u29 : Value} {wx : World}
theorem ME.c0 (h:ME W0 g k v gn gb L u3 u23 u24 u28 u29 wx):wx.cell? ⟨g,0,none⟩=some (.string k):=h.blk.cell 0
theorem ME.c1 (h:ME W0 g k v gn gb L u3 u23 u24 u28 u29 wx):wx.cell? ⟨g,1,none⟩=some (.string v):=h.blk.cell 1
theorem ME.c2 (h:ME W0 g k v gn gb L u3 u23 u24 u28 u29 wx):wx.cell? ⟨g,2,none⟩=some (.int .i64 0):=h.blk.cell 2
theorem ME.at5 (h:ME W0 g k v gn gb L u3 u23 u24 u28 u29 wx)(h5:L 5=true):∃ U:Own,MEx W0 k v gn L u23 u24 u28 u29 wx U/\∃ g1,u23=.slice (some ⟨g1,0,none⟩) 2 2/\Has wx U 2 g1 9 #[.string k,.string v]:=by
 obtain⟨U,h1⟩:=h.ex;exact⟨U,h1,h1.m5 h5⟩
theorem ME.at10 (h:ME W0 g k v gn gb L u3 u23 u24 u28 u29 wx)(h6:L 6=true)(h10:L 10=true)(h11:L 11=false):∃ U:Own,MEx W0 k v gn L u23 u24 u28 u29 wx U/\∃ g1,u28=.slice (some ⟨g1,0,none⟩) 2 2/\Has wx U 2 g1 2 #[.int .i64 0,.int .i64 (gn:Int)]/\Rw wx U 1 5 1 u24 (tsum [k,v]) (tbs [k,v]):=by
 obtain⟨U,h1⟩:=h.ex;obtain⟨g1,a,b⟩:=h1.m10 h10;exact⟨U,h1,g1,a,b,h1.m6 h6 h11⟩
theorem done_ne {L:Nat->Bool}{i j:Nat}(h:j≠i):Done L i j=L j:=by unfold Done;rw[if_neg h]
theorem done_self {L:Nat->Bool}{i:Nat}:Done L i i=true:=by simp[Done]
theorem ME.same (h:ME W0 g k v gn gb L u3 u23 u24 u28 u29 wx){i:Nat}(h5:i≠5)(h6:i≠6)(h10:i≠10)(h11:i≠11)(h12:i≠12):ME W0 g k v gn gb (Done L i) u3 u23 u24 u28 u29 wx:=by
 obtain⟨b,z,o6,o11,lt,o12,U,a1,a2,a3,a4,a5,a6⟩:=h;refine⟨b,?_,?_,?_,lt,?_,U,a1,a2,?_,?_,?_,?_⟩
 ·intro h0
  by_cases hi:i=0
  ·subst hi;simp[Done]at h0
  ·exact z (by rw[done_ne (Ne.symm hi)]at h0;exact h0)
 ·rw[done_ne (Ne.symm h6)]
  intro h
  by_cases hi:i=0
  ·subst hi;simp[Done]
  ·rw[done_ne (Ne.symm hi)];exact o6 h
 ·rw[done_ne (Ne.symm h11),done_ne (Ne.symm h6)];exact o11
 ·rw[done_ne (Ne.symm h11),done_ne (Ne.symm h12)];exact o12
 ·rw[done_ne (Ne.symm h5)];exact a3
 ·rw[done_ne (Ne.symm h6),done_ne (Ne.symm h11)];exact a4
 ·rw[done_ne (Ne.symm h10)];exact a5
 ·rw[done_ne (Ne.symm h11)];exact a6
theorem ME.put12 (h:ME W0 g k v gn gb L u3 u23 u24 u28 u29 wx)(h11:L 11=true):ME W0 g k v gn gb (Done L 12) u29 u23 u24 u28 u29 wx:=by
 have h0:=h.o6 (h.o11 h11);obtain⟨b,z,o6,o11,lt,o12,U,a1,a2,a3,a4,a5,a6⟩:=h;exact⟨b,fun hz=>(by rw[done_ne (by decide),h0]at hz;cases hz),o6,o11,lt,fun _=>⟨h11,rfl⟩,U,a1,a2,a3,a4,a5,a6⟩
theorem chgTT {U:Own}{W:World}{o:Obj}(a2:Chg (fun t=>t=1\/t=2) W0 U wx U)(hW:W=wx.alloc o):Chg (fun t=>t=1\/t=2) W0 (ext U wx 2) W (ext U wx 2):=by
 subst hW;have h:=(a2.alloc o);have hs:=a2.size;exact⟨h.os,h.tape,h.output,h.size,fun i hi hn=>h.block i hi (by rw[ext_old (by omega)]at hn;exact hn),fun _ _=>rfl⟩
theorem ME.build5 (h:ME W0 g k v gn gb L u3 u23 u24 u28 u29 wx):ME W0 g k v gn gb (Done L 5) u3 (.slice (some ⟨wx.heap.size,0,none⟩) 2 2) u24 u28 u29 (wx.alloc (.cells #[.string k,.string v] 9)):=by
 obtain⟨b,z,o6,o11,lt,o12,U,a1,a2,a3,a4,a5,a6⟩:=h;have hs:=a2.size;have ho:∀ i,i<wx.heap.size->ext U wx 2 i=U i:=fun i hi=>ext_old hi;refine⟨b.alloc _,z,o6,o11,lt,o12,ext U wx 2,fun i hi=>by rw[ext_old (by omega)];exact a1 i hi,chgTT a2 rfl,fun _=>⟨_,rfl,Blk.new _ _ _,ext_new (Nat.le_refl _)⟩,fun h h'=>((a4 h h').reown ho).alloc _,fun h=>?_,fun h=>((a6 h).reown ho).alloc _⟩;obtain⟨g1,r1,r2⟩:=a5 h;exact⟨g1,r1,(r2.reown ho).alloc _⟩
theorem ME.build10 (h:ME W0 g k v gn gb L u3 u23 u24 u28 u29 wx):ME W0 g k v gn gb (Done L 10) u3 u23 u24 (.slice (some ⟨wx.heap.size,0,none⟩) 2 2) u29 (wx.alloc (.cells #[.int .i64 0,.int .i64 (gn:Int)] 2)):=by
 obtain⟨b,z,o6,o11,lt,o12,U,a1,a2,a3,a4,a5,a6⟩:=h;have hs:=a2.size;have ho:∀ i,i<wx.heap.size->ext U wx 2 i=U i:=fun i hi=>ext_old hi;refine⟨b.alloc _,z,o6,o11,lt,o12,ext U wx 2,fun i hi=>by rw[ext_old (by omega)];exact a1 i hi,chgTT a2 rfl,fun h=>?_,fun h h'=>((a4 h h').reown ho).alloc _,fun _=>⟨_,rfl,Blk.new _ _ _,ext_new (Nat.le_refl _)⟩,fun h=>((a6 h).reown ho).alloc _⟩;obtain⟨g1,r1,r2⟩:=a3 h;exact⟨g1,r1,(r2.reown ho).alloc _⟩
theorem chgTC {U U1:Own}{w1:World}(a1:∀ i,i<W0.heap.size->U i=0)(a2:Chg (fun t=>t=1\/t=2) W0 U wx U)(hb:Chg (· = 1) wx U w1 U1):(∀ i,i<W0.heap.size->U1 i=0)/\Chg (fun t=>t=1\/t=2) W0 U1 w1 U1:=by
 have h1:∀ i,i<W0.heap.size->U1 i=0:=fun i hi=>(hb.own i (Nat.lt_of_lt_of_le hi a2.size)).trans (a1 i hi);have h:=a2.trans (hb.mono (T':=fun t=>t=1\/t=2) (fun t ht=>.inl ht));exact⟨h1,h.os,h.tape,h.output,h.size,fun i hi hn=>h.block i hi (by rw[a1 i hi];decide),fun _ _=>rfl⟩
theorem ME.call6 (h:ME W0 g k v gn gb L u3 u23 u24 u28 u29 wx)(h0:L 0=true)(hLi:L 6=false){w1:World}{U U1:Own}{v1:Value}(hb:Chg (· = 1) wx U w1 U1)(hr:Rw w1 U1 1 5 1 v1 (tsum [k,v]) (tbs [k,v]))(hU:MEx W0 k v gn L u23 u24 u28 u29 wx U):ME W0 g k v gn gb (Done L 6) u3 u23 v1 u28 u29 w1:=by
 obtain⟨b,z,o6,o11,lt,o12,_⟩:=h;obtain⟨a1,a2,a3,a4,a5,a6⟩:=hU;obtain⟨n1,n2⟩:=chgTC a1 a2 hb;refine⟨?_,?_,fun _=>by rw[done_ne (by decide)];exact h0,fun _=>done_self,lt,o12,U1,n1,n2,fun h=>?_,fun _ _=>hr,fun h=>?_,fun h=>?_⟩
 ·exact(hb.block g (Nat.lt_of_lt_of_le lt a2.size) (by rw[a1 g lt];decide)).trans b
 ·rw[done_ne (by decide)];exact z
 ·rw[done_ne (by decide)]at h
  obtain⟨g1,r1,r2⟩:=a3 h;exact⟨g1,r1,r2.keep hb (by decide)⟩
 ·rw[done_ne (by decide)]at h
  obtain⟨g1,r1,r2⟩:=a5 h;exact⟨g1,r1,r2.keep hb (by decide)⟩
 ·rw[done_ne (by decide)]at h
  rw[o11 h]at hLi
  cases hLi
theorem ME.call11 (h:ME W0 g k v gn gb L u3 u23 u24 u28 u29 wx){w1:World}{U U1:Own}{v1:Value}(hb:Chg (· = 1) wx U w1 U1)(hr:Rw w1 U1 1 5 1 v1 (tsum [k,v]+2) (tbs [k,v]++nbs [0,gn]))(h6:L 6=true)(hLi:L 11=false)(hU:MEx W0 k v gn L u23 u24 u28 u29 wx U):ME W0 g k v gn gb (Done L 11) u3 u23 u24 u28 v1 w1:=by
 obtain⟨b,z,o6,o11,lt,o12,_⟩:=h;obtain⟨a1,a2,a3,a4,a5,a6⟩:=hU;obtain⟨n1,n2⟩:=chgTC a1 a2 hb;refine⟨?_,?_,?_,?_,lt,fun h=>(by rw[done_ne (by decide)]at h;rw[(o12 h).1]at hLi;cases hLi),U1,n1,n2,fun h=>?_,fun _ h=>?_,fun h=>?_,fun _=>hr⟩
 ·exact(hb.block g (Nat.lt_of_lt_of_le lt a2.size) (by rw[a1 g lt];decide)).trans b
 ·rw[done_ne (by decide)];exact z
 ·rw[done_ne (by decide),done_ne (by decide)];exact o6
 ·rw[done_ne (show 6≠11 by decide)];exact fun _=>h6
 ·rw[done_ne (by decide)]at h
  obtain⟨g1,r1,r2⟩:=a3 h;exact⟨g1,r1,r2.keep hb (by decide)⟩
 ·rw[done_self]at h;cases h
 ·rw[done_ne (by decide)]at h
  obtain⟨g1,r1,r2⟩:=a5 h;exact⟨g1,r1,r2.keep hb (by decide)⟩
end
def GE (W0:World)(g:Nat)(k v:ByteArray)(gn:Nat)(gb:Bool)(c0 c1 c2 c4 c5 c6 c7 c8 c9 c10 c11 c12 c13 c14 c15 c16 c17 c30 c31:Value)(L:Nat->Bool)(a':Act)(wx:World):Prop:=
 ∃ u3 u18 u19 u20 u21 u22 u23 u24 u25 u26 u27 u28 u29:Value,a'=⟨List.toArray (c0 :: c1 :: c2 :: u3 :: c4 :: c5 :: c6 :: c7 :: c8 :: c9 :: c10 :: c11 :: c12 :: c13 :: c14 :: c15 :: c16 :: c17 :: u18 :: u19 :: u20 :: u21 :: u22 :: u23 :: u24 :: u25 :: u26 :: u27 :: u28 :: u29 :: c30 :: c31 :: []),[]⟩/\ME W0 g k v gn gb L u3 u23 u24 u28 u29 wx/\(L 0=true->u18=.slice none 0 0)/\(L 1=true->u19=.pointer (some ⟨g,0,none⟩))/\(L 2=true->u20=.string k)/\(L 3=true->u21=.pointer (some ⟨g,1,none⟩))/\(L 4=true->u22=.string v)/\(L 5=true->True)/\(L 6=true->True)/\(L 7=true->u25=.pointer (some ⟨g,2,none⟩))/\(L 8=true->u26=.int .i64 0)/\(L 9=true->u27=.int .i64 (gn:Int))/\(L 10=true->True)/\(L 11=true->True)/\(L 12=true->True)
theorem encode_any (w:World)(A o c:Nat)(k v:ByteArray)(gb:Bool)(gn:Nat)(hgn:gn=if gb then 1 else 0)(hk:itemOk k v gb=true)(hks:k.size<64)(hvs:v.size<64)
 (hc:∀ j u,[Value.string k,.string v,.int .i64 0,.bool gb][j]? = some u->w.cell? ⟨A,o+j,none⟩=some u) :
 Calls Tryz.prog 161 #[.slice (some ⟨A,o,none⟩) 1 c] w fun e w'=>∃ r,e=.returned r/\w'.ownsRow w.heap.size 5 1 r (tsum [k,v]+2) (tbs [k,v]++nbs [0,gn])/\Below w.heap.size w w':=by
 have c0:w.cell? ⟨A,o+0,none⟩=some (.string k):=hc 0 _ rfl;have c0':w.cell? ⟨A,o,none⟩=some (.string k):=hc 0 _ rfl;have c1:w.cell? ⟨A,o+1,none⟩=some (.string v):=hc 1 _ rfl;have c2:w.cell? ⟨A,o+2,none⟩=some (.int .i64 0):=hc 2 _ rfl;have c3:w.cell? ⟨A,o+3,none⟩=some (.bool gb):=hc 3 _ rfl;clear hc;go_enter Tryz.func161,Tryz.ntmps161
 go_wp2
 go_loopw [3,9] (fun x i wr=>(x=.slice none 0 0/\i=.int .i64 0/\wr=w)\/(i=.int .i64 1/\wr.ownsRow w.heap.size 5 1 x (tsum [k,v]+2) (tbs [k,v]++nbs [0,gn])/\Below w.heap.size w wr)) (fun _ i _=>1-(intOf i).toNat)
 case atStart=>exact .inl ⟨rfl,rfl,rfl⟩
 case round=>
  rcases hrel with ⟨rfl,rfl,rfl⟩|⟨rfl,ho,hb⟩
  ·have HKO:=hid hk
   have HM:=fun W=>hid (may_any W k v gb (by omega) (by omega));unfold itemV at HM;clear hk
   go_wp2_with fail
   refine((HM _).out).mono ?_;rw[HKO.out];rintro e w1 ⟨rfl,hb⟩;have HB:Hid (Below wr.heap.size wr w1):=hid (((Below.refl _ wr).alloc (Nat.le_refl _) _).trans (hb.mono (by simp)));have hblk:Blk w1 wr.heap.size 178 #[.string k,.string v,.int .i64 0,.bool gb]:=(hb.block _ (by simp)).trans (Blk.new wr 178 _);have d3:=hblk.cell 3;have HBK:=hid hblk;have HL:Hid (wr.heap.size<w1.heap.size):=hid (by have:=hb.size;rw[World.size_alloc]at this;omega);generalize hgw:wr.heap.size=g at *;have HGW:=hid hgw;clear hgw;clear hb hblk c0 c0' c1 c2 c3
   cases gb
   case' false=>obtain rfl:gn=0:=hgn
   case' true=>obtain rfl:gn=1:=hgn
   all_goals
    go_wp2
    first|refine wp_region_inv (GE w1.drew g k v 0 false _ _ _ _ _ _ _ _ _ _ _ _ _ _ _ _ _ _ _) (by kernel_rfl) (by kernel_rfl) ⟨_,_,_,_,_,_,_,_,_,_,_,_,_,rfl,⟨HBK.out.drewN 1,fun _=>rfl,by simp,by simp,HL.out,by simp,fun _=>0,fun _ _=>rfl,Chg.refl _ _ _,by simp,by simp,by simp,by simp⟩,by simp⟩ ⟨?_,?_,?_,?_,?_,?_,?_,?_,?_,?_,?_,?_,?_,trivial⟩ ?_|refine wp_region_inv (GE w1.drew g k v 1 true _ _ _ _ _ _ _ _ _ _ _ _ _ _ _ _ _ _ _) (by kernel_rfl) (by kernel_rfl) ⟨_,_,_,_,_,_,_,_,_,_,_,_,_,rfl,⟨HBK.out.drewN 1,fun _=>rfl,by simp,by simp,HL.out,by simp,fun _=>0,fun _ _=>rfl,Chg.refl _ _ _,by simp,by simp,by simp,by simp⟩,by simp⟩ ⟨?_,?_,?_,?_,?_,?_,?_,?_,?_,?_,?_,?_,?_,trivial⟩ ?_
    ·intro L a' wx hLi hd hG K hK
     iterate 13 (refine Exists.elim hG ?_;clear hG;intro _ hG)
     refine And.elim ?_ hG;clear hG;intro ha hG;refine And.elim ?_ hG;clear hG;intro hM hG;subst ha;obtain rfl:=hM.z hLi;have HM:=hid hM;clear hM hd;have HG:=hid hG;clear hG;go_simp
     go_wp2
     have⟨F0,F1,F2,F3,F4,F5,F6,F7,F8,F9,F10,F11,F12⟩:=HG.out;exact⟨_,_,_,_,_,_,_,_,_,_,_,_,_,rfl,HM.out.same (i:=0) (by decide) (by decide) (by decide) (by decide) (by decide),fun _=>rfl,F1,F2,F3,F4,F5,F6,F7,F8,F9,F10,F11,F12⟩
    ·intro L a' wx hLi hd hG K hK
     iterate 13 (refine Exists.elim hG ?_;clear hG;intro _ hG)
     refine And.elim ?_ hG;clear hG;intro ha hG;refine And.elim ?_ hG;clear hG;intro hM hG;subst ha;have HM:=hid hM;clear hM hd;have HG:=hid hG;clear hG;go_simp
     go_wp2
     have⟨F0,F1,F2,F3,F4,F5,F6,F7,F8,F9,F10,F11,F12⟩:=HG.out;exact⟨_,_,_,_,_,_,_,_,_,_,_,_,_,rfl,HM.out.same (i:=1) (by decide) (by decide) (by decide) (by decide) (by decide),F0,fun _=>rfl,F2,F3,F4,F5,F6,F7,F8,F9,F10,F11,F12⟩
    ·intro L a' wx hLi hd hG K hK
     iterate 13 (refine Exists.elim hG ?_;clear hG;intro _ hG)
     refine And.elim ?_ hG;clear hG;intro ha hG;refine And.elim ?_ hG;clear hG;intro hM hG;subst ha;obtain rfl:=hG.2.1 (hd ⟨1,.data⟩ (by simp) rfl);have c0:=hM.c0;have HM:=hid hM;clear hM hd;have HG:=hid hG;clear hG;go_simp
     go_wp2
     have⟨F0,F1,F2,F3,F4,F5,F6,F7,F8,F9,F10,F11,F12⟩:=HG.out;exact⟨_,_,_,_,_,_,_,_,_,_,_,_,_,rfl,HM.out.same (i:=2) (by decide) (by decide) (by decide) (by decide) (by decide),F0,fun _=>rfl,fun _=>rfl,F3,F4,F5,F6,F7,F8,F9,F10,F11,F12⟩
    ·intro L a' wx hLi hd hG K hK
     iterate 13 (refine Exists.elim hG ?_;clear hG;intro _ hG)
     refine And.elim ?_ hG;clear hG;intro ha hG;refine And.elim ?_ hG;clear hG;intro hM hG;subst ha;have HM:=hid hM;clear hM hd;have HG:=hid hG;clear hG;go_simp
     go_wp2
     have⟨F0,F1,F2,F3,F4,F5,F6,F7,F8,F9,F10,F11,F12⟩:=HG.out;exact⟨_,_,_,_,_,_,_,_,_,_,_,_,_,rfl,HM.out.same (i:=3) (by decide) (by decide) (by decide) (by decide) (by decide),F0,F1,F2,fun _=>rfl,F4,F5,F6,F7,F8,F9,F10,F11,F12⟩
    ·intro L a' wx hLi hd hG K hK
     iterate 13 (refine Exists.elim hG ?_;clear hG;intro _ hG)
     refine And.elim ?_ hG;clear hG;intro ha hG;refine And.elim ?_ hG;clear hG;intro hM hG;subst ha;obtain rfl:=hG.2.2.2.1 (hd ⟨3,.data⟩ (by simp) rfl);have c1:=hM.c1;have HM:=hid hM;clear hM hd;have HG:=hid hG;clear hG;go_simp
     go_wp2
     have⟨F0,F1,F2,F3,F4,F5,F6,F7,F8,F9,F10,F11,F12⟩:=HG.out;exact⟨_,_,_,_,_,_,_,_,_,_,_,_,_,rfl,HM.out.same (i:=4) (by decide) (by decide) (by decide) (by decide) (by decide),F0,F1,F2,fun _=>rfl,fun _=>rfl,F5,F6,F7,F8,F9,F10,F11,F12⟩
    ·intro L a' wx hLi hd hG K hK
     iterate 13 (refine Exists.elim hG ?_;clear hG;intro _ hG)
     refine And.elim ?_ hG;clear hG;intro ha hG;refine And.elim ?_ hG;clear hG;intro hM hG;subst ha;obtain rfl:=hG.2.2.1 (hd ⟨2,.data⟩ (by simp) rfl);obtain rfl:=hG.2.2.2.2.1 (hd ⟨4,.data⟩ (by simp) rfl);have HM2:=hid hM.build5;have HM:=hid hM;clear hM hd;have HG:=hid hG;clear hG;go_simp
     go_wp2
     have⟨F0,F1,F2,F3,F4,F5,F6,F7,F8,F9,F10,F11,F12⟩:=HG.out;exact⟨_,_,_,_,_,_,_,_,_,_,_,_,_,rfl,HM2.out,F0,F1,fun _=>rfl,F3,fun _=>rfl,fun _=>trivial,F6,F7,F8,F9,F10,F11,F12⟩
    ·intro L a' wx hLi hd hG K hK
     iterate 13 (refine Exists.elim hG ?_;clear hG;intro _ hG)
     refine And.elim ?_ hG;clear hG;intro ha hG;refine And.elim ?_ hG;clear hG;intro hM hG;subst ha;obtain rfl:=hG.1 (hd ⟨0,.data⟩ (by simp) rfl);have h5:L 5=true:=hd ⟨5,.data⟩ (by simp) rfl;have h0:L 0=true:=hd ⟨0,.data⟩ (by simp) rfl;obtain⟨U,hU,g1,rfl,hg1⟩:=hM.at5 h5;have HM:=hid hM;clear hM hd;have HG:=hid hG;clear hG;go_simp;refine(putTextR wx U 1 (.slice none 0 0) 0 [] (Rw.nil _ _ _ _ _) (some ⟨g1,0,none⟩) 2 [k,v] hg1.blk.sl (by rintro a ha;injection ha with ha;subst ha;exact⟨hg1.lt,by rw[hg1.own];decide⟩) (by simp) (by simp;exact⟨hks,hvs⟩)).mono ?_;rintro e w1 ⟨v1,U1,rfl,ho1,hb1⟩;have HM2:=hid (HM.out.call6 h0 hLi hb1 (by simpa using ho1) hU);clear ho1 hb1
     go_wp2
     have⟨F0,F1,F2,F3,F4,F5,F6,F7,F8,F9,F10,F11,F12⟩:=HG.out;exact⟨_,_,_,_,_,_,_,_,_,_,_,_,_,rfl,HM2.out,fun _=>rfl,F1,F2,F3,F4,F5,fun _=>trivial,F7,F8,F9,F10,F11,F12⟩
    ·intro L a' wx hLi hd hG K hK
     iterate 13 (refine Exists.elim hG ?_;clear hG;intro _ hG)
     refine And.elim ?_ hG;clear hG;intro ha hG;refine And.elim ?_ hG;clear hG;intro hM hG;subst ha;have HM:=hid hM;clear hM hd;have HG:=hid hG;clear hG;go_simp
     go_wp2
     have⟨F0,F1,F2,F3,F4,F5,F6,F7,F8,F9,F10,F11,F12⟩:=HG.out;exact⟨_,_,_,_,_,_,_,_,_,_,_,_,_,rfl,HM.out.same (i:=7) (by decide) (by decide) (by decide) (by decide) (by decide),F0,F1,F2,F3,F4,F5,F6,fun _=>rfl,F8,F9,F10,F11,F12⟩
    ·intro L a' wx hLi hd hG K hK
     iterate 13 (refine Exists.elim hG ?_;clear hG;intro _ hG)
     refine And.elim ?_ hG;clear hG;intro ha hG;refine And.elim ?_ hG;clear hG;intro hM hG;subst ha;obtain rfl:=hG.2.2.2.2.2.2.2.1 (hd ⟨7,.data⟩ (by simp) rfl);have c2:=hM.c2;have HM:=hid hM;clear hM hd;have HG:=hid hG;clear hG;go_simp
     go_wp2
     have⟨F0,F1,F2,F3,F4,F5,F6,F7,F8,F9,F10,F11,F12⟩:=HG.out;exact⟨_,_,_,_,_,_,_,_,_,_,_,_,_,rfl,HM.out.same (i:=8) (by decide) (by decide) (by decide) (by decide) (by decide),F0,F1,F2,F3,F4,F5,F6,fun _=>rfl,fun _=>rfl,F9,F10,F11,F12⟩
    ·intro L a' wx hLi hd hG K hK
     iterate 13 (refine Exists.elim hG ?_;clear hG;intro _ hG)
     refine And.elim ?_ hG;clear hG;intro ha hG;refine And.elim ?_ hG;clear hG;intro hM hG;subst ha;have HM:=hid hM;clear hM hd;have HG:=hid hG;clear hG;go_simp
     go_wp2
     have⟨F0,F1,F2,F3,F4,F5,F6,F7,F8,F9,F10,F11,F12⟩:=HG.out;exact⟨_,_,_,_,_,_,_,_,_,_,_,_,_,rfl,HM.out.same (i:=9) (by decide) (by decide) (by decide) (by decide) (by decide),F0,F1,F2,F3,F4,F5,F6,F7,F8,fun _=>rfl,F10,F11,F12⟩
    ·intro L a' wx hLi hd hG K hK
     iterate 13 (refine Exists.elim hG ?_;clear hG;intro _ hG)
     refine And.elim ?_ hG;clear hG;intro ha hG;refine And.elim ?_ hG;clear hG;intro hM hG;subst ha;obtain rfl:=hG.2.2.2.2.2.2.2.2.1 (hd ⟨8,.data⟩ (by simp) rfl);obtain rfl:=hG.2.2.2.2.2.2.2.2.2.1 (hd ⟨9,.data⟩ (by simp) rfl);have HM2:=hid hM.build10;have HM:=hid hM;clear hM hd;have HG:=hid hG;clear hG;go_simp
     go_wp2
     have⟨F0,F1,F2,F3,F4,F5,F6,F7,F8,F9,F10,F11,F12⟩:=HG.out;exact⟨_,_,_,_,_,_,_,_,_,_,_,_,_,rfl,HM2.out,F0,F1,F2,F3,F4,F5,F6,F7,fun _=>rfl,fun _=>rfl,fun _=>trivial,F11,F12⟩
    ·intro L a' wx hLi hd hG K hK
     iterate 7 (refine Exists.elim hG ?_;clear hG;intro _ hG)
     refine Exists.elim hG ?_;clear hG;intro u24 hG
     iterate 5 (refine Exists.elim hG ?_;clear hG;intro _ hG)
     refine And.elim ?_ hG;clear hG;intro ha hG;refine And.elim ?_ hG;clear hG;intro hM hG;subst ha;have h6:L 6=true:=hd ⟨6,.data⟩ (by simp) rfl;have h10:L 10=true:=hd ⟨10,.data⟩ (by simp) rfl;obtain⟨U,hU,g2,rfl,hg2,hr6⟩:=hM.at10 h6 h10 hLi;have HM:=hid hM;clear hM hd;have HG:=hid hG;clear hG;go_simp
     first|refine(putAllR wx U 1 u24 (tsum [k,v]) (tbs [k,v]) hr6 (some ⟨g2,0,none⟩) 2 [0,0] hg2.blk.sl (by rintro a ha;injection ha with ha;subst ha;exact⟨hg2.lt,by rw[hg2.own];decide⟩) (by simp[tsum] <;> omega) (by simp <;> omega)).mono ?_|refine(putAllR wx U 1 u24 (tsum [k,v]) (tbs [k,v]) hr6 (some ⟨g2,0,none⟩) 2 [0,1] hg2.blk.sl (by rintro a ha;injection ha with ha;subst ha;exact⟨hg2.lt,by rw[hg2.own];decide⟩) (by simp[tsum] <;> omega) (by simp <;> omega)).mono ?_
     rintro e w1 ⟨v1,U1,rfl,ho1,hb1⟩;have HM2:=hid (HM.out.call11 hb1 ho1 h6 hLi hU);clear ho1 hb1
     go_wp2
     have⟨F0,F1,F2,F3,F4,F5,F6,F7,F8,F9,F10,F11,F12⟩:=HG.out;exact⟨_,_,_,_,_,_,_,_,_,_,_,_,_,rfl,HM2.out,F0,F1,F2,F3,F4,F5,F6,F7,F8,F9,F10,fun _=>trivial,F12⟩
    ·intro L a' wx hLi hd hG K hK
     iterate 13 (refine Exists.elim hG ?_;clear hG;intro _ hG)
     refine And.elim ?_ hG;clear hG;intro ha hG;refine And.elim ?_ hG;clear hG;intro hM hG;subst ha;have h11:L 11=true:=hd ⟨11,.data⟩ (by simp) rfl;have HM:=hid hM;clear hM hd;have HG:=hid hG;clear hG;go_simp
     go_wp2
     have⟨F0,F1,F2,F3,F4,F5,F6,F7,F8,F9,F10,F11,F12⟩:=HG.out;exact⟨_,_,_,_,_,_,_,_,_,_,_,_,_,rfl,HM.out.put12 h11,F0,F1,F2,F3,F4,F5,F6,F7,F8,F9,F10,F11,fun _=>trivial⟩
    ·intro L a' wx hL hG
     obtain⟨u3,u18,u19,u20,u21,u22,u23,u24,u25,u26,u27,u28,u29,rfl,hM,f0,f1,f2,f3,f4,f5,f6,f7,f8,f9,f10,f11,f12⟩:=hG;have h11:L 11=true:=hL 11 (by decide);obtain⟨h11',h29⟩:=hM.o12 (hL 12 (by decide));obtain⟨U',hU⟩:=hM.ex;have hr:=hU.m11 h11;have hcc:=hU.chg;have hz:=hU.z
     first
     | have HR:Hid (wx.ownsRow wr.heap.size 5 1 u3 (tsum [k,v]+2) (tbs [k,v]++nbs [0,0])/\Below wr.heap.size wr wx):=hid (by
      rw[h29,HGW.out];have hgl:=HL.out
      exact⟨hr.base _ (fun i hi=>by rw[hz i (by show i<w1.heap.size;omega)];decide),HB.out.trans (by
       have h:=hcc.below_of g (by show g<=w1.heap.size;omega) (fun i hi=>by rw[hz i (by show i<w1.heap.size;omega)];decide)
       exact⟨h.os,h.tape,h.output,h.size,h.block⟩)⟩)
     | have HR:Hid (wx.ownsRow wr.heap.size 5 1 u3 (tsum [k,v]+2) (tbs [k,v]++nbs [0,1])/\Below wr.heap.size wr wx):=hid (by
      rw[h29,HGW.out];have hgl:=HL.out
      exact⟨hr.base _ (fun i hi=>by rw[hz i (by show i<w1.heap.size;omega)];decide),HB.out.trans (by
       have h:=hcc.below_of g (by show g<=w1.heap.size;omega) (fun i hi=>by rw[hz i (by show i<w1.heap.size;omega)];decide)
       exact⟨h.os,h.tape,h.output,h.size,h.block⟩)⟩)
     clear hM hL hU hr hcc hz h29
     go_wp2
     go_roundw
     case rel=>exact .inr ⟨by go_num,HR.out.1,HR.out.2⟩
     case measure=>simp[intOf]
  ·have HO:=hid ho
   have HB:=hid hb;clear ho hb
   go_wp2
   go_ret;exact⟨_,rfl,HO.out,HB.out⟩
def ub (l:List UInt8):List Value:=l.map fun b=>.int .u8 (b.toNat:Int)
theorem ub_length (l:List UInt8):(ub l).length=l.length:=by simp[ub]
theorem ub_one (l:List UInt8):∀ u∈ub l,u.oneCell'=true:=by
 intro u hu;obtain⟨x,_,rfl⟩:=List.mem_map.1 hu;rfl
theorem ub_get (l:List UInt8)(j:Nat)(h:j<l.length):(ub l)[j]? = some (.int .u8 (l[j].toNat:Int)):=by simp[ub,h]
def u8n (n:Nat):UInt8:=UInt8.ofNat (2*n)
theorem u8n_val (n:Nat)(h:n<64):((u8n n).toNat:Int)=((2*n:Nat):Int):=by
 unfold u8n;rw[UInt8.toNat_ofNat'];omega
def ibs (k v:ByteArray)(gn:Nat):List UInt8:=u8n k.size :: k.data.toList++(u8n v.size :: v.data.toList++[u8n 0,u8n gn])
theorem ibs_eq (k v:ByteArray)(gn:Nat)(hk:k.size<64)(hv:v.size<64)(hg:gn<64):tbs [k,v]++nbs [0,gn]=ub (ibs k v gn):=by
 have e1:=u8n_val k.size hk;have e2:=u8n_val v.size hv;have e3:=u8n_val 0 (by decide);have e4:=u8n_val gn hg;simp only[tbs,nbs,ibs,ub,List.flatMap_cons,List.flatMap_nil,List.map_cons,List.map_append,List.map_nil,e1,e2,e3,e4,List.append_nil];simp[Lib.strCells]
theorem ibs_length (k v:ByteArray)(gn:Nat):(ibs k v gn).length=k.size+v.size+4:=by
 have h1:k.data.toList.length=k.size:=Array.length_toList;have h2:v.data.toList.length=v.size:=Array.length_toList;simp only[ibs,List.length_append,List.length_cons,List.length_nil,h1,h2];omega
theorem eq300 (w:World)(a1 a2:Nat)(o1 o2 c1 c2:Nat)(l:List UInt8)(h1:∀ j u,(ub l)[j]? = some u->w.cell? ⟨a1,o1+j,none⟩=some u)(h2:∀ j u,(ub l)[j]? = some u->w.cell? ⟨a2,o2+j,none⟩=some u) :
 Calls Tryz.prog 300 #[.slice (some ⟨a1,o1,none⟩) l.length c1,.slice (some ⟨a2,o2,none⟩) l.length c2] w fun e w'=>e=.returned (.bool true)/\w=w':=by
 have q1:=run_convert_bytes_back (P:=Tryz.prog) w 74 9 5 ⟨a1,o1,none⟩ c1 l (by kernel_rfl) (by kernel_rfl) (by kernel_rfl) (fun j hj=>by
  rw[add_none];exact h1 j _ (ub_get l j hj))
 have q2:=run_convert_bytes_back (P:=Tryz.prog) w 74 9 5 ⟨a2,o2,none⟩ c2 l (by kernel_rfl) (by kernel_rfl) (by kernel_rfl) (fun j hj=>by
  rw[add_none];exact h2 j _ (ub_get l j hj))
 clear h1 h2;go_enter Tryz.func300,Tryz.ntmps300
 go_wp2
 go_ret;exact⟨by simp,rfl⟩
theorem info178:(Tryz.prog.info? 178).map (fun i=>(i.zero.map Value.cells,i.size,i.bytes))=some (some #[.string ⟨#[]⟩,.string ⟨#[]⟩,.int .i64 0,.bool false],4,48):=by kernel_rfl
theorem ibs_k0 (k v:ByteArray)(gn:Nat)(hk:k.size<64):(ub (ibs k v gn))[0]? = some (.int .u8 ((2*k.size:Nat):Int)):=by
 rw[<- u8n_val k.size hk];rfl
theorem ibs_k (k v:ByteArray)(gn:Nat):∀ j u,(Lib.strCells k)[j]? = some u->(ub (ibs k v gn))[1+j]? = some u:=by
 intro j u hu;have hj:=(List.getElem?_eq_some_iff.1 hu).1
 have:ub (ibs k v gn)=(.int .u8 ((u8n k.size).toNat:Int)) :: (Lib.strCells k++ub (u8n v.size :: v.data.toList++[u8n 0,u8n gn])):=by simp[ub,ibs,Lib.strCells]
 rw[this,Nat.add_comm,List.getElem?_cons_succ,List.getElem?_append_left hj];exact hu
theorem ibs_rest (k v:ByteArray)(gn:Nat)(j:Nat):(ub (ibs k v gn))[1+k.size+j]? = (ub (u8n v.size :: v.data.toList++[u8n 0,u8n gn]))[j]?:=by
 have h:(Lib.strCells k).length=k.size:=strCells_length k
 have:ub (ibs k v gn)=(.int .u8 ((u8n k.size).toNat:Int)) :: (Lib.strCells k++ub (u8n v.size :: v.data.toList++[u8n 0,u8n gn])):=by simp[ub,ibs,Lib.strCells]
 rw[this,show 1+k.size+j=(k.size+j)+1 by omega,List.getElem?_cons_succ,List.getElem?_append_right (by omega),h]
 congr 1
 omega
theorem ibs_v0 (k v:ByteArray)(gn:Nat)(hv:v.size<64):(ub (ibs k v gn))[1+k.size]? = some (.int .u8 ((2*v.size:Nat):Int)):=by
 have:=ibs_rest k v gn 0;rw[Nat.add_zero]at this;rw[this,<- u8n_val v.size hv];rfl
theorem ibs_v (k v:ByteArray)(gn:Nat):∀ j u,(Lib.strCells v)[j]? = some u->(ub (ibs k v gn))[1+k.size+1+j]? = some u:=by
 intro j u hu;have hj:=(List.getElem?_eq_some_iff.1 hu).1;rw[show 1+k.size+1+j=1+k.size+(j+1) by omega,ibs_rest]
 have:ub (u8n v.size :: v.data.toList++[u8n 0,u8n gn])=(.int .u8 ((u8n v.size).toNat:Int)) :: (Lib.strCells v++ub [u8n 0,u8n gn]):=by simp[ub,Lib.strCells]
 rw[this,List.getElem?_cons_succ,List.getElem?_append_left hj];exact hu
theorem ibs_e (k v:ByteArray)(gn j:Nat):(ub (ibs k v gn))[k.size+v.size+2+j]? = (ub [u8n 0,u8n gn])[j]?:=by
 have h:(Lib.strCells v).length=v.size:=strCells_length v;rw[show k.size+v.size+2+j=1+k.size+(v.size+j+1) by omega,ibs_rest]
 have:ub (u8n v.size :: v.data.toList++[u8n 0,u8n gn])=(.int .u8 ((u8n v.size).toNat:Int)) :: (Lib.strCells v++ub [u8n 0,u8n gn]):=by simp[ub,Lib.strCells]
 rw[this,List.getElem?_cons_succ,List.getElem?_append_right (by omega),h]
 congr 1
 omega
theorem ibs_e0 (k v:ByteArray)(gn:Nat):(ub (ibs k v gn))[k.size+v.size+2]? = some (.int .u8 ((2*0:Nat):Int)):=by
 have:=ibs_e k v gn 0;rw[Nat.add_zero]at this;rw[this,<- u8n_val 0 (by decide)];rfl
theorem ibs_e1 (k v:ByteArray)(gn:Nat)(hg:gn<64):(ub (ibs k v gn))[k.size+v.size+2+1]? = some (.int .u8 ((2*gn:Nat):Int)):=by
 rw[ibs_e,<- u8n_val gn hg];rfl
theorem getText_big (w:World)(b off len c:Nat)(t:ByteArray)(ht:t.size<64)(hl:t.size+2<=len)(hlc:len<=c)(hcm:c<=9223372036854775807)(hc:w.cell? ⟨b,off,none⟩=some (.int .u8 ((2*t.size:Nat):Int)))(hs:∀ j u,(Lib.strCells t)[j]? = some u->w.cell? ⟨b,off+1+j,none⟩=some u) :
 Calls Tryz.prog 299 #[.slice (some ⟨b,off,none⟩) len c] w fun e w'=>e=.returned (.tuple #[.string t,.int .i64 (1+(t.size:Int)),.int .i64 0])/\w=w':=by
 have hconv:(convert 74 9 (.slice (some ⟨b,off+1,none⟩) t.size (c-1))).run Tryz.prog w=.ok (.string t) w:=by
  have h:=run_convert_bytes_back (P:=Tryz.prog) w 74 9 5 ⟨b,off+1,none⟩ (c-1) t.data.toList (by kernel_rfl) (by kernel_rfl) (by kernel_rfl) (fun j hj=>by
   rw[add_none];refine hs j _ ?_;unfold Lib.strCells;rw[List.getElem?_map,List.getElem?_eq_getElem hj]
   rfl)
  have e1:t.data.toList.length=t.size:=Array.length_toList
  have e2:(⟨t.data.toList.toArray⟩:ByteArray)=t:=by cases t;rfl
  rw[e1,e2]at h;exact h
 have k4:¬ c=1:=by omega
 clear hs;go_enter Tryz.func299,Tryz.ntmps299
 go_wp2_with fail
 refine(getN_any w b off len c t.size ht (by omega) hc).mono ?_;rintro e w' ⟨rfl,rfl⟩;clear hc
 have k1:¬ ((t.size:Int)<0):=by omega
 have k2:¬ ((65536:Int)<(t.size:Int)):=by omega
 have k3:¬ ((len:Int)-1<(t.size:Int)):=by omega
 go_wp2
 go_ret3
 exact⟨rfl,rfl⟩
theorem decode_big (w:World)(b off c:Nat)(k v:ByteArray)(gb:Bool)(gn:Nat)(hgn:gn=if gb then 1 else 0)(hk:itemOk k v gb=true)(hks:k.size<64)(hvs:v.size<64)(hlc:k.size+v.size+4<=c)(hcm:c<=9223372036854775807)
 (hc:∀ j u,(ub (ibs k v gn))[j]? = some u->w.cell? ⟨b,off+j,none⟩=some u) :
 Calls Tryz.prog 278 #[.slice (some ⟨b,off,none⟩) (k.size+v.size+4) c] w fun e w'=>∃ r,e=.returned (.tuple #[r,.int .i64 0])/\w'.ownsRow w.heap.size 178 4 r 1 [.string k,.string v,.int .i64 0,.bool gb]/\Below w.heap.size w w':=by
 have hg64:gn<64:=by rw[hgn];split <;> decide
 have hbs:b<w.heap.size:=World.block_lt_of_cell? w ⟨b,off+0,none⟩ (hc 0 _ (ibs_k0 k v gn hks));obtain⟨i0,z0,hi,hz,hzc,hs0,hby⟩:=info_cells info178;have HI:=hid (And.intro hi (And.intro hz (And.intro hzc (And.intro hs0 hby))));have HC:=hid hc;have HKO:=hid hk;have HGN:=hid hgn;clear hi hz hzc hs0 hby hc hk hgn;have he:∀ (w:World) (a:Option Addr) (n c n' c':Nat),(binOp .eql 74 (.slice a n c) (.slice none n' c')).run Tryz.prog w=.ok (.bool a.isNone) w:=fun w a n c n' c'=>Lib.run_eql_slice_nil w _ 5 a n c n' c' (by kernel_rfl)
 have k1:(0:Int)<(k.size:Int)+(v.size:Int)+4:=by omega
 have k2:¬ c<1+k.size:=by omega
 have k3:((1:Int)+(k.size:Int)).toNat=1+k.size:=by omega
 go_enter Tryz.func278,Tryz.ntmps278
 go_wp2
 go_loopw [4,5] (fun x i wr=>(x=.slice none 0 0/\i=.int .i64 0/\wr=w)\/(i=.int .i64 ((k.size+v.size+4:Nat):Int)/\wr.ownsRow w.heap.size 178 4 x 1 [.string k,.string v,.int .i64 0,.bool gb]/\Below w.heap.size w wr)) (fun _ i _=>(k.size+v.size+4)-(intOf i).toNat)
 case atStart=>exact .inl ⟨rfl,rfl,rfl⟩
 case round=>
  rcases hrel with ⟨rfl,rfl,rfl⟩|⟨rfl,ho,hb⟩
  ·go_wp2_with fail
   have HC1:Hid (∀ W,Below wr.heap.size wr W->∀ j u,(ub (ibs k v gn))[j]? = some u->W.cell? ⟨b,off+j,none⟩=some u):=hid (fun W hW j u hu=>(hW.cell (p:=⟨b,off+j,none⟩) hbs).trans (HC.out j u hu));obtain⟨W1,hW1⟩:∃ W,W=wr.alloc (.cells #[.string ⟨#[]⟩,.string ⟨#[]⟩,.int .i64 0,.bool false] 178):=⟨_,rfl⟩
   have B1:Below wr.heap.size wr W1:=by rw[hW1];exact(Below.refl _ _).alloc (Nat.le_refl _) _
   have X1:Blk W1 wr.heap.size 178 #[.string ⟨#[]⟩,.string ⟨#[]⟩,.int .i64 0,.bool false]:=by rw[hW1];exact Blk.new _ _ _
   have S1:W1.heap.size=wr.heap.size+1:=by rw[hW1];simp
   rw[<- hW1];refine(getText_big W1 b off (k.size+v.size+4) c k hks (by omega) (by omega) hcm (by simpa using HC1.out W1 B1 0 _ (ibs_k0 k v gn hks)) (fun j u hu=>by rw[Nat.add_assoc];exact HC1.out W1 B1 _ _ (ibs_k k v gn j u hu))).mono ?_;rintro e w1 ⟨rfl,rfl⟩;clear hW1;generalize hg:wr.heap.size=g at *;have HGW:=hid hg;clear hg
   have k4:¬ c<1+k.size+(1+v.size):=by omega
   have k5:((1:Int)+(k.size:Int)+(1+(v.size:Int))).toNat=1+k.size+(1+v.size):=by omega
   go_wp2_with fail
   refine(getText_big W1 b (off+(1+k.size)) (k.size+v.size+4-(1+k.size)) (c-(1+k.size)) v hvs (by omega) (by omega) (by omega) (by simpa using HC1.out W1 B1 _ _ (ibs_v0 k v gn hvs)) (fun j u hu=>by rw[show off+(1+k.size)+1+j=off+(1+k.size+1+j) by omega];exact HC1.out W1 B1 _ _ (ibs_v k v gn j u hu))).mono ?_;rintro e w1 ⟨rfl,rfl⟩
   go_wp2_with fail
   obtain⟨W2,hW2⟩:∃ W,W=((W1.alloc (.cells #[.int .i64 0] 2)).alloc (.cells #[.pointer (some ⟨g,2,none⟩),.pointer (some ⟨g+1,0,none⟩)] 228)):=⟨_,rfl⟩
   have B2:Below g wr W2:=by rw[hW2];exact(B1.alloc (by omega) _).alloc (by simp;omega) _
   have X2:Blk W2 g 178 #[.string ⟨#[]⟩,.string ⟨#[]⟩,.int .i64 0,.bool false]:=by rw[hW2];exact(X1.alloc _).alloc _
   have Y2:Blk W2 (g+1) 2 #[.int .i64 0]:=by rw[hW2];have:=Blk.new W1 2 #[.int .i64 0];rw[S1]at this;exact this.alloc _
   have Z2:Blk W2 (g+1+1) 228 #[.pointer (some ⟨g,2,none⟩),.pointer (some ⟨g+1,0,none⟩)]:=by rw[hW2];have:=Blk.new (W1.alloc (.cells #[.int .i64 0] 2)) 228 #[.pointer (some ⟨g,2,none⟩),.pointer (some ⟨g+1,0,none⟩)];simp only[World.size_alloc,S1]at this;exact this
   have S2:W2.heap.size=g+3:=by rw[hW2];simp;omega
   rw[<- hW2];clear hW2
   refine(all_any W2 b (off+(1+k.size+(1+v.size))) (k.size+v.size+4-(1+k.size+(1+v.size))) (c-(1+k.size+(1+v.size))) (g+1+1) 0 gn (by decide) hg64 (by omega) (by omega) ⟨g,2,none⟩ ⟨g+1,0,none⟩ 0 0
    (by have:=HC1.out W2 B2 _ _ (ibs_e0 k v gn);rw[show off+(k.size+v.size+2)=off+(1+k.size+(1+v.size)) by omega]at this;exact this)
    (by have:=HC1.out W2 B2 _ _ (ibs_e1 k v gn hg64);rw[show off+(k.size+v.size+2+1)=off+(1+k.size+(1+v.size))+1 by omega]at this;exact this)
    (Z2.cell 0) (Z2.cell 1) (X2.cell 2) (Y2.cell 0) (X2.frozen 2) (Y2.frozen 0) (by show b≠g;omega) (by show g+1+1≠g;omega) (by simp)).mono ?_
   rintro e W3 ⟨rfl,hW3⟩
   have B3:Below g wr W3:=by rw[hW3];exact(B2.setCell (p:=⟨g,2,none⟩) (Nat.le_refl _) _).setCell (p:=⟨g+1,0,none⟩) (by show g<=g+1;omega) _
   have X3:Blk W3 g 178 #[.string ⟨#[]⟩,.string ⟨#[]⟩,.int .i64 0,.bool false]:=by rw[hW3];exact(X2.set_ 2 _).far (p:=⟨g+1,0,none⟩) (by show g≠g+1;omega) _
   have Y3:Blk W3 (g+1) 2 #[.int .i64 (gn:Int)]:=by rw[hW3];exact(Y2.far (p:=⟨g,2,none⟩) (by show g+1≠g;omega) _).set_ 0 _
   have S3:W3.heap.size=g+3:=by rw[hW3];simp[World.setCell];exact S2
   clear hW3 X2 Y2 Z2;have e0:=X3.cell 0;have e1:=X3.cell 1;have e2:=X3.cell 2;have e3:=X3.cell 3;have e4:=Y3.cell 0;have f0:=X3.frozen 0;have f1:=X3.frozen 1;have f3:=X3.frozen 3
   have hgb:((gn:Int) == 1)=gb:=by rw[HGN.out];cases gb <;> rfl
   have HX3:=hid X3;have HB3:=hid B3;clear X1 B1 S1 B2 S2 X3 B3
   go_wp2_with (at_builtin;refine wpList_append_slN _ rfl (.tmp 63) (.tmp 65) 179 rfl g 178 i0 z0 4 48 (by kernel_rfl) HI.out.1 HI.out.2.1 HI.out.2.2.2.1 HI.out.2.2.2.2 (by rw[HI.out.2.2.1];rfl) (by decide) _ 0 [] rfl (World.ownsRow_nil _ _ _ _) (some ⟨g+3,0,none⟩) 1 1 [.string k,.string v,.int .i64 0,.bool gb] rfl rfl ?c2 ?c3 ?c4 (by decide) ?c6 ?_)
   case c2=>
    have:=(Blk.new (((W3.setCell ⟨g,0,none⟩ (.string k)).setCell ⟨g,1,none⟩ (.string v)).setCell ⟨g,3,none⟩ (.bool gb)) 178 #[.string k,.string v,.int .i64 0,.bool gb]).sl
    have hsz:(((W3.setCell ⟨g,0,none⟩ (.string k)).setCell ⟨g,1,none⟩ (.string v)).setCell ⟨g,3,none⟩ (.bool gb)).heap.size=g+3:=by simp[World.setCell];exact S3
    rw[hsz]at this;exact this
   case c3=>intro u hu;simp at hu;rcases hu with rfl|rfl|rfl|rfl <;> rfl
   case c4=>unfold maxLen;omega
   case c6=>simp[World.setCell];omega
   intro v' w4 ho hgr;have HO4:Hid (w4.ownsRow g 178 4 v' 1 [.string k,.string v,.int .i64 0,.bool gb]):=hid (by simpa using ho);have HB4:Hid (Below g wr w4):=hid (((((HB3.out.setCell (p:=⟨g,0,none⟩) (Nat.le_refl _) _).setCell (p:=⟨g,1,none⟩) (Nat.le_refl _) _).setCell (p:=⟨g,3,none⟩) (Nat.le_refl _) _).alloc (by simp[World.setCell];omega) _).grown hgr (by simp[World.setCell];omega) (by intro k hk;cases hk));clear ho hgr e0 e1 e2 e3 e4 f0 f1 f3 S3
   go_wp2
   go_roundw
   case rel=>exact .inr ⟨by go_num,by rw[HGW.out];exact HO4.out,by rw[HGW.out];exact HB4.out⟩
   case measure=>simp[intOf];omega
  ·have HO:=hid ho
   have HB:=hid hb
   obtain⟨A,cx,hu,hnc,hcm2,hsl⟩:∃ A cx,u4=.slice (some A) 1 cx/\1<=cx/\cx<=maxLen/\∀ j u,[Value.string k,.string v,.int .i64 0,.bool gb][j]? = some u->wr.cell? ⟨A.block,0+j,none⟩=some u/\A=⟨A.block,0,none⟩:=by
    obtain⟨g,cap,rfl,_,_⟩:=ho.form (by decide);refine⟨⟨g,0,none⟩,cap,rfl,?_,?_,fun j u hu=>⟨?_,rfl⟩⟩
    ·rcases ho.2 with ⟨h,_⟩|⟨_,_,_,h,_,_,h1,_⟩
     ·cases h
     ·cases h;exact h1
    ·rcases ho.2 with ⟨h,_⟩|⟨_,_,_,h,_,_,_,h1,_⟩
     ·cases h
     ·cases h;exact h1
    ·have:=ho.cells (g:=g) rfl j u hu
     rw[add_none]at this;exact this
   obtain⟨ab,ao,asp⟩:=A;have hA:=(hsl 0 _ rfl).2
   injection hA with h1 h2 h3
   subst h2 h3;subst hu;have HS:=hid hsl;clear ho hb hsl h1
   go_wp2_with fail
   refine(encode_any wr ab 0 cx k v gb gn HGN.out HKO.out hks hvs (fun j u hu=>(HS.out j u hu).1)).mono ?_;rintro e w5 ⟨r,rfl,ho5,hb5⟩;obtain⟨g5,cap5,rfl,hg5,_⟩:=ho5.form (by omega)
   have hlen5:tsum [k,v]+2=k.size+v.size+4:=by simp[tsum];omega
   rw[hlen5,ibs_eq k v gn hks hvs hg64]at ho5;rw[hlen5];have HO5:=hid ho5;have HB5:=hid hb5;clear ho5 hb5
   go_wp2_with fail
   have E:=eq300 w5 g5 b 0 off cap5 c (ibs k v gn) (fun j u hu=>by have:=HO5.out.cells (g:=g5) rfl j u hu;rw[add_none]at this;exact this)
    (fun j u hu=>(HB5.out.cell (p:=⟨b,off+j,none⟩) (by have:=HB.out.size;show b<_;omega)).trans ((HB.out.cell (p:=⟨b,off+j,none⟩) hbs).trans (HC.out j u hu)))
   rw[ibs_length]at E;refine E.mono ?_;rintro e w6 ⟨rfl,rfl⟩;clear E;have HE:Hid (w5.ownsRow w.heap.size 178 4 (.slice (some ⟨ab,0,none⟩) 1 cx) 1 [.string k,.string v,.int .i64 0,.bool gb]/\Below w.heap.size w w5):=hid ⟨HO.out.kept (row:=none) ⟨HB5.out.os,HB5.out.tape,HB5.out.output,HB5.out.size,fun i hi _=>HB5.out.block i hi⟩ (.inr (by simp[Value.ownBlock])),HB.out.trans (HB5.out.mono HB.out.size)⟩
   go_wp2
   go_ret2
   exact⟨_,rfl,HE.out.1,HE.out.2⟩
theorem key32 (w:World)(k:ByteArray)(hk:k.size<=1000):Calls Tryz.prog 32 #[.string k] w fun e w'=>e=.returned (.bool (keyOk k))/\w=w':=by
 have HF:Hid (keyOk k=(decide ((1:Int)<=(k.size:Int)) && decide ((k.size:Int)<=40))):=hid (by unfold keyOk;rw[Bool.eq_iff_iff];simp;omega)
 by_cases h1:1<=k.size
 ·have k1:(1:Int)<=(k.size:Int):=by omega
  go_enter Tryz.func32,Tryz.ntmps32
  go_wp2
  go_ret;exact⟨by rw[HF.out];simp[k1],rfl⟩
 ·have k1:¬ ((1:Int)<=(k.size:Int)):=by omega
  go_enter Tryz.func32,Tryz.ntmps32
  go_wp2
  go_ret;exact⟨by rw[HF.out];simp;omega,rfl⟩
theorem cut52 (w:World)(k:ByteArray)(n:Nat)(hk:k.size<=n)(hn:n<=1000):Calls Tryz.prog 52 #[.string k,.int .i64 (n:Int)] w fun e w'=>e=.returned (.string k)/\w=w':=by
 have k1:¬ ((n:Int)<(k.size:Int)):=by omega
 go_enter Tryz.func52,Tryz.ntmps52
 go_wp2
 go_ret;exact⟨rfl,rfl⟩
def smallF (x:Int)(k:Nat):Nat:=(x.tmod (k:Int)).natAbs
theorem small14 (w:World)(x:Int)(k:Nat)(h0:0<k)(hk:k<=1000)(hx1 : -9223372036854775808<=x)(hx2:x<=9223372036854775807):Calls Tryz.prog 14 #[.int .i64 x,.int .i64 (k:Int)] w fun e w'=>e=.returned (.int .i64 (smallF x k:Int))/\w=w':=by
 have k1:((k:Int) == 0)=false:=by rw[beq_eq_false_iff_ne];omega
 have k2:¬ ((k:Int)=0):=by omega
 have hm1:x.tmod (k:Int)<(k:Int):=Int.tmod_lt_of_pos _ (by omega)
 have hm2 : -(k:Int)<x.tmod (k:Int):=by
  have h:=Int.tmod_lt_of_pos (-x) (b:=(k:Int)) (by omega);rw[Int.neg_tmod]at h;omega
 have HS:Hid ((smallF x k:Int)=if x.tmod (k:Int)<0 then -(x.tmod (k:Int)) else x.tmod (k:Int)):=hid (by unfold smallF;split <;> omega)
 by_cases hs:x.tmod (k:Int)<0
 ·go_enter Tryz.func14,Tryz.ntmps14
  go_wp2
  go_ret;exact⟨by rw[HS.out,if_pos hs];rfl,rfl⟩
 ·go_enter Tryz.func14,Tryz.ntmps14
  go_wp2
  go_ret;exact⟨by rw[HS.out,if_neg (by omega)];rfl,rfl⟩
theorem conv2 (w:World)(a b:Nat)(ha:a<256)(hb:b<256):(convert 74 9 (.slice (some ⟨w.heap.size,0,none⟩) 2 2)).run Tryz.prog (w.alloc (.cells #[.int .u8 (a:Int),.int .u8 (b:Int)] 5))=.ok (.string ⟨#[UInt8.ofNat a,UInt8.ofNat b]⟩) (w.alloc (.cells #[.int .u8 (a:Int),.int .u8 (b:Int)] 5)):=by
 have hB:=Blk.new w 5 #[.int .u8 (a:Int),.int .u8 (b:Int)]
 have h:=run_convert_bytes_back (P:=Tryz.prog) (w.alloc (.cells #[.int .u8 (a:Int),.int .u8 (b:Int)] 5)) 74 9 5 ⟨w.heap.size,0,none⟩ 2 [UInt8.ofNat a,UInt8.ofNat b] (by kernel_rfl) (by kernel_rfl) (by kernel_rfl) (fun j hj=>by
  rw[add_none,hB.cell];simp at hj
  obtain rfl|rfl:j=0\/j=1:=by omega
  ·simp[Nat.mod_eq_of_lt ha]
  ·simp[Nat.mod_eq_of_lt hb])
 simpa using h
def keyB (i:Nat):ByteArray:=⟨#[107,101,121,32,UInt8.ofNat (97+i%26),UInt8.ofNat (97+i / 26)]⟩
def valB (i n:Nat):ByteArray:=⟨#[118,97,108,117,101,32,UInt8.ofNat (97+i%26),UInt8.ofNat (48+n%10)]⟩
theorem key17 (w:World)(i:Nat)(hi:i<40):Calls Tryz.prog 17 #[.int .i64 (i:Int)] w fun e w'=>e=.returned (.string (keyB i))/\Below w.heap.size w w':=by
 have hc:=conv2 w (97+i%26) (97+i / 26) (by omega) (by omega)
 have e1:(((97+i%26:Nat)):Int)=97+(i:Int)%26:=by omega
 have e2:(((97+i / 26:Nat)):Int)=97+(i:Int) / 26:=by omega
 rw[e1,e2]at hc;go_enter Tryz.func17,Tryz.ntmps17
 go_wp2
 go_ret;refine⟨?_,(Below.refl _ w).alloc (Nat.le_refl _) _⟩;show Ending.returned (.string _)=_
 congr 2
 unfold keyB;apply ByteArray.ext;simp[UInt8.ofNat_add]
theorem val18 (w:World)(i n:Nat)(hi:i<40)(hn:n<10):Calls Tryz.prog 18 #[.int .i64 (i:Int),.int .i64 (n:Int)] w fun e w'=>e=.returned (.string (valB i n))/\Below w.heap.size w w':=by
 have hc:=conv2 w (97+i%26) (48+n%10) (by omega) (by omega)
 have e1:(((97+i%26:Nat)):Int)=97+(i:Int)%26:=by omega
 have e2:(((48+n%10:Nat)):Int)=48+(n:Int)%10:=by omega
 rw[e1,e2]at hc;go_enter Tryz.func18,Tryz.ntmps18
 go_wp2
 go_ret;refine⟨?_,(Below.refl _ w).alloc (Nat.le_refl _) _⟩;show Ending.returned (.string _)=_
 congr 2
 unfold valB;apply ByteArray.ext;simp[UInt8.ofNat_add]
end Go.Proofs.Ytlhekbjidppijaa
