/- The walk of TopFall: for every input it returns true. No condition. -/
import Derived.Test.YtlhekbjidppijaaGreatMBQ
import Derived.Test.YtlhekbjidppijaaGreatLKa
import Derived.Test.YtlhekbjidppijaaGreatLKb
import Derived.Test.YtlhekbjidppijaaGreatLKc
import Derived.Test.YtlhekbjidppijaaGreatLKd
set_option linter.unusedVariables false
set_option linter.unusedSimpArgs false
set_option maxRecDepth 20000
set_option maxHeartbeats 8000000
namespace Go.Proofs.Ytlhekbjidppijaa
open Lib (hid)
open Go.RowKit
theorem tree_all:treeB 12 0 [] fs0=true:=by
 refine tree_of 5 12 0 [] fs0 fun sel hs=>?_
 match sel,hs with
 | [a,b,c,d,e],_=>
  cases a <;> cases b <;> cases c <;> cases d <;> cases e
  ·exact tree_q00000
  ·exact tree_q00001
  ·exact tree_q00010
  ·exact tree_q00011
  ·exact tree_q00100
  ·exact tree_q00101
  ·exact tree_q00110
  ·exact tree_q00111
  ·exact tree_q01000
  ·exact tree_q01001
  ·exact tree_q01010
  ·exact tree_q01011
  ·exact tree_q01100
  ·exact tree_q01101
  ·exact tree_q01110
  ·exact tree_q01111
  ·exact tree_q10000
  ·exact tree_q10001
  ·exact tree_q10010
  ·exact tree_q10011
  ·exact tree_q10100
  ·exact tree_q10101
  ·exact tree_q10110
  ·exact tree_q10111
  ·exact tree_q11000
  ·exact tree_q11001
  ·exact tree_q11010
  ·exact tree_q11011
  ·exact tree_q11100
  ·exact tree_q11101
  ·exact tree_q11110
  ·exact tree_q11111
theorem in_zero (kl:Nat->Bool)(n:Nat):In1 kl n 0 (qW P1 fs0 0 [] [] [] []):=⟨fs0,0,[],[],[],rfl,Nat.le_refl _,Nat.le_refl _,Nat.le_refl _,⟨rfl,fun j z lo h _=>by simp at h⟩,tree_all,fun h=>absurd h (Nat.lt_irrefl _)⟩
theorem bool_cell {w w':World}{A:Option Addr}{ks:List Bool}{n i:Nat}(hs:Sl w A (ks.map Value.bool))(hb:Below n w w')(hn:n=w.heap.size)(hi:i<ks.length):∃ b o,A=some ⟨b,o,none⟩/\w'.cell? ⟨b,o+i,none⟩=some (.bool (ks.getD i false)):=by
 subst hn;have h2:Sl w' A (ks.map Value.bool):=hs.keep hb;obtain⟨b,o,rfl,hc⟩:=h2 (by intro e;rw[List.map_eq_nil_iff]at e;rw[e]at hi;cases hi);refine⟨b,o,rfl,hc _ _ ?_⟩;rw[List.getElem?_map,List.getElem?_eq_getElem hi,List.getD_eq_getElem?_getD,List.getElem?_eq_getElem hi];rfl
theorem TR.fell {w0 w w1 w2:World}{U U1 U2:Own}{t x c:Nat}{L L':CL}{s s':PW}(H:TR w0 w U t x c L s)(h1:Chg TX w U w1 U1)(h2:TAt w2 U2 t x c L' s')(h3:Chg TX w1 U1 w2 U2):TR w0 w2 U2 t x c L' s':=⟨h2,(H.chg.trans h1).trans h3⟩
theorem topFall.walk (w:World)(a:Int)(ha:(Lit.int .i64 a).wf=true)(A1:Option Addr)(l1 c1:Nat)(ks:List Bool)(hk:ks.length=l1/\l1<=c1/\c1<=maxLen/\Sl w A1 (ks.map Value.bool))(A2:Option Addr)(l2 c2:Nat)(zs:List Bool)(hz:zs.length=l2/\l2<=c2/\c2<=maxLen/\Sl w A2 (zs.map Value.bool)):Calls Tryz.prog 5 #[.int .i64 a,.slice A1 l1 c1,.slice A2 l2 c2] w fun e w'=>e=.returned (.bool true)/\Below w.heap.size w w':=by
 obtain⟨kl,hkl⟩:∃ kl:Nat->Bool,kl=fun i=>ks.getD i false:=⟨_,rfl⟩
 have hkf:∀ i,l1<=i->kl i=false:=fun i hi=>by subst hkl;show ks.getD i false=false;rw[List.getD_eq_getElem?_getD,List.getElem?_eq_none (by omega)];rfl
 have hkt:∀ w':World,Below w.heap.size w w'->∀ i,i<l1->∃ b o,A1=some ⟨b,o,none⟩/\w'.cell? ⟨b,o+i,none⟩=some (.bool (kl i)):=fun w' hb i hi=>by rw[hkl];exact bool_cell hk.2.2.2 hb rfl (by omega)
 have HWa:=hid ha;have HK:=hid (And.intro hkf hkt);have HL:=hid (And.intro (show l1<=maxLen by omega) hz.2.1);clear ha hk hkf hkt hkl hz;have HB:=hid (begun13 w);go_enter Tryz.func5,Tryz.ntmps5
 go_wp2_with (go_at_call 13;fail)
 refine HB.out.mono ?_;rintro e w1 ⟨rfl,hb1⟩;have HB1:=hid hb1;clear hb1 HB;have HC:=hid (tsmall w1 a 12 (by decide) (by decide) HWa.out)
 by_cases h60:60<l2
 case' pos=>
  have k60:(60:Int)<(l2:Int):=by omega
  have k61:(60:Int)<=(c2:Int):=by have:=HL.out.2;omega
  have HM2:Hid (60<=80):=hid (by decide)
 case' neg=>
  have k60:¬ ((60:Int)<(l2:Int)):=by omega
  have HM2:Hid (l2<=80):=hid (by omega)
 all_goals
  go_wp2_with (go_at_call 14;fail)
  refine HC.out.mono ?_;rintro e w' ⟨⟨m,hm,-,rfl⟩,hw⟩;obtain rfl:=hw;clear HC;have HM:=hid (tmade w w1 HB1.out 1 #[.int .i64 1] rfl (by decide) (by decide) _ made_one);clear HB1
  go_wp2_with (go_at_call 15;fail)
  refine HM.out.mono ?_;rintro e w2 ⟨t,x,c,L,rfl,U2,h2⟩;clear HM;have H:=hid h2;clear h2
  have km:(m:Int)<12:=by omega
  obtain⟨t0,t1,q0⟩:=H.out.cells
  go_wp2_with fail
  clear t0 t1 q0
  go_loopw [9] (fun v wr=>∃ (i:Nat) (Ur:Own) (sr:PW),i<=1+m/\v=.int .i64 (i:Int)/\In1 kl (1+m) i sr/\TR w wr Ur t x c L sr) (fun v _=>1+m-(intOf v).toNat)
  case atStart=>exact⟨0,_,_,Nat.zero_le _,rfl,in_zero kl (1+m),H.out⟩
  case' round=>
   obtain⟨i,Ur,sr,hi,rfl,hl,hr⟩:=hrel;clear H;have H:=hid hr;clear hr
   by_cases hik:i<1+m
   rotate_left
   focus(
    have k1:¬ ((i:Int)<1+(m:Int)):=by omega
    rw[show i=1+m by omega]at hl;obtain⟨p,hp,hF,hll,hlw,s2,hr2,hin⟩:=fall_mid hl (by omega) (by omega);have HX:=hid (And.intro hF (And.intro hll (And.intro hlw (And.intro hr2 hin))));obtain⟨t0,t1,q0⟩:=H.out.cells;have HC:=hid (fall23 _ Ur t x c _ c2 A2 L sr p H.out.tat hp hF HM2.out hll hlw);unfold stepK at HC;clear hl hp hF hll hlw hr2 hin hik
    go_wp2_with (go_at_call 23;fail)
    refine HC.out.mono ?_;rintro e w3 ⟨⟨v0,rfl⟩,U3,hd3,hc3⟩;have HD:=hid (And.intro hd3 hc3);clear hd3 hc3 HC t0 t1 q0;have HC:=hid (rise23 w3 U3 t x c 0 0 none sr p HD.out.1 HX.out.1 (by decide) HX.out.2.1 HX.out.2.2.1);unfold stepK at HC
    go_wp2_with (go_at_call 23;fail)
    refine HC.out.mono ?_;rintro e w4 ⟨⟨v1,rfl⟩,L2,U4,h4,hc4⟩;have H2:=hid (TR.fell H.out HD.out.2 h4 hc4);clear h4 hc4 HC HD H;have H:=H2;clear H2;obtain⟨t0,t1,q0⟩:=H.out.cells;have HC:=hid (trounds H.out 2 (by decide) HX.out.2.2.2.1)
    go_wp2_with (go_at_call 29;fail)
    refine HC.out.mono ?_;rintro e w5 ⟨⟨v0,rfl⟩,Uw5,hw5⟩;clear t0 t1 q0 HC H;have H:=hid hw5;clear hw5;have HI2:Hid (In2 kl (1+m) 0 s2):=hid HX.out.2.2.2.2;clear HX;obtain⟨t0,t1,q0⟩:=H.out.cells
    go_wp2_with fail
    clear t0 t1 q0
    go_loopw [10] (fun v wr=>∃ (i:Nat) (Ur:Own) (sr:PW),i<=1+m/\v=.int .i64 (i:Int)/\In2 kl (1+m) i sr/\TR w wr Ur t x c L2 sr) (fun v _=>1+m-(intOf v).toNat)
    case atStart=>exact⟨0,_,_,Nat.zero_le _,rfl,HI2.out,H.out⟩
    case' round=>
     obtain⟨j,Uj,sj,hj,rfl,hl,hr⟩:=hrel;clear H HI2;have H:=hid hr;clear hr
     by_cases hjk:j<1+m
     rotate_left
     focus(
      have k1:¬ ((j:Int)<1+(m:Int)):=by omega
      rw[show j=1+m by omega]at hl;obtain⟨t0,t1,q0⟩:=H.out.cells;have HC:=hid (tright H.out (fall_end hl (by omega)));clear hl hjk
      go_wp2_with (go_at_call 21;fail)
      refine HC.out.mono ?_;rintro e w3 ⟨rfl,U3,h3⟩;clear t0 t1 q0 HC H;have HF:=hid h3.below;clear h3
      go_wp2_with fail
      go_ret
      exact⟨rfl,HF.out⟩)
     have k1:(j:Int)<1+(m:Int):=by omega
     have kj:(j:Int)<=12:=by omega
     have HI:=hid (show j<40 by omega);have HX:=hid (fall_two hl hjk (by omega));clear hl;obtain⟨t0,t1,q0⟩:=H.out.cells
     by_cases hlk:j<l1
     rotate_left
     focus(
      have k2:¬ ((j:Int)<(l1:Int)):=by omega
      have hkk:kl j=false:=HK.out.1 j (by omega);obtain⟨s3,hs3,hin⟩:=HX.out.2 hkk;have HS:=hid (And.intro hs3 hin);clear hs3 hin hkk HX;have HC:=hid (tkey H.out j HI.out)
      go_wp2_with (go_at_call 17;fail)
      refine HC.out.mono ?_;rintro e w21 ⟨rfl,U21,h21⟩;clear t0 t1 q0 HC H;have H:=hid h21;clear h21;obtain⟨t0,t1,q0⟩:=H.out.cells;have HC:=hid (tval H.out j 1 HI.out (by decide))
      go_wp2_with (go_at_call 18;fail)
      refine HC.out.mono ?_;rintro e w22 ⟨rfl,Uw22,hw22⟩;clear t0 t1 q0 HC H;have H:=hid hw22;clear hw22;obtain⟨t0,t1,q0⟩:=H.out.cells;have HC:=hid (twarm H.out 1 (keyB j) (valB j 1) HS.out.1)
      go_wp2_with (go_at_call 30;fail)
      refine HC.out.mono ?_;rintro e w23 ⟨rfl,Uw23,hw23⟩;clear t0 t1 q0 HC H;have H:=hid hw23;clear hw23;obtain⟨t0,t1,q0⟩:=H.out.cells
      go_wp2_with fail
      go_roundw
      case rel=>exact⟨j+1,_,s3,by omega,by go_num,HS.out.2,H.out⟩
      case measure=>simp[intOf];omega)
     obtain⟨b1,o1,rfl,hc1⟩:=HK.out.2 _ H.out.below j hlk
     have k2:(j:Int)<(l1:Int):=by omega
     have k3:(l1:Int)<=9223372036854775807:=by have:=HL.out.1;unfold maxLen at this;omega
     cases hkk:kl j
     case false=>
      rw[hkk]at hc1;obtain⟨s3,hs3,hin⟩:=HX.out.2 hkk;have HS:=hid (And.intro hs3 hin);clear hs3 hin hkk HX;have HC:=hid (tkey H.out j HI.out)
      go_wp2_with (go_at_call 17;fail)
      refine HC.out.mono ?_;rintro e w21 ⟨rfl,U21,h21⟩;clear t0 t1 q0 HC H;have H:=hid h21;clear h21;obtain⟨t0,t1,q0⟩:=H.out.cells;have HC:=hid (tval H.out j 1 HI.out (by decide))
      go_wp2_with (go_at_call 18;fail)
      refine HC.out.mono ?_;rintro e w22 ⟨rfl,Uw22,hw22⟩;clear t0 t1 q0 HC H;have H:=hid hw22;clear hw22;obtain⟨t0,t1,q0⟩:=H.out.cells;have HC:=hid (twarm H.out 1 (keyB j) (valB j 1) HS.out.1)
      go_wp2_with (go_at_call 30;fail)
      refine HC.out.mono ?_;rintro e w23 ⟨rfl,Uw23,hw23⟩;clear t0 t1 q0 HC H;have H:=hid hw23;clear hw23;obtain⟨t0,t1,q0⟩:=H.out.cells
      go_wp2_with fail
      go_roundw
      case rel=>exact⟨j+1,_,s3,by omega,by go_num,HS.out.2,H.out⟩
      case measure=>simp[intOf];omega
     case true=>
      rw[hkk]at hc1;obtain⟨s3,hs3,hin⟩:=HX.out.1 hkk;have HS:=hid (And.intro hs3 hin);clear hs3 hin hkk HX;have HC:=hid (tkey H.out j HI.out)
      go_wp2_with (go_at_call 17;fail)
      refine HC.out.mono ?_;rintro e w21 ⟨rfl,U21,h21⟩;clear t0 t1 q0 HC H;have H:=hid h21;clear h21;obtain⟨t0,t1,q0⟩:=H.out.cells;have HC:=hid (tval H.out j 2 HI.out (by decide))
      go_wp2_with (go_at_call 18;fail)
      refine HC.out.mono ?_;rintro e w22 ⟨rfl,Uw22,hw22⟩;clear t0 t1 q0 HC H;have H:=hid hw22;clear hw22;obtain⟨t0,t1,q0⟩:=H.out.cells;have HC:=hid (tget H.out 1 (keyB j) (valB j 2) HS.out.1)
      go_wp2_with (go_at_call 19;fail)
      refine HC.out.mono ?_;rintro e w23 ⟨rfl,Uw23,hw23⟩;clear t0 t1 q0 HC H;have H:=hid hw23;clear hw23;obtain⟨t0,t1,q0⟩:=H.out.cells
      go_wp2_with fail
      go_roundw
      case rel=>exact⟨j+1,_,s3,by omega,by go_num,HS.out.2,H.out⟩
      case measure=>simp[intOf];omega)
   have k1:(i:Int)<1+(m:Int):=by omega
   have ki:(i:Int)<=12:=by omega
   have HI:=hid (show i<40 by omega);obtain⟨s1,s2,s3,e1,e2,e3,e4,e5⟩:=fall_one hl hik (by omega);have HX:=hid (And.intro e1 (And.intro e2 (And.intro e3 (And.intro e4 e5))));clear hl e1 e2 e3 e4 e5;obtain⟨t0,t1,q0⟩:=H.out.cells;have HC:=hid (tkey H.out i HI.out)
   go_wp2_with (go_at_call 17;fail)
   refine HC.out.mono ?_;rintro e w21 ⟨rfl,Uw21,hw21⟩;clear t0 t1 q0 HC H;have H:=hid hw21;clear hw21;obtain⟨t0,t1,q0⟩:=H.out.cells;have HC:=hid (tval H.out i 1 HI.out (by decide))
   go_wp2_with (go_at_call 18;fail)
   refine HC.out.mono ?_;rintro e w22 ⟨rfl,Uw22,hw22⟩;clear t0 t1 q0 HC H;have H:=hid hw22;clear hw22;obtain⟨t0,t1,q0⟩:=H.out.cells;have HC:=hid (tset H.out (keyB i) (valB i 1) HX.out.1)
   go_wp2_with (go_at_call 16;fail)
   refine HC.out.mono ?_;rintro e w23 ⟨⟨v0,rfl⟩,Uw23,hw23⟩;clear t0 t1 q0 HC H;have H:=hid hw23;clear hw23;obtain⟨t0,t1,q0⟩:=H.out.cells;have HC:=hid (tkey H.out i HI.out)
   go_wp2_with (go_at_call 17;fail)
   refine HC.out.mono ?_;rintro e w24 ⟨rfl,Uw24,hw24⟩;clear t0 t1 q0 HC H;have H:=hid hw24;clear hw24;obtain⟨t0,t1,q0⟩:=H.out.cells;have HC:=hid (tval H.out i 1 HI.out (by decide))
   go_wp2_with (go_at_call 18;fail)
   refine HC.out.mono ?_;rintro e w25 ⟨rfl,Uw25,hw25⟩;clear t0 t1 q0 HC H;have H:=hid hw25;clear hw25;obtain⟨t0,t1,q0⟩:=H.out.cells;have HC:=hid (tget H.out 1 (keyB i) (valB i 1) HX.out.2.1)
   go_wp2_with (go_at_call 19;fail)
   refine HC.out.mono ?_;rintro e w26 ⟨rfl,Uw26,hw26⟩;clear t0 t1 q0 HC H;have H:=hid hw26;clear hw26;obtain⟨t0,t1,q0⟩:=H.out.cells;have HC:=hid (tkey H.out i HI.out)
   go_wp2_with (go_at_call 17;fail)
   refine HC.out.mono ?_;rintro e w27 ⟨rfl,Uw27,hw27⟩;clear t0 t1 q0 HC H;have H:=hid hw27;clear hw27;obtain⟨t0,t1,q0⟩:=H.out.cells;have HC:=hid (tval H.out i 2 HI.out (by decide))
   go_wp2_with (go_at_call 18;fail)
   refine HC.out.mono ?_;rintro e w28 ⟨rfl,Uw28,hw28⟩;clear t0 t1 q0 HC H;have H:=hid hw28;clear hw28;obtain⟨t0,t1,q0⟩:=H.out.cells;have HC:=hid (tset H.out (keyB i) (valB i 2) HX.out.2.2.1)
   go_wp2_with (go_at_call 16;fail)
   refine HC.out.mono ?_;rintro e w29 ⟨⟨v0,rfl⟩,Uw29,hw29⟩;clear t0 t1 q0 HC H;have H:=hid hw29;clear hw29;obtain⟨t0,t1,q0⟩:=H.out.cells
   by_cases hlk:i<l1
   rotate_left
   focus(
    have k2:¬ ((i:Int)<(l1:Int)):=by omega
    have hkk:kl i=false:=HK.out.1 i (by omega);have HS:Hid (In1 kl (1+m) (i+1) s3):=hid (HX.out.2.2.2.1 hkk);clear HX hkk
    go_wp2_with fail
    go_roundw
    case rel=>exact⟨i+1,_,s3,by omega,by go_num,HS.out,H.out⟩
    case measure=>simp[intOf];omega)
   obtain⟨b1,o1,rfl,hc1⟩:=HK.out.2 _ H.out.below i hlk
   have k2:(i:Int)<(l1:Int):=by omega
   have k3:(l1:Int)<=9223372036854775807:=by have:=HL.out.1;unfold maxLen at this;omega
   cases hkk:kl i
   case false=>
    rw[hkk]at hc1;have HS:Hid (In1 kl (1+m) (i+1) s3):=hid (HX.out.2.2.2.1 hkk);clear HX hkk
    go_wp2_with fail
    go_roundw
    case rel=>exact⟨i+1,_,s3,by omega,by go_num,HS.out,H.out⟩
    case measure=>simp[intOf];omega
   case true=>
    rw[hkk]at hc1;obtain⟨s4,hs4,hin⟩:=HX.out.2.2.2.2 hkk;have HS:=hid (And.intro hs4 hin);clear hs4 hin hkk HX;have HC:=hid (tkey H.out i HI.out)
    go_wp2_with (go_at_call 17;fail)
    refine HC.out.mono ?_;rintro e w30 ⟨rfl,U30,h30⟩;clear t0 t1 q0 HC H hc1;have H:=hid h30;clear h30;obtain⟨t0,t1,q0⟩:=H.out.cells;have HC:=hid (tkill H.out 1 (keyB i) HS.out.1)
    go_wp2_with (go_at_call 20;fail)
    refine HC.out.mono ?_;rintro e w31 ⟨rfl,Uw31,hw31⟩;clear t0 t1 q0 HC H;have H:=hid hw31;clear hw31;obtain⟨t0,t1,q0⟩:=H.out.cells
    go_wp2_with fail
    go_roundw
    case rel=>exact⟨i+1,_,s4,by omega,by go_num,HS.out.2,H.out⟩
    case measure=>simp[intOf];omega
end Go.Proofs.Ytlhekbjidppijaa
