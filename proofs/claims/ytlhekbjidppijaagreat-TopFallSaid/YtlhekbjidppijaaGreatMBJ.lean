/- Contracts of what TopFall reaches: what each function returns and leaves in memory. Conditions: as named. -/
import Derived.Test.YtlhekbjidppijaaGreatMBI
set_option linter.unusedVariables false
set_option linter.unusedSimpArgs false
set_option maxRecDepth 20000
set_option maxHeartbeats 8000000
namespace Go.Proofs.Ytlhekbjidppijaa
open Lib (hid)
open Go.RowKit
def PNode.small (s:PNode):Bool:=decide (s.ms.length<=900) && decide (s.rs.length<=900) && decide (s.waits.length<=900) && decide (s.reads.length<=900) && decide (s.toks.length<=900) && decide (s.cnt<20) && !s.m.f && decide (s.asked<=1000000)
structure PNode.Small (s:PNode):Prop where
 ms:s.ms.length<=900
 rs:s.rs.length<=900
 waits:s.waits.length<=900
 reads:s.reads.length<=900
 toks:s.toks.length<=900
 cnt:s.cnt<20
 f:s.m.f=false
 asked:s.asked<=1000000
theorem PNode.small_of {s:PNode}(h:s.small=true):s.Small:=by
 simp only[PNode.small,Bool.and_eq_true,decide_eq_true_eq,Bool.not_eq_true']at h;obtain⟨⟨⟨⟨⟨⟨⟨a,b⟩,c⟩,d⟩,e⟩,f⟩,g⟩,h⟩:=h;exact⟨a,b,c,d,e,f,g,h⟩
def PNode.killF (s:PNode)(i:Nat)(x:PWho)(fs:FQ):PNode:=
 ({ s with toks:=s.toks.map (hurt1 fun k=>decide (k=x.key)),fs:=fs,cnt:=s.cnt+1 }:PNode).tell i x 0 ⟨#[]⟩ false
def PNode.ask? (s:PNode)(i now:Nat)(x:PWho):Option PNode:=
 if s.small && decide (x.key.size<=1000) && (decide (x.op=1) || decide (x.op=2)) then
  match s.ring with
  | none=>none
  | some ns=>
   if keyOk x.key then
    if ownerK ns x.key=i then
     if servesF s i now ns x.key then
      if x.op=2 then (fdrop 129 s.fs x.key).map (s.killF i x) else (fentry s.fs x.key).map (s.get i x)
     else some (s.tell i x 6 ⟨#[]⟩ false)
    else none
   else some (s.tell i x 1 ⟨#[]⟩ false)
 else none
def AskS (N b:Nat)(rg:Value)(x:PWho)(W:World):Prop:=W.cell? ⟨N,3,none⟩=some rg/\W.cell? ⟨b,3,none⟩=some (.string x.key)
theorem NodeAt.setWaits2 {w w' W:World}{U U':Own}{ts n N d k i:Nat}{s:PNode}{h:Hd}{v:Value}{L:List PWait}(H:NodeAt w U ts n N d k i s h)(hf:Far ts n)(hr:Rw w' U' (n+96) 212 7 v L.length (L.flatMap encT))(hc:Chg (· = n+96) w U w' U')(hW:W=w'.setCell ⟨N,9,none⟩ v) :
 NodeAt W U' ts n N d k i { s with waits:=L } { h with wv:=v }/\Chg (NN n) w U W U':=by
 obtain⟨h1,h2,h3⟩:=hf;obtain⟨mv,pv,hN,hm,hp⟩:=H.out.ex;have hN':=hN.keep hc (by omega)
 have hc2:Chg (· = n) w' U' W U':=by rw[hW];exact(Chg.refl _ _ _).setCell (p:=⟨N,9,none⟩) hN'.own _
 have hcc:Chg (fun x=>x=n\/x=n+96) w U W U':=(hc.mono fun x h=>.inr h).trans (hc2.mono fun x h=>.inl h)
 have kk (x:Nat) (h:x≠n/\x≠n+96):¬ (x=n\/x=n+96):=by rintro(e|e) <;> omega
 exact⟨⟨H.id,H.asked,⟨mv,pv,by rw[hW];exact hN'.set_ 9 v,hm.keep hcc (kk _ (by omega)),hp.keep hcc (kk _ (by omega))⟩,H.store.keep hcc fun x hx h=>by unfold ST at h;rcases hx with e|e <;> omega,H.lease.keep hcc (kk _ (by omega)),H.toks.keep hcc (kk _ (by omega)),hr.keep hc2 (by omega),H.reads.keep hcc (kk _ (by omega)),H.ring.keep hcc (kk _ (by omega))⟩,hcc.mono fun x h=>by rcases h with e|e <;> omega⟩
def AskK (N S T b:Nat)(x:PWho)(W:World):Prop:=
 W.cell? ⟨N,0,none⟩=some (.pointer (some ⟨S,0,none⟩))/\W.cell? ⟨N,4,none⟩=some (.pointer (some ⟨T,0,none⟩))/\W.cell? ⟨b,3,none⟩=some (.string x.key)
theorem AskK.of {W:World}{U:Own}{ts n N d k i b:Nat}{s:PNode}{h:Hd}{x:PWho}(H:NodeAt W U ts n N d k i s h){t:Nat}(hX:Has W U t b 106 (encW x).toArray):AskK N h.S h.T b x W:=by
 obtain⟨mv,pv,hNb,-,-⟩:=H.out.ex;exact⟨hNb.cell 0,hNb.cell 4,hX.cell 3⟩
theorem info212:(Tryz.prog.info? 212).map (fun i=>(i.zero.map Value.cells,i.size,i.bytes))=some (some #[.int .i64 0,.int .i64 0,.int .i64 0,.string ⟨#[]⟩,.int .i64 0,.int .i64 0,.int .i64 0],7,64):=by kernel_rfl
theorem ask121 (w:World)(U:Own)(ts n N d k i tk now:Nat)(s s':PNode)(h:Hd)(H:NodeAt w U ts n N d k i s h)(hk:ClockAt w U tk k now)(hf:Far ts n)(htk:¬ NT ts n tk)(x:PWho)(ha:s.ask? i now x=some s') :
 Calls Tryz.prog 121 #[.pointer (some ⟨N,0,none⟩),.agg (encW x).toArray] w fun e w'=>(∃ r,e=.returned r)/\∃ h' U',NodeAt w' U' ts n N d k i s' h'/\Chg (NT ts n) w U w' U':=by
 unfold PNode.ask? at ha
 split at ha
 case isFalse=>cases ha
 rename_i hg;simp only[Bool.and_eq_true,Bool.or_eq_true,decide_eq_true_eq]at hg;obtain⟨⟨hsm,hks⟩,hop⟩:=hg
 split at ha
 case h_1=>cases ha
 rename_i ns hring;have HS:=hid (PNode.small_of hsm);obtain⟨W0,hW0⟩:∃ W,W=w.alloc (.cells (encW x).toArray 106):=⟨_,rfl⟩
 have hB0:Blk W0 w.heap.size 106 (encW x).toArray:=by rw[hW0];exact Blk.new _ _ _
 have hc0:Chg (fun _=>False) w U W0 (ext U w (n+864)):=by rw[hW0];exact((Chg.refl _ _ _).alloc _).ext _
 have hN0:=H.keep hc0 hf.1 (fun _ h=>h.elim);have hk0:=hk.keep hc0 id;have hX0:Has W0 (ext U w (n+864)) (n+864) w.heap.size 106 (encW x).toArray:=⟨hB0,ext_new (Nat.le_refl _)⟩;generalize ext U w (n+864)=U0 at *
 have HA:Hid (∀ W,Below W0.heap.size W0 W->∃ U',NodeAt W U' ts n N d k i s h/\Has W U' (n+864) w.heap.size 106 (encW x).toArray/\ClockAt W U' tk k now/\Chg (fun _=>False) w U W U'):=hid fun W hb=>by
  have hc:Chg (fun _=>False) W0 U0 W (ext U0 W0 0):=Chg.of_below hb _;exact⟨_,hN0.keep hc hf.1 (fun _ h=>h.elim),hX0.keep hc id,hk0.keep hc id,hc0.trans hc⟩
 have hrg:=hN0.ring;rw[hring]at hrg;obtain⟨r,hrv,-,hok⟩:=hrg;have HOK:=hid hok
 have HSt:Hid (∀ W,Below W0.heap.size W0 W->AskS N w.heap.size h.rg x W):=hid fun W hb=>by
  obtain⟨U',a1,a2,-⟩:=HA.out W hb;obtain⟨mv,pv,hNb,-,-⟩:=a1.out.ex;exact⟨hNb.cell 3,a2.cell 3⟩
 have S0:=hid (HSt.out W0.drew (Below.refl _ W0).drew)
 have HOf:Hid (∀ W,Below W0.heap.size W0 W->Calls Tryz.prog 46 #[h.rg,.string x.key] W fun e w'=>e=.returned (.int .i64 (ownerK ns x.key:Int))/\Below W.heap.size W w'):=hid fun W hb=>by
  obtain⟨U',a1,-⟩:=HA.out W hb;have:=a1.ring;rw[hring]at this;obtain⟨r,e,h1,h2⟩:=this;rw[e];exact of46 W U' (n+768) r 1 x.key ns h1 h2 (by omega)
 have HKe:Hid (∀ W,Calls Tryz.prog 164 #[.string x.key] W fun e w'=>e=.returned (.bool (keyOk x.key))/\W=w'):=hid fun W=>key_any W x.key (by omega)
 have HTe:Hid (∀ W err,Below W0.heap.size W0 W->Calls Tryz.prog 112 #[.pointer (some ⟨N,0,none⟩),.agg (encW x).toArray,.int .i64 ((err:Nat):Int),.string ⟨#[]⟩,.bool false] W fun e w'=>(∃ r,e=.returned r)/\∃ h' U',NodeAt w' U' ts n N d k i (s.tell i x err ⟨#[]⟩ false) h'/\Chg (NT ts n) w U w' U'):=hid fun W err hb=>by
  obtain⟨U',a1,-,-,a4⟩:=HA.out W hb;refine(nodeTell W U' ts n N d k i s h a1 hf (by have:=HS.out.ms;omega) (by have:=HS.out.rs;omega) x err ⟨#[]⟩ false).mono ?_;rintro e w' ⟨hr,U2,c1,c2⟩;exact⟨hr,h,U2,c1,(a4.mono fun _ h=>h.elim).trans (c2.mono fun y hy=>.inr (by have:=hf.1;rcases hy with e|e|e <;> omega))⟩
 have HF:=hid hf;have HTK:=hid htk;clear htk;have HW:=hid hW0;have HR:=hid (And.intro hring hrv);have HKS:=hid hks;have HAs:=hid ha;have hjd:=H.id;clear H hk hc0 hN0 hk0 hB0 hX0 hf hW0 hring ha hrv hok hsm hks;obtain⟨hSp,hLp,hidp,hrg',hTp,hwv,hrv2,hA⟩:=h;dsimp only at *;subst hjd;go_enter Tryz.func121,Tryz.ntmps121
 go_wp2_with (first|rw[<- HW.out]|fail)
 refine wp_region_hl [] [0,1,2,3,4,5] (AskS N w.heap.size hrg' x) (by kernel_rfl) (by kernel_rfl) S0.out ?_
 iterate 5 (refine hd_take (v:=?_) rfl rfl (by kernel_rfl) (fun W hW=>?_) ?_;rotate_left;(obtain⟨r0,r1⟩:=hW;first|(go_simp;done)|(go_simp;with_reducible rfl)))
 refine hd_take (v:=?_) rfl rfl (by kernel_rfl) (fun W hW=>?_) (hd_end ?_)
 rotate_left
 ·obtain⟨r0,r1⟩:=hW;first|(go_simp;done)|(go_simp;with_reducible rfl)
 simp only[zqa,zqb,zqc,zqd,Nat.zero_add,Nat.reduceAdd]
 go_wp2_with (go_at_call 46;fail)
 refine(HOf.out _ (Below.refl _ W0).drew).mono ?_;rintro e w1 ⟨rfl,hb1⟩;have HB1:=hid ((Below.refl W0.heap.size W0).drew.trans (hb1.mono (Nat.le_refl _)));clear hb1;generalize how:ownerK ns x.key=ow at *;obtain⟨U1,a1,a2,a3,a4⟩:=HA.out w1 HB1.out;obtain⟨mv,pv,hNb,-,-⟩:=a1.out.ex;have b0:w1.cell? ⟨w.heap.size,0,none⟩=some (.int .i64 (x.node:Int)):=a2.cell 0;have b1:w1.cell? ⟨w.heap.size,1,none⟩=some (.int .i64 (x.id:Int)):=a2.cell 1;have b2:w1.cell? ⟨w.heap.size,2,none⟩=some (.int .i64 (x.op:Int)):=a2.cell 2;have b3:w1.cell? ⟨w.heap.size,3,none⟩=some (.string x.key):=a2.cell 3;have c2:w1.cell? ⟨N,2,none⟩=some (.int .i64 (hidp:Int)):=hNb.cell 2;have c3:w1.cell? ⟨N,3,none⟩=some hrg':=hNb.cell 3;have c11:w1.cell? ⟨N,11,none⟩=some (.int .i64 (hA:Int)):=hNb.cell 11;have f11:=hNb.frozen 11;have HA1:=hid (And.intro a1 (And.intro a2 (And.intro a3 a4)));have HOW:=hid how;clear a1 a2 a3 a4 hNb how;have hf3:=field45_1
 rcases hop with hop|hop
 ·have HOP:=hid hop
  have e1:((x.op:Int) != 1)=false:=by rw[bne_eq_false_iff_eq];omega
  have e3:((x.op:Int) == 2)=false:=by rw[beq_eq_false_iff_ne];omega
  clear hop
  go_wp2_with (go_at_call 164;fail)
  refine(HKe.out w1).mono ?_;rintro e w2 ⟨rfl,rfl⟩
  cases hkey:keyOk x.key with
  | false=>
   have hs:=HAs.out;rw[if_neg (by rw[hkey];simp)]at hs
   injection hs with hs
   subst hs;have HT:=hid (HTe.out w1 1 HB1.out);clear hkey
   go_wp2_with (go_at_call 112;fail)
   refine HT.out.mono ?_;rintro e w3 ⟨⟨v3,rfl⟩,h3,U3,k1,k2⟩;have HFF:=hid (And.intro k1 k2);clear k1 k2
   go_wp2
   refine bodyPost_end (by first|rfl|(simp[results];rfl)) rfl ?_;exact⟨⟨_,rfl⟩,h3,U3,HFF.out⟩
  | true=>
   have hs:=HAs.out;rw[if_pos hkey]at hs;rw[HR.out.2]at c3;have HKy:=hid hkey;clear hkey HAs
   by_cases how:ow=hidp
   ·rw[if_pos how]at hs
    have e5:((ow:Int) != (hidp:Int))=false:=by rw[bne_eq_false_iff_eq];omega
    have HSv:=hid (serves33 w1 U1 ts n N d k hidp tk now s _ HA1.out.1 HA1.out.2.2.1 ns HR.out.1 HS.out.f x.key (by have:=HKS.out;omega) HF.out.1);have HAs:=hid hs;clear how hs
    go_wp2_with (go_at_call 33;fail)
    refine HSv.out.mono ?_;rintro e w2 ⟨rfl,hb2⟩;have HB2:=hid (HB1.out.trans (hb2.mono HB1.out.size));obtain⟨U2,a1,a2,a3,a4⟩:=HA.out w2 HB2.out;obtain⟨mv2,pv2,hNb,-,-⟩:=a1.out.ex;have b0:w2.cell? ⟨w.heap.size,0,none⟩=some (.int .i64 (x.node:Int)):=a2.cell 0;have b1:w2.cell? ⟨w.heap.size,1,none⟩=some (.int .i64 (x.id:Int)):=a2.cell 1;have b2:w2.cell? ⟨w.heap.size,2,none⟩=some (.int .i64 (x.op:Int)):=a2.cell 2;have b3:w2.cell? ⟨w.heap.size,3,none⟩=some (.string x.key):=a2.cell 3;have c0:w2.cell? ⟨N,0,none⟩=some (.pointer (some ⟨hSp,0,none⟩)):=hNb.cell 0;have c4:w2.cell? ⟨N,4,none⟩=some (.pointer (some ⟨hTp,0,none⟩)):=hNb.cell 4;have HA2:=hid (And.intro a1 (And.intro a2 (And.intro a3 a4)));clear a1 a2 a3 a4 hNb hb2 HSv
    cases hsv:servesF s hidp now ns x.key with
    | false=>
     have hs:=HAs.out;rw[if_neg (by rw[hsv];simp)]at hs
     injection hs with hs
     subst hs;have HT:=hid (HTe.out w2 6 HB2.out);clear hsv HAs
     go_wp2_with (go_at_call 112;fail)
     refine HT.out.mono ?_;rintro e w3 ⟨⟨v3,rfl⟩,h3,U3,k1,k2⟩;have HFF:=hid (And.intro k1 k2);clear k1 k2
     go_wp2
     refine bodyPost_end (by first|rfl|(simp[results];rfl)) rfl ?_;exact⟨⟨_,rfl⟩,h3,U3,HFF.out⟩
    | true=>
     have hs:=HAs.out;rw[if_pos hsv]at hs;clear hsv HAs;rw[if_neg (by have:=HOP.out;omega)]at hs;obtain⟨rr,hrr,hs⟩:=Option.map_eq_some_iff.1 hs;have HG:=hid (get168 w2 U2 ts n N d k hidp tk now s _ HA2.out.1 HA2.out.2.2.1 HF.out (by have:=HS.out.ms;omega) (by have:=HS.out.rs;omega) (by have:=HS.out.reads;omega) (by have:=HS.out.toks;omega) x (by have:=HKS.out;omega) rr hrr);subst hs;clear hrr
     go_wp2_with (go_at_call 168;fail)
     refine HG.out.mono ?_;rintro e w3 ⟨⟨v3,rfl⟩,h3,U3,k1,k2⟩;have HFF:=hid (And.intro k1 ((HA2.out.2.2.2.mono fun _ h=>h.elim).trans (k2.mono fun y hy=>(show NT ts n y from .inr hy))));clear k1 k2
     go_wp2
     refine bodyPost_end (by first|rfl|(simp[results];rfl)) rfl ?_;exact⟨⟨_,rfl⟩,h3,U3,HFF.out⟩
   ·rw[if_neg how]at hs
    cases hs
 ·have HOP:=hid hop
  have e1:((x.op:Int) != 1)=true:=by simp;omega
  have e2:((x.op:Int) != 2)=false:=by rw[bne_eq_false_iff_eq];omega
  have e3:((x.op:Int) == 2)=true:=by rw[beq_iff_eq];omega
  clear hop
  go_wp2_with (go_at_call 164;fail)
  refine(HKe.out w1).mono ?_;rintro e w2 ⟨rfl,rfl⟩
  cases hkey:keyOk x.key with
  | false=>
   have hs:=HAs.out;rw[if_neg (by rw[hkey];simp)]at hs
   injection hs with hs
   subst hs;have HT:=hid (HTe.out w1 1 HB1.out);clear hkey
   go_wp2_with (go_at_call 112;fail)
   refine HT.out.mono ?_;rintro e w3 ⟨⟨v3,rfl⟩,h3,U3,k1,k2⟩;have HFF:=hid (And.intro k1 k2);clear k1 k2
   go_wp2
   refine bodyPost_end (by first|rfl|(simp[results];rfl)) rfl ?_;exact⟨⟨_,rfl⟩,h3,U3,HFF.out⟩
  | true=>
   have hs:=HAs.out;rw[if_pos hkey]at hs;rw[HR.out.2]at c3;have HKy:=hid hkey;clear hkey HAs
   by_cases how:ow=hidp
   ·rw[if_pos how]at hs
    have e5:((ow:Int) != (hidp:Int))=false:=by rw[bne_eq_false_iff_eq];omega
    have HSv:=hid (serves33 w1 U1 ts n N d k hidp tk now s _ HA1.out.1 HA1.out.2.2.1 ns HR.out.1 HS.out.f x.key (by have:=HKS.out;omega) HF.out.1);have HAs:=hid hs;clear how hs
    go_wp2_with (go_at_call 33;fail)
    refine HSv.out.mono ?_;rintro e w2 ⟨rfl,hb2⟩;have HB2:=hid (HB1.out.trans (hb2.mono HB1.out.size));obtain⟨U2,a1,a2,a3,a4⟩:=HA.out w2 HB2.out;obtain⟨mv2,pv2,hNb,-,-⟩:=a1.out.ex;have b0:w2.cell? ⟨w.heap.size,0,none⟩=some (.int .i64 (x.node:Int)):=a2.cell 0;have b1:w2.cell? ⟨w.heap.size,1,none⟩=some (.int .i64 (x.id:Int)):=a2.cell 1;have b2:w2.cell? ⟨w.heap.size,2,none⟩=some (.int .i64 (x.op:Int)):=a2.cell 2;have b3:w2.cell? ⟨w.heap.size,3,none⟩=some (.string x.key):=a2.cell 3;have c0:w2.cell? ⟨N,0,none⟩=some (.pointer (some ⟨hSp,0,none⟩)):=hNb.cell 0;have c4:w2.cell? ⟨N,4,none⟩=some (.pointer (some ⟨hTp,0,none⟩)):=hNb.cell 4;have HA2:=hid (And.intro a1 (And.intro a2 (And.intro a3 a4)));clear a1 a2 a3 a4 hNb hb2 HSv
    cases hsv:servesF s hidp now ns x.key with
    | false=>
     have hs:=HAs.out;rw[if_neg (by rw[hsv];simp)]at hs
     injection hs with hs
     subst hs;have HT:=hid (HTe.out w2 6 HB2.out);clear hsv HAs
     go_wp2_with (go_at_call 112;fail)
     refine HT.out.mono ?_;rintro e w3 ⟨⟨v3,rfl⟩,h3,U3,k1,k2⟩;have HFF:=hid (And.intro k1 k2);clear k1 k2
     go_wp2
     refine bodyPost_end (by first|rfl|(simp[results];rfl)) rfl ?_;exact⟨⟨_,rfl⟩,h3,U3,HFF.out⟩
    | true=>
     have hs:=HAs.out;rw[if_pos hsv]at hs;clear hsv HAs;rw[if_pos HOP.out]at hs;obtain⟨fs',hfs,hs⟩:=Option.map_eq_some_iff.1 hs;have HFS:=hid hfs;subst hs;clear hfs
     have S2:Hid (AskK N hSp hTp w.heap.size x w2.drew):=hid (by
      obtain⟨q1,q2,q3⟩:=AskK.of HA2.out.1 HA2.out.2.1
      exact⟨q1,q2,q3⟩)
     go_wp2_with fail
     refine wp_region_hl [6] [0,1,2,3,4,5,6] (AskK N hSp hTp w.heap.size x) (by kernel_rfl) (by kernel_rfl) S2.out ?_
     iterate 6 (refine hd_take (v:=?_) rfl rfl (by kernel_rfl) (fun W hW=>?_) ?_;rotate_left;(obtain⟨r0,r1,r2⟩:=hW;first|(go_simp;done)|(go_simp;with_reducible rfl)))
     have hn95:=HF.out.1;obtain⟨W3,hW3⟩:∃ W,W=(w2.alloc (.cells #[.string x.key] 9)).drew:=⟨_,rfl⟩
     have hc3:Chg (fun _=>False) w2 U2 W3 (ext U2 w2 (n+864)):=by rw[hW3];exact(((Chg.refl _ _ _).alloc _).drew).ext _
     have hN3:=HA2.out.1.keep hc3 HF.out.1 (fun _ h=>h.elim);have hX3:=HA2.out.2.1.keep hc3 id;have hK3:Has W3 (ext U2 w2 (n+864)) (n+864) w2.heap.size 9 #[.string x.key]:=⟨by rw[hW3];exact(Blk.new _ _ _).drew,ext_new (Nat.le_refl _)⟩;have S3:Hid (AskK N hSp hTp w.heap.size x W3):=hid (AskK.of hN3 hX3);have HTo:=hid (tokKill W3 (ext U2 w2 (n+864)) (n+672) hTp s.toks hN3.toks (by have:=HS.out.toks;omega) x.key w2.heap.size 0 1 (hK3.cell 0) (by rw[hK3.own];omega));have HN3:=hid hN3;have HX3:=hid hX3;have HC3:=hid hc3;have HW3:=hid hW3;clear hN3 hX3 hK3 hc3 hW3;refine hd_loud rfl rfl fun K hK=>?_;go_simp;rw[<- HW3.out];refine hK _ _ S3.out (hd_end ?_);clear hK;simp only[zqa,zqb,zqc,zqd,Nat.zero_add,Nat.reduceAdd]
     go_wp2_with (go_at_call 166;fail)
     refine HTo.out.mono ?_;rintro e w4 ⟨⟨v4,rfl⟩,ht4,hc4⟩;have hN4:=HN3.out.setToks HF.out ht4 hc4;have hX4:=HX3.out.keep hc4 (by omega);generalize ext U2 w2 (n+864)=U3 at *;have hc24:Chg (NN n) w U w4 U3:=((HA2.out.2.2.2.trans HC3.out).mono fun _ h=>h.elim).trans (hc4.mono fun y hy=>(show NN n y by unfold NN;omega))
     have S4:Hid (AskK N hSp hTp w.heap.size x w4.drew):=hid (by
      obtain⟨q1,q2,q3⟩:=AskK.of hN4 hX4
      exact⟨q1,q2,q3⟩)
     obtain⟨W5,hW5⟩:∃ W,W=(w4.alloc (.cells #[.string x.key] 9)).drew:=⟨_,rfl⟩
     have hc5:Chg (fun _=>False) w4 U3 W5 (ext U3 w4 (n+864)):=by rw[hW5];exact(((Chg.refl _ _ _).alloc _).drew).ext _
     have hN5:=hN4.keep hc5 HF.out.1 (fun _ h=>h.elim);have hX5:=hX4.keep hc5 id;have hK5:Has W5 (ext U3 w4 (n+864)) (n+864) w4.heap.size 9 #[.string x.key]:=⟨by rw[hW5];exact(Blk.new _ _ _).drew,ext_new (Nat.le_refl _)⟩;have S5:Hid (AskK N hSp hTp w.heap.size x W5):=hid (AskK.of hN5 hX5);have HKi:=hid (kill167 W5 (ext U3 w4 (n+864)) ts hSp d s.cnt s.tn s.fs fs' s.m x.key w4.heap.size 0 1 hN5.store HKy.out HS.out.cnt HFS.out (hK5.cell 0) ⟨hK5.lt,by rw[hK5.own];obtain⟨g1,g2,g3⟩:=HF.out;unfold ST;omega⟩);have HN5:=hid hN5;have HX5:=hid hX5;have HW5:=hid hW5;have HC5:=hid (hc24.trans (hc5.mono fun _ h=>h.elim));generalize hU5:ext U3 w4 (n+864)=U5 at HKi HN5 HX5 HC5;clear hN5 hX5 hK5 hc5 hW5 hc24 hN4 hX4 ht4 hc4 HTo HN3 HX3 HC3 HW3 hU5
     go_wp2_with fail
     refine wp_region_hl [6,7] [0,1,2,3,4,5,6,7,8,9,10,11] (AskK N hSp hTp w.heap.size x) (by kernel_rfl) (by kernel_rfl) S4.out ?_
     iterate 6 (refine hd_take (v:=?_) rfl rfl (by kernel_rfl) (fun W hW=>?_) ?_;rotate_left;(obtain⟨r0,r1,r2⟩:=hW;first|(go_simp;done)|(go_simp;with_reducible rfl)))
     refine hd_loud rfl rfl fun K hK=>?_;go_simp;rw[<- HW5.out];refine hK _ _ S5.out ?_;clear hK;refine hd_loud rfl rfl fun K hK=>?_;go_simp;refine HKi.out.mono ?_;rintro e w6 ⟨rfl,U6,hs6,hc6⟩;have hN6:=HN5.out.setStore HF.out hs6 hc6;have hX6:=HX5.out.keep hc6 (by obtain⟨g1,g2,g3⟩:=HF.out;unfold ST;omega);have S6:=hid (AskK.of hN6 hX6);have b0:w6.cell? ⟨w.heap.size,0,none⟩=some (.int .i64 (x.node:Int)):=hX6.cell 0;have b1:w6.cell? ⟨w.heap.size,1,none⟩=some (.int .i64 (x.id:Int)):=hX6.cell 1;have b2:w6.cell? ⟨w.heap.size,2,none⟩=some (.int .i64 (x.op:Int)):=hX6.cell 2;have b3:w6.cell? ⟨w.heap.size,3,none⟩=some (.string x.key):=hX6.cell 3;have HT:=hid (nodeTell w6 U6 ts n N d k hidp _ _ hN6 HF.out (by have:=HS.out.ms;dsimp only;omega) (by have:=HS.out.rs;dsimp only;omega) x 0 ⟨#[]⟩ false);have HC6:=hid ((HC5.out.mono fun y hy=>(show NT ts n y from .inr hy)).trans (hc6.mono fun y hy=>(show NT ts n y from .inl hy)));clear hN6 hX6 hs6 hc6;refine hK _ _ S6.out ?_;clear hK
     iterate 3 (refine hd_take (v:=?_) rfl rfl (by kernel_rfl) (fun W hW=>?_) ?_;rotate_left;(first|(go_simp;done)|(go_simp;with_reducible rfl)))
     refine hd_take (v:=?_) rfl rfl (by kernel_rfl) (fun W hW=>?_) (hd_end ?_)
     rotate_left
     ·first|(go_simp;done)|(go_simp;with_reducible rfl)
     simp only[zqa,zqb,zqc,zqd,Nat.zero_add,Nat.reduceAdd]
     go_wp2_with (go_at_call 112;fail)
     refine HT.out.mono ?_;rintro e w7 ⟨⟨v7,rfl⟩,U7,k1,k2⟩;have HFF:=hid (And.intro k1 (HC6.out.trans (k2.mono fun y hy=>(show NT ts n y from .inr (by have:=HF.out.1;rcases hy with e|e|e <;> omega)))));clear k1 k2
     go_wp2
     refine bodyPost_end (by first|rfl|(simp[results];rfl)) rfl ?_;exact⟨⟨_,rfl⟩,_,U7,HFF.out⟩
   ·rw[if_neg how]at hs
    cases hs
theorem owner_one (i h:Nat):owner [i] h=i:=by
 have hl:∀ p∈sortP (ptsAll [i]),p.2=i:=fun p hp=>by
  have:=(sortP_perm _).mem_iff.1 hp;simp[ptsAll,pts8]at this;obtain⟨k,_,rfl⟩:=this;rfl
 have hn:(sortP (ptsAll [i])).length=8:=by rw[(sortP_perm _).length_eq,ptsAll_len];rfl
 unfold owner;generalize sortP (ptsAll [i])=l at hl hn
 have ho:∀ l:List (Nat × Nat),(∀ p∈l,p.2=i)->∀ b,ownL h l=some b->b=i:=by
  intro l
  induction l with
  | nil=>intro _ b hb;cases hb
  | cons q l ih=>
   intro hl b hb;unfold ownL at hb
   split at hb
   ·injection hb with hb;rw[<- hb];exact hl q (by simp)
   ·exact ih (fun p hp=>hl p (by simp[hp])) b hb
 cases hc:ownL h l with
 | some b=>exact ho l hl b hc
 | none=>
  cases l with
  | nil=>simp at hn
  | cons q l=>exact hl q (by simp)
def StgS (N bl r i:Nat)(W:World):Prop:=W.cell? ⟨bl,0,none⟩=some (.pointer (some ⟨N,0,none⟩))/\W.cell? ⟨N,3,none⟩=some (.pointer (some ⟨r,0,none⟩))/\W.cell? ⟨N,2,none⟩=some (.int .i64 (i:Int))
theorem str240 (w:World)(N bl r i:Nat)(key:ByteArray)(h0:∀ W,Below w.heap.size w W->StgS N bl r i W)(hO:∀ W,Below w.heap.size w W->Calls Tryz.prog 46 #[.pointer (some ⟨r,0,none⟩),.string key] W fun e w'=>e=.returned (.int .i64 (i:Int))/\Below W.heap.size W w') :
 Calls Tryz.prog 240 #[.string key,.pointer (some ⟨bl,0,none⟩)] w fun e w'=>e=.returned (.bool false)/\Below w.heap.size w w':=by
 have H0:=hid h0;have HO:=hid hO;have S0:=hid (h0 w.drew (Below.refl _ w).drew);clear h0 hO;go_enter Tryz.func240,Tryz.ntmps240
 go_wp2_with fail
 refine wp_region_hl [5] [0,1,2,3,4,6,7,8,9,5] (StgS N bl r i) (by kernel_rfl) (by kernel_rfl) S0.out ?_
 iterate 9 (refine hd_take (v:=?_) rfl rfl (by kernel_rfl) (fun W hW=>?_) ?_;rotate_left;(obtain⟨r0,r1,r2⟩:=hW;first|(go_simp;done)|(go_simp;with_reducible rfl)))
 refine hd_loud rfl rfl fun K hK=>?_;go_simp;refine(HO.out w.drew (Below.refl _ w).drew).mono ?_;rintro e w1 ⟨rfl,hb⟩;have hb1:Below w.heap.size w w1:=(Below.refl _ w).drew.trans (hb.mono (Nat.le_refl _));have HB:=hid hb1;refine hK _ _ (H0.out w1 hb1) (hd_end ?_);clear hK hb hb1;simp only[zqa,zqb,zqc,zqd,Nat.zero_add,Nat.reduceAdd]
 go_wp2
 go_ret;exact⟨rfl,HB.out⟩
theorem drops196 (w:World)(U:Own)(ts n N d k i bl:Nat)(s:PNode)(h:Hd)(H:NodeAt w U ts n N d k i s h)(hle:(s.fs.pl.filter (·.has)).length<=12)
 (hq:(∃ p∈s.fs.pl,p.has=true)->∀ W,Below w.heap.size w W->∀ key:ByteArray,key.size<=9223372036854775807->Calls Tryz.prog 240 #[.string key,.pointer (some ⟨bl,0,none⟩)] W fun e w'=>e=.returned (.bool false)/\Below W.heap.size W w') :
 Calls Tryz.prog 196 #[.pointer (some ⟨N,0,none⟩),.func (.func 240) #[] #[.pointer (some ⟨bl,0,none⟩)]] w fun e w'=>(∃ r,e=.returned r)/\Below w.heap.size w w':=by
 obtain⟨mv,pv,hN,-,-⟩:=H.out.ex;obtain⟨c,j,kp,lf,lj,Z,hS,hF,-⟩:=H.store.ex;have c0:w.cell? ⟨N,0,none⟩=some (.pointer (some ⟨h.S,0,none⟩)):=hN.cell 0;have s0:w.cell? ⟨h.S,0,none⟩=some (.pointer (some ⟨c,0,none⟩)):=hS.cell 0;have HK:=hid (keys236 w U (ts+6) c d 162 129 1200 lf Z s.fs hF hle);have HQ:=hid hq;clear H hN hS hF hle hq;go_enter Tryz.func196,Tryz.ntmps196
 go_wp2_with (go_at_call 236;fail)
 refine HK.out.mono ?_;rintro e w1 ⟨v,U1,m,rfl,hm,hv,hc⟩;have HB:=hid hc.below
 have km:(m:Int)<=12:=by omega
 have k0:(0:Int)<=(m:Int):=by omega
 clear HK c0 s0
 rcases hv with ⟨rfl,rfl⟩|⟨y,g,cc,hy,rfl,hmc,hst⟩
 ·clear hc
  go_wp2
  go_loop [4,16] (fun l i=>l=.slice none 0 0/\i=.int .i64 0) (fun _ _=>0)
  case atStart=>exact⟨rfl,rfl⟩
  case round=>
   obtain⟨rfl,rfl⟩:=hrel
   go_wp2
   refine bodyPost_end (by first|rfl|(simp[results];rfl)) rfl ?_;exact⟨⟨_,rfl⟩,HB.out⟩
 ·have HC:Hid (∀ W,Below w1.heap.size w1 W->∀ j,j<m->∃ q:ByteArray,W.cell? ⟨g,j,none⟩=some (.string q)/\q.size<=9223372036854775807/\∃ p∈s.fs.pl,p.has=true):=hid fun W hb j hj=>by
   obtain⟨q,hq,hp⟩:=hst.get j hj;exact⟨q,(World.cell?_of_block (a:=⟨g,j,none⟩) (hb.block g (World.block_lt_of_cell? w1 ⟨g,j,none⟩ hq))).trans hq,hp⟩
  clear hc hst
  go_wp2
  go_loopw [4,16] (fun l i wr=>l=.slice none 0 0/\∃ j:Nat,j<=m/\i=.int .i64 (j:Int)/\Below w1.heap.size w1 wr) (fun _ i _=>m-(intOf i).toNat)
  case atStart=>exact⟨rfl,0,Nat.zero_le _,rfl,Below.refl _ _⟩
  case round=>
   obtain⟨rfl,j,hj,rfl,hb⟩:=hrel;have HW:=hid hb;clear hb
   by_cases hlt:j<m
   ·obtain⟨q,hq,hqs,hqp⟩:=HC.out wr HW.out j hlt
    have k1:(j:Int)<(m:Int):=by omega
    have k2:(0:Int)<=(j:Int):=by omega
    have HQ2:=hid (HQ.out hqp wr (HB.out.trans (HW.out.mono HB.out.size)) q hqs);clear hqs hqp
    go_wp2_with fail
    refine HQ2.out.mono ?_;rintro e w2 ⟨rfl,hb2⟩;have HW2:=hid (HW.out.trans (hb2.mono HW.out.size));clear hb2 hq HQ2
    go_wp2_with fail
    go_roundw
    case rel=>exact⟨rfl,j+1,by omega,by go_num,HW2.out⟩
    case measure=>simp[intOf];omega
   ·obtain rfl:j=m:=by omega
    go_wp2
    refine bodyPost_end (by first|rfl|(simp[results];rfl)) rfl ?_;exact⟨⟨_,rfl⟩,HB.out.trans (HW.out.mono HB.out.size)⟩
theorem strange203 (w:World)(U:Own)(ts n N d k i:Nat)(s:PNode)(h:Hd)(H:NodeAt w U ts n N d k i s h)(hn:n<95)(hle:(s.fs.pl.filter (·.has)).length<=12)(hq:(∀ p∈s.fs.pl,p.has=false)\/s.ring=some [i]) :
 Calls Tryz.prog 203 #[.pointer (some ⟨N,0,none⟩)] w fun e w'=>(∃ r,e=.returned r)/\∃ U',NodeAt w' U' ts n N d k i s h/\Chg (fun _=>False) w U w' U':=by
 have hc (W:World) (hb:Below w.heap.size w W):Chg (fun _=>False) w U W (ext U w 0):=Chg.of_below hb _;obtain⟨W0,hW0⟩:∃ W,W=w.alloc (.cells #[.pointer (some ⟨N,0,none⟩)] 41):=⟨_,rfl⟩
 have hB0:Blk W0 w.heap.size 41 #[.pointer (some ⟨N,0,none⟩)]:=by rw[hW0];exact Blk.new _ _ _
 have hb0:Below w.heap.size w W0:=by rw[hW0];exact(Below.refl _ w).alloc (Nat.le_refl _) _
 have hH0:=H.keep (hc W0 hb0) hn fun _ h=>h.elim;obtain⟨mv,pv,hN,-,-⟩:=hH0.out.ex;have c3:W0.cell? ⟨N,3,none⟩=some h.rg:=hN.cell 3;have b0:W0.cell? ⟨w.heap.size,0,none⟩=some (.pointer (some ⟨N,0,none⟩)):=hB0.cell 0;have hjd:=H.id
 have HD:Hid (∀ r,h.rg=.pointer (some ⟨r,0,none⟩)->Calls Tryz.prog 196 #[.pointer (some ⟨N,0,none⟩),.func (.func 240) #[] #[.pointer (some ⟨w.heap.size,0,none⟩)]] W0 fun e w'=>(∃ r,e=.returned r)/\Below W0.heap.size W0 w'):=hid fun r hr=>drops196 W0 _ ts n N d k i w.heap.size s h hH0 hle fun hh W hb key hk=>by
  have hns:s.ring=some [i]:=hq.elim (fun h0=>by obtain⟨p,hp,hp1⟩:=hh;rw[h0 p hp]at hp1;cases hp1) id;have hcW:Chg (fun _=>False) w U W (ext U w 0):=hc W (hb0.trans (hb.mono hb0.size));refine str240 W N w.heap.size r i key (fun W' hb'=>?_) (fun W' hb'=>?_)
  ·have hb2:=hb.trans (hb'.mono hb.size)
   have h1:=(hN.keep (Chg.of_below hb2 (U:=ext U w 0) 0:Chg (fun _=>False) _ _ _ _) id);have h2:=hB0.below hb2 hB0.lt;exact⟨h2.cell 0,by rw[<- hr];exact h1.cell 3,by rw[<- hjd];exact h1.cell 2⟩
  ·have hb2:=hb0.trans ((hb.trans (hb'.mono hb.size)).mono hb0.size)
   have hH2:=(H.keep (hc W' hb2) hn fun _ h=>h.elim).ring;rw[hns]at hH2;obtain⟨r',e,g1,g2⟩:=hH2;rw[hr]at e
   cases e
   have:=of46 W' _ (n+768) r 1 key [i] g1 g2 hk;rw[owner_one]at this;exact this
 have HE:Hid (∀ W,Below w.heap.size w W->∃ U',NodeAt W U' ts n N d k i s h/\Chg (fun _=>False) w U W U'):=hid fun W hb=>⟨_,H.keep (hc W hb) hn fun _ h=>h.elim,hc W hb⟩;have hmf:∀ fn first cap w,(Instr.makeFunc fn first cap).run Tryz.prog w=.ok (.func fn first cap) w:=fun _ _ _ _=>rfl;have HB0:=hid hb0;have HW:=hid hW0
 have hrg:h.rg=.pointer none\/∃ r,h.rg=.pointer (some ⟨r,0,none⟩):=by
  have:=H.ring
  cases hs:s.ring with
  | none=>rw[hs]at this;exact .inl this
  | some ns=>rw[hs]at this;obtain⟨r,e,-⟩:=this;exact .inr ⟨r,e⟩
 clear H hc hB0 hb0 hH0 hN hW0 hle hq hjd
 rcases hrg with e|⟨r,e⟩
 ·rw[e]at c3
  clear e;go_enter Tryz.func203,Tryz.ntmps203
  go_wp2_with (first|rw[<- HW.out]|fail)
  refine bodyPost_end (by first|rfl|(simp[results];rfl)) rfl ?_;exact⟨⟨_,rfl⟩,HE.out _ HB0.out⟩
 ·have HD2:=hid (HD.out r e)
  rw[e]at c3;clear e HD;go_enter Tryz.func203,Tryz.ntmps203
  go_wp2_with (first|rw[<- HW.out]|(go_at_call 196;fail))
  refine HD2.out.mono ?_;rintro e w1 ⟨⟨v,rfl⟩,hb1⟩;have HB1:=hid (HB0.out.trans (hb1.mono HB0.out.size));clear hb1
  go_wp2
  refine bodyPost_end (by first|rfl|(simp[results];rfl)) rfl ?_;exact⟨⟨_,rfl⟩,HE.out _ HB1.out⟩
theorem adoptSame (w:World)(U:Own)(ts n N d k i:Nat)(s:PNode)(h:Hd)(H:NodeAt w U ts n N d k i s h)(hf:Far ts n)(he:s.m.e=1)(ns:List Nat)(hr:s.ring=some ns)(v:Value) :
 Calls Tryz.prog 190 #[.pointer (some ⟨N,0,none⟩),.int .i64 1,v] w fun e w'=>(∃ r,e=.returned r)/\Below w.heap.size w w':=by
 obtain⟨mv,pv,hN,-,-⟩:=H.out.ex;obtain⟨c,j,kp,lf,lj,Z,hS,-,-,hK,-⟩:=H.store.ex;have hrg:=H.ring;rw[hr]at hrg;obtain⟨r,hrv,-,-⟩:=hrg;have c0:w.cell? ⟨N,0,none⟩=some (.pointer (some ⟨h.S,0,none⟩)):=hN.cell 0;have s2:w.cell? ⟨h.S,2,none⟩=some (.pointer (some ⟨kp,0,none⟩)):=hS.cell 2;have HM:=hid (meta48 w U (ts+1) kp d 0 s.tn s.m hK)
 have HN:Hid (∀ W,Below w.heap.size w W->W.cell? ⟨N,3,none⟩=some (.pointer (some ⟨r,0,none⟩))):=hid fun W hb=>by
  have:=(hN.keep (Chg.of_below hb (U:=U) 0:Chg (fun _=>False) w U W _) id).cell 3;rw[<- hrv];exact this
 rw[he,show((1:Nat):Int)=1 from rfl]at HM;clear H hN hS hK hf hr hrv he;go_enter Tryz.func190,Tryz.ntmps190
 go_wp2_with (go_at_call 48;fail)
 refine HM.out.mono ?_;rintro e w1 ⟨rfl,hb1⟩;have HB:=hid (hb1.alloc hb1.size (.cells #[.int .i64 (s.m.b:Int),.int .i64 1,.int .i64 (s.m.r:Int),.bool s.m.f] 45));have d3:=HN.out _ HB.out;clear hb1
 go_wp2
 refine bodyPost_ret (by first|exact results_none rfl _ _ _|exact Great.results_none rfl _ _ _|rfl) rfl ?_;exact⟨⟨_,rfl⟩,HB.out⟩
theorem adoptBack (w:World)(U:Own)(ts n N d k i tm:Nat)(s:PNode)(h:Hd)(H:NodeAt w U ts n N d k i s h)(hf:Far ts n)(he:s.m.e=1)(hr:s.ring=none)(hr0:s.m.r=0)(hle:(s.fs.pl.filter (·.has)).length<=12)
 (A:Option Addr)(c:Nat)(ns:List Nat)(hm:Rw w U tm 3 1 (.slice A ns.length c) ns.length (nnums ns))(htm:¬ NT ts n tm)(hok:NodesOk ns)(hns:ns=[i]) :
 Calls Tryz.prog 190 #[.pointer (some ⟨N,0,none⟩),.int .i64 1,.slice A ns.length c] w fun e w'=>(∃ r,e=.returned r)/\∃ h' U',NodeAt w' U' ts n N d k i { s with ring:=some ns } h'/\Chg (NT ts n) w U w' U':=by
 obtain⟨mv,pv,hN,-,-⟩:=H.out.ex;obtain⟨cf,j,kp,lf,lj,Z,hS,-,-,hK,-⟩:=H.store.ex;have c0:w.cell? ⟨N,0,none⟩=some (.pointer (some ⟨h.S,0,none⟩)):=hN.cell 0;have s2:w.cell? ⟨h.S,2,none⟩=some (.pointer (some ⟨kp,0,none⟩)):=hS.cell 2;have HM:=hid (meta48 w U (ts+1) kp d 0 s.tn s.m hK);rw[he,hr0,show((1:Nat):Int)=1 from rfl,show((0:Nat):Int)=0 from rfl]at HM;have hrg:=H.ring;rw[hr]at hrg;have hrgv:h.rg=.pointer none:=hrg
 have HN:Hid (∀ W,Below w.heap.size w W->W.cell? ⟨N,3,none⟩=some (.pointer none)):=hid fun W hb=>by
  have:=(hN.keep (Chg.of_below hb (U:=U) 0:Chg (fun _=>False) w U W _) id).cell 3;rw[<- hrgv];exact this
 have HH:=hid (And.intro H (And.intro hf (And.intro hle (And.intro hm (And.intro htm (And.intro hok hns))))));clear H hN hS hK hf hle hm htm hrg hrgv he hr hr0 hok hns;go_enter Tryz.func190,Tryz.ntmps190
 go_wp2_with (go_at_call 48;fail)
 refine HM.out.mono ?_;rintro e w1 ⟨rfl,hb1⟩;obtain⟨mb,hmb⟩:∃ mb,mb=w1.heap.size:=⟨_,rfl⟩;obtain⟨W1,hW1⟩:∃ W,W=w1.alloc (.cells #[.int .i64 (s.m.b:Int),.int .i64 1,.int .i64 0,.bool s.m.f] 45):=⟨_,rfl⟩
 have hbW:Below w.heap.size w W1:=by rw[hW1];exact hb1.alloc hb1.size _
 have hkb:Blk W1 mb 45 #[.int .i64 (s.m.b:Int),.int .i64 1,.int .i64 0,.bool s.m.f]:=by rw[hW1,hmb];exact Blk.new _ _ _
 have d3:=HN.out W1 hbW;have m1:W1.cell? ⟨mb,1,none⟩=some (.int .i64 1):=hkb.cell 1;have hcW:Chg (fun _=>False) w U W1 (ext U w (n+864)):=Chg.of_below hbW _
 have HRn:Hid (Calls Tryz.prog 195 #[.int .i64 1,.slice A ns.length c] W1 fun e w'=>∃ r U',e=.returned (.pointer (some ⟨r,0,none⟩))/\RingAt w' U' (n+768) r 1 ns/\W1.heap.size<=r/\Chg (fun _=>False) W1 (ext U w (n+864)) w' U'/\∀ k,W1.heap.size<=k->U' k=n+768):=hid (by
  obtain⟨A',c',e,q1,q2,q3⟩:=(HH.out.2.2.2.1.keep hcW id).nms
  injection e with e1 e2 e3
  subst e1;subst e3
  exact ring195 W1 _ (n+768) 1 A ns.length c ns q1 rfl HH.out.2.2.2.2.2.1 q3 (Nat.le_refl _) (by decide))
 have HK1:Hid (Has W1 (ext U w (n+864)) (n+864) mb 45 #[.int .i64 (s.m.b:Int),.int .i64 1,.int .i64 0,.bool s.m.f]):=hid ⟨hkb,ext_new (by rw[hmb];exact hb1.size)⟩;have HCW:=hid hcW;have HMB:=hid (And.intro hmb hW1);clear hbW hkb hcW hmb hW1 hb1 c0 s2 HM HN;generalize ext U w (n+864)=U1 at *
 go_wp2_with (first|rw[<- HMB.out.1,<- HMB.out.2]|(go_at_call 195;fail))
 refine HRn.out.mono ?_;rintro e w4 ⟨r,U4,rfl,hr4,-,hc4,-⟩;have hn4:=(HH.out.1.keep HCW.out HH.out.2.1.1 fun _ h=>h.elim);obtain⟨mv4,pv4,hN4,-,-⟩:=hn4.out.ex;have hN4':=hN4.keep hc4 id;have d3':=hN4'.cell 3;have f3:=hN4'.frozen 3;obtain⟨W4,hW4⟩:∃ W,W=w4.setCell ⟨N,3,none⟩ (.pointer (some ⟨r,0,none⟩)):=⟨_,rfl⟩;obtain⟨k1,k2⟩:=hn4.setRing HH.out.2.1 hr4 HH.out.2.2.2.2.2.1 hc4 hW4;have hm4:=HK1.out.keep k2 (by omega);have m2:W4.cell? ⟨mb,2,none⟩=some (.int .i64 0):=hm4.cell 2;have HW4:=hid hW4;have HSr:=hid (strange203 W4 U4 ts n N d k i _ _ k1 HH.out.2.1.1 HH.out.2.2.1 (.inr (by rw[HH.out.2.2.2.2.2.2])));have HC4:=hid (HCW.out.mono (T':=NT ts n) (fun _ h=>h.elim) |>.trans (k2.mono fun x hx=>.inr (by have:=HH.out.2.1.1;omega)));clear hn4 hN4 hN4' hW4 k1 k2 hm4 hr4 hc4 HRn HCW HK1
 go_wp2_with (first|rw[<- HW4.out]|(go_at_call 203;fail))
 refine HSr.out.mono ?_;rintro e w5 ⟨⟨v5,rfl⟩,U5,hn5,hc5⟩;have HF:=hid (And.intro hn5 (HC4.out.trans (hc5.mono fun _ h=>h.elim)));clear hn5 hc5
 go_wp2
 refine bodyPost_ret (by first|exact results_none rfl _ _ _|exact Great.results_none rfl _ _ _|rfl) rfl ?_;exact⟨⟨_,rfl⟩,_,U5,HF.out⟩
structure AoS (w:World)(U:Own)(ts n N d k i mb mm tm:Nat)(v:Value)(ns:List Nat)(s:PNode)(h:Hd)(W:World)(U':Own):Prop where
 node:NodeAt W U' ts n N d k i s h
 mta:Has W U' (n+864) mb 45 #[.int .i64 (mm:Int),.int .i64 0,.int .i64 0,.bool false]
 mem:Rw W U' tm 3 1 v ns.length (nnums ns)
 chg:Chg (NT ts n) w U W U'
theorem AoS.step {w W W2:World}{U U1 U2:Own}{ts n N d k i mb mm tm:Nat}{v:Value}{ns:List Nat}{s s2:PNode}{h h2:Hd}{T:Nat->Prop}(A:AoS w U ts n N d k i mb mm tm v ns s h W U1)(H:NodeAt W2 U2 ts n N d k i s2 h2)(hc:Chg T W U1 W2 U2)(h1:∀ x,T x->NT ts n x)(h2':¬ T (n+864))(h3:¬ T tm):AoS w U ts n N d k i mb mm tm v ns s2 h2 W2 U2:=
 ⟨H,A.mta.keep hc h2',A.mem.keep hc h3,A.chg.trans (hc.mono h1)⟩
theorem AoS.cells {w W:World}{U U1:Own}{ts n N d k i mb mm tm:Nat}{v:Value}{ns:List Nat}{s:PNode}{h:Hd}(A:AoS w U ts n N d k i mb mm tm v ns s h W U1):W.cell? ⟨N,0,none⟩=some (.pointer (some ⟨h.S,0,none⟩))/\W.cell? ⟨N,1,none⟩=some (.pointer (some ⟨h.L,0,none⟩))/\W.cell? ⟨N,4,none⟩=some (.pointer (some ⟨h.T,0,none⟩))/\W.cell? ⟨N,9,none⟩=some h.wv/\W.cell? ⟨mb,0,none⟩=some (.int .i64 (mm:Int))/\W.cell? ⟨mb,1,none⟩=some (.int .i64 0)/\W.cell? ⟨mb,2,none⟩=some (.int .i64 0):=by
 obtain⟨mv,pv,hN,-,-⟩:=A.node.out.ex;exact⟨hN.cell 0,hN.cell 1,hN.cell 4,hN.cell 9,A.mta.cell 0,A.mta.cell 1,A.mta.cell 2⟩
def SaveS (N S kp mb mm:Nat)(W:World):Prop:=W.cell? ⟨N,0,none⟩=some (.pointer (some ⟨S,0,none⟩))/\W.cell? ⟨S,2,none⟩=some (.pointer (some ⟨kp,0,none⟩))/\W.cell? ⟨mb,0,none⟩=some (.int .i64 (mm:Int))
def PNode.adopt (s:PNode)(fs:FQ)(ns:List Nat):PNode:=
 { s with fs:=fs,tn:=s.tn+1,m:=⟨s.m.b,1,0,false⟩,ring:=some ns,ep:=0,en:=0,top:=0,toks:=s.toks.map (hurt1 fun _=>true),waits:=[] }
theorem adoptNew (w:World)(U:Own)(ts n N d k i tm:Nat)(s:PNode)(h:Hd)(H:NodeAt w U ts n N d k i s h)(hf:Far ts n)(hb:s.m.b<64)(he:s.m.e=0)(hr:s.m.r=0)(hfr:s.m.f=false)(fs:FQ)(hw:fwipe 129 s.fs=some fs)(htn:s.tn+1<=1000000)(hwt:s.waits=[])(htk:s.toks.length<=900)
 (A:Option Addr)(c:Nat)(ns:List Nat)(hm:Rw w U tm 3 1 (.slice A ns.length c) ns.length (nnums ns))(htm:¬ NT ts n tm)(hok:NodesOk ns) :
 Calls Tryz.prog 190 #[.pointer (some ⟨N,0,none⟩),.int .i64 1,.slice A ns.length c] w fun e w'=>(∃ r,e=.returned r)/\∃ h' U',NodeAt w' U' ts n N d k i (s.adopt fs ns) h'/\Chg (NT ts n) w U w' U':=by
 have hf':=hf;obtain⟨hf1,hf2,hf3⟩:=hf'
 have HT (x:Nat) (hx:x=n\/x=n+576\/x=n+672\/x=n+96):NT ts n x/\x≠tm/\x≠n+864:=by
  refine⟨.inr (by omega),?_,by omega⟩;rintro rfl;exact htm (.inr (by omega))
 have HTS (x:Nat) (hx:ST ts x):NT ts n x/\x≠tm/\x≠n+864:=by
  refine⟨.inl hx,?_,?_⟩
  ·rintro rfl;exact htm (.inl hx)
  ·rintro rfl;unfold ST at hx;omega
 have HTM:=hid (And.intro HT HTS);clear HT HTS;obtain⟨mv,pv,hN,-,-⟩:=H.out.ex;obtain⟨cf,j,kp,lf,Z,hS,-,hK,-⟩:=H.store.flash;have c0:w.cell? ⟨N,0,none⟩=some (.pointer (some ⟨h.S,0,none⟩)):=hN.cell 0;have s2:w.cell? ⟨h.S,2,none⟩=some (.pointer (some ⟨kp,0,none⟩)):=hS.cell 2;have HM:=hid (meta48 w U (ts+1) kp d 0 s.tn s.m hK);rw[he,hr,hfr,show((0:Nat):Int)=0 from rfl]at HM;have HH:=hid H;have HMm:=hid hm;have HF:=hid hf;have HOK:=hid hok;have HW:=hid hw;have HB:=hid (And.intro hb (And.intro he (And.intro hr (And.intro hfr htn))));have HWT:=hid hwt;clear H hN hS hK hm hf hok hw hb he hr hfr htn hwt;go_enter Tryz.func190,Tryz.ntmps190
 go_wp2_with (go_at_call 48;fail)
 refine HM.out.mono ?_;rintro e w1 ⟨rfl,hb1⟩
 have A1:Hid (∀ W,W=w1.alloc (.cells #[.int .i64 (s.m.b:Int),.int .i64 0,.int .i64 0,.bool false] 45)->∃ U1,AoS w U ts n N d k i w1.heap.size s.m.b tm (.slice A ns.length c) ns s h W U1):=hid fun W hW=>by
  have hc1:Chg (fun _=>False) w U w1 (ext U w (n+864)):=Chg.of_below hb1 _
  have hc:Chg (fun _=>False) w U W (ext U w (n+864)):=by rw[hW];exact hc1.alloc _
  exact⟨_,HH.out.keep hc HF.out.1 (fun _ h=>h.elim),⟨by rw[hW];exact Blk.new _ _ _,ext_new hb1.size⟩,HMm.out.keep hc id,hc.mono fun _ h=>h.elim⟩
 obtain⟨W1,hW1⟩:∃ W,W=w1.alloc (.cells #[.int .i64 (s.m.b:Int),.int .i64 0,.int .i64 0,.bool false] 45):=⟨_,rfl⟩;obtain⟨U1,hA1⟩:=A1.out W1 hW1;obtain⟨c0',c1',c4',c9',m0,m1,m2⟩:=hA1.cells;obtain⟨cf1,j1,kp1,lf1,Z1,hS1,hF1,hK1,hD1,hfl1,-⟩:=hA1.node.store.flash;have s0:W1.cell? ⟨h.S,0,none⟩=some (.pointer (some ⟨cf1,0,none⟩)):=hS1.cell 0;have HWi:=hid ((wipe229 W1 U1 (ts+6) (ts+9) cf1 d 162 129 1200 lf1 s.fs fs Z1 Lasts hF1 hD1 (by omega) HW.out));have HSt:=hid hfl1;have HW1:=hid hW1;have HA1:=hid hA1;clear hW1 hA1 A1 hb1 HM c0 s2 hS1 hF1 hK1 hD1 hfl1
 go_wp2_with (first|rw[<- HW1.out]|(go_at_call 229;fail))
 refine HWi.out.mono ?_;rintro e w2 ⟨rfl,U2,Z2,hf2',hd2,hz2,hc2⟩;have hA2:=HA1.out.step (HA1.out.node.setStore HF.out (HSt.out fs Z2 w2 U2 hf2' hd2 hz2 hc2) (hc2.mono fun x hx=>by unfold FT at hx;unfold ST;omega)) hc2 (fun x hx=>(HTM.out.2 x (by unfold FT at hx;unfold ST;omega)).1) (fun hx=>(HTM.out.2 _ (by unfold FT at hx;unfold ST;omega)).2.2 rfl) (fun hx=>(HTM.out.2 _ (by unfold FT at hx;unfold ST;omega)).2.1 rfl);obtain⟨c0',c1',c4',c9',m0,m1,m2⟩:=hA2.cells;obtain⟨cf2,j2,kp2,lf2,Z2b,hS2,hF2,hK2,hD2,-,hkp2⟩:=hA2.node.store.flash;have S2:Hid (SaveS N h.S kp2 w1.heap.size s.m.b w2.drew):=hid ⟨c0',hS2.cell 2,m0⟩
 have HSv:Hid (∀ W,W=w2.drew->Calls Tryz.prog 192 #[.pointer (some ⟨kp2,0,none⟩),.agg #[.int .i64 (s.m.b:Int),.int .i64 1,.int .i64 0,.bool false]] W fun e w'=>e=.returned (.int .i64 0)/\∃ U' h',AoS w U ts n N d k i w1.heap.size s.m.b tm (.slice A ns.length c) ns { s with fs:=fs,tn:=s.tn+1,m:=⟨s.m.b,1,0,false⟩ } h' w' U'):=hid fun W hW=>by
  obtain⟨g1,g2,g3,g4,g5⟩:=HB.out;subst hW;have hcd:Chg (fun _=>False) w2 U2 w2.drew U2:=(Chg.refl _ _ _).drew;refine(save192 w2.drew U2 (ts+1) kp2 0 (ts+9) d 1200 s.tn s.m ⟨s.m.b,1,0,false⟩ Z2b Lasts (hK2.keep hcd id id) (hD2.keep hcd id) (by omega) (by omega) (by omega) (by omega) g5 (by simp[MS.ok];omega) ⟨Nat.le_refl _,by rw[g2];exact Nat.zero_le _⟩).mono ?_;rintro e w' ⟨rfl,U',k1,k2,k3⟩
  have hcc:=hcd.mono (fun _ h=>h.elim) |>.trans k3
  exact⟨rfl,U',h,hA2.step (hA2.node.setStore HF.out (hkp2 _ _ _ k1 k2 rfl hcc) (hcc.mono fun x hx=>by unfold ST;omega)) hcc (fun x hx=>(HTM.out.2 x (by unfold ST;omega)).1) (fun hx=>(HTM.out.2 _ (by unfold ST;omega)).2.2 rfl) (fun hx=>(HTM.out.2 _ (by unfold ST;omega)).2.1 rfl)⟩
 have HA2:=hid hA2;clear hA2 hS2 hF2 hK2 hD2 hkp2 HA1 HW1 HWi HSt hf2' hd2 hz2 hc2 s0
 go_wp2_with fail
 refine wp_region_hl [] [0,1,2,3,4,5,6,7,8,9,10] (SaveS N h.S kp2 w1.heap.size s.m.b) (by kernel_rfl) (by kernel_rfl) S2.out ?_
 iterate 10 (refine hd_take (v:=?_) rfl rfl (by kernel_rfl) (fun W hW=>?_) ?_;rotate_left;(obtain⟨r0,r1,r2⟩:=hW;first|(go_simp;done)|(go_simp;with_reducible rfl)))
 refine hd_take (v:=?_) rfl rfl (by kernel_rfl) (fun W hW=>?_) (hd_end ?_)
 rotate_left
 ·obtain⟨r0,r1,r2⟩:=hW;first|(go_simp;done)|(go_simp;with_reducible rfl)
 simp only[zqa,zqb,zqc,zqd,Nat.zero_add,Nat.reduceAdd]
 go_wp2_with (go_at_call 192;fail)
 refine(HSv.out _ rfl).mono ?_;rintro e w3 ⟨rfl,U3,h3,hA3⟩;obtain⟨c0',c1',c4',c9',m0,m1,m2⟩:=hA3.cells;have HA3:=hid hA3;clear hA3 HSv HA2 S2
 have HRn:Hid (Calls Tryz.prog 195 #[.int .i64 1,.slice A ns.length c] w3 fun e w'=>∃ r U',e=.returned (.pointer (some ⟨r,0,none⟩))/\RingAt w' U' (n+768) r 1 ns/\w3.heap.size<=r/\Chg (fun _=>False) w3 U3 w' U'/\∀ k,w3.heap.size<=k->U' k=n+768):=hid (by
  obtain⟨A',c',e,q1,q2,q3⟩:=HA3.out.mem.nms
  injection e with e1 e2 e3
  subst e1;subst e3
  exact ring195 w3 U3 (n+768) 1 A ns.length c ns q1 rfl HOK.out q3 (Nat.le_refl _) (by decide))
 go_wp2_with (go_at_call 195;fail)
 refine HRn.out.mono ?_;rintro e w4 ⟨r,U4,rfl,hr4,-,hc4,-⟩;obtain⟨mv4,pv4,hN4,-,-⟩:=HA3.out.node.out.ex;have hN4':=hN4.keep hc4 id;have d3:=hN4'.cell 3;have f3:=hN4'.frozen 3
 have HA4:Hid (∀ W,W=w4.setCell ⟨N,3,none⟩ (.pointer (some ⟨r,0,none⟩))->∃ h',AoS w U ts n N d k i w1.heap.size s.m.b tm (.slice A ns.length c) ns { s with fs:=fs,tn:=s.tn+1,m:=⟨s.m.b,1,0,false⟩,ring:=some ns } h' W U4):=hid fun W hW=>by
  obtain⟨k1,k2⟩:=HA3.out.node.setRing HF.out hr4 HOK.out hc4 hW;exact⟨_,HA3.out.step k1 k2 (fun x hx=>(HTM.out.1 x (.inl hx)).1) (fun hx=>(HTM.out.1 _ (.inl hx)).2.2 rfl) (fun hx=>(HTM.out.1 _ (.inl hx)).2.1 rfl)⟩
 clear hr4 hc4 hN4 hN4' HRn;obtain⟨W4,hW4⟩:∃ W,W=w4.setCell ⟨N,3,none⟩ (.pointer (some ⟨r,0,none⟩)):=⟨_,rfl⟩;obtain⟨h4,hA4⟩:=HA4.out W4 hW4;have HW4:=hid hW4
 have HZ:Hid (∀ p∈fs.pl,p.has=false):=hid (by
  have:=HW.out;unfold fwipe at this
  split at this
  ·injection this with this
   subst this;intro p hp;rw[List.eq_of_mem_replicate hp];rfl
  ·cases this)
 have HSr:=hid (strange203 W4 U4 ts n N d k i _ h4 hA4.node HF.out.1 (by rw[List.filter_eq_nil_iff.2 (fun p hp=>by rw[HZ.out p hp];decide)];exact Nat.zero_le _) (.inl HZ.out));have HA4':=hid hA4;clear hW4 hA4 HA4
 go_wp2_with (first|rw[<- HW4.out]|(go_at_call 203;fail))
 refine HSr.out.mono ?_;rintro e w5 ⟨⟨v5,rfl⟩,U5,hn5,hc5⟩;have hA5:=HA4'.out.step hn5 hc5 (fun _ h=>h.elim) id id;obtain⟨c0',c1',c4',c9',m0,m1,m2⟩:=hA5.cells;have HDr:=hid (drop230 w5 U5 (n+576) h4.L k _ _ _ hA5.node.lease);have HA5:=hid hA5;clear hA5 hn5 hc5 HSr HA4' HW4 HA3 d3 f3
 go_wp2_with (go_at_call 230;fail)
 refine HDr.out.mono ?_;rintro e w6 ⟨⟨v6,rfl⟩,hl6,hc6⟩;have hA6:=HA5.out.step (HA5.out.node.setLease HF.out hl6 hc6) hc6 (fun x hx=>(HTM.out.1 x (.inr (.inl hx))).1) (fun hx=>(HTM.out.1 _ (.inr (.inl hx))).2.2 rfl) (fun hx=>(HTM.out.1 _ (.inr (.inl hx))).2.1 rfl);obtain⟨c0',c1',c4',c9',m0,m1,m2⟩:=hA6.cells;have HCl:=hid (tokClear w6 U5 (n+672) h4.T s.toks hA6.node.toks (by omega));have HA6:=hid hA6;clear hA6 hl6 hc6 HDr HA5
 go_wp2_with (go_at_call 199;fail)
 refine HCl.out.mono ?_;rintro e w7 ⟨⟨v7,rfl⟩,hl7,hc7⟩;have hA7:=HA6.out.step (HA6.out.node.setToks HF.out hl7 hc7) hc7 (fun x hx=>(HTM.out.1 x (.inr (.inr (.inl hx)))).1) (fun hx=>(HTM.out.1 _ (.inr (.inr (.inl hx)))).2.2 rfl) (fun hx=>(HTM.out.1 _ (.inr (.inr (.inl hx)))).2.1 rfl);have HSi:=hid (still202 w7 U5 ts n N d k i _ h4 hA7.node HF.out);have HA7:=hid hA7;clear hA7 hl7 hc7 HCl HA6
 go_wp2_with (go_at_call 202;fail)
 refine HSi.out.mono ?_;rintro e w8 ⟨⟨v8,rfl⟩,hn8,hc8⟩;have hA8:=HA7.out.step hn8 hc8 (fun x hx=>(HTM.out.1 x (.inl hx)).1) (fun hx=>(HTM.out.1 _ (.inl hx)).2.2 rfl) (fun hx=>(HTM.out.1 _ (.inl hx)).2.1 rfl);obtain⟨c0',c1',c4',c9',m0,m1,m2⟩:=hA8.cells;have hwv:=hA8.node.waits;obtain⟨A9,d9,hwv9,-⟩:=hwv.slice;simp only[HWT.out,List.length_nil]at hwv9;rw[hwv9]at c9';obtain⟨mv9,pv9,hN9,-,-⟩:=hA8.node.out.ex;have f9:=hN9.frozen 9
 have HA9:Hid (∀ W,W=w8.setCell ⟨N,9,none⟩ (.slice none 0 0)->∃ h',NodeAt W U5 ts n N d k i (s.adopt fs ns) h'/\Chg (NT ts n) w U W U5):=hid fun W hW=>by
  obtain⟨k1,k2⟩:=hA8.node.setWaits HF.out (L:=[]) (Rw.nil w8 U5 (n+96) 212 7) (Chg.refl _ _ _) hW;exact⟨_,k1,hA8.chg.trans (k2.mono fun x hx=>(HTM.out.1 x (by omega)).1)⟩
 clear hA8 hn8 hc8 HSi HA7 hwv hwv9 hN9
 go_wp2
 go_loop [86] (fun i=>i=.int .i64 0) (fun _=>0)
 case atStart=>rfl
 case round=>
  subst hrel
  go_wp2
  refine bodyPost_end (by first|rfl|(simp[results];rfl)) rfl ?_;obtain⟨h',k1,k2⟩:=HA9.out _ rfl;exact⟨⟨_,rfl⟩,h',U5,k1,k2⟩
def PNode.take (s:PNode)(now tick:Nat):PNode:={ s with ep:=(takeF s.ep s.en s.top now tick 1).1,en:=(takeF s.ep s.en s.top now tick 1).2.1,top:=(takeF s.ep s.en s.top now tick 1).2.2 }
def Adopts (i:Nat)(s s1:PNode)(ns:List Nat):Prop:=
 (s.m.e=1/\(∃ ns',s.ring=some ns')/\s1=s)\/(s.m.e=1/\s.ring=none/\s.m.r=0/\(s.fs.pl.filter (·.has)).length<=12/\ns=[i]/\s1={ s with ring:=some ns })\/(s.m.b<64/\s.m.e=0/\s.m.r=0/\s.m.f=false/\s.tn+1<=1000000/\s.waits=[]/\s.toks.length<=900/\∃ fs,fwipe 129 s.fs=some fs/\s1=s.adopt fs ns)
theorem adopt190 (w:World)(U:Own)(ts n N d k i tm:Nat)(s s1:PNode)(h:Hd)(H:NodeAt w U ts n N d k i s h)(hf:Far ts n)(v:Value)(ns:List Nat)(hm:Rw w U tm 3 1 v ns.length (nnums ns))(htm:¬ NT ts n tm)(hok:NodesOk ns)(ha:Adopts i s s1 ns) :
 Calls Tryz.prog 190 #[.pointer (some ⟨N,0,none⟩),.int .i64 1,v] w fun e w'=>(∃ r,e=.returned r)/\∃ h' U',NodeAt w' U' ts n N d k i s1 h'/\Chg (NT ts n) w U w' U':=by
 rcases ha with ⟨he,⟨ns',hr⟩,rfl⟩|⟨he,hr,hr0,hle,hns,rfl⟩|⟨h1,h2,h3,h4,h5,h6,h7,fs,h8,rfl⟩
 ·refine(adoptSame w U ts n N d k i s1 h H hf he ns' hr v).mono ?_
  rintro e w' ⟨hr,hb⟩;have hc:Chg (fun _=>False) w U w' (ext U w 0):=Chg.of_below hb _;exact⟨hr,h,_,H.keep hc hf.1 (fun _ h=>h.elim),hc.mono fun _ h=>h.elim⟩
 ·obtain⟨A,c,rfl⟩:=hm.value
  exact adoptBack w U ts n N d k i tm s h H hf he hr hr0 hle A c ns hm htm hok hns
 ·obtain⟨A,c,rfl⟩:=hm.value
  exact adoptNew w U ts n N d k i tm s h H hf h1 h2 h3 h4 fs h8 h5 h6 h7 A c ns hm htm hok
def GrS (N L b:Nat)(m:PMsg)(W:World):Prop:=W.cell? ⟨N,1,none⟩=some (.pointer (some ⟨L,0,none⟩))/\W.cell? ⟨b,4,none⟩=some (.int .i64 (m.tick:Int))/\W.cell? ⟨b,3,none⟩=some (.int .i64 1)
theorem grant153 (w:World)(U:Own)(ts n N d k i tk now tm:Nat)(m:PMsg)(vm:Value)(s s1:PNode)(h:Hd)(H:NodeAt w U ts n N d k i s h)(hk:ClockAt w U tk k now)(hf:Far ts n)(htk:¬ NT ts n tk)(hm:Rw w U tm 3 1 vm m.members.length (nnums m.members))(htm:¬ NT ts n tm)(hok:NodesOk m.members)
 (hkd:m.kind=2)(hme:m.epoch=1)(hmt:m.tick<=now)(hnow:now<=1099511627776)(ha:Adopts i s s1 m.members)(htop:s1.top<=1) :
 Calls Tryz.prog 153 #[.pointer (some ⟨N,0,none⟩),.agg (msgV m vm).toArray] w fun e w'=>(∃ r,e=.returned r)/\∃ h' U',NodeAt w' U' ts n N d k i (s1.take now m.tick) h'/\Chg (NT ts n) w U w' U':=by
 have hee:s.m.e=0\/s.m.e=1:=by rcases ha with ⟨h,-⟩|⟨h,-⟩|⟨-,h,-⟩ <;> omega
 obtain⟨y,hy1,hy2⟩:=fresh95 w U
 have hy:¬ NT ts n y:=by obtain⟨g1,g2,g3⟩:=hf;unfold NT ST;omega
 obtain⟨W0,hW0⟩:∃ W,W=w.alloc (.cells (msgV m vm).toArray 182):=⟨_,rfl⟩
 have hc0:Chg (fun _=>False) w U W0 (ext U w y):=by rw[hW0];exact((Chg.refl _ _ _).alloc _).ext _
 have hB0:Has W0 (ext U w y) y w.heap.size 182 (msgV m vm).toArray:=⟨by rw[hW0];exact Blk.new _ _ _,ext_new (Nat.le_refl _)⟩;have hN0:=H.keep hc0 hf.1 fun _ h=>h.elim;have hk0:=hk.keep hc0 (fun h=>h);have hm0:=hm.keep hc0 (fun h=>h);generalize ext U w y=U0 at *;obtain⟨mv,pv,hNb,-,-⟩:=hN0.out.ex;obtain⟨cf,jf,kp,lf,lj,Z,hS,-,-,hK,-⟩:=hN0.store.ex;have c0:W0.cell? ⟨N,0,none⟩=some (.pointer (some ⟨h.S,0,none⟩)):=hNb.cell 0;have s2:W0.cell? ⟨h.S,2,none⟩=some (.pointer (some ⟨kp,0,none⟩)):=hS.cell 2;have HM:=hid (meta48 W0 U0 (ts+1) kp d 0 s.tn s.m hK)
 have HA:Hid (∀ W,Below W0.heap.size W0 W->∃ U',NodeAt W U' ts n N d k i s h/\Has W U' y w.heap.size 182 (msgV m vm).toArray/\ClockAt W U' tk k now/\Rw W U' tm 3 1 vm m.members.length (nnums m.members)/\Chg (fun _=>False) w U W U'):=hid fun W hb=>by
  have hc:Chg (fun _=>False) W0 U0 W (ext U0 W0 0):=Chg.of_below hb _;exact⟨_,hN0.keep hc hf.1 (fun _ h=>h.elim),hB0.keep hc (fun h=>h),hk0.keep hc (fun h=>h),hm0.keep hc (fun h=>h),hc0.trans hc⟩
 have HF:=hid (And.intro hf (And.intro hy (And.intro htk htm)));have HX:=hid (And.intro hok (And.intro ha (And.intro htop (And.intro hmt hnow))));have HW:=hid hW0;have HKd:=hid (And.intro hkd hme);have hf1:=field45_1;clear H hk hf htk hm htm hok ha htop hy1 hy2 hy hc0 hB0 hN0 hk0 hm0 hNb hS hK hW0 hkd hme hmt hnow
 rcases hee with hee|hee
 all_goals (
  rw[hee]at HM
  first|rw[show((0:Nat):Int)=0 from rfl]at HM|rw[show((1:Nat):Int)=1 from rfl]at HM
  clear hee;go_enter Tryz.func153,Tryz.ntmps153
  go_wp2_with (first|rw[<- HW.out]|(go_at_call 48;fail))
  refine HM.out.mono ?_;rintro e w1 ⟨rfl,hb1⟩;have HB1:=hid hb1;obtain⟨U1,a1,a2,a3,a4,a5⟩:=HA.out w1 hb1
  have b0:w1.cell? ⟨w.heap.size,0,none⟩=some (.int .i64 2):=by rw[a2.cell 0];simp[msgV,HKd.out.1]
  have b3:w1.cell? ⟨w.heap.size,3,none⟩=some (.int .i64 1):=by rw[a2.cell 3];simp[msgV,HKd.out.2]
  have b18:w1.cell? ⟨w.heap.size,18,none⟩=some vm:=by rw[a2.cell 18];rfl
  have HAd:=hid (adopt190 w1 U1 ts n N d k i tm s s1 h a1 HF.out.1 vm m.members a4 HF.out.2.2.2 HX.out.1 HX.out.2.1);have HB2:=hid a2;have HK2:=hid a3;have HC2:=hid a5;clear a1 a2 a3 a4 a5 hb1 HM
  go_wp2_with (go_at_call 190;fail)
  refine HAd.out.mono ?_;rintro e w2 ⟨⟨r,rfl⟩,h2,U2,hn2,hc2⟩;have hB2:=HB2.out.keep hc2 HF.out.2.1;have hk2:=HK2.out.keep hc2 HF.out.2.2.1
  have b0:w2.cell? ⟨w.heap.size,0,none⟩=some (.int .i64 2):=by rw[hB2.cell 0];simp[msgV,HKd.out.1]
  have b3:w2.cell? ⟨w.heap.size,3,none⟩=some (.int .i64 1):=by rw[hB2.cell 3];simp[msgV,HKd.out.2]
  have b4:w2.cell? ⟨w.heap.size,4,none⟩=some (.int .i64 (m.tick:Int)):=by rw[hB2.cell 4];rfl
  obtain⟨mv2,pv2,hNb2,-,-⟩:=hn2.out.ex;have hcd:Chg (fun _=>False) w2 U2 w2.drew U2:=(Chg.refl _ _ _).drew;have S2:Hid (GrS N h2.L w.heap.size m w2.drew):=hid ⟨hNb2.cell 1,b4,b3⟩;have HTk:=hid (take191 w2.drew U2 (n+576) h2.L k s1.ep s1.en s1.top tk now m.tick 1 (hn2.lease.keep hcd (fun h=>h)) (hk2.keep hcd (fun h=>h)) (Nat.le_refl _) HX.out.2.2.1 HX.out.2.2.2.1 HX.out.2.2.2.2);have HN2:=hid hn2;have HC3:=hid ((HC2.out.mono fun _ h=>h.elim).trans hc2);clear hn2 hc2 hB2 hk2 hNb2 hcd HAd HC2 HB2 HK2
  go_wp2_with fail
  refine wp_region_hl [] [0,1,2,3,4,5,6,7] (GrS N h2.L w.heap.size m) (by kernel_rfl) (by kernel_rfl) S2.out ?_
  iterate 7 (refine hd_take (v:=?_) rfl rfl (by kernel_rfl) (fun W hW=>?_) ?_;rotate_left;(obtain⟨r0,r1,r2⟩:=hW;first|(go_simp;done)|(go_simp;with_reducible rfl)))
  refine hd_take (v:=?_) rfl rfl (by kernel_rfl) (fun W hW=>?_) (hd_end ?_)
  rotate_left
  ·obtain⟨r0,r1,r2⟩:=hW;first|(go_simp;done)|(go_simp;with_reducible rfl)
  simp only[zqa,zqb,zqc,zqd,Nat.zero_add,Nat.reduceAdd]
  go_wp2_with (go_at_call 191;fail)
  refine HTk.out.mono ?_;rintro e w3 ⟨⟨bb,rfl⟩,hl3,hc3⟩
  have HFF:Hid (NodeAt w3 U2 ts n N d k i (s1.take now m.tick) h2/\Chg (NT ts n) w U w3 U2):=hid (by
   have hcc:=((Chg.refl (· = n+576) w2 U2).drew).trans hc3
   exact⟨HN2.out.setLease HF.out.1 hl3 hcc,HC3.out.trans (hcc.mono fun x hx=>.inr (by have:=HF.out.1.1;omega))⟩)
  clear hl3 hc3
  go_wp2
  refine bodyPost_end (by first|rfl|(simp[results];rfl)) rfl ?_
  exact⟨⟨_,rfl⟩,h2,U2,HFF.out⟩)
end Go.Proofs.Ytlhekbjidppijaa
