/- Contracts of what TopFall reaches: what each function returns and leaves in memory. Conditions: as named. -/
import Derived.Deep.DeepCutAuto
import Derived.Test.YtlhekbjidppijaaGreatMAP
set_option linter.unusedVariables false
set_option linter.unusedSimpArgs false
set_option maxRecDepth 20000
set_option maxHeartbeats 8000000
namespace Go.Proofs.Ytlhekbjidppijaa
open Lib (hid)
open Go.RowKit
def putN (pl:List Place)(n used:Nat)(key:ByteArray)(pos:Nat):Option (List Place × Nat × Nat):=
 if pl.length<=2*used then none else match findK pl key with
 | (some i,_)=>match pl[i]? with
  | none=>none
  | some p=>some (pl.set i ⟨p.key,pos,p.has,p.gone⟩,n,used)
 | (none,some f)=>match pl[f]? with
  | none=>none
  | some p=>some (pl.set f ⟨key,pos,true,false⟩,n+1,if p.gone then used else used+1)
 | (none,none)=>none
theorem below_of_drew {w w':World}{m:Nat}(h:Below (w.drewN m).heap.size (w.drewN m) w'):Below w.heap.size w w':=⟨h.os,h.tape,h.output,h.size,h.block⟩
theorem put162x (w:World)(U0 U:Own)(t x n0 used0:Nat)(pl0:List Place)(n used n' used' pos:Nat)(pl pl':List Place)(key:ByteArray)(h0:IndexAt w U0 t x pl0 n0 used0)(hks:key.size<=9223372036854775807)
 (hg:(pl0.length<=2*used0/\∀ k,Calls Tryz.prog 215 #[.pointer (some ⟨x,0,none⟩)] (w.drewN k) fun e w'=>(∃ v,e=.returned v)/\IndexAt w' U t x pl n used/\Chg (· = t) w U0 w' U)\/(¬ pl0.length<=2*used0/\U=U0/\pl=pl0/\n=n0/\used=used0))
 (hput:putN pl n used key pos=some (pl',n',used'))(hpos:1<=pos)(hps:pos<=1000000)(hn9:n<1000000) :
 Calls Tryz.prog 162 #[.pointer (some ⟨x,0,none⟩),.string key,.int .i64 (pos:Int)] w fun e w'=>(∃ v,e=.returned v)/\IndexAt w' U t x pl' n' used'/\Chg (· = t) w U0 w' U:=by
 obtain⟨T0,g1,-,-,-⟩:=h0.cells;have b0:w.cell? ⟨x,0,none⟩=some (.slice (some ⟨T0,0,none⟩) pl0.length pl0.length):=g1.cell 0;have b2:w.cell? ⟨x,2,none⟩=some (.int .i64 (used0:Int)):=g1.cell 2
 have u1:(used0:Int)<=1000000:=by have:=h0.sm;omega
 have u0:(0:Int)<=(used0:Int):=by omega
 have H0:=hid h0;have HG:=hid hg;have HPUT:=hid (And.intro hput (And.intro hpos (And.intro hps (And.intro hn9 hks))));clear h0 hg hput hpos hps hn9 hks g1;go_enter Tryz.func162,Tryz.ntmps162
 go_wp2_with fail
 go_quiet (fail)
 go_upto_if 22 with fail
 go_cut [] (fun wx=>IndexAt wx U t x pl n used/\Chg (· = t) w U0 wx U)
 case first=>
  rcases HG.out with ⟨hu,hc⟩|⟨hu,e1,e2,e3,e4⟩
  ·have hu':decide ((pl0.length:Int)<=2*(used0:Int))=true:=by rw[decide_eq_true_iff];omega
   have HC:=hid hc;clear hu hc;rw[hu']
   go_wp2_with fail
   refine(HC.out _).mono ?_;rintro e w2 ⟨⟨v2,rfl⟩,hi2,hc2⟩;have H2:=hid (And.intro hi2 hc2);clear hi2 hc2
   go_wp2_with fail
   go_meet
   exact H2.out
  ·have hu':decide ((pl0.length:Int)<=2*(used0:Int))=false:=by rw[decide_eq_false_iff_not];omega
   have HE:=hid (And.intro e1 (And.intro e2 (And.intro e3 e4)));clear hu e1 e2 e3 e4;rw[hu']
   go_wp2_with fail
   go_meet
   obtain⟨rfl,rfl,rfl,rfl⟩:=HE.out;exact⟨H0.out.keep ((Chg.refl (fun _=>False) w U).drewN _) id,(Chg.refl _ w U).drewN _⟩
 case rest=>
  obtain⟨h,hch⟩:=hcut;have HCH:=hid hch;obtain⟨hput,hpos,hps,hn9,hks⟩:=HPUT.out;clear hch HG HPUT H0 b0 b2 u0 u1
  have HF:Hid (∀ m,Calls Tryz.prog 216 #[.pointer (some ⟨x,0,none⟩),.string key] (wc.drewN m) fun e w'=>e=.returned (.tuple #[.int .i64 (oi (findK pl key).1),.int .i64 (oi (findK pl key).2)])/\Below wc.heap.size wc w'):=hid fun m=>by
   refine(find216 (wc.drewN m) U t x n used pl key (h.keep ((Chg.refl (fun _=>False) wc U).drewN m) id) hks).mono ?_;rintro e w' ⟨rfl,hb⟩;exact⟨rfl,below_of_drew hb⟩
  have hl:=findK_lt pl key (by have:=h.len;omega);unfold putN at hput
  split at hput
  ·cases hput
  rename_i hus;generalize findK pl key=fk at *;obtain⟨at_,free⟩:=fk;dsimp only at HF hl hput;obtain⟨T,h1,h2,hne,hc⟩:=h.cells;have HI:=hid h;have HC1:Hid (∀ W,Below wc.heap.size wc W->Has W U t x 321 #[.slice (some ⟨T,0,none⟩) pl.length pl.length,.int .i64 (n:Int),.int .i64 (used:Int)]/\Has W U t T 325 (plc pl).toArray):=hid fun W hb=>⟨h1.keep (T:=fun _=>False) (Chg.same_own (U:=U) hb) id,h2.keep (T:=fun _=>False) (Chg.same_own (U:=U) hb) id⟩;have b0:wc.cell? ⟨x,0,none⟩=some (.slice (some ⟨T,0,none⟩) pl.length pl.length):=h1.cell 0;have b2:wc.cell? ⟨x,2,none⟩=some (.int .i64 (used:Int)):=h1.cell 2
  have u1:(used:Int)<=23:=by have:=h.len;omega
  have u0:(0:Int)<=(used:Int):=by omega
  have u2:decide ((pl.length:Int)<=2*(used:Int))=false:=by rw[decide_eq_false_iff_not];omega
  have u6:¬ pl.length<=2*used:=by omega
  have u3:(pos:Int)<=1000000:=by omega
  have u4:(n:Int)<1000000:=by omega
  have u5:(0:Int)<=(n:Int):=by omega
  have hne':=Ne.symm hne;have HPOS:=hid hpos
  cases at_ with
  | some i=>
   generalize oi free=fv at HF;have hi:i<pl.length:=hl.1 i rfl;obtain⟨p,hp⟩:∃ p,pl[i]? = some p:=⟨_,List.getElem?_eq_getElem hi⟩;simp only[hp,Option.some.injEq,Prod.mk.injEq]at hput;obtain⟨rfl,rfl,rfl⟩:=hput;have HPC:=hid (hc i p hp);have HPI:=hid hp
   have kneg:¬ ((i:Int)<0):=by omega
   have k1:(0:Int)<=(i:Int):=by omega
   have k2:(i:Int)<(pl.length:Int):=by omega
   clear h h1 h2 hc hl hp hpos hks
   go_wp2_with fail
   refine(HF.out 0).mono ?_;rintro e w1 ⟨rfl,hb⟩;have HB:=hid hb;obtain⟨c1,c2⟩:=HC1.out w1 hb;have d0:=c1.cell 0;have d4:=c2.frozen (i*4+1);obtain⟨e0,e1,e2,e3⟩:=HPC.out w1 hb;have HC3:=hid c1;have HC4:=hid c2;clear hb HF HC1 HPC c1 c2 b0 b2;simp only[oi]
   go_wp2
   go_ret;have hh:=HI.out;have hpi:=HPI.out;refine⟨⟨_,rfl⟩,⟨⟨T,by rw[List.length_set];exact HC3.out.far (p:=⟨T,_,none⟩) hne _,?_⟩,by rw[List.length_set];exact hh.len,fun q hq=>?_,hh.sm⟩,?_⟩
   ·have h5:=HC4.out.set_ (i*4+1) (.int .i64 (pos:Int))
    have hil:i<pl.length:=hi
    have e6:((plc pl).set (i*4+1) (.int .i64 (pos:Int)))=plc (pl.set i ⟨p.key,pos,p.has,p.gone⟩):=by
     rw[plc_set pl i hil p ⟨p.key,pos,p.has,p.gone⟩ hpi];have g0:=plc_get pl i p hpi 0 (by decide);have g2:=plc_get pl i p hpi 2 (by decide);have g3:=plc_get pl i p hpi 3 (by decide);simp only[Place.cells,List.getElem?_cons_zero,List.getElem?_cons_succ,Nat.add_zero]at g0 g2 g3;refine List.ext_getElem? fun k=>?_;simp only[List.getElem?_set,List.length_set];have:=plc_length pl
     by_cases q3:i*4+3=k
     ·subst q3;simp[g3];omega
     ·by_cases q2:i*4+2=k
      ·subst q2;simp[g2];omega
      ·by_cases q0:i*4=k
       ·subst q0;simp[g0];omega
       ·simp[q3,q2,q0]
    rw[<- e6]
    simpa using h5
   ·rcases List.mem_or_eq_of_mem_set hq with hq|rfl
    ·exact hh.pos q hq
    ·intro _;exact HPOS.out
   ·exact HCH.out.trans <| ((Chg.same_own HB.out).mono fun _ e=>e.elim).setCell (p:=⟨T,_,none⟩) HC4.out.own _
  | none=>
   cases free with
   | none=>cases hput
   | some f=>
    have hi:f<pl.length:=hl.2 f rfl;obtain⟨p,hp⟩:∃ p,pl[f]? = some p:=⟨_,List.getElem?_eq_getElem hi⟩;simp only[hp,Option.some.injEq,Prod.mk.injEq]at hput;obtain⟨rfl,rfl,hus'⟩:=hput;have HPC:=hid (hc f p hp);have HUS:=hid hus'
    have kneg:¬ ((f:Int)<0):=by omega
    have k1:(0:Int)<=(f:Int):=by omega
    have k2:(f:Int)<(pl.length:Int):=by omega
    clear h h1 h2 hc hl hp hpos hks hus'
    cases hg:p.gone with
    | true=>
     go_wp2_with fail
     refine(HF.out 0).mono ?_;rintro e w1 ⟨rfl,hb⟩;have HB:=hid hb;obtain⟨c1,c2⟩:=HC1.out w1 hb;have d0:=c1.cell 0;have d1:=c1.cell 1;have d2:=c1.frozen 1;have d3:=c2.frozen (f*4);have d4:=c2.frozen (f*4+1);have d5:=c2.frozen (f*4+2);have d6:=c2.frozen (f*4+3);obtain⟨e0,e1,e2,e3⟩:=HPC.out w1 hb;rw[hg]at e3;have HC3:=hid c1;have HC4:=hid c2;clear hb HF HC1 HPC c1 c2 b0 b2;simp only[oi]
     go_wp2
     go_ret;have hh:=HI.out
     obtain rfl:used=used':=by have:=HUS.out;rw[hg]at this;simpa using this
     refine⟨⟨_,rfl⟩,⟨⟨T,?_,?_⟩,by rw[List.length_set];exact hh.len,fun q hq=>?_,by have:=hh.sm;omega⟩,?_⟩
     ·have:=(HC3.out.placeFar (i:=f) hne (.string key) (.int .i64 (pos:Int)) (.bool true) (.bool false)).set_ 1 (.int .i64 ((n:Int)+1))
      simpa using this
     ·exact(HC4.out.place f hi ⟨key,pos,true,false⟩).far (p:=⟨x,1,none⟩) hne' _
     ·rcases List.mem_or_eq_of_mem_set hq with hq|rfl
      ·exact hh.pos q hq
      ·intro _;exact HPOS.out
     ·exact HCH.out.trans <| (((Chg.same_own HB.out).mono fun _ e=>e.elim).place HC4.out.own _ _ _ _).setCell (p:=⟨x,1,none⟩) HC3.out.own _
    | false=>
     go_wp2_with fail
     refine(HF.out 0).mono ?_;rintro e w1 ⟨rfl,hb⟩;have HB:=hid hb;obtain⟨c1,c2⟩:=HC1.out w1 hb;have d0:=c1.cell 0;have d1:=c1.cell 1;have d2:=c1.frozen 1;have d7:=c1.cell 2;have d8:=c1.frozen 2;have d3:=c2.frozen (f*4);have d4:=c2.frozen (f*4+1);have d5:=c2.frozen (f*4+2);have d6:=c2.frozen (f*4+3);obtain⟨e0,e1,e2,e3⟩:=HPC.out w1 hb;rw[hg]at e3;have HC3:=hid c1;have HC4:=hid c2;clear hb HF HC1 HPC c1 c2 b0 b2;simp only[oi]
     go_wp2
     go_ret;have hh:=HI.out
     obtain rfl:used+1=used':=by have:=HUS.out;rw[hg]at this;simpa using this
     refine⟨⟨_,rfl⟩,⟨⟨T,?_,?_⟩,by rw[List.length_set];exact hh.len,fun q hq=>?_,by have:=hh.sm;omega⟩,?_⟩
     ·have:=((HC3.out.set_ 2 (.int .i64 ((used:Int)+1))).placeFar (i:=f) hne (.string key) (.int .i64 (pos:Int)) (.bool true) (.bool false)).set_ 1 (.int .i64 ((n:Int)+1))
      simpa using this
     ·exact((HC4.out.far (p:=⟨x,2,none⟩) hne' _).place f hi ⟨key,pos,true,false⟩).far (p:=⟨x,1,none⟩) hne' _
     ·rcases List.mem_or_eq_of_mem_set hq with hq|rfl
      ·exact hh.pos q hq
      ·intro _;exact HPOS.out
     ·exact HCH.out.trans <| ((((Chg.same_own HB.out).mono fun _ e=>e.elim).setCell (p:=⟨x,2,none⟩) HC3.out.own _).place HC4.out.own _ _ _ _).setCell (p:=⟨x,1,none⟩) HC3.out.own _
theorem putn162 (w:World)(U:Own)(t x n used n' used' pos:Nat)(pl pl':List Place)(key:ByteArray)(h:IndexAt w U t x pl n used)(hks:key.size<=9223372036854775807)(hput:putN pl n used key pos=some (pl',n',used'))(hpos:1<=pos)(hps:pos<=1000000)(hn9:n<1000000) :
 Calls Tryz.prog 162 #[.pointer (some ⟨x,0,none⟩),.string key,.int .i64 (pos:Int)] w fun e w'=>(∃ v,e=.returned v)/\IndexAt w' U t x pl' n' used'/\Chg (· = t) w U w' U:=
 put162x w U U t x n used pl n used n' used' pos pl pl' key h hks (.inr ⟨(fun h=>by unfold putN at hput;rw[if_pos h]at hput;cases hput),rfl,rfl,rfl,rfl⟩) hput hpos hps hn9
theorem below212 (w:World)(U:Own)(t x n used:Nat)(pl:List Place)(h:IndexAt w U t x pl n used) :
 Calls Tryz.prog 212 #[.pointer (some ⟨x,0,none⟩),.int .i64 1] w fun e w'=>e=.returned (.int .i64 0)/\IndexAt w' U t x pl n used/\Chg (· = t) w U w' U:=by
 obtain⟨T,h1,h2,hne,hc⟩:=h.cells;have HI:=hid h;have HC1:Hid (∀ W,Below w.heap.size w W->Has W U t x 321 #[.slice (some ⟨T,0,none⟩) pl.length pl.length,.int .i64 (n:Int),.int .i64 (used:Int)]):=hid fun W hb=>h1.keep (T:=fun _=>False) (Chg.same_own (U:=U) hb) id;have HPC:=hid hc;have b0:w.cell? ⟨x,0,none⟩=some (.slice (some ⟨T,0,none⟩) pl.length pl.length):=h1.cell 0;have HW:Hid (IntKind.i64.wrap (n:Int)=(n:Int)):=hid (by have:=h.sm;exact IntWalk.i64_in _ ⟨by omega,by omega⟩)
 have u5:(0:Int)<=(n:Int):=by omega
 have u6:(n:Int)<=1000000:=by have:=h.sm;omega
 have hl32:(pl.length:Int)<=48:=by have:=h.len;omega
 clear h h1 h2 hc;go_enter Tryz.func212,Tryz.ntmps212
 go_wp2
 go_loopw [5,15] (fun s5 s15 wr=>∃ k:Nat,k<=pl.length/\s5=.int .i64 0/\s15=.int .i64 (k:Int)/\Below w.heap.size w wr) (fun _ s _=>pl.length-(intOf s).toNat)
 case atStart=>exact⟨0,Nat.zero_le _,rfl,rfl,Below.refl _ _⟩
 case round=>
  obtain⟨k,hk,rfl,rfl,hbl⟩:=hrel;have HBL:=hid hbl;clear hbl b0
  by_cases hlt:k<pl.length
  ·obtain⟨p,hp⟩:∃ p,pl[k]? = some p:=⟨_,List.getElem?_eq_getElem hlt⟩
   obtain⟨e0,e1,e2,e3⟩:=HPC.out k p hp wr HBL.out;have hpos:=HI.out.pos p (List.mem_of_getElem? hp)
   have k1:(k:Int)<(pl.length:Int):=by omega
   have k2:(0:Int)<=(k:Int):=by omega
   have HB1:Hid (Below w.heap.size w (wr.alloc (.cells #[.string p.key,.int .i64 (p.pos:Int),.bool p.has,.bool p.gone] 325))):=hid (HBL.out.alloc HBL.out.size _);clear hp;obtain⟨pk,pp,ph,pg⟩:=p;dsimp only at e0 e1 e2 e3 HB1 hpos
   cases ph with
   | true=>
    have h9:=hpos rfl
    have k3:¬ ((pp:Int)<1):=by omega
    have k4:decide ((pp:Int)<1)=false:=by rw[decide_eq_false_iff_not];exact k3
    go_wp2
    go_roundw
    case rel=>exact⟨k+1,by omega,rfl,by go_num,HB1.out⟩
    case measure=>simp[intOf];omega
   | false=>
    go_wp2
    go_roundw
    case rel=>exact⟨k+1,by omega,rfl,by go_num,HB1.out⟩
    case measure=>simp[intOf];omega
  ·obtain rfl:k=pl.length:=by omega
   have c1:=HC1.out wr HBL.out;have HC2:=hid c1;have d1:=c1.cell 1;have d2:=c1.frozen 1;clear c1
   go_wp2
   go_ret;refine⟨rfl,?_,((Chg.same_own HBL.out).mono fun _ e=>e.elim).setCell (p:=⟨x,1,none⟩) HC2.out.own _⟩;have hi:=HI.out.below HBL.out;obtain⟨T',g1,g2⟩:=hi.ex;refine⟨⟨T',?_,g2.far (p:=⟨x,1,none⟩) (g2.other g1 (.inr (by decide))) _⟩,hi.len,hi.pos,hi.sm⟩;have:=g1.set_ 1 (.int .i64 (n:Int))
   simpa using this
def growStep (acc:Option (List Place × Nat × Nat))(p:Place):Option (List Place × Nat × Nat):=match acc with
 | none=>none
 | some (q,m,u)=>if p.has=true then putN q m u p.key p.pos else some (q,m,u)
def growP (pl:List Place)(n:Nat):Option (List Place × Nat × Nat):=if 12<n then none else pl.foldl growStep (some (List.replicate (max 16 (4*n)) Place.zero,0,0))
def putP (pl:List Place)(n used:Nat)(key:ByteArray)(pos:Nat):Option (List Place × Nat × Nat):=if pl.length<=2*used then match growP pl n with
 | none=>none
 | some (q,m,u)=>putN q m u key pos
 else putN pl n used key pos
theorem grow_none (l:List Place):l.foldl growStep none=none:=by
 induction l with
 | nil=>rfl
 | cons p l ih=>exact ih
theorem grow_take (l:List Place)(a:Option (List Place × Nat × Nat))(r:List Place × Nat × Nat)(h:l.foldl growStep a=some r)(k:Nat):∃ s,(l.take k).foldl growStep a=some s:=by
 cases hs:(l.take k).foldl growStep a with
 | some s=>exact⟨s,rfl⟩
 | none=>
  have e:=List.foldl_append (f:=growStep) (b:=a) (l:=l.take k) (l':=l.drop k);rw[List.take_append_drop,h,hs,grow_none]at e
  cases e
theorem putN_le {pl pl':List Place}{n used n' used' pos:Nat}{key:ByteArray}(h:putN pl n used key pos=some (pl',n',used')):n'<=n+1:=by
 unfold putN at h
 split at h
 ·cases h
 ·split at h
  ·split at h
   ·cases h
   ·simp only[Option.some.injEq,Prod.mk.injEq]at h;omega
  ·split at h
   ·cases h
   ·simp only[Option.some.injEq,Prod.mk.injEq]at h;omega
  ·cases h
theorem made_pl (M:Nat):madeCells #[.string ⟨#[]⟩,.int .i64 0,.bool false,.bool false] (M*4)=(plc (List.replicate M Place.zero)).toArray:=by
 apply Array.ext_getElem?;intro i
 by_cases hi:i<M*4
 ·rw[made_cell hi]
  have h:=plc_get (List.replicate M Place.zero) (i / 4) Place.zero (by rw[List.getElem?_replicate,if_pos (by omega)]) (i%4) (Nat.mod_lt _ (by decide));rw[show i / 4*4+i%4=i by omega]at h;rw[List.getElem?_toArray,h]
  have h4:i%4=0\/i%4=1\/i%4=2\/i%4=3:=by omega
  have e:(#[Value.string ⟨#[]⟩,.int .i64 0,.bool false,.bool false]:Array Value).size=4:=rfl;rw[e]
  rcases h4 with h|h|h|h <;> rw[h] <;> rfl
 ·rw[Array.getElem?_eq_none (by simp[madeCells];omega),Array.getElem?_eq_none (by simp[plc_length];omega)]
def own1 (U:Own)(T y:Nat):Own:=fun k=>if k=T then y else U k
theorem IndexAt.back {w:World}{U:Own}{t x n used T y:Nat}{pl:List Place}(h:IndexAt w (own1 U T y) t x pl n used)(hy:y≠t):IndexAt w U t x pl n used:=by
 obtain⟨g,a,b⟩:=h.ex
 have k:∀ b,own1 U T y b=t->U b=t:=fun b hb=>by
  unfold own1 at hb
  split at hb
  ·exact absurd hb hy
  ·exact hb
 exact⟨⟨g,⟨a.blk,k _ a.own⟩,⟨b.blk,k _ b.own⟩⟩,h.len,h.pos,h.sm⟩
theorem Chg.back {w w':World}{U:Own}{t T y:Nat}(h:Chg (· = t) w (own1 U T y) w' (own1 U T y))(hT:U T=t):Chg (· = t) w U w' U:=
 ⟨h.os,h.tape,h.output,h.size,fun k hk hn=>h.block k hk (fun e=>hn (by
  show U k=t
  by_cases hk2:k=T
  ·rw[hk2];exact hT
  ·have e2:own1 U T y k=t:=e
   unfold own1 at e2
   rwa [if_neg hk2]at e2)),fun _ _=>rfl⟩
theorem grow215 (w:World)(U:Own)(t x n used n' used':Nat)(pl pl':List Place)(h:IndexAt w U t x pl n used)(ht:t≠95)(hks:∀ p∈pl,p.key.size<=9223372036854775807)(hps:∀ p∈pl,p.pos<=1000000)(hg:growP pl n=some (pl',n',used')) :
 Calls Tryz.prog 215 #[.pointer (some ⟨x,0,none⟩)] w fun e w'=>(∃ v,e=.returned v)/\IndexAt w' (ext U w t) t x pl' n' used'/\Chg (· = t) w U w' (ext U w t):=by
 unfold growP at hg
 split at hg
 ·cases hg
 rename_i hn8;obtain⟨M,hM⟩:∃ M,M=max 16 (4*n):=⟨_,rfl⟩;rw[<- hM]at hg;obtain⟨T,h1,h2,hne,hc⟩:=h.cells;obtain⟨i,v,hi,hz,hcc,hs,hb⟩:=info_cells info325
 have hmk:∀ W:World,(Instr.makeSlice 319 (.int .i64 (M:Int)) (.int .i64 (M:Int))).run Tryz.prog W=.ok (.slice (some ⟨W.heap.size,0,none⟩) M M) (W.alloc (.cells (plc (List.replicate M Place.zero)).toArray 325)):=fun W=>by
  have h:=run_make (P:=Tryz.prog) W 319 325 i v (by kernel_rfl) hi hz .i64 .i64 M M (by omega) (Int.le_refl _) (by rw[hb];omega) (by omega);simp only[Int.toNat_natCast]at h;rw[h,hcc,hs,made_pl]
 clear hi hz hcc hs hb;obtain⟨U1,hU1⟩:∃ U1,U1=ext U w t:=⟨_,rfl⟩;have hT:U T=t:=h2.own;have hTl:T<w.heap.size:=h2.lt;have hxT:x<w.heap.size:=h1.lt;have b0:w.cell? ⟨x,0,none⟩=some (.slice (some ⟨T,0,none⟩) pl.length pl.length):=h1.cell 0;have b1:w.cell? ⟨x,1,none⟩=some (.int .i64 (n:Int)):=h1.cell 1;have b2:w.cell? ⟨x,2,none⟩=some (.int .i64 (used:Int)):=h1.cell 2;have f0:=h1.frozen 0;have f1:=h1.frozen 1;have f2:=h1.frozen 2
 have k1:(4:Int)*(n:Int)<=48:=by omega
 have k2:(0:Int)<=(n:Int):=by omega
 have k3:(pl.length:Int)<=48:=by have:=h.len;omega
 obtain⟨qi,hqi,k4⟩:∃ qi:Int,(M:Int)=qi/\(((16:Int)<4*(n:Int)/\qi=4*(n:Int))\/(4*(n:Int)<(16:Int)/\qi=16)\/(n=4/\qi=16)):=⟨_,rfl,by omega⟩;rw[hqi]at hmk;have HQI:=hid hqi;clear hqi;have HH:=hid (And.intro h1 h2);have HPS:=hid (And.intro hks hps);have HPOS:=hid h.pos;have HGR:=hid hg;have HM:=hid hM;have HC:=hid hc;clear h h1 h2 hc hks hps hg hM
 rcases k4 with ⟨k4,rfl⟩|⟨k4,rfl⟩|⟨rfl,rfl⟩
 all_goals (
  try have k5:¬ (4*(n:Int)<=16):=by omega
  try have k6:(16:Int)<=4*(n:Int):=by omega
  try have k7:4*(n:Int)<=16:=by omega
  try have k8:¬ ((16:Int)<=4*(n:Int)):=by omega
  go_enter Tryz.func215,Tryz.ntmps215
  go_wp2_with fail
  refine Lid.out ?_;obtain⟨W1,hW1⟩:∃ W,W=(((w.setCell ⟨x,0,none⟩ (.slice (some ⟨w.heap.size,0,none⟩) M M)).setCell ⟨x,1,none⟩ (.int .i64 0)).setCell ⟨x,2,none⟩ (.int .i64 0)).alloc (.cells (plc (List.replicate M Place.zero)).toArray 325):=⟨_,rfl⟩;rw[<- hW1]
  have hx1:U1 x=t:=by rw[hU1,ext_old hxT];exact HH.out.1.own
  have hT1:U1 T=t:=by rw[hU1,ext_old hTl];exact hT
  have hss:∀ (W:World) (q:Addr) (u:Value),(W.setCell q u).heap.size=W.heap.size:=fun W q u=>by simp[World.setCell]
  have HCH:Hid (Chg (· = t) w U W1 U1):=hid (by
   rw[hW1,hU1]
   exact((((((Chg.refl _ w U).setCell (p:=⟨x,0,none⟩) HH.out.1.own _).setCell (p:=⟨x,1,none⟩) HH.out.1.own _).setCell (p:=⟨x,2,none⟩) HH.out.1.own _)).alloc _).ext t)
  have HIX:Hid (IndexAt W1 (own1 U1 T 95) t x (List.replicate M Place.zero) 0 0):=hid (by
   refine⟨⟨w.heap.size,⟨?_,?_⟩,⟨?_,?_⟩⟩,(by rw[List.length_replicate];have:=HM.out;omega),(fun p hp hh=>by rw[List.eq_of_mem_replicate hp]at hh;cases hh),(by decide)⟩
   ·rw[hW1,List.length_replicate]
    have:=((((HH.out.1.set_ 0 (.slice (some ⟨w.heap.size,0,none⟩) M M)).set_ 1 (.int .i64 0)).set_ 2 (.int .i64 0)).alloc (.cells (plc (List.replicate M Place.zero)).toArray 325)).blk
    simpa using this
   ·unfold own1;rw[if_neg hne];exact hx1
   ·rw[hW1]
    have:=Blk.new (((w.setCell ⟨x,0,none⟩ (.slice (some ⟨w.heap.size,0,none⟩) M M)).setCell ⟨x,1,none⟩ (.int .i64 0)).setCell ⟨x,2,none⟩ (.int .i64 0)) 325 (plc (List.replicate M Place.zero)).toArray;rw[hss,hss,hss]at this;exact this
   ·unfold own1;rw[if_neg (by omega),hU1];exact ext_new (Nat.le_refl _))
  have HTB:Hid (Has W1 (own1 U1 T 95) 95 T 325 (plc pl).toArray):=hid (by
   rw[hW1]
   exact⟨((((HH.out.2.far (p:=⟨x,0,none⟩) (Ne.symm hne) _).far (p:=⟨x,1,none⟩) (Ne.symm hne) _).far (p:=⟨x,2,none⟩) (Ne.symm hne) _).alloc _).blk,by unfold own1;rw[if_pos rfl]⟩)
  have HT1:=hid hT1;have HTAU:=hid hU1;clear hW1 hx1 hT1 hss hT hTl hxT b0 b1 b2 hmk HH hU1;obtain⟨U2,hU2⟩:∃ U2,U2=own1 U1 T 95:=⟨_,rfl⟩;rw[<- hU2]at HIX HTB;have HT2:=hid hU2;clear hU2;have HRF:Hid (∀ W,Chg (· = t) W1 U2 W U2->Has W U2 95 T 325 (plc pl).toArray):=hid fun W hW=>HTB.out.keep hW (Ne.symm ht);refine⟨?_⟩
  go_loopw [21] (fun s21 wr=>∃ (k:Nat) (q:List Place) (m u:Nat),k<=pl.length/\s21=.int .i64 (k:Int)/\m<=k/\(pl.take k).foldl growStep (some (List.replicate M Place.zero,0,0))=some (q,m,u)/\IndexAt wr U2 t x q m u/\Chg (· = t) W1 U2 wr U2) (fun s _=>pl.length-(intOf s).toNat)
  case atStart=>exact⟨0,_,0,0,Nat.zero_le _,rfl,Nat.le_refl _,rfl,HIX.out,Chg.refl _ _ _⟩
  case round=>
   obtain⟨k,q,m,u,hk,rfl,hmk,hf,hix,hch⟩:=hrel;have HIR:=hid hix;have HCR:=hid hch;have HF:=hid hf;have HMK:=hid hmk;clear hix hch hf hmk
   by_cases hlt:k<pl.length
   ·obtain⟨p,hp⟩:∃ p,pl[k]? = some p:=⟨_,List.getElem?_eq_getElem hlt⟩
    have hT:=HRF.out wr HCR.out;have e:=fun j hj=>plc_get pl k p hp j hj
    have e0:wr.cell? ⟨T,k*4,none⟩=some (.string p.key):=by rw[hT.cell];simpa [Place.cells] using e 0 (by decide)
    have e1:wr.cell? ⟨T,k*4+1,none⟩=some (.int .i64 (p.pos:Int)):=by rw[hT.cell];simpa [Place.cells] using e 1 (by decide)
    have e2:wr.cell? ⟨T,k*4+2,none⟩=some (.bool p.has):=by rw[hT.cell];simpa [Place.cells] using e 2 (by decide)
    have e3:wr.cell? ⟨T,k*4+3,none⟩=some (.bool p.gone):=by rw[hT.cell];simpa [Place.cells] using e 3 (by decide)
    have q1:(k:Int)<(pl.length:Int):=by omega
    have q2:(0:Int)<=(k:Int):=by omega
    have hks:=HPS.out.1 p (List.mem_of_getElem? hp);have hps:=HPS.out.2 p (List.mem_of_getElem? hp);have hpos:=HPOS.out p (List.mem_of_getElem? hp)
    have HST:Hid ((pl.take (k+1)).foldl growStep (some (List.replicate M Place.zero,0,0))=growStep (some (q,m,u)) p):=hid (by
     rw[List.take_add_one,hp,List.foldl_append,HF.out];rfl)
    have HA:Hid (IndexAt (wr.alloc (.cells #[.string p.key,.int .i64 (p.pos:Int),.bool p.has,.bool p.gone] 325)) U2 t x q m u/\Chg (· = t) W1 U2 (wr.alloc (.cells #[.string p.key,.int .i64 (p.pos:Int),.bool p.has,.bool p.gone] 325)) U2):=hid ⟨HIR.out.keep ((Chg.refl (fun _=>False) wr U2).alloc _) id,HCR.out.alloc _⟩;have HN:Hid (∃ s,(pl.take (k+1)).foldl growStep (some (List.replicate M Place.zero,0,0))=some s):=hid (grow_take pl _ _ HGR.out (k+1));clear hT e hp;obtain⟨pk,pp,ph,pg⟩:=p;dsimp only at e0 e1 e2 e3 HA hks hps hpos HST
    cases ph with
    | false=>
     go_wp2
     go_roundw
     case rel=>exact⟨k+1,q,m,u,by omega,by go_num,by have:=HMK.out;omega,by rw[HST.out];rfl,HA.out.1,HA.out.2⟩
     case measure=>simp[intOf];omega
    | true=>
     obtain⟨⟨q',m',u'⟩,hs⟩:=HN.out
     have hput:putN q m u pk pp=some (q',m',u'):=by
      have e:=HST.out;rw[hs]at e;exact e.symm
     have HS:=hid hs;have HPT:=hid hput;have hc162:=putn162 _ U2 t x m u m' u' pp q q' pk HA.out.1 hks hput (hpos rfl) hps (by have:=HMK.out;omega);have HC162:=hid hc162;clear hc162 hs hput hks hps hpos
     go_wp2_with fail
     refine HC162.out.mono ?_;rintro e w2 ⟨⟨v2,rfl⟩,hi2,hc2⟩;have HI2:=hid hi2;have HC2:=hid hc2;clear hi2 hc2
     go_wp2
     go_roundw
     case rel=>exact⟨k+1,q',m',u',by omega,by go_num,by have:=HMK.out;have:=putN_le HPT.out;omega,HS.out,HI2.out,HA.out.2.trans HC2.out⟩
     case measure=>simp[intOf];omega
   ·obtain rfl:k=pl.length:=by omega
    go_wp2
    refine bodyPost_end (by first|rfl|(simp[results];rfl)) rfl ?_;have hfin:=HF.out;rw[List.take_length,HGR.out]at hfin
    obtain⟨rfl,rfl,rfl⟩:q=pl'/\m=n'/\u=used':=by
     simp only[Option.some.injEq,Prod.mk.injEq]at hfin;exact⟨hfin.1.symm,hfin.2.1.symm,hfin.2.2.symm⟩
    have hi:=HIR.out;have hch:=HCR.out;have e2:=HT2.out;subst e2;have e1:=HTAU.out;subst e1
    exact⟨⟨_,rfl⟩,hi.back (Ne.symm ht),HCH.out.trans (hch.back HT1.out)⟩)
def PlOk (pl:List Place):Prop:=∀ p∈pl,p.key.size<=9223372036854775807/\p.pos<=1000000
theorem foldl_le (l:List Place)(a r:List Place × Nat × Nat)(h:l.foldl growStep (some a)=some r):r.2.1<=a.2.1+l.length:=by
 induction l generalizing a with
 | nil=>cases h;exact Nat.le_refl _
 | cons p l ih=>
  rw[List.foldl_cons]at h;obtain⟨q,m,u⟩:=a
  cases hs:growStep (some (q,m,u)) p with
  | none=>rw[hs,grow_none]at h;cases h
  | some b=>
   rw[hs]at h;have h1:=ih b h
   have h2:b.2.1<=m+1:=by
    unfold growStep at hs;dsimp only at hs
    split at hs
    ·obtain⟨b1,b2,b3⟩:=b;exact putN_le hs
    ·cases hs;exact Nat.le_succ _
   rw[List.length_cons];show _<=m+_;omega
theorem put162 (w:World)(U:Own)(t x n used n' used' pos:Nat)(pl pl':List Place)(key:ByteArray)(h:IndexAt w U t x pl n used)(ht:t≠95)(hk:PlOk pl)(hks:key.size<=9223372036854775807)(hput:putP pl n used key pos=some (pl',n',used'))(hpos:1<=pos)(hps:pos<=1000000)(hn9:n<1000000) :
 Calls Tryz.prog 162 #[.pointer (some ⟨x,0,none⟩),.string key,.int .i64 (pos:Int)] w fun e w'=>(∃ v,e=.returned v)/\∃ U',IndexAt w' U' t x pl' n' used'/\Chg (· = t) w U w' U':=by
 unfold putP at hput
 split at hput
 ·rename_i hu
  cases hg:growP pl n with
  | none=>rw[hg]at hput;cases hput
  | some r=>
   obtain⟨q,m,u⟩:=r;rw[hg]at hput
   have hm:m<1000000:=by
    unfold growP at hg
    split at hg
    ·cases hg
    ·have h1:=foldl_le _ _ _ hg
     have:=h.len;dsimp only at h1;omega
   refine(put162x w U (ext U w t) t x n used pl m u n' used' pos q pl' key h hks (.inl ⟨hu,fun k=>?_⟩) hput hpos hps hm).mono fun e w' ⟨h1,h2,h3⟩=>⟨h1,_,h2,h3⟩;have hd:Chg (fun _=>False) w U (w.drewN k) U:=(Chg.refl _ w U).drewN k;have e:ext U (w.drewN k) t=ext U w t:=rfl;refine(grow215 (w.drewN k) U t x n used m u pl q (h.keep hd id) ht (fun p hp=>(hk p hp).1) (fun p hp=>(hk p hp).2) hg).mono fun e' w' ⟨h1,h2,h3⟩=>⟨h1,h2,((Chg.refl _ w U).drewN k).trans h3⟩
 ·exact(putn162 w U t x n used n' used' pos pl pl' key h hks hput hpos hps hn9).mono fun e w' ⟨h1,h2,h3⟩=>⟨h1,_,h2,h3⟩
end Go.Proofs.Ytlhekbjidppijaa
