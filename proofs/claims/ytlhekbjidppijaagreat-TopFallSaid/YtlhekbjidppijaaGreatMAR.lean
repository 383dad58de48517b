/- Contracts of what TopFall reaches: what each function returns and leaves in memory. Conditions: as named. -/
import Derived.Test.YtlhekbjidppijaaGreatMAO
set_option linter.unusedVariables false
set_option linter.unusedSimpArgs false
set_option maxRecDepth 20000
set_option maxHeartbeats 8000000
namespace Go.Proofs.Ytlhekbjidppijaa
open Lib (hid)
open Go.RowKit
structure MS where
 b:Nat
 e:Nat
 r:Nat
 f:Bool
def MS.ok (m:MS):Bool:=decide (m.r=0\/m.e<m.r) && (!m.f || decide (0<m.r)) && decide (m.b<64/\m.e<64/\m.r<64)
theorem may224 (w:World)(m:MS)(hok:m.ok=true) :
 Calls Tryz.prog 224 #[.agg #[.int .i64 (m.b:Int),.int .i64 (m.e:Int),.int .i64 (m.r:Int),.bool m.f]] w fun e w'=>e=.returned (.bool true)/\Below w.heap.size w w':=by
 obtain⟨b,e,r,f⟩:=m;simp only[MS.ok,Bool.and_eq_true,Bool.or_eq_true,decide_eq_true_eq,Bool.not_eq_true']at hok;obtain⟨⟨h1,h2⟩,h3,h4,h5⟩:=hok;have HB:Hid (Below w.heap.size w ((w.alloc (.cells #[.int .i64 (b:Int),.int .i64 (e:Int),.int .i64 (r:Int),.bool f] 45)).alloc (.cells #[.int .i64 (b:Int),.int .i64 (e:Int),.int .i64 (r:Int)] 2))):=hid (((Below.refl _ _).alloc (Nat.le_refl _) _).alloc (by simp) _);have HK:Hid (Blk ((w.alloc (.cells #[.int .i64 (b:Int),.int .i64 (e:Int),.int .i64 (r:Int),.bool f] 45)).alloc (.cells #[.int .i64 (b:Int),.int .i64 (e:Int),.int .i64 (r:Int)] 2)) w.heap.size 45 #[.int .i64 (b:Int),.int .i64 (e:Int),.int .i64 (r:Int),.bool f]):=hid ((Blk.new w 45 _).alloc _)
 have HL:Hid (∀ i:Nat,i<3->∃ z:Nat,z<64/\((w.alloc (.cells #[.int .i64 (b:Int),.int .i64 (e:Int),.int .i64 (r:Int),.bool f] 45)).alloc (.cells #[.int .i64 (b:Int),.int .i64 (e:Int),.int .i64 (r:Int)] 2)).cell? ⟨w.heap.size+1,i,none⟩=some (.int .i64 (z:Int))):=hid fun i hi=>by
  have hb:=Blk.new (w.alloc (.cells #[.int .i64 (b:Int),.int .i64 (e:Int),.int .i64 (r:Int),.bool f] 45)) 2 #[.int .i64 (b:Int),.int .i64 (e:Int),.int .i64 (r:Int)];rw[World.size_alloc]at hb
  rcases i with _|_|_|i
  ·exact⟨b,h3,hb.cell 0⟩
  ·exact⟨e,h4,hb.cell 1⟩
  ·exact⟨r,h5,hb.cell 2⟩
  ·omega
 go_enter Tryz.func224,Tryz.ntmps224
 go_wp2
 generalize (w.alloc (.cells #[.int .i64 (b:Int),.int .i64 (e:Int),.int .i64 (r:Int),.bool f] 45)).alloc (.cells #[.int .i64 (b:Int),.int .i64 (e:Int),.int .i64 (r:Int)] 2)=W1 at *
 go_loop [13] (fun i=>∃ k:Nat,k<=3/\i=.int .i64 (k:Int)) (fun i=>3-(intOf i).toNat)
 case atStart=>exact⟨0,by decide,rfl⟩
 case round=>
  obtain⟨k,hk,rfl⟩:=hrel
  by_cases hlt:k<3
  ·obtain⟨z,hz,hc⟩:=HL.out k hlt
   have k1:(k:Int)<3:=by omega
   have k2:(0:Int)<=(k:Int):=by omega
   have k3:¬ ((z:Int)<0):=by omega
   have k4:¬ ((1099511627776:Int)<(z:Int)):=by omega
   go_wp2
   go_round
   case rel=>exact⟨k+1,by omega,by go_num⟩
   case measure=>simp[intOf];omega
  ·obtain rfl:k=3:=by omega
   have s0:W1.cell? ⟨w.heap.size,0,none⟩=some (.int .i64 (b:Int)):=HK.out.cell 0;have s1:W1.cell? ⟨w.heap.size,1,none⟩=some (.int .i64 (e:Int)):=HK.out.cell 1;have s2:W1.cell? ⟨w.heap.size,2,none⟩=some (.int .i64 (r:Int)):=HK.out.cell 2;have s3:W1.cell? ⟨w.heap.size,3,none⟩=some (.bool f):=HK.out.cell 3
   by_cases hr:r=0
   ·subst hr
    cases f with
    | true=>simp at h2
    | false=>
     go_wp2
     go_ret;exact⟨rfl,HB.out⟩
   ·have j1:¬ ((r:Int)=0):=by omega
    have j2:(e:Int)<(r:Int):=by omega
    have j3:(0:Int)<(r:Int):=by omega
    have j4:((r:Int) == 0)=false:=by rw[beq_eq_false_iff_ne];exact j1
    cases f with
    | true=>
     have hd:decide (0<r)=true:=decide_eq_true (by omega)
     go_wp2
     go_ret;exact⟨rfl,HB.out⟩
    | false=>
     go_wp2
     go_ret;exact⟨rfl,HB.out⟩
theorem text227 (w:World)(m:MS)(hok:m.b<64/\m.e<64/\m.r<64) :
 Calls Tryz.prog 227 #[.agg #[.int .i64 (m.b:Int),.int .i64 (m.e:Int),.int .i64 (m.r:Int),.bool m.f]] w fun e w'=>∃ v,e=.returned v/\w'.ownsRow w.heap.size 5 1 v 4 (nbs [m.b,m.e,m.r,if m.f then 1 else 0])/\Below w.heap.size w w':=by
 obtain⟨b,e,r,f⟩:=m;dsimp only at hok ⊢;obtain⟨h1,h2,h3⟩:=hok
 have HPUT:Hid (∀ fz:Nat,fz<2->∀ W,W=(w.alloc (.cells #[.int .i64 (b:Int),.int .i64 (e:Int),.int .i64 (r:Int),.bool f] 45)).alloc (.cells #[.int .i64 (b:Int),.int .i64 (e:Int),.int .i64 (r:Int),.int .i64 (fz:Int)] 2)->Calls Tryz.prog 135 #[.slice none 0 0,.slice (some ⟨w.heap.size+1,0,none⟩) 4 4] W fun e' w'=>∃ v,e'=.returned v/\w'.ownsRow w.heap.size 5 1 v 4 (nbs [b,e,r,fz])/\Below w.heap.size w w'):=hid fun fz hf W hW=>by
  have hbW:Below w.heap.size w W:=by rw[hW];exact((Below.refl _ _).alloc (Nat.le_refl _) _).alloc (by simp) _
  have hs:Sl W (some ⟨w.heap.size+1,0,none⟩) (nnums [b,e,r,fz]):=by
   have:=(Blk.new (w.alloc (.cells #[.int .i64 (b:Int),.int .i64 (e:Int),.int .i64 (r:Int),.bool f] 45)) 2 #[.int .i64 (b:Int),.int .i64 (e:Int),.int .i64 (r:Int),.int .i64 (fz:Int)]).sl;rw[World.size_alloc]at this;rw[hW];exact this
  have hsz:W.heap.size=w.heap.size+2:=by rw[hW];simp
  refine(putAllR W (ext (fun _=>0) w 1) 2 (.slice none 0 0) 0 [] (Rw.nil _ _ _ _ _) (some ⟨w.heap.size+1,0,none⟩) 4 [b,e,r,fz] hs (by rintro a ha;cases ha;exact⟨by show w.heap.size+1<_;omega,by rw[ext_new (by show w.heap.size<=w.heap.size+1;omega)];decide⟩) (by simp) (by intro z hz;simp at hz;omega)).mono ?_;rintro e' w' ⟨v,U',rfl,hr,hc⟩
  have hold:∀ i,i<w.heap.size->ext (fun _=>0) w 1 i≠2:=fun i hi=>by rw[ext_old hi];decide
  refine⟨v,rfl,?_,hbW.trans (hc.below_of w.heap.size hbW.size hold)⟩;have:=hr.base w.heap.size (fun i hi=>by rw[hc.own i (by omega)];exact hold i hi)
  simpa using this
 cases f with
 | true=>
  go_enter Tryz.func227,Tryz.ntmps227
  go_wp2_with fail
  refine(HPUT.out 1 (by decide) _ rfl).mono ?_;rintro e' w1 ⟨v,rfl,h8,h9⟩;have HR:=hid (And.intro h8 h9);clear h8 h9 HPUT
  go_wp2
  go_ret;exact⟨v,rfl,HR.out.1,HR.out.2⟩
 | false=>
  go_enter Tryz.func227,Tryz.ntmps227
  go_wp2_with fail
  refine(HPUT.out 0 (by decide) _ rfl).mono ?_;rintro e' w1 ⟨v,rfl,h8,h9⟩;have HR:=hid (And.intro h8 h9);clear h8 h9 HPUT
  go_wp2
  go_ret;exact⟨v,rfl,HR.out.1,HR.out.2⟩
def mbytes (m:MS):List Nat:=[2*m.b,2*m.e,2*m.r,2*if m.f then 1 else 0]
theorem mbytes_eq (m:MS):bv (mbytes m)=nbs [m.b,m.e,m.r,if m.f then 1 else 0]:=by simp[bv,mbytes,nbs]
theorem mbytes_lt (m:MS)(h:m.b<64/\m.e<64/\m.r<64):∀ x∈mbytes m,x<256:=by
 intro x hx;simp only[mbytes,List.mem_cons,List.not_mem_nil,or_false]at hx
 rcases hx with rfl|rfl|rfl|rfl
 ·omega
 ·omega
 ·omega
 ·split <;> decide
theorem mtext_row (m:MS)(W w1:World)(v:Value)(ho:w1.ownsRow W.heap.size 5 1 v 4 (nbs [m.b,m.e,m.r,if m.f then 1 else 0]))(h:m.b<64/\m.e<64/\m.r<64) :
 ∃ b c,v=.slice (some ⟨b,0,none⟩) 4 c/\Sl w1 (some ⟨b,0,none⟩) (bv (mbytes m))/\W.heap.size<=b/\b<w1.heap.size:=by
 obtain⟨b,c,rfl,-,hlt⟩:=ho.form (by decide);refine⟨b,c,rfl,?_,(ho.lt b rfl).1,hlt⟩;rw[mbytes_eq];exact Sl.of_cells (ho.cells (g:=b) rfl)
structure KeeperAt (w:World)(U:Own)(tk k d at_ tn:Nat)(m:MS):Prop where
 ex:∃ s,Has w U tk k 147 #[.pointer (some ⟨s,0,none⟩),.int .i64 (m.b:Int),.int .i64 (m.e:Int),.int .i64 (m.r:Int),.bool m.f]/\SuperAt w U (tk+1) s d at_ tn ((tn+1)%2)
 ok:m.b<64/\m.e<64/\m.r<64
theorem KeeperAt.keep {T:Nat->Prop}{w w':World}{U U':Own}{tk k d at_ tn:Nat}{m:MS}(h:KeeperAt w U tk k d at_ tn m)(hc:Chg T w U w' U')(h1:¬ T tk)(h2:¬ T (tk+1)):KeeperAt w' U' tk k d at_ tn m:=by
 obtain⟨s,b,c⟩:=h.ex;exact⟨⟨s,b.keep hc h1,c.keep hc h2⟩,h.ok⟩
def MsS (s k pb:Nat)(m m2:MS)(W:World):Prop:=W.cell? ⟨k,0,none⟩=some (.pointer (some ⟨s,0,none⟩))/\W.cell? ⟨k,1,none⟩=some (.int .i64 (m.b:Int))/\W.cell? ⟨k,2,none⟩=some (.int .i64 (m.e:Int))/\W.cell? ⟨pb,0,none⟩=some (.int .i64 (m2.b:Int))/\W.cell? ⟨pb,1,none⟩=some (.int .i64 (m2.e:Int))/\W.cell? ⟨pb,2,none⟩=some (.int .i64 (m2.r:Int))/\W.cell? ⟨pb,3,none⟩=some (.bool m2.f)
theorem meta48 (w:World)(U:Own)(tk k d at_ tn:Nat)(m:MS)(h:KeeperAt w U tk k d at_ tn m) :
 Calls Tryz.prog 48 #[.pointer (some ⟨k,0,none⟩)] w fun e w'=>e=.returned (.agg #[.int .i64 (m.b:Int),.int .i64 (m.e:Int),.int .i64 (m.r:Int),.bool m.f])/\Below w.heap.size w w':=by
 obtain⟨s,h1,-⟩:=h.ex;have h2:=h1.alloc (.cells #[.int .i64 0,.int .i64 0,.int .i64 0,.bool false] 45);have c1:(w.alloc (.cells #[.int .i64 0,.int .i64 0,.int .i64 0,.bool false] 45)).cell? ⟨k,1,none⟩=some (.int .i64 (m.b:Int)):=h2.cell 1;have c2:(w.alloc (.cells #[.int .i64 0,.int .i64 0,.int .i64 0,.bool false] 45)).cell? ⟨k,2,none⟩=some (.int .i64 (m.e:Int)):=h2.cell 2;have c3:(w.alloc (.cells #[.int .i64 0,.int .i64 0,.int .i64 0,.bool false] 45)).cell? ⟨k,3,none⟩=some (.int .i64 (m.r:Int)):=h2.cell 3;have c4:(w.alloc (.cells #[.int .i64 0,.int .i64 0,.int .i64 0,.bool false] 45)).cell? ⟨k,4,none⟩=some (.bool m.f):=h2.cell 4;have hB4:=Blk.new w 45 #[.int .i64 (m.b:Int),.int .i64 (m.e:Int),.int .i64 (m.r:Int),.bool m.f];have hfin:Below w.heap.size w (w.alloc (.cells #[.int .i64 (m.b:Int),.int .i64 (m.e:Int),.int .i64 (m.r:Int),.bool m.f] 45)):=(Below.refl _ _).alloc (Nat.le_refl _) _;have HFIN:=hid (And.intro hB4 hfin);clear h h1 h2 hB4 hfin;go_enter Tryz.func48,Tryz.ntmps48
 go_wp2
 obtain⟨hB4,hfin⟩:=HFIN.out;generalize w.alloc (.cells #[.int .i64 (m.b:Int),.int .i64 (m.e:Int),.int .i64 (m.r:Int),.bool m.f] 45)=Wf at hB4 hfin ⊢;have z0:Wf.cell? ⟨w.heap.size,0,none⟩=some (.int .i64 (m.b:Int)):=hB4.cell 0;have z1:Wf.cell? ⟨w.heap.size,1,none⟩=some (.int .i64 (m.e:Int)):=hB4.cell 1;have z2:Wf.cell? ⟨w.heap.size,2,none⟩=some (.int .i64 (m.r:Int)):=hB4.cell 2;have z3:Wf.cell? ⟨w.heap.size,3,none⟩=some (.bool m.f):=hB4.cell 3;exact bodyPost_ret (v:=.agg #[.int .i64 (m.b:Int),.int .i64 (m.e:Int),.int .i64 (m.r:Int),.bool m.f]) (by simp[results,Tryz.results48,go_sem,z0,z1,z2,z3]) rfl ⟨rfl,hfin⟩
theorem make184 (w:World)(U:Own)(tk at_ td d n:Nat)(Z:Cont)(F:Nat->Prop)(hD:DevAt w U td d n Z F)(htk:tk+1<95)(htd:td<95/\td≠tk/\td≠tk+1)(hn:n<=2048)(hat:at_+1<n)(hZ:∀ k,Z k=List.replicate 64 0) :
 Calls Tryz.prog 184 #[.pointer (some ⟨d,0,none⟩),.int .i64 (at_:Int)] w fun e w'=>∃ k U',e=.returned (.tuple #[.pointer (some ⟨k,0,none⟩),.int .i64 0])/\KeeperAt w' U' tk k d at_ 1 ⟨0,0,0,false⟩/\DevAt w' U' td d n (upd Z at_ (supB 1 (mbytes ⟨0,0,0,false⟩))) Lasts/\Chg (fun x=>x=tk+1\/x=td) w U w' U':=by
 obtain⟨y,hy1,hy2⟩:=fresh95 w U;have HT:Hid (Calls Tryz.prog 227 #[.agg #[.int .i64 0,.int .i64 0,.int .i64 0,.bool false]] w fun e w'=>∃ v,e=.returned v/\w'.ownsRow w.heap.size 5 1 v 4 (nbs [0,0,0,0])/\Below w.heap.size w w'):=hid (text227 w ⟨0,0,0,false⟩ (by decide))
 have HMK:Hid (∀ w1 b c,Below w.heap.size w w1->Sl w1 (some ⟨b,0,none⟩) (bv (mbytes ⟨0,0,0,false⟩))->w.heap.size<=b->b<w1.heap.size->Calls Tryz.prog 100 #[.pointer (some ⟨d,0,none⟩),.int .i64 (at_:Int),.slice (some ⟨b,0,none⟩) 4 c] w1 fun e w'=>∃ s U',e=.returned (.tuple #[.pointer (some ⟨s,0,none⟩),.int .i64 0])/\SuperAt w' U' (tk+1) s d at_ 1 0/\DevAt w' U' td d n (upd Z at_ (supB 1 (mbytes ⟨0,0,0,false⟩))) Lasts/\Chg (fun x=>x=tk+1\/x=td) w U w' U'):=hid fun w1 b c hb hs hge hlt=>by
  have hc:Chg (fun _=>False) w U w1 (ext U w y):=Chg.of_below hb y;refine(make100 w1 (ext U w y) (tk+1) at_ td d n Z F (hD.keep hc id) hZ (by omega) hn hat (some ⟨b,0,none⟩) 4 c (mbytes ⟨0,0,0,false⟩) rfl (mbytes_lt _ (by decide)) (by decide) hs (by intro e;cases e) (by rintro a ha;cases ha;exact⟨hlt,by rw[ext_new hge];omega⟩)).mono ?_;rintro e w' ⟨s,U',rfl,h1,h2,h3,-⟩;exact⟨s,U',rfl,h1,h2,(hc.mono fun _ e=>e.elim).trans h3⟩
 have HTK:Hid (tk+1<95/\td≠tk/\td≠tk+1):=hid ⟨htk,htd.2⟩;clear hD htk htd hn hat hZ hy1 hy2;go_enter Tryz.func184,Tryz.ntmps184
 go_wp2_with fail
 refine HT.out.mono ?_;rintro e w1 ⟨v,rfl,ho,hb⟩;obtain⟨b,c,rfl,h1,h2,h3⟩:=mtext_row ⟨0,0,0,false⟩ w w1 v ho (by decide);have HM:=hid (HMK.out w1 b c hb h1 h2 h3);clear ho hb h1 h2 h3 HMK HT
 go_wp2_with fail
 refine HM.out.mono ?_;rintro e w2 ⟨s,U2,rfl,h1,h2,h3⟩;have hq:Chg (fun _=>False) w2 U2 (w2.alloc (.cells #[.pointer (some ⟨s,0,none⟩),.int .i64 0,.int .i64 0,.int .i64 0,.bool false] 147)) (ext U2 w2 tk):=((Chg.refl _ _ _).alloc _).ext tk
 have HF:Hid (KeeperAt (w2.alloc (.cells #[.pointer (some ⟨s,0,none⟩),.int .i64 0,.int .i64 0,.int .i64 0,.bool false] 147)) (ext U2 w2 tk) tk w2.heap.size d at_ 1 ⟨0,0,0,false⟩/\DevAt (w2.alloc (.cells #[.pointer (some ⟨s,0,none⟩),.int .i64 0,.int .i64 0,.int .i64 0,.bool false] 147)) (ext U2 w2 tk) td d n (upd Z at_ (supB 1 (mbytes ⟨0,0,0,false⟩))) Lasts/\Chg (fun x=>x=tk+1\/x=td) w U (w2.alloc (.cells #[.pointer (some ⟨s,0,none⟩),.int .i64 0,.int .i64 0,.int .i64 0,.bool false] 147)) (ext U2 w2 tk)):=hid
  ⟨⟨⟨s,⟨Blk.new _ _ _,ext_new (Nat.le_refl _)⟩,h1.keep hq id⟩,by decide⟩,h2.keep hq id,h3.trans (hq.mono fun _ e=>e.elim)⟩
 clear h1 h2 h3 hq HM
 go_wp2
 go_ret2
 exact⟨w2.heap.size,_,rfl,HF.out.1,HF.out.2.1,HF.out.2.2⟩
theorem save192 (w:World)(U:Own)(tk k at_ td d n tn:Nat)(m m2:MS)(Z:Cont)(F:Nat->Prop)(hK:KeeperAt w U tk k d at_ tn m)(hD:DevAt w U td d n Z F)(htk:tk+1<95)(htd:td<95/\td≠tk/\td≠tk+1)(hn:n<=2048)(hat:at_+1<n)(htn:tn+1<=1000000)
 (hok:m2.ok=true)(hle:m.b<=m2.b/\m.e<=m2.e) :
 Calls Tryz.prog 192 #[.pointer (some ⟨k,0,none⟩),.agg #[.int .i64 (m2.b:Int),.int .i64 (m2.e:Int),.int .i64 (m2.r:Int),.bool m2.f]] w fun e w'=>e=.returned (.int .i64 0)/\∃ U',KeeperAt w' U' tk k d at_ (tn+1) m2/\DevAt w' U' td d n (upd Z (at_+tn%2) (supB (tn+1) (mbytes m2))) Lasts/\Chg (fun x=>x=tk\/x=tk+1\/x=td) w U w' U':=by
 obtain⟨y,hy1,hy2⟩:=fresh95 w U;obtain⟨s,g1,g2⟩:=hK.ex;obtain⟨pb,hpb⟩:∃ b,b=w.heap.size:=⟨_,rfl⟩;obtain⟨w1,hw1⟩:∃ W,W=w.alloc (.cells #[.int .i64 (m2.b:Int),.int .i64 (m2.e:Int),.int .i64 (m2.r:Int),.bool m2.f] 45):=⟨_,rfl⟩;obtain⟨U1,hU1⟩:∃ t:Own,t=ext U w y:=⟨_,rfl⟩
 have hB1:Below w.heap.size w w1:=by rw[hw1];exact(Below.refl _ _).alloc (Nat.le_refl _) _
 have hpK:Has w1 U1 y pb 45 #[.int .i64 (m2.b:Int),.int .i64 (m2.e:Int),.int .i64 (m2.r:Int),.bool m2.f]:=by rw[hw1,hU1,hpb];exact⟨Blk.new _ _ _,ext_new (Nat.le_refl _)⟩
 have hc1:Chg (fun _=>False) w U w1 U1:=by rw[hU1];exact Chg.of_below hB1 y
 have hok2:=hok;simp only[MS.ok,Bool.and_eq_true,decide_eq_true_eq]at hok2;have HOK:=hid hok;have HOK3:Hid (m2.b<64/\m2.e<64/\m2.r<64):=hid hok2.2;have HKA:Hid (∀ W U',Chg (fun x=>x=tk+1\/x=td) w1 U1 W U'->Has W U' tk k 147 #[.pointer (some ⟨s,0,none⟩),.int .i64 (m.b:Int),.int .i64 (m.e:Int),.int .i64 (m.r:Int),.bool m.f]/\Has W U' y pb 45 #[.int .i64 (m2.b:Int),.int .i64 (m2.e:Int),.int .i64 (m2.r:Int),.bool m2.f]):=hid fun W U' hc=>⟨(g1.keep hc1 id).keep hc (by omega),hpK.keep hc (by omega)⟩
 have HSV:Hid (∀ W,Below w1.heap.size w1 W->∀ W' b c,Sl W' (some ⟨b,0,none⟩) (bv (mbytes m2))->W.heap.size<=b->b<W'.heap.size->Below W.heap.size W W'->Calls Tryz.prog 185 #[.pointer (some ⟨s,0,none⟩),.slice (some ⟨b,0,none⟩) 4 c] W' fun e w'=>e=.returned (.int .i64 0)/\∃ U',SuperAt w' U' (tk+1) s d at_ (tn+1) ((tn+1+1)%2)/\DevAt w' U' td d n (upd Z (at_+tn%2) (supB (tn+1) (mbytes m2))) Lasts/\Chg (fun x=>x=tk+1\/x=td) W U1 w' U'):=hid fun W hbW W' b c hs hge hlt hbl=>by
  have hc2:Chg (fun _=>False) w1 U1 W U1:=Chg.same_own hbW;have hc3:Chg (fun _=>False) W U1 W' U1:=Chg.same_own hbl;have hge1:w.heap.size<=b:=Nat.le_trans (Nat.le_trans hB1.size hbW.size) hge;refine(save185 W' U1 (tk+1) s d at_ tn ((tn+1)%2) td n Z F (((g2.keep hc1 id).keep hc2 id).keep hc3 id) (((hD.keep hc1 id).keep hc2 id).keep hc3 id) (by omega) hn hat htn (by omega) (some ⟨b,0,none⟩) 4 c (mbytes m2) rfl (mbytes_lt _ hok2.2) (by decide) hs (by intro e;cases e) (by rintro a ha;cases ha;exact⟨hlt,by rw[hU1,ext_new hge1];omega⟩)).mono ?_;rintro e w' ⟨rfl,U',a,b',c'⟩;rw[show 1-(tn+1)%2=tn%2 by omega]at a b';rw[show(tn+1+1)%2=tn%2 by omega];exact⟨rfl,U',a,b',(hc3.mono fun _ e=>e.elim).trans c'⟩
 have HFR:Hid (∀ W U',Chg (fun x=>x=tk\/x=tk+1\/x=td) w1 U1 W U'->Chg (fun x=>x=tk\/x=tk+1\/x=td) w U W U'):=hid fun W U' hc=>(hc1.mono fun _ e=>e.elim).trans hc;have HLB:Hid (decide (m2.b<m.b)=false):=hid (by rw[decide_eq_false_iff_not];omega);have HLE:Hid (decide (m2.e<m.e)=false):=hid (by rw[decide_eq_false_iff_not];omega);have hlb:m.b<=m2.b:=hle.1;have hlb2:m.e<=m2.e:=hle.2;have HTK:Hid (tk+1<95/\td<95/\td≠tk/\td≠tk+1):=hid ⟨htk,htd⟩;have HW1:=hid hw1;have HPB:=hid hpb;have HK0:=hid (HKA.out w1 U1 (Chg.refl _ _ _));clear hK hD htk htd hn hat htn hok hle hy1 hy2 g1 g2 hpb hw1 hU1 hB1 hpK hc1 hok2;go_enter Tryz.func192,Tryz.ntmps192
 go_wp2_with fail
 rw[<- HW1.out,<- HPB.out]
 have HMS:Hid (∀ W U',Chg (fun x=>x=tk+1\/x=td) w1 U1 W U'->MsS s k pb m m2 W):=hid fun W U' h=>by obtain⟨a,b⟩:=HKA.out W U' h;exact⟨a.cell 0,a.cell 1,a.cell 2,b.cell 0,b.cell 1,b.cell 2,b.cell 3⟩
 have S0:=hid (HMS.out _ _ (Chg.refl _ w1 U1).drew);have hlb3:=HLB.out;have hle3:=HLE.out;refine wp_region_hl [1] [0,1,2,3,4,5,6,7,8,9,10,11,12,13,14,15,16,17,18,19,20] (MsS s k pb m m2) (by kernel_rfl) (by kernel_rfl) S0.out ?_;refine hd_take (v:=?_) rfl rfl (by kernel_rfl) (fun W hW=>?_) ?_;rotate_left;(obtain⟨r0,r1,r2,r3,r4,r5,r6⟩:=hW;first|(go_simp;done)|(go_simp;with_reducible rfl));refine hd_loud rfl rfl fun K hK=>?_;go_simp;refine(may224 _ m2 HOK.out).mono ?_;rintro e w2 ⟨rfl,hb1⟩;have HBL:Hid (Below w1.heap.size w1 w2):=hid ((Below.refl _ w1).drew.trans hb1);refine hK _ _ (HMS.out _ U1 ((Chg.same_own HBL.out).mono fun _ e=>e.elim)) ?_;clear hK hb1
 iterate 19 (refine hd_take (v:=?_) rfl rfl (by kernel_rfl) (fun W hW=>?_) ?_;rotate_left;(obtain⟨r0,r1,r2,r3,r4,r5,r6⟩:=hW;first|(go_simp;done)|(go_simp;with_reducible rfl)))
 refine hd_end ?_;simp only[zqa,zqb,zqc,zqd,Nat.zero_add,Nat.reduceAdd]
 go_wp2_with fail
 clear hlb3 hle3 S0;have HBL2:Hid (Below w1.heap.size w1 w2.drew):=hid HBL.out.drew;clear HBL;have S5:=hid (HMS.out _ U1 ((Chg.same_own HBL2.out).mono fun _ e=>e.elim));refine wp_region_hl [5] [0,1,2,3,4,5] (MsS s k pb m m2) (by kernel_rfl) (by kernel_rfl) S5.out ?_
 iterate 5 (refine hd_take (v:=?_) rfl rfl (by kernel_rfl) (fun W hW=>?_) ?_;rotate_left;(obtain⟨r0,r1,r2,r3,r4,r5,r6⟩:=hW;first|(go_simp;done)|(go_simp;with_reducible rfl)))
 refine hd_loud rfl rfl fun K hK=>?_;go_simp;refine(text227 _ m2 HOK3.out).mono ?_;rintro e w3 ⟨v,rfl,ho,hb⟩;obtain⟨b,c,rfl,a1,a2,a3⟩:=mtext_row m2 _ w3 v ho HOK3.out;have HSVE:=hid (HSV.out w2.drew HBL2.out w3 b c a1 a2 a3 hb);refine hK _ _ (HMS.out _ U1 ((Chg.same_own (HBL2.out.trans (hb.mono HBL2.out.size))).mono fun _ e=>e.elim)) (hd_end ?_);clear hK ho hb a1 a2 a3;simp only[zqa,zqb,zqc,zqd,Nat.zero_add,Nat.reduceAdd]
 go_wp2_with (go_at_call 185;fail)
 refine HSVE.out.mono ?_;rintro e wx ⟨rfl,U5,a1,a2,a3⟩;have hc5:Chg (fun x=>x=tk+1\/x=td) w1 U1 wx U5:=((Chg.same_own HBL2.out).mono fun _ e=>e.elim).trans a3;obtain⟨b1,b2⟩:=HKA.out wx U5 hc5;have HX:=hid (And.intro a1 (And.intro a2 (And.intro hc5 b1)));have s0:wx.cell? ⟨pb,0,none⟩=some (.int .i64 (m2.b:Int)):=b2.cell 0;have s1:wx.cell? ⟨pb,1,none⟩=some (.int .i64 (m2.e:Int)):=b2.cell 1;have s2:wx.cell? ⟨pb,2,none⟩=some (.int .i64 (m2.r:Int)):=b2.cell 2;have s3:wx.cell? ⟨pb,3,none⟩=some (.bool m2.f):=b2.cell 3;have q1:wx.cell? ⟨k,1,none⟩=some (.int .i64 (m.b:Int)):=b1.cell 1;have q2:wx.cell? ⟨k,2,none⟩=some (.int .i64 (m.e:Int)):=b1.cell 2;have q3:wx.cell? ⟨k,3,none⟩=some (.int .i64 (m.r:Int)):=b1.cell 3;have q4:wx.cell? ⟨k,4,none⟩=some (.bool m.f):=b1.cell 4;have p1:=b1.frozen 1;have p2:=b1.frozen 2;have p3:=b1.frozen 3;have p4:=b1.frozen 4;clear a1 a2 a3 hc5 b1 b2 HSVE HBL2 HSV HKA HMS
 go_wp2
 go_ret;obtain⟨a1,a2,hc5,b1⟩:=HX.out;have ht:=HTK.out
 have hcw:Chg (· = tk) wx U5 ((((wx.setCell ⟨k,1,none⟩ (.int .i64 (m2.b:Int))).setCell ⟨k,2,none⟩ (.int .i64 (m2.e:Int))).setCell ⟨k,3,none⟩ (.int .i64 (m2.r:Int))).setCell ⟨k,4,none⟩ (.bool m2.f)) U5:=
  ((((Chg.refl _ _ _).setCell (p:=⟨k,1,none⟩) b1.own _).setCell (p:=⟨k,2,none⟩) b1.own _).setCell (p:=⟨k,3,none⟩) b1.own _).setCell (p:=⟨k,4,none⟩) b1.own _
 refine⟨rfl,U5,⟨⟨s,?_,a1.keep hcw (by omega)⟩,HOK3.out⟩,a2.keep hcw (by omega),HFR.out _ _ ((hc5.mono fun _ e=>.inr e).trans (hcw.mono fun _ e=>.inl e))⟩;have:=(((b1.set_ 1 (.int .i64 (m2.b:Int))).set_ 2 (.int .i64 (m2.e:Int))).set_ 3 (.int .i64 (m2.r:Int))).set_ 4 (.bool m2.f)
 simpa using this
end Go.Proofs.Ytlhekbjidppijaa
