/- Contracts of what TopFall reaches: what each function returns and leaves in memory. Conditions: as named. -/
import Derived.Test.YtlhekbjidppijaaGreatMAQ
import Derived.Test.YtlhekbjidppijaaGreatMAY
set_option linter.unusedVariables false
set_option linter.unusedSimpArgs false
set_option maxRecDepth 20000
set_option maxHeartbeats 8000000
namespace Go.Proofs.Ytlhekbjidppijaa
open Lib (hid)
open Go.RowKit
structure OnDisk (Z:Cont)(from_ segs:Nat)(bodies:List (List UInt8)):Prop where
 ex:∃ S:Segs,LogOn Z from_ segs S/\S.flatMap (·.2)=bodies/\(∀ p∈S,p.2≠[])/\S.map (·.2)=pack bodies/\(∀ p∈S,used p.2<=378)/\S.length<=segs
theorem LogAt.disk {w:World}{U:Own}{t lp d from_ segs:Nat}{fr:Bool}{Z:Cont}{bodies:List (List UInt8)}(h:LogAt w U t lp d from_ segs fr none Z bodies)(hl:bodies.length<=segs):OnDisk Z from_ segs bodies:=by
 obtain⟨S,a,b,c,e,q⟩:=h.ex;refine⟨S,e rfl,b,c,q,fun p hp=>?_,by have:=segs_le S c;rw[b]at this;omega⟩;obtain⟨k,hk,rfl⟩:=List.mem_iff_getElem.1 hp;exact((a.seg k S[k] (List.getElem?_eq_getElem hk)).ex.elim fun _ h=>h.elim fun _ h=>h.elim fun _ h=>h.elim fun _ h=>h.2.2.1)
theorem OnDisk.congr {Z Z':Cont}{from_ segs:Nat}{bodies:List (List UInt8)}(h:OnDisk Z from_ segs bodies)(he:∀ j,from_<=j->j<from_+segs*8->Z' j=Z j):OnDisk Z' from_ segs bodies:=by
 obtain⟨S,a,b⟩:=h.ex;exact⟨S,a.congr he,b⟩
theorem SegAt.life {w:World}{U:Own}{tg tb g k base ct:Nat}{bodies:List (List UInt8)}(h:SegAt w U tg tb g k none base bodies)(hne:bodies≠[])(hle:base+bodies.length<=ct):SegAt w U tg tb g k (some ct) base bodies:=by
 have hz:∀ i,i<ct->pz (some ct) i=pz none i:=fun i hi=>by simp only[pz];rw[if_pos hi]
 have hp:0<bodies.length:=List.length_pos_iff.2 hne
 have hb:∀ (ls:List (List UInt8)) (b:Nat),b+ls.length<=ct->segB (some ct) b ls=segB none b ls:=by
  intro ls
  induction ls with
  | nil=>intro b _;rfl
  | cons l ls ih=>intro b hb;simp only[List.length_cons]at hb;simp only[segB];rw[hz b (by omega),ih (b+1) (by omega)]
 have hr:∀ (vs:List Value) (b:Nat),b+vs.length<=ct->rcells (some ct) b vs=rcells none b vs:=by
  intro vs
  induction vs with
  | nil=>intro b _;rfl
  | cons l ls ih=>intro b hb;simp only[List.length_cons]at hb;simp only[rcells];rw[hz b (by omega),ih (b+1) (by omega)]
 obtain⟨b',rn,rv,vs,a1,a2,a3,a5,a6,a7⟩:=h.ex;refine⟨b',rn,rv,vs,?_,?_,a3,?_,a6,a7⟩
 ·rw[hz base (by omega)];exact a1
 ·rw[hb bodies base hle];exact a2
 ·rw[hr vs base (by omega)];exact a5
structure OG (w:World)(U:Own)(t td lp d from_ segs n nxt rc:Nat)(Z:Cont)(F:Nat->Prop)(vL vr:Value)(S:Segs)(W:World)(U':Own):Prop where
 hl:Has W U' t lp 328 #[ptr d,.int .i64 (from_:Int),.int .i64 (segs:Int),vL,.int .i64 (nxt:Int),.int .i64 (rc:Int),.bool true]
 hr:Rw W U' (t+96) 354 1 vr S.length S.ptrs
 hs:∀ k p,S[k]? = some p->SegAt W U' (t+96*(k+3)) (t+192) p.1 k none ((S.take k).flatMap (·.2)).length p.2
 hd:DevAt W U' td d n Z F
 hc:Chg (fun x=>x%96=t) w U W U'
 ht:t<95/\td<95/\td≠t
section
variable {w W W' : World} {U U' U2 : Own} {t td lp d from_ segs n nxt rc : Nat} {Z : Cont} {F : Nat -> Prop} {vL vr : Value} {S : Segs}
theorem OG.quiet (h:OG w U t td lp d from_ segs n nxt rc Z F vL vr S W U')(hc:Chg (fun _=>False) W U' W' U2):OG w U t td lp d from_ segs n nxt rc Z F vL vr S W' U2:=
 ⟨h.hl.keep hc id,h.hr.keep hc id,fun k p hp=>(h.hs k p hp).keep hc id id,h.hd.keep hc id,h.hc.trans (hc.mono fun _ e=>e.elim),h.ht⟩
theorem OG.drewN (h:OG w U t td lp d from_ segs n nxt rc Z F vL vr S W U')(m:Nat):OG w U t td lp d from_ segs n nxt rc Z F vL vr S (W.drewN m) U':=h.quiet ((Chg.refl _ _ _).drewN m)
theorem OG.alloc (h:OG w U t td lp d from_ segs n nxt rc Z F vL vr S W U')(o:Obj):OG w U t td lp d from_ segs n nxt rc Z F vL vr S (W.alloc o) (ext U' W 95):=h.quiet (((Chg.refl _ _ _).alloc o).ext 95)
theorem OG.setL (h:OG w U t td lp d from_ segs n nxt rc Z F vL vr S W U')(i:Nat)(u:Value)(nxt':Nat)(vL':Value)
 (he:(#[ptr d,.int .i64 (from_:Int),.int .i64 (segs:Int),vL,.int .i64 (nxt:Int),.int .i64 (rc:Int),.bool true]:Array Value).setIfInBounds i u=#[ptr d,.int .i64 (from_:Int),.int .i64 (segs:Int),vL',.int .i64 (nxt':Int),.int .i64 (rc:Int),.bool true]) :
 OG w U t td lp d from_ segs n nxt' rc Z F vL' vr S (W.setCell ⟨lp,i,none⟩ u) U':=by
 have ht:=h.ht;have hc:Chg (· = t) W U' (W.setCell ⟨lp,i,none⟩ u) U':=(Chg.refl _ W U').setCell (p:=⟨lp,i,none⟩) h.hl.own u;exact⟨by have:=h.hl.set_ i u;rwa [he]at this,h.hr.keep hc (by omega),fun k p hp=>(h.hs k p hp).keep hc (by omega) (by omega),h.hd.keep hc (by omega),h.hc.trans (hc.mono fun x e=>by omega),ht⟩
theorem OG.app (h:OG w U t td lp d from_ segs n nxt rc Z F vL vr S W U'){v:Value}{g:Nat}{bs:List (List UInt8)}(hg:SegAt W U' (t+96*(S.length+3)) (t+192) g S.length none (S.flatMap (·.2)).length bs)
 (hR:Rw W' U2 (t+96) 354 1 v (S.length+1) (S.ptrs++[ptr g]))(hc:Chg (· = t+96) W U' W' U2):OG w U t td lp d from_ segs n nxt rc Z F vL v (S++[(g,bs)]) W' U2:=by
 have ht:=h.ht;refine⟨h.hl.keep hc (by omega),?_,fun k p hp=>?_,h.hd.keep hc (by omega),h.hc.trans (hc.mono fun x e=>by omega),ht⟩
 ·rw[List.length_append]
  have e:Segs.ptrs (S++[(g,bs)])=S.ptrs++[ptr g]:=by simp[Segs.ptrs]
  rw[e];exact hR
 ·rcases Nat.lt_trichotomy k S.length with h1|h1|h1
  ·rw[List.getElem?_append_left h1]at hp
   rw[List.take_append_of_le_length (by omega)];exact(h.hs k p hp).keep hc (by omega) (by omega)
  ·subst h1
   rw[List.getElem?_append_right (Nat.le_refl _),Nat.sub_self]at hp;simp only[List.getElem?_cons_zero,Option.some.injEq]at hp;subst hp;rw[List.take_left' rfl];exact hg.keep hc (by omega) (by omega)
  ·rw[List.getElem?_eq_none (by simp;omega)]at hp
   cases hp
end
theorem flat_map_eq (S S':Segs)(h:S'.map (·.2)=S.map (·.2)):S'.flatMap (·.2)=S.flatMap (·.2):=by
 rw[List.flatMap_def,List.flatMap_def];have e1:S'.map (fun x=>x.2)=S.map (fun x=>x.2):=h;rw[e1]
theorem open255 (w:World)(U:Own)(t td d n from_ segs:Nat)(Z:Cont)(F:Nat->Prop)(bodies:List (List UInt8))(hD:DevAt w U td d n Z F)(ht:t<95)(htd:td<95)(hne:td≠t)(hs:3<=segs)(hs2:segs<=200)(hn:from_+segs*8<=n)(hn2:n<=2048)
 (hon:OnDisk Z from_ segs bodies)(hpk:(pack bodies).length<=12)(hbl:bodies.length<=1000)(hok:∀ l∈bodies,1<=l.length/\l.length<=300) :
 Calls Tryz.prog 255 #[.pointer (some ⟨d,0,none⟩),.int .i64 (from_:Int),.int .i64 (segs:Int)] w fun e w'=>∃ lp U',e=.returned (.tuple #[.pointer (some ⟨lp,0,none⟩),.int .i64 0])/\LogAt w' U' t lp d from_ segs true (if bodies=[] then none else some bodies.length) Z bodies/\DevAt w' U' td d n Z F/\Chg (fun x=>x%96=t) w U w' U':=by
 obtain⟨lf,hlf⟩:∃ lf:Lf,lf=if bodies=[] then none else some bodies.length:=⟨_,rfl⟩
 rw[<- hlf];have HLF:=hid hlf;clear hlf;obtain⟨S,hS1,hS2,hS3,hS4,hS5,hS6⟩:=hon.ex
 have hS12:S.length<=12:=by have:=congrArg List.length hS4;rw[List.length_map]at this;omega
 have hSB:∀ p∈S,p.2.length<=1000/\∀ l∈p.2,1<=l.length/\l.length<=300:=fun p hp=>by
  have hm:∀ l∈p.2,l∈bodies:=fun l hl=>by rw[<- hS2];exact List.mem_flatMap.2 ⟨p,hp,hl⟩
  refine⟨?_,fun l hl=>hok l (hm l hl)⟩;obtain⟨k,hk,rfl⟩:=List.mem_iff_getElem.1 hp;have h1:=flat_at S k S[k] (List.getElem?_eq_getElem hk);have h2:=List.take_append_drop (k+1) S;have h3:=congrArg (fun x=>(x.flatMap (·.2)).length) h2;simp only[List.flatMap_append,List.length_append]at h3;rw[h1,List.length_append,hS2]at h3;omega
 have hJ:∀ k,k<=S.length->((S.take k).flatMap (·.2)).length<=bodies.length:=fun k hk=>by
  have h2:=List.take_append_drop k S;have h3:=congrArg (fun x=>(x.flatMap (·.2)).length) h2;simp only[List.flatMap_append,List.length_append]at h3;rw[hS2]at h3;omega
 obtain⟨W1,hW1⟩:∃ W,W=w.alloc (.cells #[.int .i64 (segs:Int)] 3):=⟨_,rfl⟩;obtain⟨sb,hsb⟩:∃ b,b=w.heap.size:=⟨_,rfl⟩
 have hD1:DevAt W1 U td d n Z F:=by rw[hW1];exact hD.keep ((Chg.refl (fun _=>False) w U).alloc _) id
 have HLEN:Hid (∀ j,Calls Tryz.prog 175 #[.pointer (some ⟨d,0,none⟩)] (W1.drewN j) fun e w''=>e=.returned (.int .i64 (n:Int))/\∃ m,w''=W1.drewN m):=hid fun j=>(len_any (W1.drewN j) U td d n Z F (hD1.drewN j)).mono fun e w' ⟨h1,h2⟩=>⟨h1,j,h2⟩
 obtain⟨U1,hU1⟩:∃ U1:Own,U1=fun k=>if k<w.heap.size then U k else if k=w.heap.size then 95 else t:=⟨_,rfl⟩
 have HOG:Hid (∀ m,OG w U t td (sb+1) d from_ segs n 1 1 Z F (.slice none 0 0) (.slice none 0 0) [] ((W1.drewN m).alloc (.cells #[.pointer (some ⟨d,0,none⟩),.int .i64 (from_:Int),.int .i64 (segs:Int),.slice none 0 0,.int .i64 1,.int .i64 1,.bool true] 328)) U1/\Has ((W1.drewN m).alloc (.cells #[.pointer (some ⟨d,0,none⟩),.int .i64 (from_:Int),.int .i64 (segs:Int),.slice none 0 0,.int .i64 1,.int .i64 1,.bool true] 328)) U1 95 sb 3 #[.int .i64 (segs:Int)]):=hid fun m=>by
  have hc:Chg (fun _=>False) w U ((W1.drewN m).alloc (.cells #[.pointer (some ⟨d,0,none⟩),.int .i64 (from_:Int),.int .i64 (segs:Int),.slice none 0 0,.int .i64 1,.int .i64 1,.bool true] 328)) U1:=by
   rw[hW1]
   exact((((Chg.refl (fun _=>False) w U).alloc _).drewN m).alloc _).reown fun k hk=>by rw[hU1];simp[hk]
  refine⟨⟨⟨?_,?_⟩,Rw.nil _ _ _ _ _,fun k p hp=>by simp at hp,hD.keep hc id,hc.mono fun _ e=>e.elim,ht,htd,hne⟩,?_,?_⟩
  ·have:=Blk.new (W1.drewN m) 328 #[.pointer (some ⟨d,0,none⟩),.int .i64 (from_:Int),.int .i64 (segs:Int),.slice none 0 0,.int .i64 1,.int .i64 1,.bool true]
   have e:(W1.drewN m).heap.size=sb+1:=by rw[hW1,hsb];simp
   rw[e]at this;exact this
  ·rw[hU1,hsb];simp;omega
  ·rw[hW1,hsb];exact((Blk.new w 3 #[.int .i64 (segs:Int)]).drewN m).alloc _
  ·rw[hU1,hsb];simp
 have HRW:Hid (∀ k W U' S' rc vL,k<S.length->S'.map (·.2)=(S.take k).map (·.2)->OG w U t td (sb+1) d from_ segs n 1 rc Z F vL vL S' W U'->(rc=1\/rc=2)->Calls Tryz.prog 274 #[.pointer (some ⟨sb+1,0,none⟩),.int .i64 (k:Int)] W fun e w'=>∃ g,e=.returned (.pointer (some ⟨g,0,none⟩))/\∃ U2 bs,OG w U t td (sb+1) d from_ segs n 1 2 Z F vL vL S' w' U2/\Chg (fun x=>x%96=t) W U' w' U2/\SegAt w' U2 (t+96*(S'.length+3)) (t+192) g S'.length none (S'.flatMap (·.2)).length bs/\(S'++[(g,bs)]).map (·.2)=(S.take (k+1)).map (·.2)):=hid fun k W U' S' rc vL hk hm h hrc=>by
  have hlen:S'.length=k:=by have:=congrArg List.length hm;simp only[List.length_map,List.length_take]at this;omega
  have hp:S[k]? = some S[k]:=List.getElem?_eq_getElem hk;have hmem:S[k]∈S:=List.getElem_mem hk;have hfl:=flat_map_eq (S.take k) S' hm;refine(read_w W U' t td (sb+1) d from_ segs n 1 k rc ((S.take k).flatMap (·.2)).length true vL Z F S[k].2 h.hl h.hd h.ht (by omega) hn2 (by omega) (fun i hi=>?_) hrc (hS3 _ hmem) (hS5 _ hmem) (by have:=hJ k (by omega);omega) (hSB _ hmem).1 (hSB _ hmem).2).mono ?_
  ·have:=hS1 k (by omega) i hi
   rw[hp]at this;exact this
  rintro e w' ⟨g,U2,rfl,a,b,c,e2⟩;refine⟨g,rfl,U2,S[k].2,⟨a,h.hr.keep e2 (by omega),fun j p hj=>?_,c,h.hc.trans (e2.mono fun x hx=>by omega),h.ht⟩,e2.mono fun x hx=>by omega,?_,?_⟩
  ·have hj2:=(List.getElem?_eq_some_iff.1 hj).1
   exact(h.hs j p hj).keep e2 (by omega) (by omega)
  ·rw[hlen,hfl];exact b
  ·rw[List.map_append,hm,List.take_succ_eq_append_getElem hk,List.map_append];rfl
 have HRZ:Hid (∀ k W U' S' rc vL,S.length<=k->k<segs->OG w U t td (sb+1) d from_ segs n 1 rc Z F vL vL S' W U'->(rc=1\/rc=2)->Calls Tryz.prog 274 #[.pointer (some ⟨sb+1,0,none⟩),.int .i64 (k:Int)] W fun e w'=>e=.returned (.pointer none)/\∃ U2,OG w U t td (sb+1) d from_ segs n 1 rc Z F vL vL S' w' U2/\Chg (fun x=>x=t) W U' w' U2):=hid fun k W U' S' rc vL hk hks h hrc=>by
  refine(read274 W U' t td (sb+1) d from_ segs n 1 k rc true vL Z F h.hl h.hd (Ne.symm hne) (by omega) hn2 (fun i hi=>?_) (by omega)).mono ?_
  ·have:=hS1 k hks i hi
   rw[List.getElem?_eq_none hk]at this;exact this
  rintro e w' ⟨rfl,U2,a,b,c⟩;exact⟨rfl,U2,⟨a,h.hr.keep c (by omega),fun j p hj=>(h.hs j p hj).keep c (by omega) (by omega),b,h.hc.trans (c.mono fun x hx=>by omega),h.ht⟩,c⟩
 have HS:Hid (S.length<=12/\S.length<=segs/\S.flatMap (·.2)=bodies/\(∀ p∈S,p.2≠[])/\S.map (·.2)=pack bodies/\LogOn Z from_ segs S/\bodies.length<=1000):=hid ⟨hS12,hS6,hS2,hS3,hS4,hS1,hbl⟩;have HT:Hid (t<95/\td<95/\td≠t/\segs<=200/\n<=2048):=hid ⟨ht,htd,hne,hs2,hn2⟩
 have e1:w.heap.size+1=sb+1:=by rw[hsb]
 have HSB:=hid hsb;have HW1:=hid hW1
 have c0:W1.cell? ⟨sb,0,none⟩=some (.int .i64 (segs:Int)):=by rw[hW1,hsb];exact(Blk.new w 3 #[.int .i64 (segs:Int)]).cell 0
 have k1:decide ((segs:Int)<3)=false:=by rw[decide_eq_false_iff_not];omega
 have k2:decide (200<(segs:Int))=false:=by rw[decide_eq_false_iff_not];omega
 have k3:decide ((from_:Int)<0)=false:=by rw[decide_eq_false_iff_not];omega
 have k4:decide ((n:Int)-(segs:Int)*8<(from_:Int))=false:=by rw[decide_eq_false_iff_not];omega
 have k5:(segs:Int)<=200:=by omega
 have k6:(n:Int)<=2048:=by omega
 have k7:(from_:Int)<=2048:=by omega
 have k8:(0:Int)<=(segs:Int):=by omega
 have hsz:W1.heap.size=sb+1:=by rw[hW1,hsb];simp
 clear hD hD1 ht hs hs2 hn hn2 htd e1 hW1 hsb hne hS1 hS2 hS3 hS4 hS5 hS6 hS12 hSB hJ hon hpk hbl hok hU1;go_enter Tryz.func255,Tryz.ntmps255
 go_wp2_with fail
 rw[<- HW1.out,<- HSB.out]
 go_quiet (exact HLEN.out _)
 go_wp2_with fail
 have HO:=hid (HOG.out nq);generalize (W1.drewN nq).alloc (.cells #[.pointer (some ⟨d,0,none⟩),.int .i64 (from_:Int),.int .i64 (segs:Int),.slice none 0 0,.int .i64 1,.int .i64 1,.bool true] 328)=W2 at *;clear HOG HLEN hsz c0;have c0:W2.cell? ⟨sb,0,none⟩=some (.int .i64 (segs:Int)):=HO.out.2.cell 0
 go_wp2_with fail
 clear c0
 go_loopw [43] (fun i wr=>∃ (k rc:Nat) (U':Own) (S':Segs) (vL:Value),k<=segs/\i=.int .i64 (k:Int)/\S'.map (·.2)=(S.take k).map (·.2)/\rc=(if S'.length=0 then 1 else 2)/\OG w U t td (sb+1) d from_ segs n 1 rc Z F vL vL S' wr U'/\Has wr U' 95 sb 3 #[.int .i64 (segs:Int)]) (fun i _=>segs-(intOf i).toNat)
 case atStart=>exact⟨0,1,_,[],_,Nat.zero_le _,rfl,rfl,rfl,HO.out⟩
 case round=>
  obtain⟨k,rc,U',S',vL,hk,rfl,hm,hrc,hog,hbx⟩:=hrel;clear HO;have HO:=hid (And.intro hog hbx);have HM:=hid hm;have HRC:=hid hrc
  have hr12:rc=1\/rc=2:=by rw[hrc];split <;> simp
  clear hog hbx hm hrc
  by_cases hlt:k<segs
  ·have j1:(k:Int)<(segs:Int):=by omega
   by_cases hkS:k<S.length
   ·go_wp2_with fail
    refine(HRW.out k wr U' S' rc vL hkS HM.out HO.out.1 hr12).mono ?_;rintro e w1 ⟨g,rfl,U2,bs,h2,h3,h4,h5⟩;have ht:=HT.out;have HO2:=hid (And.intro h2 (And.intro h4 (And.intro h5 (HO.out.2.keep h3 (by omega)))));clear h2 h3 h4 h5 ht;have c3:(w1.alloc (.cells #[ptr g] 354)).cell? ⟨sb+1,3,none⟩=some vL:=(HO2.out.1.alloc _).hl.cell 3;have c3':w1.cell? ⟨sb+1,3,none⟩=some vL:=HO2.out.1.hl.cell 3
    have hlen:S'.length<=12:=by have:=congrArg List.length HM.out;simp only[List.length_map,List.length_take]at this;have:=HS.out.1;omega
    have HQA:Hid (Chg (fun _=>False) w1 U2 (w1.alloc (.cells #[ptr g] 354)) (ext U2 w1 95)):=hid (((Chg.refl _ _ _).alloc _).ext 95);have HOA:=hid (HO2.out.1.quiet HQA.out)
    go_wp2_with (at_builtin;refine wpl_app rfl rfl (ext U2 w1 95) (t+96) (by kernel_rfl) info354 rfl (by decide) (by decide) rfl HOA.out.hr rfl rfl (Blk.new w1 354 #[ptr g]).sl (by intro u hu;simp at hu;subst hu;rfl) (by omega) ?_)
    intro b3 cc3 w6 hR hC hG;have HO3:=hid (HOA.out.app (HO2.out.2.1.keep HQA.out id id) hR hC);have ht:=HT.out;have HBX:=hid ((HO2.out.2.2.2.keep HQA.out id).keep hC (by omega));have HM2:=hid HO2.out.2.2.1;clear hR hC hG HOA HQA HO2 c3 c3';have hf:=HO3.out.hl.frozen 3;have hc3:=HO3.out.hl.cell 3;have HO4:=hid (And.intro (HO3.out.setL 3 (.slice (some ⟨b3,0,none⟩) (S'.length+1) cc3) 1 _ rfl) (HBX.out.far (p:=⟨sb+1,3,none⟩) (by show sb≠sb+1;omega) (.slice (some ⟨b3,0,none⟩) (S'.length+1) cc3)));clear ht HO3 HBX
    go_wp2
    go_roundw
    case rel=>exact⟨k+1,2,_,S'++[(g,bs)],_,by omega,by go_num,HM2.out,by simp,HO4.out⟩
    case measure=>simp[intOf];omega
   ·go_wp2_with fail
    refine(HRZ.out k wr U' S' rc vL (by omega) hlt HO.out.1 hr12).mono ?_;rintro e w1 ⟨rfl,U2,h2,h3⟩;have ht:=HT.out;have HO2:=hid (And.intro h2 (HO.out.2.keep h3 (by omega)));clear h2 h3;have HM2:Hid (S'.map (·.2)=(S.take (k+1)).map (·.2)):=hid (by rw[List.take_of_length_le (by omega),HM.out,List.take_of_length_le (by omega)])
    go_wp2
    go_roundw
    case rel=>exact⟨k+1,rc,U2,S',vL,by omega,by go_num,HM2.out,HRC.out,HO2.out⟩
    case measure=>simp[intOf];omega
  ·obtain rfl:k=segs:=by omega
   have hm:=HM.out;rw[List.take_of_length_le HS.out.2.1]at hm
   have h12:S'.length<=12:=by have:=congrArg List.length hm;have:=HS.out.1;simp only[List.length_map]at *;omega
   obtain⟨A,cL,rfl,-,-,-,hsl,hA,hA2⟩:=HO.out.1.hr.slice;have c3:wr.cell? ⟨sb+1,3,none⟩=some (.slice A S'.length cL):=HO.out.1.hl.cell 3
   have HSO:=hid (sort275 wr A S'.length cL S'.ptrs hsl (Segs.ptrs_length S') h12 fun m i hi=>by
    rw[Segs.ptrs_length]at hi;have ho:=HO.out.1.drewN m;obtain⟨_,_,_,_,a1,_⟩:=(ho.hs (i+1) S'[i+1] (List.getElem?_eq_getElem hi)).ex;obtain⟨_,_,_,_,a2,_⟩:=(ho.hs i S'[i] (List.getElem?_eq_getElem (by omega))).ex
    have e1:S'.ptrs[i+1]=.pointer (some ⟨S'[i+1].1,0,none⟩):=by simp[Segs.ptrs,ptr]
    have e2:S'.ptrs[i]=.pointer (some ⟨S'[i].1,0,none⟩):=by simp[Segs.ptrs,ptr]
    rw[e1,e2];refine(cmp276 (wr.drewN m) _ _ (i+1+1) (i+1) (a1.cell 0) (a2.cell 0) (by omega) (by omega)).mono ?_;rintro e w' ⟨rfl,rfl⟩
    exact⟨rfl,m+1,rfl⟩)
   have HMS:=hid hm;clear hm
   go_wp2_with fail
   refine HSO.out.mono ?_;rintro e w1 ⟨⟨v,rfl⟩,m,rfl⟩;have HO1:=hid (And.intro (HO.out.1.drewN m) (HO.out.2.drewN m));clear HSO HO c3;have c3:(wr.drewN m).cell? ⟨sb+1,3,none⟩=some (.slice A S'.length cL):=HO1.out.1.hl.cell 3;generalize wr.drewN m=w1 at *
   have hfl:S'.flatMap (·.2)=bodies:=by rw[flat_map_eq S S' HMS.out];exact HS.out.2.2.1
   have hnn:∀ p∈S',p.2≠[]:=fun p hp=>by
    have:p.2∈S.map (·.2):=by rw[<- HMS.out];exact List.mem_map.2 ⟨p,hp,rfl⟩
    obtain⟨q,hq,e⟩:=List.mem_map.1 this;rw[<- e];exact HS.out.2.2.2.1 q hq
   have hon:LogOn Z from_ k S':=fun j hj i hi=>by
    rw[HS.out.2.2.2.2.2.1 j hj i hi];have e1:(S'.take j).flatMap (·.2)=(S.take j).flatMap (·.2):=flat_map_eq _ _ (by rw[List.map_take,List.map_take,HMS.out])
    have e2:S'[j]?.map (·.2)=S[j]?.map (·.2):=by rw[<- List.getElem?_map,<- List.getElem?_map,HMS.out]
    rw[e1]
    cases h1:S'[j]? with
    | none=>rw[h1]at e2;cases h2:S[j]? with
     | none=>rfl
     | some q=>rw[h2]at e2;cases e2
    | some p=>rw[h1]at e2;cases h2:S[j]? with
     | none=>rw[h2]at e2;cases e2
     | some q=>rw[h2]at e2;simp only[Option.map_some,Option.some.injEq]at e2;simp only[e2]
   have HLO:=hid (And.intro hfl (And.intro hnn (And.intro hon (HMS.out.trans HS.out.2.2.2.2.1))));clear hfl hnn hon
   by_cases h0:S'.length=0
   ·have hs0:S'=[]:=List.eq_nil_of_length_eq_zero h0
    have hr1:rc=1:=by rw[HRC.out,if_pos h0]
    have HFIN:Hid (LogAt w1 U' t (sb+1) d from_ k true lf Z bodies):=hid (by
     have hb0:bodies=[]:=by rw[<- HLO.out.1,hs0];rfl
     have ho:=HO1.out.1;rw[hs0,hr1]at ho;have hlo:=HLO.out;rw[hs0]at hlo;rw[HLF.out,if_pos hb0,hb0]
     exact⟨⟨[],⟨HT.out.1,⟨_,ho.hl,ho.hr⟩,fun j p hp=>by simp at hp⟩,rfl,by simp,fun _=>hlo.2.2.1,rfl⟩,fun c e=>by cases e⟩)
    have k9:¬ ((0:Int)<(S'.length:Int)):=by omega
    clear hs0 hr1 hr12 h12
    go_wp2
    go_ret2
    exact⟨sb+1,U',rfl,HFIN.out,HO1.out.1.hd,HO1.out.1.hc⟩
   ·have hr2:rc=2:=by rw[HRC.out,if_neg h0]
    obtain⟨nl,hnl⟩:∃ nl,S'.length=nl+1:=⟨S'.length-1,by omega⟩
    have hlt2:nl<S'.length:=by omega
    obtain⟨gl,hgl⟩:∃ gl,gl=S'[nl].1:=⟨_,rfl⟩;obtain⟨bl,hbl⟩:∃ bl,bl=S'[nl].2:=⟨_,rfl⟩;obtain⟨j0,hj0⟩:∃ j0,j0=((S'.take nl).flatMap (·.2)).length:=⟨_,rfl⟩
    have hbl0:bl≠[]:=by rw[hbl];exact HLO.out.2.1 _ (List.getElem_mem hlt2)
    have hlast:j0+bl.length=bodies.length:=by
     have h1:=flat_at S' nl S'[nl] (List.getElem?_eq_getElem hlt2);rw[List.take_of_length_le (by omega),HLO.out.1]at h1;rw[h1,List.length_append,<- hj0,<- hbl]
    obtain⟨a,rfl⟩:∃ a,A=some ⟨a,0,none⟩:=by
     cases A with
     | none=>exact absurd (hA rfl).1 (by omega)
     | some a=>
      obtain⟨b,o,s⟩:=a;obtain⟨rfl,rfl,_⟩:=hA2 _ rfl;exact⟨b,rfl⟩
    have hsl1:Sl w1 (some ⟨a,0,none⟩) S'.ptrs:=by
     obtain⟨A',c',e,-,-,-,h,-⟩:=HO1.out.1.hr.slice
     cases e
     exact h
    have c4:w1.cell? ⟨a,nl,none⟩=some (.pointer (some ⟨gl,0,none⟩)):=by
     have e:S'.ptrs[nl]? = some (ptr gl):=by rw[hgl];simp[Segs.ptrs,hlt2]
     obtain⟨b',o',h7,h8⟩:=hsl1 (by intro h;rw[h]at e;cases e)
     cases h7
     have:=h8 _ _ e
     rwa [Nat.zero_add]at this
    obtain⟨vg,hvg⟩:∃ b,b=w1.heap.size:=⟨_,rfl⟩;obtain⟨w2,hw2⟩:∃ W,W=w1.alloc (.cells #[.pointer (some ⟨gl,0,none⟩)] 354):=⟨_,rfl⟩
    have hq:Chg (fun _=>False) w1 U' w2 (ext U' w1 95):=by rw[hw2];exact((Chg.refl _ _ _).alloc _).ext 95
    have HO2:=hid (And.intro (HO1.out.1.quiet hq) (And.intro (HO1.out.2.keep hq id) (show Has w2 (ext U' w1 95) 95 vg 354 #[.pointer (some ⟨gl,0,none⟩)] from by rw[hw2,hvg];exact⟨Blk.new _ _ _,ext_new (Nat.le_refl _)⟩)));obtain⟨bvv,rn,rvv,vs,g1,-,-,g5,g6,-⟩:=(HO2.out.1.hs nl S'[nl] (List.getElem?_eq_getElem hlt2)).ex;rw[<- hgl,<- hj0]at g1;rw[<- hbl,<- hj0]at g5;rw[<- hbl]at g6;have HGL:=hid g1;have hks:k<=200:=HT.out.2.2.2.1
    have hnk:nl<k:=by have:=HS.out.2.1;have:=congrArg List.length HMS.out;simp only[List.length_map]at this;omega
    have HDEL:Hid (Calls Tryz.prog 268 #[.slice (some ⟨a,0,none⟩) S'.length cL,.func (.func 277) #[] #[.pointer (some ⟨vg,0,none⟩),.pointer (some ⟨sb,0,none⟩)]] w2 fun e w'=>e=.returned (.slice (some ⟨a,0,none⟩) S'.length cL)/\∃ m,w'=w2.drewN m):=hid (by
     refine del268b w2 (some ⟨a,0,none⟩) S'.length cL S'.ptrs _ _ (hsl1.keep hq.below) (Segs.ptrs_length S') (by omega) fun m i hi=>?_;rw[Segs.ptrs_length]at hi;obtain⟨_,_,_,_,a1,_⟩:=((HO2.out.1.drewN m).hs i S'[i] (List.getElem?_eq_getElem hi)).ex
     have e1:S'.ptrs[i]=.pointer (some ⟨S'[i].1,0,none⟩):=by simp[Segs.ptrs,ptr]
     rw[e1];refine(open277 (w2.drewN m) S'[i].1 vg sb gl k i nl (a1.cell 0) ((HO2.out.2.2.drewN m).cell 0) ((HGL.out.drewN m).cell 0) ((HO2.out.2.1.drewN m).cell 0) hnk (by omega)).mono ?_;rintro e w' ⟨rfl,rfl⟩
     exact⟨rfl,m+1,rfl⟩)
    have HW2:=hid hw2;have HVG:=hid hvg;have HG5:=hid (And.intro g5 g6);have HBL:=hid (And.intro hbl0 (And.intro hlast (And.intro hr2 hnl)))
    have q1:(0:Int)<(S'.length:Int):=by omega
    have q2:(0:Int)<=(S'.length:Int)-1/\(S'.length:Int)-1<(S'.length:Int):=by omega
    have q3:((S'.length:Int)-1).toNat=nl:=by omega
    have q4:(S'.length:Int)<=100:=by omega
    have hmf:∀ fn first cap w,(Instr.makeFunc fn first cap).run Tryz.prog w=.ok (.func fn first cap) w:=fun _ _ _ _=>rfl
    have c5:(w1.alloc (.cells #[.pointer (some ⟨gl,0,none⟩)] 354)).cell? ⟨sb+1,3,none⟩=some (.slice (some ⟨a,0,none⟩) S'.length cL):=by rw[<- hw2];exact HO2.out.1.hl.cell 3
    clear hgl hbl hj0 hbl0 hlast hsl1 hvg hw2 hq g1 g5 g6 hr2 hnl hlt2 hks hnk h12 hr12 h0
    go_wp2_with fail
    rw[<- HW2.out,<- HVG.out];clear c3 c4 c5 q1 q2 q3 hmf;refine HDEL.out.mono ?_;rintro e w3 ⟨rfl,m,rfl⟩;have HO3:=hid (And.intro (HO2.out.1.drewN m) (And.intro (HO2.out.2.1.drewN m) (And.intro (HO2.out.2.2.drewN m) (HGL.out.drewN m))));have HR5:=hid (And.intro (HG5.out.1.drewN m) HG5.out.2);clear HDEL HO2 HGL HG5;generalize w2.drewN m=w3 at HO3 HR5 ⊢;generalize ext U' w1 95=U3 at HO3 HR5 ⊢;have hf:=HO3.out.1.hl.frozen 3;have hc3:=HO3.out.1.hl.cell 3;obtain⟨X,cx,rfl,-,-,-,h5,-,-⟩:=HR5.out.1.slice;have hk0:0<bl.length:=List.length_pos_iff.2 HBL.out.1;obtain⟨kk,hkk⟩:∃ kk,bl.length=kk+1:=⟨bl.length-1,by omega⟩;have hrg:=(rcells_get none j0 vs kk (by rw[HR5.out.2];omega)).1;obtain⟨xb,xo,rfl,hx⟩:=h5 (by intro e;rw[e]at hrg;simp at hrg);have hx1:=hx _ _ hrg;obtain⟨P0,hP0⟩:∃ P,P=pz none j0:=⟨_,rfl⟩;obtain⟨P1,hP1⟩:∃ P,P=pz none (j0+kk):=⟨_,rfl⟩;rw[<- hP1]at hx1;have HG3:Hid (Has w3 U3 (t+96*(nl+3)) gl 353 #[.int .i64 ((nl+1:Nat):Int),.int .i64 (P0:Int),.int .i64 (rn:Int),bvv,.slice (some ⟨xb,xo,none⟩) bl.length cx]):=hid (by rw[hP0];exact HO3.out.2.2.2)
    have HX1:Hid (w3.cell? ⟨xb,xo+2*kk,none⟩=some (.int .i64 (P1:Int))/\xb<w3.heap.size/\U3 xb=t+96*(nl+3)):=hid ⟨hx1,by
     obtain⟨A',c',e,-,-,-,-,-,h9⟩:=HR5.out.1.slice
     cases e
     exact⟨(h9 _ rfl).2.2.1,(h9 _ rfl).2.2.2⟩⟩
    have HBV:=hid HO3.out.2.2.1;have HLP:=hid HO3.out.1.hl;have ht9:=HT.out.1
    have hne1:gl≠sb+1:=by rintro rfl;have h1:=HG3.out.own;have h2:=HLP.out.own;rw[h1]at h2;omega
    have hne2:vg≠sb+1:=by rintro rfl;have h1:=HBV.out.own;have h2:=HLP.out.own;rw[h1]at h2;omega
    have hne3:xb≠sb+1:=by rintro rfl;have h1:=HX1.out.2.2;have h2:=HLP.out.own;rw[h1]at h2;omega
    obtain⟨V3,hV3⟩:∃ V,V=Value.slice (some ⟨a,0,none⟩) S'.length cL:=⟨_,rfl⟩;have HO4:=HO3.out.1.setL 3 V3 1 V3 rfl;have HO5:=HO4.setL 4 (.int .i64 ((P0+64:Nat):Int)) (P0+64) V3 rfl;have HO6:=hid (HO5.setL 4 (.int .i64 ((P1+1+64:Nat):Int)) (P1+1+64) V3 rfl);rw[hV3]at HO6;have d1:(w3.setCell ⟨sb+1,3,none⟩ (.slice (some ⟨a,0,none⟩) S'.length cL)).cell? ⟨vg,0,none⟩=some (.pointer (some ⟨gl,0,none⟩)):=(HBV.out.far (p:=⟨sb+1,3,none⟩) hne2 _).cell 0;have d2:(w3.setCell ⟨sb+1,3,none⟩ (.slice (some ⟨a,0,none⟩) S'.length cL)).cell? ⟨gl,1,none⟩=some (.int .i64 (P0:Int)):=(HG3.out.far (p:=⟨sb+1,3,none⟩) hne1 _).cell 1;have d3:(w3.setCell ⟨sb+1,3,none⟩ (.slice (some ⟨a,0,none⟩) S'.length cL)).frozen? ⟨sb+1,4,none⟩=false:=(HLP.out.set_ 3 _).frozen 4
    have d4:(w3.setCell ⟨sb+1,3,none⟩ (.slice (some ⟨a,0,none⟩) S'.length cL)).cell? ⟨sb+1,4,none⟩=some (.int .i64 1):=by have:=(HLP.out.set_ 3 (.slice (some ⟨a,0,none⟩) S'.length cL)).cell 4;simpa using this
    have HA4:=hid (And.intro (HBV.out.far (p:=⟨sb+1,3,none⟩) hne2 (.slice (some ⟨a,0,none⟩) S'.length cL)) (And.intro (HG3.out.far (p:=⟨sb+1,3,none⟩) hne1 (.slice (some ⟨a,0,none⟩) S'.length cL)) (HLP.out.set_ 3 (.slice (some ⟨a,0,none⟩) S'.length cL))));have e1:((w3.setCell ⟨sb+1,3,none⟩ (.slice (some ⟨a,0,none⟩) S'.length cL)).setCell ⟨sb+1,4,none⟩ (.int .i64 ((P0:Int)+64))).cell? ⟨vg,0,none⟩=some (.pointer (some ⟨gl,0,none⟩)):=(HA4.out.1.far (p:=⟨sb+1,4,none⟩) hne2 _).cell 0;have e2:((w3.setCell ⟨sb+1,3,none⟩ (.slice (some ⟨a,0,none⟩) S'.length cL)).setCell ⟨sb+1,4,none⟩ (.int .i64 ((P0:Int)+64))).cell? ⟨gl,4,none⟩=some (.slice (some ⟨xb,xo,none⟩) bl.length cx):=(HA4.out.2.1.far (p:=⟨sb+1,4,none⟩) hne1 _).cell 4
    have e3:((w3.setCell ⟨sb+1,3,none⟩ (.slice (some ⟨a,0,none⟩) S'.length cL)).setCell ⟨sb+1,4,none⟩ (.int .i64 ((P0:Int)+64))).cell? ⟨xb,xo+kk*2,none⟩=some (.int .i64 (P1:Int)):=by
     rw[World.cell?_setCell_other _ _ _ _ (by rintro h;injection h with h;exact hne3 h.symm),World.cell?_setCell_other _ _ _ _ (by rintro h;injection h with h;exact hne3 h.symm),Nat.mul_comm];exact HX1.out.1
    have e4:((w3.setCell ⟨sb+1,3,none⟩ (.slice (some ⟨a,0,none⟩) S'.length cL)).setCell ⟨sb+1,4,none⟩ (.int .i64 ((P0:Int)+64))).frozen? ⟨sb+1,4,none⟩=false:=(HA4.out.2.2.set_ 4 _).frozen 4
    have e5:((w3.setCell ⟨sb+1,3,none⟩ (.slice (some ⟨a,0,none⟩) S'.length cL)).setCell ⟨sb+1,4,none⟩ (.int .i64 ((P0:Int)+64))).cell? ⟨sb+1,4,none⟩=some (.int .i64 ((P0:Int)+64)):=by have:=(HA4.out.2.2.set_ 4 (.int .i64 ((P0:Int)+64))).cell 4;simpa using this
    have hbb:=HBL.out.2.1;have hb1k:=HS.out.2.2.2.2.2.2
    have p0:(P0:Int)<=2000:=by rw[hP0];simp only[pz];omega
    have p1:(P1:Int)<=2000:=by rw[hP1];simp only[pz];omega
    have p2:(0:Int)<=(P0:Int):=by omega
    have p3:(0:Int)<=(P1:Int):=by omega
    have q5:(0:Int)<(bl.length:Int):=by omega
    have q6:(0:Int)<=(bl.length:Int)-1/\(bl.length:Int)-1<(bl.length:Int):=by omega
    have q7:((bl.length:Int)-1).toNat=kk:=by omega
    have q8:(bl.length:Int)<=1000:=by omega
    have HP1:Hid (P1+1+64=pz (some bodies.length) bodies.length/\bodies≠[]):=hid ⟨by rw[hP1];simp only[pz];rw[if_neg (Nat.lt_irrefl _)];omega,by intro e;have:=congrArg List.length e;simp only[List.length_nil]at this;omega⟩;clear h5 hk0 hkk hrg hx hx1 hP0 hP1 HX1 HG3 HBV HLP hne1 hne2 hne3 hV3 HO4 HO5 HA4 hbb hb1k HR5 HO3 ht9
    go_wp2_with fail
    go_ret2
    have hb:=HBL.out;have ho:=HO6.out;rw[hb.2.2.1]at ho;have hlf:=HLF.out;rw[if_neg HP1.out.2]at hlf;refine⟨sb+1,U3,rfl,⟨⟨S',⟨HT.out.1,⟨_,?_,ho.hr⟩,fun j q hj=>?_⟩,HLO.out.1,HLO.out.2.1,fun e=>?_,HLO.out.2.2.2⟩,fun c hc=>?_⟩,ho.hd,ho.hc⟩
    ·rw[hlf,<- HP1.out.1];exact ho.hl
    ·rw[hlf]
     have h1:=flat_at S' j q hj;have h2:=congrArg (fun x=>(x.flatMap (·.2)).length) (List.take_append_drop (j+1) S');simp only[List.flatMap_append,List.length_append]at h2;rw[h1,List.length_append,HLO.out.1]at h2;exact(ho.hs j q hj).life (HLO.out.2.1 q (List.mem_of_getElem? hj)) (by omega)
    ·rw[hlf]at e;cases e
    ·rw[hlf]at hc
     cases hc
     exact⟨List.length_pos_iff.2 HP1.out.2,Nat.le_refl _⟩
theorem step_append_row3 {P:Program}{ops:Array Oper}{o:Oper}{a:Act}{Q:Exit->Act->World->Prop}{w:World}{K:Act->World->Prop}{E:Prop}(hgd:o.guard=none){s x:Operand}{st:TypeId}(ho:o.op=.call { callee:=.builtin .append,args:=#[s,x],argTypes:=#[st,st] })
 (U:Own)(t:Nat){e:TypeId}{zs:Array Value}{size bytes:Nat}(ht:P.underlying st=some (.slice e))(hinfo:(P.info? e).map (fun i=>(i.zero.map Value.cells,i.size,i.bytes))=some (some zs,size,bytes))
 (hzs:zs.size=size)(hs0:0<size)(hbs:bytes<=65536){v:Value}{n:Nat}{xs:List Value}(hs:a.eval s=v)(hown:Rw w U t e size v n xs)
 {A:Addr}{c:Nat}{news:List Value}(hx:a.eval x=.slice (some A) 1 c)(hm:news.length=1*size)(hr:Sl w (some A) news)(h1:∀ u∈news,u.oneCell'=true)(h63:n+1<=1073741824)
 (h:∀ g cap w',Rw w' (ext U w t) t e size (.slice (some ⟨g,0,none⟩) (n+1) cap) (n+1) (xs++news)->Chg (· = t) w U w' (ext U w t)->w.grownBy w' v.ownBlock->(v.ownBlock=some g\/g=w.heap.size)->K (a.put o.dst (.slice (some ⟨g,0,none⟩) (n+1) cap)) w') :
 if Region.wanted o (yielded ops a.tmps)=true then Oper.wp P o a w K Q else E:=by
 obtain⟨i,z,hi,hz,hc,hsize,hby⟩:=info_cells hinfo
 have hw:Region.wanted o (yielded ops a.tmps)=true:=by simp[Region.wanted,hgd]
 rw[if_pos hw]
 have hbytes:(n+1)*bytes<=140737488355328:=by
  have:=Nat.mul_le_mul h63 hbs;omega
 have hml:n+1<=maxLen:=by unfold maxLen;omega
 have hcells:∀ j u,news[j]? = some u->w.cell? (A.add j)=some u:=by
  intro j u hu;obtain⟨b,off,h,hc⟩:=hr (by intro e;subst e;simp at hu)
  injection h with h
  subst h;rw[add_none];exact hc j u hu
 obtain⟨v',w',hrun,h2,h3,_,h5⟩:=run_append_own_at (P:=P) w 0 st o.type e i z size bytes ht hi hz hsize hby (by rw[hc];exact hzs) hs0 v n xs hown.own A 1 c news hm hcells h1 hml hbytes (Nat.zero_le _);obtain⟨g,cap,rfl,_,hlt⟩:=h2.form (by omega);unfold Oper.wp execOp;simp only[ho,resolve,invoke,builtin,Sem.run_bind,Sem.run_pure,Result.andThen_ok,List.map_toArray,List.map_cons,List.map_nil,hs,hx,hrun];refine h g cap w' ⟨h2,fun g' hg=>?_⟩ ((Chg.grown (Chg.refl _ _ _) h3 (fun k hk=>.inr (hown.tag k hk))).ext t) h3 ?_
 ·rcases h5 with h5|h5
  ·rw[h5]at hg
   rw[ext_old (hown.own.lt g' hg).2];exact hown.tag g' hg
  ·rw[h5]at hg
   injection hg with hg
   subst hg;exact ext_new (Nat.le_refl _)
 ·rcases h5 with h5|h5
  ·left;rw[<- h5];rfl
  ·right;simpa [Value.ownBlock] using h5
structure EntsT (w:World)(U:Own)(t:Nat)(L:List St)(l:List (Ent ByteArray)):Prop where
 nodup:(l.map (·.1)).Nodup
 each:∀ p∈l,Rw w U t 137 3 p.2.1 (rowsOf p.1 L).length ((rowsOf p.1 L).flatMap ORw.cells)
 miss:∀ k,(∀ p∈l,p.1≠k)->rowsOf k L=[]
 apart:∀ p∈l,∀ q∈l,p.1≠q.1->p.2.1.ownBlock≠q.2.1.ownBlock
structure OrgAt (w:World)(U:Own)(t O:Nat)(L:List St):Prop where
 ex:∃ M l c,Has w U t O 132 #[.int .i64 (L.length:Int),.map (some M)]/\MapAt w M mkS l c/\U M=t/\EntsT w U (t+96) L l
theorem OrgAt.keep {T:Nat->Prop}{w w':World}{U U':Own}{t O:Nat}{L:List St}(h:OrgAt w U t O L)(hc:Chg T w U w' U')(h1:¬ T t)(h2:¬ T (t+96)):OrgAt w' U' t O L:=by
 obtain⟨M,l,c,a,b,d,e⟩:=h.ex;have hM:=(Array.getElem?_eq_some_iff.1 b).1;exact⟨M,l,c,a.keep hc h1,(hc.block M hM (by rw[d];exact h1)).trans b,(hc.own M hM).trans d,e.nodup,fun p hp=>(e.each p hp).keep hc h2,e.miss,e.apart⟩
theorem OrgAt.org {w:World}{U:Own}{t O:Nat}{L:List St}(h:OrgAt w U t O L):∃ M,Org w 0 O M L:=by
 obtain⟨M,l,c,a,b,d,e⟩:=h.ex;exact⟨M,Nat.zero_le _,Nat.zero_le _,a.blk,l,c,b,e.nodup,fun p hp=>(e.each p hp).own,e.miss,e.apart⟩
theorem new75 (w:World)(U:Own)(t:Nat):Calls Tryz.prog 75 #[] w fun e w'=>∃ O,e=.returned (.pointer (some ⟨O,0,none⟩))/\OrgAt w' (ext U w t) t O []/\Below w.heap.size w w':=by
 have hmm:=@run_makeMap Tryz.prog;go_enter Tryz.func75,Tryz.ntmps75
 go_wp2
 go_ret;refine⟨w.heap.size+1,rfl,⟨w.heap.size,[],0,⟨?_,ext_new (by omega)⟩,?_,ext_new (Nat.le_refl _),by simp,(by intro p h;cases h),fun _ _=>rfl,(by intro p h;cases h)⟩,((Below.refl _ _).alloc (Nat.le_refl _) _).alloc (by simp) _⟩
 ·have h:=Blk.new (w.alloc (.map #[] 0)) 132 #[.int .i64 0,.map (some w.heap.size)]
  rw[World.size_alloc]at h;exact h
 ·unfold MapAt
  rw[Below.heap_alloc _ _ _ (by simp)];exact heap_alloc_new w _
theorem now91 (w:World)(U:Own)(t O:Nat)(L:List St)(h:OrgAt w U t O L):Calls Tryz.prog 91 #[.pointer (some ⟨O,0,none⟩)] w fun e w'=>e=.returned (.int .i64 (L.length:Int))/\w=w':=by
 obtain⟨M,h⟩:=h.org;exact nowO w 0 O M L h
theorem get87 (w:World)(U:Own)(t O:Nat)(L:List St)(h:OrgAt w U t O L)(hl:L.length<=1000)(k:ByteArray) :
 Calls Tryz.prog 87 #[.pointer (some ⟨O,0,none⟩),.string k] w fun e w'=>e=.returned (.tuple #[.string (atS L L.length k).1,.bool (atS L L.length k).2])/\Below w.heap.size w w':=by
 have HN:=hid (now91 w U t O L h);obtain⟨M,h⟩:=h.org;have HA:=hid (atO w 0 O M L h (by omega) (L.length:Int) k)
 have e1:atF L (L.length:Int) k=atS L L.length k:=by unfold atF;rw[if_neg (by omega)];rfl
 rw[e1]at HA;clear h e1;go_enter Tryz.func87,Tryz.ntmps87
 go_wp2_with (first|(go_at_call 91;refine HN.out.mono ?_;rintro e w' ⟨rfl,rfl⟩)|(go_at_call 56;refine HA.out.mono ?_;rintro e w' ⟨rfl,n,rfl⟩))
 go_ret2
 exact⟨rfl,below_drewN (Below.refl _ _) _⟩
theorem held40 (w:World)(U:Own)(t O:Nat)(L:List St)(h:OrgAt w U t O L)(hl:L.length<=1000)(k v:ByteArray)(hb:Bool)(a b:Nat)(h2:b<=L.length) :
 Calls Tryz.prog 40 #[.pointer (some ⟨O,0,none⟩),.string k,.string v,.bool hb,.int .i64 (a:Int),.int .i64 (b:Int)] w fun e w'=>∃ r:Bool,e=.returned (.bool r)/\(r=true ↔ heldS L k v hb a b)/\Below w.heap.size w w':=by
 obtain⟨M,h⟩:=h.org;refine(heldO w 0 O M L h (by omega) k v hb (a:Int) (b:Int) (by omega) (by omega)).mono ?_;rintro e w' ⟨r,rfl,hr,hb'⟩;exact⟨r,rfl,hr.trans (heldF_iff L k v hb _ _ a b (by omega) (by omega)),hb'⟩
theorem hd_bd {P:Program}{ops:Array Oper}{S:World->Prop}{lo:List Nat}{R:Act->World->Prop}{k:Nat}{o:Oper}{l:List Nat}{a:Act}{w:World}(t:TypeId)(i j:Nat)(x y:Operand)(ho:ops[k]? = some o)(hk:lo.contains k=false)
 (hw:Region.wanted o (yielded ops a.tmps)=true)(hop:o.op=.build t #[(i,x),(j,y)])(p q v:Value)(hx:a.eval x=p)(hy:a.eval y=q)(hS:∀ W,(Instr.build t #[(i,p),(j,q)]).run P W=.ok v W)
 (h:wpHd P ops S lo R l (a.put o.dst v) w):wpHd P ops S lo R (k :: l) a w:=
 hd_take ho hk hw (fun W hW=>by simp[execOp,hop,hx,hy,hS W,Result.andThen]) h
def secV (l:List Nat):List Value:=bv l++bv l++[.bool false]
theorem secV_len (l:List Nat)(h:l.length=64):(secV l).length=129:=by simp[secV,bv,h]
theorem Secs.sec {cells:Array Value}{n:Nat}{Z:Cont}(h:Secs cells n Z Lasts)(i:Nat)(hi:i<n)(j:Nat)(u:Value)(hu:(secV (Z i))[j]? = some u):cells[i*129+j]? = some u:=by
 have hl:=(h.len i hi).1
 have hb:(bv (Z i)).length=64:=by simp[bv,hl]
 unfold secV at hu
 rcases Nat.lt_trichotomy j 128 with hj|hj|hj
 ·rw[List.getElem?_append_left (by simp[hb];omega)]at hu
  by_cases h64:j<64
  ·rw[List.getElem?_append_left (by omega)]at hu
   rw[h.now i hi j h64,hu]
  ·rw[List.getElem?_append_right (by omega),hb]at hu
   obtain⟨l,-,-,hF,ho⟩:=h.old i hi;have:=ho (j-64) (by omega);rw[hF trivial,hu,show i*129+64+(j-64)=i*129+j by omega]at this;exact this
 ·subst hj
  rw[List.getElem?_append_right (by simp[hb])]at hu;simp[hb]at hu;obtain⟨b,hF,hc⟩:=h.loose i hi;rw[hF trivial]at hc;rw[hc,hu]
 ·rw[List.getElem?_eq_none (by simp[hb];omega)]at hu
  cases hu
theorem agg224f (f:Nat->Value)(W:World):(Instr.build 224 #[(0,.agg ((List.range 64).map f).toArray),(1,.agg ((List.range 64).map f).toArray)]).run Tryz.prog W=.ok (.agg ((List.range 64).map f++(List.range 64).map f++[Value.bool false]).toArray) W:=by kernel_rfl
theorem bv_range (l:List Nat)(h:l.length=64):∃ f:Nat->Value,bv l=(List.range 64).map f:=by
 refine⟨fun i=>.int .u8 ((l.getD i 0:Nat):Int),?_⟩;apply List.ext_getElem?;intro i;simp only[bv,List.getElem?_map]
 by_cases hi:i<64
 ·rw[List.getElem?_eq_getElem (by omega:i<l.length),List.getElem?_range hi]
  simp[List.getD,List.getElem?_eq_getElem (by omega:i<l.length)]
 ·rw[List.getElem?_eq_none (by omega),List.getElem?_eq_none (by simp;omega)]
  rfl
theorem agg224 (l:List Nat)(h:l.length=64)(W:World):(Instr.build 224 #[(0,.agg (bv l).toArray),(1,.agg (bv l).toArray)]).run Tryz.prog W=.ok (.agg (secV l).toArray) W:=by
 obtain⟨f,hf⟩:=bv_range l h;unfold secV;rw[hf];exact agg224f f W
theorem Secs.put {cells:Array Value}{n:Nat}{Z:Cont}(h:Secs cells n Z Lasts)(k:Nat)(hk:k<n)(l:List Nat)(hl:l.length=64)(hb:∀ x∈l,x<256):Secs (splice cells (k*129) (secV l)) n (upd Z k l) Lasts:=by
 have hsz:∀ i,i<n->i*129+129<=cells.size:=fun i hi=>by
  obtain⟨b,_,hc⟩:=h.loose i hi;have:=(Array.getElem?_eq_some_iff.1 hc).1;omega
 have hlen:=secV_len l hl
 have hbl:(bv l).length=64:=by simp[bv,hl]
 have hg:=splice_get cells (k*129) (secV l) (by rw[hlen];exact hsz k hk);rw[hlen]at hg
 have hin:∀ j,j<129->(splice cells (k*129) (secV l))[k*129+j]? = (secV l)[j]?:=fun j hj=>by rw[hg,if_neg (by omega),if_pos (by omega),show k*129+j-k*129=j by omega]
 have hout:∀ i j,i<n->i≠k->j<129->(splice cells (k*129) (secV l))[i*129+j]? = cells[i*129+j]?:=fun i j hi he hj=>by
  rw[hg]
  by_cases h1:i<k
  ·rw[if_pos (by omega)]
  ·rw[if_neg (by omega),if_neg (by omega)]
 have s1:∀ j,j<64->(secV l)[j]? = (bv l)[j]?:=fun j hj=>by unfold secV;rw[List.getElem?_append_left (by simp[hbl];omega),List.getElem?_append_left (by omega)]
 have s2:∀ j,j<64->(secV l)[64+j]? = (bv l)[j]?:=fun j hj=>by unfold secV;rw[List.getElem?_append_left (by simp[hbl];omega),List.getElem?_append_right (by omega),hbl,Nat.add_sub_cancel_left]
 have s3:(secV l)[128]? = some (.bool false):=by unfold secV;rw[List.getElem?_append_right (by simp[hbl])];simp[hbl]
 refine⟨fun i hi=>?_,fun i hi j hj=>?_,fun i hi=>?_,fun i hi=>?_⟩
 ·unfold upd
  split
  ·exact⟨hl,hb⟩
  ·exact h.len i hi
 ·by_cases he:i=k
  ·subst he
   rw[hin j (by omega),s1 j hj,upd_self]
  ·rw[hout i j hi he (by omega),upd_ne _ _ _ _ he]
   exact h.now i hi j hj
 ·by_cases he:i=k
  ·subst he
   refine⟨l,hl,hb,fun _=>(upd_self _ _ _).symm,fun j hj=>?_⟩;rw[Nat.add_assoc,hin (64+j) (by omega),s2 j hj]
  ·obtain⟨l',a,b,c,d⟩:=h.old i hi
   refine⟨l',a,b,fun e=>by rw[upd_ne _ _ _ _ he];exact c e,fun j hj=>?_⟩;rw[Nat.add_assoc,hout i (64+j) hi he (by omega),<- Nat.add_assoc];exact d j hj
 ·by_cases he:i=k
  ·subst he
   exact⟨false,fun _=>rfl,by rw[hin 128 (by omega),s3]⟩
  ·obtain⟨b,c,d⟩:=h.loose i hi
   exact⟨b,c,by rw[hout i 128 hi he (by omega)];exact d⟩
theorem store_new {P:Program}(w:World)(t:TypeId)(z:Array Value)(cs:List Value)(n:Nat)(hs:(sizeOf t).run P (w.alloc (.cells z t))=.ok n (w.alloc (.cells z t)))(hn:cs.length=n)(hz:z.size=n)(h1:∀ v∈cs,v.oneCell'=true) :
 ∃ W1,(Instr.storeAt t (.pointer (some ⟨w.heap.size,0,none⟩)) (.agg cs.toArray)).run P (w.alloc (.cells z t))=.ok () W1/\Blk W1 w.heap.size t cs.toArray/\Below w.heap.size w W1/\W1.heap.size=w.heap.size+1:=by
 have hb:=Blk.new w t z;obtain⟨W1,a1,a2,a3,a4,a5,a6,a7⟩:=run_storeAgg (P:=P) (w.alloc (.cells z t)) t w.heap.size 0 t z cs n hs hn hb (by omega) h1
 have he:splice z 0 cs=cs.toArray:=by
  unfold splice;rw[List.take_zero,List.nil_append,List.drop_eq_nil_of_le (by simp;omega),List.append_nil]
 rw[he]at a2;have hbl:Below w.heap.size w (w.alloc (.cells z t)):=(Below.refl _ _).alloc (Nat.le_refl _) _;refine⟨W1,a1,a2,⟨a5.trans hbl.os,a6.trans hbl.tape,a7.trans hbl.output,by rw[a4];exact hbl.size,fun k hk=>(a3 k (by omega)).trans (hbl.block k hk)⟩,by rw[a4];simp⟩
theorem bv_one (l:List Nat):∀ v∈bv l,v.oneCell'=true:=by
 intro v hv;obtain⟨x,_,rfl⟩:=List.mem_map.1 hv;rfl
theorem secV_one (l:List Nat):∀ v∈secV l,v.oneCell'=true:=by
 intro v hv;unfold secV at hv
 rcases List.mem_append.1 hv with hv|hv
 ·rcases List.mem_append.1 hv with hv|hv <;> exact bv_one l v hv
 ·rw[List.mem_singleton.1 hv];rfl
def Laid (Z:Cont)(k:Nat):Cont:=fun i=>if i<k then Z i else List.replicate 64 0
theorem laid_succ (Z:Cont)(k:Nat):upd (Laid Z k) k (Z k)=Laid Z (k+1):=by
 funext i
 unfold upd Laid
 by_cases h:i=k
 ·subst h;rw[if_pos rfl,if_pos (by omega)]
 ·rw[if_neg h]
  by_cases h2:i<k
  ·rw[if_pos h2,if_pos (by omega)]
  ·rw[if_neg h2,if_neg (by omega)]
theorem Secs.congr {cells:Array Value}{n:Nat}{Z Z':Cont}{F:Nat->Prop}(h:Secs cells n Z F)(he:∀ i,i<n->Z' i=Z i):Secs cells n Z' F:=
 ⟨fun i hi=>by rw[he i hi];exact h.len i hi,fun i hi j hj=>by rw[he i hi];exact h.now i hi j hj,fun i hi=>by rw[he i hi];exact h.old i hi,h.loose⟩
def CrS (b9 c A n:Nat)(l:List Nat)(W:World):Prop:=W.cell? ⟨c,0,none⟩=some (.slice (some ⟨A,0,none⟩) n n)/\Blk W b9 222 (bv l).toArray
theorem crash92 (w:World)(U:Own)(t d n:Nat)(Z:Cont)(h:DevAt w U t d n Z Lasts)(h1:1<=n)(hn:n<=2048)(K:Value) :
 Calls Tryz.prog 92 #[ptr d,K] w fun e w'=>∃ c,e=.returned (ptr c)/\DevAt w' (ext U w t) t c n Z Lasts/\Below w.heap.size w w'/\w.heap.size<=c:=by
 obtain⟨A,calls,cells,g1,g2,g3⟩:=h.ex;obtain⟨y,hy⟩:=fresh w U;have c0:w.cell? ⟨d,0,none⟩=some (.slice (some ⟨A,0,none⟩) n n):=g1.cell 0;have HN:=hid (new_any w U y n h1 hn)
 have HCE:Hid (∀ W,Below w.heap.size w W->W.cell? ⟨d,0,none⟩=some (.slice (some ⟨A,0,none⟩) n n)/\∀ i,i<n->∀ j u,(secV (Z i))[j]? = some u->W.cell? ⟨A,i*129+j,none⟩=some u):=hid fun W hb=>by
  have e1:=g1.keep (Chg.same_own (U:=U) hb) id;have e2:=g2.keep (Chg.same_own (U:=U) hb) id;exact⟨e1.cell 0,fun i hi j u hu=>(e2.cell _).trans (g3.sec i hi j u hu)⟩
 have HLN:=hid g3.len;have HY:=hid hy;have HNN:=hid hn;clear h g1 g2 g3 hy;go_enter Tryz.func92,Tryz.ntmps92
 go_wp2_with fail
 refine HN.out.mono ?_;rintro e w1 ⟨c,rfl,hd,hb,hc⟩;obtain⟨A2,calls2,cells2,k1,k2,k3⟩:=hd.ex
 have hA2:w.heap.size<=A2:=by
  rcases Nat.lt_or_ge A2 w.heap.size with hlt|hge
  ·have:=k2.own
   rw[ext_old hlt]at this;exact absurd this (HY.out A2 hlt)
  ·exact hge
 have d0:=(HCE.out w1 hb).1;have HP:=hid (And.intro hc (And.intro hA2 (k1.other k2 (.inr (by decide)))));have HR:Hid (Blk w1 c 197 #[.slice (some ⟨A2,0,none⟩) n n,.int .i64 calls2]/\(∃ cells,Blk w1 A2 224 cells/\Secs cells n (Laid Z 0) Lasts)/\Below w.heap.size w w1):=hid ⟨k1.blk,⟨cells2,k2.blk,k3.congr fun i hi=>by unfold Laid;rw[if_neg (Nat.not_lt_zero _)];rfl⟩,hb⟩
 have kn:(n:Int)<=2048:=by have:=HNN.out;omega
 clear hd hb hc k1 k2 k3 hA2 HN
 go_wp2_with fail
 go_loopw [23] (fun i wr=>∃ k:Nat,k<=n/\i=.int .i64 (k:Int)/\Blk wr c 197 #[.slice (some ⟨A2,0,none⟩) n n,.int .i64 calls2]/\(∃ cells,Blk wr A2 224 cells/\Secs cells n (Laid Z k) Lasts)/\Below w.heap.size w wr) (fun i _=>n-(intOf i).toNat)
 case atStart=>exact⟨0,Nat.zero_le _,rfl,HR.out⟩
 case round=>
  obtain⟨k,hk,rfl,r1,r2,r3⟩:=hrel
  by_cases hlt:k<n
  ·have k1:(k:Int)<(n:Int):=by omega
   have k2:(0:Int)<=(k:Int):=by omega
   obtain⟨l1,l2⟩:=HLN.out k hlt;have hsc:=(HCE.out wr r3).2 k hlt;have hlaid:=laid_succ Z k;generalize Z k=l at l1 l2 hsc hlaid;have HL:=hid (And.intro l1 (And.intro l2 hlaid));have HLd:Hid ((Instr.loadAt 224 (.pointer (some ⟨A,k*129,none⟩))).run Tryz.prog wr=.ok (.agg (secV l).toArray) wr):=hid (run_loadAgg wr 224 A (k*129) (secV l) 129 (by kernel_rfl) (by kernel_rfl) (secV_len l l1) hsc);have HR2:=hid (And.intro r1 (And.intro r2 r3));have hs9:(secV l).length=129:=secV_len l l1
   have hs64:(bv l).length=64:=by simp[bv,l1]
   have hgs:∀ j u,(bv l)[j]? = some u->(secV l)[64+j]? = some u:=fun j u hu=>by
    unfold secV;have:=(List.getElem?_eq_some_iff.1 hu).1;rw[List.getElem?_append_left (by simp[hs64];omega),List.getElem?_append_right (by omega),hs64,Nat.add_sub_cancel_left,hu]
   have hlast:(secV l)[128]? = some (.bool false):=by unfold secV;rw[List.getElem?_append_right (by simp[hs64])];simp[hs64]
   obtain⟨b8,hb8⟩:∃ b,b=wr.heap.size:=⟨_,rfl⟩;obtain⟨W1,st1,kb8,hl1,hz1⟩:=store_new (P:=Tryz.prog) wr 224 Tryz.zeroCells224 (secV l) 129 (by kernel_rfl) hs9 (by kernel_rfl) (secV_one l);obtain⟨b9,hb9⟩:∃ b,b=W1.heap.size:=⟨_,rfl⟩;obtain⟨W2,st2,kb9,hl2,hz2⟩:=store_new (P:=Tryz.prog) W1 222 (Array.replicate 64 (.int .u8 0)) (bv l) 64 (by kernel_rfl) hs64 (by kernel_rfl) (bv_one l);rw[<- hb8]at st1 kb8;rw[<- hb9]at st2 kb9;have kb8':Blk W2 b8 224 (secV l).toArray:=(hl2.block b8 (by omega)).trans kb8
   have e128:W2.cell? ⟨b8,128,none⟩=some (.bool false):=by rw[kb8'.cell,List.getElem?_toArray];exact hlast
   have HLd2:Hid ((Instr.loadAt 222 (.pointer (some ⟨b8,64,none⟩))).run Tryz.prog W1=.ok (.agg (bv l).toArray) W1):=hid (run_loadAgg W1 222 b8 64 (bv l) 64 (by kernel_rfl) (by kernel_rfl) hs64 fun j u hu=>by rw[kb8.cell,List.getElem?_toArray];exact hgs j u hu);have HBL:Hid (Below wr.heap.size wr W2):=hid (hl1.trans (hl2.mono hl1.size));have HWW:=hid (And.intro hb8 hb9);have HSt:=hid (And.intro st1 st2);have HB9:=hid kb9;clear l1 l2 hsc hlaid r1 r2 r3 HR hgs hlast hb8 hb9 kb8 kb8' kb9 st1 st2 hl1 hl2 hz1 hz2
   go_wp2_with (first|(refine wpl_lq 224 _ rfl ?_;refine lq 224 _ (.pointer (some ⟨A,k*129,none⟩)) _ (by go_simp) (by kernel_rfl) HLd.out ?_)|(refine wpl_sq 224 _ _ rfl rfl ?_;rw[<- HWW.out.1];refine sq 224 _ _ (.pointer (some ⟨b8,0,none⟩)) (.agg (secV l).toArray) W1 rfl rfl (by kernel_rfl) HSt.out.1 ?_)|(refine wpl_lq 222 _ rfl ?_;refine lq 222 _ (.pointer (some ⟨b8,64,none⟩)) _ (by go_simp) (by kernel_rfl) HLd2.out ?_)|(refine wpl_sq 222 _ _ rfl rfl ?_;rw[<- HWW.out.2];refine sq 222 _ _ (.pointer (some ⟨b9,0,none⟩)) (.agg (bv l).toArray) W2 rfl rfl (by kernel_rfl) HSt.out.2 ?_)|fail)
   have hr1:Blk W2.drew c 197 #[.slice (some ⟨A2,0,none⟩) n n,.int .i64 calls2]:=(HBL.out.block c (by have:=HR2.out.1.lt;exact this)).trans HR2.out.1;obtain⟨cur,hcu,hse⟩:=HR2.out.2.1;have hcu2:Blk W2.drew A2 224 cur:=(HBL.out.block A2 hcu.lt).trans hcu;have S0:Hid (CrS b9 c A2 n l W2.drew):=hid ⟨hr1.cell 0,HB9.out⟩;have HBd:=hid (agg224 l HL.out.1);have hput:=hse.put k hlt l HL.out.1 HL.out.2.1;rw[HL.out.2.2]at hput
   have hfit:k*129+(secV l).length<=cur.size:=by
    obtain⟨b,_,hc⟩:=hse.loose k hlt;have:=(Array.getElem?_eq_some_iff.1 hc).1;omega
   obtain⟨W3,st3,k3,h3k,h3s,h3o,h3t,h3u⟩:=run_storeAgg (P:=Tryz.prog) W2.drew 224 A2 (k*129) 224 cur (secV l) 129 (by kernel_rfl) hs9 hcu2 hfit (secV_one l);have HST:=hid st3;have hbl2:Below w.heap.size w W2.drew:=(HR2.out.2.2.trans (HBL.out.mono HR2.out.2.2.size)).drew
   have HF3:Hid (Blk W3 c 197 #[.slice (some ⟨A2,0,none⟩) n n,.int .i64 calls2]/\(∃ cells,Blk W3 A2 224 cells/\Secs cells n (Laid Z (k+1)) Lasts)/\Below w.heap.size w W3):=hid
    ⟨(h3k c HP.out.2.2).trans hr1,⟨_,k3,hput⟩,⟨h3o.trans hbl2.os,h3t.trans hbl2.tape,h3u.trans hbl2.output,by rw[h3s];exact hbl2.size,fun q hq=>(h3k q (by have:=HP.out.2.1;omega)).trans (hbl2.block q hq)⟩⟩
   clear hr1 hcu hse hcu2 hput hfit st3 k3 h3k h3s h3o h3t h3u hbl2 e128 HLd HLd2 HSt HWW;refine wp_region_hl [] [0,1,2,3,4,5,6,7] (CrS b9 c A2 n l) (by kernel_rfl) (by kernel_rfl) S0.out ?_
   iterate 5 (refine hd_take (v:=?_) rfl rfl (by kernel_rfl) (fun W hW=>?_) ?_;rotate_left;(obtain⟨r0,r1⟩:=hW;first|(go_simp;done)|(go_simp;with_reducible rfl)))
   iterate 2 (refine hd_ld 222 _ rfl rfl (by kernel_rfl) rfl (.pointer (some ⟨b9,0,none⟩)) (.agg (bv l).toArray) (by go_simp) (fun W hW=>run_loadAgg W 222 b9 0 (bv l) 64 (by kernel_rfl) (by kernel_rfl) hs64 fun j u hu=>by rw[Nat.zero_add,hW.2.cell,List.getElem?_toArray];exact hu) ?_)
   refine hd_bd 224 0 1 _ _ rfl rfl (by kernel_rfl) rfl (.agg (bv l).toArray) (.agg (bv l).toArray) (.agg (secV l).toArray) (by go_simp) (by go_simp) HBd.out (hd_end ?_);simp only[zqa,zqb,zqc,zqd,Nat.zero_add,Nat.reduceAdd]
   go_wp2_with (first|(refine wpl_sq 224 _ _ rfl rfl ?_;refine sq 224 _ _ (.pointer (some ⟨A2,k*129,none⟩)) (.agg (secV l).toArray) W3 (by go_simp) (by go_simp) (by kernel_rfl) HST.out ?_)|fail)
   go_roundw
   case rel=>exact⟨k+1,by omega,by go_num,HF3.out⟩
   case measure=>simp[intOf];omega
  ·obtain rfl:k=n:=by omega
   have HF:=hid (And.intro r1 (And.intro r2 r3));clear r1 r2 r3 HR
   go_wp2_with fail
   go_ret;obtain⟨r1,⟨cs,r2,r4⟩,r3⟩:=HF.out;exact⟨c,rfl,⟨A2,calls2,cs,⟨r1,ext_new HP.out.1⟩,⟨r2,ext_new HP.out.2.1⟩,r4.congr fun i hi=>by unfold Laid;rw[if_pos hi]⟩,r3,HP.out.1⟩
end Go.Proofs.Ytlhekbjidppijaa
