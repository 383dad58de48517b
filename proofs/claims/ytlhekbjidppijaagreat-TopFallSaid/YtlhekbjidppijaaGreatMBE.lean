/- Contracts of what TopFall reaches: what each function returns and leaves in memory. Conditions: as named. -/
import Derived.Test.YtlhekbjidppijaaGreatMBD
set_option linter.unusedVariables false
set_option linter.unusedSimpArgs false
set_option maxRecDepth 20000
set_option maxHeartbeats 8000000
namespace Go.Proofs.Ytlhekbjidppijaa
open Lib (hid)
open Go.RowKit
def Place.mp (f:Lf)(p:Place):Place:=if p.has=true then ⟨p.key,pz f (p.pos-1),p.has,p.gone⟩ else p
def mapP (f:Lf)(pl:List Place):List Place:=pl.map (Place.mp f)
section
variable (f : Lf) (pl : List Place) (key : ByteArray)
theorem mp_has (p:Place):(p.mp f).has=p.has:=by unfold Place.mp;split <;> rfl
theorem mp_gone (p:Place):(p.mp f).gone=p.gone:=by unfold Place.mp;split <;> rfl
theorem mp_key (p:Place):(p.mp f).key=p.key:=by unfold Place.mp;split <;> rfl
theorem mapP_length:(mapP f pl).length=pl.length:=List.length_map ..
theorem mapP_get (i:Nat):(mapP f pl)[i]? = (pl[i]?).map (Place.mp f):=List.getElem?_map ..
theorem mapP_set (i:Nat)(p:Place):(mapP f pl).set i (p.mp f)=mapP f (pl.set i p):=by unfold mapP;rw[List.map_set]
theorem mapP_zero (n:Nat):mapP f (List.replicate n Place.zero)=List.replicate n Place.zero:=by unfold mapP;rw[List.map_replicate];rfl
theorem findP_map:∀ k i free,findP (mapP f pl) key k i free=findP pl key k i free:=by
 intro k
 induction k with
 | zero=>intro i free;rfl
 | succ k ih=>
  intro i free;unfold findP;rw[mapP_get]
  cases pl[i]? with
  | none=>rfl
  | some p=>
   simp only[Option.map_some,mp_has,mp_gone,mp_key,ih,mapP_length]
theorem findK_map:findK (mapP f pl) key=findK pl key:=by
 unfold findK hashK;rw[findP_map,mapP_length]
theorem findP_has:∀ k i free j,(findP pl key k i free).1=some j->∃ p,pl[j]? = some p/\p.has=true/\p.key=key:=by
 intro k
 induction k with
 | zero=>intro i free j h;simp[findP]at h
 | succ k ih=>
  intro i free j h;unfold findP at h
  split at h
  ·simp at h
  ·rename_i p hp
   split at h
   ·rename_i hc
    simp only[Option.some.injEq]at h;subst h;exact⟨p,hp,hc⟩
   ·dsimp only at h
    split at h
    ·simp at h
    ·exact ih _ _ _ h
theorem getP_map:getP (mapP f pl) key=(getP pl key).map fun pos=>pz f (pos-1):=by
 unfold getP;rw[findK_map]
 cases h:(findK pl key).1 with
 | none=>rfl
 | some i=>
  obtain⟨p,hp,hh,-⟩:=findP_has pl key _ _ _ _ h;dsimp only;rw[mapP_get,hp];simp only[Option.map_some,Place.mp,if_pos hh]
theorem dropP_map:dropP (mapP f pl) key=mapP f (dropP pl key):=by
 unfold dropP;rw[findK_map]
 cases (findK pl key).1 with
 | none=>rfl
 | some i=>exact mapP_set f pl i ⟨.empty,0,false,true⟩
def map3 (r:List Place × Nat × Nat):List Place × Nat × Nat:=(mapP f r.1,r.2.1,r.2.2)
theorem putN_map (n used i:Nat):putN (mapP f pl) n used key (pz f i)=(putN pl n used key (i+1)).map (map3 f):=by
 unfold putN;rw[findK_map,mapP_length]
 split
 ·rfl
 ·split
  ·rename_i j y he
   obtain⟨p,hp,hh,-⟩:=findP_has pl key _ _ _ _ (by show(findK pl key).1=some j;rw[he]);rw[mapP_get,hp];simp only[Option.map_some,map3,mp_has,mp_gone,mp_key];have:=mapP_set f pl j ⟨p.key,i+1,p.has,p.gone⟩;unfold Place.mp at this;rw[if_pos hh]at this;dsimp only[Nat.add_sub_cancel]at this;rw[<- this];rfl
  ·rename_i j he
   rw[mapP_get]
   cases pl[j]? with
   | none=>rfl
   | some p=>
    simp only[Option.map_some,map3,mp_gone];have:=mapP_set f pl j ⟨key,i+1,true,false⟩;unfold Place.mp at this;rw[if_pos rfl]at this;dsimp only[Nat.add_sub_cancel]at this;rw[<- this];rfl
  ·rfl
theorem fold_map (a:Option (List Place × Nat × Nat))(h:∀ p∈pl,p.has=true->1<=p.pos):(mapP f pl).foldl growStep (a.map (map3 f))=(pl.foldl growStep a).map (map3 f):=by
 induction pl generalizing a with
 | nil=>rfl
 | cons p pl ih=>
  show(mapP f pl).foldl growStep (growStep (a.map (map3 f)) (p.mp f))=_
  have e:growStep (a.map (map3 f)) (p.mp f)=(growStep a p).map (map3 f):=by
   cases a with
   | none=>rfl
   | some r=>
    obtain⟨q,m,u⟩:=r;simp only[Option.map_some,growStep,map3,mp_has,mp_key]
    split
    ·rename_i hh
     have h1:=h p (by simp) hh;rw[show(p.mp f).pos=pz f (p.pos-1) by unfold Place.mp;rw[if_pos hh],putN_map,Nat.sub_add_cancel h1]
    ·rfl
  rw[e];exact ih _ fun q hq=>h q (by simp[hq])
theorem putP_map (n used i:Nat)(h:∀ p∈pl,p.has=true->1<=p.pos):putP (mapP f pl) n used key (pz f i)=(putP pl n used key (i+1)).map (map3 f):=by
 unfold putP;rw[mapP_length]
 split
 ·have e:growP (mapP f pl) n=(growP pl n).map (map3 f):=by
   unfold growP
   split
   ·rfl
   ·have:=fold_map f pl (some (List.replicate (max 16 (4*n)) Place.zero,0,0)) h
    rw[<- this];simp only[Option.map_some,map3,mapP_zero]
  rw[e]
  cases growP pl n with
  | none=>rfl
  | some r=>obtain⟨q,m,u⟩:=r;exact putN_map f q key m u i
 ·exact putN_map f pl key n used i
end
def recStep (i:Nat)(r:FRec)(a:List Place × Nat × Nat):Option (List Place × Nat × Nat):=match r with
 | .wipe=>some (List.replicate 16 Place.zero,0,0)
 | .entry k _ true=>if (findK a.1 k).1.isSome=true->1<=a.2.1 then some (dropP a.1 k,if (findK a.1 k).1.isSome then a.2.1-1 else a.2.1,a.2.2) else none
 | .entry k _ false=>if a.2.1<1000 then putP a.1 a.2.1 a.2.2 k (i+1) else none
def replayFrom:Nat->List FRec->List Place × Nat × Nat->Option (List Place × Nat × Nat)
 | _,[],a=>some a
 | i,r :: rs,a=>(recStep i r a).bind (replayFrom (i+1) rs)
def replay (rs:List FRec):Option (List Place × Nat × Nat):=replayFrom 0 rs (List.replicate 16 Place.zero,0,0)
theorem replayFrom_snoc (rs:List FRec)(r:FRec):∀ i a,replayFrom i (rs++[r]) a=(replayFrom i rs a).bind (recStep (i+rs.length) r):=by
 induction rs with
 | nil=>intro i a;show(recStep i r a).bind (fun b=>some b)=recStep i r a;cases recStep i r a <;> rfl
 | cons q rs ih=>
  intro i a;show(recStep i q a).bind (replayFrom (i+1) (rs++[r]))=((recStep i q a).bind (replayFrom (i+1) rs)).bind _
  cases recStep i q a with
  | none=>rfl
  | some b=>
   show replayFrom (i+1) (rs++[r]) b=(replayFrom (i+1) rs b).bind _;rw[ih,List.length_cons,show i+1+rs.length=i+(rs.length+1) by omega]
theorem replay_snoc (rs:List FRec)(r:FRec):replay (rs++[r])=(replay rs).bind (recStep rs.length r):=by
 unfold replay;rw[replayFrom_snoc,Nat.zero_add]
def PlB (n:Nat)(a:List Place × Nat × Nat):Prop:=(∀ p∈a.1,p.key.size<64/\p.pos<=n/\(p.has=true->1<=p.pos))/\16<=a.1.length/\a.1.length<=48
theorem PlB.zero (n m:Nat)(h:16<=m/\m<=48)(u v:Nat):PlB n (List.replicate m Place.zero,u,v):=⟨fun p hp=>by rw[List.eq_of_mem_replicate hp];exact⟨by decide,Nat.zero_le _,fun e=>by cases e⟩,by simpa using h⟩
theorem PlB.putN {n m u i:Nat}{k:ByteArray}{pl:List Place}{b:List Place × Nat × Nat}{x y:Nat}(h:PlB n (pl,x,y))(hk:k.size<64)(hi:1<=i/\i<=n)(hp:putN pl m u k i=some b):PlB n b:=by
 unfold Proofs.Ytlhekbjidppijaa.putN at hp
 have hset:∀ j q,q.key.size<64/\q.pos<=n/\(q.has=true->1<=q.pos)->∀ x y,PlB n (pl.set j q,x,y):=fun j q hq x y=>⟨fun p hp=>by
  rcases List.mem_or_eq_of_mem_set hp with hp|rfl
  ·exact h.1 p hp
  ·exact hq,by simpa using h.2⟩
 split at hp
 ·cases hp
 ·split at hp
  ·split at hp
   ·cases hp
   ·rename_i p hpp
    injection hp with hp
    subst hp;exact hset _ ⟨p.key,i,p.has,p.gone⟩ ⟨(h.1 p (List.mem_of_getElem? hpp)).1,hi.2,fun _=>hi.1⟩ _ _
  ·split at hp
   ·cases hp
   ·injection hp with hp
    subst hp;exact hset _ ⟨k,i,true,false⟩ ⟨hk,hi.2,fun _=>hi.1⟩ _ _
  ·cases hp
theorem PlB.fold {n:Nat}(l:List Place)(hl:∀ p∈l,p.key.size<64/\p.pos<=n/\(p.has=true->1<=p.pos)):∀ a b,PlB n a->l.foldl growStep (some a)=some b->PlB n b:=by
 induction l with
 | nil=>intro a b ha h;cases h;exact ha
 | cons p l ih=>
  intro a b ha h;rw[List.foldl_cons]at h
  cases hs:growStep (some a) p with
  | none=>rw[hs,grow_none]at h;cases h
  | some c=>
   rw[hs]at h;refine ih (fun q hq=>hl q (by simp[hq])) c b ?_ h;obtain⟨q,m,u⟩:=a;unfold growStep at hs;dsimp only at hs
   split at hs
   ·rename_i hh
    have:=hl p (by simp);exact PlB.putN ha this.1 ⟨this.2.2 hh,this.2.1⟩ hs
   ·cases hs;exact ha
theorem PlB.putP {n m u i:Nat}{k:ByteArray}{pl:List Place}{b:List Place × Nat × Nat}{x y:Nat}(h:PlB n (pl,x,y))(hk:k.size<64)(hi:1<=i/\i<=n)(hp:putP pl m u k i=some b):PlB n b:=by
 unfold Proofs.Ytlhekbjidppijaa.putP at hp
 split at hp
 ·cases hg:growP pl m with
  | none=>rw[hg]at hp;cases hp
  | some r=>
   obtain⟨q,m',u'⟩:=r;rw[hg]at hp;refine PlB.putN (pl:=q) (x:=m') (y:=u') ?_ hk hi hp;unfold growP at hg
   split at hg
   ·cases hg
   ·exact PlB.fold pl h.1 _ _ (PlB.zero n _ (by omega) 0 0) hg
 ·exact PlB.putN h hk hi hp
theorem PlB.step {n i:Nat}{r:FRec}{a b:List Place × Nat × Nat}(h:PlB n a)(hr:r.ok=true)(hi:i+1<=n)(hs:recStep i r a=some b):PlB n b:=by
 obtain⟨pl,m,u⟩:=a
 cases r with
 | wipe=>cases hs;exact PlB.zero n 16 (by decide) 0 0
 | entry k v g=>
  simp only[FRec.ok,Bool.and_eq_true,decide_eq_true_eq]at hr
  cases g with
  | false=>
   simp only[recStep]at hs
   split at hs
   ·exact PlB.putP h hr.1.2 ⟨by omega,hi⟩ hs
   ·cases hs
  | true=>
   simp only[recStep]at hs
   split at hs
   ·injection hs with hs
    subst hs;unfold dropP
    split
    ·exact h
    ·refine⟨fun p hp=>?_,by simpa using h.2⟩
     rcases List.mem_or_eq_of_mem_set hp with hp|rfl
     ·exact h.1 p hp
     ·exact⟨by decide,Nat.zero_le _,fun e=>by cases e⟩
   ·cases hs
theorem replay_PlB (rs:List FRec)(hr:∀ r∈rs,r.ok=true):∀ i a b,PlB (i+rs.length) a->replayFrom i rs a=some b->PlB (i+rs.length) b:=by
 induction rs with
 | nil=>intro i a b ha h;cases h;exact ha
 | cons r rs ih=>
  intro i a b ha h;show PlB (i+(rs.length+1)) b;have h':(recStep i r a).bind (replayFrom (i+1) rs)=some b:=h
  cases hs:recStep i r a with
  | none=>rw[hs]at h';cases h'
  | some c=>
   rw[hs]at h';have:=ih (fun q hq=>hr q (by simp[hq])) (i+1) c b;rw[show i+1+rs.length=i+(rs.length+1) by omega]at this;exact this (PlB.step ha (hr r (by simp)) (by omega) hs) h'
theorem replay_ok {rs:List FRec}{b:List Place × Nat × Nat}(hr:∀ r∈rs,r.ok=true)(h:replay rs=some b):PlB rs.length b:=by
 have:=replay_PlB rs hr 0 _ b (PlB.zero _ 16 (by decide) 0 0) h
 rwa [Nat.zero_add]at this
theorem mapP_mem {f:Lf}{pl:List Place}{p:Place}(h:p∈mapP f pl):∃ q∈pl,q.mp f=p:=List.mem_map.1 h
theorem PlB.ok {f:Lf}{n:Nat}{a:List Place × Nat × Nat}(h:PlB n a)(hn:n<=900000):PlOk (mapP f a.1):=fun p hp=>by
 obtain⟨q,hq,rfl⟩:=mapP_mem hp;have:=h.1 q hq;have h2:=pz_le f (q.pos-1);rw[mp_key];refine⟨by omega,?_⟩;unfold Place.mp
 split
 ·show pz f _<=_;omega
 ·omega
theorem mapP_same {ct n:Nat}{a:List Place × Nat × Nat}(h:PlB n a)(hn:n<=ct):mapP (some ct) a.1=a.1:=by
 unfold mapP;rw[List.map_congr_left (g:=id),List.map_id];intro p hp;have:=h.1 p hp;unfold Place.mp
 split
 ·rename_i hh
  have h1:=this.2.2 hh
  have e:pz (some ct) (p.pos-1)=p.pos:=by simp only[pz];rw[if_pos (by omega)];omega
  rw[e];rfl
 ·rfl
theorem mapP_none {n:Nat}{a:List Place × Nat × Nat}(h:PlB n a):mapP none a.1=a.1:=by
 unfold mapP;rw[List.map_congr_left (g:=id),List.map_id];intro p hp;have:=h.1 p hp;unfold Place.mp
 split
 ·rename_i hh
  have h1:=this.2.2 hh
  have e:pz none (p.pos-1)=p.pos:=by simp only[pz];omega
  rw[e];rfl
 ·rfl
structure FlashAt (w:World)(U:Own)(tc c d from_ segs n:Nat)(f:Lf)(Z:Cont)(s:FQ):Prop where
 raw:FlashR w U tc c d from_ segs n f Z ⟨s.recs,mapP f s.pl,s.n,s.used⟩
 rp:replay s.recs=some (s.pl,s.n,s.used)
section
variable {T : Nat -> Prop} {w w' : World} {U U' : Own} {tc c d from_ segs n : Nat} {f : Lf} {Z : Cont} {s : FQ}
theorem FlashAt.keep (h:FlashAt w U tc c d from_ segs n f Z s)(hc:Chg T w U w' U')(hT:∀ x,T x->¬ (tc<=x%96/\x%96<=tc+2)):FlashAt w' U' tc c d from_ segs n f Z s:=⟨h.raw.keep hc hT,h.rp⟩
theorem FlashAt.quiet (h:FlashAt w U tc c d from_ segs n f Z s)(hc:Chg (fun _=>False) w U w' U'):FlashAt w' U' tc c d from_ segs n f Z s:=h.keep hc fun _ e=>e.elim
theorem FlashAt.bnd (h:FlashAt w U tc c d from_ segs n f Z s):PlB s.recs.length (s.pl,s.n,s.used):=replay_ok h.raw.ok h.rp
theorem FlashAt.small (h:FlashAt w U tc c d from_ segs n f Z s):s.recs.length<=2048:=by
 have h1:=h.raw.le;have h2:=h.raw.room;have h3:s.recs.length<=segs:=h1;omega
end
def AdS (c lp x:Nat)(W:World):Prop:=W.cell? ⟨c,0,none⟩=some (.pointer (some ⟨lp,0,none⟩))/\W.cell? ⟨c,1,none⟩=some (.pointer (some ⟨x,0,none⟩))
theorem add160 (w:World)(U:Own)(tc td c d from_ segs n:Nat)(f:Lf)(s:FQ)(Z:Cont)(F:Nat->Prop)(r:FRec)(B o m cB:Nat)(hF:FlashR w U tc c d from_ segs n f Z s)(hD:DevAt w U td d n Z F)(htd:td<95/\(td<tc\/tc+2<td))(hr:r.ok=true)(hle:s.recs.length<segs)
 (hm:r.bytes.length=m)(hs:Sl w (some ⟨B,o,none⟩) (ub r.bytes))(hB:B<w.heap.size)(hB2:¬ FT tc td (U B)) :
 Calls Tryz.prog 160 #[.pointer (some ⟨c,0,none⟩),.slice (some ⟨B,o,none⟩) m cB] w fun e w'=>e=.returned (.tuple #[.int .i64 ((pz f s.recs.length:Nat):Int),.int .i64 0]) /\
  ∃ U' Z' F',FlashR w' U' tc c d from_ segs n f Z' { s with recs:=s.recs++[r] }/\DevAt w' U' td d n Z' F'/\(∀ j,(j<from_\/from_+segs*8<=j)->Z' j=Z j)/\Chg (FT tc td) w U w' U':=by
 obtain⟨lp,x,fr,h1,h2,h3⟩:=hF.ex;have hlt:=hF.lt;have hrl:=r.ok_len hr;have HAP:=hid (append211 w U (tc+2) td lp d from_ segs n fr f (s.recs.map FRec.bytes) Z F r.bytes B o m cB h2 hD htd.1 (by omega) (by simpa using hle) hF.room.1 hF.room.2 hm (by omega) (by omega) hs hB (fun e=>hB2 (.inl (by omega))) (fun e=>hB2 (.inr e)));have c0:w.cell? ⟨c,0,none⟩=some (.pointer (some ⟨lp,0,none⟩)):=h1.cell 0
 have HX:Hid (∀ W U',Chg (fun x=>x%96=tc+2\/x=td) w U W U'->Has W U' tc c 274 #[.pointer (some ⟨lp,0,none⟩),.pointer (some ⟨x,0,none⟩)]/\IndexAt W U' (tc+1) x s.pl s.n s.used/\Chg (FT tc td) w U W U'):=hid fun W U' hc=>
  ⟨h1.keep hc (by omega),h3.keep hc (by omega),hc.mono fun y e=>e.imp (fun e=>by omega) id⟩
 have HFIN:Hid (∀ W U' Z',Has W U' tc c 274 #[.pointer (some ⟨lp,0,none⟩),.pointer (some ⟨x,0,none⟩)]->LogAt W U' (tc+2) lp d from_ segs false f Z' (s.recs.map FRec.bytes++[r.bytes])->IndexAt W U' (tc+1) x s.pl s.n s.used->FlashR W U' tc c d from_ segs n f Z' { s with recs:=s.recs++[r] }):=hid fun W U' Z' a b e=>by
  refine⟨⟨lp,x,false,a,?_,e⟩,hlt,fun q hq=>?_,hF.room,by simp;omega,hF.pk⟩
  ·rw[List.map_append];exact b
  ·rcases List.mem_append.1 hq with hq|hq
   ·exact hF.ok q hq
   ·simp at hq;subst hq;exact hr
 have HLN:Hid ((s.recs.map FRec.bytes).length=s.recs.length):=hid (by simp);have HLT:Hid (tc+2<95/\td<95/\(td<tc\/tc+2<td)):=hid ⟨hlt,htd⟩;clear hF hD htd hs hB hB2 h1 h2 h3 hrl hlt hle;go_enter Tryz.func160,Tryz.ntmps160
 go_wp2_with fail
 refine HAP.out.mono ?_;rintro e w1 ⟨rfl,U1,Z1,F1,a1,a2,a3,a4⟩;obtain⟨b1,b2,b3⟩:=HX.out w1 U1 a4;have HB:=hid (And.intro b1 (And.intro b2 (And.intro b3 (And.intro a1 (And.intro a2 a3)))));rw[HLN.out];have HS:Hid (AdS c lp x w1.drew):=hid ⟨b1.cell 0,b1.cell 1⟩;have HFS:=hid (first213 w1.drew U1 (tc+2) lp d from_ segs false f Z1 _ (a1.keep ((Chg.refl (fun _=>False) w1 U1).drewN 1) (fun _ e=>e.elim)));have HBL:=hid (below212 w1.drew U1 (tc+1) x s.n s.used s.pl (b2.keep ((Chg.refl (fun _=>False) w1 U1).drewN 1) id));clear a1 a2 a3 a4 b1 b2 b3 HAP HX c0
 go_wp2_with fail
 refine wp_region_hl [8] [0,1,2,3,4,5,6,7,8] (AdS c lp x) (by kernel_rfl) (by kernel_rfl) HS.out ?_
 iterate 8 (refine hd_take (v:=?_) rfl rfl (by kernel_rfl) (fun W hW=>?_) ?_;rotate_left;(obtain⟨r0,r1⟩:=hW;first|(go_simp;done)|(go_simp;with_reducible rfl)))
 refine hd_loud rfl rfl fun K hK=>?_;go_simp;refine HFS.out.mono ?_;rintro e w2 ⟨rfl,rfl⟩;refine hK _ _ HS.out (hd_end ?_);clear hK HFS;simp only[zqa,zqb,zqc,zqd,Nat.zero_add,Nat.reduceAdd]
 go_wp2_with fail
 refine HBL.out.mono ?_;rintro e w3 ⟨rfl,hi3,hc3⟩;have HR:=hid (And.intro hi3 hc3);clear hi3 hc3 HBL
 go_wp2
 go_ret2
 obtain⟨b1,b2,b3,a1,a2,a3⟩:=HB.out;obtain⟨hi3,hc3⟩:=HR.out;have hl:=HLT.out;have hc:=((Chg.refl (fun y=>y=tc+1) w1 U1).drewN 1).trans hc3;exact⟨rfl,U1,Z1,F1,HFIN.out _ _ _ (b1.keep hc (by omega)) (a1.keep hc (fun y e=>by subst e;omega)) hi3,a2.keep hc (by omega),a3,b3.trans (hc.mono fun y e=>by subst e;exact .inl (by omega))⟩
theorem owns_new (w:World)(e size:Nat)(cur:Array Value)(n:Nat)(hs:cur.size=n*size)(hm:n<=maxLen):(w.alloc (.cells cur e)).ownsRow w.heap.size e size (.slice (some ⟨w.heap.size,0,none⟩) n n) n cur.toList:=
 ⟨by simpa using hs,.inr ⟨w.heap.size,n,cur,rfl,Nat.le_refl _,heap_alloc_new w _,Nat.le_refl _,hm,hs,by rw[List.take_of_length_le];simp[hs]⟩⟩
section
variable {P : Program} (w : World)
theorem wpList_append_row2 {ops:Array Oper}{rest:List Oper}{o:Oper}{a:Act}{Q:Exit->Act->World->Prop}(hgd:o.guard=none)(s x:Operand)(st:TypeId)
 (ho:o.op=.call { callee:=.builtin .append,args:=#[s,x],argTypes:=#[st,st] })
 (U:Own)(t:Nat)(e:TypeId)(i:TypeInfo)(z:Value)(size bytes:Nat)(ht:P.underlying st=some (.slice e))(hi:P.info? e=some i)(hz:i.zero=some z)
 (hsize:i.size=size)(hby:i.bytes=bytes)(hzs:z.cells.size=size)(hs0:0<size)
 (v:Value)(n:Nat)(xs:List Value)(hs:a.eval s=v)(hown:Rw w U t e size v n xs)
 (A:Addr)(m c:Nat)(news:List Value)(hx:a.eval x=.slice (some A) m c)(hm:news.length=m*size)(hm0:0<m)(hr:Sl w (some A) news)(h1:∀ u∈news,u.oneCell'=true)
 (h63:n+m<=1073741824)(hbs:bytes<=65536)
 (h:∀ g cap w',Rw w' (ext U w t) t e size (.slice (some ⟨g,0,none⟩) (n+m) cap) (n+m) (xs++news)->Chg (· = t) w U w' (ext U w t)->w.grownBy w' v.ownBlock->wpList P ops Q rest (a.put o.dst (.slice (some ⟨g,0,none⟩) (n+m) cap)) w'):wpList P ops Q (o :: rest) a w:=
 wpList_plain hgd fun _ hK=>by
  obtain⟨g,cap,w',hr,h2,h3,h4⟩:=run_append_row2 (P:=P) w U t st o.type e i z size bytes ht hi hz hsize hby hzs hs0 v n xs hown A m c news hm hm0 hr h1 h63 hbs;unfold Oper.wp execOp;simp only[ho,resolve,invoke,builtin,Sem.run_bind,Sem.run_pure,Result.andThen_ok,List.map_toArray,List.map_cons,List.map_nil,hs,hx,hr];exact hK _ _ (h g cap w' h2 h3 h4)
end
def PuS (c x pb:Nat)(k:ByteArray)(W:World):Prop:=W.cell? ⟨c,1,none⟩=some (.pointer (some ⟨x,0,none⟩))/\W.cell? ⟨pb,0,none⟩=some (.string k)
theorem put119r (w:World)(U:Own)(tc td c d from_ segs n:Nat)(f:Lf)(s:FQ)(Z:Cont)(F:Nat->Prop)(k v:ByteArray)(pl':List Place)(n' used':Nat)(hF:FlashR w U tc c d from_ segs n f Z s)(hD:DevAt w U td d n Z F)(htd:td<95/\(td<tc\/tc+2<td))(hok:(FRec.entry k v false).ok=true)
 (hle:s.recs.length<segs)(hle9:s.recs.length<=900000)(hn9:s.n<1000)(hpp:putP s.pl s.n s.used k (pz f s.recs.length)=some (pl',n',used'))(hpk:PlOk pl') :
 Calls Tryz.prog 119 #[.pointer (some ⟨c,0,none⟩),.agg #[.string k,.string v,.int .i64 0,.bool false]] w fun e w'=>e=.returned (.int .i64 0)/\∃ U' Z' F',FlashR w' U' tc c d from_ segs n f Z' ⟨s.recs++[.entry k v false],pl',n',used'⟩/\DevAt w' U' td d n Z' F'/\(∀ j,(j<from_\/from_+segs*8<=j)->Z' j=Z j)/\Chg (FT tc td) w U w' U':=by
 obtain⟨y,hy1,hy2⟩:=fresh95 w U;have hok2:=hok;simp only[FRec.ok,Bool.and_eq_true,decide_eq_true_eq]at hok2;obtain⟨⟨ho,hk⟩,hv⟩:=hok2;obtain⟨pb,hpb⟩:∃ b,b=w.heap.size:=⟨_,rfl⟩;obtain⟨W1,hW1⟩:∃ W,W=w.alloc (.cells #[.string k,.string v,.int .i64 0,.bool false] 178):=⟨_,rfl⟩
 have hB1:Below w.heap.size w W1:=by rw[hW1];exact(Below.refl _ _).alloc (Nat.le_refl _) _
 have hK1:Blk W1 pb 178 #[.string k,.string v,.int .i64 0,.bool false]:=by rw[hW1,hpb];exact Blk.new _ _ _
 have hS1:W1.heap.size=w.heap.size+1:=by rw[hW1];simp
 have HMAY:=hid (may_any W1 k v false (by omega) (by omega));unfold itemV at HMAY;rw[ho]at HMAY
 -- what stays
 have HQ:Hid (∀ W,Below w.heap.size w W->FlashR W (ext U w y) tc c d from_ segs n f Z s/\DevAt W (ext U w y) td d n Z F):=hid fun W hb=>⟨hF.quiet (Chg.of_below hb y),hD.keep (Chg.of_below (T:=fun _=>False) hb y) id⟩
 have hy95:¬ FT tc td y:=fun e=>by
  have:=hF.lt;unfold FT at e;omega
 have HADD:Hid (∀ W B m cB,Below w.heap.size w W->(FRec.entry k v false).bytes.length=m->Sl W (some ⟨B,0,none⟩) (ub (FRec.entry k v false).bytes)->B<W.heap.size->w.heap.size<=B->Calls Tryz.prog 160 #[.pointer (some ⟨c,0,none⟩),.slice (some ⟨B,0,none⟩) m cB] W fun e w'=>e=.returned (.tuple #[.int .i64 ((pz f s.recs.length:Nat):Int),.int .i64 0]) /\
  ∃ U' Z' F',FlashR w' U' tc c d from_ segs n f Z' { s with recs:=s.recs++[.entry k v false] }/\DevAt w' U' td d n Z' F'/\(∀ j,(j<from_\/from_+segs*8<=j)->Z' j=Z j)/\Chg (FT tc td) W (ext U w y) w' U'):=hid fun W B m cB hb hm hs hB hB2=>
  add160 W (ext U w y) tc td c d from_ segs n f s Z F _ B 0 m cB (HQ.out W hb).1 (HQ.out W hb).2 htd hok hle hm hs hB (by rw[ext_new hB2];exact hy95)
 have HFR:Hid (∀ W W' U',Below w.heap.size w W->Chg (FT tc td) W (ext U w y) W' U'->Chg (FT tc td) w U W' U'):=hid fun W W' U' hb hc=>(Chg.of_below hb y).trans hc;have hlt:=hF.lt;have hroom:=hF.room;have HLT:Hid (tc+2<95/\td<95/\(td<tc\/tc+2<td)):=hid ⟨hlt,htd⟩;have HOK:Hid ((∀ r∈s.recs,r.ok=true)/\(from_+segs*8<=n/\n<=2048)/\s.recs.length<segs/\(FRec.entry k v false).ok=true):=hid ⟨hF.ok,hroom,hle,hok⟩;have hpz:=pz_le f s.recs.length;have hpz1:=pz_pos f s.recs.length;have HKS:Hid (k.size<=9223372036854775807/\putP s.pl s.n s.used k (pz f s.recs.length)=some (pl',n',used')/\1<=pz f s.recs.length/\pz f s.recs.length<=1000000/\s.n<1000000/\PlOk s.pl/\PlOk pl'):=hid ⟨by omega,hpp,by omega,by omega,by omega,hF.pk,hpk⟩;have HY:Hid (∀ i,i<w.heap.size->¬ (ext U w y i=y)):=hid fun i hi e=>hy2 i hi ((ext_old (U:=U) (t:=y) hi).symm.trans e);have HPBY:Hid (ext U w y pb=y/\¬ FT tc td y):=hid ⟨ext_new (by omega),hy95⟩;have HEN:=hid (fun(W:World) (A:Nat) (h:_)=>encode_any W A 0 1 k v false 0 rfl ho hk hv h);have HIB:Hid (tbs [k,v]++nbs [0,0]=ub (ibs k v 0)/\tsum [k,v]+2=k.size+v.size+4):=hid ⟨ibs_eq k v 0 hk hv (by decide),by simp[tsum];omega⟩;obtain⟨i0,z0,hi0⟩:=info_cells info5;have HI:=hid hi0;have HW1:=hid hW1;have HPB0:=hid hpb;have HB1:=hid hB1;have HKV:Hid (k.size<64/\v.size<64):=hid ⟨hk,hv⟩;have g0:W1.cell? ⟨pb,0,none⟩=some (.string k):=hK1.cell 0;have g1:W1.cell? ⟨pb,1,none⟩=some (.string v):=hK1.cell 1;have g2:W1.cell? ⟨pb,2,none⟩=some (.int .i64 0):=hK1.cell 2
 have g3:W1.cell? ⟨pb,3,none⟩=some (.bool false):=hK1.cell 3;have HK1:=hid hK1;have HS1:=hid hS1;clear hpz hpz1 hle9 hpk hF hD hok ho hk hv hy1 hy2 hy95 hpb hW1 hB1 hK1 hS1 hlt hroom hpp hle hn9 htd hi0;go_enter Tryz.func119,Tryz.ntmps119
 go_wp2_with fail
 rw[<- HW1.out,<- HPB0.out]
 go_wp2_with fail
 refine HMAY.out.mono ?_;rintro e w1 ⟨rfl,hb1⟩;have hK2:Blk w1 pb 178 #[.string k,.string v,.int .i64 0,.bool false]:=(hb1.block pb HK1.out.lt).trans HK1.out;have HB2:=hid (HB1.out.trans (hb1.mono HB1.out.size));clear g0 g1 g2 g3 hb1 HMAY;have g0:(w1.alloc (.cells #[.int .u8 1] 5)).cell? ⟨pb,0,none⟩=some (.string k):=(hK2.alloc _).cell 0;have g1:(w1.alloc (.cells #[.int .u8 1] 5)).cell? ⟨pb,1,none⟩=some (.string v):=(hK2.alloc _).cell 1;have g2:(w1.alloc (.cells #[.int .u8 1] 5)).cell? ⟨pb,2,none⟩=some (.int .i64 0):=(hK2.alloc _).cell 2;have g3:(w1.alloc (.cells #[.int .u8 1] 5)).cell? ⟨pb,3,none⟩=some (.bool false):=(hK2.alloc _).cell 3;have g4:w1.cell? ⟨pb,3,none⟩=some (.bool false):=hK2.cell 3;have HK2:=hid hK2;have HK2lt:Hid (pb<w1.heap.size):=hid hK2.lt;clear hK2
 go_wp2_with fail
 have HIT:Hid (Blk ((w1.alloc (.cells #[.int .u8 1] 5)).alloc (.cells #[.string k,.string v,.int .i64 0,.bool false] 178)) (w1.heap.size+1) 178 #[.string k,.string v,.int .i64 0,.bool false]/\Rw ((w1.alloc (.cells #[.int .u8 1] 5)).alloc (.cells #[.string k,.string v,.int .i64 0,.bool false] 178)) (ext U w y) y 5 1 (.slice (some ⟨w1.heap.size,0,none⟩) 1 1) 1 [.int .u8 1]/\Blk ((w1.alloc (.cells #[.int .u8 1] 5)).alloc (.cells #[.string k,.string v,.int .i64 0,.bool false] 178)) pb 178 #[.string k,.string v,.int .i64 0,.bool false]/\Below w.heap.size w ((w1.alloc (.cells #[.int .u8 1] 5)).alloc (.cells #[.string k,.string v,.int .i64 0,.bool false] 178))):=hid ⟨by
  have:=Blk.new (w1.alloc (.cells #[.int .u8 1] 5)) 178 #[.string k,.string v,.int .i64 0,.bool false]
  simpa using this,((Rw.of_new (owns_new w1 5 1 #[.int .u8 1] 1 rfl (by decide)) HB2.out.size U y)).alloc _,(HK2.out.alloc _).alloc _,(HB2.out.alloc HB2.out.size _).alloc (by have:=HB2.out.size;simp;omega) _⟩
 generalize (w1.alloc (.cells #[.int .u8 1] 5)).alloc (.cells #[.string k,.string v,.int .i64 0,.bool false] 178)=W3 at *;clear g0 g1 g2 g3 g4 HK2
 refine(HEN.out W3 (w1.heap.size+1) (fun j u hu=>by
  have:=HIT.out.1.cell j;rw[Nat.zero_add];rw[this,<- hu]
  simp)).mono ?_
 rintro e w4 ⟨r,rfl,ho4,hb4⟩;have HB4:=hid (HIT.out.2.2.2.trans (hb4.mono HIT.out.2.2.2.size));have HK4:Hid (Blk w4 pb 178 #[.string k,.string v,.int .i64 0,.bool false]):=hid ((hb4.block pb HIT.out.2.2.1.lt).trans HIT.out.2.2.1);have HR4:Hid (Rw w4 (ext U w y) y 5 1 (.slice (some ⟨w1.heap.size,0,none⟩) 1 1) 1 [.int .u8 1]):=hid (HIT.out.2.1.keep (T:=fun _=>False) (Chg.same_own (U:=ext U w y) hb4) id);rw[HIB.out.1,HIB.out.2]at ho4
 have hne4:0<k.size+v.size+4:=by omega
 obtain⟨b2,c2,rfl,hc2,hlt2⟩:=ho4.form hne4;have hsl4:Sl w4 (some ⟨b2,0,none⟩) (ub (ibs k v 0)):=Sl.of_cells (ho4.cells (g:=b2) rfl);have HSL4:=hid hsl4;clear ho4 hb4 hc2 hlt2 hsl4 hne4 HIT HEN
 go_wp2_with (at_builtin;refine wpList_append_row2 _ rfl (.tmp 20) (.tmp 23) 74 rfl (ext U w y) y 5 i0 z0 1 1 (by kernel_rfl) HI.out.1 HI.out.2.1 HI.out.2.2.2.1 HI.out.2.2.2.2 (by rw[HI.out.2.2.1];rfl) (by decide) (.slice (some ⟨w1.heap.size,0,none⟩) 1 1) 1 [.int .u8 1] rfl HR4.out ⟨b2,0,none⟩ (k.size+v.size+4) c2 (ub (ibs k v 0)) rfl (by rw[ub_length,ibs_length,Nat.mul_one]) (by omega) HSL4.out (ub_one _) (by have:=HKV.out;omega) (by decide) ?_)
 intro b5 c5 w5 hR5 hC5 hG5;obtain⟨A5,c5',he5,-,-,hl5,hs5,-,hA5'⟩:=hR5.slice
 cases he5
 have hge5:w.heap.size<=b5:=by
  have h1:=(hA5' _ rfl).2.2.2
  rcases Nat.lt_or_ge b5 w.heap.size with h2|h2
  ·have h3:b5<w4.heap.size:=Nat.lt_of_lt_of_le h2 HB4.out.size
   rw[show(⟨b5,0,none⟩:Addr).block=b5 from rfl,ext_old h3]at h1;exact absurd h1 (HY.out b5 h2)
  ·exact h2
 have hb5:Below w.heap.size w w5:=HB4.out.trans (hC5.below_of w.heap.size HB4.out.size HY.out);have hlt5:=(hA5' _ rfl).2.2.1
 have hK5:Blk w5 pb 178 #[.string k,.string v,.int .i64 0,.bool false]:=by
  refine(hG5.block pb HK4.out.lt ?_).trans HK4.out;intro e;have hpb:=HPB0.out
  have h1:pb=w1.heap.size:=by simpa [Value.ownBlock] using e
  have:=HB2.out.size;have h2:=HS1.out;have h3:=HK2lt.out;omega
 have hsu:Sl w5 (some ⟨b5,0,none⟩) (ub (FRec.entry k v false).bytes):=by
  have e:ub (FRec.entry k v false).bytes=[.int .u8 1]++ub (ibs k v 0):=by simp[FRec.bytes,ub]
  rw[e];exact hs5
 have hlen:(FRec.entry k v false).bytes.length=1+(k.size+v.size+4):=by simp[FRec.bytes,ibs_length];omega
 have HA:=hid (HADD.out w5 b5 (1+(k.size+v.size+4)) c5 hb5 hlen hsu hlt5 hge5);have HB5:=hid hb5;have HK5:=hid hK5;clear hl5 hA5' hR5 hC5 hG5 HR4 HK4 HSL4 hs5 hge5 hb5 hlt5 hK5 hsu hlen HADD
 go_wp2_with fail
 refine HA.out.mono ?_;rintro e w6 ⟨rfl,U6,Z6,F6,hf6,hd6,hz6,hc6⟩;obtain⟨lp,x,fr,i1,i2,i3⟩:=hf6.ex;have hblk6:Blk w6 pb 178 #[.string k,.string v,.int .i64 0,.bool false]:=(hc6.block pb HK5.out.lt (by rw[HPBY.out.1];exact HPBY.out.2)).trans HK5.out;have HS6:Hid (PuS c x pb k w6.drew):=hid ⟨i1.cell 1,hblk6.cell 0⟩;have hl:=HLT.out;have HPUT:=hid (put162 w6.drew U6 (tc+1) x s.n s.used n' used' (pz f s.recs.length) s.pl pl' k (i3.keep ((Chg.refl (fun _=>False) w6 U6).drewN 1) id) (by omega) HKS.out.2.2.2.2.2.1 HKS.out.1 HKS.out.2.1 HKS.out.2.2.1 HKS.out.2.2.2.1 HKS.out.2.2.2.2.1);have HC6:Hid (FlashR w6 U6 tc c d from_ segs n f Z6 { s with recs:=s.recs++[FRec.entry k v false] }/\DevAt w6 U6 td d n Z6 F6/\(∀ j,(j<from_\/from_+segs*8<=j)->Z6 j=Z j)/\Has w6 U6 tc c 274 #[.pointer (some ⟨lp,0,none⟩),.pointer (some ⟨x,0,none⟩)]/\LogAt w6 U6 (tc+2) lp d from_ segs fr f Z6 ((s.recs++[FRec.entry k v false]).map FRec.bytes)):=hid ⟨hf6,hd6,hz6,i1,i2⟩;have HC7:=hid (HFR.out w5 w6 U6 HB5.out hc6);clear hf6 hd6 hz6 hc6 i1 i2 i3 hblk6 HA HB5 HK5 hl
 go_wp2_with fail
 refine wp_region_hl [] [0,1,2,3,4,5,6] (PuS c x pb k) (by kernel_rfl) (by kernel_rfl) HS6.out ?_
 iterate 7 (refine hd_take (v:=?_) rfl rfl (by kernel_rfl) (fun W hW=>?_) ?_;rotate_left;(obtain⟨r0,r1⟩:=hW;first|(go_simp;done)|(go_simp;with_reducible rfl)))
 refine hd_end ?_;simp only[zqa,zqb,zqc,zqd,Nat.zero_add,Nat.reduceAdd]
 go_wp2_with fail
 refine HPUT.out.mono ?_;rintro e w7 ⟨⟨v7,rfl⟩,U7,hi7,hc7⟩;have HR:=hid (And.intro hi7 hc7);clear hi7 hc7 HPUT
 go_wp2
 go_ret;obtain⟨hf6,hd6,hz6,i1,i2⟩:=HC6.out;obtain⟨hi7,hc7⟩:=HR.out;have hl:=HLT.out;have hc:=((Chg.refl (fun y=>y=tc+1) w6 U6).drewN 1).trans hc7;exact⟨rfl,U7,Z6,F6,⟨⟨lp,x,fr,i1.keep hc (by omega),i2.keep hc (fun y e=>by subst e;omega),hi7⟩,hf6.lt,hf6.ok,hf6.room,hf6.le,HKS.out.2.2.2.2.2.2⟩,hd6.keep hc (by omega),hz6,HC7.out.trans (hc.mono fun y e=>by subst e;exact .inl (by omega))⟩
def fput (segs:Nat)(s:FQ)(k v:ByteArray):Option FQ:=
 if s.recs.length<segs/\s.n<1000 then match putP s.pl s.n s.used k (s.recs.length+1) with
  | some (pl,n,used)=>some ⟨s.recs++[.entry k v false],pl,n,used⟩
  | none=>none
 else none
theorem put119 (w:World)(U:Own)(tc td c d from_ segs n:Nat)(f:Lf)(s s':FQ)(Z:Cont)(F:Nat->Prop)(k v:ByteArray)(hF:FlashAt w U tc c d from_ segs n f Z s)(hD:DevAt w U td d n Z F)(htd:td<95/\(td<tc\/tc+2<td))(hok:(FRec.entry k v false).ok=true)(hput:fput segs s k v=some s') :
 Calls Tryz.prog 119 #[.pointer (some ⟨c,0,none⟩),.agg #[.string k,.string v,.int .i64 0,.bool false]] w fun e w'=>e=.returned (.int .i64 0)/\∃ U' Z' F',FlashAt w' U' tc c d from_ segs n f Z' s'/\DevAt w' U' td d n Z' F'/\(∀ j,(j<from_\/from_+segs*8<=j)->Z' j=Z j)/\Chg (FT tc td) w U w' U':=by
 unfold fput at hput
 split at hput
 case isFalse=>cases hput
 rename_i hcond
 split at hput
 case h_2=>cases hput
 rename_i pl' n' used' hpp
 injection hput with hput
 subst hput;have hB:=hF.bnd
 have hrp:replay (s.recs++[.entry k v false])=some (pl',n',used'):=by
  rw[replay_snoc,hF.rp];rw[Option.bind_some];unfold recStep;dsimp only;rw[if_pos hcond.2];exact hpp
 have hr:=hF.raw.room
 have hok':∀ r∈s.recs++[FRec.entry k v false],r.ok=true:=fun r hr=>by
  rcases List.mem_append.1 hr with hr|hr
  ·exact hF.raw.ok r hr
  ·simp at hr;subst hr;exact hok
 have hB':=replay_ok hok' hrp;refine(put119r w U tc td c d from_ segs n f _ Z F k v (mapP f pl') n' used' hF.raw hD htd hok hcond.1 (by show s.recs.length<=_;omega) hcond.2 ?_ (hB'.ok (by simp;omega))).mono ?_
 ·show putP (mapP f s.pl) _ _ _ _=_
  rw[putP_map f s.pl k _ _ _ fun p hp hh=>(hB.1 p hp).2.2 hh,hpp];rfl
 ·rintro e w' ⟨rfl,U',Z',F',h1,h2,h3,h4⟩
  exact⟨rfl,U',Z',F',⟨h1,hrp⟩,h2,h3,h4⟩
def fentry (s:FQ)(key:ByteArray):Option (Option (ByteArray × ByteArray × Bool)):=match getP s.pl key with
 | none=>some none
 | some pos=>if pos=0\/50000<s.recs.length then none else match s.recs[pos-1]? with
  | some (.entry k v g)=>some (some (k,v,g))
  | _=>none
def itemR:Option (ByteArray × ByteArray × Bool)->Value
 | none=>.agg #[.string ⟨#[]⟩,.string ⟨#[]⟩,.int .i64 0,.bool false]
 | some (k,v,g)=>.agg #[.string k,.string v,.int .i64 0,.bool g]
theorem flush120 (w:World)(U:Own)(tc td c d from_ segs n:Nat)(f:Lf)(s:FQ)(Z:Cont)(F:Nat->Prop)(hF:FlashAt w U tc c d from_ segs n f Z s)(hD:DevAt w U td d n Z F)(htd:td<95/\(td<tc\/tc+2<td)) :
 Calls Tryz.prog 120 #[.pointer (some ⟨c,0,none⟩)] w fun e w'=>e=.returned (.int .i64 0)/\FlashAt w' U tc c d from_ segs n f Z s/\DevAt w' U td d n Z Lasts/\Chg (· = td) w U w' U:=by
 obtain⟨lp,x,fr,h1,h2,h3⟩:=hF.raw.ex;have hlt:=hF.raw.lt;have c0:w.cell? ⟨c,0,none⟩=some (.pointer (some ⟨lp,0,none⟩)):=h1.cell 0;have HF:=hid (flush163 w U (tc+2) td lp d from_ segs n fr f _ Z F h2 hD htd.1 (by omega) hF.raw.room.2);have HK:Hid (∀ w',Chg (· = td) w U w' U->FlashAt w' U tc c d from_ segs n f Z s):=hid fun w' hc=>hF.keep hc (fun x e=>by subst e;omega);clear hF hD htd h1 h2 h3 hlt;go_enter Tryz.func120,Tryz.ntmps120
 go_wp2_with fail
 refine HF.out.mono ?_;rintro e w1 ⟨rfl,-,h1,h2⟩;have HR:=hid (And.intro h1 h2);clear h1 h2 c0 HF
 go_wp2
 go_ret;exact⟨rfl,HK.out _ HR.out.2,HR.out.1,HR.out.2⟩
theorem ret_cell178 (w w1:World)(k v:ByteArray)(g:Bool)(rb:Nat)(hb:Below w.heap.size w w1)(hbk:Blk w1 rb 178 #[.string ⟨#[]⟩,.string ⟨#[]⟩,.int .i64 0,.bool false])(hrb:w.heap.size<=rb) :
 ∃ Wf,Wf=(((w1.setCell ⟨rb,0,none⟩ (.string k)).setCell ⟨rb,1,none⟩ (.string v)).setCell ⟨rb,2,none⟩ (.int .i64 0)).setCell ⟨rb,3,none⟩ (.bool g)/\Below w.heap.size w Wf/\Wf.cell? ⟨rb,0,none⟩=some (.string k)/\Wf.cell? ⟨rb,1,none⟩=some (.string v)/\Wf.cell? ⟨rb,2,none⟩=some (.int .i64 0)/\Wf.cell? ⟨rb,3,none⟩=some (.bool g):=by
 have hB4:=(((hbk.set_ 0 (.string k)).set_ 1 (.string v)).set_ 2 (.int .i64 0)).set_ 3 (.bool g);exact⟨_,rfl,(((hb.setCell (p:=⟨rb,0,none⟩) hrb _).setCell (p:=⟨rb,1,none⟩) hrb _).setCell (p:=⟨rb,2,none⟩) hrb _).setCell (p:=⟨rb,3,none⟩) hrb _,hB4.cell 0,hB4.cell 1,hB4.cell 2,hB4.cell 3⟩
theorem entry253 (w:World)(U:Own)(tc c d from_ segs n:Nat)(f:Lf)(Z:Cont)(s:FQ)(key:ByteArray)(r:Option (ByteArray × ByteArray × Bool))(hF:FlashAt w U tc c d from_ segs n f Z s)(hks:key.size<=9223372036854775807)(hr:fentry s key=some r) :
 Calls Tryz.prog 253 #[.pointer (some ⟨c,0,none⟩),.string key] w fun e w'=>e=.returned (.tuple #[itemR r,.bool r.isSome])/\Below w.heap.size w w':=by
 obtain⟨lp,x,fr,h1,h2,h3⟩:=hF.raw.ex;obtain⟨rb,hrb⟩:∃ b,b=w.heap.size:=⟨_,rfl⟩;obtain⟨W1,hW1⟩:∃ W,W=w.alloc (.cells #[.string ⟨#[]⟩,.string ⟨#[]⟩,.int .i64 0,.bool false] 178):=⟨_,rfl⟩
 have hB1:Below w.heap.size w W1:=by rw[hW1];exact(Below.refl _ _).alloc (Nat.le_refl _) _
 have hK1:Blk W1 rb 178 #[.string ⟨#[]⟩,.string ⟨#[]⟩,.int .i64 0,.bool false]:=by rw[hW1,hrb];exact Blk.new _ _ _
 have hkeep:∀ W,Below w.heap.size w W->Chg (fun _=>False) w U W U:=fun W hb=>Chg.same_own hb
 have c1:(w.alloc (.cells #[.string ⟨#[]⟩,.string ⟨#[]⟩,.int .i64 0,.bool false] 178)).cell? ⟨c,1,none⟩=some (.pointer (some ⟨x,0,none⟩)):=by rw[<- hW1];exact(h1.keep (hkeep W1 hB1) id).cell 1
 have HC0:Hid (∀ W,Below w.heap.size w W->W.cell? ⟨c,0,none⟩=some (.pointer (some ⟨lp,0,none⟩))):=hid fun W hb=>(h1.keep (hkeep W hb) id).cell 0;have HG:=hid (get272 W1 U (tc+1) x s.n s.used (mapP f s.pl) key (h3.keep (hkeep W1 hB1) id) hks);have HLOG:Hid (∀ W,Below w.heap.size w W->LogAt W U (tc+2) lp d from_ segs fr f Z (s.recs.map FRec.bytes)):=hid fun W hb=>h2.keep (hkeep W hb) (fun _ e=>e.elim);have HRB:=hid hrb;have HW1:=hid hW1;have HB1:=hid hB1;have HK1:=hid hK1;have hok:=hF.raw.ok;unfold fentry at hr;rw[getP_map]at HG;generalize getP s.pl key=gp at *
 cases gp with
 | none=>
  simp only[Option.map_none,Option.getD_none,Option.isSome]at HG
  injection hr with hr
  subst hr;clear hF h1 h2 h3 hkeep hrb hW1 hB1 hK1 hok;go_enter Tryz.func253,Tryz.ntmps253
  go_wp2_with fail
  rw[<- HW1.out,<- HRB.out];refine HG.out.mono ?_;rintro e w1 ⟨rfl,hb⟩;have hk2:Blk w1 rb 178 #[.string ⟨#[]⟩,.string ⟨#[]⟩,.int .i64 0,.bool false]:=(hb.block rb HK1.out.lt).trans HK1.out;have hbw:=HB1.out.trans (hb.mono HB1.out.size);obtain⟨Wf,hWf,hfin,z0,z1,z2,z3⟩:=ret_cell178 w w1 ⟨#[]⟩ ⟨#[]⟩ false rb hbw hk2 (by rw[HRB.out];exact Nat.le_refl _);have s0:w1.cell? ⟨rb,0,none⟩=some (.string ⟨#[]⟩):=hk2.cell 0;have s1:w1.cell? ⟨rb,1,none⟩=some (.string ⟨#[]⟩):=hk2.cell 1;have s2:w1.cell? ⟨rb,2,none⟩=some (.int .i64 0):=hk2.cell 2;have s3:w1.cell? ⟨rb,3,none⟩=some (.bool false):=hk2.cell 3;have f0:=hk2.frozen 0;have f1:=hk2.frozen 1;have f2:=hk2.frozen 2;have f3:=hk2.frozen 3;have HZ:=hid (And.intro hWf (And.intro hfin (And.intro z0 (And.intro z1 (And.intro z2 z3)))));clear hb hbw hk2 hWf hfin z0 z1 z2 z3 HG c1
  go_wp2
  rw[<- HZ.out.1];obtain⟨-,hfin,z0,z1,z2,z3⟩:=HZ.out;exact bodyPost_ret (v:=.tuple #[.agg #[.string ⟨#[]⟩,.string ⟨#[]⟩,.int .i64 0,.bool false],.bool false]) (by simp[results,Tryz.results253,go_sem,z0,z1,z2,z3]) rfl ⟨rfl,hfin⟩
 | some pos=>
  simp only[Option.map_some,Option.getD_some,Option.isSome]at HG;dsimp only at hr
  split at hr
  ·cases hr
  rename_i hcond
  split at hr
  case h_2=>cases hr
  rename_i k v g hrec
  injection hr with hr
  subst hr;have hrok:=hok _ (List.mem_of_getElem? hrec);have hlen:=(FRec.ok_len _ hrok)
  have hbod:(s.recs.map FRec.bytes)[pos-1]? = some (FRec.entry k v g).bytes:=by rw[List.getElem?_map,hrec];rfl
  have HRD:Hid (∀ W,Below w.heap.size w W->Calls Tryz.prog 273 #[.pointer (some ⟨lp,0,none⟩),.int .i64 ((pz f (pos-1):Nat):Int)] W fun e w'=>∃ v',e=.returned (.tuple #[v',.int .i64 0])/\w'.ownsRow W.heap.size 5 1 v' (FRec.entry k v g).bytes.length (ub (FRec.entry k v g).bytes)/\Below W.heap.size W w'):=hid fun W hb=>
   read273 W U (tc+2) lp d from_ segs fr f Z _ (HLOG.out W hb) pos _ (by omega) hbod (by simp;omega) (by omega)
  have HRE:Hid (∀ (W:World) (b cc:Nat),(FRec.entry k v g).bytes.length<=cc->cc<=9223372036854775807->Sl W (some ⟨b,0,none⟩) (ub (FRec.entry k v g).bytes)->Calls Tryz.prog 258 #[.slice (some ⟨b,0,none⟩) (FRec.entry k v g).bytes.length cc] W fun e w'=>e=.returned (.tuple #[.agg #[.string k,.string v,.int .i64 0,.bool g],.bool true])/\Below W.heap.size W w'):=hid fun W b cc h1 h2 h3=>read258 W b cc _ k v g hrok rfl h1 h2 h3;have HLEN:=hid hlen;clear hF h1 h2 h3 hkeep hrb hW1 hB1 hK1 hok hrec hrok hlen hbod;generalize (FRec.entry k v g).bytes=body at *;generalize pz f (pos-1)=pos' at *;go_enter Tryz.func253,Tryz.ntmps253
  go_wp2_with fail
  rw[<- HW1.out,<- HRB.out];refine HG.out.mono ?_;rintro e w1 ⟨rfl,hb⟩;have hk2:Blk w1 rb 178 #[.string ⟨#[]⟩,.string ⟨#[]⟩,.int .i64 0,.bool false]:=(hb.block rb HK1.out.lt).trans HK1.out;have hbw:=HB1.out.trans (hb.mono HB1.out.size);have HK2:=hid hk2;have HB2:=hid hbw;have d0:=HC0.out w1 hbw;clear hb hbw hk2 HG c1
  go_wp2_with fail
  refine(HRD.out w1 HB2.out).mono ?_;rintro e w2 ⟨v',rfl,ho,hb⟩
  obtain⟨b2,c2,hv2,hcap,hcm⟩:∃ b2 c2,v'=.slice (some ⟨b2,0,none⟩) body.length c2/\body.length<=c2/\c2<=9223372036854775807:=by
   have hl:=HLEN.out
   rcases ho.2 with ⟨_,h0⟩|⟨g2,cap,cur,e,_,_,h4,h5,_⟩
   ·omega
   ·exact⟨g2,cap,e,h4,h5⟩
  subst hv2;have hsl:Sl w2 (some ⟨b2,0,none⟩) (ub body):=Sl.of_cells (ho.cells (g:=b2) rfl);have hk3:Blk w2 rb 178 #[.string ⟨#[]⟩,.string ⟨#[]⟩,.int .i64 0,.bool false]:=(hb.block rb HK2.out.lt).trans HK2.out;have HB3:=hid (HB2.out.trans (hb.mono HB2.out.size));have HRE2:=hid (HRE.out w2 b2 c2 hcap hcm hsl);have HK3:=hid hk3;clear ho hb hcap hsl hcm hk3 d0
  go_wp2_with fail
  refine HRE2.out.mono ?_;rintro e w3 ⟨rfl,hb⟩;have hk4:Blk w3 rb 178 #[.string ⟨#[]⟩,.string ⟨#[]⟩,.int .i64 0,.bool false]:=(hb.block rb HK3.out.lt).trans HK3.out;have hbw:=HB3.out.trans (hb.mono HB3.out.size);obtain⟨Wf,hWf,hfin,z0,z1,z2,z3⟩:=ret_cell178 w w3 k v g rb hbw hk4 (by rw[HRB.out];exact Nat.le_refl _);have s0:w3.cell? ⟨rb,0,none⟩=some (.string ⟨#[]⟩):=hk4.cell 0;have s1:w3.cell? ⟨rb,1,none⟩=some (.string ⟨#[]⟩):=hk4.cell 1;have s2:w3.cell? ⟨rb,2,none⟩=some (.int .i64 0):=hk4.cell 2;have s3:w3.cell? ⟨rb,3,none⟩=some (.bool false):=hk4.cell 3;have f0:=hk4.frozen 0;have f1:=hk4.frozen 1;have f2:=hk4.frozen 2;have f3:=hk4.frozen 3;have HZ:=hid (And.intro hWf (And.intro hfin (And.intro z0 (And.intro z1 (And.intro z2 z3)))));clear hb hbw hk4 hWf hfin z0 z1 z2 z3
  go_wp2
  rw[<- HZ.out.1];obtain⟨-,hfin,z0,z1,z2,z3⟩:=HZ.out;exact bodyPost_ret (v:=.tuple #[.agg #[.string k,.string v,.int .i64 0,.bool g],.bool true]) (by simp[results,Tryz.results253,go_sem,z0,z1,z2,z3]) rfl ⟨rfl,hfin⟩
def fdrop (segs:Nat)(s:FQ)(key:ByteArray):Option FQ:=
 if s.recs.length<segs/\((findK s.pl key).1.isSome=true->1<=s.n) then some ⟨s.recs++[.entry key ⟨#[]⟩ true],dropP s.pl key,if (findK s.pl key).1.isSome then s.n-1 else s.n,s.used⟩ else none
theorem drop221 (w:World)(U:Own)(tc td c d from_ segs n:Nat)(f:Lf)(s s':FQ)(Z:Cont)(F:Nat->Prop)(k:ByteArray)(KB ko ck:Nat)(hF:FlashAt w U tc c d from_ segs n f Z s)(hD:DevAt w U td d n Z F)(htd:td<95/\(td<tc\/tc+2<td))(hok:(FRec.entry k ⟨#[]⟩ true).ok=true)(hdr:fdrop segs s k=some s')
 (hkey:w.cell? ⟨KB,ko,none⟩=some (.string k))(hKB:KB<w.heap.size/\¬ FT tc td (U KB)) :
 Calls Tryz.prog 221 #[.pointer (some ⟨c,0,none⟩),.slice (some ⟨KB,ko,none⟩) 1 ck] w fun e w'=>e=.returned (.int .i64 0)/\∃ U' Z',FlashAt w' U' tc c d from_ segs n f Z' s'/\DevAt w' U' td d n Z' Lasts/\(∀ j,(j<from_\/from_+segs*8<=j)->Z' j=Z j)/\Chg (FT tc td) w U w' U':=by
 unfold fdrop at hdr
 split at hdr
 case isFalse=>cases hdr
 rename_i hcond;obtain⟨hle,hn9⟩:=hcond
 injection hdr with hdr
 obtain⟨y,hy1,hy2⟩:=fresh95 w U;have hok2:=hok;simp only[FRec.ok,Bool.and_eq_true,decide_eq_true_eq]at hok2;obtain⟨⟨ho,hk⟩,hv⟩:=hok2
 have hko:keyOk k=true:=by
  unfold itemOk at ho;simp only[Bool.and_eq_true]at ho;exact ho.1
 have HKEY:Hid (∀ W,Calls Tryz.prog 164 #[.string k] W fun e w'=>e=.returned (.bool true)/\W=w'):=hid fun W=>by
  have:=key_any W k (by omega);rw[hko]at this;exact this
 have HQ:Hid (∀ W,Below w.heap.size w W->FlashR W (ext U w y) tc c d from_ segs n f Z ⟨s.recs,mapP f s.pl,s.n,s.used⟩/\DevAt W (ext U w y) td d n Z F):=hid fun W hb=>⟨hF.raw.quiet (Chg.of_below hb y),hD.keep (Chg.of_below (T:=fun _=>False) hb y) id⟩
 have hy95:¬ FT tc td y:=fun e=>by
  have:=hF.raw.lt;unfold FT at e;omega
 have HADD:Hid (∀ W B m cB,Below w.heap.size w W->(FRec.entry k ⟨#[]⟩ true).bytes.length=m->Sl W (some ⟨B,0,none⟩) (ub (FRec.entry k ⟨#[]⟩ true).bytes)->B<W.heap.size->w.heap.size<=B->Calls Tryz.prog 160 #[.pointer (some ⟨c,0,none⟩),.slice (some ⟨B,0,none⟩) m cB] W fun e w'=>e=.returned (.tuple #[.int .i64 ((pz f s.recs.length:Nat):Int),.int .i64 0]) /\
  ∃ U' Z' F',FlashR w' U' tc c d from_ segs n f Z' ⟨s.recs++[.entry k ⟨#[]⟩ true],mapP f s.pl,s.n,s.used⟩/\DevAt w' U' td d n Z' F'/\(∀ j,(j<from_\/from_+segs*8<=j)->Z' j=Z j)/\Chg (FT tc td) W (ext U w y) w' U'):=hid fun W B m cB hb hm hs hB hB2=>
  add160 W (ext U w y) tc td c d from_ segs n f _ Z F _ B 0 m cB (HQ.out W hb).1 (HQ.out W hb).2 htd hok hle hm hs hB (by rw[ext_new hB2];exact hy95)
 have HFR:Hid (∀ W W' U',Below w.heap.size w W->Chg (FT tc td) W (ext U w y) W' U'->Chg (FT tc td) w U W' U'):=hid fun W W' U' hb hc=>(Chg.of_below hb y).trans hc;have hlt:=hF.raw.lt;have hroom:=hF.raw.room;have HLT:Hid (tc+2<95/\td<95/\(td<tc\/tc+2<td)):=hid ⟨hlt,htd⟩;have HOK:Hid ((∀ r∈s.recs,r.ok=true)/\(from_+segs*8<=n/\n<=2048)/\s.recs.length<segs/\(FRec.entry k ⟨#[]⟩ true).ok=true):=hid ⟨hF.raw.ok,hroom,hle,hok⟩;have HY:Hid (∀ i,i<w.heap.size->¬ (ext U w y i=y)):=hid fun i hi e=>hy2 i hi ((ext_old (U:=U) (t:=y) hi).symm.trans e);have HEN:=hid (fun(W:World) (A:Nat) (h:_)=>encode_any W A 0 1 k ⟨#[]⟩ true 1 rfl ho hk hv h);have HIB:Hid (tbs [k,⟨#[]⟩]++nbs [0,1]=ub (ibs k ⟨#[]⟩ 1)/\tsum [k,⟨#[]⟩]+2=k.size+4):=hid ⟨ibs_eq k ⟨#[]⟩ 1 hk hv (by decide),by have e0:(⟨#[]⟩:ByteArray).size=0:=rfl;simp[tsum];omega⟩
 have HDROP:Hid (∀ W U2 x,IndexAt W U2 (tc+1) x (mapP f s.pl) s.n s.used->Calls Tryz.prog 252 #[.pointer (some ⟨x,0,none⟩),.string k] W fun e w'=>(∃ v,e=.returned v)/\IndexAt w' U2 (tc+1) x (mapP f s'.pl) s'.n s'.used/\Chg (· = tc+1) W U2 w' U2):=hid fun W U2 x h=>by
  refine(drop252 W U2 (tc+1) x s.n s.used (mapP f s.pl) k h (by omega) (fun e=>hn9 (by rw[findK_map]at e;cases h9:(findK s.pl k).1 with|none=>exact absurd h9 e|some _=>rfl))).mono ?_;rintro e w' ⟨rfl,h1,h2⟩;rw[<- hdr];rw[findK_map,dropP_map]at h1;exact⟨⟨_,rfl⟩,h1,h2⟩
 have hrec:s'.recs=s.recs++[.entry k ⟨#[]⟩ true]:=by rw[<- hdr]
 have HREC:=hid hrec
 have hrp:replay s'.recs=some (s'.pl,s'.n,s'.used):=by
  rw[hrec,replay_snoc,hF.rp,Option.bind_some,<- hdr];unfold recStep;dsimp only;rw[if_pos hn9]
 have hpk:PlOk (mapP f s'.pl):=by
  have hok':∀ r∈s'.recs,r.ok=true:=fun r hr=>by
   rw[hrec]at hr
   rcases List.mem_append.1 hr with hr|hr
   ·exact hF.raw.ok r hr
   ·simp at hr;subst hr;exact hok
  have h2:=hF.small;exact(replay_ok hok' hrp).ok (by rw[hrec];simp;omega)
 have HRP:=hid (And.intro hrp hpk);clear hrp hpk;obtain⟨i0,z0,hi0⟩:=info_cells info5;have HI:=hid hi0;have HKV:Hid (k.size<64):=hid hk;have HKC:Hid (∀ W U',Chg (FT tc td) w U W U'->W.cell? ⟨KB,ko,none⟩=some (.string k)):=hid fun W U' hc=>(World.cell?_of_block (hc.block KB hKB.1 hKB.2)).trans hkey;clear hF hD hok ho hk hv hy1 hy2 hy95 hlt hroom hle hn9 htd hi0 hdr hko hrec hKB;go_enter Tryz.func221,Tryz.ntmps221
 go_wp2
 go_loop [15] (fun i=>∃ j:Nat,j<=1/\i=.int .i64 (j:Int)) (fun i=>1-(intOf i).toNat)
 case atStart=>exact⟨0,by decide,rfl⟩
 case round=>
  obtain⟨j,hj,rfl⟩:=hrel
  by_cases hj0:j=0
  ·subst hj0
   go_wp2_with fail
   refine(HKEY.out w).mono ?_;rintro e w1 ⟨rfl,rfl⟩
   go_wp2
   go_round
   case rel=>exact⟨1,by decide,rfl⟩
   case measure=>simp[intOf]
  ·obtain rfl:j=1:=by omega
   clear HKEY
   go_wp2
   go_loopw [25] (fun i wr=>(i=.int .i64 0/\wr=w)\/(i=.int .i64 1/\∃ U' Z' F',FlashAt wr U' tc c d from_ segs n f Z' s'/\DevAt wr U' td d n Z' F'/\(∀ j,(j<from_\/from_+segs*8<=j)->Z' j=Z j)/\Chg (FT tc td) w U wr U')) (fun i _=>1-(intOf i).toNat)
   case atStart=>exact .inl ⟨rfl,rfl⟩
   case round=>
    rcases hrel with ⟨rfl,rfl⟩|⟨rfl,U2,Z2,F2,hf2,hd2,hz2,hc2⟩
    ·go_wp2_with fail
     have HIT:Hid (Blk ((wr.alloc (.cells #[.int .u8 1] 5)).alloc (.cells #[.string k,.string ⟨#[]⟩,.int .i64 0,.bool true] 178)) (wr.heap.size+1) 178 #[.string k,.string ⟨#[]⟩,.int .i64 0,.bool true]/\Rw ((wr.alloc (.cells #[.int .u8 1] 5)).alloc (.cells #[.string k,.string ⟨#[]⟩,.int .i64 0,.bool true] 178)) (ext U wr y) y 5 1 (.slice (some ⟨wr.heap.size,0,none⟩) 1 1) 1 [.int .u8 1]/\Below wr.heap.size wr ((wr.alloc (.cells #[.int .u8 1] 5)).alloc (.cells #[.string k,.string ⟨#[]⟩,.int .i64 0,.bool true] 178))):=hid ⟨by
      have:=Blk.new (wr.alloc (.cells #[.int .u8 1] 5)) 178 #[.string k,.string ⟨#[]⟩,.int .i64 0,.bool true]
      simpa using this,((Rw.of_new (owns_new wr 5 1 #[.int .u8 1] 1 rfl (by decide)) (Nat.le_refl _) U y)).alloc _,((Below.refl _ _).alloc (Nat.le_refl _) _).alloc (by simp) _⟩
     generalize (wr.alloc (.cells #[.int .u8 1] 5)).alloc (.cells #[.string k,.string ⟨#[]⟩,.int .i64 0,.bool true] 178)=W3 at *
     refine(HEN.out W3 (wr.heap.size+1) (fun j u hu=>by
      have:=HIT.out.1.cell j;rw[Nat.zero_add];rw[this,<- hu]
      simp)).mono ?_
     rintro e w4 ⟨r,rfl,ho4,hb4⟩;have HB4:=hid (HIT.out.2.2.trans (hb4.mono HIT.out.2.2.size));have HR4:Hid (Rw w4 (ext U wr y) y 5 1 (.slice (some ⟨wr.heap.size,0,none⟩) 1 1) 1 [.int .u8 1]):=hid (HIT.out.2.1.keep (T:=fun _=>False) (Chg.same_own (U:=ext U wr y) hb4) id);rw[HIB.out.1,HIB.out.2]at ho4
     have hne4:0<k.size+4:=by omega
     obtain⟨b2,c2,rfl,hc2,hlt2⟩:=ho4.form hne4;have hsl4:Sl w4 (some ⟨b2,0,none⟩) (ub (ibs k ⟨#[]⟩ 1)):=Sl.of_cells (ho4.cells (g:=b2) rfl);have HSL4:=hid hsl4;clear ho4 hb4 hc2 hlt2 hsl4 hne4 HIT HEN
     go_wp2_with (at_builtin;refine wpList_append_row2 _ rfl (.tmp 31) (.tmp 35) 74 rfl (ext U wr y) y 5 i0 z0 1 1 (by kernel_rfl) HI.out.1 HI.out.2.1 HI.out.2.2.2.1 HI.out.2.2.2.2 (by rw[HI.out.2.2.1];rfl) (by decide) (.slice (some ⟨wr.heap.size,0,none⟩) 1 1) 1 [.int .u8 1] rfl HR4.out ⟨b2,0,none⟩ (k.size+4) c2 (ub (ibs k ⟨#[]⟩ 1)) rfl (by rw[ub_length,ibs_length,Nat.mul_one];rfl) (by omega) HSL4.out (ub_one _) (by have:=HKV.out;omega) (by decide) ?_)
     intro b5 c5 w5 hR5 hC5 hG5;obtain⟨A5,c5',he5,-,-,hl5,hs5,-,hA5'⟩:=hR5.slice
     cases he5
     have hge5:wr.heap.size<=b5:=by
      have h1:=(hA5' _ rfl).2.2.2
      rcases Nat.lt_or_ge b5 wr.heap.size with h2|h2
      ·have h3:b5<w4.heap.size:=Nat.lt_of_lt_of_le h2 HB4.out.size
       rw[show(⟨b5,0,none⟩:Addr).block=b5 from rfl,ext_old h3]at h1;exact absurd h1 (HY.out b5 h2)
      ·exact h2
     have hb5:Below wr.heap.size wr w5:=HB4.out.trans (hC5.below_of wr.heap.size HB4.out.size HY.out);have hlt5:=(hA5' _ rfl).2.2.1
     have hsu:Sl w5 (some ⟨b5,0,none⟩) (ub (FRec.entry k ⟨#[]⟩ true).bytes):=by
      have e:ub (FRec.entry k ⟨#[]⟩ true).bytes=[.int .u8 1]++ub (ibs k ⟨#[]⟩ 1):=by simp[FRec.bytes,ub]
      rw[e];exact hs5
     have hlen:(FRec.entry k ⟨#[]⟩ true).bytes.length=1+(k.size+4):=by have e0:(⟨#[]⟩:ByteArray).size=0:=rfl;simp[FRec.bytes,ibs_length];omega
     have HA:=hid (HADD.out w5 b5 (1+(k.size+4)) c5 hb5 hlen hsu hlt5 hge5);have HB5:=hid hb5;clear hl5 hA5' hR5 hC5 hG5 HR4 HSL4 hs5 hge5 hb5 hlt5 hsu hlen HADD
     go_wp2_with fail
     refine HA.out.mono ?_;rintro e w6 ⟨rfl,U6,Z6,F6,hf6,hd6,hz6,hc6⟩;have HZ6:=hid hz6;clear hz6;obtain⟨lp,x,fr,i1,i2,i3⟩:=hf6.ex;have c1:w6.cell? ⟨c,1,none⟩=some (.pointer (some ⟨x,0,none⟩)):=i1.cell 1;have HH:=hid (And.intro i1 (And.intro i2 (And.intro i3 (And.intro hd6 (HFR.out w5 w6 U6 HB5.out hc6)))));have HDR:=hid (HDROP.out w6 U6 x i3);clear hf6 hd6 hc6 i1 i2 i3 HA HB5
     go_wp2_with fail
     refine HDR.out.mono ?_;rintro e w7 ⟨⟨v,rfl⟩,hi7,hc7⟩;have HX:=hid (And.intro hi7 hc7);clear hi7 hc7 c1
     go_wp2
     go_roundw
     case rel=>
      have hl:=HLT.out;have hx:=HX.out;have hh:=HH.out;have hok:=HOK.out;refine .inr ⟨rfl,U6,Z6,F6,⟨⟨⟨lp,x,fr,hh.1.keep hx.2 (by omega),?_,hx.1⟩,hl.1,?_,hok.2.1,?_,HRP.out.2⟩,HRP.out.1⟩,hh.2.2.2.1.keep hx.2 (by omega),HZ6.out,hh.2.2.2.2.trans (hx.2.mono fun z e=>by subst e;exact .inl (by omega))⟩
      ·show LogAt _ _ _ _ _ _ _ _ _ _ (s'.recs.map FRec.bytes)
       rw[HREC.out];exact hh.2.1.keep hx.2 (fun z e=>by subst e;omega)
      ·intro q hq
       have hq:q∈s'.recs:=hq;rw[HREC.out]at hq
       rcases List.mem_append.1 hq with hq|hq
       ·exact hok.1 q hq
       ·simp at hq;subst hq;exact hok.2.2.2
      ·show s'.recs.length<=_
       rw[HREC.out];have:=hok.2.2.1;simp;omega
     case measure=>simp[intOf]
    ·obtain⟨lp,x,fr,i1,i2,i3⟩:=hf2.raw.ex
     have c0:wr.cell? ⟨c,0,none⟩=some (.pointer (some ⟨lp,0,none⟩)):=i1.cell 0;have hl:=HLT.out;have HFL:=hid (flush163 wr U2 (tc+2) td lp d from_ segs n fr f _ Z2 F2 i2 hd2 hl.2.1 (by omega) HOK.out.2.1.2);have HS:=hid (And.intro hf2 (And.intro hz2 hc2));clear hf2 hd2 hz2 hc2 i1 i2 i3 HEN HADD HDROP hl
     go_wp2_with fail
     refine HFL.out.mono ?_;rintro e w8 ⟨rfl,-,h8,h9⟩;have HR:=hid (And.intro h8 h9);clear h8 h9 c0 HFL
     go_wp2
     go_ret;have hl:=HLT.out;exact⟨rfl,U2,Z2,HS.out.1.keep HR.out.2 (fun z e=>by subst e;omega),HR.out.1,HS.out.2.1,HS.out.2.2.trans (HR.out.2.mono fun z e=>.inr e)⟩
def liveR:Option (ByteArray × ByteArray × Bool)->Option (ByteArray × ByteArray × Bool)
 | none=>none
 | some (k,v,g)=>if itemOk k v g && !g then some (k,v,g) else none
theorem fentry_ok {s:FQ}{key k v:ByteArray}{g:Bool}(hok:∀ r∈s.recs,r.ok=true)(h:fentry s key=some (some (k,v,g))):k.size<64/\v.size<64:=by
 unfold fentry at h
 split at h
 ·simp at h
 ·split at h
  ·cases h
  ·split at h
   ·rename_i k' v' g' hrec
    simp only[Option.some.injEq,Prod.mk.injEq]at h;obtain⟨rfl,rfl,rfl⟩:=h;have:=hok _ (List.mem_of_getElem? hrec);simp only[FRec.ok,Bool.and_eq_true,decide_eq_true_eq]at this;exact⟨this.1.2,this.2⟩
   ·cases h
theorem get222 (w:World)(U:Own)(tc c d from_ segs n:Nat)(f:Lf)(Z:Cont)(s:FQ)(key:ByteArray)(now:Int)(r:Option (ByteArray × ByteArray × Bool))(hF:FlashAt w U tc c d from_ segs n f Z s)(hks:key.size<=9223372036854775807)(hr:fentry s key=some r) :
 Calls Tryz.prog 222 #[.pointer (some ⟨c,0,none⟩),.string key,.int .i64 now] w fun e w'=>e=.returned (.tuple #[itemR (liveR r),.bool (liveR r).isSome])/\Below w.heap.size w w':=by
 obtain⟨rb,hrb⟩:∃ b,b=w.heap.size:=⟨_,rfl⟩;obtain⟨W1,hW1⟩:∃ W,W=w.alloc (.cells #[.string ⟨#[]⟩,.string ⟨#[]⟩,.int .i64 0,.bool false] 178):=⟨_,rfl⟩
 have hB1:Below w.heap.size w W1:=by rw[hW1];exact(Below.refl _ _).alloc (Nat.le_refl _) _
 have hK1:Blk W1 rb 178 #[.string ⟨#[]⟩,.string ⟨#[]⟩,.int .i64 0,.bool false]:=by rw[hW1,hrb];exact Blk.new _ _ _
 have HE:=hid (entry253 W1 U tc c d from_ segs n f Z s key r (hF.quiet (Chg.same_own hB1)) hks hr);have hsz:∀ k v g,r=some (k,v,g)->k.size<64/\v.size<64:=fun k v g e=>fentry_ok (s:=s) (key:=key) hF.raw.ok (by rw[hr,e]);have HRB:=hid hrb;have HW1:=hid hW1;have HB1:=hid hB1;have HK1:=hid hK1;clear hF hr hrb hW1 hB1 hK1 hks
 cases r with
 | none=>
  go_enter Tryz.func222,Tryz.ntmps222
  go_wp2_with fail
  rw[<- HW1.out,<- HRB.out];refine HE.out.mono ?_;rintro e w1 ⟨rfl,hb⟩;have hk2:Blk w1 rb 178 #[.string ⟨#[]⟩,.string ⟨#[]⟩,.int .i64 0,.bool false]:=(hb.block rb HK1.out.lt).trans HK1.out;have hbw:=HB1.out.trans (hb.mono HB1.out.size);have hk3:=hk2.alloc (.cells #[.string ⟨#[]⟩,.string ⟨#[]⟩,.int .i64 0,.bool false] 178);have hbw2:=hbw.alloc hbw.size (.cells #[.string ⟨#[]⟩,.string ⟨#[]⟩,.int .i64 0,.bool false] 178);obtain⟨Wf,hWf,hfin,z0,z1,z2,z3⟩:=ret_cell178 w _ ⟨#[]⟩ ⟨#[]⟩ false rb hbw2 hk3 (by rw[HRB.out];exact Nat.le_refl _);have s0:(w1.alloc (.cells #[.string ⟨#[]⟩,.string ⟨#[]⟩,.int .i64 0,.bool false] 178)).cell? ⟨rb,0,none⟩=some (.string ⟨#[]⟩):=hk3.cell 0;have s1:(w1.alloc (.cells #[.string ⟨#[]⟩,.string ⟨#[]⟩,.int .i64 0,.bool false] 178)).cell? ⟨rb,1,none⟩=some (.string ⟨#[]⟩):=hk3.cell 1;have s2:(w1.alloc (.cells #[.string ⟨#[]⟩,.string ⟨#[]⟩,.int .i64 0,.bool false] 178)).cell? ⟨rb,2,none⟩=some (.int .i64 0):=hk3.cell 2;have s3:(w1.alloc (.cells #[.string ⟨#[]⟩,.string ⟨#[]⟩,.int .i64 0,.bool false] 178)).cell? ⟨rb,3,none⟩=some (.bool false):=hk3.cell 3;have f0:=hk3.frozen 0;have f1:=hk3.frozen 1;have f2:=hk3.frozen 2;have f3:=hk3.frozen 3;have HZ:=hid (And.intro hWf (And.intro hfin (And.intro z0 (And.intro z1 (And.intro z2 z3)))));clear hb hbw hk2 hk3 hbw2 hWf hfin z0 z1 z2 z3 HE;simp only[itemR,Option.isSome]
  go_wp2
  rw[<- HZ.out.1];obtain⟨-,hfin,z0,z1,z2,z3⟩:=HZ.out;exact bodyPost_ret (v:=.tuple #[.agg #[.string ⟨#[]⟩,.string ⟨#[]⟩,.int .i64 0,.bool false],.bool false]) (by simp[results,Tryz.results222,go_sem,z0,z1,z2,z3]) rfl ⟨rfl,hfin⟩
 | some p=>
  obtain⟨k,v,g⟩:=p;obtain⟨hk,hv⟩:=hsz k v g rfl;have HLV:Hid (∀ W,Calls Tryz.prog 254 #[itemV k v g,.int .i64 now] W fun e w'=>e=.returned (.bool (itemOk k v g && !g))/\Below W.heap.size W w'):=hid fun W=>live_any W k v g now (by omega) (by omega);have HLR:Hid (liveR (some (k,v,g))=if itemOk k v g && !g then some (k,v,g) else none):=hid rfl;generalize liveR (some (k,v,g))=lr at *;generalize (itemOk k v g && !g)=b at *;unfold itemV at HLV;go_enter Tryz.func222,Tryz.ntmps222
  go_wp2_with fail
  rw[<- HW1.out,<- HRB.out];refine HE.out.mono ?_;rintro e w1 ⟨rfl,hb⟩;have hk2:Blk w1 rb 178 #[.string ⟨#[]⟩,.string ⟨#[]⟩,.int .i64 0,.bool false]:=(hb.block rb HK1.out.lt).trans HK1.out;have hbw:=HB1.out.trans (hb.mono HB1.out.size);have hk3:=hk2.alloc (.cells #[.string k,.string v,.int .i64 0,.bool g] 178);have hx3:=Blk.new w1 178 #[.string k,.string v,.int .i64 0,.bool g];have hbw2:=hbw.alloc hbw.size (.cells #[.string k,.string v,.int .i64 0,.bool g] 178);have HK3:=hid hk3;have HX3:=hid hx3;have HBW:=hid hbw2;clear hb hbw hk2 hk3 hbw2 HE hx3;simp only[itemR,Option.isSome]
  go_wp2_with fail
  generalize w1.alloc (.cells #[.string k,.string v,.int .i64 0,.bool g] 178)=W3 at *;refine(HLV.out W3).mono ?_;rintro e w4 ⟨rfl,hb4⟩;have hk4:Blk w4 rb 178 #[.string ⟨#[]⟩,.string ⟨#[]⟩,.int .i64 0,.bool false]:=(hb4.block rb HK3.out.lt).trans HK3.out;have hx4:Blk w4 w1.heap.size 178 #[.string k,.string v,.int .i64 0,.bool g]:=(hb4.block _ HX3.out.lt).trans HX3.out;have hbw4:=HBW.out.trans (hb4.mono HBW.out.size);have s0:w4.cell? ⟨rb,0,none⟩=some (.string ⟨#[]⟩):=hk4.cell 0;have s1:w4.cell? ⟨rb,1,none⟩=some (.string ⟨#[]⟩):=hk4.cell 1;have s2:w4.cell? ⟨rb,2,none⟩=some (.int .i64 0):=hk4.cell 2;have s3:w4.cell? ⟨rb,3,none⟩=some (.bool false):=hk4.cell 3;have f0:=hk4.frozen 0;have f1:=hk4.frozen 1;have f2:=hk4.frozen 2;have f3:=hk4.frozen 3
  cases b with
  | false=>
   have hlr:lr=none:=HLR.out;subst hlr;obtain⟨Wf,hWf,hfin,z0,z1,z2,z3⟩:=ret_cell178 w w4 ⟨#[]⟩ ⟨#[]⟩ false rb hbw4 hk4 (by rw[HRB.out];exact Nat.le_refl _);have HZ:=hid (And.intro hWf (And.intro hfin (And.intro z0 (And.intro z1 (And.intro z2 z3)))));clear hb4 hk4 hx4 hbw4 hWf hfin z0 z1 z2 z3
   go_wp2
   rw[<- HZ.out.1];obtain⟨-,hfin,z0,z1,z2,z3⟩:=HZ.out;exact bodyPost_ret (v:=.tuple #[.agg #[.string ⟨#[]⟩,.string ⟨#[]⟩,.int .i64 0,.bool false],.bool false]) (by simp[results,Tryz.results222,go_sem,z0,z1,z2,z3]) rfl ⟨rfl,hfin⟩
  | true=>
   have hlr:lr=some (k,v,g):=HLR.out;subst hlr;obtain⟨Wf,hWf,hfin,z0,z1,z2,z3⟩:=ret_cell178 w w4 k v g rb hbw4 hk4 (by rw[HRB.out];exact Nat.le_refl _);have HZ:=hid (And.intro hWf (And.intro hfin (And.intro z0 (And.intro z1 (And.intro z2 z3)))));have t0:w4.cell? ⟨w1.heap.size,0,none⟩=some (.string k):=hx4.cell 0;have t1:w4.cell? ⟨w1.heap.size,1,none⟩=some (.string v):=hx4.cell 1;have t2:w4.cell? ⟨w1.heap.size,2,none⟩=some (.int .i64 0):=hx4.cell 2;have t3:w4.cell? ⟨w1.heap.size,3,none⟩=some (.bool g):=hx4.cell 3;clear hb4 hk4 hx4 hbw4 hWf hfin z0 z1 z2 z3
   go_wp2
   rw[<- HZ.out.1];obtain⟨-,hfin,z0,z1,z2,z3⟩:=HZ.out;exact bodyPost_ret (v:=.tuple #[.agg #[.string k,.string v,.int .i64 0,.bool g],.bool true]) (by simp[results,Tryz.results222,go_sem,z0,z1,z2,z3]) rfl ⟨rfl,hfin⟩
def fwipe (segs:Nat)(s:FQ):Option FQ:=if s.recs.length<segs then some ⟨s.recs++[.wipe],List.replicate 16 Place.zero,0,0⟩ else none
theorem wipe229 (w:World)(U:Own)(tc td c d from_ segs n:Nat)(f:Lf)(s s':FQ)(Z:Cont)(F:Nat->Prop)(hF:FlashAt w U tc c d from_ segs n f Z s)(hD:DevAt w U td d n Z F)(htd:td<95/\(td<tc\/tc+2<td))(hw:fwipe segs s=some s') :
 Calls Tryz.prog 229 #[.pointer (some ⟨c,0,none⟩)] w fun e w'=>e=.returned (.int .i64 0)/\∃ U' Z',FlashAt w' U' tc c d from_ segs n f Z' s'/\DevAt w' U' td d n Z' Lasts/\(∀ j,(j<from_\/from_+segs*8<=j)->Z' j=Z j)/\Chg (FT tc td) w U w' U':=by
 unfold fwipe at hw
 split at hw
 case isFalse=>cases hw
 rename_i hle
 injection hw with hw
 subst hw;obtain⟨y,hy1,hy2⟩:=fresh95 w U;obtain⟨W1,hW1⟩:∃ W,W=w.alloc (.cells #[.int .u8 2] 5):=⟨_,rfl⟩;obtain⟨b1,hb1⟩:∃ b,b=w.heap.size:=⟨_,rfl⟩
 have hB1:Below w.heap.size w W1:=by rw[hW1];exact(Below.refl _ _).alloc (Nat.le_refl _) _
 have hK1:Blk W1 b1 5 #[.int .u8 2]:=by rw[hW1,hb1];exact Blk.new _ _ _
 have hc1:Chg (fun _=>False) w U W1 (ext U w y):=Chg.of_below hB1 y;have hlt:=hF.raw.lt
 have hrp:replay (s.recs++[.wipe])=some (List.replicate 16 Place.zero,0,0):=by
  rw[replay_snoc,hF.rp,Option.bind_some];rfl
 have HRP:=hid hrp;clear hrp
 have hy95:¬ FT tc td y:=fun e=>by unfold FT at e;omega
 have HADD:=hid (add160 W1 (ext U w y) tc td c d from_ segs n f _ Z F .wipe b1 0 1 1 (hF.raw.quiet hc1) (hD.keep hc1 id) htd rfl hle rfl hK1.sl (by exact hK1.lt) (by rw[ext_new (by omega)];exact hy95));have HF0:Hid (∀ W' U',Chg (FT tc td) W1 (ext U w y) W' U'->Chg (FT tc td) w U W' U'):=hid fun W' U' hc=>(hc1.mono fun _ e=>e.elim).trans hc;have HLT:Hid (tc+2<95/\td<95/\(td<tc\/tc+2<td)/\n<=2048):=hid ⟨hlt,htd.1,htd.2,hF.raw.room.2⟩;have HW1:=hid hW1;have HB1:=hid hb1;clear hF hD htd hle hy1 hy2 hW1 hb1 hB1 hK1 hc1 hlt hy95;go_enter Tryz.func229,Tryz.ntmps229
 go_wp2_with fail
 rw[<- HW1.out,<- HB1.out];refine HADD.out.mono ?_;rintro e w2 ⟨rfl,U2,Z2,F2,hf2,hd2,hz2,hc2⟩;have HZ2:=hid hz2;clear hz2;have HNEW:=hid (new257 w2 U2 (tc+1));have HS:=hid (And.intro hf2 (And.intro hd2 hc2));clear hf2 hd2 hc2 HADD
 go_wp2_with fail
 refine HNEW.out.mono ?_;rintro e w3 ⟨x,rfl,hi3,hb3⟩;obtain⟨lp,x0,fr,i1,i2,i3⟩:=HS.out.1.ex;have hq:Chg (fun _=>False) w2 U2 w3 (ext U2 w2 (tc+1)):=Chg.of_below hb3 _;have j1:=i1.keep hq id;have j2:=i2.keep hq (fun _ e=>e.elim);have j3:=HS.out.2.1.keep hq id;have s1:w3.cell? ⟨c,1,none⟩=some (.pointer (some ⟨x0,0,none⟩)):=j1.cell 1;have f1:=j1.frozen 1;have hw3:Chg (· = tc) w3 (ext U2 w2 (tc+1)) (w3.setCell ⟨c,1,none⟩ (.pointer (some ⟨x,0,none⟩))) (ext U2 w2 (tc+1)):=(Chg.refl _ _ _).setCell (p:=⟨c,1,none⟩) j1.own _
 have k1:Has (w3.setCell ⟨c,1,none⟩ (.pointer (some ⟨x,0,none⟩))) (ext U2 w2 (tc+1)) tc c 274 #[.pointer (some ⟨lp,0,none⟩),.pointer (some ⟨x,0,none⟩)]:=by
  have:=j1.set_ 1 (.pointer (some ⟨x,0,none⟩))
  simpa using this
 have hlt:=HLT.out
 have HFL:Hid (FlashAt (w3.setCell ⟨c,1,none⟩ (.pointer (some ⟨x,0,none⟩))) (ext U2 w2 (tc+1)) tc c d from_ segs n f Z2 ⟨s.recs++[.wipe],List.replicate 16 Place.zero,0,0⟩/\DevAt (w3.setCell ⟨c,1,none⟩ (.pointer (some ⟨x,0,none⟩))) (ext U2 w2 (tc+1)) td d n Z2 F2/\Chg (FT tc td) w U (w3.setCell ⟨c,1,none⟩ (.pointer (some ⟨x,0,none⟩))) (ext U2 w2 (tc+1))):=hid
  ⟨⟨⟨⟨lp,x,fr,k1,j2.keep hw3 (fun z e=>by subst e;omega),(by rw[mapP_zero];exact hi3.keep hw3 (by omega))⟩,hlt.1,HS.out.1.ok,HS.out.1.room,HS.out.1.le,(by rw[mapP_zero];exact fun p hp=>by rw[List.eq_of_mem_replicate hp];exact⟨by decide,by decide⟩)⟩,HRP.out⟩,j3.keep hw3 (by omega),HF0.out _ _ ((HS.out.2.2.trans (hq.mono fun _ e=>e.elim)).trans (hw3.mono fun z e=>by subst e;exact .inl (by omega)))⟩
 have c0:(w3.setCell ⟨c,1,none⟩ (.pointer (some ⟨x,0,none⟩))).cell? ⟨c,0,none⟩=some (.pointer (some ⟨lp,0,none⟩)):=k1.cell 0;have HFLS:Hid (LogAt (w3.setCell ⟨c,1,none⟩ (.pointer (some ⟨x,0,none⟩))) (ext U2 w2 (tc+1)) (tc+2) lp d from_ segs fr f Z2 ((s.recs++[FRec.wipe]).map FRec.bytes)):=hid (j2.keep hw3 (fun z e=>by subst e;omega));clear i1 i2 i3 hq j1 j2 j3 hw3 k1 hi3 hb3 hlt HNEW HS
 go_wp2_with fail
 generalize w3.setCell ⟨c,1,none⟩ (.pointer (some ⟨x,0,none⟩))=W4 at *;generalize ext U2 w2 (tc+1)=U4 at *;have hlt:=HLT.out;refine(flush163 W4 U4 (tc+2) td lp d from_ segs n fr f _ Z2 F2 HFLS.out HFL.out.2.1 hlt.2.1 (by omega) hlt.2.2.2).mono ?_;rintro e w5 ⟨rfl,h1,h2,h3⟩;have HR:=hid (And.intro h2 h3);clear h1 h2 h3 c0 s1 f1
 go_wp2
 go_ret;exact⟨rfl,U4,Z2,HFL.out.1.keep HR.out.2 (fun z e=>by subst e;omega),HR.out.1,HZ2.out,HFL.out.2.2.trans (HR.out.2.mono fun z e=>.inr e)⟩
end Go.Proofs.Ytlhekbjidppijaa
