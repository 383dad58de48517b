/- Contracts of what TopFall reaches: what each function returns and leaves in memory. Conditions: as named. -/
import Derived.Test.YtlhekbjidppijaaGreatMBA
import Derived.Test.YtlhekbjidppijaaGreatMBF
import Derived.Test.YtlhekbjidppijaaGreatMBH
set_option linter.unusedVariables false
set_option linter.unusedSimpArgs false
set_option maxRecDepth 20000
set_option maxHeartbeats 8000000
namespace Go.Proofs.Ytlhekbjidppijaa
open Lib (hid)
open Go.RowKit
structure PWait where
 w:PWho
 id:Nat
 tw:Nat
 when_:Nat
structure PRead where
 w:PWho
 tok:Nat
def encT (x:PWait):List Value:=[.int .i64 (x.w.node:Int),.int .i64 (x.w.id:Int),.int .i64 (x.w.op:Int),.string x.w.key,.int .i64 (x.id:Int),.int .i64 (x.tw:Int),.int .i64 (x.when_:Int)]
def encD (x:PRead):List Value:=[.int .i64 (x.w.node:Int),.int .i64 (x.w.id:Int),.int .i64 (x.w.op:Int),.string x.w.key,.int .i64 (x.tok:Int)]
structure PNode where
 fs:FQ
 cnt:Nat
 tn:Nat
 m:MS
 ep:Nat
 en:Nat
 top:Nat
 ring:Option (List Nat)
 toks:List TkS
 waits:List PWait
 reads:List PRead
 asked:Nat
 ms:List PMsg
 rs:List PReply
def RgAt (w:World)(U:Own)(t:Nat)(v:Value):Option (List Nat)->Prop
 | none=>v=.pointer none
 | some ns=>∃ r,v=.pointer (some ⟨r,0,none⟩)/\RingAt w U t r 1 ns/\NodesOk ns
theorem RgAt.keep {T:Nat->Prop}{w w':World}{U U':Own}{t:Nat}{v:Value}{o:Option (List Nat)}(h:RgAt w U t v o)(hc:Chg T w U w' U')(ht:¬ T t):RgAt w' U' t v o:=by
 cases o with
 | none=>exact h
 | some ns=>obtain⟨r,a,b,c⟩:=h;exact⟨r,a,b.keep hc ht,c⟩
structure NodeAt (w:World)(U:Own)(ts n N d k i:Nat)(s:PNode)(h:Hd):Prop where
 id:h.id=i
 asked:h.asked=s.asked
 out:OutAt w U n N h s.ms s.rs
 store:StoreAt w U ts h.S d s.fs s.cnt s.tn s.m
 lease:LeaseAt w U (n+576) h.L k s.ep s.en s.top
 toks:TokAt w U (n+672) h.T s.toks
 waits:Rw w U (n+96) 212 7 h.wv s.waits.length (s.waits.flatMap encT)
 reads:Rw w U (n+192) 108 5 h.rv s.reads.length (s.reads.flatMap encD)
 ring:RgAt w U (n+768) h.rg s.ring
def NT (ts n x:Nat):Prop:=ST ts x\/x%96=n
theorem NodeAt.keep {T:Nat->Prop}{w w':World}{U U':Own}{ts n N d k i:Nat}{s:PNode}{h:Hd}(H:NodeAt w U ts n N d k i s h)(hc:Chg T w U w' U')(hn:n<95)(hT:∀ x,T x->¬ NT ts n x):NodeAt w' U' ts n N d k i s h:=by
 have k (x:Nat) (hx:x%96=n):¬ T x:=fun h=>hT x h (.inr hx);exact⟨H.id,H.asked,H.out.keep hc (k _ (by omega)) (k _ (by omega)) (k _ (by omega)),H.store.keep hc fun x hx h=>hT x hx (.inl h),H.lease.keep hc (k _ (by omega)),H.toks.keep hc (k _ (by omega)),H.waits.keep hc (k _ (by omega)),H.reads.keep hc (k _ (by omega)),H.ring.keep hc (k _ (by omega))⟩
theorem info9:(Tryz.prog.info? 9).map (fun i=>(i.zero.map Value.cells,i.size,i.bytes))=some (some #[.string ⟨#[]⟩],1,16):=by kernel_rfl
theorem encD_len (x:PRead):(encD x).length=5:=rfl
theorem sl_at {w:World}{t:TypeId}{xs:List Value}{g:Nat}(hg:g=w.heap.size):Sl (w.alloc (.cells xs.toArray t)) (some ⟨g,0,none⟩) xs:=by
 subst hg;exact(Blk.new w t _).sl
def keysD (l:List PRead):List Value:=l.map fun x=>.string x.w.key
theorem reads25 (w:World)(U:Own)(ts n N d k i:Nat)(s:PNode)(h:Hd)(H:NodeAt w U ts n N d k i s h)(hn:n<95)(hl:s.reads.length<=1000) :
 Calls Tryz.prog 25 #[.pointer (some ⟨N,0,none⟩)] w fun e w'=>∃ v,e=.returned v/\w'.ownsRow w.heap.size 9 1 v s.reads.length (keysD s.reads)/\Below w.heap.size w w':=by
 obtain⟨-,-,hout,-,-,-,-,hrd,-⟩:=H;obtain⟨mv,pv,hN,-,-⟩:=hout.ex;obtain⟨A,c,hrv,-,-,-,hs,hA,-⟩:=hrd.slice;obtain⟨y,hy1,hy2⟩:=fresh95 w U
 have c10:w.cell? ⟨N,10,none⟩=some (.slice A s.reads.length c):=by rw[<- hrv];exact hN.cell 10
 have HC:Hid (∀ W U',Chg (· = y) w U W U'->∀ q (hq:q<s.reads.length),∃ g o,A=some ⟨g,o,none⟩/\∀ r v,(encD s.reads[q])[r]? = some v->W.cell? ⟨g,o+(q*5+r),none⟩=some v):=hid fun W U' hc q hq=>by
  obtain⟨A',c',e1,-,-,-,hs',-,-⟩:=(hrd.keep hc (by omega)).slice;rw[hrv]at e1
  injection e1 with e1 _ _
  subst e1;exact Sl.flat encD_len (by decide) hs' q hq
 have HY:=hid hy2;obtain⟨L,hL⟩:∃ L,L=s.reads:=⟨_,rfl⟩;rw[<- hL]at HC c10 hl ⊢;obtain⟨m,hm⟩:∃ m,m=L.length:=⟨_,rfl⟩;have HM:=hid hm;rw[<- hm]at c10 hl;clear hout hrd hN hrv hs hA hy1 hy2 hL hm;go_enter Tryz.func25,Tryz.ntmps25
 go_wp2
 go_loopw [3,13] (fun l q wr=>∃ (j:Nat) (Ur:Own),j<=m/\q=.int .i64 (j:Int)/\Rw wr Ur y 9 1 l j (keysD (L.take j))/\Chg (· = y) w U wr Ur) (fun _ q _=>m-(intOf q).toNat)
 case atStart=>exact⟨0,U,Nat.zero_le _,rfl,by simpa [keysD] using Rw.nil w U y 9 1,Chg.refl _ _ _⟩
 case round=>
  obtain⟨j,Ur,hj,rfl,hrw,hch⟩:=hrel;obtain⟨B,b,rfl⟩:=hrw.value;have HR:=hid hrw;have HB:=hid hch;clear hrw hch
  by_cases hlt:j<m
  ·have hjl:j<L.length:=by rw[<- HM.out];exact hlt
   obtain⟨g,o,rfl,hcs⟩:=HC.out wr Ur HB.out j hjl;have HT:Hid (keysD (L.take (j+1))=keysD (L.take j)++[.string L[j].w.key]):=hid (by rw[List.take_succ_eq_append_getElem hjl,keysD,List.map_append];rfl);generalize L[j]=x at hcs HT;obtain⟨⟨xn,xi,xo,xk⟩,xt⟩:=x;have q0:wr.cell? ⟨g,o+j*5,none⟩=some (.int .i64 (xn:Int)):=hcs 0 _ rfl;have q1:wr.cell? ⟨g,o+j*5+1,none⟩=some (.int .i64 (xi:Int)):=hcs 1 _ rfl;have q2:wr.cell? ⟨g,o+j*5+2,none⟩=some (.int .i64 (xo:Int)):=hcs 2 _ rfl;have q3:wr.cell? ⟨g,o+j*5+3,none⟩=some (.string xk):=hcs 3 _ rfl;have q4:wr.cell? ⟨g,o+j*5+4,none⟩=some (.int .i64 (xt:Int)):=hcs 4 _ rfl
   have k1:(j:Int)<(m:Int):=by omega
   have k2:(0:Int)<=(j:Int):=by omega
   clear hcs c10
   go_wp2_with (at_builtin;refine wpl_app (news:=[.string xk]) rfl rfl Ur y (by kernel_rfl) info9 rfl (by decide) (by decide) rfl ((HR.out.alloc _).alloc _) rfl rfl (sl_at (by simp)) (by simp[Value.oneCell']) (by omega) ?_)
   intro g2 cap2 w3 hr3 hc3 hg3;have HR3:=hid hr3;have HB3:=hid (((HB.out.alloc _).alloc _).trans hc3);clear hr3 hc3 hg3
   go_wp2
   go_roundw
   case rel=>exact⟨j+1,_,by omega,by go_num,by rw[HT.out];exact HR3.out,HB3.out⟩
   case measure=>simp[intOf];omega
  ·obtain rfl:j=m:=by omega
   have HF:Hid (wr.ownsRow w.heap.size 9 1 (.slice B j b) L.length (keysD L)/\Below w.heap.size w wr):=hid (by
    have h1:=HR.out;rw[List.take_of_length_le (by rw[HM.out];exact Nat.le_refl _)]at h1;refine⟨?_,HB.out.below_of _ (Nat.le_refl _) HY.out⟩
    have:=h1.base w.heap.size fun q hq=>by rw[HB.out.own q hq];exact HY.out q hq
    rwa [HM.out]at this ⊢)
   go_wp2
   go_ret;exact⟨_,rfl,HF.out⟩
def Far (ts n:Nat):Prop:=n<95/\ts+9<95/\(n<ts\/ts+9<n)
theorem NodeAt.said {w w':World}{U U':Own}{ts n N d k i:Nat}{s:PNode}{h:Hd}{ms:List PMsg}{rs:List PReply}(H:NodeAt w U ts n N d k i s h)(hf:Far ts n)(ho:OutAt w' U' n N h ms rs)(hc:Chg (TO n) w U w' U'):NodeAt w' U' ts n N d k i { s with ms:=ms,rs:=rs } h:=by
 obtain⟨h1,h2,h3⟩:=hf
 have k (x:Nat) (hx:x%96=n) (h:x≠n/\x≠n+288/\x≠n+480):¬ TO n x:=by rintro(e|e|e) <;> omega
 exact⟨H.id,H.asked,ho,H.store.keep hc fun x hx h=>by unfold ST at h;rcases hx with e|e|e <;> omega,H.lease.keep hc (k _ (by omega) (by omega)),H.toks.keep hc (k _ (by omega) (by omega)),H.waits.keep hc (k _ (by omega) (by omega)),H.reads.keep hc (k _ (by omega) (by omega)),H.ring.keep hc (k _ (by omega) (by omega))⟩
def PNode.tell (s:PNode)(i:Nat)(x:PWho)(err:Nat)(val:ByteArray)(has:Bool):PNode:={ s with ms:=tellMs i x err val has s.ms,rs:=tellRs x err val has s.rs }
theorem nodeTell (w:World)(U:Own)(ts n N d k i:Nat)(s:PNode)(h:Hd)(H:NodeAt w U ts n N d k i s h)(hf:Far ts n)(hl:s.ms.length<=1000)(hl2:s.rs.length<=1000)(x:PWho)(err:Nat)(val:ByteArray)(has:Bool) :
 Calls Tryz.prog 112 #[.pointer (some ⟨N,0,none⟩),.agg (encW x).toArray,.int .i64 (err:Int),.string val,.bool has] w fun e w'=>(∃ r,e=.returned r)/\∃ U',NodeAt w' U' ts n N d k i (s.tell i x err val has) h/\Chg (TO n) w U w' U':=by
 refine(tell112 w U n N h s.ms s.rs H.out hl hl2 x err val has).mono ?_;rintro e w' ⟨hr,U',a,b⟩;rw[H.id]at a;exact⟨hr,U',H.said hf a b,b⟩
theorem nodeSay (w:World)(U:Own)(ts n N d k i:Nat)(s:PNode)(h:Hd)(H:NodeAt w U ts n N d k i s h)(hf:Far ts n)(hl:s.ms.length<=1000)(b c:Nat)(m:PMsg)(hb:Blk w b 182 (encN m).toArray)(hU:¬ TO n (U b)) :
 Calls Tryz.prog 109 #[.pointer (some ⟨N,0,none⟩),.slice (some ⟨b,0,none⟩) 1 c] w fun e w'=>(∃ r,e=.returned r)/\∃ U',NodeAt w' U' ts n N d k i { s with ms:=s.ms++[{ m with src:=i }] } h/\Chg (TO n) w U w' U':=by
 refine(say109 w U n N h s.ms s.rs H.out hl b c m hb hU).mono ?_;rintro e w' ⟨hr,U',a,b⟩;rw[H.id]at a;exact⟨hr,U',H.said hf a b,b⟩
theorem nodeDid (w:World)(U:Own)(ts n N d k i:Nat)(s:PNode)(h:Hd)(H:NodeAt w U ts n N d k i s h)(hf:Far ts n) :
 Calls Tryz.prog 113 #[.pointer (some ⟨N,0,none⟩)] w fun e w'=>∃ mv pv,e=.returned (.agg #[mv,pv])/\NodeAt w' U ts n N d k i { s with ms:=[],rs:=[] } h/\NRw w' U (n+288) mv s.ms/\RRw w' U (n+480) pv s.rs/\Chg (· = n) w U w' U:=by
 refine(did113 w U n N h s.ms s.rs H.out).mono ?_;rintro e w' ⟨mv,pv,rfl,a,b,c,hc⟩;exact⟨mv,pv,rfl,H.said hf a (hc.mono fun x h=>.inl h),b,c,hc⟩
theorem encT_len (x:PWait):(encT x).length=7:=rfl
theorem encT_one (x:PWait):∀ u∈encT x,u.oneCell'=true:=by
 intro u hu;simp only[encT,List.mem_cons,List.not_mem_nil,or_false]at hu
 rcases hu with rfl|rfl|rfl|rfl|rfl|rfl|rfl <;> rfl
theorem NodeAt.setWaits {w w' W:World}{U:Own}{ts n N d k i:Nat}{s:PNode}{h:Hd}{v:Value}{L:List PWait}(H:NodeAt w U ts n N d k i s h)(hf:Far ts n)(hr:Rw w' U (n+96) 212 7 v L.length (L.flatMap encT))(hc:Chg (· = n+96) w U w' U)(hW:W=w'.setCell ⟨N,9,none⟩ v) :
 NodeAt W U ts n N d k i { s with waits:=L } { h with wv:=v }/\Chg (fun x=>x=n\/x=n+96) w U W U:=by
 obtain⟨h1,h2,h3⟩:=hf;obtain⟨mv,pv,hN,hm,hp⟩:=H.out.ex;have hN':=hN.keep hc (by omega)
 have hc2:Chg (· = n) w' U W U:=by rw[hW];exact(Chg.refl _ _ _).setCell (p:=⟨N,9,none⟩) hN'.own _
 have hcc:Chg (fun x=>x=n\/x=n+96) w U W U:=(hc.mono fun x h=>.inr h).trans (hc2.mono fun x h=>.inl h)
 have kk (x:Nat) (h:x≠n/\x≠n+96):¬ (x=n\/x=n+96):=by rintro(e|e) <;> omega
 refine⟨⟨H.id,H.asked,⟨mv,pv,by rw[hW];exact hN'.set_ 9 v,hm.keep hcc (kk _ (by omega)),hp.keep hcc (kk _ (by omega))⟩,H.store.keep hcc fun x hx h=>by unfold ST at h;rcases hx with e|e <;> omega,H.lease.keep hcc (kk _ (by omega)),H.toks.keep hcc (kk _ (by omega)),hr.keep hc2 (by omega),H.reads.keep hcc (kk _ (by omega)),H.ring.keep hcc (kk _ (by omega))⟩,hcc⟩
section
variable {w w' W : World} {U U' : Own} {ts n N d k i : Nat} {s : PNode} {h : Hd}
theorem StoreAt.flash {st cnt tn:Nat}{fs:FQ}{m:MS}(H:StoreAt w U ts st d fs cnt tn m):∃ c j k lf Z,Has w U ts st 119 #[.pointer (some ⟨c,0,none⟩),.pointer (some ⟨j,0,none⟩),.pointer (some ⟨k,0,none⟩),.int .i64 (m.b:Int)]/\FlashAt w U (ts+6) c d 162 129 1200 lf Z fs/\KeeperAt w U (ts+1) k d 0 tn m/\DevAt w U (ts+9) d 1200 Z Lasts /\
 (∀ fs' Z' w' U',FlashAt w' U' (ts+6) c d 162 129 1200 lf Z' fs'->DevAt w' U' (ts+9) d 1200 Z' Lasts->(∀ j,(j<162\/162+129*8<=j)->Z' j=Z j)->Chg (FT (ts+6) (ts+9)) w U w' U'->StoreAt w' U' ts st d fs' cnt tn m) /\
 (∀ m' w' U',KeeperAt w' U' (ts+1) k d 0 (tn+1) m'->DevAt w' U' (ts+9) d 1200 (upd Z (0+tn%2) (supB (tn+1) (mbytes m'))) Lasts->m'.b=m.b->Chg (fun x=>x=ts+1\/x=ts+1+1\/x=ts+9) w U w' U'->StoreAt w' U' ts st d fs cnt (tn+1) m'):=by
 obtain⟨c,j,k,lf,lj,Z,h1,h2,h3,h4,h5,h6⟩:=H.ex;have hl:=H.lt;refine⟨c,j,k,lf,Z,h1,h2,h4,h5,fun fs' Z' w' U' a b hz hc=>⟨⟨c,j,k,lf,lj,Z',h1.keep hc ?_,a,(h3.keep hc ?_).on fun i i1 i2=>hz i (by omega),h4.keep hc ?_ ?_,b,fun e=>⟨(h6 e).1,(h6 e).2.1,(h6 e).2.2.on fun i hi=>hz i (by omega)⟩⟩,hl⟩,fun m' w' U' a b hm hc=>⟨⟨c,j,k,lf,lj,upd Z (0+tn%2) (supB (tn+1) (mbytes m')),?_,(h2.keep hc ?_).on fun i i1 i2=>upd_ne _ _ _ _ (by omega),(h3.keep hc ?_).on fun i i1 i2=>upd_ne _ _ _ _ (by omega),a,b,fun e=>⟨(h6 (hm.symm.trans e)).1,(h6 (hm.symm.trans e)).2.1,?_⟩⟩,hl⟩⟩
 ·unfold FT;omega
 ·unfold FT;intro x hx;omega
 ·unfold FT;omega
 ·unfold FT;omega
 ·rw[hm]
  exact h1.keep hc (by omega)
 ·intro x hx;omega
 ·intro x hx;omega
 ·obtain⟨m0,s1,s2,s3,s4⟩:=(h6 (hm.symm.trans e)).2.2
  refine⟨m,h4.ok,by omega,?_,?_⟩
  ·rw[show 0+(tn+1+1)%2=0+tn%2 by omega,upd_self]
  ·rw[upd_ne _ _ _ _ (by omega),Nat.add_sub_cancel]
   exact s3
theorem NodeAt.setStore (H:NodeAt w U ts n N d k i s h)(hf:Far ts n){fs:FQ}{cnt tn:Nat}{m:MS}(hs:StoreAt w' U' ts h.S d fs cnt tn m)(hc:Chg (ST ts) w U w' U'):NodeAt w' U' ts n N d k i { s with fs:=fs,cnt:=cnt,tn:=tn,m:=m } h:=by
 obtain⟨h1,h2,h3⟩:=hf
 have kk (x:Nat) (hx:x%96=n):¬ ST ts x:=by unfold ST;omega
 exact⟨H.id,H.asked,H.out.keep hc (kk _ (by omega)) (kk _ (by omega)) (kk _ (by omega)),hs,H.lease.keep hc (kk _ (by omega)),H.toks.keep hc (kk _ (by omega)),H.waits.keep hc (kk _ (by omega)),H.reads.keep hc (kk _ (by omega)),H.ring.keep hc (kk _ (by omega))⟩
theorem NodeAt.setLease (H:NodeAt w U ts n N d k i s h)(hf:Far ts n){ep en top:Nat}(hl:LeaseAt w' U' (n+576) h.L k ep en top)(hc:Chg (· = n+576) w U w' U'):NodeAt w' U' ts n N d k i { s with ep:=ep,en:=en,top:=top } h:=by
 obtain⟨h1,h2,h3⟩:=hf;exact⟨H.id,H.asked,H.out.keep hc (by omega) (by omega) (by omega),H.store.keep hc fun x hx h=>by unfold ST at h;omega,hl,H.toks.keep hc (by omega),H.waits.keep hc (by omega),H.reads.keep hc (by omega),H.ring.keep hc (by omega)⟩
theorem NodeAt.setToks (H:NodeAt w U ts n N d k i s h)(hf:Far ts n){L:List TkS}(hl:TokAt w' U' (n+672) h.T L)(hc:Chg (· = n+672) w U w' U'):NodeAt w' U' ts n N d k i { s with toks:=L } h:=by
 obtain⟨h1,h2,h3⟩:=hf;exact⟨H.id,H.asked,H.out.keep hc (by omega) (by omega) (by omega),H.store.keep hc fun x hx h=>by unfold ST at h;omega,H.lease.keep hc (by omega),hl,H.waits.keep hc (by omega),H.reads.keep hc (by omega),H.ring.keep hc (by omega)⟩
theorem NodeAt.setAsked (H:NodeAt w U ts n N d k i s h)(hf:Far ts n)(a:Nat)(hW:W=w.setCell ⟨N,11,none⟩ (.int .i64 (a:Int))):NodeAt W U ts n N d k i { s with asked:=a } { h with asked:=a }/\Chg (· = n) w U W U:=by
 obtain⟨h1,h2,h3⟩:=hf;obtain⟨mv,pv,hN,hm,hp⟩:=H.out.ex
 have hc:Chg (· = n) w U W U:=by rw[hW];exact(Chg.refl _ _ _).setCell (p:=⟨N,11,none⟩) hN.own _
 exact⟨⟨H.id,rfl,⟨mv,pv,by rw[hW];exact hN.set_ 11 _,hm.keep hc (by omega),hp.keep hc (by omega)⟩,H.store.keep hc fun x hx h=>by unfold ST at h;omega,H.lease.keep hc (by omega),H.toks.keep hc (by omega),H.waits.keep hc (by omega),H.reads.keep hc (by omega),H.ring.keep hc (by omega)⟩,hc⟩
theorem NodeAt.setRing (H:NodeAt w U ts n N d k i s h)(hf:Far ts n){r:Nat}{ns:List Nat}(hr:RingAt w' U' (n+768) r 1 ns)(hok:NodesOk ns)(hc0:Chg (fun _=>False) w U w' U')(hW:W=w'.setCell ⟨N,3,none⟩ (.pointer (some ⟨r,0,none⟩))):NodeAt W U' ts n N d k i { s with ring:=some ns } { h with rg:=.pointer (some ⟨r,0,none⟩) }/\Chg (· = n) w U W U':=by
 have H':=H.keep hc0 hf.1 fun _ h=>h.elim;obtain⟨h1,h2,h3⟩:=hf;obtain⟨mv,pv,hN,hm,hp⟩:=H'.out.ex
 have hc:Chg (· = n) w' U' W U':=by rw[hW];exact(Chg.refl _ _ _).setCell (p:=⟨N,3,none⟩) hN.own _
 exact⟨⟨H'.id,H'.asked,⟨mv,pv,by rw[hW];exact hN.set_ 3 _,hm.keep hc (by omega),hp.keep hc (by omega)⟩,H'.store.keep hc fun x hx h=>by unfold ST at h;omega,H'.lease.keep hc (by omega),H'.toks.keep hc (by omega),H'.waits.keep hc (by omega),H'.reads.keep hc (by omega),⟨r,rfl,hr.keep hc (by omega),hok⟩⟩,(hc0.mono fun _ h=>h.elim).trans hc⟩
end
theorem still202 (w:World)(U:Own)(ts n N d k i:Nat)(s:PNode)(h:Hd)(H:NodeAt w U ts n N d k i s h)(hf:Far ts n) :
 Calls Tryz.prog 202 #[.pointer (some ⟨N,0,none⟩)] w fun e w'=>(∃ r,e=.returned r)/\NodeAt w' U ts n N d k i s h/\Chg (· = n) w U w' U:=by
 obtain⟨mv,pv,hN,hm,hp⟩:=H.out.ex;have c5:w.cell? ⟨N,5,none⟩=some (.bool false):=hN.cell 5;have c6:w.cell? ⟨N,6,none⟩=some (.slice none 0 0):=hN.cell 6;have c7:w.cell? ⟨N,7,none⟩=some (.map none):=hN.cell 7;have c8:w.cell? ⟨N,8,none⟩=some (.map none):=hN.cell 8;have f5:=hN.frozen 5;have f6:=hN.frozen 6;have f7:=hN.frozen 7;have f8:=hN.frozen 8
 have HF:Hid (∀ W,W=(((w.setCell ⟨N,5,none⟩ (.bool false)).setCell ⟨N,6,none⟩ (.slice none 0 0)).setCell ⟨N,7,none⟩ (.map none)).setCell ⟨N,8,none⟩ (.map none)->NodeAt W U ts n N d k i s h/\Chg (· = n) w U W U):=hid fun W hW=>by
  obtain⟨h1,h2,h3⟩:=hf
  have hc:Chg (· = n) w U W U:=by
   rw[hW];exact((((Chg.refl _ _ _).setCell (p:=⟨N,5,none⟩) hN.own _).setCell (p:=⟨N,6,none⟩) hN.own _).setCell (p:=⟨N,7,none⟩) hN.own _).setCell (p:=⟨N,8,none⟩) hN.own _
  have hN':Has W U n N 104 (hdV h mv pv).toArray:=by
   rw[hW];exact(((hN.set_ 5 (.bool false)).set_ 6 (.slice none 0 0)).set_ 7 (.map none)).set_ 8 (.map none)
  exact⟨⟨H.id,H.asked,⟨mv,pv,hN',hm.keep hc (by omega),hp.keep hc (by omega)⟩,H.store.keep hc fun x hx h=>by unfold ST at h;omega,H.lease.keep hc (by omega),H.toks.keep hc (by omega),H.waits.keep hc (by omega),H.reads.keep hc (by omega),H.ring.keep hc (by omega)⟩,hc⟩
 clear H hf hN hm hp;go_enter Tryz.func202,Tryz.ntmps202
 go_wp2
 refine bodyPost_end (by first|rfl|(simp[results];rfl)) rfl ?_;exact⟨⟨_,rfl⟩,HF.out _ rfl⟩
abbrev NN (n x:Nat):Prop:=x%96=n
theorem NodeAt.setReads {w w' W:World}{U U':Own}{ts n N d k i:Nat}{s:PNode}{h:Hd}{v:Value}{R:List PRead}{L:List TkS}(H:NodeAt w U ts n N d k i s h)(hf:Far ts n)(hr:Rw w' U' (n+192) 108 5 v R.length (R.flatMap encD))(ht:TokAt w' U' (n+672) h.T L)(hc:Chg (fun x=>x=n+192\/x=n+672) w U w' U')(hW:W=w'.setCell ⟨N,10,none⟩ v) :
 NodeAt W U' ts n N d k i { s with toks:=L,reads:=R } { h with rv:=v }/\Chg (NN n) w U W U':=by
 obtain⟨h1,h2,h3⟩:=hf;obtain⟨mv,pv,hN,hm,hp⟩:=H.out.ex;have hN':=hN.keep hc (by omega)
 have hc2:Chg (· = n) w' U' W U':=by rw[hW];exact(Chg.refl _ _ _).setCell (p:=⟨N,10,none⟩) hN'.own _
 have hcc:Chg (fun x=>x=n\/x=n+192\/x=n+672) w U W U':=(hc.mono fun x h=>.inr h).trans (hc2.mono fun x h=>.inl h)
 have kk (x:Nat) (h:x≠n/\x≠n+192/\x≠n+672):¬ (x=n\/x=n+192\/x=n+672):=by rintro(e|e|e) <;> omega
 refine⟨⟨H.id,H.asked,⟨mv,pv,by rw[hW];exact hN'.set_ 10 v,hm.keep hcc (kk _ (by omega)),hp.keep hcc (kk _ (by omega))⟩,H.store.keep hcc fun x hx h=>by unfold ST at h;rcases hx with e|e|e <;> omega,H.lease.keep hcc (kk _ (by omega)),ht.keep hc2 (by omega),H.waits.keep hcc (kk _ (by omega)),hr.keep hc2 (by omega),H.ring.keep hcc (kk _ (by omega))⟩,hcc.mono fun x h=>by rcases h with e|e|e <;> omega⟩
def PNode.get (s:PNode)(i:Nat)(x:PWho)(r:Option (ByteArray × ByteArray × Bool)):PNode:=
 match liveR r with
 | some y=>s.tell i x 0 y.2.1 true
 | none=>{ s with toks:=s.toks++[⟨x.key,true,false⟩],reads:=s.reads++[⟨x,s.toks.length+1⟩] }
theorem encD_one (x:PRead):∀ u∈encD x,u.oneCell'=true:=by
 intro u hu;simp only[encD,List.mem_cons,List.not_mem_nil,or_false]at hu
 rcases hu with rfl|rfl|rfl|rfl|rfl <;> rfl
theorem info108:(Tryz.prog.info? 108).map (fun i=>(i.zero.map Value.cells,i.size,i.bytes))=some (some #[.int .i64 0,.int .i64 0,.int .i64 0,.string ⟨#[]⟩,.int .i64 0],5,48):=by kernel_rfl
theorem itemR_some (r:Option (ByteArray × ByteArray × Bool)):∃ a b g,itemR r=.agg #[.string a,.string b,.int .i64 0,.bool g]/\∀ y,r=some y->b=y.2.1:=by
 cases r with
 | none=>exact⟨_,_,_,rfl,fun y h=>by cases h⟩
 | some y=>exact⟨_,_,_,rfl,fun z h=>by cases h;rfl⟩
def GetS (N S c L k b:Nat)(x:PWho)(W:World):Prop:=
 W.cell? ⟨N,0,none⟩=some (.pointer (some ⟨S,0,none⟩))/\W.cell? ⟨S,0,none⟩=some (.pointer (some ⟨c,0,none⟩))/\W.cell? ⟨N,1,none⟩=some (.pointer (some ⟨L,0,none⟩))/\W.cell? ⟨L,0,none⟩=some (.pointer (some ⟨k,0,none⟩))/\W.cell? ⟨b,3,none⟩=some (.string x.key)
def GetT (N T b:Nat)(rv:Value)(x:PWho)(W:World):Prop:=
 W.cell? ⟨N,10,none⟩=some rv/\W.cell? ⟨N,4,none⟩=some (.pointer (some ⟨T,0,none⟩))/\W.cell? ⟨b,0,none⟩=some (.int .i64 (x.node:Int))/\W.cell? ⟨b,1,none⟩=some (.int .i64 (x.id:Int))/\W.cell? ⟨b,2,none⟩=some (.int .i64 (x.op:Int))/\W.cell? ⟨b,3,none⟩=some (.string x.key)
theorem get168 (w:World)(U:Own)(ts n N d k i tk now:Nat)(s:PNode)(h:Hd)(H:NodeAt w U ts n N d k i s h)(hk:ClockAt w U tk k now)(hf:Far ts n)(hl:s.ms.length<=1000)(hl2:s.rs.length<=1000)(hlr:s.reads.length<=1000)(hlt:s.toks.length<=1000)(x:PWho)(hx:x.key.size<=1000)
 (r:Option (ByteArray × ByteArray × Bool))(hr:fentry s.fs x.key=some r) :
 Calls Tryz.prog 168 #[.pointer (some ⟨N,0,none⟩),.agg (encW x).toArray] w fun e w'=>(∃ r,e=.returned r)/\∃ h' U',NodeAt w' U' ts n N d k i (s.get i x r) h'/\Chg (NN n) w U w' U':=by
 obtain⟨W0,hW0⟩:∃ W,W=w.alloc (.cells (encW x).toArray 106):=⟨_,rfl⟩
 have hB0:Blk W0 w.heap.size 106 (encW x).toArray:=by rw[hW0];exact Blk.new _ _ _
 have hc0:Chg (fun _=>False) w U W0 (ext U w (n+864)):=by rw[hW0];exact((Chg.refl _ _ _).alloc _).ext _
 have hN0:=H.keep hc0 hf.1 (fun _ h=>h.elim);have hk0:=hk.keep hc0 id;have hX0:Has W0 (ext U w (n+864)) (n+864) w.heap.size 106 (encW x).toArray:=⟨hB0,ext_new (Nat.le_refl _)⟩;obtain⟨mv,pv,hNb,-,-⟩:=hN0.out.ex;obtain⟨c,j,kp,lf,lj,Z,hS,hFl,-⟩:=hN0.store.ex;have hLe:=hN0.lease;generalize ext U w (n+864)=U0 at *
 have HA:Hid (∀ W,Below W0.heap.size W0 W->GetS N h.S c h.L k w.heap.size x W/\(∃ U',NodeAt W U' ts n N d k i s h/\Has W U' (n+864) w.heap.size 106 (encW x).toArray/\FlashAt W U' (ts+6) c d 162 129 1200 lf Z s.fs/\ClockAt W U' tk k now/\Chg (fun _=>False) w U W U')):=hid fun W hb=>by
  have hc:Chg (fun _=>False) W0 U0 W (ext U0 W0 0):=Chg.of_below hb _;have a1:=hNb.keep hc id;have a2:=hS.keep hc id;have a3:=hLe.keep hc id;have a4:=hX0.keep hc id;exact⟨⟨a1.cell 0,a2.cell 0,a1.cell 1,a3.cell 0,a4.cell 3⟩,_,hN0.keep hc hf.1 (fun _ h=>h.elim),a4,hFl.quiet hc,hk0.keep hc id,hc0.trans hc⟩
 have S0:=hid (HA.out W0.drew (Below.refl _ W0).drew).1
 have HG:Hid (∀ W,Below W0.heap.size W0 W->Calls Tryz.prog 222 #[.pointer (some ⟨c,0,none⟩),.string x.key,.int .i64 now] W fun e w'=>e=.returned (.tuple #[itemR (liveR r),.bool (liveR r).isSome])/\Below W.heap.size W w'):=hid fun W hb=>by
  obtain⟨-,U',-,-,h3,-,-⟩:=HA.out W hb;exact get222 W U' (ts+6) c d 162 129 1200 lf Z s.fs x.key now r h3 (by omega) hr
 have HNo:Hid (∀ W,Below W0.heap.size W0 W->Calls Tryz.prog 61 #[.pointer (some ⟨k,0,none⟩)] W fun e w'=>e=.returned (.int .i64 now)/\W=w'):=hid fun W hb=>by
  obtain⟨-,U',-,-,-,h4,-⟩:=HA.out W hb;exact now61 W U' tk k now h4
 have HF:=hid hf;have HW:=hid hW0;clear H hk hc0 hN0 hk0 hB0 hX0 hNb hS hFl hLe hf hW0 hr;obtain⟨a,vv,g,hit,hitv⟩:=itemR_some (liveR r);rw[hit]at HG;have HIT:=hid hitv;clear hit hitv;go_enter Tryz.func168,Tryz.ntmps168
 go_wp2_with (first|rw[<- HW.out]|fail)
 refine wp_region_pl (.take 0 (.take 1 (.take 2 (.take 3 (.take 4 (.take 5 (.take 6 (.take 7 (.take 8 (.take 9 (.take 10 (.take 11 (.take 12 (.take 13 (.take 14 (.take 15 (.two 16 (.two 17 (.take 18 (.take 19 (.take 20 (.one 21 (.one 22 .done))))) 21 (.one 17 (.take 18 (.take 19 (.take 20 (.one 22 .done)))))) 21 (.one 16 (.one 17 (.take 18 (.take 19 (.take 20 (.one 22 .done))))))))))))))))))))))) (GetS N h.S c h.L k w.heap.size x) (by kernel_rfl) (by kernel_rfl) S0.out ?_
 iterate 16 (refine pl_take (v:=?_) rfl (by kernel_rfl) (fun W hW=>?_) ?_;rotate_left;(obtain⟨r0,r1,r2,r3,r4⟩:=hW;first|(go_simp;done)|(go_simp;with_reducible rfl)))
 refine pl_two rfl rfl (fun K hK=>?_) (fun K hK=>?_)
 ·go_simp
  refine(HNo.out _ (Below.refl _ W0).drew).mono ?_;rintro e w1 ⟨rfl,rfl⟩;refine hK _ _ S0.out ?_;clear hK;refine pl_two rfl rfl (fun K hK=>?_) (fun K hK=>?_)
  ·go_simp
   refine(HG.out _ (Below.refl _ W0).drew).mono ?_;rintro e w1 ⟨rfl,hb1⟩;have HB1:=hid ((Below.refl W0.heap.size W0).drew.trans (hb1.mono (Nat.le_refl _)));have S1:=hid (HA.out w1 HB1.out).1;clear hb1;refine hK _ _ S1.out ?_;clear hK
   iterate 3 (refine pl_take (v:=?_) rfl (by kernel_rfl) (fun W hW=>?_) ?_;rotate_left;(first|(go_simp;done)|(go_simp;with_reducible rfl)))
   refine pl_one rfl fun K hK=>?_;go_simp;have hB2:Below W0.heap.size W0 (w1.alloc (.cells #[.string a,.string vv,.int .i64 0,.bool g] 178)):=HB1.out.alloc HB1.out.size _;have hB2':Below W0.heap.size W0 (w1.alloc (.cells #[.string ⟨#[]⟩,.string ⟨#[]⟩,.int .i64 0,.bool false] 178)):=HB1.out.alloc HB1.out.size _;have S2':=hid (HA.out _ hB2').1;have S2:=hid (HA.out _ hB2).1;have HV:Hid ((w1.alloc (.cells #[.string a,.string vv,.int .i64 0,.bool g] 178)).cell? ⟨w1.heap.size,1,none⟩=some (.string vv)):=hid ((Blk.new w1 178 #[.string a,.string vv,.int .i64 0,.bool g]).cell 1);have HB2:=hid hB2;clear hB2 hB2';refine hK _ _ S2'.out ?_;clear hK S2';refine pl_one rfl fun K hK=>?_;go_simp;refine hK _ _ S2.out ?_;clear hK S2 HB1 S1;generalize hib:w1.heap.size=ib at HV ⊢;generalize hW5:w1.alloc (.cells #[.string a,.string vv,.int .i64 0,.bool g] 178)=W5 at *;clear hib hW5;have HB5:=HB2;have HV5:=HV.out;clear HV HB2;refine pl_end ?_;simp only[Plan.len,List.drop_succ_cons,List.drop_zero,Nat.zero_add,Nat.reduceAdd];obtain⟨-,U5,a1,a2,-,-,a5⟩:=HA.out W5 HB5.out;obtain⟨mv,pv,hNb,-,-⟩:=a1.out.ex;have b0:W5.cell? ⟨w.heap.size,0,none⟩=some (.int .i64 (x.node:Int)):=a2.cell 0;have b1:W5.cell? ⟨w.heap.size,1,none⟩=some (.int .i64 (x.id:Int)):=a2.cell 1;have b2:W5.cell? ⟨w.heap.size,2,none⟩=some (.int .i64 (x.op:Int)):=a2.cell 2;have b3:W5.cell? ⟨w.heap.size,3,none⟩=some (.string x.key):=a2.cell 3;have S6:Hid (GetT N h.T w.heap.size h.rv x W5.drew):=hid ⟨hNb.cell 10,hNb.cell 4,b0,b1,b2,b3⟩
   have HX5:=hid a2;have HN5:=hid a1;have HC5:=hid a5;clear a1 a2 a5 hNb HA HG HNo S0
   cases hlv:liveR r with
   | some y=>
    obtain rfl:=HIT.out y hlv;have HT:=hid (nodeTell W5 U5 ts n N d k i s h HN5.out HF.out hl hl2 x 0 y.2.1 true);have HFn:Hid (s.get i x r=s.tell i x 0 y.2.1 true):=hid (by unfold PNode.get;rw[hlv]);clear hlv
    go_wp2_with (go_at_call 112;fail)
    refine HT.out.mono ?_;rintro e w6 ⟨⟨v6,rfl⟩,U6,hn6,hc6⟩;have HFF:=hid (And.intro hn6 (HC5.out.mono (fun _ h=>h.elim) |>.trans (hc6.mono fun x hx=>(show NN n x by have:=HF.out.1;rcases hx with e|e|e <;> (unfold NN;omega)))));clear hn6 hc6
    go_wp2
    refine bodyPost_ret (by first|exact results_none rfl _ _ _|exact Great.results_none rfl _ _ _|rfl) rfl ?_;rw[HFn.out];exact⟨⟨_,rfl⟩,h,U6,HFF.out⟩
   | none=>
    have HFn:Hid (s.get i x r={ s with toks:=s.toks++[⟨x.key,true,false⟩],reads:=s.reads++[⟨x,s.toks.length+1⟩] }):=hid (by unfold PNode.get;rw[hlv]);clear hlv
    go_wp2_with fail
    refine wp_region_hl [12,14,15] [0,1,2,3,4,5,6,7,8,9,10,11,12,13,14,15] (GetT N h.T w.heap.size h.rv x) (by kernel_rfl) (by kernel_rfl) S6.out ?_
    iterate 12 (refine hd_take (v:=?_) rfl rfl (by kernel_rfl) (fun W hW=>?_) ?_;rotate_left;(obtain⟨r0,r1,r2,r3,r4,r5⟩:=hW;first|(go_simp;done)|(go_simp;with_reducible rfl)))
    refine hd_loud rfl rfl fun K hK=>?_;go_simp;obtain⟨t1,ht1⟩:∃ t,t=s.toks.length+1:=⟨_,rfl⟩;have hcd:Chg (fun _=>False) W5 U5 W5.drew U5:=(Chg.refl _ _ _).drew;have hN6:=HN5.out.keep hcd HF.out.1 (fun _ h=>h.elim);have hTG:=tokGive W5.drew U5 (n+672) h.T s.toks x.key hN6.toks (by omega);rw[<- ht1]at hTG HFn;refine hTG.mono ?_;rintro e w6 ⟨rfl,ht6,hc6⟩;generalize ext U5 W5.drew (n+672)=U6 at ht6 hc6;have hn95:=HF.out.1;have hNS (W:World) (U':Own) (hc:Chg (fun x=>x=n+192\/x=n+672) W5.drew U5 W U'):GetT N h.T w.heap.size h.rv x W/\Rw W U' (n+192) 108 5 h.rv s.reads.length (s.reads.flatMap encD)\/True:=.inr trivial
    have hS (W:World) (U':Own) (hc:Chg (· = n+672) W5.drew U5 W U'):GetT N h.T w.heap.size h.rv x W:=by
     obtain⟨mv6,pv6,hNb,-,-⟩:=hN6.out.ex;have a1:=hNb.keep hc (by omega);have a2:=(HX5.out.keep hcd id).keep hc (by omega);exact⟨a1.cell 10,a1.cell 4,a2.cell 0,a2.cell 1,a2.cell 2,a2.cell 3⟩
    have S7:=hid (hS w6 U6 hc6);have hr6:=hN6.reads.keep hc6 (by omega);have hcA:=hc6.alloc (.cells (encD ⟨x,t1⟩).toArray 108);have S8:=hid (hS _ U6 hcA);have hrA:=hr6.alloc (.cells (encD ⟨x,t1⟩).toArray 108);have htA:=ht6.keep ((Chg.refl (fun _=>False) w6 U6).alloc (.cells (encD ⟨x,t1⟩).toArray 108)) id;have HRA:=hid hrA;have HTA:=hid htA;have HCA:=hid hcA;have HN6:=hid hN6;have HCC:=hid (HC5.out.trans hcd);have HFr:=hid hS;clear hTG hcd hN6 hNS hS hr6 hcA hrA htA ht6 hc6 ht1;refine hK _ _ S7.out ?_;clear hK;refine hd_take (v:=?_) rfl rfl (by kernel_rfl) (fun W hW=>?_) ?_
    rotate_left
    ·first|(go_simp;done)|(go_simp;with_reducible rfl)
    refine hd_loud rfl rfl fun K hK=>?_;go_simp;refine hK _ _ S8.out ?_;clear hK;refine hd_loud rfl rfl fun K hK=>?_;refine st_app rfl rfl U6 (n+192) (by kernel_rfl) info108 rfl (by decide) (by decide) rfl HRA.out rfl rfl (Blk.new _ _ _).sl (encD_one ⟨x,t1⟩) (by omega) ?_;intro g8 cap8 w8 hr8 hc8 hg8;generalize ext U6 _ (n+192)=U8 at hr8 hc8;have hcB:Chg (fun x=>x=n+192\/x=n+672) W5.drew U5 w8 U8:=(HCA.out.mono fun x h=>.inr h).trans (hc8.mono fun x h=>.inl h);have htB:=HTA.out.keep hc8 (by omega);obtain⟨mv8,pv8,hNb8,-,-⟩:=HN6.out.out.ex;have hNb9:=hNb8.keep hcB (by omega);have d10:=hNb9.cell 10;have g10:=hNb9.frozen 10
    have S9:Hid (GetT N h.T w.heap.size h.rv x w8):=hid (by
     have a2:=HX5.out.keep ((Chg.refl (fun _=>False) W5 U5).drew) id;have a3:=a2.keep hcB (by omega)
     exact⟨hNb9.cell 10,hNb9.cell 4,a3.cell 0,a3.cell 1,a3.cell 2,a3.cell 3⟩)
    have HFF:Hid (∀ W,W=w8.setCell ⟨N,10,none⟩ (.slice (some ⟨g8,0,none⟩) (s.reads.length+1) cap8)->∃ h',NodeAt W U8 ts n N d k i (s.get i x r) h'/\Chg (NN n) w U W U8):=hid fun W hW=>by
     obtain⟨R,hR⟩:∃ R:List PRead,R=s.reads++[⟨x,t1⟩]:=⟨_,rfl⟩
     have e1:R.length=s.reads.length+1:=by rw[hR];simp
     have e2:R.flatMap encD=s.reads.flatMap encD++encD ⟨x,t1⟩:=by rw[hR];simp
     have hr9:Rw w8 U8 (n+192) 108 5 (.slice (some ⟨g8,0,none⟩) (s.reads.length+1) cap8) R.length (R.flatMap encD):=by rw[e1,e2];exact hr8
     obtain⟨k1,k2⟩:=HN6.out.setReads HF.out hr9 htB hcB hW;rw[hR]at k1;rw[HFn.out];exact⟨_,k1,(HCC.out.mono fun _ h=>h.elim).trans k2⟩
    clear hr8 hc8 hg8 hcB htB hNb8 hNb9;refine hK _ _ S9.out (hd_end ?_);clear hK;simp only[zqa,zqb,zqc,zqd,Nat.zero_add,Nat.reduceAdd]
    go_wp2_with fail
    refine bodyPost_end (by first|rfl|(simp[results];rfl)) rfl ?_;obtain⟨h',k1,k2⟩:=HFF.out _ rfl;exact⟨⟨_,rfl⟩,h',U8,k1,k2⟩
  ·go_simp
   have hB2:Below W0.heap.size W0 (W0.alloc (.cells #[.string ⟨#[]⟩,.string ⟨#[]⟩,.int .i64 0,.bool false] 178)).drew:=((Below.refl _ W0).alloc (Nat.le_refl _) _).drew;have S2:=hid (HA.out _ hB2).1;have hI2:Blk (W0.alloc (.cells #[.string ⟨#[]⟩,.string ⟨#[]⟩,.int .i64 0,.bool false] 178)).drew W0.heap.size 178 #[.string ⟨#[]⟩,.string ⟨#[]⟩,.int .i64 0,.bool false]:=(Blk.new W0 178 #[.string ⟨#[]⟩,.string ⟨#[]⟩,.int .i64 0,.bool false]).drew;have HB2:=hid hB2;have HI2:=hid hI2;clear hB2 hI2;refine hK _ _ S2.out ?_;clear hK S2;generalize (W0.alloc (.cells #[.string ⟨#[]⟩,.string ⟨#[]⟩,.int .i64 0,.bool false] 178)).drew=W2 at *;refine pl_one rfl fun K hK=>?_;go_simp;refine(HG.out _ HB2.out).mono ?_;rintro e w1 ⟨rfl,hb1⟩;have HB1:=hid (HB2.out.trans (hb1.mono HB2.out.size));have S1:=hid (HA.out w1 HB1.out).1;have hI1:=HI2.out.below hb1 HI2.out.lt;have i0:=hI1.cell 0;have i1:=hI1.cell 1;have i2:=hI1.cell 2;have i3:=hI1.cell 3;have j0:=hI1.frozen 0;have j1:=hI1.frozen 1;have j2:=hI1.frozen 2;have j3:=hI1.frozen 3;have HI1:=hid hI1;clear hb1 hI1;refine hK _ _ S1.out ?_;clear hK
   iterate 3 (refine pl_take (v:=?_) rfl (by kernel_rfl) (fun W hW=>?_) ?_;rotate_left;(first|(go_simp;done)|(go_simp;with_reducible rfl)))
   refine pl_one rfl fun K hK=>?_;go_simp;have HV5:((((w1.setCell ⟨W0.heap.size,0,none⟩ (.string a)).setCell ⟨W0.heap.size,1,none⟩ (.string vv)).setCell ⟨W0.heap.size,2,none⟩ (.int .i64 0)).setCell ⟨W0.heap.size,3,none⟩ (.bool g)).cell? ⟨W0.heap.size,1,none⟩=some (.string vv):=((((HI1.out.set_ 0 (.string a)).set_ 1 (.string vv)).set_ 2 (.int .i64 0)).set_ 3 (.bool g)).cell 1;have HB5:=hid ((((HB1.out.setCell (p:=⟨W0.heap.size,0,none⟩) (Nat.le_refl _) (.string a)).setCell (p:=⟨W0.heap.size,1,none⟩) (Nat.le_refl _) (.string vv)).setCell (p:=⟨W0.heap.size,2,none⟩) (Nat.le_refl _) (.int .i64 0)).setCell (p:=⟨W0.heap.size,3,none⟩) (Nat.le_refl _) (.bool g));have S5:=hid (HA.out _ HB5.out).1;refine hK _ _ S5.out ?_;clear hK S5 HB1 S1 HI1 HI2 HB2 i0 i1 i2 i3 j0 j1 j2 j3;generalize hW5:((((w1.setCell ⟨W0.heap.size,0,none⟩ (.string a)).setCell ⟨W0.heap.size,1,none⟩ (.string vv)).setCell ⟨W0.heap.size,2,none⟩ (.int .i64 0)).setCell ⟨W0.heap.size,3,none⟩ (.bool g))=W5 at *;clear hW5;refine pl_end ?_;simp only[Plan.len,List.drop_succ_cons,List.drop_zero,Nat.zero_add,Nat.reduceAdd];obtain⟨-,U5,a1,a2,-,-,a5⟩:=HA.out W5 HB5.out;obtain⟨mv,pv,hNb,-,-⟩:=a1.out.ex;have b0:W5.cell? ⟨w.heap.size,0,none⟩=some (.int .i64 (x.node:Int)):=a2.cell 0;have b1:W5.cell? ⟨w.heap.size,1,none⟩=some (.int .i64 (x.id:Int)):=a2.cell 1;have b2:W5.cell? ⟨w.heap.size,2,none⟩=some (.int .i64 (x.op:Int)):=a2.cell 2;have b3:W5.cell? ⟨w.heap.size,3,none⟩=some (.string x.key):=a2.cell 3;have S6:Hid (GetT N h.T w.heap.size h.rv x W5.drew):=hid ⟨hNb.cell 10,hNb.cell 4,b0,b1,b2,b3⟩
   have HX5:=hid a2;have HN5:=hid a1;have HC5:=hid a5;clear a1 a2 a5 hNb HA HG HNo S0
   cases hlv:liveR r with
   | some y=>
    obtain rfl:=HIT.out y hlv;have HT:=hid (nodeTell W5 U5 ts n N d k i s h HN5.out HF.out hl hl2 x 0 y.2.1 true);have HFn:Hid (s.get i x r=s.tell i x 0 y.2.1 true):=hid (by unfold PNode.get;rw[hlv]);clear hlv
    go_wp2_with (go_at_call 112;fail)
    refine HT.out.mono ?_;rintro e w6 ⟨⟨v6,rfl⟩,U6,hn6,hc6⟩;have HFF:=hid (And.intro hn6 (HC5.out.mono (fun _ h=>h.elim) |>.trans (hc6.mono fun x hx=>(show NN n x by have:=HF.out.1;rcases hx with e|e|e <;> (unfold NN;omega)))));clear hn6 hc6
    go_wp2
    refine bodyPost_ret (by first|exact results_none rfl _ _ _|exact Great.results_none rfl _ _ _|rfl) rfl ?_;rw[HFn.out];exact⟨⟨_,rfl⟩,h,U6,HFF.out⟩
   | none=>
    have HFn:Hid (s.get i x r={ s with toks:=s.toks++[⟨x.key,true,false⟩],reads:=s.reads++[⟨x,s.toks.length+1⟩] }):=hid (by unfold PNode.get;rw[hlv]);clear hlv
    go_wp2_with fail
    refine wp_region_hl [12,14,15] [0,1,2,3,4,5,6,7,8,9,10,11,12,13,14,15] (GetT N h.T w.heap.size h.rv x) (by kernel_rfl) (by kernel_rfl) S6.out ?_
    iterate 12 (refine hd_take (v:=?_) rfl rfl (by kernel_rfl) (fun W hW=>?_) ?_;rotate_left;(obtain⟨r0,r1,r2,r3,r4,r5⟩:=hW;first|(go_simp;done)|(go_simp;with_reducible rfl)))
    refine hd_loud rfl rfl fun K hK=>?_;go_simp;obtain⟨t1,ht1⟩:∃ t,t=s.toks.length+1:=⟨_,rfl⟩;have hcd:Chg (fun _=>False) W5 U5 W5.drew U5:=(Chg.refl _ _ _).drew;have hN6:=HN5.out.keep hcd HF.out.1 (fun _ h=>h.elim);have hTG:=tokGive W5.drew U5 (n+672) h.T s.toks x.key hN6.toks (by omega);rw[<- ht1]at hTG HFn;refine hTG.mono ?_;rintro e w6 ⟨rfl,ht6,hc6⟩;generalize ext U5 W5.drew (n+672)=U6 at ht6 hc6;have hn95:=HF.out.1;have hNS (W:World) (U':Own) (hc:Chg (fun x=>x=n+192\/x=n+672) W5.drew U5 W U'):GetT N h.T w.heap.size h.rv x W/\Rw W U' (n+192) 108 5 h.rv s.reads.length (s.reads.flatMap encD)\/True:=.inr trivial
    have hS (W:World) (U':Own) (hc:Chg (· = n+672) W5.drew U5 W U'):GetT N h.T w.heap.size h.rv x W:=by
     obtain⟨mv6,pv6,hNb,-,-⟩:=hN6.out.ex;have a1:=hNb.keep hc (by omega);have a2:=(HX5.out.keep hcd id).keep hc (by omega);exact⟨a1.cell 10,a1.cell 4,a2.cell 0,a2.cell 1,a2.cell 2,a2.cell 3⟩
    have S7:=hid (hS w6 U6 hc6);have hr6:=hN6.reads.keep hc6 (by omega);have hcA:=hc6.alloc (.cells (encD ⟨x,t1⟩).toArray 108);have S8:=hid (hS _ U6 hcA);have hrA:=hr6.alloc (.cells (encD ⟨x,t1⟩).toArray 108);have htA:=ht6.keep ((Chg.refl (fun _=>False) w6 U6).alloc (.cells (encD ⟨x,t1⟩).toArray 108)) id;have HRA:=hid hrA;have HTA:=hid htA;have HCA:=hid hcA;have HN6:=hid hN6;have HCC:=hid (HC5.out.trans hcd);have HFr:=hid hS;clear hTG hcd hN6 hNS hS hr6 hcA hrA htA ht6 hc6 ht1;refine hK _ _ S7.out ?_;clear hK;refine hd_take (v:=?_) rfl rfl (by kernel_rfl) (fun W hW=>?_) ?_
    rotate_left
    ·first|(go_simp;done)|(go_simp;with_reducible rfl)
    refine hd_loud rfl rfl fun K hK=>?_;go_simp;refine hK _ _ S8.out ?_;clear hK;refine hd_loud rfl rfl fun K hK=>?_;refine st_app rfl rfl U6 (n+192) (by kernel_rfl) info108 rfl (by decide) (by decide) rfl HRA.out rfl rfl (Blk.new _ _ _).sl (encD_one ⟨x,t1⟩) (by omega) ?_;intro g8 cap8 w8 hr8 hc8 hg8;generalize ext U6 _ (n+192)=U8 at hr8 hc8;have hcB:Chg (fun x=>x=n+192\/x=n+672) W5.drew U5 w8 U8:=(HCA.out.mono fun x h=>.inr h).trans (hc8.mono fun x h=>.inl h);have htB:=HTA.out.keep hc8 (by omega);obtain⟨mv8,pv8,hNb8,-,-⟩:=HN6.out.out.ex;have hNb9:=hNb8.keep hcB (by omega);have d10:=hNb9.cell 10;have g10:=hNb9.frozen 10
    have S9:Hid (GetT N h.T w.heap.size h.rv x w8):=hid (by
     have a2:=HX5.out.keep ((Chg.refl (fun _=>False) W5 U5).drew) id;have a3:=a2.keep hcB (by omega)
     exact⟨hNb9.cell 10,hNb9.cell 4,a3.cell 0,a3.cell 1,a3.cell 2,a3.cell 3⟩)
    have HFF:Hid (∀ W,W=w8.setCell ⟨N,10,none⟩ (.slice (some ⟨g8,0,none⟩) (s.reads.length+1) cap8)->∃ h',NodeAt W U8 ts n N d k i (s.get i x r) h'/\Chg (NN n) w U W U8):=hid fun W hW=>by
     obtain⟨R,hR⟩:∃ R:List PRead,R=s.reads++[⟨x,t1⟩]:=⟨_,rfl⟩
     have e1:R.length=s.reads.length+1:=by rw[hR];simp
     have e2:R.flatMap encD=s.reads.flatMap encD++encD ⟨x,t1⟩:=by rw[hR];simp
     have hr9:Rw w8 U8 (n+192) 108 5 (.slice (some ⟨g8,0,none⟩) (s.reads.length+1) cap8) R.length (R.flatMap encD):=by rw[e1,e2];exact hr8
     obtain⟨k1,k2⟩:=HN6.out.setReads HF.out hr9 htB hcB hW;rw[hR]at k1;rw[HFn.out];exact⟨_,k1,(HCC.out.mono fun _ h=>h.elim).trans k2⟩
    clear hr8 hc8 hg8 hcB htB hNb8 hNb9;refine hK _ _ S9.out (hd_end ?_);clear hK;simp only[zqa,zqb,zqc,zqd,Nat.zero_add,Nat.reduceAdd]
    go_wp2_with fail
    refine bodyPost_end (by first|rfl|(simp[results];rfl)) rfl ?_;obtain⟨h',k1,k2⟩:=HFF.out _ rfl;exact⟨⟨_,rfl⟩,h',U8,k1,k2⟩
 ·go_simp
  have hB2:Below W0.heap.size W0 (W0.alloc (.cells #[.string ⟨#[]⟩,.string ⟨#[]⟩,.int .i64 0,.bool false] 178)).drew:=((Below.refl _ W0).alloc (Nat.le_refl _) _).drew;have S2:=hid (HA.out _ hB2).1;have hI2:Blk (W0.alloc (.cells #[.string ⟨#[]⟩,.string ⟨#[]⟩,.int .i64 0,.bool false] 178)).drew W0.heap.size 178 #[.string ⟨#[]⟩,.string ⟨#[]⟩,.int .i64 0,.bool false]:=(Blk.new W0 178 #[.string ⟨#[]⟩,.string ⟨#[]⟩,.int .i64 0,.bool false]).drew;have HB2:=hid hB2;have HI2:=hid hI2;clear hB2 hI2;refine hK _ _ S2.out ?_;clear hK;generalize (W0.alloc (.cells #[.string ⟨#[]⟩,.string ⟨#[]⟩,.int .i64 0,.bool false] 178)).drew=W2 at *;refine pl_one rfl fun K hK=>?_;go_simp;refine(HNo.out _ HB2.out).mono ?_;rintro e w1 ⟨rfl,rfl⟩;refine hK _ _ S2.out ?_;clear hK S2;refine pl_one rfl fun K hK=>?_;go_simp;refine(HG.out _ HB2.out).mono ?_;rintro e w1 ⟨rfl,hb1⟩;have HB1:=hid (HB2.out.trans (hb1.mono HB2.out.size));have S1:=hid (HA.out w1 HB1.out).1;have hI1:=HI2.out.below hb1 HI2.out.lt;have i0:=hI1.cell 0;have i1:=hI1.cell 1;have i2:=hI1.cell 2;have i3:=hI1.cell 3;have j0:=hI1.frozen 0;have j1:=hI1.frozen 1;have j2:=hI1.frozen 2;have j3:=hI1.frozen 3;have HI1:=hid hI1;clear hb1 hI1;refine hK _ _ S1.out ?_;clear hK
  iterate 3 (refine pl_take (v:=?_) rfl (by kernel_rfl) (fun W hW=>?_) ?_;rotate_left;(first|(go_simp;done)|(go_simp;with_reducible rfl)))
  refine pl_one rfl fun K hK=>?_;go_simp;have HV5:((((w1.setCell ⟨W0.heap.size,0,none⟩ (.string a)).setCell ⟨W0.heap.size,1,none⟩ (.string vv)).setCell ⟨W0.heap.size,2,none⟩ (.int .i64 0)).setCell ⟨W0.heap.size,3,none⟩ (.bool g)).cell? ⟨W0.heap.size,1,none⟩=some (.string vv):=((((HI1.out.set_ 0 (.string a)).set_ 1 (.string vv)).set_ 2 (.int .i64 0)).set_ 3 (.bool g)).cell 1;have HB5:=hid ((((HB1.out.setCell (p:=⟨W0.heap.size,0,none⟩) (Nat.le_refl _) (.string a)).setCell (p:=⟨W0.heap.size,1,none⟩) (Nat.le_refl _) (.string vv)).setCell (p:=⟨W0.heap.size,2,none⟩) (Nat.le_refl _) (.int .i64 0)).setCell (p:=⟨W0.heap.size,3,none⟩) (Nat.le_refl _) (.bool g));have S5:=hid (HA.out _ HB5.out).1;refine hK _ _ S5.out ?_;clear hK S5 HB1 S1 HI1 HI2 HB2 i0 i1 i2 i3 j0 j1 j2 j3;generalize hW5:((((w1.setCell ⟨W0.heap.size,0,none⟩ (.string a)).setCell ⟨W0.heap.size,1,none⟩ (.string vv)).setCell ⟨W0.heap.size,2,none⟩ (.int .i64 0)).setCell ⟨W0.heap.size,3,none⟩ (.bool g))=W5 at *;clear hW5;refine pl_end ?_;simp only[Plan.len,List.drop_succ_cons,List.drop_zero,Nat.zero_add,Nat.reduceAdd];obtain⟨-,U5,a1,a2,-,-,a5⟩:=HA.out W5 HB5.out;obtain⟨mv,pv,hNb,-,-⟩:=a1.out.ex;have b0:W5.cell? ⟨w.heap.size,0,none⟩=some (.int .i64 (x.node:Int)):=a2.cell 0;have b1:W5.cell? ⟨w.heap.size,1,none⟩=some (.int .i64 (x.id:Int)):=a2.cell 1;have b2:W5.cell? ⟨w.heap.size,2,none⟩=some (.int .i64 (x.op:Int)):=a2.cell 2;have b3:W5.cell? ⟨w.heap.size,3,none⟩=some (.string x.key):=a2.cell 3;have S6:Hid (GetT N h.T w.heap.size h.rv x W5.drew):=hid ⟨hNb.cell 10,hNb.cell 4,b0,b1,b2,b3⟩
  have HX5:=hid a2;have HN5:=hid a1;have HC5:=hid a5;clear a1 a2 a5 hNb HA HG HNo S0
  cases hlv:liveR r with
  | some y=>
   obtain rfl:=HIT.out y hlv;have HT:=hid (nodeTell W5 U5 ts n N d k i s h HN5.out HF.out hl hl2 x 0 y.2.1 true);have HFn:Hid (s.get i x r=s.tell i x 0 y.2.1 true):=hid (by unfold PNode.get;rw[hlv]);clear hlv
   go_wp2_with (go_at_call 112;fail)
   refine HT.out.mono ?_;rintro e w6 ⟨⟨v6,rfl⟩,U6,hn6,hc6⟩;have HFF:=hid (And.intro hn6 (HC5.out.mono (fun _ h=>h.elim) |>.trans (hc6.mono fun x hx=>(show NN n x by have:=HF.out.1;rcases hx with e|e|e <;> (unfold NN;omega)))));clear hn6 hc6
   go_wp2
   refine bodyPost_ret (by first|exact results_none rfl _ _ _|exact Great.results_none rfl _ _ _|rfl) rfl ?_;rw[HFn.out];exact⟨⟨_,rfl⟩,h,U6,HFF.out⟩
  | none=>
   have HFn:Hid (s.get i x r={ s with toks:=s.toks++[⟨x.key,true,false⟩],reads:=s.reads++[⟨x,s.toks.length+1⟩] }):=hid (by unfold PNode.get;rw[hlv]);clear hlv
   go_wp2_with fail
   refine wp_region_hl [12,14,15] [0,1,2,3,4,5,6,7,8,9,10,11,12,13,14,15] (GetT N h.T w.heap.size h.rv x) (by kernel_rfl) (by kernel_rfl) S6.out ?_
   iterate 12 (refine hd_take (v:=?_) rfl rfl (by kernel_rfl) (fun W hW=>?_) ?_;rotate_left;(obtain⟨r0,r1,r2,r3,r4,r5⟩:=hW;first|(go_simp;done)|(go_simp;with_reducible rfl)))
   refine hd_loud rfl rfl fun K hK=>?_;go_simp;obtain⟨t1,ht1⟩:∃ t,t=s.toks.length+1:=⟨_,rfl⟩;have hcd:Chg (fun _=>False) W5 U5 W5.drew U5:=(Chg.refl _ _ _).drew;have hN6:=HN5.out.keep hcd HF.out.1 (fun _ h=>h.elim);have hTG:=tokGive W5.drew U5 (n+672) h.T s.toks x.key hN6.toks (by omega);rw[<- ht1]at hTG HFn;refine hTG.mono ?_;rintro e w6 ⟨rfl,ht6,hc6⟩;generalize ext U5 W5.drew (n+672)=U6 at ht6 hc6;have hn95:=HF.out.1;have hNS (W:World) (U':Own) (hc:Chg (fun x=>x=n+192\/x=n+672) W5.drew U5 W U'):GetT N h.T w.heap.size h.rv x W/\Rw W U' (n+192) 108 5 h.rv s.reads.length (s.reads.flatMap encD)\/True:=.inr trivial
   have hS (W:World) (U':Own) (hc:Chg (· = n+672) W5.drew U5 W U'):GetT N h.T w.heap.size h.rv x W:=by
    obtain⟨mv6,pv6,hNb,-,-⟩:=hN6.out.ex;have a1:=hNb.keep hc (by omega);have a2:=(HX5.out.keep hcd id).keep hc (by omega);exact⟨a1.cell 10,a1.cell 4,a2.cell 0,a2.cell 1,a2.cell 2,a2.cell 3⟩
   have S7:=hid (hS w6 U6 hc6);have hr6:=hN6.reads.keep hc6 (by omega);have hcA:=hc6.alloc (.cells (encD ⟨x,t1⟩).toArray 108);have S8:=hid (hS _ U6 hcA);have hrA:=hr6.alloc (.cells (encD ⟨x,t1⟩).toArray 108);have htA:=ht6.keep ((Chg.refl (fun _=>False) w6 U6).alloc (.cells (encD ⟨x,t1⟩).toArray 108)) id;have HRA:=hid hrA;have HTA:=hid htA;have HCA:=hid hcA;have HN6:=hid hN6;have HCC:=hid (HC5.out.trans hcd);have HFr:=hid hS;clear hTG hcd hN6 hNS hS hr6 hcA hrA htA ht6 hc6 ht1;refine hK _ _ S7.out ?_;clear hK;refine hd_take (v:=?_) rfl rfl (by kernel_rfl) (fun W hW=>?_) ?_
   rotate_left
   ·first|(go_simp;done)|(go_simp;with_reducible rfl)
   refine hd_loud rfl rfl fun K hK=>?_;go_simp;refine hK _ _ S8.out ?_;clear hK;refine hd_loud rfl rfl fun K hK=>?_;refine st_app rfl rfl U6 (n+192) (by kernel_rfl) info108 rfl (by decide) (by decide) rfl HRA.out rfl rfl (Blk.new _ _ _).sl (encD_one ⟨x,t1⟩) (by omega) ?_;intro g8 cap8 w8 hr8 hc8 hg8;generalize ext U6 _ (n+192)=U8 at hr8 hc8;have hcB:Chg (fun x=>x=n+192\/x=n+672) W5.drew U5 w8 U8:=(HCA.out.mono fun x h=>.inr h).trans (hc8.mono fun x h=>.inl h);have htB:=HTA.out.keep hc8 (by omega);obtain⟨mv8,pv8,hNb8,-,-⟩:=HN6.out.out.ex;have hNb9:=hNb8.keep hcB (by omega);have d10:=hNb9.cell 10;have g10:=hNb9.frozen 10
   have S9:Hid (GetT N h.T w.heap.size h.rv x w8):=hid (by
    have a2:=HX5.out.keep ((Chg.refl (fun _=>False) W5 U5).drew) id;have a3:=a2.keep hcB (by omega)
    exact⟨hNb9.cell 10,hNb9.cell 4,a3.cell 0,a3.cell 1,a3.cell 2,a3.cell 3⟩)
   have HFF:Hid (∀ W,W=w8.setCell ⟨N,10,none⟩ (.slice (some ⟨g8,0,none⟩) (s.reads.length+1) cap8)->∃ h',NodeAt W U8 ts n N d k i (s.get i x r) h'/\Chg (NN n) w U W U8):=hid fun W hW=>by
    obtain⟨R,hR⟩:∃ R:List PRead,R=s.reads++[⟨x,t1⟩]:=⟨_,rfl⟩
    have e1:R.length=s.reads.length+1:=by rw[hR];simp
    have e2:R.flatMap encD=s.reads.flatMap encD++encD ⟨x,t1⟩:=by rw[hR];simp
    have hr9:Rw w8 U8 (n+192) 108 5 (.slice (some ⟨g8,0,none⟩) (s.reads.length+1) cap8) R.length (R.flatMap encD):=by rw[e1,e2];exact hr8
    obtain⟨k1,k2⟩:=HN6.out.setReads HF.out hr9 htB hcB hW;rw[hR]at k1;rw[HFn.out];exact⟨_,k1,(HCC.out.mono fun _ h=>h.elim).trans k2⟩
   clear hr8 hc8 hg8 hcB htB hNb8 hNb9;refine hK _ _ S9.out (hd_end ?_);clear hK;simp only[zqa,zqb,zqc,zqd,Nat.zero_add,Nat.reduceAdd]
   go_wp2_with fail
   refine bodyPost_end (by first|rfl|(simp[results];rfl)) rfl ?_;obtain⟨h',k1,k2⟩:=HFF.out _ rfl;exact⟨⟨_,rfl⟩,h',U8,k1,k2⟩
def ownerK (ns:List Nat)(key:ByteArray):Nat:=owner ns (Plain.mix [nb key])
def servesF (s:PNode)(i now:Nat)(ns:List Nat)(key:ByteArray):Bool:=decide (ownerK ns key=i) && goodF s.ep s.en now s.m.e
def SrvS (N S k:Nat)(h:Hd)(W:World):Prop:=
 W.cell? ⟨N,0,none⟩=some (.pointer (some ⟨S,0,none⟩))/\W.cell? ⟨N,1,none⟩=some (.pointer (some ⟨h.L,0,none⟩))/\W.cell? ⟨N,2,none⟩=some (.int .i64 (h.id:Int))/\W.cell? ⟨N,3,none⟩=some h.rg/\W.cell? ⟨S,2,none⟩=some (.pointer (some ⟨k,0,none⟩))
theorem field45_1 (a b c:Int)(f:Bool)(W:World):(Instr.field 45 (.agg #[.int .i64 a,.int .i64 b,.int .i64 c,.bool f]) 1).run Tryz.prog W=.ok (.int .i64 b) W:=by kernel_rfl
theorem field45_3 (a b c:Int)(f:Bool)(W:World):(Instr.field 45 (.agg #[.int .i64 a,.int .i64 b,.int .i64 c,.bool f]) 3).run Tryz.prog W=.ok (.bool f) W:=by kernel_rfl
theorem serves33 (w:World)(U:Own)(ts n N d k i tk now:Nat)(s:PNode)(h:Hd)(H:NodeAt w U ts n N d k i s h)(hk:ClockAt w U tk k now)(ns:List Nat)(hr:s.ring=some ns)(hf:s.m.f=false)(key:ByteArray)(hks:key.size<=1000)(hn:n<95) :
 Calls Tryz.prog 33 #[.pointer (some ⟨N,0,none⟩),.string key] w fun e w'=>e=.returned (.bool (servesF s i now ns key))/\Below w.heap.size w w':=by
 obtain⟨hjd,-,hout,hst,hle,-,-,-,hrg⟩:=H;rw[hr]at hrg;obtain⟨r,hrv,hring,hok⟩:=hrg;obtain⟨mv,pv,hN,-,-⟩:=hout.ex;obtain⟨c,j,kp,lf,lj,Z,hS,-,-,hK,-⟩:=hst.ex
 have HA:Hid (∀ W,Below w.heap.size w W->SrvS N h.S kp h W/\(∃ U',RingAt W U' (n+768) r 1 ns/\KeeperAt W U' (ts+1) kp d 0 s.tn s.m/\LeaseAt W U' (n+576) h.L k s.ep s.en s.top/\ClockAt W U' tk k now)):=hid fun W hb=>by
  have hc:Chg (fun _=>False) w U W (ext U w 0):=Chg.of_below hb _;have hN':=hN.keep hc id;have hS':=hS.keep hc id;exact⟨⟨hN'.cell 0,hN'.cell 1,hN'.cell 2,hN'.cell 3,hS'.cell 2⟩,_,hring.keep hc id,hK.keep hc id id,hle.keep hc id,hk.keep hc id⟩
 have HOK:=hid hok;have S0:=hid (HA.out w.drew (Below.refl _ w).drew).1;clear hN hS hring hK hle hk hout hst hok;have hrv':=hrv;obtain⟨hS',hL',hjd',hrg',hT',hwv',hrv2,ha'⟩:=h;dsimp only at *;subst hrv;subst hjd;have hf1:=field45_1;have hf3:=field45_3;go_enter Tryz.func33,Tryz.ntmps33
 go_wp2_with fail
 have HOf:Hid (∀ W,Below w.heap.size w W->Calls Tryz.prog 46 #[.pointer (some ⟨r,0,none⟩),.string key] W fun e w'=>e=.returned (.int .i64 (ownerK ns key:Int))/\Below W.heap.size W w'):=hid fun W hb=>by
  obtain⟨-,U',h1,-⟩:=HA.out W hb;exact of46 W U' (n+768) r 1 key ns h1 HOK.out (by omega)
 have HMe:Hid (∀ W,Below w.heap.size w W->Calls Tryz.prog 48 #[.pointer (some ⟨kp,0,none⟩)] W fun e w'=>e=.returned (.agg #[.int .i64 (s.m.b:Int),.int .i64 (s.m.e:Int),.int .i64 (s.m.r:Int),.bool s.m.f])/\Below W.heap.size W w'):=hid fun W hb=>by
  obtain⟨-,U',-,h2,-⟩:=HA.out W hb;exact meta48 W U' (ts+1) kp d 0 s.tn s.m h2
 have HGo:Hid (∀ W,Below w.heap.size w W->Calls Tryz.prog 47 #[.pointer (some ⟨hL',0,none⟩),.int .i64 (s.m.e:Int)] W fun e w'=>e=.returned (.bool (goodF s.ep s.en now s.m.e))/\Below W.heap.size W w'):=hid fun W hb=>by
  obtain⟨-,U',-,-,h3,h4⟩:=HA.out W hb;refine(good47 W U' (n+576) hL' k s.ep s.en s.top tk now s.m.e h3 h4).mono ?_;rintro e w' ⟨rfl,q,rfl⟩;exact⟨rfl,below_drewN' (Below.refl _ _) _⟩
 refine wp_region_hl [8,27] [0,1,2,3,4,5,6,7,9,10,11,12,8,13,14,15,16,17,18,19,20,21,22,23,24,25,26,27,28] (SrvS N hS' kp ⟨hS',hL',hjd',.pointer (some ⟨r,0,none⟩),hT',hwv',hrv2,ha'⟩) (by kernel_rfl) (by kernel_rfl) S0.out ?_
 iterate 12 (refine hd_take (v:=?_) rfl rfl (by kernel_rfl) (fun W hW=>?_) ?_;rotate_left;(obtain⟨r0,r1,r2,r3,r4⟩:=hW;first|(go_simp;done)|(go_simp;with_reducible rfl)))
 refine hd_loud rfl rfl fun K hK=>?_;go_simp;refine(HOf.out _ (Below.refl _ w).drew).mono ?_;rintro e w1 ⟨rfl,hb1⟩;have HB1:=hid ((Below.refl w.heap.size w).drew.trans (hb1.mono (Nat.le_refl _)));have S1:=hid (HA.out w1 HB1.out).1;clear hb1;refine hK _ _ S1.out ?_;clear hK;have HSF:Hid (servesF s hjd' now ns key=(decide (ownerK ns key=hjd') && goodF s.ep s.en now s.m.e)):=hid rfl;generalize ownerK ns key=ow at HSF ⊢
 by_cases how:ow=hjd'
 ·subst how
  have HSF2:Hid (servesF s ow now ns key=goodF s.ep s.en now s.m.e):=hid (by rw[HSF.out];simp);clear HSF
  iterate 14 (refine hd_take (v:=?_) rfl rfl (by kernel_rfl) (fun W hW=>?_) ?_;rotate_left;(obtain⟨r0,r1,r2,r3,r4⟩:=hW;first|(go_simp;done)|(go_simp;with_reducible rfl)))
  refine hd_loud rfl rfl fun K hK=>?_;go_simp;refine(HMe.out _ HB1.out).mono ?_;rintro e w2 ⟨rfl,hb2⟩;have HB2:=hid (HB1.out.trans (hb2.mono HB1.out.size));have S2:=hid (HA.out w2 HB2.out).1;clear hb2;refine hK _ _ S2.out ?_;clear hK;refine hd_take (v:=?_) rfl rfl (by kernel_rfl) (fun W hW=>?_) (hd_end ?_)
  rotate_left
  ·first|(go_simp;done)|(go_simp;with_reducible rfl)
  simp only[zqa,zqb,zqc,zqd,Nat.zero_add,Nat.reduceAdd]
  go_wp2_with (go_at_call 47;fail)
  refine(HGo.out _ HB2.out).mono ?_;rintro e w3 ⟨rfl,hb3⟩;have HB3:=hid (HB2.out.trans (hb3.mono HB2.out.size));have S3:=hid (HA.out w3 HB3.out);obtain⟨⟨q0,q1,q2,q3,q4⟩,-⟩:=HA.out w3 HB3.out;have HMe3:=hid (HMe.out _ HB3.out);rw[hf]at HMe3;clear hb3
  cases hg:goodF s.ep s.en now s.m.e with
  | false=>
   rw[hg]at HSF2;clear hg
   go_wp2
   go_ret;exact⟨by rw[HSF2.out];rfl,HB3.out⟩
  | true=>
   rw[hg]at HSF2;clear hg
   go_wp2_with (go_at_call 48;fail)
   refine HMe3.out.mono ?_;rintro e w4 ⟨rfl,hb4⟩;have HB4:=hid (HB3.out.trans (hb4.mono HB3.out.size));clear hb4
   go_wp2
   go_ret;exact⟨by rw[HSF2.out];rfl,HB4.out⟩
 ·have HSF2:Hid (servesF s hjd' now ns key=false):=hid (by rw[HSF.out];simp[how])
  have e1:((ow:Int) == (hjd':Int))=false:=by rw[beq_eq_false_iff_ne];omega
  have e2:¬ ((ow:Int)=(hjd':Int)):=by omega
  have e3:¬ (ow=hjd'):=how
  have e4:((ow:Int) != (hjd':Int))=true:=by simp;omega
  clear HSF how;refine hd_take (v:=.bool true) rfl rfl (by kernel_rfl) (fun W hW=>?_) ?_
  ·go_simp
  iterate 2 (refine hd_take (v:=?_) rfl rfl (by kernel_rfl) (fun W hW=>?_) ?_;rotate_left;(obtain⟨r0,r1,r2,r3,r4⟩:=hW;first|(go_simp;done)|(go_simp;with_reducible rfl)))
  iterate 11 (refine hd_skip rfl rfl (by kernel_rfl) ?_)
  refine hd_loud rfl rfl fun K hK=>?_;go_simp;refine hK _ _ S1.out ?_;clear hK;refine hd_skip rfl rfl (by kernel_rfl) (hd_end ?_);simp only[zqa,zqb,zqc,zqd,Nat.zero_add,Nat.reduceAdd]
  go_wp2
  go_ret;exact⟨by rw[HSF2.out];rfl,HB1.out⟩
end Go.Proofs.Ytlhekbjidppijaa
