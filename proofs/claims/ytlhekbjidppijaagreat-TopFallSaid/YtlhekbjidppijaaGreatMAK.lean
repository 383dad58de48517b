/- Contracts of what TopFall reaches: what each function returns and leaves in memory. Conditions: as named. -/
import Derived.Lib.SliceRun
import Derived.Test.YtlhekbjidppijaaGreatMAJ
set_option linter.unusedVariables false
set_option linter.unusedSimpArgs false
set_option maxRecDepth 20000
set_option maxHeartbeats 8000000
namespace Go.Proofs.Ytlhekbjidppijaa
open Lib (hid)
open Go.RowKit
theorem info5:(Tryz.prog.info? 5).map (fun i=>(i.zero.map Value.cells,i.size,i.bytes))=some (some #[.int .u8 0],1,1):=by kernel_rfl
theorem info3:(Tryz.prog.info? 3).map (fun i=>(i.zero.map Value.cells,i.size,i.bytes))=some (some #[.int .i64 0],1,8):=by kernel_rfl
theorem clone172 (w:World)(A:Option Addr)(n c:Nat)(news:List Value)(hm:news.length=n*1)(hs:Sl w A news)(h1:∀ u∈news,u.oneCell'=true)(hA:A=none->n=0)(hn:n<=1073741824) :
 Calls Tryz.prog 172 #[.slice A n c] w fun e w'=>∃ v,e=.returned v/\w'.ownsRow w.heap.size 5 1 v n news/\Below w.heap.size w w':=by
 obtain⟨i0,z0,hi,hz,hc,hs0,hb⟩:=info_cells info5;have HI:=hid (And.intro hi (And.intro hz (And.intro hc (And.intro hs0 hb))));clear hi hz hc hs0 hb;have HS:=hid hs;have H1:=hid h1;have HM:=hid hm;clear hs h1 hm;have he:∀ (w:World) (a:Option Addr) (n c n' c':Nat),(binOp .eql 74 (.slice a n c) (.slice none n' c')).run Tryz.prog w=.ok (.bool a.isNone) w:=fun w a n c n' c'=>Lib.run_eql_slice_nil w _ 5 a n c n' c' (by kernel_rfl)
 cases A with
 | none=>
  obtain rfl:=hA rfl;go_enter Tryz.func172,Tryz.ntmps172
  go_wp2
  go_ret;have:news=[]:=List.eq_nil_of_length_eq_zero (by simpa using HM.out);subst this;exact⟨_,rfl,World.ownsRow_nil _ _ _ _,Below.refl _ _⟩
 | some a=>
  have hbs:∀ W:World,(Instr.buildSlice 74 0 #[]).run Tryz.prog W=.ok (.slice (some ⟨W.heap.size,0,none⟩) 0 0) (W.alloc (.cells #[] 5)):=fun W=>by kernel_rfl
  go_enter Tryz.func172,Tryz.ntmps172
  go_wp2_with (at_builtin;refine wpList_append_slN _ rfl _ _ 74 rfl w.heap.size 5 i0 z0 1 1 (by kernel_rfl) HI.out.1 HI.out.2.1 HI.out.2.2.2.1 HI.out.2.2.2.2 (by rw[HI.out.2.2.1];rfl) (by decide) _ 0 [] rfl (World.ownsRow_made w #[] 0 (Nat.le_refl _) (Nat.zero_le _) rfl) (some a) n c news rfl HM.out ?qc2 H1.out ?qc4 ?qc5 ?qc6 ?_)
  case qc2=>exact HS.out.keep ((Below.refl _ _).alloc (Nat.le_refl _) _)
  case qc4=>unfold maxLen;omega
  case qc5=>omega
  case qc6=>simp
  intro v' w1 hown hg;have HB:Hid (Below w.heap.size w w1):=hid (((Below.refl _ w).alloc (Nat.le_refl _) _).grown hg (by simp) (by intro k hk;simp[Value.ownBlock]at hk;omega));have HO:Hid (w1.ownsRow w.heap.size 5 1 v' n news):=hid (by simpa using hown);clear hown hg
  go_wp2
  go_ret;exact⟨v',rfl,HO.out,HB.out⟩
theorem clone99 (w:World)(A:Option Addr)(n c:Nat)(news:List Value)(hm:news.length=n*1)(hs:Sl w A news)(h1:∀ u∈news,u.oneCell'=true)(hA:A=none->n=0)(hn:n<=1073741824) :
 Calls Tryz.prog 99 #[.slice A n c] w fun e w'=>∃ v,e=.returned v/\w'.ownsRow w.heap.size 3 1 v n news/\Below w.heap.size w w':=by
 obtain⟨i0,z0,hi,hz,hc,hs0,hb⟩:=info_cells info3;have HI:=hid (And.intro hi (And.intro hz (And.intro hc (And.intro hs0 hb))));clear hi hz hc hs0 hb;have HS:=hid hs;have H1:=hid h1;have HM:=hid hm;clear hs h1 hm;have he:∀ (w:World) (a:Option Addr) (n c n' c':Nat),(binOp .eql 43 (.slice a n c) (.slice none n' c')).run Tryz.prog w=.ok (.bool a.isNone) w:=fun w a n c n' c'=>Lib.run_eql_slice_nil w _ 3 a n c n' c' (by kernel_rfl)
 cases A with
 | none=>
  obtain rfl:=hA rfl;go_enter Tryz.func99,Tryz.ntmps99
  go_wp2
  go_ret;have:news=[]:=List.eq_nil_of_length_eq_zero (by simpa using HM.out);subst this;exact⟨_,rfl,World.ownsRow_nil _ _ _ _,Below.refl _ _⟩
 | some a=>
  have hbs:∀ W:World,(Instr.buildSlice 43 0 #[]).run Tryz.prog W=.ok (.slice (some ⟨W.heap.size,0,none⟩) 0 0) (W.alloc (.cells #[] 3)):=fun W=>by kernel_rfl
  go_enter Tryz.func99,Tryz.ntmps99
  go_wp2_with (at_builtin;refine wpList_append_slN _ rfl _ _ 43 rfl w.heap.size 3 i0 z0 1 8 (by kernel_rfl) HI.out.1 HI.out.2.1 HI.out.2.2.2.1 HI.out.2.2.2.2 (by rw[HI.out.2.2.1];rfl) (by decide) _ 0 [] rfl (World.ownsRow_made w #[] 0 (Nat.le_refl _) (Nat.zero_le _) rfl) (some a) n c news rfl HM.out ?qc2 H1.out ?qc4 ?qc5 ?qc6 ?_)
  case qc2=>exact HS.out.keep ((Below.refl _ _).alloc (Nat.le_refl _) _)
  case qc4=>unfold maxLen;omega
  case qc5=>omega
  case qc6=>simp
  intro v' w1 hown hg;have HB:Hid (Below w.heap.size w w1):=hid (((Below.refl _ w).alloc (Nat.le_refl _) _).grown hg (by simp) (by intro k hk;simp[Value.ownBlock]at hk;omega));have HO:Hid (w1.ownsRow w.heap.size 3 1 v' n news):=hid (by simpa using hown);clear hown hg
  go_wp2
  go_ret;exact⟨v',rfl,HO.out,HB.out⟩
def nbs (ns:List Nat):List Value:=ns.map fun(n:Nat)=>.int .u8 ((2*n:Nat):Int)
def nnums (ns:List Nat):List Value:=ns.map fun(n:Nat)=>.int .i64 (n:Int)
theorem getN_any (w:World)(b off len c n:Nat)(hn:n<64)(hl:0<len)(hc:w.cell? ⟨b,off,none⟩=some (.int .u8 ((2*n:Nat):Int))) :
 Calls Tryz.prog 173 #[.slice (some ⟨b,off,none⟩) len c] w fun e w'=>e=.returned (.tuple #[.int .i64 n,.int .i64 1,.int .i64 0])/\w=w':=by
 have k1:(0:Int)<(len:Int):=by omega
 have k2:(n:Int)<64:=by omega
 have k3:(0:Int)<=(n:Int):=by omega
 have hc':w.cell? ⟨b,off+0,none⟩=some (.int .u8 ((2*n:Nat):Int)):=hc;have q1:bits .and .u8 (2*(n:Int)) 127=2*(n:Int):=(show ∀ m:Fin 64,bits .and .u8 (2*((m:Nat):Int)) 127=2*((m:Nat):Int) by decide +kernel) ⟨n,hn⟩;have q2:IntKind.u64.wrap (2*(n:Int))=2*(n:Int):=(show ∀ m:Fin 64,IntKind.u64.wrap (2*((m:Nat):Int))=2*((m:Nat):Int) by decide +kernel) ⟨n,hn⟩;have q3:bits .or .u64 0 (2*(n:Int))=2*(n:Int):=(show ∀ m:Fin 64,bits .or .u64 0 (2*((m:Nat):Int))=2*((m:Nat):Int) by decide +kernel) ⟨n,hn⟩;have q4:bits .and .u64 (2*(n:Int)) 1=0:=(show ∀ m:Fin 64,bits .and .u64 (2*((m:Nat):Int)) 1=0 by decide +kernel) ⟨n,hn⟩
 have q5:(2*(n:Int)) / 2=(n:Int):=by omega
 go_enter Tryz.func173,Tryz.ntmps173
 go_wp2
 go_loop [5,11] (fun u i=>u=.int .u64 0/\i=.int .i64 0) (fun _ _=>0)
 case atStart=>exact⟨rfl,rfl⟩
 case round=>
  obtain⟨rfl,rfl⟩:=hrel
  go_wp2
  go_ret3
  exact⟨rfl,rfl⟩
theorem add_none (b o j:Nat):(⟨b,o,none⟩:Addr).add j=⟨b,o+j,none⟩:=by
 unfold Addr.add
 by_cases h:j=0
 ·subst h;rfl
 ·simp[h]
theorem read_any (w:World)(U:Own)(t p n:Nat)(Z:Cont)(F:Nat->Prop)(h:DevAt w U t p n Z F)(i:Nat)(hi:i<n) :
 Calls Tryz.prog 169 #[.pointer (some ⟨p,0,none⟩),.int .i64 i] w fun e w'=>∃ v,e=.returned (.tuple #[v,.int .i64 0])/\w'.ownsRow w.heap.size 5 1 v 64 (bv (Z i))/\Below w.heap.size w w':=by
 obtain⟨A,calls,cells,h1,h2,h3⟩:=h.ex;have c0:w.cell? ⟨p,0,none⟩=some (.slice (some ⟨A,0,none⟩) n n):=h1.cell 0;have l1:=(h3.len i hi).1;have l4:=h3.now i hi;generalize Z i=l at *;have HL:=hid l1
 have HS:Hid (Sl w (some ⟨A,i*129,none⟩) (bv l)):=hid (Sl.of_cells fun j u hu=>by
  have hj:j<64:=by
   have:=(List.getElem?_eq_some_iff.1 hu).1;simp[bv,l1]at this;exact this
  have:=(h2.cell (i*129+j)).trans (l4 j hj);rw[hu]at this;rw[add_none]
  exact this)
 have HD:=hid h
 have k1:(i:Int)<(n:Int):=by omega
 have k2:(0:Int)<=(i:Int):=by omega
 have k3:¬ ((i:Int)<0\/(n:Int)<=(i:Int)):=by omega
 clear h1 h2 h3 h l1 l4;go_enter Tryz.func169,Tryz.ntmps169
 go_wp2_with fail
 refine(off_any w U t p n Z F HD.out i).mono ?_;rw[if_neg k3];rintro e w' ⟨rfl,rfl⟩
 go_wp2_with fail
 refine(clone172 w' (some ⟨A,i*129,none⟩) 64 64 (bv l) (by simp[bv,HL.out]) HS.out ?_ (fun e=>by cases e) (by decide)).mono ?_
 ·intro u hu
  obtain⟨x,_,rfl⟩:=List.mem_map.1 hu;rfl
 rintro e w1 ⟨v,rfl,ho,hb⟩;have HO:=hid ho;have HB:=hid hb;clear ho hb
 go_wp2
 go_ret2
 exact⟨v,rfl,HO.out,HB.out⟩
structure Rw (w:World)(U:Own)(t:Nat)(e:TypeId)(size:Nat)(v:Value)(n:Nat)(xs:List Value):Prop where
 own:w.ownsRow 0 e size v n xs
 tag:∀ g,v.ownBlock=some g->U g=t
section
variable {T : Nat -> Prop} {w w' : World} {U U' : Own} {t n size : Nat} {e : TypeId} {v : Value} {xs : List Value}
theorem Rw.nil (w:World)(U:Own)(t:Nat)(e:TypeId)(size:Nat):Rw w U t e size (.slice none 0 0) 0 []:=⟨World.ownsRow_nil _ _ _ _,fun g h=>by cases h⟩
theorem Rw.keep (h:Rw w U t e size v n xs)(hc:Chg T w U w' U')(ht:¬ T t):Rw w' U' t e size v n xs:=by
 refine⟨⟨h.own.1,?_⟩,fun g hg=>(hc.own g (h.own.lt g hg).2).trans (h.tag g hg)⟩
 rcases h.own.2 with hn|⟨g,cap,cur,rfl,hb,hgg,rest⟩
 ·exact .inl hn
 ·refine .inr ⟨g,cap,cur,rfl,hb,?_,rest⟩
  rw[hc.block g (Array.getElem?_eq_some_iff.1 hgg).1 (by rw[h.tag g rfl];exact ht)];exact hgg
theorem Rw.alloc (h:Rw w U t e size v n xs)(o:Obj):Rw (w.alloc o) U t e size v n xs:=⟨h.own.alloc o,h.tag⟩
theorem Rw.drewN (h:Rw w U t e size v n xs)(k:Nat):Rw (w.drewN k) U t e size v n xs:=⟨h.own,h.tag⟩
theorem Rw.far (h:Rw w U t e size v n xs){p:Addr}(hp:U p.block≠t)(u:Value):Rw (w.setCell p u) U t e size v n xs:=by
 refine⟨⟨h.own.1,?_⟩,h.tag⟩
 rcases h.own.2 with hn|⟨g,cap,cur,rfl,hb,hgg,rest⟩
 ·exact .inl hn
 ·refine .inr ⟨g,cap,cur,rfl,hb,?_,rest⟩
  rw[Below.heap_setCell _ _ _ _ (by rintro rfl;exact hp (h.tag _ rfl))];exact hgg
theorem Rw.far_ne (h:Rw w U t e size v n xs){p:Addr}(hp:v.ownBlock≠some p.block)(u:Value):Rw (w.setCell p u) U t e size v n xs:=by
 refine⟨⟨h.own.1,?_⟩,h.tag⟩
 rcases h.own.2 with hn|⟨g,cap,cur,rfl,hb,hgg,rest⟩
 ·exact .inl hn
 ·refine .inr ⟨g,cap,cur,rfl,hb,?_,rest⟩
  rw[Below.heap_setCell _ _ _ _ (by rintro rfl;exact hp rfl)];exact hgg
theorem Rw.not (h:Rw w U t e size v n xs){t' g':Nat}{ty':TypeId}{cs':Array Value}(h':Has w U t' g' ty' cs')(hne:t≠t'\/e≠ty'):v.ownBlock≠some g':=by
 intro hv
 rcases hne with hn|hn
 ·exact hn ((h.tag _ hv).symm.trans h'.own)
 ·rcases h.own.2 with ⟨rfl,_⟩|⟨g,cap,cur,rfl,hb,hgg,rest⟩
  ·cases hv
  ·have e1:g=g':=by simpa [Value.ownBlock] using hv
   subst e1;have b:=h'.blk;unfold Blk at b;rw[hgg]at b
   injection b with b
   injection b with _ b
   exact hn b
theorem Rw.slice (h:Rw w U t e size v n xs):∃ A c,v=.slice A n c/\n<=c/\c<=maxLen/\xs.length=n*size/\Sl w A xs/\(A=none->n=0/\c=0)/\∀ a,A=some a->a.off=0/\a.spot=none/\a.block<w.heap.size/\U a.block=t:=by
 have hl:=h.own.1
 rcases h.own.2 with ⟨rfl,rfl⟩|⟨g,cap,cur,rfl,_,hg,hc,hm,_⟩
 ·obtain rfl:xs=[]:=List.eq_nil_of_length_eq_zero (by simpa using hl)
  exact⟨none,0,rfl,Nat.le_refl _,Nat.zero_le _,by simp,Sl.nil,fun _=>⟨rfl,rfl⟩,fun a ha=>by cases ha⟩
 ·refine⟨_,cap,rfl,hc,hm,hl,Sl.of_cells (h.own.cells (g:=g) rfl),fun h=>(by cases h),fun a ha=>?_⟩
  injection ha with ha
  subst ha;exact⟨rfl,rfl,(Array.getElem?_eq_some_iff.1 hg).1,h.tag g rfl⟩
theorem Rw.of_new {w0:World}{base:Nat}(h:w.ownsRow base e size v n xs)(hb:w0.heap.size<=base)(U:Own)(t:Nat):Rw w (ext U w0 t) t e size v n xs:=by
 refine⟨⟨h.1,?_⟩,fun g hg=>ext_new (Nat.le_trans hb (h.lt g hg).1)⟩
 rcases h.2 with hn|⟨g,cap,cur,rfl,_,rest⟩
 ·exact .inl hn
 ·exact .inr ⟨g,cap,cur,rfl,Nat.zero_le _,rest⟩
theorem Rw.base (h:Rw w U t e size v n xs)(b:Nat)(hb:∀ i,i<b->U i≠t):w.ownsRow b e size v n xs:=by
 refine⟨h.own.1,?_⟩
 rcases h.own.2 with hn|⟨g,cap,cur,rfl,_,rest⟩
 ·exact .inl hn
 ·refine .inr ⟨g,cap,cur,rfl,?_,rest⟩
  rcases Nat.lt_or_ge g b with h1|h1
  ·exact absurd (h.tag g rfl) (hb g h1)
  ·exact h1
theorem Chg.below_of (h:Chg T w U w' U')(b:Nat)(hb:b<=w.heap.size)(hz:∀ i,i<b->¬ T (U i)):Below b w w':=⟨h.os,h.tape,h.output,h.size,fun k hk=>h.block k (by omega) (hz k hk)⟩
theorem Rw.reown (h:Rw w U t e size v n xs)(hU:∀ k,k<w.heap.size->U' k=U k):Rw w U' t e size v n xs:=⟨h.own,fun g hg=>(hU g (h.own.lt g hg).2).trans (h.tag g hg)⟩
theorem Has.reown {g:Nat}{ty:TypeId}{cs:Array Value}(h:Has w U t g ty cs)(hU:∀ k,k<w.heap.size->U' k=U k):Has w U' t g ty cs:=⟨h.blk,(hU g h.lt).trans h.own⟩
end
section
variable {P : Program} (w : World)
theorem run_append_row (U:Own)(t:Nat)(st ty e:TypeId)(i:TypeInfo)(z:Value)(size bytes:Nat)(ht:P.underlying st=some (.slice e))(hi:P.info? e=some i)(hz:i.zero=some z)
 (hsize:i.size=size)(hby:i.bytes=bytes)(hzs:z.cells.size=size)(hs0:0<size)
 (v:Value)(n:Nat)(xs:List Value)(hown:Rw w U t e size v n xs)
 (A:Option Addr)(m c:Nat)(news:List Value)(hm:news.length=m*size)(hr:Sl w A news)(hA:A=none->m=0)(h1:∀ u∈news,u.oneCell'=true)
 (h63:n+m<=1073741824)(hbs:bytes<=65536) :
 ∃ v' w',(Builtin.append_ #[st,st] ty #[v,.slice A m c]).run P w=.ok v' w'/\Rw w' (ext U w t) t e size v' (n+m) (xs++news)/\Chg (· = t) w U w' (ext U w t):=by
 have hbytes:(n+m)*bytes<=140737488355328:=by
  have:=Nat.mul_le_mul h63 hbs;omega
 have hml:n+m<=maxLen:=by unfold maxLen;omega
 by_cases h0:m=0
 ·subst h0
  have hn:news=[]:=List.eq_nil_of_length_eq_zero (by simpa using hm);subst hn
  have hR:Rw w (ext U w t) t e size v (n+0) (xs++[]):=by
   have:=hown.reown (U':=ext U w t) (fun k hk=>ext_old hk)
   simpa using this
  cases A with
  | none=>exact⟨v,w,run_append_nilN w 0 st ty e i size ht hi v n xs hown.own c,hR,(Chg.refl _ _ _).ext t⟩
  | some a=>
   obtain⟨v',w',hrun,h2,h3,_,h5⟩:=run_append_own_at (P:=P) w 0 st ty e i z size bytes ht hi hz hsize hby hzs hs0 v n xs hown.own a 0 c [] (by simp) (by simp) (by simp) hml hbytes (Nat.zero_le _);refine⟨v',w',hrun,⟨h2,fun g hg=>?_⟩,(Chg.grown (Chg.refl _ _ _) h3 (fun k hk=>.inr (hown.tag k hk))).ext t⟩
   rcases h5 with h5|h5
   ·rw[h5]at hg
    rw[ext_old (hown.own.lt g hg).2];exact hown.tag g hg
   ·rw[h5]at hg
    injection hg with hg
    subst hg;exact ext_new (Nat.le_refl _)
 ·cases A with
  | none=>exact absurd (hA rfl) h0
  | some a=>
   have hcells:∀ j u,news[j]? = some u->w.cell? (a.add j)=some u:=by
    intro j u hu;obtain⟨b,off,h,hc⟩:=hr (by intro e;subst e;simp at hu)
    injection h with h
    subst h;rw[add_none];exact hc j u hu
   obtain⟨v',w',hrun,h2,h3,_,h5⟩:=run_append_own_at (P:=P) w 0 st ty e i z size bytes ht hi hz hsize hby hzs hs0 v n xs hown.own a m c news hm hcells h1 hml hbytes (Nat.zero_le _);refine⟨v',w',hrun,⟨h2,fun g hg=>?_⟩,(Chg.grown (Chg.refl _ _ _) h3 (fun k hk=>.inr (hown.tag k hk))).ext t⟩
   rcases h5 with h5|h5
   ·rw[h5]at hg
    rw[ext_old (hown.own.lt g hg).2];exact hown.tag g hg
   ·rw[h5]at hg
    injection hg with hg
    subst hg;exact ext_new (Nat.le_refl _)
theorem wp_append_row {o:Oper}{a:Act}{K:Act->World->Prop}{Q:Exit->Act->World->Prop}(s x:Operand)(st:TypeId)
 (ho:o.op=.call { callee:=.builtin .append,args:=#[s,x],argTypes:=#[st,st] })
 (U:Own)(t:Nat)(e:TypeId)(i:TypeInfo)(z:Value)(size bytes:Nat)(ht:P.underlying st=some (.slice e))(hi:P.info? e=some i)(hz:i.zero=some z)
 (hsize:i.size=size)(hby:i.bytes=bytes)(hzs:z.cells.size=size)(hs0:0<size)
 (v:Value)(n:Nat)(xs:List Value)(hs:a.eval s=v)(hown:Rw w U t e size v n xs)
 (A:Option Addr)(m c:Nat)(news:List Value)(hx:a.eval x=.slice A m c)(hm:news.length=m*size)(hr:Sl w A news)(hA:A=none->m=0)(h1:∀ u∈news,u.oneCell'=true)
 (h63:n+m<=1073741824)(hbs:bytes<=65536)
 (h:∀ v' w',Rw w' (ext U w t) t e size v' (n+m) (xs++news)->Chg (· = t) w U w' (ext U w t)->K (a.put o.dst v') w'):o.wp P a w K Q:=by
 obtain⟨v',w',hr,h2,h3⟩:=run_append_row (P:=P) w U t st o.type e i z size bytes ht hi hz hsize hby hzs hs0 v n xs hown A m c news hm hr hA h1 h63 hbs;unfold Oper.wp execOp;simp only[ho,resolve,invoke,builtin,Sem.run_bind,Sem.run_pure,Result.andThen_ok,List.map_toArray,List.map_cons,List.map_nil,hs,hx,hr];exact h v' w' h2 h3
theorem wpList_append_row {ops:Array Oper}{rest:List Oper}{o:Oper}{a:Act}{Q:Exit->Act->World->Prop}(hgd:o.guard=none)(s x:Operand)(st:TypeId)
 (ho:o.op=.call { callee:=.builtin .append,args:=#[s,x],argTypes:=#[st,st] })
 (U:Own)(t:Nat)(e:TypeId)(i:TypeInfo)(z:Value)(size bytes:Nat)(ht:P.underlying st=some (.slice e))(hi:P.info? e=some i)(hz:i.zero=some z)
 (hsize:i.size=size)(hby:i.bytes=bytes)(hzs:z.cells.size=size)(hs0:0<size)
 (v:Value)(n:Nat)(xs:List Value)(hs:a.eval s=v)(hown:Rw w U t e size v n xs)
 (A:Option Addr)(m c:Nat)(news:List Value)(hx:a.eval x=.slice A m c)(hm:news.length=m*size)(hr:Sl w A news)(hA:A=none->m=0)(h1:∀ u∈news,u.oneCell'=true)
 (h63:n+m<=1073741824)(hbs:bytes<=65536)
 (h:∀ v' w',Rw w' (ext U w t) t e size v' (n+m) (xs++news)->Chg (· = t) w U w' (ext U w t)->wpList P ops Q rest (a.put o.dst v') w'):wpList P ops Q (o :: rest) a w:=
 wpList_plain hgd fun _ hK=>wp_append_row w s x st ho U t e i z size bytes ht hi hz hsize hby hzs hs0 v n xs hs hown A m c news hx hm hr hA h1 h63 hbs fun v' w' h2 h3=>hK _ _ (h v' w' h2 h3)
theorem step_append_row {ops:Array Oper}{o:Oper}{a:Act}{K:Act->World->Prop}{Q:Exit->Act->World->Prop}{E:Prop}(hgd:o.guard=none)(s x:Operand)(st:TypeId)
 (ho:o.op=.call { callee:=.builtin .append,args:=#[s,x],argTypes:=#[st,st] })
 (U:Own)(t:Nat)(e:TypeId)(i:TypeInfo)(z:Value)(size bytes:Nat)(ht:P.underlying st=some (.slice e))(hi:P.info? e=some i)(hz:i.zero=some z)
 (hsize:i.size=size)(hby:i.bytes=bytes)(hzs:z.cells.size=size)(hs0:0<size)
 (v:Value)(n:Nat)(xs:List Value)(hs:a.eval s=v)(hown:Rw w U t e size v n xs)
 (A:Option Addr)(m c:Nat)(news:List Value)(hx:a.eval x=.slice A m c)(hm:news.length=m*size)(hr:Sl w A news)(hA:A=none->m=0)(h1:∀ u∈news,u.oneCell'=true)
 (h63:n+m<=1073741824)(hbs:bytes<=65536)
 (h:∀ v' w',Rw w' (ext U w t) t e size v' (n+m) (xs++news)->Chg (· = t) w U w' (ext U w t)->K (a.put o.dst v') w') :
 if Region.wanted o (yielded ops a.tmps)=true then Oper.wp P o a w K Q else E:=by
 have hw:Region.wanted o (yielded ops a.tmps)=true:=by simp[Region.wanted,hgd]
 rw[if_pos hw];exact wp_append_row w s x st ho U t e i z size bytes ht hi hz hsize hby hzs hs0 v n xs hs hown A m c news hx hm hr hA h1 h63 hbs h
end
structure NodesOk (ns:List Nat):Prop where
 ne:0<ns.length
 le:ns.length<=5
 each:∀ i (h:i<ns.length),1<=ns[i]/\ns[i]<=5
 inc:∀ i (h:i+1<ns.length),ns[i]<ns[i+1]
theorem nnums_get (ns:List Nat)(i:Nat)(h:i<ns.length):(nnums ns)[i]? = some (.int .i64 (ns[i]:Int)):=by simp[nnums,h]
theorem may72 (w:World)(A:Option Addr)(n c:Nat)(ns:List Nat)(hs:Sl w A (nnums ns))(hn:ns.length=n)(hok:NodesOk ns) :
 Calls Tryz.prog 72 #[.slice A n c] w fun e w'=>e=.returned (.bool true)/\w'=w:=by
 have HOK:=hid hok;have h1:=hok.ne;have h2:=hok.le;obtain⟨b,o,rfl,hc⟩:=hs (by intro e;simp[nnums]at e;subst e;simp at h1);have HC:Hid (∀ i (h:i<ns.length),w.cell? ⟨b,o+i,none⟩=some (.int .i64 (ns[i]:Int))):=hid fun i h=>hc i _ (nnums_get ns i h)
 have k0:(0:Int)<(n:Int):=by omega
 have k00:0<n:=by omega
 clear hs hok hc;go_enter Tryz.func72,Tryz.ntmps72
 go_wp2
 go_loop [7] (fun i=>∃ k:Nat,k<=n/\i=.int .i64 (k:Int)) (fun i=>n-(intOf i).toNat)
 case atStart=>exact⟨0,Nat.zero_le _,rfl⟩
 case round=>
  obtain⟨k,hk,rfl⟩:=hrel
  by_cases hlt:k<n
  ·have hkl:k<ns.length:=by omega
   have c0:=HC.out k hkl;obtain⟨e1,e2⟩:=HOK.out.each k hkl;generalize hz:ns[k]=z at *
   have k1:(k:Int)<(n:Int):=by omega
   have k2:(0:Int)<=(k:Int):=by omega
   have k3:¬ ((z:Int)<1):=by omega
   have k4:¬ ((5:Int)<(z:Int)):=by omega
   by_cases hk0:k=0
   ·subst hk0
    rw[Nat.add_zero]at c0
    go_wp2
    go_round
    case rel=>exact⟨1,by omega,rfl⟩
    case measure=>simp[intOf];omega
   ·obtain⟨j,rfl⟩:∃ j,k=j+1:=⟨k-1,by omega⟩
    have hi:=HOK.out.inc j hkl;rw[hz]at hi;have c1:=HC.out j (by omega);generalize ns[j]=y at *
    have j1:(0:Int)<(j:Int)+1:=by omega
    have j2:(j:Int)<(n:Int):=by omega
    have j3:(0:Int)<=(j:Int):=by omega
    have j4:¬ ((z:Int)<=(y:Int)):=by omega
    have j5:(j:Int)<=5:=by omega
    go_wp2
    go_round
    case rel=>exact⟨j+1+1,by omega,by go_num⟩
    case measure=>simp[intOf];omega
  ·obtain rfl:k=n:=by omega
   go_wp2
   go_ret;exact⟨rfl,rfl⟩
def lessP (a b:Nat × Nat):Bool:=decide (a.1<b.1\/a.1=b.1/\a.2<b.2)
def encP (x:Nat × Nat):List Value:=[.int .u64 (x.1:Int),.int .i64 (x.2:Int)]
def cmpP (a b:Nat × Nat):Int:=if lessP a b then -1 else if lessP b a then 1 else 0
theorem less266 (w:World)(a b:Nat × Nat):Calls Tryz.prog 266 #[.agg #[.int .u64 (a.1:Int),.int .i64 (a.2:Int)],.agg #[.int .u64 (b.1:Int),.int .i64 (b.2:Int)]] w fun e w'=>e=.returned (.bool (lessP a b))/\w'=(w.alloc (.cells #[.int .u64 (a.1:Int),.int .i64 (a.2:Int)] 170)).alloc (.cells #[.int .u64 (b.1:Int),.int .i64 (b.2:Int)] 170):=by
 obtain⟨a1,a2⟩:=a;obtain⟨b1,b2⟩:=b;dsimp only
 by_cases h1:a1<b1
 ·have k1:(a1:Int)<(b1:Int):=by omega
  have HR:Hid (lessP (a1,a2) (b1,b2)=true):=hid (by simp[lessP,h1]);go_enter Tryz.func266,Tryz.ntmps266
  go_wp2
  go_ret;exact⟨by rw[HR.out];rfl,rfl⟩
 ·have k1:¬ ((a1:Int)<(b1:Int)):=by omega
  by_cases h2:a1=b1
  ·subst h2
   have HR:Hid (lessP (a1,a2) (a1,b2)=decide (a2<b2)):=hid (by simp[lessP]);go_enter Tryz.func266,Tryz.ntmps266
   go_wp2
   go_ret;exact⟨by rw[HR.out];rfl,rfl⟩
  ·have k2:((a1:Int) == (b1:Int))=false:=by rw[beq_eq_false_iff_ne];omega
   have k3:¬ ((a1:Int)=(b1:Int)):=by omega
   have HR:Hid (lessP (a1,a2) (b1,b2)=false):=hid (by simp[lessP,h1,h2]);go_enter Tryz.func266,Tryz.ntmps266
   go_wp2
   go_ret;exact⟨by rw[HR.out];rfl,rfl⟩
theorem swoP:∀ x y z:Nat × Nat,(lessP x x=false)/\(lessP x y=true->lessP y z=true->lessP x z=true)/\(lessP x y=false->lessP y z=false->lessP x z=false):=by
 intro x y z;simp only[lessP,decide_eq_true_eq,decide_eq_false_iff_not];omega
structure Ch1 (W0:World)(i:Nat)(P1:World->Prop)(L:Nat->Bool)(wx:World):Prop where
 n:L i=false->wx=W0
 f:L i=true->P1 wx
section
variable {W0 wx w1 : World} {i j k : Nat} {P1 P1' P2 P2' P3 P3' : World -> Prop} {L : Nat -> Bool}
structure Ch2 (W0:World)(i j:Nat)(P1 P2:World->Prop)(L:Nat->Bool)(wx:World):Prop where
 n:L i=false->wx=W0
 m:L i=true->L j=false->P1 wx
 f:L j=true->P2 wx
 o:L j=true->L i=true
structure Ch3 (W0:World)(i j k:Nat)(P1 P2 P3:World->Prop)(L:Nat->Bool)(wx:World):Prop where
 n:L i=false->wx=W0
 m:L i=true->L j=false->P1 wx
 q:L j=true->L k=false->P2 wx
 f:L k=true->P3 wx
 o:L j=true->L i=true
 o':L k=true->L j=true
end
theorem fresh (w:World)(U:Own):∃ x,∀ i,i<w.heap.size->U i≠x:=by
 have key:∀ n,∃ x,∀ i,i<n->U i<x:=by
  intro n
  induction n with
  | zero=>exact⟨0,fun i hi=>by omega⟩
  | succ n ih=>
   obtain⟨x,hx⟩:=ih;refine⟨x+U n+1,fun i hi=>?_⟩
   by_cases h:i=n
   ·subst h;omega
   ·have:=hx i (by omega);omega
 obtain⟨x,hx⟩:=key w.heap.size;exact⟨x,fun i hi=>by have:=hx i hi;omega⟩
theorem fresh95 (w:World)(U:Own):∃ x,x%96=95/\∀ i,i<w.heap.size->U i≠x:=by
 have key:∀ n,∃ x,∀ i,i<n->U i<x:=by
  intro n
  induction n with
  | zero=>exact⟨0,fun i hi=>by omega⟩
  | succ n ih=>
   obtain⟨x,hx⟩:=ih;refine⟨x+U n+1,fun i hi=>?_⟩
   by_cases h:i=n
   ·subst h;omega
   ·have:=hx i (by omega);omega
 obtain⟨x,hx⟩:=key w.heap.size;exact⟨x*96+95,by omega,fun i hi=>by have:=hx i hi;omega⟩
theorem Chg.fresh {T T':Nat->Prop}{w w':World}{U U':Own}(h:Chg T' w U w' U')(hT:∀ i,i<w.heap.size->T' (U i)->T (U i)):Chg T w U w' U':=
 ⟨h.os,h.tape,h.output,h.size,fun k hk hn=>h.block k hk (fun e=>hn (hT k hk e)),h.own⟩
section
variable {P : Program} {ops : Array Oper} {Q : Exit -> Act -> World -> Prop}
end
section
variable {P : Program} {ops : Array Oper} {o : Oper} {a : Act} {K : Act -> World -> Prop} {Q : Exit -> Act -> World -> Prop} {w : World} {E : Prop}
theorem step_copy (hgd:o.guard=none)(d s:Operand)(dT sT:TypeId)(ho:o.op=.call { callee:=.builtin .copy,args:=#[d,s],argTypes:=#[dT,sT] })(vd vs v:Value)(w':World)
 (hd:a.eval d=vd)(hs:a.eval s=vs)(hrun:(Builtin.copy_ #[dT,sT] o.type #[vd,vs]).run P w=.ok v w')(h:K (a.put o.dst v) w') :
 if Region.wanted o (yielded ops a.tmps)=true then o.wp P a w K Q else E:=by
 have hw:Region.wanted o (yielded ops a.tmps)=true:=by simp[Region.wanted,hgd]
 rw[if_pos hw];unfold Oper.wp execOp;simp only[ho,resolve,invoke,builtin,Sem.run_bind,Sem.run_pure,Result.andThen_ok,List.map_toArray,List.map_cons,List.map_nil,hd,hs,hrun];exact h
end
section
variable {P : Program} {ops : Array Oper} {o : Oper} {a : Act} {K : Act -> World -> Prop} {Q : Exit -> Act -> World -> Prop} {w : World} {E : Prop}
end
theorem all_any (w:World)(b off len c q:Nat)(n1 n2:Nat)(h1:n1<64)(h2:n2<64)(hl:2<=len)(hlc:len<=c)(p1 p2:Addr)(x1 x2:Int)
 (hb1:w.cell? ⟨b,off,none⟩=some (.int .u8 ((2*n1:Nat):Int)))(hb2:w.cell? ⟨b,off+1,none⟩=some (.int .u8 ((2*n2:Nat):Int)))
 (hq1:w.cell? ⟨q,0,none⟩=some (.pointer (some p1)))(hq2:w.cell? ⟨q,1,none⟩=some (.pointer (some p2)))
 (hp1:w.cell? p1=some (.int .i64 x1))(hp2:w.cell? p2=some (.int .i64 x2))(hf1:w.frozen? p1=false)(hf2:w.frozen? p2=false)
 (hbp:b≠p1.block)(hqp:q≠p1.block)(hpp:p1≠p2) :
 Calls Tryz.prog 124 #[.slice (some ⟨b,off,none⟩) len c,.slice (some ⟨q,0,none⟩) 2 2] w fun e w'=>e=.returned (.tuple #[.int .i64 2,.int .i64 0])/\w'=(w.setCell p1 (.int .i64 n1)).setCell p2 (.int .i64 n2):=by
 obtain⟨W1,hW1⟩:∃ W,W=w.setCell p1 (.int .i64 n1):=⟨_,rfl⟩;obtain⟨W2,hW2⟩:∃ W,W=W1.setCell p2 (.int .i64 n2):=⟨_,rfl⟩
 have d1:W1.cell? ⟨b,off+1,none⟩=some (.int .u8 ((2*n2:Nat):Int)):=by
  rw[hW1,World.cell?_setCell_other _ _ _ _ (by rintro rfl;exact hbp rfl)];exact hb2
 have d2:W1.cell? ⟨q,1,none⟩=some (.pointer (some p2)):=by
  rw[hW1,World.cell?_setCell_other _ _ _ _ (by rintro rfl;exact hqp rfl)];exact hq2
 have d3:W1.cell? p2=some (.int .i64 x2):=by
  rw[hW1,World.cell?_setCell_other _ _ _ _ hpp];exact hp2
 have d4:W1.frozen? p2=false:=by rw[hW1,World.frozen?_setCell];exact hf2
 have HH:=hid hW2;have HW:=hid hW1;rw[<- hW1,<- hW2];clear hb2 hq2 hp2 hf2 hW1 hW2
 have k1:(1:Int)<=(len:Int):=by omega
 have hl':¬ len<1:=by omega
 have hc1:¬ c<1:=by omega
 go_enter Tryz.func124,Tryz.ntmps124
 go_wp2
 go_loopw [6,14] (fun a i wr=>(a=.int .i64 0/\i=.int .i64 0/\wr=w)\/(a=.int .i64 1/\i=.int .i64 1/\wr=W1)\/(a=.int .i64 2/\i=.int .i64 2/\wr=W2)) (fun _ i _=>2-(intOf i).toNat)
 case atStart=>exact .inl ⟨rfl,rfl,rfl⟩
 case round=>
  rcases hrel with ⟨rfl,rfl,rfl⟩|⟨rfl,rfl,rfl⟩|⟨rfl,rfl,rfl⟩
  ·go_wp2_with fail
   refine(getN_any wr b off len c n1 h1 (by omega) hb1).mono ?_;rintro e w' ⟨rfl,rfl⟩
   go_wp2
   go_roundw
   case rel=>exact .inr (.inl ⟨rfl,rfl,HW.out.symm⟩)
   case measure=>simp[intOf]
  ·go_wp2_with fail
   refine(getN_any wr b (off+1) (len-1) (c-1) n2 h2 (by omega) d1).mono ?_;rintro e w' ⟨rfl,rfl⟩
   go_wp2
   go_roundw
   case rel=>exact .inr (.inr ⟨rfl,rfl,HH.out.symm⟩)
   case measure=>simp[intOf]
  ·go_wp2
   go_ret2
   exact⟨rfl,rfl⟩
theorem all124 (w:World)(b len c q m:Nat)(ns:Nat->Nat)(ps:Nat->Addr)(Ws:Nat->World)(hl:m<=len)(hlc:len<=c)(hm:m<=10)(hc9:c<=9223372036854775807)(h0:Ws 0=w)
 (h:∀ k,k<m->ns k<64/\(Ws k).cell? ⟨b,k,none⟩=some (.int .u8 ((2*ns k:Nat):Int))/\(Ws k).cell? ⟨q,k,none⟩=some (.pointer (some (ps k)))/\(∃ x,(Ws k).cell? (ps k)=some (.int .i64 x))/\(Ws k).frozen? (ps k)=false/\Ws (k+1)=(Ws k).setCell (ps k) (.int .i64 (ns k:Int))) :
 Calls Tryz.prog 124 #[.slice (some ⟨b,0,none⟩) len c,.slice (some ⟨q,0,none⟩) m m] w fun e w'=>e=.returned (.tuple #[.int .i64 (m:Int),.int .i64 0])/\w'=Ws m:=by
 have H:=hid (And.intro h (And.intro h0 (And.intro hl hlc)))
 have km:(m:Int)<=10:=by omega
 have kl:(m:Int)<=(len:Int):=by omega
 have kc:(len:Int)<=(c:Int):=by omega
 have kc9:(c:Int)<=9223372036854775807:=by omega
 clear h h0 hl hlc;go_enter Tryz.func124,Tryz.ntmps124
 go_wp2
 go_loopw [6,14] (fun a i wr=>∃ k:Nat,k<=m/\a=.int .i64 (k:Int)/\i=.int .i64 (k:Int)/\wr=Ws k) (fun _ i _=>m-(intOf i).toNat)
 case atStart=>exact⟨0,Nat.zero_le _,rfl,rfl,H.out.2.1.symm⟩
 case round=>
  obtain⟨k,hk,rfl,rfl,rfl⟩:=hrel
  by_cases hlt:k<m
  ·obtain⟨h1,h2,h3,⟨x,h4⟩,h5,h6⟩:=H.out.1 k hlt
   have hll:=H.out.2.2
   have k1:(k:Int)<(m:Int):=by omega
   have k2:(0:Int)<=(k:Int):=by omega
   have k3:(k:Int)<=(len:Int):=by omega
   have k4:(k:Int)<=10:=by omega
   have k5:c≠k:=by omega
   have k6:len≠k:=by omega
   have k7:¬ c=k:=k5
   have k8:(k:Int)<=(c:Int):=by omega
   have HG:=hid (getN_any (Ws k) b k (len-k) (c-k) (ns k) h1 (by omega) h2);have H6:=hid h6;generalize ps k=p at *;have HL:=hid hll;clear h2 h6 h1 hll;generalize ns k=z at *
   go_wp2_with fail
   refine HG.out.mono ?_;rintro e w' ⟨rfl,rfl⟩;clear HG
   go_wp2_with fail
   go_roundw
   case rel=>exact⟨k+1,by omega,by go_num,by go_num,H6.out.symm⟩
   case measure=>simp[intOf];omega
  ·obtain rfl:k=m:=by omega
   go_wp2
   go_ret2
   exact⟨rfl,rfl⟩
theorem below_drewN {B:Nat}{w w':World}(h:Below B w w')(n:Nat):Below B w (w'.drewN n):=⟨h.os,h.tape,h.output,h.size,h.block⟩
theorem own_flat {α:Type}{f:α->List Value}{C:Nat}{w:World}{base:Nat}{e:TypeId}{v:Value}{os:List α}(h:w.ownsRow base e C v os.length (os.flatMap f)) :
 ∃ A c,v=.slice A os.length c/\os.length<=c/\c<=maxLen/\Sl w A (os.flatMap f)/\(∀ a,A=some a->base<=a.block/\a.block<w.heap.size):=by
 rcases h.2 with ⟨h1,h2⟩|⟨g,cap,cur,h1,h2,h3,h4,h5,_⟩
 ·obtain rfl:os=[]:=List.eq_nil_of_length_eq_zero h2
  subst h1;exact⟨none,0,rfl,Nat.le_refl _,Nat.zero_le _,Sl.nil,fun a e=>by cases e⟩
 ·refine⟨_,cap,h1,h4,h5,Sl.of_cells (h.cells (g:=g) (by rw[h1];rfl)),fun a e=>?_⟩
  cases e
  exact⟨h2,(Array.getElem?_eq_some_iff.1 h3).1⟩
def mkS (s:ByteArray):Value:=.string s
theorem keysS:Keys Tryz.prog 9 mkS .string where
 desc:=Tryz.underlying9
 same:=fun a b=>by
  show some (a == b)=some (decide (a=b));rw[bbeq]
 check:=fun empty a w=>Go.MapKept.run_checkKey Tryz.underlying9 (show MapKept.IsKey .string (.string a) from trivial) empty 9999
 bits:=fun a=>by
  unfold mkS;unfold Instr.sameBits;show(a == a)=true;rw[bbeq];simp
def ORw.cells (r:ORw):List Value:=[.int .i64 (r.pos:Int),.string r.val,.bool r.has]
structure Ents (w:World)(base M:Nat)(L:List St)(l:List (Ent ByteArray)):Prop where
 nodup:(l.map (·.1)).Nodup
 each:∀ p∈l,w.ownsRow base 137 3 p.2.1 (rowsOf p.1 L).length ((rowsOf p.1 L).flatMap ORw.cells)
 miss:∀ k,(∀ p∈l,p.1≠k)->rowsOf k L=[]
 apart:∀ p∈l,∀ q∈l,p.1≠q.1->p.2.1.ownBlock≠q.2.1.ownBlock
structure Org (w:World)(base O M:Nat)(L:List St):Prop where
 hO:base<=O
 hM:base<=M
 blk:Blk w O 132 #[.int .i64 (L.length:Int),.map (some M)]
 ex:∃ l c,MapAt w M mkS l c/\Ents w base M L l
theorem keyPos_mem {κ:Type}[DecidableEq κ](k:κ):∀ (l:List (Ent κ)) (i j:Nat) (v:Value),keyPos k l i=some (j,v)->∃ c,(k,v,c)∈l:=by
 intro l
 induction l with
 | nil=>intro i j v h;simp[keyPos]at h
 | cons p l ih=>
  intro i j v h;unfold keyPos at h
  by_cases hk:k=p.1
  ·rw[if_pos hk]at h
   simp only[Option.some.injEq,Prod.mk.injEq]at h;obtain⟨a,b,c⟩:=p;simp at hk h;exact⟨c,by rw[hk,h.2];simp⟩
  ·rw[if_neg hk]at h
   obtain⟨c,hc⟩:=ih _ _ _ h;exact⟨c,by simp[hc]⟩
theorem own_rw {w:World}{base:Nat}{v:Value}{rs:List ORw}(h:w.ownsRow base 137 3 v rs.length (rs.flatMap ORw.cells)) :
 ∃ A c,v=.slice A rs.length c/\rs.length<=c/\c<=maxLen/\Sl w A (rs.flatMap ORw.cells)/\(∀ a,A=some a->base<=a.block/\a.block<w.heap.size):=own_flat (C:=3) h
theorem Org.look {w:World}{base O M:Nat}{L:List St}(h:Org w base O M L)(k:ByteArray)(hz:(zeroValue 135).run Tryz.prog w=.ok (.slice none 0 0) w) :
 ∃ A c,(Instr.lookup 130 (.map (some M)) (.string k) false).run Tryz.prog w=.ok (.slice A (rowsOf k L).length c) w/\(rowsOf k L).length<=c/\Sl w A ((rowsOf k L).flatMap ORw.cells):=by
 obtain⟨l,c,hm,he⟩:=h.ex;have hr:=run_lookup_at (P:=Tryz.prog) keysS Tryz.underlying130 hm k (.slice none 0 0) hz false
 cases hp:keyPos k l 0 with
 | none=>
  have hmiss:=he.miss k (fun p hp' e=>((keyPos_none k l 0).1 hp p hp') e.symm);rw[hp]at hr;rw[hmiss];exact⟨none,0,hr,Nat.le_refl _,Sl.nil⟩
 | some q=>
  obtain⟨j,v⟩:=q;obtain⟨b,hb⟩:=keyPos_mem k l 0 j v hp;have ho:w.ownsRow base 137 3 v (rowsOf k L).length ((rowsOf k L).flatMap ORw.cells):=he.each _ hb;obtain⟨A,c',rfl,h1,_,h2,_⟩:=own_rw ho;rw[hp]at hr;exact⟨A,c',hr,h1,h2⟩
theorem zero135 (w:World):(zeroValue 135).run Tryz.prog w=.ok (.slice none 0 0) w:=by kernel_rfl
theorem nowO (w:World)(base O M:Nat)(L:List St)(h:Org w base O M L) :
 Calls Tryz.prog 91 #[.pointer (some ⟨O,0,none⟩)] w fun e w'=>e=.returned (.int .i64 (L.length:Int))/\w=w':=by
 have c0:w.cell? ⟨O,0,none⟩=some (.int .i64 (L.length:Int)):=h.blk.cell 0;clear h;go_enter Tryz.func91,Tryz.ntmps91
 go_wp2
 go_ret;exact⟨rfl,rfl⟩
def atF (L:List St)(pos:Int)(k:ByteArray):ByteArray × Bool:=if pos<0\/(L.length:Int)<pos then (ByteArray.empty,false) else atS L pos.toNat k
theorem atO (w:World)(base O M:Nat)(L:List St)(h:Org w base O M L)(hl:L.length<1099511627776)(pos:Int)(k:ByteArray) :
 Calls Tryz.prog 56 #[.pointer (some ⟨O,0,none⟩),.int .i64 pos,.string k] w fun e w'=>e=.returned (.tuple #[.string (atF L pos k).1,.bool (atF L pos k).2])/\∃ n,w'=w.drewN n:=by
 have c0:w.cell? ⟨O,0,none⟩=some (.int .i64 (L.length:Int)):=h.blk.cell 0;have c1:w.cell? ⟨O,1,none⟩=some (.map (some M)):=h.blk.cell 1
 by_cases h1:pos<0
 ·have HF:Hid (atF L pos k=(ByteArray.empty,false)):=hid (by unfold atF;rw[if_pos (.inl h1)])
  clear h;go_enter Tryz.func56,Tryz.ntmps56
  go_wp2
  go_ret2
  exact⟨by rw[HF.out];rfl,0,rfl⟩
 ·by_cases h2:(L.length:Int)<pos
  ·have HF:Hid (atF L pos k=(ByteArray.empty,false)):=hid (by unfold atF;rw[if_pos (.inr h2)])
   clear h;go_enter Tryz.func56,Tryz.ntmps56
   go_wp2
   go_ret2
   exact⟨by rw[HF.out];rfl,0,rfl⟩
  ·obtain⟨p,rfl⟩:∃ p:Nat,pos=p:=⟨pos.toNat,by omega⟩
   have HF:Hid (atF L (p:Int) k=lastLe p (rowsOf k L)):=hid (by unfold atF;rw[if_neg (by omega),lastLe_at];rfl);obtain⟨A,c,hrun,hc,hs⟩:=h.look k (zero135 w);have HP:=hid (rowsOf_pos k L);have hle:=rowsOf_le k L;generalize rowsOf k L=rs at *;have HS:=hid hs;clear h hs
   have hn:(0:Int)<=(rs.length:Int):=by omega
   go_enter Tryz.func56,Tryz.ntmps56
   go_wp2
   clear hrun
   go_loop [9] (fun i=>∃ m:Nat,m<=rs.length/\i=.int .i64 ((m:Int)-1)/\lastLe p rs=lastLe p (rs.take m)) (fun i=>(intOf i+1).toNat)
   case atStart=>exact⟨rs.length,Nat.le_refl _,rfl,by rw[List.take_length]⟩
   case round=>
    obtain⟨m,hm,rfl,hlast⟩:=hrel;have HL:=hid hlast;clear hlast
    cases m with
    | zero=>
     have HZ:Hid (lastLe p rs=(ByteArray.empty,false)):=hid (by rw[HL.out,List.take_zero];rfl);rw[show(((0:Nat):Int)-1) = -1 from rfl]
     go_wp2
     go_ret2
     exact⟨by rw[HF.out,HZ.out];rfl,0,rfl⟩
    | succ m=>
     have hm':m<rs.length:=by omega
     obtain⟨b,off,rfl,hcs⟩:=HS.out.flat (C:=3) (fun _=>rfl) (by decide) m hm';have HT:=hid (lastLe_snoc p (rs.take m) rs[m]);rw[<- List.take_succ_eq_append_getElem hm']at HT;have hc0':w.cell? ⟨b,off+m*3,none⟩=some (.int .i64 (rs[m].pos:Int)):=hcs 0 _ rfl;have hc1':w.cell? ⟨b,off+m*3+1,none⟩=some (.string rs[m].val):=hcs 1 _ rfl;have hc2':w.cell? ⟨b,off+m*3+2,none⟩=some (.bool rs[m].has):=hcs 2 _ rfl;generalize rs[m]=r at *;obtain⟨rp,rv,rh⟩:=r;simp only at hc0' hc1' hc2';clear hcs;rw[show(((m+1:Nat):Int)-1)=(m:Int) from by omega]
     have k1:(0:Int)<=(m:Int):=by omega
     have k2:(m:Int)<(rs.length:Int):=by omega
     by_cases hle2:rp<=p
     ·have HE:Hid (lastLe p rs=(rv,rh)):=hid (by rw[HL.out,HT.out,if_pos hle2])
      go_wp2
      go_quiet (fail)
      go_wp2
      go_ret2
      exact⟨by rw[HF.out,HE.out];rfl,_,rfl⟩
     ·have HE:Hid (lastLe p rs=lastLe p (rs.take m)):=hid (by rw[HL.out,HT.out,if_neg hle2])
      go_wp2
      exact⟨⟨m,by omega,by go_num,HE.out⟩,by simp[intOf]⟩
theorem mem_putEnt {κ:Type}[DecidableEq κ](k:κ)(v:Value)(c:Nat):∀ (l:List (Ent κ)),(l.map (·.1)).Nodup->∀ p∈putEnt k v c l,(p.1=k/\p.2.1=v)\/(p∈l/\p.1≠k):=by
 intro l
 induction l with
 | nil=>
  intro _ p hp;unfold putEnt at hp;rw[List.mem_singleton.1 hp];exact .inl ⟨rfl,rfl⟩
 | cons q l ih=>
  intro hn p hp;rw[List.map_cons,List.nodup_cons]at hn;unfold putEnt at hp
  by_cases hk:k=q.1
  ·rw[if_pos hk]at hp
   rcases List.mem_cons.1 hp with rfl|hp'
   ·exact .inl ⟨hk.symm,rfl⟩
   ·refine .inr ⟨by simp[hp'],fun e=>hn.1 ?_⟩
    rw[<- hk,<- e];exact List.mem_map.2 ⟨p,hp',rfl⟩
  ·rw[if_neg hk]at hp
   rcases List.mem_cons.1 hp with rfl|hp'
   ·exact .inr ⟨by simp,Ne.symm hk⟩
   ·rcases ih hn.2 p hp' with h|⟨h1,h2⟩
    ·exact .inl h
    ·exact .inr ⟨by simp[h1],h2⟩
theorem keys_putEnt {κ:Type}[DecidableEq κ](k:κ)(v:Value)(c:Nat):∀ (l:List (Ent κ)),(putEnt k v c l).map (·.1)=if k∈l.map (·.1) then l.map (·.1) else l.map (·.1)++[k]:=by
 intro l
 induction l with
 | nil=>rfl
 | cons q l ih=>
  unfold putEnt
  by_cases hk:k=q.1
  ·rw[if_pos hk,if_pos (by rw[hk];simp)]
   rfl
  ·rw[if_neg hk,List.map_cons,ih,List.map_cons]
   by_cases hm:k∈l.map (·.1)
   ·rw[if_pos hm,if_pos (by simp;right;simpa using hm)]
   ·rw[if_neg hm,if_neg (by rw[List.mem_cons];rintro(h|h);exact hk h;exact hm h)]
    rfl
def lookV (k:ByteArray)(l:List (Ent ByteArray)):Value:=match keyPos k l 0 with
 | some (_,v)=>v
 | none=>.slice none 0 0
theorem Org.drewN {w:World}{base O M:Nat}{L:List St}(h:Org w base O M L)(n:Nat):Org (w.drewN n) base O M L:=⟨h.hO,h.hM,h.blk,by
 obtain⟨l,c,h4,h5⟩:=h.ex
 exact⟨l,c,h4,h5.nodup,h5.each,h5.miss,h5.apart⟩⟩
def HeldF (L:List St)(k v:ByteArray)(h:Bool)(a b:Int):Prop:=∃ p:Nat,0<=(p:Int)/\a<=(p:Int)/\(p:Int)<=b/\p<=L.length/\atS L p k=(v,h)
theorem heldF_iff (L:List St)(k v:ByteArray)(h:Bool)(a b:Int)(x y:Nat)(hx:(x:Int)=max a 0)(hy:(y:Int)=min b (L.length:Int)):HeldF L k v h a b ↔ heldS L k v h x y:=by
 constructor
 ·rintro⟨p,h0,h1,h2,h3,h4⟩
  exact⟨p,by omega,by omega,h4⟩
 ·rintro⟨p,h1,h2,h4⟩
  exact⟨p,by omega,by omega,by omega,by omega,h4⟩
set_option maxRecDepth 100000 in
theorem heldO (w:World)(base O M:Nat)(L:List St)(h:Org w base O M L)(hl:L.length<1099511627)(k v:ByteArray)(hb:Bool)(a b:Int)(h1:0<=a)(h2:b<=(L.length:Int)) :
 Calls Tryz.prog 40 #[.pointer (some ⟨O,0,none⟩),.string k,.string v,.bool hb,.int .i64 a,.int .i64 b] w fun e w'=>∃ r:Bool,e=.returned (.bool r)/\(r=true ↔ HeldF L k v hb a b)/\Below w.heap.size w w':=by
 have c0:w.cell? ⟨O,0,none⟩=some (.int .i64 (L.length:Int)):=h.blk.cell 0;have c1:w.cell? ⟨O,1,none⟩=some (.map (some M)):=h.blk.cell 1;have HO:=hid h
 have HRUN:Hid (∀ q A c,(Instr.lookup 130 (.map (some M)) (.string k) false).run Tryz.prog w=.ok (.slice A (rowsOf k L).length c) w->(Instr.lookup 130 (.map (some M)) (.string k) false).run Tryz.prog (w.drewN q)=.ok (.slice A (rowsOf k L).length c) (w.drewN q)):=hid (fun q A c h1=>by
  obtain⟨A',c',h2,_⟩:=(h.drewN q).look k (zero135 _);obtain⟨l,cc,hm,he⟩:=h.ex;have e1:=run_lookup_at (P:=Tryz.prog) keysS Tryz.underlying130 hm k (.slice none 0 0) (zero135 w) false;have e2:=run_lookup_at (P:=Tryz.prog) (w:=w.drewN q) keysS Tryz.underlying130 hm k (.slice none 0 0) (zero135 _) false;unfold mkS at e1 e2;rw[h1]at e1;rw[e2]
  injection e1 with e1 _
  rw[<- e1])
 clear h;go_enter Tryz.func40,Tryz.ntmps40
 go_wp2
 go_quiet (fail)
 have hxi0:(0:Int)<=a:=by omega
 have hyin:b<=(L.length:Int):=by omega
 by_cases hft:b<a
 ·have HNO:Hid (¬ HeldF L k v hb a b):=hid (by rintro⟨p,h0,h1,h2,h3,h4⟩;omega)
  go_wp2
  go_ret;exact⟨false,rfl,by simp;exact HNO.out,below_drewN (Below.refl _ _) _⟩
 ·have HIF:Hid (HeldF L k v hb a b ↔ heldS L k v hb (a:Int).toNat (b:Int).toNat):=hid (heldF_iff L k v hb a b _ _ (by omega) (by omega))
  have HRW:=hid (held_rows L k v hb (a:Int).toNat (b:Int).toNat (by omega));have HAT:Hid (atF L a k=atS L (a:Int).toNat k):=hid (by unfold atF;rw[if_neg (by omega)])
  have hft2:a<=b:=by omega
  clear hft
  go_wp2_with fail
  refine(atO _ base O M L (HO.out.drewN _) (by omega) a k).mono ?_;rw[HAT.out];rintro e w2 ⟨rfl,n2,rfl⟩;obtain⟨r0,hr0⟩:∃ r0,atS L (a:Int).toNat k=r0:=⟨_,rfl⟩;rw[hr0]at HRW ⊢;clear hr0;obtain⟨v0,h0⟩:=r0;obtain⟨A,c,hrun,hc,hs⟩:=HO.out.look k (zero135 w);have HPOS:=hid (rowsOf_pos k L);have hle:=rowsOf_le k L;generalize rowsOf k L=rs at *;have HS:=hid hs;clear hs
  have hn:(0:Int)<=(rs.length:Int):=by omega
  by_cases hv:v0=v/\h0=hb
  ·obtain⟨rfl,rfl⟩:=hv
   have HY:Hid (HeldF L k v0 h0 a b):=hid (HIF.out.2 (HRW.out.2 (.inl rfl)));clear hrun
   have hbb:(h0 == h0)=true:=by cases h0 <;> rfl
   go_wp2
   go_ret;exact⟨true,rfl,by simp;exact HY.out,below_drewN (Below.refl _ _) _⟩
  ·have HNV:Hid (¬ ((v0,h0)=(v,hb))):=hid (fun e=>hv ⟨congrArg Prod.fst e,congrArg Prod.snd e⟩)
   have hcs:((v0.toList == v.toList)=false)\/((v0.toList == v.toList)=true/\(h0 == hb)=false):=by
    by_cases h1:v0=v
    ·right
     refine⟨by rw[h1];exact beq_self_eq_true _,?_⟩;have:h0≠hb:=fun e=>hv ⟨h1,e⟩
     cases h0 <;> cases hb <;> simp_all
    ·left
     rw[beq_eq_false_iff_ne];exact fun e=>h1 (toList_inj e)
   clear hv;have hrun2:∀ q,(Instr.lookup 130 (.map (some M)) (.string k) false).run Tryz.prog (w.drewN q)=.ok (.slice A rs.length c) (w.drewN q):=fun q=>HRUN.out q A c hrun;clear hrun
   rcases hcs with h5|⟨h5,h6⟩
   all_goals
    go_wp2
    clear hrun2
    go_loopw [52] (fun i wr=>∃ m:Nat,m<=rs.length/\i=.int .i64 m/\(∀ r∈rs.take m,¬ ((a:Int).toNat<r.pos/\r.pos<=(b:Int).toNat/\r.val=v/\r.has=hb))/\Below w.heap.size w wr) (fun i _=>rs.length-(intOf i).toNat)
    case atStart=>exact⟨0,Nat.zero_le _,rfl,by simp,below_drewN (Below.refl _ _) _⟩
    case round=>
     obtain⟨m,hm,rfl,hno,hB⟩:=hrel;have HNO:=hid hno;have HB:=hid hB;have hsz:=hB.size;clear hno hB
     by_cases hlt:m<rs.length
     ·obtain⟨bb,off,rfl,hcs⟩:=(HS.out.keep HB.out).flat (C:=3) (fun _=>rfl) (by decide) m hlt
      have hmem:rs[m]∈rs:=List.getElem_mem hlt;have HMEM:=hid hmem;have HTK:=hid (List.take_succ_eq_append_getElem hlt);have hps:=HPOS.out _ hmem;have hc0':wr.cell? ⟨bb,off+m*3,none⟩=some (.int .i64 (rs[m].pos:Int)):=hcs 0 _ rfl;have hc1':wr.cell? ⟨bb,off+m*3+1,none⟩=some (.string rs[m].val):=hcs 1 _ rfl;have hc2':wr.cell? ⟨bb,off+m*3+2,none⟩=some (.bool rs[m].has):=hcs 2 _ rfl;clear hcs hmem;generalize rs[m]=r at *;obtain⟨rp,rv,rh⟩:=r;simp only at hc0' hc1' hc2' hps;have HB2:=hid (HB.out.alloc hsz (.cells #[.int .i64 (rp:Int),.string rv,.bool rh] 137))
      have k2:(m:Int)<(rs.length:Int):=by omega
      by_cases hyes:(a:Int).toNat<rp/\rp<=(b:Int).toNat/\rv=v/\rh=hb
      ·obtain⟨y1,y2,rfl,rfl⟩:=hyes
       have HY:Hid (HeldF L k rv rh a b):=hid (HIF.out.2 (HRW.out.2 (.inr ⟨_,HMEM.out,y1,y2,rfl,rfl⟩)))
       have z1:a<(rp:Int):=by omega
       have z2:(rp:Int)<=b:=by omega
       have hbb:(rh == rh)=true:=by cases rh <;> rfl
       go_wp2
       go_ret;exact⟨true,rfl,by simp;exact HY.out,HB2.out⟩
      ·have HN2:Hid (∀ r∈rs.take (m+1),¬ ((a:Int).toNat<r.pos/\r.pos<=(b:Int).toNat/\r.val=v/\r.has=hb)):=hid (by
        rw[HTK.out];intro r hr
        rcases List.mem_append.1 hr with h|h
        ·exact HNO.out r h
        ·rw[List.mem_singleton.1 h];exact hyes)
       have hcs2:¬ a<(rp:Int)\/(a<(rp:Int)/\¬ (rp:Int)<=b)\/(a<(rp:Int)/\(rp:Int)<=b/\(rv.toList == v.toList)=false)\/(a<(rp:Int)/\(rp:Int)<=b/\(rv.toList == v.toList)=true/\(rh == hb)=false):=by
        by_cases z1:a<(rp:Int)
        ·right
         by_cases z2:(rp:Int)<=b
         ·right
          by_cases z3:rv=v
          ·right
           refine⟨z1,z2,by rw[z3];exact beq_self_eq_true _,?_⟩;have:rh≠hb:=fun e=>hyes ⟨by omega,by omega,z3,e⟩
           cases rh <;> cases hb <;> simp_all
          ·left
           refine⟨z1,z2,?_⟩;rw[beq_eq_false_iff_ne];exact fun e=>z3 (toList_inj e)
         ·exact .inl ⟨z1,z2⟩
        ·exact .inl z1
       clear hyes
       rcases hcs2 with z1|⟨z1,z2⟩|⟨z1,z2,z3⟩|⟨z1,z2,z3,z4⟩
       all_goals
        go_wp2
        first
         | exact⟨⟨m+1,by omega,by go_num,HN2.out,HB2.out⟩,by simp[intOf];omega⟩
         | omega
     ·have HNH:Hid (¬ HeldF L k v hb a b):=hid (fun e=>by
       rcases HRW.out.1 (HIF.out.1 e) with h|⟨r,hr,h1,h2,h3,h4⟩
       ·exact HNV.out h
       ·have:=HNO.out r (by rw[List.take_of_length_le (by omega)];exact hr)
        exact this ⟨h1,h2,h3,h4⟩)
      go_wp2
      go_ret;exact⟨false,rfl,by simp;exact HNH.out,HB.out⟩
end Go.Proofs.Ytlhekbjidppijaa
