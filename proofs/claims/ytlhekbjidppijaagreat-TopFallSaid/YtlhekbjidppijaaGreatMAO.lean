/- Contracts of what TopFall reaches: what each function returns and leaves in memory. Conditions: as named. -/
import Derived.BigRegion
import Derived.Test.YtlhekbjidppijaaGreatMAB
import Derived.Test.YtlhekbjidppijaaGreatMAC
import Derived.Test.YtlhekbjidppijaaGreatMAL
set_option linter.unusedVariables false
set_option linter.unusedSimpArgs false
set_option maxRecDepth 20000
set_option maxHeartbeats 8000000
namespace Go.Proofs.Ytlhekbjidppijaa
open Lib (hid)
open Go.RowKit
theorem Secs.lessF {cells:Array Value}{n:Nat}{Z:Cont}{F F':Nat->Prop}(h:Secs cells n Z F)(hF:∀ i,i<n->F' i->F i):Secs cells n Z F':=
 ⟨h.len,h.now,fun i hi=>by obtain⟨l,a,b,c,d⟩:=h.old i hi;exact⟨l,a,b,fun e=>c (hF i hi e),d⟩,fun i hi=>by obtain⟨b,c,d⟩:=h.loose i hi;exact⟨b,fun e=>c (hF i hi e),d⟩⟩
def Upto (F:Nat->Prop)(k:Nat):Nat->Prop:=fun i=>F i\/i<k
structure MF (W0:World)(U:Own)(t p A n k:Nat)(Z:Cont)(F:Nat->Prop)(b:Prop)(calls:Int)(wx:World):Prop where
 g1:Has wx U t p 197 #[.slice (some ⟨A,0,none⟩) n n,.int .i64 calls]
 ex:∃ cs,Has wx U t A 224 cs/\Secs cs n Z F/\(b->∀ j,j<64->cs[k*129+64+j]? = (bv (Z k))[j]?)
 chg:Chg (· = t) W0 U wx U
 hpA:p≠A
 hk:k<n
section
variable {W0 wx : World} {U : Own} {t p A n k : Nat} {Z : Cont} {F : Nat -> Prop} {b : Prop} {calls : Int}
theorem MF.c0 (h:MF W0 U t p A n k Z F b calls wx):wx.cell? ⟨p,0,none⟩=some (.slice (some ⟨A,0,none⟩) n n):=h.g1.cell 0
theorem MF.cb (h:MF W0 U t p A n k Z F b calls wx):∃ b,wx.cell? ⟨A,k*129+128,none⟩=some (.bool b):=by
 obtain⟨cs,h1,h2,_⟩:=h.ex;obtain⟨b,_,hb⟩:=h2.loose k h.hk;exact⟨b,(h1.cell _).trans hb⟩
theorem MF.fb (h:MF W0 U t p A n k Z F b calls wx):wx.frozen? ⟨A,k*129+128,none⟩=false:=by
 obtain⟨cs,h1,h2,_⟩:=h.ex;exact h1.frozen _
theorem MF.weak (h:MF W0 U t p A n k Z F b calls wx):MF W0 U t p A n k Z F False calls wx:=by
 obtain⟨cs,h1,h2,_⟩:=h.ex;exact⟨h.g1,⟨cs,h1,h2,fun e=>e.elim⟩,h.chg,h.hpA,h.hk⟩
theorem MF.loose (h:MF W0 U t p A n k Z (Upto F k) True calls wx):MF W0 U t p A n k Z (Upto F (k+1)) False calls (wx.setCell ⟨A,k*129+128,none⟩ (.bool false)):=by
 obtain⟨g1,⟨cs,h1,h2,h6⟩,h3,h4,h5⟩:=h;obtain⟨b,_,hb⟩:=h2.loose k h5;have hsz:=(Array.getElem?_eq_some_iff.1 hb).1;refine⟨g1.far (p:=⟨A,_,none⟩) h4 _,⟨_,h1.set_ _ _,?_,fun e=>e.elim⟩,h3.setCell (p:=⟨A,_,none⟩) h1.own _,h4,h5⟩;have up:∀ i,i≠k->Upto F (k+1) i->Upto F k i:=fun i hi h=>h.elim .inl fun h=>.inr (by omega);refine⟨h2.len,fun i hi j hj=>?_,fun i hi=>?_,fun i hi=>?_⟩
 ·rw[Array.getElem?_setIfInBounds_ne (by omega)]
  exact h2.now i hi j hj
 ·by_cases he:i=k
  ·subst he
   exact⟨Z i,(h2.len i hi).1,(h2.len i hi).2,fun _=>rfl,fun j hj=>by rw[Array.getElem?_setIfInBounds_ne (by omega)];exact h6 trivial j hj⟩
  ·obtain⟨l,a,b,c,d⟩:=h2.old i hi
   exact⟨l,a,b,fun e=>c (up i he e),fun j hj=>by rw[Array.getElem?_setIfInBounds_ne (by omega)];exact d j hj⟩
 ·by_cases he:i=k
  ·subst he
   exact⟨false,fun _=>rfl,Array.getElem?_setIfInBounds_self_of_lt hsz⟩
  ·rw[Array.getElem?_setIfInBounds_ne (by omega)]
   obtain⟨b,c,d⟩:=h2.loose i hi;exact⟨b,fun e=>c (up i he e),d⟩
theorem MF.lasts (h:MF W0 U t p A n k Z F b calls wx)(l:List Nat)(hl:l=Z k) :
 ∃ W2,(Instr.storeAt 222 (.pointer (some ⟨A,k*129+64,none⟩)) (.agg (bv l).toArray)).run Tryz.prog wx=.ok () W2/\MF W0 U t p A n k Z F True calls W2/\∀ j,j<64->W2.cell? ⟨A,k*129+j,none⟩=wx.cell? ⟨A,k*129+j,none⟩:=by
 obtain⟨g1,⟨cs,h1,h2,h6⟩,h3,h4,h5⟩:=h;obtain⟨hl64,hb⟩:=h2.len k h5;rw[<- hl]at hl64 hb
 have hlen:(bv l).length=64:=by simp[bv,hl64]
 obtain⟨b,_,hb'⟩:=h2.loose k h5;have hsz:=(Array.getElem?_eq_some_iff.1 hb').1;obtain⟨W2,hrun,hA2,hk2,hs2,ho2,ht2,hu2⟩:=run_storeAgg (P:=Tryz.prog) wx 222 A (k*129+64) 224 cs (bv l) 64 (by kernel_rfl) hlen h1.blk (by rw[hlen];omega) (by intro u hu;obtain⟨x,_,rfl⟩:=List.mem_map.1 hu;rfl)
 have get:∀ x,¬ (k*129+64<=x/\x<k*129+128)->(splice cs (k*129+64) (bv l))[x]? = cs[x]?:=by
  intro x hx;rw[splice_get _ _ _ (by rw[hlen];omega),hlen]
  by_cases hlt:x<k*129+64
  ·rw[if_pos hlt]
  ·rw[if_neg hlt,if_neg (by omega)]
 have mine:∀ j,j<64->(splice cs (k*129+64) (bv l))[k*129+64+j]? = (bv (Z k))[j]?:=fun j hj=>by
  rw[splice_get _ _ _ (by rw[hlen];omega),hlen,if_neg (by omega),if_pos (by omega),Nat.add_sub_cancel_left,hl]
 refine⟨W2,hrun,⟨⟨(hk2 p h4).trans g1.blk,g1.own⟩,⟨_,h1.agg hA2,?_,fun _=>mine⟩,h3.of_row h1.own hk2 hs2 ho2 ht2 hu2,h4,h5⟩,fun j hj=>by rw[hA2.cell,get _ (by omega),h1.cell]⟩;refine⟨h2.len,fun i hi j hj=>?_,fun i hi=>?_,fun i hi=>?_⟩
 ·rw[get _ (by omega)]
  exact h2.now i hi j hj
 ·by_cases hc:i=k
  ·subst hc
   exact⟨Z i,(h2.len i hi).1,(h2.len i hi).2,fun _=>rfl,mine⟩
  ·obtain⟨l',a,b,c,d⟩:=h2.old i hi
   exact⟨l',a,b,c,fun j hj=>by rw[get _ (by omega)];exact d j hj⟩
 ·rw[get _ (by omega)]
  exact h2.loose i hi
end
def FlS (W0:World)(U:Own)(t p A n k:Nat)(Z:Cont)(F:Nat->Prop)(b:Prop)(calls:Int)(l:List Nat)(W:World):Prop:=
 MF W0 U t p A n k Z F b calls W/\∀ j,j<64->W.cell? ⟨A,k*129+j,none⟩=(bv l)[j]?
theorem flush_any (w:World)(U:Own)(t p n:Nat)(Z:Cont)(F:Nat->Prop)(h:DevAt w U t p n Z F)(hn:n<=2048) :
 Calls Tryz.prog 133 #[.pointer (some ⟨p,0,none⟩)] w fun e w'=>e=.returned (.int .i64 0)/\DevAt w' U t p n Z Lasts/\Chg (· = t) w U w' U:=by
 obtain⟨A,calls,cells,h1,h2,h3⟩:=h.ex;have hpA:p≠A:=h1.other h2 (.inr (by decide));have c0:w.cell? ⟨p,0,none⟩=some (.slice (some ⟨A,0,none⟩) n n):=h1.cell 0;have HH:=hid (And.intro h1 (And.intro h2 h3));clear h1 h2 h3 h;go_enter Tryz.func133,Tryz.ntmps133
 go_wp2
 go_loopw [11] (fun i wr=>∃ k:Nat,k<=n/\i=.int .i64 k/\∃ cs,Has wr U t p 197 #[.slice (some ⟨A,0,none⟩) n n,.int .i64 calls]/\Has wr U t A 224 cs/\Secs cs n Z (Upto F k)/\Chg (· = t) w U wr U) (fun i _=>n-(intOf i).toNat)
 case atStart=>exact⟨0,Nat.zero_le _,rfl,cells,HH.out.1,HH.out.2.1,HH.out.2.2.lessF fun i _ h=>h.elim id fun h=>absurd h (Nat.not_lt_zero _),Chg.refl _ _ _⟩
 case round=>
  obtain⟨k,hk,rfl,cs,g1,g2,g3,g4⟩:=hrel;have d0:wr.cell? ⟨p,0,none⟩=some (.slice (some ⟨A,0,none⟩) n n):=g1.cell 0;have d1:wr.cell? ⟨p,1,none⟩=some (.int .i64 calls):=g1.cell 1;have f1:=g1.frozen 1
  by_cases hlt:k<n
  ·have k1:(k:Int)<(n:Int):=by omega
   have k2:(0:Int)<=(k:Int):=by omega
   obtain⟨b0,_,hb0⟩:=g3.loose k hlt;have e1:wr.cell? ⟨A,k*129+128,none⟩=some (.bool b0):=(g2.cell _).trans hb0;have HG:=hid (And.intro g1 (And.intro g2 (And.intro g3 g4)));clear g1 g2 g3 g4 HH
   go_wp2
   have k1:(k:Int)<(n:Int):=by omega
   have k2:(0:Int)<=(k:Int):=by omega
   obtain⟨l,hl⟩:∃ l,l=Z k:=⟨_,rfl⟩;have l1:=(HG.out.2.2.1.len k hlt).1;have l4:=HG.out.2.2.1.now k hlt;rw[<- hl]at l1 l4
   have hlen:(bv l).length=64:=by simp[bv,l1]
   have S0:Hid (FlS wr.drew U t p A n k Z (Upto F k) False calls l wr.drew):=hid ⟨⟨HG.out.1.drewN 1,⟨cs,HG.out.2.1.drewN 1,HG.out.2.2.1,fun e=>e.elim⟩,Chg.refl _ _ _,hpA,hlt⟩,fun j hj=>((HG.out.2.1.drewN 1).cell _).trans (l4 j hj)⟩
   have HLd:∀ W,FlS wr.drew U t p A n k Z (Upto F k) False calls l W->(Instr.loadAt 222 (.pointer (some ⟨A,k*129,none⟩))).run Tryz.prog W=.ok (.agg (bv l).toArray) W:=fun W hW=>
    run_loadAgg W 222 A (k*129) (bv l) 64 (by kernel_rfl) (by kernel_rfl) hlen fun j u hu=>by rw[hW.2 j (by have:=(List.getElem?_eq_some_iff.1 hu).1;omega),hu]
   have HLD:=hid HLd;have HL:=hid hl;clear HLd hl l1 l4 hlen;refine wp_region_hl [20] [0,1,2,3,4,5,6,7,8,9,10,11,12,13,14,15,16,17,18,19,20] (FlS wr.drew U t p A n k Z (Upto F k) False calls l) (by kernel_rfl) (by kernel_rfl) S0.out ?_
   iterate 17 (refine hd_take (v:=?_) rfl rfl (by kernel_rfl) (fun W hW=>?_) ?_;rotate_left;(have d0:=hW.1.c0;first|(go_simp;done)|(go_simp;with_reducible rfl)))
   refine hd_ld 222 _ rfl rfl (by kernel_rfl) rfl (.pointer (some ⟨A,k*129,none⟩)) (.agg (bv l).toArray) (by go_simp) HLD.out ?_
   iterate 2 (refine hd_take (v:=?_) rfl rfl (by kernel_rfl) (fun W hW=>?_) ?_;rotate_left;(have d0:=hW.1.c0;first|(go_simp;done)|(go_simp;with_reducible rfl)))
   obtain⟨W2,hst,hM2,hk2⟩:=S0.out.1.lasts l HL.out;refine hd_st 222 _ _ rfl rfl (by kernel_rfl) rfl rfl (.pointer (some ⟨A,k*129+64,none⟩)) (.agg (bv l).toArray) (by go_simp) (by go_simp) W2 hst ⟨hM2.weak,fun j hj=>by rw[hk2 j hj];exact S0.out.2 j hj⟩ (hd_end ?_);obtain⟨b1,cb⟩:=hM2.cb;have fb:=hM2.fb;have d0:=hM2.c0;have HM:=hid hM2.loose;clear hM2 hst hk2;simp only[zqa,zqb,zqc,zqd,Nat.zero_add,Nat.reduceAdd]
   go_wp2
   go_roundw
   case rel=>
    obtain⟨m1,⟨cs',m2,m3,_⟩,m4,_,_⟩:=HM.out;exact⟨k+1,by omega,by go_num,cs',m1,m2,m3,(HG.out.2.2.2.drewN 1).trans m4⟩
   case measure=>simp[intOf];omega
  ·obtain rfl:k=n:=by omega
   have HG:=hid (And.intro g1 (And.intro g2 (And.intro g3 g4)));clear g1 g2 g3 g4 HH
   go_wp2
   go_ret;obtain⟨g1,g2,g3,g4⟩:=HG.out;exact⟨rfl,⟨A,_,cs,⟨g1.blk.set_ 1 _,g1.own⟩,⟨g2.blk.far (p:=⟨p,1,none⟩) (Ne.symm hpA) _,g2.own⟩,g3.lessF fun i hi _=>.inr hi⟩,g4.setCell (p:=⟨p,1,none⟩) g1.own _⟩
structure Bux (ty:TypeId)(w:World)(U:Own)(t b:Nat)(l:List Nat):Prop where
 has:Has w U t b ty (bv l).toArray
 lt:∀ x∈l,x<256
section
variable {T : Nat -> Prop} {w w' : World} {U U' : Own} {t b : Nat} {ty : TypeId} {l : List Nat}
theorem Bux.keep (h:Bux ty w U t b l)(hc:Chg T w U w' U')(ht:¬ T t):Bux ty w' U' t b l:=⟨h.has.keep hc ht,h.lt⟩
theorem Bux.alloc (h:Bux ty w U t b l)(o:Obj):Bux ty (w.alloc o) U t b l:=⟨h.has.alloc o,h.lt⟩
theorem Bux.drewN (h:Bux ty w U t b l)(n:Nat):Bux ty (w.drewN n) U t b l:=⟨h.has.drewN n,h.lt⟩
theorem Bux.own (h:Bux ty w U t b l):U b=t:=h.has.own
theorem Bux.cell (h:Bux ty w U t b l)(i:Nat)(hi:i<l.length):w.cell? ⟨b,i,none⟩=some (.int .u8 ((l[i]:Nat):Int)):=by
 rw[h.has.cell];simp[bv,hi]
theorem Bux.anyc (h:Bux ty w U t b l)(i:Nat)(hi:i<l.length):∃ x:Nat,w.cell? ⟨b,i,none⟩=some (.int .u8 (x:Int)):=⟨_,h.cell i hi⟩
theorem Bux.frozen (h:Bux ty w U t b l)(i:Nat):w.frozen? ⟨b,i,none⟩=false:=h.has.frozen i
theorem Bux.set_ (h:Bux ty w U t b l)(i x:Nat)(hx:x<256):Bux ty (w.setCell ⟨b,i,none⟩ (.int .u8 (x:Int))) U t b (l.set i x):=by
 refine⟨?_,fun y hy=>?_⟩
 ·have:=h.has.set_ i (.int .u8 (x:Int))
  have e:((bv l).toArray.setIfInBounds i (.int .u8 (x:Int)))=(bv (l.set i x)).toArray:=by
   apply Array.ext';simp[bv,List.map_set]
  rw[e]at this;exact this
 ·rcases List.mem_or_eq_of_mem_set hy with hy|rfl
  ·exact h.lt y hy
  ·exact hx
theorem Bux.part (h:Bux ty w U t b l)(o n:Nat):Sl w (some ⟨b,o,none⟩) (bv ((l.drop o).take n)):=Sl.of_cells fun j u hu=>by
 rw[add_none,h.has.cell];have hj:=(List.getElem?_eq_some_iff.1 hu).1;simp[bv]at hj;rw[<- hu];simp only[bv,List.getElem?_toArray,List.getElem?_map];rw[List.getElem?_take_of_lt (by omega),List.getElem?_drop]
theorem Bux.sl (h:Bux ty w U t b l):Sl w (some ⟨b,0,none⟩) (bv l):=h.has.blk.sl
theorem bux_new (ty:TypeId)(w:World)(U:Own)(t:Nat)(l:List Nat)(hb:∀ x∈l,x<256):Bux ty (w.alloc (.cells (bv l).toArray ty)) (ext U w t) t w.heap.size l:=⟨⟨Blk.new _ _ _,ext_new (Nat.le_refl _)⟩,hb⟩
end
def zbuf:Array Value:=(bv (List.replicate 64 0)).toArray
theorem zbuf_new (w:World)(U:Own)(t:Nat):Bux 5 (w.alloc (.cells zbuf 5)) (ext U w t) t w.heap.size (List.replicate 64 0):=bux_new 5 w U t _ (fun x hx=>by rw[List.eq_of_mem_replicate hx];decide)
theorem zbuf_sl (w:World):Sl (w.alloc (.cells zbuf 5)) (some ⟨w.heap.size,0,none⟩) (bv (List.replicate 64 0)):=(Blk.new w 5 zbuf).sl
theorem make_zbuf (W:World):(Instr.makeSlice 74 (.int .i64 64) (.int .i64 64)).run Tryz.prog W=.ok (.slice (some ⟨W.heap.size,0,none⟩) 64 64) (W.alloc (.cells zbuf 5)):=by kernel_rfl
theorem byte_at (z k:Nat):(z:Int) / 2 ^ (8*k)%256=((z / 256 ^ k%256:Nat):Int):=by
 have e:(256:Nat) ^ k=2 ^ (8*k):=by rw[Nat.pow_mul]
 rw[e];simp
theorem put177 (ty:TypeId)(w:World)(U:Own)(t b o n c:Nat)(l:List Nat)(hb:Bux ty w U t b l)(hn:o+n<=l.length)(hn64:n<=8)(z:Nat) :
 Calls Tryz.prog 177 #[.slice (some ⟨b,o,none⟩) n c,.int .u64 (z:Int)] w fun e w'=>(∃ v,e=.returned v)/\Bux ty w' U t b (lay l o (be n z))/\Chg (· = t) w U w' U:=by
 have HB:=hid hb;clear hb;go_enter Tryz.func177,Tryz.ntmps177
 go_wp2
 go_loopw [7] (fun i wr=>∃ k:Nat,k<=n/\i=.int .i64 k/\Bux ty wr U t b (lay l (o+n-k) (be k z))/\Chg (· = t) w U wr U) (fun i _=>n-(intOf i).toNat)
 case atStart=>exact⟨0,Nat.zero_le _,rfl,by rw[be,lay_nil];exact HB.out,Chg.refl _ _ _⟩
 case round=>
  obtain⟨k,hk,rfl,h1,h2⟩:=hrel
  by_cases hlt:k<n
  ·have k1:(k:Int)<(n:Int):=by omega
   have k2:(0:Int)<=(n:Int)-1-(k:Int):=by omega
   have k3:(n:Int)-1-(k:Int)<(n:Int):=by omega
   have k6:(n:Int)<=64:=by omega
   have k4:(0:Int)<=8*(k:Int):=by omega
   have k5:((n:Int)-1-(k:Int)).toNat=n-1-k:=by omega
   have hc:=h1.cell (o+(n-1-k)) (by rw[lay_len (by rw[be_len];omega)];omega);have hf:=h1.frozen (o+(n-1-k));have H1:=hid h1;have H2:=hid h2;have HS:Hid (lay l (o+n-(k+1)) (be (k+1) z)=(lay l (o+n-k) (be k z)).set (o+(n-1-k)) (z / 256 ^ k%256)):=hid (by rw[lay_be_step l o n k z hlt hn];congr 1;omega);clear h1 h2
   go_wp2
   go_roundw
   case rel=>
    refine⟨k+1,by omega,by go_num,?_,H2.out.setCell (p:=⟨b,_,none⟩) H1.out.own _⟩;rw[HS.out];rw[byte_at];exact H1.out.set_ _ _ (Nat.mod_lt _ (by decide))
   case measure=>simp[intOf];omega
  ·obtain rfl:k=n:=by omega
   have H1:=hid h1;have H2:=hid h2;clear h1 h2
   go_wp2
   refine bodyPost_end (by first|rfl|(simp[results];rfl)) rfl ?_;exact⟨⟨_,rfl⟩,by have:=H1.out;rwa [Nat.add_sub_cancel]at this,H2.out⟩
theorem put246 (ty:TypeId)(w:World)(U:Own)(t b o n c:Nat)(l:List Nat)(hb:Bux ty w U t b l)(hn:o+n<=l.length)(hn64:n<=8)(z:Nat) :
 Calls Tryz.prog 246 #[.slice (some ⟨b,o,none⟩) n c,.int .u64 (z:Int)] w fun e w'=>(∃ v,e=.returned v)/\Bux ty w' U t b (lay l o (be n z))/\Chg (· = t) w U w' U:=by
 have HB:=hid hb;clear hb;go_enter Tryz.func246,Tryz.ntmps246
 go_wp2
 go_loopw [7] (fun i wr=>∃ k:Nat,k<=n/\i=.int .i64 k/\Bux ty wr U t b (lay l (o+n-k) (be k z))/\Chg (· = t) w U wr U) (fun i _=>n-(intOf i).toNat)
 case atStart=>exact⟨0,Nat.zero_le _,rfl,by rw[be,lay_nil];exact HB.out,Chg.refl _ _ _⟩
 case round=>
  obtain⟨k,hk,rfl,h1,h2⟩:=hrel
  by_cases hlt:k<n
  ·have k1:(k:Int)<(n:Int):=by omega
   have k2:(0:Int)<=(n:Int)-1-(k:Int):=by omega
   have k3:(n:Int)-1-(k:Int)<(n:Int):=by omega
   have k6:(n:Int)<=64:=by omega
   have k4:(0:Int)<=8*(k:Int):=by omega
   have k5:((n:Int)-1-(k:Int)).toNat=n-1-k:=by omega
   have hc:=h1.cell (o+(n-1-k)) (by rw[lay_len (by rw[be_len];omega)];omega);have hf:=h1.frozen (o+(n-1-k));have H1:=hid h1;have H2:=hid h2;have HS:Hid (lay l (o+n-(k+1)) (be (k+1) z)=(lay l (o+n-k) (be k z)).set (o+(n-1-k)) (z / 256 ^ k%256)):=hid (by rw[lay_be_step l o n k z hlt hn];congr 1;omega);clear h1 h2
   go_wp2
   go_roundw
   case rel=>
    refine⟨k+1,by omega,by go_num,?_,H2.out.setCell (p:=⟨b,_,none⟩) H1.out.own _⟩;rw[HS.out];rw[byte_at];exact H1.out.set_ _ _ (Nat.mod_lt _ (by decide))
   case measure=>simp[intOf];omega
  ·obtain rfl:k=n:=by omega
   have H1:=hid h1;have H2:=hid h2;clear h1 h2
   go_wp2
   refine bodyPost_end (by first|rfl|(simp[results];rfl)) rfl ?_;exact⟨⟨_,rfl⟩,by have:=H1.out;rwa [Nat.add_sub_cancel]at this,H2.out⟩
theorem copy_bux {P:Program}(w:World)(U:Own)(t:Nat)(dT sT ty:TypeId)(A off dlen dcap:Nat)(cur:List Nat)(hA:Bux 5 w U t A cur)(hu:P.underlying dT=some (.slice 5))(hsz:(P.info? 5).map (·.size)=some 1)
 (B:Option Addr)(m c:Nat)(l:List Nat)(hl:l.length=m)(hb:∀ x∈l,x<256)(hs:Sl w B (bv l))(hB:B=none->m=0/\c=0)(hfit:off+dlen<=cur.length) :
 ∃ W2,(Builtin.copy_ #[dT,sT] ty #[.slice (some ⟨A,off,none⟩) dlen dcap,.slice B m c]).run P w=.ok (goInt ((l.take dlen).length:Nat)) W2/\Bux 5 W2 U t A (lay cur off (l.take dlen))/\Chg (· = t) w U W2 U:=by
 have hcs:(bv cur).toArray.size=cur.length:=by simp[bv]
 have hlb:∀ x∈l.take dlen,x<256:=fun x hx=>hb x (List.mem_of_mem_take hx)
 cases B with
 | none=>
  obtain⟨rfl,rfl⟩:=hB rfl;obtain rfl:l=[]:=List.eq_nil_of_length_eq_zero hl;refine⟨w,?_,by rw[List.take_nil,lay_nil];exact hA,Chg.refl _ _ _⟩;rw[List.take_nil];exact run_copy_nil P w dT sT ty 5 ⟨A,off,none⟩ dlen dcap hu (by cases hq:P.info? 5 with|none=>rw[hq]at hsz;cases hsz|some i=>rfl)
 | some a=>
  have hcells:∀ j v,(bv (l.take dlen))[j]? = some v->w.cell? (a.add j)=some v:=by
   intro j u hu';have hj:=(List.getElem?_eq_some_iff.1 hu').1;simp only[bv,List.length_map,List.length_take]at hj;obtain⟨b,o,h,hc⟩:=hs (by intro e;have:=congrArg List.length e;simp[bv]at this;subst this;simp at hj)
   injection h with h
   subst h;rw[add_none];refine hc j u ?_;rw[<- hu'];unfold bv;rw[List.getElem?_map,List.getElem?_map,List.getElem?_take_of_lt (by omega)]
  have hlt:(bv (l.take dlen)).length=(l.take dlen).length:=by simp[bv]
  have hml:(l.take dlen).length=min dlen m:=by rw[List.length_take,hl]
  have hrun:=run_copy_row P w dT sT ty 5 A off dlen dcap a m c (bv cur).toArray 5 (bv (l.take dlen)) hu hsz hA.has.blk (by rw[hlt,hml,Nat.min_comm]) hcells (by rw[hlt,hcs,hml];omega) (by intro u hu;obtain⟨x,_,rfl⟩:=List.mem_map.1 hu;rfl);rw[hlt]at hrun;refine⟨_,hrun,⟨⟨?_,hA.has.own⟩,lay_lt hA.lt hlb⟩,(Chg.refl _ _ _).of_row hA.has.own ?_ ?_ rfl rfl rfl⟩
  ·have:=setRow_heap w A (bv cur).toArray ((bv cur).toArray.toList.take off++bv (l.take dlen)++(bv cur).toArray.toList.drop (off+(l.take dlen).length)).toArray 5 (0,0) hA.has.blk
   have e:((bv cur).toArray.toList.take off++bv (l.take dlen)++(bv cur).toArray.toList.drop (off+(l.take dlen).length)).toArray=(bv (lay cur off (l.take dlen))).toArray:=by
    apply Array.ext';simp[bv,lay,List.map_take,List.map_drop]
   rw[<- e];exact this
  ·intro k hk
   simp[World.setRow,Array.getElem?_modify,Ne.symm hk]
  ·simp[World.setRow]
def SuS (s d at_:Nat)(W:World):Prop:=W.cell? ⟨s,0,none⟩=some (.pointer (some ⟨d,0,none⟩))/\W.cell? ⟨s,1,none⟩=some (.int .i64 (at_:Int))
def supC (n:Nat)(l:List Nat):List Nat:=lay ((lay (List.replicate 64 0) 4 (be 8 n)).set 12 l.length) 13 l
def supB (n:Nat)(l:List Nat):List Nat:=lay (supC n l) 0 (be 4 (Plain.crc ((supC n l).drop 4)))
structure SuperAt (w:World)(U:Own)(t s d at_ tn sl:Nat):Prop where
 ex:∃ A m c,Has w U t s 238 #[.pointer (some ⟨d,0,none⟩),.int .i64 (at_:Int),.int .i64 (tn:Int),.slice A m c,.int .i64 (sl:Int)]
theorem SuperAt.keep {T:Nat->Prop}{w w':World}{U U':Own}{t s d at_ tn sl:Nat}(h:SuperAt w U t s d at_ tn sl)(hc:Chg T w U w' U')(ht:¬ T t):SuperAt w' U' t s d at_ tn sl:=by
 obtain⟨A,m,c,h1⟩:=h.ex;exact⟨A,m,c,h1.keep hc ht⟩
theorem DevAt.keep {T:Nat->Prop}{w w':World}{U U':Own}{t p n:Nat}{Z:Cont}{F:Nat->Prop}(h:DevAt w U t p n Z F)(hc:Chg T w U w' U')(ht:¬ T t):DevAt w' U' t p n Z F:=by
 obtain⟨A,calls,cells,h1,h2,h3⟩:=h.ex;exact⟨A,calls,cells,h1.keep hc ht,h2.keep hc ht,h3⟩
theorem DevAt.drewN {w:World}{U:Own}{t p n:Nat}{Z:Cont}{F:Nat->Prop}(h:DevAt w U t p n Z F)(k:Nat):DevAt (w.drewN k) U t p n Z F:=by
 obtain⟨A,calls,cells,h1,h2,h3⟩:=h.ex;exact⟨A,calls,cells,h1.drewN k,h2.drewN k,h3⟩
theorem Sl.other {T:Nat->Prop}{w w':World}{U U':Own}{A:Option Addr}{xs:List Value}(h:Sl w A xs)(hc:Chg T w U w' U')(ha:∀ a,A=some a->a.block<w.heap.size/\¬ T (U a.block)):Sl w' A xs:=by
 intro hne;obtain⟨b,off,rfl,hcs⟩:=h hne;obtain⟨h1,h2⟩:=ha _ rfl;exact⟨b,off,rfl,fun j u hu=>(World.cell?_of_block (a:=⟨b,off+j,none⟩) (hc.block b h1 h2)).trans (hcs j u hu)⟩
theorem Sl.set_ {w:World}{A:Option Addr}{xs:List Value}(h:Sl w A xs){p:Addr}(ha:∀ a,A=some a->a.block≠p.block)(u:Value):Sl (w.setCell p u) A xs:=by
 intro hne;obtain⟨b,off,rfl,hcs⟩:=h hne;refine⟨b,off,rfl,fun j v hv=>?_⟩;rw[World.cell?_setCell_other _ _ _ _ (by rintro rfl;exact ha _ rfl rfl)];exact hcs j v hv
theorem DevAt.far {w:World}{U:Own}{t p n:Nat}{Z:Cont}{F:Nat->Prop}(h:DevAt w U t p n Z F){q:Addr}(hq:U q.block≠t)(u:Value):DevAt (w.setCell q u) U t p n Z F:=by
 obtain⟨A,calls,cells,h1,h2,h3⟩:=h.ex;exact⟨A,calls,cells,h1.far (by rintro rfl;exact hq h1.own) u,h2.far (by rintro rfl;exact hq h2.own) u,h3⟩
theorem Chg.same_own {w w':World}{U:Own}(h:Below w.heap.size w w'):Chg (fun _=>False) w U w' U:=⟨h.os,h.tape,h.output,h.size,fun k hk _=>h.block k hk,fun _ _=>rfl⟩
theorem DevAt.own {w:World}{U:Own}{t p n:Nat}{Z:Cont}{F:Nat->Prop}(h:DevAt w U t p n Z F):p<w.heap.size/\U p=t:=by
 obtain⟨A,calls,cells,h1,h2,h3⟩:=h.ex;exact⟨h1.lt,h1.own⟩
theorem super134 (w:World)(U:Own)(t s d at_ tn sl td n:Nat)(Z:Cont)(F:Nat->Prop)(hS:SuperAt w U t s d at_ tn sl)(hD:DevAt w U td d n Z F)(hne:t≠td)(hn:n<=2048)(slot tn':Nat)(hat:at_+slot<n)(htn:tn'<=1000000)
 (A:Option Addr)(m c:Nat)(l:List Nat)(hl:l.length=m)(hlb:∀ x∈l,x<256)(hm:m<=40)(hs:Sl w A (bv l))(hA:A=none->m=0/\c=0)(hAt:∀ a,A=some a->a.block<w.heap.size/\U a.block≠td) :
 Calls Tryz.prog 134 #[.pointer (some ⟨s,0,none⟩),.int .i64 (slot:Int),.int .i64 (tn':Int),.slice A m c] w fun e w'=>e=.returned (.int .i64 0)/\∃ U',SuperAt w' U' t s d at_ tn' slot/\DevAt w' U' td d n (upd Z (at_+slot) (supB tn' l)) Lasts/\Chg (fun x=>x=t\/x=td) w U w' U':=by
 obtain⟨tA,tm,tc,h1⟩:=hS.ex;obtain⟨x,hx⟩:=fresh w U
 have hxt:x≠t:=by rintro rfl;exact hx _ h1.lt h1.own
 have hxd:x≠td:=by rintro rfl;exact hx _ hD.own.1 hD.own.2
 obtain⟨b,hb⟩:∃ b,b=w.heap.size:=⟨_,rfl⟩;obtain⟨U1,hU1⟩:∃ U1,U1=ext U w x:=⟨_,rfl⟩;obtain⟨W1,hW1⟩:∃ W,W=w.alloc (.cells zbuf 5):=⟨_,rfl⟩;have hmk:∀ W:World,(Instr.makeSlice 74 (.int .i64 64) (.int .i64 64)).run Tryz.prog W=.ok (.slice (some ⟨W.heap.size,0,none⟩) 64 64) (W.alloc (.cells zbuf 5)):=make_zbuf;have HB1:Hid (Bux 5 W1 U1 x b (List.replicate 64 0)):=hid (by rw[hW1,hU1,hb];exact zbuf_new w U x);have HC1:Hid (Chg (fun _=>False) w U W1 U1):=hid (by rw[hW1,hU1];exact((Chg.refl _ w U).alloc _).ext x);have HH:=hid (h1.keep HC1.out id);have HD:=hid (hD.keep HC1.out id);have HS1:Hid (Sl W1 A (bv l)):=hid (hs.keep (HC1.out.below));have HAt:Hid (∀ a,A=some a->a.block<w.heap.size/\U1 a.block≠td):=hid (fun a ha=>⟨(hAt a ha).1,by rw[HC1.out.own _ (hAt a ha).1];exact(hAt a ha).2⟩);have HX:=hid hx;have HS0:=hid hs;have HAt0:Hid (∀ a,A=some a->a.block<w.heap.size/\¬ (U a.block=x\/U a.block=td)):=hid (fun a ha=>⟨(hAt a ha).1,fun h=>h.elim (hx _ (hAt a ha).1) (hAt a ha).2⟩)
 have k1:(0:Int)<=(m:Int):=by omega
 have k2:(m:Int)<=40:=by omega
 have k3:¬ ((tn':Int)<0):=by omega
 clear h1 hS hD hs hAt hx;go_enter Tryz.func134,Tryz.ntmps134
 go_wp2_with fail
 rw[<- hW1,<- hb];refine(put177 5 W1 U1 x b 4 8 60 _ HB1.out (by decide) (by decide) tn').mono ?_;rintro e W2 ⟨⟨v2,rfl⟩,hb2,hc2⟩;obtain⟨L1,hL1⟩:∃ L,L=lay (List.replicate 64 0) 4 (be 8 tn'):=⟨_,rfl⟩
 have hl1:L1.length=64:=by rw[hL1,lay_len (by rw[be_len];decide)];rfl
 rw[<- hL1]at hb2;obtain⟨y12,hcell12⟩:=hb2.anyc 12 (by omega);have hf12:=hb2.frozen 12;have HB2:=hid hb2;have HC2:=hid hc2;clear hb2 hc2 hW1 hb hU1
 have hm256:m<256:=by omega
 obtain⟨W3,hrun,hb3,hc3⟩:=copy_bux (P:=Tryz.prog) (W2.setCell ⟨b,12,none⟩ (.int .u8 (m:Int))) U1 x 74 74 3 b 13 51 51 _ (HB2.out.set_ 12 m hm256) (by kernel_rfl) (by kernel_rfl) A m c l hl hlb (Sl.set_ (HS1.out.other HC2.out (fun a ha=>⟨by have:=(HAt.out a ha).1;have:=HC1.out.size;omega,by intro e;exact HX.out _ (HAt.out a ha).1 ((HC1.out.own _ (HAt.out a ha).1).symm.trans e)⟩)) (fun a ha e=>HX.out _ (HAt.out a ha).1 (by rw[<- HC1.out.own _ (HAt.out a ha).1];show U1 a.block=x;rw[e];exact HB2.out.own)) _) hA (by rw[List.length_set];omega);rw[List.take_of_length_le (by omega)]at hrun hb3;rw[hl]at hrun;obtain⟨L3,hL3⟩:∃ L,L=lay (L1.set 12 m) 13 l:=⟨_,rfl⟩
 have hl3:L3.length=64:=by rw[hL3,lay_len (by rw[List.length_set];omega),List.length_set,hl1]
 rw[<- hL3]at hb3
 have hC3:L3=supC tn' l:=by rw[hL3,hL1,<- hl];rfl
 obtain⟨ll,hll⟩:∃ ll,ll=L3.drop 4:=⟨_,rfl⟩;obtain⟨X,hX⟩:∃ X,X=Plain.crc ll:=⟨_,rfl⟩;have HL:Hid (ll.length=60/\(∀ x∈ll,x<256)/\(L3.drop 4).take 60=ll/\L3.length=64):=hid ⟨by rw[hll,List.length_drop,hl3],fun x hx=>hb3.lt x (List.mem_of_mem_drop (by rw[<- hll];exact hx)),by rw[List.take_of_length_le (by rw[List.length_drop];omega),hll],hl3⟩;have HSB:Hid (lay L3 0 (be 4 X)=supB tn' l):=hid (by rw[hX,hll,hC3];rfl);have HXX:Hid (X=Plain.crc ll):=hid hX
 have hX4:X<4294967296:=by rw[hX];unfold Plain.crc;omega
 have hXw:IntKind.u64.wrap (X:Int)=(X:Int):=IntWalk.u64_in _ ⟨by omega,by omega⟩;have HB3:=hid hb3;have HC3:Hid (Chg (· = x) W1 U1 W3 U1):=hid ((HC2.out.setCell (p:=⟨b,12,none⟩) HB2.out.own _).trans hc3);clear hb3 hc3 HC2 HB2 hL1 hl1 hL3 hl3 hC3 hll hX
 go_wp2_with fail
 clear hcell12 hf12 hrun;have HBF:=hid (HB3.out.drewN 1)
 have HSU:Hid (Calls Tryz.prog 171 #[.slice (some ⟨W3.heap.size,0,none⟩) 1 1] (W3.drew.alloc (.cells #[.slice (some ⟨b,4,none⟩) 60 60] 74)) fun e w'=>e=.returned (.int .u32 (X:Int))/\W3.drew.alloc (.cells #[.slice (some ⟨b,4,none⟩) 60 60] 74)=w'):=hid (by
  refine(sum_any (some ⟨W3.heap.size,0,none⟩) 1 1 [⟨some ⟨b,4,none⟩,60,ll⟩] _ ?_ rfl (by decide) ?_).mono ?_
  ·simp only[List.map_cons,List.map_nil,Part.val,HL.out.1];exact(Blk.new W3.drew 74 #[.slice (some ⟨b,4,none⟩) 60 60]).sl
  ·intro p hp;rw[List.mem_singleton.1 hp];exact⟨by have:=HBF.out.part 4 60;rw[HL.out.2.2.1]at this;exact this.keep ((Below.refl _ _).alloc (Nat.le_refl _) _),by rw[HL.out.1];decide,HL.out.2.1⟩
  ·rintro e w1 ⟨rfl,rfl⟩
   exact⟨by rw[HXX.out];simp[List.flatMap],rfl⟩)
 refine wp_region_hl [4,5] [0,1,2,3,4,5,6] (fun _=>True) (by kernel_rfl) (by kernel_rfl) trivial ?_
 iterate 4 (refine hd_take (v:=?_) rfl rfl (by kernel_rfl) (fun W hW=>?_) ?_;rotate_left;(first|(go_simp;done)|(go_simp;with_reducible rfl)))
 refine hd_loud rfl rfl fun K hK=>?_;go_simp;refine hK _ _ trivial ?_;clear hK;refine hd_loud rfl rfl fun K hK=>?_;go_simp;refine HSU.out.mono ?_;rintro e w1 ⟨rfl,rfl⟩;refine hK _ _ trivial ?_;clear hK;refine hd_take (v:=?_) rfl rfl (by kernel_rfl) (fun W hW=>?_) ?_;rotate_left;(first|(go_simp;done)|(go_simp;with_reducible rfl));refine hd_end ?_;simp only[zqa,zqb,zqc,zqd,Nat.zero_add,Nat.reduceAdd]
 go_wp2_with (go_at_call 177;fail)
 refine(put177 5 _ U1 x b 0 4 64 _ (HBF.out.alloc _) (by have:=HL.out.2.2.2;omega) (by decide) X).mono ?_;rintro e wx0 ⟨⟨v,rfl⟩,hb4,hc4⟩;rw[HSB.out]at hb4;have HB4:=hid hb4;have HC4:Hid (Chg (· = x) W1 U1 wx0 U1):=hid (HC3.out.trans (((Chg.refl (· = x) W3 U1).drew.alloc _).trans hc4));have HSL:Hid ((supB tn' l).length=64):=hid (by rw[<- HSB.out,lay_len (by rw[be_len];have:=HL.out.2.2.2;omega)];exact HL.out.2.2.2);clear hb4 hc4 hXw hX4
 have b1:(at_:Int)<=2048:=by omega
 have b2:(slot:Int)<=2048:=by omega
 have HH4:=hid (HH.out.keep HC4.out (Ne.symm hxt));have HD4:=hid (HD.out.keep HC4.out (Ne.symm hxd));have HAT:Hid ((at_:Int)+(slot:Int)=((at_+slot:Nat):Int)):=hid (by omega)
 go_wp2_with fail
 have HW:Hid (Calls Tryz.prog 132 #[.pointer (some ⟨d,0,none⟩),.int .i64 ((at_:Int)+(slot:Int)),.slice (some ⟨b,0,none⟩) 64 64] wx0.drew fun e w'=>e=.returned (.int .i64 0)/\DevAt w' U1 td d n (upd Z (at_+slot) (supB tn' l)) Loose/\Chg (· = td) wx0.drew U1 w' U1):=hid (by
  rw[HAT.out]
  exact write_any wx0.drew U1 td d n Z F (HD4.out.drewN 1) (at_+slot) hat (some ⟨b,0,none⟩) 64 64 (supB tn' l) HSL.out rfl HB4.out.lt (HB4.out.drewN 1).sl (by intro e;cases e))
 have S6:Hid (SuS s d at_ wx0.drew):=hid ⟨(HH4.out.drewN 1).cell 0,(HH4.out.drewN 1).cell 1⟩;refine wp_region_hl [] [0,1,2,3,4,5,6,7,8,9,10] (SuS s d at_) (by kernel_rfl) (by kernel_rfl) S6.out ?_
 iterate 11 (refine hd_take (v:=?_) rfl rfl (by kernel_rfl) (fun W hW=>?_) ?_;rotate_left;(obtain⟨r0,r1⟩:=hW;first|(go_simp;done)|(go_simp;with_reducible rfl)))
 refine hd_end ?_;simp only[zqa,zqb,zqc,zqd,Nat.zero_add,Nat.reduceAdd]
 go_wp2_with (go_at_call 132;fail)
 refine HW.out.mono ?_;rintro e wx ⟨rfl,hd6,hc6⟩;have HD6:=hid hd6;have HC6:=hid hc6;have HH6:=hid ((HH4.out.drewN 1).keep hc6 hne);have e0:=HH6.out.cell 0;have C6:Hid (Chg (fun y=>y=x\/y=td) w U wx U1):=hid (((HC1.out.mono (T':=fun y=>y=x\/y=td) (fun _ h=>h.elim)).trans (HC4.out.mono (T':=fun y=>y=x\/y=td) (fun _ h=>.inl h))).drew.trans (hc6.mono (T':=fun y=>y=x\/y=td) (fun _ h=>.inr h)));clear hd6 hc6 S6
 go_wp2_with fail
 refine(flush_any wx U1 td d n _ _ HD6.out hn).mono ?_;rintro e w7 ⟨rfl,hd7,hc7⟩;have HD7:=hid hd7;have HH7:=hid (HH6.out.keep hc7 hne);have C7:Hid (Chg (fun y=>y=x\/y=td) w U w7 U1):=hid (C6.out.trans (hc7.mono (T':=fun y=>y=x\/y=td) (fun _ h=>.inr h)));clear hd7 hc7 e0
 go_wp2_with fail
 refine(clone172 w7 A m c (bv l) (by simp[bv,hl]) (HS0.out.other C7.out HAt0.out) ?_ (fun e=>(hA e).1) (by omega)).mono ?_
 ·intro u hu
  obtain⟨x,_,rfl⟩:=List.mem_map.1 hu;rfl
 rintro e w8 ⟨v8,rfl,ho8,hb8⟩;obtain⟨A8,c8,rfl,_,_,_,_⟩:=Sl.of_own ho8;have hc8:=Chg.same_own (U:=U1) hb8;have HH8:=hid (HH7.out.keep hc8 id);have HD8:=hid (HD7.out.keep hc8 id);have C8:Hid (Chg (fun y=>y=x\/y=td) w U w8 U1):=hid (C7.out.trans (hc8.mono (fun _ h=>h.elim)));have e2:=HH8.out.cell 2;have e3:=HH8.out.cell 3;have e4:=HH8.out.cell 4;have g2:=HH8.out.frozen 2;have g3:=HH8.out.frozen 3;have g4:=HH8.out.frozen 4;have HN:Hid (t≠td):=hid hne;clear ho8 hb8 hc8 hne
 go_wp2
 go_ret;have hs8:=HH8.out.own;refine⟨rfl,U1,⟨A8,m,c8,((HH8.out.set_ 4 _).set_ 2 _).set_ 3 _⟩,?_,?_⟩
 ·exact((HD8.out.far (q:=⟨s,4,none⟩) (fun e=>HN.out (hs8.symm.trans e)) _).far (q:=⟨s,2,none⟩) (fun e=>HN.out (hs8.symm.trans e)) _).far (q:=⟨s,3,none⟩) (fun e=>HN.out (hs8.symm.trans e)) _
 ·have:=(((C8.out.mono (T':=fun y=>y=x\/y=t\/y=td) (fun y h=>h.elim .inl (fun h=>.inr (.inr h)))).setCell (p:=⟨s,4,none⟩) (.inr (.inl hs8)) (.int .i64 (slot:Int))).setCell (p:=⟨s,2,none⟩) (.inr (.inl hs8)) (.int .i64 (tn':Int))).setCell (p:=⟨s,3,none⟩) (.inr (.inl hs8)) (.slice A8 m c8)
  exact this.fresh (fun i hi h=>h.elim (fun e=>absurd e (HX.out i hi)) id)
structure SupOk (x:List Nat)(n:Nat)(l:List Nat):Prop where
 len:x.length=64
 lt:∀ y∈x,y<256
 sum:x.take 4=be 4 (Plain.crc (x.drop 4))
 num:(x.drop 4).take 8=be 8 n
 size:x[12]? = some l.length
 text:(x.drop 13).take l.length=l
theorem sup_ok (n:Nat)(l:List Nat)(hl:l.length<=40)(hlb:∀ x∈l,x<256):SupOk (supB n l) n l:=by
 have z0:(List.replicate 64 0:List Nat).length=64:=List.length_replicate;obtain⟨a,ha⟩:∃ a,a=lay (List.replicate 64 0) 4 (be 8 n):=⟨_,rfl⟩
 have la:a.length=64:=by rw[ha,lay_len (by rw[be_len,z0];decide),z0]
 have ab:∀ x∈a,x<256:=by rw[ha];exact lay_lt (fun x hx=>by rw[List.eq_of_mem_replicate hx];decide) (be_lt _ _)
 obtain⟨b,hb⟩:∃ b,b=a.set 12 l.length:=⟨_,rfl⟩
 have lb:b.length=64:=by rw[hb,List.length_set,la]
 have bb:∀ x∈b,x<256:=by
  intro x hx;rw[hb]at hx
  rcases List.mem_or_eq_of_mem_set hx with hx|rfl
  ·exact ab x hx
  ·omega
 have hfit:13+l.length<=b.length:=by omega
 have hc:supC n l=lay b 13 l:=by rw[hb,ha];rfl
 generalize supC n l=c at *
 have hsup:supB n l=lay c 0 (be 4 (Plain.crc (c.drop 4))):=by
  unfold supB
  have:supC n l=c:=by rw[hc,hb,ha];rfl
  rw[this]
 have lc:c.length=64:=by rw[hc,lay_len hfit,lb]
 have cb:∀ x∈c,x<256:=by rw[hc];exact lay_lt bb hlb
 have h4:0+(be 4 (Plain.crc (c.drop 4))).length<=c.length:=by rw[be_len,lc];decide
 have hget:∀ j,4<=j->(supB n l)[j]? = c[j]?:=fun j hj=>by rw[hsup,lay_get h4,be_len,if_neg (by omega),if_neg (by omega)]
 have hdrop:(supB n l).drop 4=c.drop 4:=by
  apply List.ext_getElem?;intro j;rw[List.getElem?_drop,List.getElem?_drop,hget _ (by omega)]
 have bget:∀ j,j<13->c[j]? = b[j]?:=fun j hj=>by rw[hc,lay_get hfit,if_pos hj]
 have aget:∀ j,j<12->c[j]? = a[j]?:=fun j hj=>by rw[bget j (by omega),hb,List.getElem?_set,if_neg (by omega)]
 refine⟨by rw[hsup,lay_len h4,lc],by rw[hsup];exact lay_lt cb (be_lt _ _),?_,?_,?_,?_⟩
 ·rw[hdrop]
  have:=part_eq (l:=supB n l) 0 4 (be_len 4 (Plain.crc (c.drop 4))) (fun j hj=>by rw[hsup,Nat.zero_add,lay_get h4,be_len,if_neg (by omega),if_pos (by omega),Nat.sub_zero])
  simpa using this
 ·refine part_eq 4 8 (be_len _ _) fun j hj=>?_
  rw[hget _ (by omega),aget _ (by omega),ha,lay_get (by rw[be_len,z0];decide),be_len,if_neg (by omega),if_pos (by omega),show 4+j-4=j by omega]
 ·rw[hget _ (by decide),bget _ (by decide),hb,List.getElem?_set,if_pos rfl,if_pos (by omega)]
 ·refine part_eq 13 l.length rfl fun j hj=>?_
  rw[hget _ (by omega),hc,lay_get hfit,if_neg (by omega),if_pos (by omega),show 13+j-13=j by omega]
def Su2 (s sl tn:Nat)(W:World):Prop:=W.cell? ⟨s,4,none⟩=some (.int .i64 (sl:Int))/\W.cell? ⟨s,2,none⟩=some (.int .i64 (tn:Int))
theorem there131 (w:World)(U:Own)(td d n:Nat)(Z:Cont)(F:Nat->Prop)(h:DevAt w U td d n Z F)(at_:Nat)(hat:at_+1<n)(hn:n<=2048) :
 Calls Tryz.prog 131 #[.pointer (some ⟨d,0,none⟩),.int .i64 (at_:Int)] w fun e w'=>e=.returned (.bool true)/\w'=w:=by
 have k1:(0:Int)<=(at_:Int):=by omega
 have k2:(at_:Int)<(n:Int)-1:=by omega
 have k3:(n:Int)<=2048:=by omega
 have HD:=hid h;clear h;go_enter Tryz.func131,Tryz.ntmps131
 go_wp2_with fail
 refine(len_any w U td d n Z F HD.out).mono ?_;rintro e w' ⟨rfl,rfl⟩
 go_wp2
 go_ret;exact⟨rfl,rfl⟩
theorem make100 (w:World)(U:Own)(t at_ td d n:Nat)(Z:Cont)(F:Nat->Prop)(hD:DevAt w U td d n Z F)(hZ:∀ k,Z k=List.replicate 64 0)(hne:t≠td)(hn:n<=2048)(hat:at_+1<n)
 (A:Option Addr)(m c:Nat)(l:List Nat)(hl:l.length=m)(hlb:∀ x∈l,x<256)(hm:m<=40)(hs:Sl w A (bv l))(hA:A=none->m=0/\c=0)(hAt:∀ a,A=some a->a.block<w.heap.size/\U a.block≠td) :
 Calls Tryz.prog 100 #[.pointer (some ⟨d,0,none⟩),.int .i64 (at_:Int),.slice A m c] w fun e w'=>∃ s U',e=.returned (.tuple #[.pointer (some ⟨s,0,none⟩),.int .i64 0])/\SuperAt w' U' t s d at_ 1 0/\DevAt w' U' td d n (upd Z at_ (supB 1 l)) Lasts/\Chg (fun x=>x=t\/x=td) w U w' U'/\w.heap.size<=s:=by
 have HD:=hid hD;have HS:=hid hs;have HAt:=hid hAt
 have k1:¬ ((40:Int)<(m:Int)):=by omega
 clear hD hs hAt;go_enter Tryz.func100,Tryz.ntmps100
 go_wp2_with fail
 refine(there131 w U td d n Z F HD.out at_ hat hn).mono ?_;rintro e w' ⟨rfl,rfl⟩
 go_wp2
 go_loopw [24] (fun i wr=>∃ k:Nat,k<=2/\i=.int .i64 k/\(∃ F',DevAt wr U td d n Z F')/\Chg (· = td) w' U wr U) (fun i _=>2-(intOf i).toNat)
 case atStart=>exact⟨0,by decide,rfl,⟨F,HD.out⟩,Chg.refl _ _ _⟩
 case round=>
  obtain⟨k,hk,rfl,⟨F',h1⟩,h2⟩:=hrel
  by_cases hlt:k<2
  ·have HD1:=hid h1
   have HC1:=hid h2;clear h1 h2
   have k2:(k:Int)<2:=by omega
   have k3:(0:Int)<=(at_:Int)+(k:Int):=by omega
   have k4:(at_:Int)+(k:Int)<=4096:=by omega
   have HK:Hid ((at_:Int)+(k:Int)=((at_+k:Nat):Int)):=hid (by omega);have hmk:=make_zbuf wr;have HD2:Hid (DevAt (wr.alloc (.cells zbuf 5)) U td d n Z F'):=hid (HD1.out.keep ((Chg.refl (fun _=>False) wr U).alloc _) id);have hb:=zbuf_sl wr
   go_wp2_with fail
   rw[HK.out];refine(write_any _ U td d n Z F' HD2.out (at_+k) (by omega) (some ⟨wr.heap.size,0,none⟩) 64 64 (List.replicate 64 0) (by simp) rfl (fun x hx=>by rw[List.eq_of_mem_replicate hx];decide) hb (by intro e;cases e)).mono ?_;rintro e w2 ⟨rfl,hd2,hc2⟩;rw[upd_same _ _ _ (hZ _)]at hd2;have HD3:=hid hd2;have HC3:Hid (Chg (· = td) w' U w2 U):=hid ((HC1.out.alloc _).trans hc2);clear hd2 hc2 hb hmk
   go_wp2
   go_roundw
   case rel=>exact⟨k+1,by omega,by go_num,⟨_,HD3.out⟩,HC3.out⟩
   case measure=>simp[intOf];omega
  ·obtain rfl:k=2:=by omega
   have HD1:=hid h1;have HC1:=hid h2;clear h1 h2
   go_wp2_with fail
   refine(flush_any wr U td d n Z F' HD1.out hn).mono ?_;rintro e w2 ⟨rfl,hd2,hc2⟩;have HD2:=hid hd2;have HC2:Hid (Chg (· = td) w' U w2 U):=hid (HC1.out.trans hc2);clear hd2 hc2
   go_wp2_with fail
   have HC3:Hid (Chg (fun _=>False) w2 U (w2.alloc (.cells #[.pointer (some ⟨d,0,none⟩),.int .i64 (at_:Int),.int .i64 0,.slice none 0 0,.int .i64 0] 238)) (ext U w2 t)):=hid (((Chg.refl _ w2 U).alloc _).ext t);have C:=HC2.out.trans (HC3.out.mono (fun _ h=>h.elim));refine(super134 _ (ext U w2 t) t w2.heap.size d at_ 0 0 td n Z Lasts ⟨none,0,0,Blk.new _ _ _,ext_new (Nat.le_refl _)⟩ (HD2.out.keep HC3.out id) hne hn 0 1 (by omega) (by decide) A m c l hl hlb hm (HS.out.other C (fun a ha=>HAt.out a ha)) hA (fun a ha=>⟨Nat.lt_of_lt_of_le (HAt.out a ha).1 C.size,by rw[C.own _ (HAt.out a ha).1];exact(HAt.out a ha).2⟩)).mono ?_;rintro e w4 ⟨rfl,U4,hs4,hd4,hc4⟩;have HF:=hid (And.intro hs4 (And.intro hd4 (And.intro ((C.mono (T':=fun x=>x=t\/x=td) (fun _ h=>.inr h)).trans hc4) C.size)));have HSZ:Hid (w'.heap.size<=w2.heap.size):=hid HC2.out.size;clear hs4 hd4 hc4 C
   go_wp2
   go_ret2
   exact⟨w2.heap.size,U4,rfl,HF.out.1,HF.out.2.1,HF.out.2.2.1,HSZ.out⟩
theorem save185 (w:World)(U:Own)(t s d at_ tn sl td n:Nat)(Z:Cont)(F:Nat->Prop)(hS:SuperAt w U t s d at_ tn sl)(hD:DevAt w U td d n Z F)(hne:t≠td)(hn:n<=2048)(hat:at_+1<n)(htn:tn+1<=1000000)(hsl:sl<=1)
 (A:Option Addr)(m c:Nat)(l:List Nat)(hl:l.length=m)(hlb:∀ x∈l,x<256)(hm:m<=40)(hs:Sl w A (bv l))(hA:A=none->m=0/\c=0)(hAt:∀ a,A=some a->a.block<w.heap.size/\U a.block≠td) :
 Calls Tryz.prog 185 #[.pointer (some ⟨s,0,none⟩),.slice A m c] w fun e w'=>e=.returned (.int .i64 0)/\∃ U',SuperAt w' U' t s d at_ (tn+1) (1-sl)/\DevAt w' U' td d n (upd Z (at_+(1-sl)) (supB (tn+1) l)) Lasts/\Chg (fun x=>x=t\/x=td) w U w' U':=by
 have k1:¬ ((40:Int)<(m:Int)):=by omega
 have HW:Hid (Calls Tryz.prog 134 #[.pointer (some ⟨s,0,none⟩),.int .i64 ((1-sl:Nat):Int),.int .i64 ((tn+1:Nat):Int),.slice A m c] w.drew fun e w'=>e=.returned (.int .i64 0)/\∃ U',SuperAt w' U' t s d at_ (tn+1) (1-sl)/\DevAt w' U' td d n (upd Z (at_+(1-sl)) (supB (tn+1) l)) Lasts/\Chg (fun x=>x=t\/x=td) w.drew U w' U'):=hid (by
  obtain⟨A',m',c',h1⟩:=hS.ex
  exact super134 w.drew U t s d at_ tn sl td n Z F ⟨A',m',c',h1.drewN 1⟩ (hD.drewN 1) hne hn (1-sl) (tn+1) (by omega) htn A m c l hl hlb hm (hs.other ((Chg.refl (fun _=>False) w U).drew) (fun a ha=>⟨(hAt a ha).1,id⟩)) hA hAt)
 obtain⟨A',m',c',h1⟩:=hS.ex;have S0:Hid (Su2 s sl tn w.drew):=hid ⟨(h1.drewN 1).cell 4,(h1.drewN 1).cell 2⟩
 have x1:IntKind.i64.wrap (1-(sl:Int))=((1-sl:Nat):Int):=by rw[IntWalk.i64_in _ ⟨by omega,by omega⟩];omega
 have x2:IntKind.i64.wrap ((tn:Int)+1)=((tn+1:Nat):Int):=by rw[IntWalk.i64_in _ ⟨by omega,by omega⟩];omega
 clear hS hD hs hAt h1;go_enter Tryz.func185,Tryz.ntmps185
 go_wp2_with fail
 refine wp_region_hl [] [0,1,2,3,4,5,6,7,8,9,10,11] (Su2 s sl tn) (by kernel_rfl) (by kernel_rfl) S0.out ?_
 iterate 12 (refine hd_take (v:=?_) rfl rfl (by kernel_rfl) (fun W hW=>?_) ?_;rotate_left;(obtain⟨r0,r1⟩:=hW;first|(go_simp;done)|(go_simp;with_reducible rfl)))
 refine hd_end ?_;simp only[zqa,zqb,zqc,zqd,Nat.zero_add,Nat.reduceAdd]
 go_wp2_with (go_at_call 134;fail)
 refine HW.out.mono ?_;rintro e w1 ⟨rfl,U1,hs1,hd1,hc1⟩;have HM:=hid (And.intro hs1 (And.intro hd1 hc1));clear hs1 hd1 hc1
 go_wp2
 go_ret;obtain⟨q1,q2,q3⟩:=HM.out;exact⟨rfl,U1,q1,q2,⟨q3.os,q3.tape,q3.output,q3.size,q3.block,q3.own⟩⟩
end Go.Proofs.Ytlhekbjidppijaa
