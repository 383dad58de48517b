/- Contracts of what TopFall reaches: what each function returns and leaves in memory. Conditions: as named. -/
import Derived.Test.YtlhekbjidppijaaGreatMAN
import Derived.Test.YtlhekbjidppijaaGreatMAO
set_option linter.unusedVariables false
set_option linter.unusedSimpArgs false
set_option maxRecDepth 20000
set_option maxHeartbeats 8000000
namespace Go.Proofs.Ytlhekbjidppijaa
open Lib (hid)
open Go.RowKit
structure BodyAt (w:World)(U:Own)(t:Nat)(v:Value)(l:List UInt8):Prop where
 row:Rw w U t 5 1 v l.length (ub l)
 pos:0<l.length
abbrev Lf:=Option Nat
def lrun:Lf->Nat
 | none=>1
 | some _=>2
theorem lrun_le (f:Lf):lrun f<=2:=by cases f <;> simp[lrun]
def pz:Lf->Nat->Nat
 | none,i=>i+1
 | some ct,i=>if i<ct then i+1 else i+65
theorem pz_lt (f:Lf)(i j:Nat)(h:i<j):pz f i<pz f j:=by
 cases f with
 | none=>simp only[pz];omega
 | some ct=>simp only[pz];split <;> split <;> omega
theorem pz_le (f:Lf)(i:Nat):pz f i<=i+65:=by
 cases f with
 | none=>simp only[pz];omega
 | some ct=>simp only[pz];split <;> omega
theorem pz_pos (f:Lf)(i:Nat):1<=pz f i:=by
 cases f with
 | none=>simp only[pz];omega
 | some ct=>simp only[pz];split <;> omega
theorem pz_lt_iff (f:Lf)(i j:Nat):pz f i<pz f j ↔ i<j:=by
 refine⟨fun h=>?_,pz_lt f i j⟩
 rcases Nat.lt_or_ge i j with h1|h1
 ·exact h1
 ·rcases Nat.eq_or_lt_of_le h1 with h2|h2
  ·subst h2;omega
  ·have:=pz_lt f j i h2;omega
def rcells (f:Lf):Nat->List Value->List Value
 | _,[]=>[]
 | b,v :: l=>.int .i64 (pz f b:Int) :: v :: rcells f (b+1) l
theorem rcells_snoc (f:Lf)(b:Nat)(vs:List Value)(v:Value):rcells f b (vs++[v])=rcells f b vs++[.int .i64 ((pz f (b+vs.length):Nat):Int),v]:=by
 induction vs generalizing b with
 | nil=>simp[rcells]
 | cons x l ih=>simp only[List.cons_append,rcells,ih,List.length_cons];rw[show b+1+l.length=b+(l.length+1) by omega]
theorem rcells_get (f:Lf)(b:Nat)(vs:List Value)(i:Nat)(h:i<vs.length):(rcells f b vs)[2*i]? = some (.int .i64 ((pz f (b+i):Nat):Int))/\(rcells f b vs)[2*i+1]? = some vs[i]:=by
 induction vs generalizing b i with
 | nil=>simp at h
 | cons x l ih=>
  cases i with
  | zero=>simp[rcells]
  | succ i=>
   have:=ih (b+1) i (by simpa using h);rw[show 2*(i+1)=2*i+1+1 by omega];simp only[rcells,List.getElem?_cons_succ,List.getElem_cons_succ];rw[show b+(i+1)=b+1+i by omega];exact this
def used:List (List UInt8)->Nat
 | []=>0
 | l :: ls=>l.length+8+used ls
theorem used_snoc (ls:List (List UInt8))(l:List UInt8):used (ls++[l])=used ls+l.length+8:=by
 induction ls with
 | nil=>simp[used]
 | cons x ls ih=>simp only[List.cons_append,used,ih];omega
def recB (p:Nat)(l:List UInt8):List Nat:=be 2 l.length++be 6 p++l.map UInt8.toNat
def segB (f:Lf):Nat->List (List UInt8)->List Nat
 | _,[]=>[]
 | b,l :: ls=>recB (pz f b) l++segB f (b+1) ls
theorem recB_len (p:Nat)(l:List UInt8):(recB p l).length=l.length+8:=by simp[recB,be_len];omega
theorem segB_len (f:Lf)(b:Nat)(ls:List (List UInt8)):(segB f b ls).length=used ls:=by
 induction ls generalizing b with
 | nil=>rfl
 | cons l ls ih=>simp only[segB,used,List.length_append,recB_len,ih]
theorem segB_snoc (f:Lf)(b:Nat)(ls:List (List UInt8))(l:List UInt8):segB f b (ls++[l])=segB f b ls++recB (pz f (b+ls.length)) l:=by
 induction ls generalizing b with
 | nil=>simp[segB]
 | cons x ls ih=>simp only[List.cons_append,segB,ih,List.length_cons,List.append_assoc];rw[show b+1+ls.length=b+(ls.length+1) by omega]
theorem recB_lt (p:Nat)(l:List UInt8):∀ x∈recB p l,x<256:=by
 intro x hx;unfold recB at hx
 rcases List.mem_append.1 hx with hx|hx
 ·rcases List.mem_append.1 hx with hx|hx
  ·exact be_lt _ _ x hx
  ·exact be_lt _ _ x hx
 ·obtain⟨y,_,rfl⟩:=List.mem_map.1 hx
  exact y.toNat_lt
theorem segB_lt (f:Lf)(b:Nat)(ls:List (List UInt8)):∀ x∈segB f b ls,x<256:=by
 induction ls generalizing b with
 | nil=>intro x hx;cases hx
 | cons l ls ih=>
  intro x hx
  rcases List.mem_append.1 hx with hx|hx
  ·exact recB_lt _ _ x hx
  ·exact ih _ x hx
structure SegAt (w:World)(U:Own)(tg tb g k:Nat)(f:Lf)(base:Nat)(bodies:List (List UInt8)):Prop where
 ex:∃ (bv':Value) (rn:Nat) (rv:Value) (vs:List Value),Has w U tg g 353 #[.int .i64 ((k+1:Nat):Int),.int .i64 ((pz f base:Nat):Int),.int .i64 (rn:Int),bv',rv] /\
  Rw w U tg 5 1 bv' (used bodies) (bv (segB f base bodies))/\used bodies<=378/\Rw w U tg 359 2 rv bodies.length (rcells f base vs)/\vs.length=bodies.length/\∀ (i:Nat) (l:List UInt8),bodies[i]? = some l->∃ v:Value,vs[i]? = some v/\BodyAt w U tb v l
section
variable {T : Nat -> Prop} {w w' : World} {U U' : Own} {t tg tb g k base : Nat} {f : Lf} {bodies : List (List UInt8)}
theorem BodyAt.keep {v:Value}{l:List UInt8}(h:BodyAt w U t v l)(hc:Chg T w U w' U')(ht:¬ T t):BodyAt w' U' t v l:=⟨h.row.keep hc ht,h.pos⟩
theorem SegAt.keep (h:SegAt w U tg tb g k f base bodies)(hc:Chg T w U w' U')(h1:¬ T tg)(h2:¬ T tb):SegAt w' U' tg tb g k f base bodies:=by
 obtain⟨b',rn,rv,vs,a1,a2,a3,a5,a6,a7⟩:=h.ex;refine⟨b',rn,rv,vs,a1.keep hc h1,a2.keep hc h1,a3,a5.keep hc h1,a6,fun i l hl=>?_⟩;obtain⟨v,hv,hb⟩:=a7 i l hl;exact⟨v,hv,hb.keep hc h2⟩
end
theorem start247 (w:World)(i:Nat)(hi:i<=100):Calls Tryz.prog 247 #[.int .i64 (i:Int)] w fun e w'=>e=.returned (.int .i64 ((48*i-6:Nat):Int))/\w=w':=by
 have k1:(0:Int)<=(i:Int):=by omega
 have k2:(i:Int)<=100:=by omega
 by_cases h0:i=0
 ·subst h0
  go_enter Tryz.func247,Tryz.ntmps247
  go_wp2
  go_ret;exact⟨rfl,rfl⟩
 ·have HE:Hid ((i:Int)*48-6=((48*i-6:Nat):Int)):=hid (by omega)
  have k3:¬ ((i:Int)*48<=6):=by omega
  have k4:(6:Int)<(i:Int)*48:=by omega
  go_enter Tryz.func247,Tryz.ntmps247
  go_wp2
  go_ret;exact⟨by rw[<- HE.out];rfl,rfl⟩
theorem or_byte (a c:Nat)(hc:c<256):a <<< 8 ||| c=a*256+c:=by
 rw[<- Nat.shiftLeft_add_eq_or_of_lt (by simpa using hc),Nat.shiftLeft_eq]
theorem de_take_succ (l:List Nat)(k:Nat)(h:k<l.length):de (l.take (k+1))=de (l.take k)*256+l[k]:=by
 rw[List.take_succ_eq_append_getElem h,de_snoc]
theorem get295 (w:World)(b o n c:Nat)(l:List Nat)(hl:l.length=n)(hn:n<=8)(hb:∀ x∈l,x<256)(h:Sl w (some ⟨b,o,none⟩) (bv l)) :
 Calls Tryz.prog 295 #[.slice (some ⟨b,o,none⟩) n c] w fun e w'=>e=.returned (.int .u64 (de l:Int))/\w=w':=by
 have HC:Hid (∀ j (hj:j<l.length),w.cell? ⟨b,o+j,none⟩=some (.int .u8 ((l[j]:Nat):Int))/\l[j]<256):=hid fun j hj=>by
  obtain⟨b',o',e,hc⟩:=h (by intro e;have:=congrArg List.length e;simp only[bv,List.length_map,List.length_nil]at this;omega)
  cases e
  subst hl;exact⟨hc j _ (by simp[bv,hj]),hb _ (List.getElem_mem hj)⟩
 have HB:=hid hb
 have k0:(n:Int)<=8:=by omega
 have HL:=hid hl;clear h hb hl;go_enter Tryz.func295,Tryz.ntmps295
 go_wp2
 go_loop [3,8] (fun z i=>∃ k:Nat,k<=n/\i=.int .i64 k/\z=.int .u64 (de (l.take k):Int)) (fun _ i=>n-(intOf i).toNat)
 case atStart=>exact⟨0,Nat.zero_le _,rfl,rfl⟩
 case round=>
  obtain⟨k,hk,rfl,rfl⟩:=hrel;have hll:=HL.out
  by_cases hlt:k<n
  ·have k1:(k:Int)<(n:Int):=by omega
   have k2:(0:Int)<=(k:Int):=by omega
   obtain⟨c0,hx⟩:=HC.out k (by omega);have hd:=de_lt (l.take k) (fun x hx=>HB.out x (List.mem_of_mem_take hx));have hs:=de_take_succ l k (by omega);have hp:256 ^ (l.take k).length<=256 ^ 7:=Nat.pow_le_pow_right (by decide) (by rw[List.length_take];omega);generalize de (l.take k)=z at *;generalize l[k]=x at *;have HS:=hid hs;have HZ:Hid (z<256 ^ 7):=hid (Nat.lt_of_lt_of_le hd hp);clear hd hp hs hll
   go_wp2
   go_round
   case rel=>
    refine⟨k+1,by omega,by go_num,?_⟩;rw[HS.out];have hz:=HZ.out;rw[show((z:Int)*256)=((z*256:Nat):Int) by omega,show IntKind.u64.wrap ((z*256:Nat):Int)=((z*256:Nat):Int) from IntWalk.u64_in _ ⟨by omega,by omega⟩,u64_or_nat _ _ (by omega) (by omega),<- or_byte z x hx,Nat.shiftLeft_eq]
   case measure=>simp[intOf];omega
  ·obtain rfl:k=n:=by omega
   have ht:l.take k=l:=List.take_of_length_le (by omega);rw[ht];clear hll ht
   go_wp2
   go_ret;exact⟨rfl,rfl⟩
theorem sliceAt_from (W:World)(ab nb c st:Nat)(h1:st<=nb)(h2:nb<=c):(Instr.sliceAt 74 (.slice (some ⟨ab,0,none⟩) nb c) (some (.int .i64 (st:Int))) none none).run Tryz.prog W=.ok (.slice (some ⟨ab,if c=st then 0 else st,none⟩) (nb-st) (c-st)) W:=by
 have hu:Tryz.prog.underlying 74=some (.slice (Tryz.prog.elem 74)):=by kernel_rfl
 have hs:(sizeOf (Tryz.prog.elem 74)).run Tryz.prog W=.ok 1 W:=by kernel_rfl
 rw[run_sliceAt_slice W _ _ _ _ _ hu,run_slice_l W 74 _ _ _ hu _ _ (by omega) (by omega),hs];unfold sliced
 by_cases hc:c=st
 ·subst hc
  simp
 ·simp[hc,add_none]
def srcV (B:Option Addr)(nb c st:Nat):Value:=match B with
 | none=>.slice none 0 0
 | some a=>.slice (some ⟨a.block,if c=st then 0 else st,none⟩) (nb-st) (c-st)
def SecS (g:Nat)(k:Nat)(v:Value)(W:World):Prop:=W.cell? ⟨g,k,none⟩=some v
def SecT (W1:World)(U1:Own)(g b y:Nat)(L:List Nat)(v:Value)(W:World):Prop:=W.cell? ⟨g,3,none⟩=some v/\Bux 5 W U1 y b L/\Chg (· = y) W1 U1 W U1
def SecU (W1:World)(U1:Own)(b y:Nat)(L:List Nat)(W:World):Prop:=Bux 5 W U1 y b L/\Chg (· = y) W1 U1 W U1
theorem sector_any (w:World)(U:Own)(tg g k base i run x nb c rn:Nat)(B:Option Addr)(rv:Value)(lb:List Nat)(hi:i<8)(hk:k<=100000)(hrun:run<=1000000)(hbase:base<=1000000)
 (hG:Has w U tg g 353 #[.int .i64 ((k+1:Nat):Int),.int .i64 (base:Int),.int .i64 (rn:Int),.slice B nb c,rv])(hR:Rw w U tg 5 1 (.slice B nb c) nb (bv lb))(hlb:∀ x∈lb,x<256)(hnb:nb<=400) :
 Calls Tryz.prog 270 #[.pointer (some ⟨g,0,none⟩),.int .i64 (i:Int),.int .i64 (run:Int)] w fun e w'=>∃ b c U',e=.returned (.slice (some ⟨b,0,none⟩) 64 c)/\Bux 5 w' U' x b (secB k base run i lb)/\Chg (fun _=>False) w U w' U':=by
 obtain⟨gn,hgn⟩:∃ gn,gn=k+1:=⟨_,rfl⟩;rw[<- hgn]at hG;obtain⟨y,hy⟩:=fresh w U;obtain⟨b,hb⟩:∃ b,b=w.heap.size:=⟨_,rfl⟩;obtain⟨U1,hU1⟩:∃ U1,U1=ext U w y:=⟨_,rfl⟩;obtain⟨W1,hW1⟩:∃ W,W=w.alloc (.cells zbuf 5):=⟨_,rfl⟩
 have hgy:¬ (tg=y):=by rintro rfl;exact hy _ hG.lt hG.own
 have hmk1:=make_zbuf w;rw[<- hW1,<- hb]at hmk1;have HB1:Hid (Bux 5 W1 U1 y b (List.replicate 64 0)):=hid (by rw[hW1,hU1,hb];exact zbuf_new w U y);have HC1:Hid (Chg (fun _=>False) w U W1 U1):=hid (by rw[hW1,hU1];exact((Chg.refl _ w U).alloc _).ext y);have HG:=hid (hG.keep HC1.out id)
 have FIN:Hid (∀ W L,Bux 5 W U1 y b L->Chg (· = y) W1 U1 W U1->Bux 5 W (ext U w x) x b L/\Chg (fun _=>False) w U W (ext U w x)):=hid (fun W L h1 h2=>
  ⟨⟨⟨h1.has.blk,ext_new (by omega)⟩,h1.lt⟩,(((HC1.out.mono (T':=(· = y)) (fun _ h=>h.elim)).trans h2).fresh (T:=fun _=>False) (fun i hi e=>hy i hi e)).ext x⟩)
 have hi8:i<256:=by omega
 have hi9:(i:Int)<256:=by omega
 have q0:(0:Int)<=(i:Int):=by omega
 have q1:(i:Int)<=100:=by omega
 have q2:(0:Int)<=(run:Int):=by omega
 have q3:(run:Int)<=1000000:=by omega
 obtain⟨st,hst⟩:∃ st,st=min (48*i-6) nb:=⟨_,rfl⟩;have HSTV:=hid hst;have hrw:=hR.keep HC1.out id
 have hll:lb.length=nb:=by have:=hR.own.1;simpa [bv] using this
 obtain⟨A',c',e',hcap,-,-,-,hB0,hB1⟩:=hR.slice
 injection e' with e1 _ e3
 subst e1;subst e3
 have HSLI:Hid (∀ W,(Instr.sliceAt 74 (.slice B nb c) (some (.int .i64 (st:Int))) none none).run Tryz.prog W=.ok (srcV B nb c st) W):=hid fun W=>by
  cases B with
  | none=>
   obtain⟨rfl,rfl⟩:=hB0 rfl
   obtain rfl:st=0:=by omega
   kernel_rfl
  | some a=>
   obtain⟨a1,a2,a3⟩:=a;obtain⟨rfl,rfl,-⟩:=hB1 _ rfl;exact sliceAt_from W a1 nb c _ (by omega) hcap
 have HCP:Hid (∀ o n W L,o+n<=L.length->Bux 5 W U1 y b L->Chg (· = y) W1 U1 W U1->∃ W2,(Builtin.copy_ #[74,74] 3 #[.slice (some ⟨b,o,none⟩) n n,srcV B nb c st]).run Tryz.prog W=.ok (goInt (((lb.drop st).take n).length:Nat)) W2/\Bux 5 W2 U1 y b (lay L o ((lb.drop st).take n))/\Chg (· = y) W U1 W2 U1):=hid fun o n W L hon hb hc=>by
  cases B with
  | none=>
   obtain⟨rfl,rfl⟩:=hB0 rfl;obtain rfl:lb=[]:=List.eq_nil_of_length_eq_zero hll;rw[List.drop_nil];exact copy_bux (P:=Tryz.prog) W U1 y 74 74 3 b o n n L hb (by kernel_rfl) (by kernel_rfl) none 0 0 [] rfl (by simp) Sl.nil (fun _=>⟨rfl,rfl⟩) hon
  | some a=>
   obtain⟨a1,a2,a3⟩:=a;obtain⟨rfl,rfl,-⟩:=hB1 _ rfl;refine copy_bux (P:=Tryz.prog) W U1 y 74 74 3 b o n n L hb (by kernel_rfl) (by kernel_rfl) (some ⟨a1,if c=st then 0 else st,none⟩) (nb-st) (c-st) (lb.drop st) (by simp[hll]) (fun x hx=>hlb x (List.mem_of_mem_drop hx)) ?_ (by intro e;cases e) hon;obtain⟨A,c',hv,_,_,_,h5,_⟩:=(hrw.keep hc hgy).slice
   cases hv
   by_cases hcs:c=st
   ·have:lb.drop st=[]:=List.drop_eq_nil_of_le (by omega)
    rw[this];exact Sl.nil
   rw[if_neg hcs];refine Sl.of_cells fun j u hu=>?_
   have hu':(bv lb)[st+j]? = some u:=by
    rw[<- hu];unfold bv;rw[List.getElem?_map,List.getElem?_map,List.getElem?_drop]
   obtain⟨b2,o2,h6,h7⟩:=h5 (by intro e;rw[e]at hu';simp at hu')
   cases h6
   rw[add_none];have:=h7 _ _ hu';rw[Nat.zero_add]at this;exact this
 have HCH:Hid ((lb.drop st).take (if i=0 then 42 else 48)=chunk i lb/\(chunk i lb).length<256):=hid (by
  refine⟨?_,by rw[chunk_len];split <;> omega⟩;unfold chunk
  congr 1
  by_cases h:48*i-6<=nb
  ·rw[hst,Nat.min_eq_left h]
  ·rw[List.drop_eq_nil_of_le (by omega),List.drop_eq_nil_of_le (by omega)])
 have HST:Hid (∀ W,Calls Tryz.prog 247 #[.int .i64 (i:Int)] W fun e w'=>e=.returned (.int .i64 ((48*i-6:Nat):Int))/\W=w'):=hid fun W=>start247 W i (by omega);have hgd:∀ W,Chg (· = y) W1 U1 W U1->Has W U1 tg g 353 #[.int .i64 (gn:Int),.int .i64 (base:Int),.int .i64 (rn:Int),.slice B nb c,rv]:=fun W h=>HG.out.keep h hgy;have HGD:=hid hgd;have S0:Hid (SecS g 0 (.int .i64 (gn:Int)) W1.drew):=hid ((hgd _ (Chg.refl _ _ _).drew).cell 0);have HS0:=hid (HB1.out.drewN 1);obtain⟨L1,hL1⟩:∃ L,L=lay (List.replicate 64 0) 4 (be 6 gn):=⟨_,rfl⟩;obtain⟨L2,hL2⟩:∃ L,L=lay L1 10 (be 4 run):=⟨_,rfl⟩;obtain⟨L3,hL3⟩:∃ L,L=L2.set 14 i:=⟨_,rfl⟩
 obtain⟨L4,hL4⟩:∃ L,L=if i=0 then lay L3 16 (be 6 base) else L3:=⟨_,rfl⟩
 obtain⟨ch,hch⟩:∃ ch,ch=chunk i lb:=⟨_,rfl⟩;obtain⟨m,hm⟩:∃ m,m=ch.length:=⟨_,rfl⟩;obtain⟨L5,hL5⟩:∃ L,L=lay L4 (if i=0 then 22 else 16) ch:=⟨_,rfl⟩;obtain⟨L6,hL6⟩:∃ L,L=L5.set 15 m:=⟨_,rfl⟩;obtain⟨ll,hl6⟩:∃ ll,ll=L6.drop 4:=⟨_,rfl⟩;obtain⟨X,hX⟩:∃ X,X=Plain.crc ll:=⟨_,rfl⟩
 have hm48:m<=48:=by rw[hm,hch,chunk_len];split <;> omega
 have hm42:i=0->m<=42:=by rw[hm,hch,chunk_len];intro e;rw[if_pos e];omega
 have n1:L1.length=64:=by rw[hL1,lay_len (by rw[be_len];decide)];rfl
 have n2:L2.length=64:=by rw[hL2,lay_len (by rw[be_len,n1];decide),n1]
 have n3:L3.length=64:=by rw[hL3,List.length_set,n2]
 have n4:L4.length=64:=by
  rw[hL4]
  split
  ·rw[lay_len (by rw[be_len,n3];decide),n3]
  ·exact n3
 have n5:L5.length=64:=by
  rw[hL5,lay_len ?_,n4];rw[<- hm,n4]
  split
  ·have:=hm42 (by assumption)
   omega
  ·omega
 have n6:L6.length=64:=by rw[hL6,List.length_set,n5]
 have HN:Hid (L1.length=64/\L2.length=64/\L3.length=64/\L4.length=64/\L5.length=64/\L6.length=64/\ll.length=60/\(L6.drop 4).take 60=ll):=hid ⟨n1,n2,n3,n4,n5,n6,by rw[hl6,List.length_drop,n6],by rw[List.take_of_length_le (by rw[List.length_drop,n6];decide),hl6]⟩;have HSEC:Hid (lay L6 0 (be 4 X)=secB k base run i lb):=hid (by rw[hX,hl6,hL6,hm,hL5,hch,hL4,hL3,hL2,hL1,hgn];rfl);have HE:Hid (lay (List.replicate 64 0) 4 (be 6 gn)=L1/\lay L1 10 (be 4 run)=L2/\L2.set 14 i=L3/\L5.set 15 m=L6/\Plain.crc ll=X):=hid ⟨hL1.symm,hL2.symm,hL3.symm,hL6.symm,hX.symm⟩;have HE4:Hid (L4=if i=0 then lay L3 16 (be 6 base) else L3):=hid hL4
 have HCQ:Hid (∀ W,Bux 5 W U1 y b L4->Chg (· = y) W1 U1 W U1->∃ W2,(Builtin.copy_ #[74,74] 3 #[.slice (some ⟨b,if i=0 then 22 else 16,none⟩) (if i=0 then 42 else 48) (if i=0 then 42 else 48),srcV B nb c st]).run Tryz.prog W=.ok (goInt (m:Nat)) W2/\Bux 5 W2 U1 y b L5/\Chg (· = y) W U1 W2 U1):=hid fun W h1 h2=>by
  have:=HCP.out (if i=0 then 22 else 16) (if i=0 then 42 else 48) W L4 (by rw[n4];split <;> decide) h1 h2;rw[HCH.out.1,<- hch,<- hm,<- hL5]at this;exact this
 have hX4:X<4294967296:=by rw[hX];unfold Plain.crc;omega
 have hXw:IntKind.u64.wrap (X:Int)=(X:Int):=IntWalk.u64_in _ ⟨by omega,by omega⟩
 have g0:(0:Int)<=(gn:Int):=by omega
 have g1:(gn:Int)<=1000000:=by omega
 have b0:(0:Int)<=(base:Int):=by omega
 have b1:(base:Int)<=1000000:=by omega
 have HCP:=();clear HCP hL1 hL2 hL3 hL4 hch hm hL5 hL6 hl6 hX n1 n2 n3 n4 n5 n6 hgn hm42;clear hst hR hlb hrw hll hcap hB0 hB1 hG hy hW1 hb hU1 hgy hgd hk hrun hnb HB1 HC1 HG
 have h0:i=0\/(¬ i=0/\¬ ((i:Int)=0)):=by omega
 rcases h0 with h0|⟨h0,hi1⟩
 case' inr=>(simp only[if_neg h0]at HE4 HCQ)
 case' inl=>(subst h0;simp only[if_true]at HE4 HCQ)
 all_goals (
  go_enter Tryz.func270,Tryz.ntmps270
  go_wp2_with fail
  refine wp_region_hl [] [0,1,2,3,4,5,6] (SecS g 0 (.int .i64 (gn:Int))) (by kernel_rfl) (by kernel_rfl) S0.out ?_
  iterate 6 (refine hd_take (v:=?_) rfl rfl (by kernel_rfl) (fun W hW=>?_) ?_;rotate_left;(unfold SecS at hW;first|(go_simp;done)|(go_simp;with_reducible rfl)))
  refine hd_take (v:=?_) rfl rfl (by kernel_rfl) (fun W hW=>?_) (hd_end ?_)
  rotate_left
  ·unfold SecS at hW;first|(go_simp;done)|(go_simp;with_reducible rfl)
  simp only[zqa,zqb,zqc,zqd,Nat.zero_add,Nat.reduceAdd]
  go_wp2_with (go_at_call 246;fail)
  refine(put246 5 _ U1 y b 4 6 60 _ HS0.out (by decide) (by decide) gn).mono ?_;rintro e W2 ⟨⟨v2,rfl⟩,hb2,hc2⟩;rw[HE.out.1]at hb2;have HB2:=hid hb2;have HT2:Hid (Chg (· = y) W1 U1 W2 U1):=hid ((Chg.refl (· = y) W1 U1).drew.trans hc2);clear hb2 hc2
  go_wp2_with (go_at_call 246;fail)
  refine(put246 5 W2 U1 y b 10 4 54 _ HB2.out (by have:=HN.out.1;omega) (by decide) run).mono ?_;rintro e W3 ⟨⟨v3,rfl⟩,hb3,hc3⟩;rw[HE.out.2.1]at hb3;obtain⟨y14,hcell14⟩:=hb3.anyc 14 (by have:=HN.out.2.1;omega);have hf14:=hb3.frozen 14;have hb3s:=hb3.set_ 14 _ hi8;rw[HE.out.2.2.1]at hb3s;have hc3s:=fun u:Value=>(HT2.out.trans hc3).setCell (p:=⟨b,14,none⟩) hb3.own u;have HB3:=hid (And.intro hb3s hc3s);clear hc3s;clear hb3s;clear hb3 hc3 HB2 HT2
  go_wp2_with fail
  generalize hW4:World.setCell W3 _ _=W4;have HX:Hid (Bux 5 W4 U1 y b L3/\Chg (· = y) W1 U1 W4 U1):=hid (by rw[<- hW4];exact⟨HB3.out.1,HB3.out.2 _⟩)
  clear hcell14 hf14 HB3 hW4)
 focus(
  have HBd:=hid (HX.out.1.drewN 1);have HTd:=hid (HX.out.2.drew);have S1:Hid (SecS g 1 (.int .i64 (base:Int)) W4.drew):=hid ((HGD.out _ HTd.out).cell 1);clear HX;refine wp_region_hl [] [0,1,2,3,4,5,6] (SecS g 1 (.int .i64 (base:Int))) (by kernel_rfl) (by kernel_rfl) S1.out ?_
  iterate 6 (refine hd_take (v:=?_) rfl rfl (by kernel_rfl) (fun W hW=>?_) ?_;rotate_left;(unfold SecS at hW;first|(go_simp;done)|(go_simp;with_reducible rfl)))
  refine hd_take (v:=?_) rfl rfl (by kernel_rfl) (fun W hW=>?_) (hd_end ?_)
  rotate_left
  ·unfold SecS at hW;first|(go_simp;done)|(go_simp;with_reducible rfl)
  simp only[zqa,zqb,zqc,zqd,Nat.zero_add,Nat.reduceAdd]
  go_wp2_with (go_at_call 246;fail)
  refine(put246 5 _ U1 y b 16 6 48 _ HBd.out (by have:=HN.out.2.2.1;omega) (by decide) base).mono ?_;rintro e W4 ⟨⟨v5,rfl⟩,hb5,hc5⟩;rw[<- HE4.out]at hb5;have HX:=hid (And.intro hb5 (HTd.out.trans hc5));clear hb5 hc5 HBd HTd S1
  go_wp2_with fail)
 rotate_left
 focus(rw[<- HE4.out]at HX)
 all_goals (
  have S3:Hid (SecT W1 U1 g b y L4 (.slice B nb c) W4.drew):=hid ⟨(HGD.out _ HX.out.2.drew).cell 3,HX.out.1.drewN 1,HX.out.2.drew⟩;clear HX;refine wp_region_hl [7,15] [0,1,2,3,4,5,6,8,9,10,11,12,7,13,14,15,16] (SecS g 3 (.slice B nb c)) (by kernel_rfl) (by kernel_rfl) S3.out.1 ?_
  iterate 12 (refine hd_take (v:=?_) rfl rfl (by kernel_rfl) (fun W hW=>?_) ?_;rotate_left;(unfold SecS at hW;first|(go_simp;done)|(go_simp;with_reducible rfl)))
  refine hd_loud rfl rfl fun K hK=>?_;go_simp;refine(HST.out _).mono ?_;rintro e w6 ⟨rfl,rfl⟩;refine hK _ _ S3.out.1 ?_;clear hK;refine hd_take (v:=.int .i64 (st:Int)) rfl rfl (by kernel_rfl) (fun W hW=>by have hs:=HSTV.out;go_simp;first|(split <;> omega)|omega) ?_;refine hd_take (v:=srcV B nb c st) rfl rfl (by kernel_rfl) (fun W hW=>by have h:=HSLI.out W;first|(go_simp;done)|(go_simp;exact h)) ?_;refine hd_loud rfl rfl fun K hK=>?_;obtain⟨W5,hrun,hb5,hc5⟩:=HCQ.out W4.drew S3.out.2.1 S3.out.2.2;refine step_copy rfl (.tmp 42) (.tmp 55) 74 74 rfl _ _ _ W5 rfl rfl hrun ?_;have HB5:=hid (And.intro hb5 (S3.out.2.2.trans hc5));clear hrun hb5 hc5;refine hK _ _ ((HGD.out _ HB5.out.2).cell 3) ?_;clear hK;obtain⟨y15,hcell15⟩:=HB5.out.1.anyc 15 (by have:=HN.out.2.2.2.2.1;omega);have hf15:=HB5.out.1.frozen 15
  have k15:(m:Int)<=48:=by omega
  refine hd_take (v:=?_) rfl rfl (by kernel_rfl) (fun W hW=>?_) (hd_end ?_)
  rotate_left
  ·first|(go_simp;done)|(go_simp;with_reducible rfl)
  simp only[zqa,zqb,zqc,zqd,Nat.zero_add,Nat.reduceAdd]
  go_wp2_with fail
  generalize hW6:World.setCell W5 _ _=W6
  have HX6:Hid (Bux 5 W6 U1 y b L6/\Chg (· = y) W1 U1 W6 U1):=hid (by
   have h:=HB5.out.1.set_ 15 m (by omega);rw[HE.out.2.2.2.1]at h;rw[<- hW6]
   exact⟨h,HB5.out.2.setCell (p:=⟨b,15,none⟩) HB5.out.1.own _⟩)
  clear hcell15 hf15 hW6 HB5
  go_wp2_with fail
  have S6:Hid (SecU W1 U1 b y L6 W6.drew):=hid ⟨HX6.out.1.drewN 1,HX6.out.2.drew⟩;clear HX6
  have HSU:Hid (Calls Tryz.prog 171 #[.slice (some ⟨W6.heap.size,0,none⟩) 1 1] (W6.drew.alloc (.cells #[.slice (some ⟨b,4,none⟩) 60 60] 74)) fun e w'=>e=.returned (.int .u32 (X:Int))/\W6.drew.alloc (.cells #[.slice (some ⟨b,4,none⟩) 60 60] 74)=w'):=hid (by
   have hll:=HN.out.2.2.2.2.2.2;have hpt:=S6.out.1.part 4 60;rw[hll.2]at hpt;refine(sum_any (some ⟨W6.heap.size,0,none⟩) 1 1 [⟨some ⟨b,4,none⟩,60,ll⟩] _ ?_ rfl (by decide) ?_).mono ?_
   ·simp only[List.map_cons,List.map_nil,Part.val,hll.1];exact(Blk.new W6.drew 74 #[.slice (some ⟨b,4,none⟩) 60 60]).sl
   ·intro p hp;rw[List.mem_singleton.1 hp];exact⟨hpt.keep ((Below.refl _ _).alloc (Nat.le_refl _) _),by rw[hll.1];decide,fun x hx=>S6.out.1.lt x (List.mem_of_mem_drop (List.mem_of_mem_take (by rw[hll.2];exact hx)))⟩
   ·rintro e w1 ⟨rfl,rfl⟩
    exact⟨by rw[<- HE.out.2.2.2.2];simp[List.flatMap],rfl⟩)
  have HS7:Hid (SecU W1 U1 b y L6 (W6.drew.alloc (.cells #[.slice (some ⟨b,4,none⟩) 60 60] 74))):=hid ⟨S6.out.1.alloc _,S6.out.2.alloc _⟩;refine wp_region_hl [4,5] [0,1,2,3,4,5,6] (fun _=>True) (by kernel_rfl) (by kernel_rfl) trivial ?_
  iterate 4 (refine hd_take (v:=?_) rfl rfl (by kernel_rfl) (fun W hW=>?_) ?_;rotate_left;(first|(go_simp;done)|(go_simp;with_reducible rfl)))
  refine hd_loud rfl rfl fun K hK=>?_;go_simp;refine hK _ _ trivial ?_;clear hK;refine hd_loud rfl rfl fun K hK=>?_;go_simp;refine HSU.out.mono ?_;rintro e w7 ⟨rfl,rfl⟩;refine hK _ _ trivial ?_;clear hK;refine hd_take (v:=?_) rfl rfl (by kernel_rfl) (fun W hW=>?_) (hd_end ?_)
  rotate_left
  ·first|(go_simp;done)|(go_simp;with_reducible rfl)
  simp only[zqa,zqb,zqc,zqd,Nat.zero_add,Nat.reduceAdd]
  go_wp2_with (go_at_call 246;fail)
  refine(put246 5 _ U1 y b 0 4 64 _ HS7.out.1 (by have:=HN.out.2.2.2.2.2.1;omega) (by decide) X).mono ?_;rintro e w8 ⟨⟨v8,rfl⟩,hb8,hc8⟩;rw[HSEC.out]at hb8;have HF:=hid (FIN.out w8 _ hb8 (HS7.out.2.trans hc8));clear hb8 hc8
  go_wp2
  go_ret
  exact⟨b,_,_,rfl,HF.out.1,HF.out.2⟩)
def WrS (lp g d from_ segs run k:Nat)(W:World):Prop:=W.cell? ⟨g,0,none⟩=some (.int .i64 ((k+1:Nat):Int))/\W.cell? ⟨lp,0,none⟩=some (.pointer (some ⟨d,0,none⟩))/\W.cell? ⟨lp,1,none⟩=some (.int .i64 (from_:Int))/\W.cell? ⟨lp,2,none⟩=some (.int .i64 (segs:Int))/\W.cell? ⟨lp,5,none⟩=some (.int .i64 (run:Int))
theorem write248 (w:World)(U:Own)(t tg td lp g d from_ segs run k base i n nb c rn:Nat)(B:Option Addr)(Z:Cont)(F:Nat->Prop)(vL vn fr rv:Value)(lb:List Nat)(hR:Rw w U tg 5 1 (.slice B nb c) nb (bv lb))(hlb:∀ x∈lb,x<256)(hnb:nb<=400)
 (hL:Has w U t lp 328 #[.pointer (some ⟨d,0,none⟩),.int .i64 (from_:Int),.int .i64 (segs:Int),vL,vn,.int .i64 (run:Int),fr])(hG:Has w U tg g 353 #[.int .i64 ((k+1:Nat):Int),.int .i64 (base:Int),.int .i64 (rn:Int),.slice B nb c,rv])
 (hD:DevAt w U td d n Z F)(ht:t≠td)(htg:tg≠td)(hk:k<segs)(hsegs:segs<=1000)(hi:i<8)(hn:from_+k*8+i<n)(hn2:n<=2048)(hrun:run<=1000000)(hbase:base<=1000000) :
 Calls Tryz.prog 248 #[.pointer (some ⟨lp,0,none⟩),.pointer (some ⟨g,0,none⟩),.int .i64 (i:Int)] w fun e w'=>e=.returned (.int .i64 0)/\∃ U',DevAt w' U' td d n (upd Z (from_+k*8+i) (secB k base run i lb)) Loose/\Chg (· = td) w U w' U':=by
 obtain⟨Z',hZ'⟩:∃ Z',Z'=upd Z (from_+k*8+i) (secB k base run i lb):=⟨_,rfl⟩;rw[<- hZ'];have HSO:=hid (sec_ok k base run i lb hi hlb);obtain⟨x,hx⟩:=fresh w U
 have hxd:x≠td:=by rintro rfl;exact hx _ hD.own.1 hD.own.2
 have hc2:Chg (fun _=>False) w U w.drew.drew U:=(Chg.refl _ w U).drew.drew;have HSEC:=hid (sector_any w.drew.drew U tg g k base i run x nb c rn B rv lb hi (by omega) hrun hbase (hG.keep hc2 id) (hR.keep hc2 id) hlb hnb)
 have e3:((from_+k*8+i:Nat):Int)=(from_:Int)+(k:Int)*8+(i:Int):=by omega
 have HWR:Hid (∀ W U1 b c,Bux 5 W U1 x b (secB k base run i lb)->Chg (fun _=>False) w.drew.drew U W U1->Calls Tryz.prog 132 #[.pointer (some ⟨d,0,none⟩),.int .i64 ((from_:Int)+(k:Int)*8+(i:Int)),.slice (some ⟨b,0,none⟩) 64 c] W fun e w'=>e=.returned (.int .i64 0)/\DevAt w' U1 td d n Z' Loose/\Chg (· = td) W U1 w' U1):=hid (fun W U1 b c hb hc=>by
  rw[<- e3,hZ']
  exact write_any W U1 td d n Z F (((hD.drewN 1).drewN 1).keep hc id) (from_+k*8+i) hn (some ⟨b,0,none⟩) 64 c (secB k base run i lb) HSO.out.len rfl hb.lt hb.sl (by intro e;cases e))
 have hS:∀ W U',Chg (fun _=>False) w U W U'->WrS lp g d from_ segs run k W:=fun W U' h=>⟨(hG.keep h id).cell 0,(hL.keep h id).cell 0,(hL.keep h id).cell 1,(hL.keep h id).cell 2,(hL.keep h id).cell 5⟩;have S1:=hid (hS _ _ (Chg.refl _ w U).drew);have S2:=hid (hS _ _ hc2);have HS:=hid (fun W U' h=>hS W U' (hc2.trans h));have k2:(k:Int)%(segs:Int)=(k:Int):=Int.emod_eq_of_lt (by omega) (by omega)
 have q0:¬ ((segs:Int)=0):=by omega
 have b1:(k:Int)<=1000:=by omega
 have b2:(from_:Int)<=2048:=by omega
 have b3:(i:Int)<=8:=by omega
 have q3:(run:Int)<=1000000:=by omega
 clear hx hL hG hD hR hlb hS e3 hc2 hk hsegs hn hn2 hi hZ' hrun;go_enter Tryz.func248,Tryz.ntmps248
 go_wp2_with fail
 refine wp_region_hl [] [0,1,2,3,4,5,6,7,8] (WrS lp g d from_ segs run k) (by kernel_rfl) (by kernel_rfl) S1.out ?_
 iterate 9 (refine hd_take (v:=?_) rfl rfl (by kernel_rfl) (fun W hW=>?_) ?_;rotate_left;(obtain⟨r0,r1,r2,r3,r4⟩:=hW;first|(go_simp;done)|(go_simp;with_reducible rfl)))
 refine hd_end ?_;simp only[zqa,zqb,zqc,zqd,Nat.zero_add,Nat.reduceAdd]
 go_wp2_with fail
 refine wp_region_hl [19] [0,1,2,3,4,5,6,7,8,9,10,11,12,13,14,15,16,17,18,19] (WrS lp g d from_ segs run k) (by kernel_rfl) (by kernel_rfl) S2.out ?_
 iterate 19 (refine hd_take (v:=?_) rfl rfl (by kernel_rfl) (fun W hW=>?_) ?_;rotate_left;(obtain⟨r0,r1,r2,r3,r4⟩:=hW;first|(go_simp;done)|(go_simp;with_reducible rfl)))
 refine hd_loud rfl rfl fun K hK=>?_;go_simp;refine HSEC.out.mono ?_;rintro e w1 ⟨b,c1,U1,rfl,hb1,hc1⟩;have HB1:=hid (And.intro hb1 hc1);have S3:=hid (HS.out w1 U1 hc1);clear hb1 hc1;refine hK _ _ S3.out (hd_end ?_);clear hK;simp only[zqa,zqb,zqc,zqd,Nat.zero_add,Nat.reduceAdd]
 go_wp2_with (go_at_call 132;fail)
 refine(HWR.out w1 U1 b c1 HB1.out.1 HB1.out.2).mono ?_;rintro e w2 ⟨rfl,hd2,hc2⟩;have HF:Hid (DevAt w2 U1 td d n Z' Loose/\Chg (· = td) w U w2 U1):=hid ⟨hd2,(((Chg.refl _ w U).drew.drew.trans HB1.out.2).mono fun _ h=>h.elim).trans hc2⟩;clear hd2 hc2
 go_wp2
 go_ret;exact⟨rfl,U1,HF.out⟩
theorem write248n (w:World)(U:Own)(t tg td lp g d from_ segs run k base n rn:Nat)(Z:Cont)(F:Nat->Prop)(vL vn fr rv:Value)
 (hL:Has w U t lp 328 #[.pointer (some ⟨d,0,none⟩),.int .i64 (from_:Int),.int .i64 (segs:Int),vL,vn,.int .i64 (run:Int),fr])(hG:Has w U tg g 353 #[.int .i64 ((k+1:Nat):Int),.int .i64 (base:Int),.int .i64 (rn:Int),.slice none 0 0,rv])
 (hD:DevAt w U td d n Z F)(ht:t≠td)(htg:tg≠td)(hk:k<segs)(hsegs:segs<=1000)(hn:from_+k*8+0<n)(hn2:n<=2048)(hrun:run<=1000000)(hbase:base<=1000000) :
 Calls Tryz.prog 248 #[.pointer (some ⟨lp,0,none⟩),.pointer (some ⟨g,0,none⟩),.int .i64 0] w fun e w'=>e=.returned (.int .i64 0)/\∃ U',DevAt w' U' td d n (upd Z (from_+k*8+0) (secB k base run 0 [])) Loose/\Chg (· = td) w U w' U':=
 write248 w U t tg td lp g d from_ segs run k base 0 n 0 0 rn none Z F vL vn fr rv [] (Rw.nil _ _ _ _ _) (by simp) (by decide) hL hG hD ht htg hk hsegs (by decide) hn hn2 hrun hbase
def BcS (gx vg bl g lp segs kx k:Nat)(W:World):Prop:=W.cell? ⟨gx,0,none⟩=some (.int .i64 ((kx+1:Nat):Int))/\W.cell? ⟨vg,0,none⟩=some (.pointer (some ⟨g,0,none⟩))/\W.cell? ⟨g,0,none⟩=some (.int .i64 ((k+1:Nat):Int))/\W.cell? ⟨bl,0,none⟩=some (.pointer (some ⟨lp,0,none⟩))/\W.cell? ⟨lp,2,none⟩=some (.int .i64 (segs:Int))
theorem begin269 (w:World)(gx vg bl g lp segs kx k:Nat)(h1:w.cell? ⟨gx,0,none⟩=some (.int .i64 ((kx+1:Nat):Int)))(h2:w.cell? ⟨vg,0,none⟩=some (.pointer (some ⟨g,0,none⟩)))(h3:w.cell? ⟨g,0,none⟩=some (.int .i64 ((k+1:Nat):Int)))
 (h4:w.cell? ⟨bl,0,none⟩=some (.pointer (some ⟨lp,0,none⟩)))(h5:w.cell? ⟨lp,2,none⟩=some (.int .i64 (segs:Int)))(hk:k<segs)(hs:segs<=1000) :
 Calls Tryz.prog 269 #[.pointer (some ⟨gx,0,none⟩),.pointer (some ⟨vg,0,none⟩),.pointer (some ⟨bl,0,none⟩)] w fun e w'=>e=.returned (.bool false)/\w'=w.drew:=by
 have S0:Hid (BcS gx vg bl g lp segs kx k w.drew):=hid ⟨h1,h2,h3,h4,h5⟩;have x1:IntKind.i64.wrap ((k:Int)+1-(segs:Int))=(k:Int)+1-(segs:Int):=IntWalk.i64_in _ ⟨by omega,by omega⟩
 have x2:decide ((kx:Int)+1<=(k:Int)+1-(segs:Int))=false:=by rw[decide_eq_false_iff_not];omega
 clear h1 h2 h3 h4 h5;go_enter Tryz.func269,Tryz.ntmps269
 go_wp2_with fail
 refine wp_region_hl [] [0,1,2,3,4,5,6,7,8,9,10,11,12] (BcS gx vg bl g lp segs kx k) (by kernel_rfl) (by kernel_rfl) S0.out ?_
 iterate 13 (refine hd_take (v:=?_) rfl rfl (by kernel_rfl) (fun W hW=>?_) ?_;rotate_left;(obtain⟨r0,r1,r2,r3,r4⟩:=hW;first|(go_simp;done)|(go_simp;with_reducible rfl)))
 refine hd_end ?_;simp only[zqa,zqb,zqc,zqd,Nat.zero_add,Nat.reduceAdd]
 go_wp2
 go_ret;exact⟨rfl,rfl⟩
theorem idx292 (w:World)(A:Option Addr)(n c:Nat)(xs:List Value)(x1:Value)(x2:Value)(hs:Sl w A xs)(hn:xs.length=n)(hm:n<=1000000)
 (hF:∀ m i (h:i<xs.length),Calls Tryz.prog 269 #[xs[i],x1,x2] (w.drewN m) fun e w'=>e=.returned (.bool false)/\∃ m',w'=w.drewN m') :
 Calls Tryz.prog 292 #[.slice A n c,.func (.func 269) #[] #[x1,x2]] w fun e w'=>e=.returned (.int .i64 (-1))/\∃ m,w'=w.drewN m:=by
 have HS:=hid hs;have HF:=hid hF;clear hs hF;go_enter Tryz.func292,Tryz.ntmps292
 go_wp2
 go_loopw [8] (fun i wr=>∃ k m:Nat,k<=n/\i=.int .i64 k/\wr=w.drewN m) (fun i _=>n-(intOf i).toNat)
 case atStart=>exact⟨0,0,Nat.zero_le _,rfl,rfl⟩
 case round=>
  obtain⟨k,m,hk,rfl,rfl⟩:=hrel
  by_cases hlt:k<n
  ·have k1:(k:Int)<(n:Int):=by omega
   have k2:(0:Int)<=(k:Int):=by omega
   obtain⟨b,off,rfl,hcs⟩:=HS.out (by intro e;subst e;simp at hn;omega);have hc:w.cell? ⟨b,off+k,none⟩=some xs[k]:=hcs k _ (List.getElem?_eq_getElem (by omega));have hc':(w.drewN m).cell? ⟨b,off+k,none⟩=some xs[k]:=hc;clear hcs;have HQ:=hid (HF.out m k (by omega));generalize xs[k]=q at *
   go_wp2_with fail
   refine HQ.out.mono ?_;rintro e w1 ⟨rfl,m',rfl⟩;clear HQ hc hc'
   go_wp2
   go_roundw
   case rel=>exact⟨k+1,m',by omega,by go_num,rfl⟩
   case measure=>simp[intOf];omega
  ·obtain rfl:k=n:=by omega
   go_wp2
   go_ret;exact⟨rfl,m,rfl⟩
theorem del268 (w:World)(A:Option Addr)(n c:Nat)(xs:List Value)(x1:Value)(x2:Value)(hs:Sl w A xs)(hn:xs.length=n)(hm:n<=1000000)
 (hF:∀ m i (h:i<xs.length),Calls Tryz.prog 269 #[xs[i],x1,x2] (w.drewN m) fun e w'=>e=.returned (.bool false)/\∃ m',w'=w.drewN m') :
 Calls Tryz.prog 268 #[.slice A n c,.func (.func 269) #[] #[x1,x2]] w fun e w'=>e=.returned (.slice A n c)/\∃ m,w'=w.drewN m:=by
 have HQ:=hid (idx292 w A n c xs x1 x2 hs hn hm hF);clear hs hF;go_enter Tryz.func268,Tryz.ntmps268
 go_wp2_with fail
 refine HQ.out.mono ?_;rintro e w1 ⟨rfl,m,rfl⟩
 go_wp2
 go_ret;exact⟨rfl,m,rfl⟩
abbrev ptr (g:Nat):Value:=.pointer (some ⟨g,0,none⟩)
abbrev Segs:=List (Nat × List (List UInt8))
def Segs.ptrs (S:Segs):List Value:=S.map fun p=>ptr p.1
theorem Segs.ptrs_length (S:Segs):S.ptrs.length=S.length:=by simp[Segs.ptrs]
structure LogS (w:World)(U:Own)(t lp d from_ segs nxt:Nat)(fr:Bool)(f:Lf)(S:Segs):Prop where
 ht:t<95
 ex:∃ vL,Has w U t lp 328 #[ptr d,.int .i64 (from_:Int),.int .i64 (segs:Int),vL,.int .i64 (nxt:Int),.int .i64 (lrun f:Int),.bool fr]/\Rw w U (t+96) 354 1 vL S.length S.ptrs
 seg:∀ k p,S[k]? = some p->SegAt w U (t+96*(k+3)) (t+192) p.1 k f ((S.take k).flatMap (·.2)).length p.2
section
variable {T : Nat -> Prop} {w w' : World} {U U' : Own} {t lp d from_ segs nxt : Nat} {fr : Bool} {f : Lf} {S : Segs}
theorem LogS.keep (h:LogS w U t lp d from_ segs nxt fr f S)(hc:Chg T w U w' U')(hT:∀ x,T x->x%96≠t):LogS w' U' t lp d from_ segs nxt fr f S:=by
 obtain⟨vL,h1,h2⟩:=h.ex;have ht:=h.ht;refine⟨ht,⟨vL,h1.keep hc (fun e=>hT _ e (by omega)),h2.keep hc (fun e=>hT _ e (by omega))⟩,fun k p hp=>(h.seg k p hp).keep hc (fun e=>hT _ e (by omega)) (fun e=>hT _ e (by omega))⟩
end
structure BG (w:World)(U:Own)(t td y lp d from_ segs nxt n bl g vg gen:Nat)(fr:Bool)(f:Lf)(Z:Cont)(S:Segs)(vL vr:Value)(xs:List Value)(W:World)(U':Own):Prop where
 hl:Has W U' t lp 328 #[ptr d,.int .i64 (from_:Int),.int .i64 (segs:Int),vL,.int .i64 (nxt:Int),.int .i64 (lrun f:Int),.bool fr]
 hr:Rw W U' (t+96) 354 1 vr xs.length xs
 hs:∀ k p,S[k]? = some p->SegAt W U' (t+96*(k+3)) (t+192) p.1 k f ((S.take k).flatMap (·.2)).length p.2
 hg:Has W U' (t+96*(S.length+3)) g 353 #[.int .i64 (gen:Int),.int .i64 (nxt:Int),.int .i64 ((0:Nat):Int),.slice none 0 0,.slice none 0 0]
 hv:Has W U' y vg 354 #[ptr g]
 hb:Has W U' y bl 271 #[ptr lp]
 hd:∃ F,DevAt W U' td d n Z F
 hc:Chg (fun x=>x%96=t\/x=td\/x=y) w U W U'
section
variable {T : Nat -> Prop} {w W W' : World} {U U' U2 : Own} {t td y lp d from_ segs nxt n bl g vg gen : Nat} {fr : Bool} {f : Lf} {Z Z' : Cont} {F : Nat -> Prop} {S : Segs} {vL vr : Value} {xs : List Value}
theorem BG.chg (h:BG w U t td y lp d from_ segs nxt n bl g vg gen fr f Z S vL vr xs W U')(hc:Chg (fun _=>False) W U' W' U2):BG w U t td y lp d from_ segs nxt n bl g vg gen fr f Z S vL vr xs W' U2 where
 hl:=h.hl.keep hc id
 hr:=h.hr.keep hc id
 hs:=fun k p hp=>(h.hs k p hp).keep hc id id
 hg:=h.hg.keep hc id
 hv:=h.hv.keep hc id
 hb:=h.hb.keep hc id
 hd:=by obtain⟨F,h⟩:=h.hd;exact⟨F,h.keep hc id⟩
 hc:=h.hc.trans (hc.mono fun _ e=>e.elim)
theorem BG.drewN (h:BG w U t td y lp d from_ segs nxt n bl g vg gen fr f Z S vL vr xs W U')(m:Nat):BG w U t td y lp d from_ segs nxt n bl g vg gen fr f Z S vL vr xs (W.drewN m) U':=h.chg ((Chg.refl _ _ _).drewN m)
theorem BG.alloc (h:BG w U t td y lp d from_ segs nxt n bl g vg gen fr f Z S vL vr xs W U')(o:Obj):BG w U t td y lp d from_ segs nxt n bl g vg gen fr f Z S vL vr xs (W.alloc o) (ext U' W y):=h.chg (((Chg.refl _ _ _).alloc o).ext y)
theorem BG.dev (h:BG w U t td y lp d from_ segs nxt n bl g vg gen fr f Z S vL vr xs W U')(hc:Chg (· = td) W U' W' U2)(hd:DevAt W' U2 td d n Z' F)(ht:t<95)(htd:td<95)(hne:td≠t)(hy:y%96=95) :
 BG w U t td y lp d from_ segs nxt n bl g vg gen fr f Z' S vL vr xs W' U2 where
 hl:=h.hl.keep hc (by omega)
 hr:=h.hr.keep hc (by omega)
 hs:=fun k p hp=>(h.hs k p hp).keep hc (by omega) (by omega)
 hg:=h.hg.keep hc (by omega)
 hv:=h.hv.keep hc (by omega)
 hb:=h.hb.keep hc (by omega)
 hd:=⟨F,hd⟩
 hc:=h.hc.trans (hc.mono fun _ e=>.inr (.inl e))
theorem BG.setGen (h:BG w U t td y lp d from_ segs nxt n bl g vg gen fr f Z S vL vr xs W U')(ht:t<95)(htd:td<95)(hne:td≠t)(hy:y%96=95)(gen':Nat) :
 BG w U t td y lp d from_ segs nxt n bl g vg gen' fr f Z S vL vr xs (W.setCell ⟨g,0,none⟩ (.int .i64 (gen':Int))) U' where
 hl:=h.hl.far (h.hl.other h.hg (.inr (by decide))) _
 hr:=h.hr.far (by show U' g≠_;rw[h.hg.own];omega) _
 hs:=fun k p hp=>by
  have hk:k<S.length:=(List.getElem?_eq_some_iff.1 hp).1;refine(h.hs k p hp).keep ((Chg.refl (· = t+96*(S.length+3)) W U').setCell (by show U' g=_;exact h.hg.own) _) (by omega) (by omega)
 hg:=by
  have:=h.hg.set_ 0 (.int .i64 (gen':Int))
  simpa using this
 hv:=h.hv.far (h.hv.other h.hg (.inr (by decide))) _
 hb:=h.hb.far (h.hb.other h.hg (.inr (by decide))) _
 hd:=by obtain⟨F,h'⟩:=h.hd;exact⟨F,h'.far (by show U' g≠_;rw[h.hg.own];omega) _⟩
 hc:=h.hc.setCell (.inl (by show U' g%96=_;rw[h.hg.own];omega)) _
theorem BG.setL (h:BG w U t td y lp d from_ segs nxt n bl g vg gen fr f Z S vL vr xs W U')(ht:t<95)(htd:td<95)(hne:td≠t)(hy:y%96=95)(v:Value)(hv:v=vr) :
 BG w U t td y lp d from_ segs nxt n bl g vg gen fr f Z S vr vr xs (W.setCell ⟨lp,3,none⟩ v) U' where
 hl:=by
  have:=h.hl.set_ 3 vr;subst hv
  simpa using this
 hr:=h.hr.far (by show U' lp≠_;rw[h.hl.own];omega) _
 hs:=fun k p hp=>(h.hs k p hp).keep ((Chg.refl (· = t) W U').setCell (by show U' lp=_;exact h.hl.own) _) (by omega) (by omega)
 hg:=h.hg.far (h.hg.other h.hl (.inr (by decide))) _
 hv:=h.hv.far (h.hv.other h.hl (.inr (by decide))) _
 hb:=h.hb.far (h.hb.other h.hl (.inr (by decide))) _
 hd:=by obtain⟨F,h'⟩:=h.hd;exact⟨F,h'.far (by show U' lp≠_;rw[h.hl.own];omega) _⟩
 hc:=h.hc.setCell (.inl (by show U' lp%96=_;rw[h.hl.own];omega)) _
theorem BG.app (h:BG w U t td y lp d from_ segs nxt n bl g vg gen fr f Z S vL vr xs W U')(ht:t<95)(htd:td<95)(hne:td≠t)(hy:y%96=95){v:Value}{ys:List Value}(hR:Rw W' U2 (t+96) 354 1 v ys.length ys)(hc:Chg (· = t+96) W U' W' U2) :
 BG w U t td y lp d from_ segs nxt n bl g vg gen fr f Z S vL v ys W' U2 where
 hl:=h.hl.keep hc (by omega)
 hr:=hR
 hs:=fun k p hp=>(h.hs k p hp).keep hc (by omega) (by omega)
 hg:=h.hg.keep hc (by omega)
 hv:=h.hv.keep hc (by omega)
 hb:=h.hb.keep hc (by omega)
 hd:=by obtain⟨F,h⟩:=h.hd;exact⟨F,h.keep hc (by omega)⟩
 hc:=h.hc.trans (hc.mono fun _ e=>.inl (by omega))
theorem BG.fin (h:BG w U t td y lp d from_ segs nxt n bl g vg (S.length+1) fr f Z S vL vL (Segs.ptrs (S++[(g,([]:List (List UInt8)))])) W U')(ht:t<95)(hn:nxt=pz f (S.flatMap (·.2)).length) :
 LogS W U' t lp d from_ segs nxt fr f (S++[(g,([]:List (List UInt8)))]) where
 ht:=ht
 ex:=⟨vL,h.hl,by have:=h.hr;rwa [Segs.ptrs_length]at this⟩
 seg:=fun k p hp=>by
  rcases Nat.lt_trichotomy k S.length with h1|h1|h1
  ·rw[List.getElem?_append_left h1]at hp
   rw[List.take_append_of_le_length (by omega)];exact h.hs k p hp
  ·subst h1
   rw[List.getElem?_append_right (Nat.le_refl _),Nat.sub_self]at hp;simp only[List.getElem?_cons_zero,Option.some.injEq]at hp;subst hp;rw[List.take_left']
   ·exact⟨.slice none 0 0,0,.slice none 0 0,[],by rw[<- hn];exact h.hg,Rw.nil _ _ _ _ _,Nat.zero_le _,Rw.nil _ _ _ _ _,rfl,fun i l hl=>by simp at hl⟩
   ·rfl
  ·rw[List.getElem?_eq_none (by simp;omega)]at hp
   cases hp
end
end Go.Proofs.Ytlhekbjidppijaa
