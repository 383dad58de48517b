/- Contracts of what TopFall reaches: what each function returns and leaves in memory. Conditions: as named. -/
import Derived.ProofKit
import Derived.OpenShut
import Derived.ShutString
import Derived.SliceStrings
import Derived.Deep.Matrix
import Derived.Deep.Draws
import Derived.RegionTactic
import Derived.OwnWalk
import Derived.Deep.Slices
import Derived.Deep.Fields
import Derived.Test.YtlhekbjidppijaaGreatProg
import Derived.Lib.Hide
import Derived.Test.YtlhekbjidppijaaGreatMAA
set_option linter.unusedVariables false
set_option linter.unusedSimpArgs false
set_option maxRecDepth 20000
set_option maxHeartbeats 8000000
namespace Go.Proofs.Ytlhekbjidppijaa
open Lib (hid)
open Go.RowKit Go.ChangeShapes Go.WideShapes
def Sl (w:World)(A:Option Addr)(xs:List Value):Prop:=
 xs≠[]->∃ b off,A=some ⟨b,off,none⟩/\∀ j u,xs[j]? = some u->w.cell? ⟨b,off+j,none⟩=some u
theorem Sl.at_ {w:World}{A:Option Addr}{xs:List Value}(h:Sl w A xs)(k:Nat)(hk:k<xs.length) :
 ∃ b off,A=some ⟨b,off,none⟩/\w.cell? ⟨b,off+k,none⟩=some xs[k]:=by
 obtain⟨b,off,rfl,hc⟩:=h (by intro e;subst e;simp at hk);exact⟨b,off,rfl,hc k _ (List.getElem?_eq_getElem hk)⟩
theorem Sl.nil {w:World}{A:Option Addr}:Sl w A []:=fun h=>absurd rfl h
theorem spot_of {w:World}{a:Addr}{v:Value}(h:w.cell? a=some v):a.spot=none:=World.cell?_spot h
theorem Sl.of_cells {w:World}{a:Addr}{xs:List Value}(h:∀ j u,xs[j]? = some u->w.cell? (a.add j)=some u):Sl w (some a) xs:=by
 intro hne;obtain⟨b,off,spot⟩:=a;have hx:xs[0]? = some (xs[0]'(by cases xs;exact absurd rfl hne;simp)):=List.getElem?_eq_getElem _;have h0:=h 0 _ hx
 have hs:spot=none:=by
  have:=spot_of h0
  simpa [Addr.add] using this
 subst hs;refine⟨b,off,rfl,fun j u hu=>?_⟩;have:=h j u hu
 by_cases hj:j=0
 ·subst hj;simpa [Addr.add] using this
 ·simpa [Addr.add,hj] using this
theorem Sl.keep {w w':World}{A:Option Addr}{xs:List Value}(h:Sl w A xs)(hb:Below w.heap.size w w'):Sl w' A xs:=by
 intro hne;obtain⟨b,off,rfl,hc⟩:=h hne;refine⟨b,off,rfl,fun j u hu=>?_⟩;have:=hc j u hu;rw[hb.cell (p:=⟨b,off+j,none⟩) (World.block_lt_of_cell? w _ this)];exact this
theorem Sl.of_own {w:World}{base:Nat}{e:TypeId}{v:Value}{n:Nat}{xs:List Value}(h:w.ownsRow base e 1 v n xs):∃ A c,v=.slice A n c/\n<=c/\c<=maxLen/\xs.length=n/\Sl w A xs:=by
 have hl:xs.length=n:=by have:=h.1;omega
 rcases h.2 with ⟨rfl,rfl⟩|⟨g,cap,cur,rfl,_,_,hc,hm,_⟩
 ·obtain rfl:xs=[]:=List.eq_nil_of_length_eq_zero hl
  exact⟨none,0,rfl,Nat.le_refl _,Nat.zero_le _,rfl,Sl.nil⟩
 ·exact⟨_,cap,rfl,hc,hm,hl,Sl.of_cells (h.cells (g:=g) rfl)⟩
section
variable {H : Type} {enc : TypeId × Value -> H} {P : Program} {W : World}
structure Row where
 A:Option Addr
 len:Nat
 cap:Nat
 zs:List Int
end
end Go.Proofs.Ytlhekbjidppijaa
namespace Go.Proofs.Ytlhekbjidppijaa
open Lib (hid)
open Go.RowKit
def Blk (w:World)(g:Nat)(t:TypeId)(cs:Array Value):Prop:=w.heap[g]? = some (.cells cs t (0,0))
section
variable {w w' : World} {g : Nat} {t : TypeId} {cs : Array Value}
theorem Blk.lt (h:Blk w g t cs):g<w.heap.size:=by
 rcases Nat.lt_or_ge g w.heap.size with hlt|hge
 ·exact hlt
 ·unfold Blk at h;rw[Array.getElem?_eq_none hge]at h;cases h
theorem Blk.cell (h:Blk w g t cs)(i:Nat):w.cell? ⟨g,i,none⟩=cs[i]?:=cell_of_row w g i cs t (0,0) h
theorem Blk.frozen (h:Blk w g t cs)(i:Nat):w.frozen? ⟨g,i,none⟩=false:=by
 unfold Blk at h;simp[World.frozen?,h]
theorem Blk.new (w:World)(t:TypeId)(cs:Array Value):Blk (w.alloc (.cells cs t)) w.heap.size t cs:=heap_alloc_new w _
theorem Blk.drew (h:Blk w g t cs):Blk w.drew g t cs:=h
theorem Blk.drewN (h:Blk w g t cs)(n:Nat):Blk (w.drewN n) g t cs:=h
theorem Blk.alloc (h:Blk w g t cs)(o:Obj):Blk (w.alloc o) g t cs:=(Below.heap_alloc w o g h.lt).trans h
theorem Blk.set_ (h:Blk w g t cs)(i:Nat)(u:Value):Blk (w.setCell ⟨g,i,none⟩ u) g t (cs.setIfInBounds i u):=by
 unfold Blk at h ⊢;simp[World.setCell,Array.getElem?_modify,h]
theorem Blk.far (h:Blk w g t cs){p:Addr}(hp:g≠p.block)(u:Value):Blk (w.setCell p u) g t cs:=(Below.heap_setCell w p u g hp).trans h
theorem Blk.below {B:Nat}(h:Blk w g t cs)(hb:Below B w w')(hg:g<B):Blk w' g t cs:=(hb.block g hg).trans h
theorem Blk.grown {row:Option Nat}(h:Blk w g t cs)(hb:w.grownBy w' row)(hg:some g≠row):Blk w' g t cs:=(hb.block g h.lt hg).trans h
end
theorem Blk.sl {w:World}{g:Nat}{t:TypeId}{xs:List Value}(h:Blk w g t xs.toArray):Sl w (some ⟨g,0,none⟩) xs:=
 fun _=>⟨g,0,rfl,fun j u hu=>by rw[Nat.zero_add,h.cell j,List.getElem?_toArray];exact hu⟩
def mkI (x:Int):Value:=.int .i64 x
def entsF (p:Nat->Bool)(n:Nat)(bl:Nat->Nat):List (Ent Int):=((List.range n).filter p).map fun i=>(((i:Nat):Int)+1,.pointer (some ⟨bl i,0,none⟩),i)
theorem entsF_succ (p:Nat->Bool)(n:Nat)(bl:Nat->Nat):entsF p (n+1) bl=entsF p n bl++if p n then [((n:Int)+1,.pointer (some ⟨bl n,0,none⟩),n)] else []:=by
 unfold entsF;rw[List.range_succ,List.filter_append,List.map_append]
 congr 1
 by_cases h:p n <;> simp[h]
theorem entsF_congr {p q:Nat->Bool}{n:Nat}{bl bl':Nat->Nat}(h:∀ i,i<n->p i=q i)(hb:∀ i,i<n->bl i=bl' i):entsF p n bl=entsF q n bl':=by
 induction n with
 | zero=>rfl
 | succ n ih=>
  rw[entsF_succ,entsF_succ,ih (fun i hi=>h i (by omega)) (fun i hi=>hb i (by omega)),h n (by omega),hb n (by omega)]
theorem keyPos_cons {κ:Type}[DecidableEq κ](k:κ)(q:Ent κ)(l:List (Ent κ))(i:Nat):keyPos k (q :: l) i=if k=q.1 then some (i,q.2.1) else keyPos k l (i+1):=rfl
theorem keyPos_append {κ:Type}[DecidableEq κ](k:κ):∀ (l m:List (Ent κ)) (i:Nat),keyPos k (l++m) i=match keyPos k l i with|some r=>some r|none=>keyPos k m (i+l.length):=by
 intro l
 induction l with
 | nil=>intro m i;simp[keyPos]
 | cons q l ih=>
  intro m i;rw[List.cons_append,keyPos_cons,keyPos_cons]
  by_cases h:k=q.1
  ·simp[h]
  ·rw[if_neg h,if_neg h,ih,List.length_cons,show i+1+l.length=i+(l.length+1) by omega]
theorem keyPos_entsF_out (p:Nat->Bool)(n:Nat)(bl:Nat->Nat)(k:Int)(h:∀ i,i<n->p i=true->k≠(i:Int)+1):∀ j,keyPos k (entsF p n bl) j=none:=by
 intro j;rw[keyPos_none];intro q hq;unfold entsF at hq;obtain⟨i,hi,rfl⟩:=List.mem_map.1 hq;obtain⟨h1,h2⟩:=List.mem_filter.1 hi;exact h i (by simpa using h1) h2
theorem keyPos_entsF_in (p:Nat->Bool)(n:Nat)(bl:Nat->Nat)(i:Nat)(hi:i<n)(hp:p i=true):∀ j,∃ m,keyPos ((i:Int)+1) (entsF p n bl) j=some (m,.pointer (some ⟨bl i,0,none⟩)):=by
 induction n with
 | zero=>omega
 | succ n ih=>
  intro j;rw[entsF_succ,keyPos_append]
  by_cases h:i<n
  ·obtain⟨m,hm⟩:=ih h j
   rw[hm];exact⟨m,rfl⟩
  ·obtain rfl:i=n:=by omega
   rw[keyPos_entsF_out p i bl _ (fun a ha _=>by omega) j];simp[hp,keyPos]
theorem delEnt_append {κ:Type}[DecidableEq κ](k:κ)(l m:List (Ent κ))(h:∀ q∈l,k≠q.1):delEnt k (l++m)=l++delEnt k m:=by
 induction l with
 | nil=>rfl
 | cons q l ih=>
  rw[List.cons_append];unfold delEnt;rw[if_neg (h q (by simp)),ih (fun r hr=>h r (by simp[hr]))]
  cases m <;> rfl
theorem delEnt_append_left {κ:Type}[DecidableEq κ](k:κ)(l m:List (Ent κ))(h:∃ q∈l,k=q.1):delEnt k (l++m)=delEnt k l++m:=by
 induction l with
 | nil=>obtain⟨q,hq,_⟩:=h;cases hq
 | cons q l ih=>
  rw[List.cons_append];unfold delEnt
  by_cases hk:k=q.1
  ·rw[if_pos hk,if_pos hk]
  ·rw[if_neg hk,if_neg hk,List.cons_append,ih ?_]
   obtain⟨r,hr,hkr⟩:=h
   rcases List.mem_cons.1 hr with rfl|hr'
   ·exact absurd hkr hk
   ·exact⟨r,hr',hkr⟩
theorem del_entsF (p:Nat->Bool)(n:Nat)(bl:Nat->Nat)(i:Nat)(hi:i<n)(hp:p i=true):delEnt ((i:Int)+1) (entsF p n bl)=entsF (fun j=>p j && j != i) n bl:=by
 induction n with
 | zero=>omega
 | succ n ih=>
  rw[entsF_succ,entsF_succ]
  by_cases h:i<n
  ·rw[delEnt_append_left _ _ _ ⟨((i:Int)+1,.pointer (some ⟨bl i,0,none⟩),i),?_,rfl⟩,ih h]
   ·have e:(n != i)=true:=by rw[bne_iff_ne];omega
    simp[e]
   ·unfold entsF
    exact List.mem_map.2 ⟨i,List.mem_filter.2 ⟨by simpa using h,hp⟩,rfl⟩
  ·obtain rfl:i=n:=by omega
   rw[delEnt_append]
   ·rw[entsF_congr (p:=fun j=>p j && j != i) (q:=p) (bl':=bl) (fun a ha=>by have:(a != i)=true:=(by rw[bne_iff_ne];omega);simp[this]) (fun _ _=>rfl)]
    simp[hp,delEnt]
   ·intro q hq
    unfold entsF at hq;obtain⟨a,ha,rfl⟩:=List.mem_map.1 hq;have:=(List.mem_filter.1 ha).1;simp at this;simp;omega
theorem stamped_entsF (p:Nat->Bool)(n:Nat)(bl:Nat->Nat):Stamped (entsF p n bl) n:=by
 constructor
 ·intro q hq
  unfold entsF at hq;obtain⟨a,ha,rfl⟩:=List.mem_map.1 hq;have:=(List.mem_filter.1 ha).1
  simpa using this
 ·unfold entsF
  rw[List.map_map];have e:((fun q:Ent Int=>q.2.2) ∘ fun i:Nat=>(((i:Nat):Int)+1,Value.pointer (some ⟨bl i,0,none⟩),i))=id:=rfl;rw[e,List.map_id];exact List.Nodup.sublist List.filter_sublist List.nodup_range
theorem put_entsF (p:Nat->Bool)(n:Nat)(bl:Nat->Nat)(g:Nat):putEnt ((n:Int)+1) (.pointer (some ⟨g,0,none⟩)) n (entsF p n bl)=entsF (fun j=>if j=n then true else p j) (n+1) (fun j=>if j=n then g else bl j)/\putClock ((n:Int)+1) (entsF p n bl) n=n+1:=by
 have hn:=keyPos_entsF_out p n bl ((n:Int)+1) (fun a ha _=>by omega) 0
 constructor
 ·rw[putEnt_none _ _ _ _ 0 hn,entsF_succ]
  simp only[if_true];rw[entsF_congr (p:=p) (q:=fun j=>if j=n then true else p j) (bl:=bl) (bl':=fun j=>if j=n then g else bl j) (fun a ha=>by rw[if_neg (by omega)]) (fun a ha=>by rw[if_neg (by omega)])]
 ·unfold putClock
  rw[hn]
section
variable {P : Program} (w : World)
end
end Go.Proofs.Ytlhekbjidppijaa
namespace Go.Proofs.Ytlhekbjidppijaa
open Lib (hid)
open Go.RowKit Go.ChangeShapes Go.WideShapes
theorem flat_length {α:Type}{f:α->List Value}{C:Nat}(hC:∀ o,(f o).length=C)(os:List α):(os.flatMap f).length=os.length*C:=by
 induction os with
 | nil=>simp
 | cons o os ih=>rw[List.flatMap_cons,List.length_append,hC,ih,List.length_cons,Nat.succ_mul];omega
theorem flat_get {α:Type}{f:α->List Value}{C:Nat}(hC:∀ o,(f o).length=C)(os:List α):∀ (i r:Nat) (h:i<os.length),r<C->(os.flatMap f)[i*C+r]? = (f os[i])[r]?:=by
 induction os with
 | nil=>intro i r h;simp at h
 | cons o os ih=>
  intro i r h hr;rw[List.flatMap_cons]
  cases i with
  | zero=>rw[Nat.zero_mul,Nat.zero_add,List.getElem?_append_left (by rw[hC];exact hr)];rfl
  | succ i=>
   rw[List.getElem?_append_right (by rw[hC,Nat.succ_mul];omega),hC,show(i+1)*C+r-C=i*C+r by rw[Nat.succ_mul];omega];rw[ih i r (by simpa using h) hr];rfl
theorem Sl.flat {α:Type}{f:α->List Value}{C:Nat}(hC:∀ o,(f o).length=C)(hC0:0<C){w:World}{A:Option Addr}{os:List α}(h:Sl w A (os.flatMap f))(i:Nat)(hi:i<os.length) :
 ∃ b off,A=some ⟨b,off,none⟩/\∀ r v,(f os[i])[r]? = some v->w.cell? ⟨b,off+(i*C+r),none⟩=some v:=by
 have hl:=flat_length hC os
 have hne:os.flatMap f≠[]:=by
  intro e;rw[e]at hl;have:0<os.length*C:=Nat.mul_pos (by omega) hC0;simp at hl;omega
 obtain⟨b,off,rfl,hc⟩:=h hne;refine⟨b,off,rfl,fun r v hv=>?_⟩
 have hr:r<C:=by
  rw[<- hC os[i]];exact(List.getElem?_eq_some_iff.1 hv).1
 exact hc _ _ ((flat_get hC os i r hi hr).trans hv)
section
variable {H : Type} {enc : TypeId × Value -> H} {P : Program} {W : World}
theorem open_slice_of {α:Type}(f:α->List Value)(ok:α->Prop)(C:Nat)(hf:∀ o,(f o).length=C)(hC0:0<C){t e:TypeId}(ht:P.underlying t=some (.slice e))(hC:P.cellsOf e=C)
 (hel:∀ (n:Nat) (cs:List Value) (x:DataW H × List MemPlace),DataW.trod enc P W 0 (fun _=>true) true n e cs=some x->∃ o:α,cs=f o/\ok o)
 {A:Option Addr}{len cap:Nat}{d:DataW H}{p:List MemPlace}(h:DataW.Trod enc P W 0 (fun _=>true) true t (.slice A len cap) d p) :
 ∃ os:List α,os.length=len/\len<=cap/\cap<=maxLen/\(∀ o∈os,ok o)/\Sl W A (os.flatMap f):=by
 obtain⟨fuel,hf'⟩:=h
 rcases Go.Deep.open_slice ht hf' with ⟨hcs,_⟩|⟨a,l,c,m,n,D,Pl,hcs,_,hl,hm,hmm,_,hi⟩
 ·simp[Value.cells]at hcs
  obtain⟨rfl,rfl,rfl⟩:=hcs;exact⟨[],rfl,Nat.le_refl _,Nat.zero_le _,by simp,Sl.nil⟩
 ·simp[Value.cells]at hcs
  obtain⟨rfl,rfl,rfl⟩:=hcs
  have hm':m=cap:=by simpa using hmm
  subst hm'
  have key:∀ k:Nat,k<=len->∃ os:List α,os.length=k/\(∀ o∈os,ok o)/\∀ (i:Nat) (h:i<os.length) (r:Nat),r<C->W.cell? (a.add (i*C+r))=(f os[i])[r]?:=by
   intro k
   induction k with
   | zero=>intro _;exact⟨[],rfl,by simp,fun i h=>by simp at h⟩
   | succ k ih=>
    intro hk;obtain⟨os,h1,h2,h3⟩:=ih (by omega);obtain⟨cs',hc,ht'⟩:=hi k (by omega);rw[hC]at hc;obtain⟨o,rfl,ho⟩:=hel _ _ _ ht';obtain⟨_,_,hat⟩:=World.cells?_some hc;refine⟨os++[o],by simp[h1],?_,fun i h r hr=>?_⟩
    ·intro x hx
     rcases List.mem_append.1 hx with h|h
     ·exact h2 x h
     ·rw[List.mem_singleton.1 h];exact ho
    ·by_cases hik:i<os.length
     ·rw[List.getElem_append_left hik]
      exact h3 i hik r hr
     ·have e:i=os.length:=by simp at h;omega
      subst e;rw[List.getElem_concat_length rfl,<- Go.Deep.add_add,h1];exact hat r hr
  obtain⟨os,h1,h2,h3⟩:=key len (Nat.le_refl _);refine⟨os,h1,hl,hm,h2,Sl.of_cells fun j u hu=>?_⟩
  have hj:j<os.length*C:=by
   rw[<- flat_length hf os];exact(List.getElem?_eq_some_iff.1 hu).1
  have hq:j / C<os.length:=(Nat.div_lt_iff_lt_mul hC0).2 hj
  have hjc:j / C*C+j%C=j:=by rw[Nat.mul_comm];exact Nat.div_add_mod j C
  have:=h3 (j / C) hq (j%C) (Nat.mod_lt _ hC0);rw[hjc]at this;rw[this,<- flat_get hf os _ _ hq (Nat.mod_lt _ hC0),hjc];exact hu
end
end Go.Proofs.Ytlhekbjidppijaa
namespace Go.Proofs.Ytlhekbjidppijaa
open Lib (hid)
open Go.RowKit
def bv (l:List Nat):List Value:=l.map fun(c:Nat)=>.int .u8 (c:Int)
structure Part where
 A:Option Addr
 cap:Nat
 l:List Nat
def Part.val (p:Part):Value:=.slice p.A p.l.length p.cap
def Part.ok (w:World)(p:Part):Prop:=Sl w p.A (bv p.l)/\p.l.length<=9223372036854775807/\∀ c∈p.l,c<256
theorem ret_u32 {a b:Int}(h:a=b):Ending.returned (.int .u32 a)=.returned (.int .u32 b):=by rw[h]
def flat (ps:List Part)(k:Nat):List Nat:=(ps.take k).flatMap Part.l
theorem flat_succ (ps:List Part)(k:Nat)(h:k<ps.length):flat ps (k+1)=flat ps k++ps[k].l:=by
 unfold flat;rw[List.take_succ_eq_append_getElem h,List.flatMap_append];simp
theorem flat_lt {w:World}(ps:List Part)(k:Nat)(hz:∀ p∈ps,p.ok w):∀ c∈flat ps k,c<256:=by
 intro c hc;unfold flat at hc;obtain⟨p,hp,hcp⟩:=List.mem_flatMap.1 hc;exact(hz p (List.mem_of_mem_take hp)).2.2 c hcp
theorem init_lt:(4294967295:Nat)<4294967296:=by decide
theorem and_poly1:bits .and .u32 3988292384 4294967295=(3988292384:Nat):=u32_and_nat 3988292384 4294967295 (by decide) (by decide)
theorem and_poly0:bits .and .u32 3988292384 0=(0:Nat):=u32_and_nat 3988292384 0 (by decide) (by decide)
theorem half (z:Nat):((z:Int) / 2)=((z / 2:Nat):Int):=by omega
theorem stp1 (z:Nat)(hz:z<4294967296)(h:z%2=1):bits .xor .u32 ((z:Int) / 2) (bits .and .u32 3988292384 4294967295)=(Plain.stp z:Int):=by
 rw[and_poly1,half,u32_xor_nat _ _ (by omega) (by decide)];unfold Plain.stp;rw[if_pos h]
theorem stp0 (z:Nat)(hz:z<4294967296)(h:¬ z%2=1):bits .xor .u32 ((z:Int) / 2) (bits .and .u32 3988292384 0)=(Plain.stp z:Int):=by
 rw[and_poly0,half,u32_xor_nat _ _ (by omega) (by decide)];unfold Plain.stp;rw[if_neg h]
theorem it_succ (i z:Nat):Plain.it (i+1) z=Plain.stp (Plain.it i z):=Plain.it_s i z
theorem and_one (z:Nat)(hz:z<4294967296):bits .and .u32 (z:Int) 1=((z%2:Nat):Int):=by
 have:=u32_and_nat z 1 hz (by decide)
 rwa [Nat.and_one_is_mod]at this
theorem byt_eq (Y y:Nat):Plain.it 8 (Y ^^^ y)=Plain.byt Y y:=by unfold Plain.byt;rfl
theorem run_take_succ (X:Nat)(l:List Nat)(j:Nat)(h:j<l.length):Plain.run X (l.take (j+1))=Plain.byt (Plain.run X (l.take j)) l[j]:=by
 rw[List.take_succ_eq_append_getElem h,Plain.run_snoc]
theorem crc_spell (l:List Nat)(hl:∀ c∈l,c<256):bits .xor .u32 IntKind.u32.max (Plain.run 4294967295 l:Int)=(Plain.crc l:Int):=by
 have h:=Plain.run_lt l 4294967295 init_lt hl;unfold Plain.crc;rw[Plain.compl_xor _ h,Nat.xor_comm];exact u32_xor_nat 4294967295 _ (by decide) h
theorem sum_any (A:Option Addr)(n c:Nat)(ps:List Part)(w:World)(hr:Sl w A (ps.map Part.val))(hn:ps.length=n)(hm:n<=9223372036854775807)(hz:∀ p∈ps,p.ok w) :
 Calls Tryz.prog 171 #[.slice A n c] w fun e w'=>e=.returned (.int .u32 (Plain.crc (ps.flatMap Part.l)))/\w=w':=by
 have HN:=hid hn;clear hn;go_enter Tryz.func171,Tryz.ntmps171
 go_wp2
 go_loop [3,10] (fun h i=>∃ k:Nat,k<=n/\i=.int .i64 k/\h=.int .u32 (Plain.run 4294967295 (flat ps k))) (fun _ i=>n-(intOf i).toNat)
 case atStart=>exact⟨0,Nat.zero_le _,rfl,by unfold flat Plain.run;rfl⟩
 case round=>
  obtain⟨k,hk,rfl,rfl⟩:=hrel
  by_cases hlt:k<n
  ·have hlt':k<ps.length:=by rw[HN.out];exact hlt
   obtain⟨b,off,rfl,hc⟩:=hr.at_ k (by rw[List.length_map];exact hlt');rw[List.getElem_map]at hc;have hs:=hz _ (List.getElem_mem hlt');have hL:Plain.run 4294967295 (flat ps k)<4294967296:=Plain.run_lt _ _ init_lt (flat_lt ps k hz);have HR:=hid (Plain.run_append 4294967295 (flat ps k) ps[k].l);have HM:=hid (flat_succ ps k hlt');rw[<- flat_succ ps k hlt']at HR;generalize ps[k]=p at hc hs HM HR;obtain⟨pa,pcap,pl⟩:=p;obtain⟨h1,h2,h3⟩:=hs;unfold Part.val at hc;dsimp only at hc h1 h2 h3 HM HR;generalize Plain.run 4294967295 (flat ps k)=X at hL HR
   go_wp2
   go_loop [3,16] (fun h i=>∃ j:Nat,j<=pl.length/\i=.int .i64 j/\h=.int .u32 (Plain.run X (pl.take j))) (fun _ i=>pl.length-(intOf i).toNat)
   case atStart=>exact⟨0,Nat.zero_le _,rfl,by unfold Plain.run;rfl⟩
   case round=>
    obtain⟨j,hj,rfl,rfl⟩:=hrel
    by_cases hjl:j<pl.length
    ·obtain⟨b2,off2,rfl,hc2⟩:=h1.at_ j (by unfold bv;rw[List.length_map];exact hjl)
     unfold bv at hc2;rw[List.getElem_map]at hc2;have hx:=h3 _ (List.getElem_mem hjl);have HT:=hid (run_take_succ X pl j hjl);have hY:Plain.run X (pl.take j)<4294967296:=Plain.run_lt _ _ hL (fun c hc=>h3 c (List.mem_of_mem_take hc));generalize pl[j]=y at hc2 hx HT;generalize Plain.run X (pl.take j)=Y at hY HT;have hxor:=u32_xor_nat Y y hY (by omega);have hYy:Y ^^^ y<4294967296:=Nat.xor_lt_two_pow (n:=32) hY (by omega)
     go_wp2_with fail
     clear hxor
     go_loop [3,24] (fun h i=>∃ i':Nat,i'<=8/\i=.int .i64 i'/\h=.int .u32 (Plain.it i' (Y ^^^ y))) (fun _ i=>8-(intOf i).toNat)
     case atStart=>exact⟨0,Nat.zero_le _,rfl,by rw[Plain.it_z]⟩
     case round=>
      obtain⟨i',hi',rfl,rfl⟩:=hrel
      by_cases hil:i'<8
      ·have hil':(i':Int)<8:=by omega
       have hZ:Plain.it i' (Y ^^^ y)<4294967296:=Plain.it_lt _ _ hYy;have HS:=hid (it_succ i' (Y ^^^ y));generalize Plain.it i' (Y ^^^ y)=z at hZ HS
       by_cases hp:z%2=1
       ·have HP:=hid (stp1 z hZ hp)
        have e1:bits .and .u32 (z:Int) 1=1:=by rw[and_one z hZ,hp];rfl
        clear hp
        go_wp2
        exact⟨⟨i'+1,by omega,by go_num,by rw[HS.out,HP.out]⟩,by simp[intOf];omega⟩
       ·have HP:=hid (stp0 z hZ hp)
        have e1:bits .and .u32 (z:Int) 1=0:=by rw[and_one z hZ];omega
        clear hp
        go_wp2
        exact⟨⟨i'+1,by omega,by go_num,by rw[HS.out,HP.out]⟩,by simp[intOf];omega⟩
      ·have hil':¬ (i':Int)<8:=by omega
       have HE:Hid (Plain.it i' (Y ^^^ y)=Plain.byt Y y):=by
        have:i'=8:=by omega
        subst this;exact hid (byt_eq Y y)
       go_wp2
       exact⟨⟨j+1,by omega,by go_num,by rw[HT.out,HE.out]⟩,by simp[intOf];omega⟩
    ·have HE:Hid (Plain.run X (pl.take j)=Plain.run X pl):=hid (by rw[List.take_of_length_le (by omega)])
     go_wp2
     exact⟨⟨k+1,by omega,by go_num,by rw[HR.out,HE.out]⟩,by simp[intOf];omega⟩
  ·have HE:Hid (flat ps k=ps.flatMap Part.l):=hid (by unfold flat;rw[List.take_of_length_le (by rw[HN.out];omega)])
   have HF:=hid (crc_spell (flat ps k) (flat_lt ps k hz))
   go_wp2
   go_ret;exact⟨ret_u32 (by rw[HF.out,HE.out]),rfl⟩
end Go.Proofs.Ytlhekbjidppijaa
