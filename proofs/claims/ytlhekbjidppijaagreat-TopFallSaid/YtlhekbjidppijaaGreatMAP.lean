/- Contracts of what TopFall reaches: what each function returns and leaves in memory. Conditions: as named. -/
import Derived.Test.YtlhekbjidppijaaGreatMAO
set_option linter.unusedVariables false
set_option linter.unusedSimpArgs false
set_option maxRecDepth 20000
set_option maxHeartbeats 8000000
namespace Go.Proofs.Ytlhekbjidppijaa
open Lib (hid)
open Go.RowKit
structure Place where
 key:ByteArray
 pos:Nat
 has:Bool
 gone:Bool
def Place.zero:Place:=⟨.empty,0,false,false⟩
def Place.cells (p:Place):List Value:=[.string p.key,.int .i64 (p.pos:Int),.bool p.has,.bool p.gone]
def plc (pl:List Place):List Value:=pl.flatMap Place.cells
theorem plc_length (pl:List Place):(plc pl).length=pl.length*4:=by
 induction pl with
 | nil=>rfl
 | cons p pl ih=>simp only[plc,List.flatMap_cons,List.length_append,List.length_cons]at *;rw[ih];simp[Place.cells];omega
theorem plc_get (pl:List Place)(i:Nat)(p:Place)(h:pl[i]? = some p)(j:Nat)(hj:j<4):(plc pl)[i*4+j]? = p.cells[j]?:=by
 induction pl generalizing i with
 | nil=>simp at h
 | cons q pl ih=>
  cases i with
  | zero=>
   simp only[List.getElem?_cons_zero,Option.some.injEq]at h;subst h;rw[Nat.zero_mul,Nat.zero_add];simp only[plc,List.flatMap_cons];rw[List.getElem?_append_left (by simpa [Place.cells] using hj)]
  | succ i=>
   rw[List.getElem?_cons_succ]at h;have:=ih i h;simp only[plc,List.flatMap_cons];rw[List.getElem?_append_right (by simp[Place.cells];omega)];simp only[Place.cells,List.length_cons,List.length_nil];rw[show(i+1)*4+j-(0+1+1+1+1)=i*4+j by omega];exact this
theorem plc_set (pl:List Place)(i:Nat)(hi:i<pl.length)(p q:Place)(h:pl[i]? = some p):plc (pl.set i q)=((((plc pl).set (i*4) (.string q.key)).set (i*4+1) (.int .i64 (q.pos:Int))).set (i*4+2) (.bool q.has)).set (i*4+3) (.bool q.gone):=by
 induction pl generalizing i with
 | nil=>simp at hi
 | cons r pl ih=>
  cases i with
  | zero=>simp[plc,Place.cells]
  | succ i=>
   rw[List.getElem?_cons_succ]at h;have:=ih i (by simpa using hi) h;simp only[List.set_cons_succ,plc,List.flatMap_cons]at this ⊢;rw[this];rw[show(i+1)*4=i*4+4 by omega];simp only[Place.cells,List.cons_append,List.nil_append];rw[show i*4+4+1=i*4+1+4 by omega,show i*4+4+2=i*4+2+4 by omega,show i*4+4+3=i*4+3+4 by omega];simp only[List.set_cons_succ]
structure IndexAt (w:World)(U:Own)(t x:Nat)(pl:List Place)(n used:Nat):Prop where
 ex:∃ T,Has w U t x 321 #[.slice (some ⟨T,0,none⟩) pl.length pl.length,.int .i64 (n:Int),.int .i64 (used:Int)]/\Has w U t T 325 (plc pl).toArray
 len:16<=pl.length/\pl.length<=48
 pos:∀ p∈pl,p.has=true->1<=p.pos
 sm:n<=1000000/\used<=1000000
section
variable {T : Nat -> Prop} {w w' : World} {U U' : Own} {t x n used : Nat} {pl : List Place}
theorem IndexAt.keep (h:IndexAt w U t x pl n used)(hc:Chg T w U w' U')(ht:¬ T t):IndexAt w' U' t x pl n used:=by
 obtain⟨g,a,b⟩:=h.ex;exact⟨⟨g,a.keep hc ht,b.keep hc ht⟩,h.len,h.pos,h.sm⟩
theorem IndexAt.below (h:IndexAt w U t x pl n used)(hb:Below w.heap.size w w'):IndexAt w' U t x pl n used:=h.keep (Chg.same_own hb) id
end
def oi:Option Nat->Int
 | none=>-1
 | some n=>n
def findP (pl:List Place)(key:ByteArray):Nat->Nat->Option Nat->Option Nat × Option Nat
 | 0,_,free=>(none,free)
 | f+1,i,free=>match pl[i]? with
  | none=>(none,free)
  | some p=>if p.has=true/\p.key=key then (some i,some i) else
   let free':=if p.has=false/\free=none then some i else free
   if p.has=false/\p.gone=false then (none,free') else findP pl key f ((i+1)%pl.length) free'
def hashK (pl:List Place)(key:ByteArray):Nat:=Plain.mix [nb key]%pl.length
def findK (pl:List Place)(key:ByteArray):Option Nat × Option Nat:=findP pl key pl.length (hashK pl key) none
theorem info325:(Tryz.prog.info? 325).map (fun i=>(i.zero.map Value.cells,i.size,i.bytes))=some (some #[.string ⟨#[]⟩,.int .i64 0,.bool false,.bool false],4,32):=by kernel_rfl
theorem made_places:madeCells #[.string ⟨#[]⟩,.int .i64 0,.bool false,.bool false] (16*4)=(plc (List.replicate 16 Place.zero)).toArray:=by kernel_rfl
theorem new257 (w:World)(U:Own)(t:Nat):Calls Tryz.prog 257 #[] w fun e w'=>∃ x,e=.returned (.pointer (some ⟨x,0,none⟩))/\IndexAt w' (ext U w t) t x (List.replicate 16 Place.zero) 0 0/\Below w.heap.size w w':=by
 obtain⟨i,v,hi,hz,hc,hs,hb⟩:=info_cells info325
 have hmk:∀ W:World,(Instr.makeSlice 319 (.int .i64 16) (.int .i64 16)).run Tryz.prog W=.ok (.slice (some ⟨W.heap.size,0,none⟩) 16 16) (W.alloc (.cells (plc (List.replicate 16 Place.zero)).toArray 325)):=fun W=>by
  have h:=run_make (P:=Tryz.prog) W 319 325 i v (by kernel_rfl) hi hz .i64 .i64 16 16 (by omega) (Int.le_refl _) (by rw[hb];decide) (by decide);rw[hc,hs]at h;have e:((16:Int).toNat*4)=16*4:=rfl;rw[e,made_places]at h;exact h
 clear hi hz hc hs hb;have hlen:(List.replicate 16 Place.zero).length=16:=List.length_replicate
 have hpos:∀ p∈List.replicate 16 Place.zero,p.has=true->1<=p.pos:=by
  intro p hp hh;rw[List.eq_of_mem_replicate hp]at hh
  cases hh
 generalize List.replicate 16 Place.zero=pl at *;have HL:=hid (And.intro hlen hpos);clear hlen hpos;go_enter Tryz.func257,Tryz.ntmps257
 go_wp2
 go_ret;refine⟨_,rfl,⟨⟨w.heap.size,⟨?_,?_⟩,⟨?_,?_⟩⟩,by rw[HL.out.1];decide,HL.out.2,by decide,by decide⟩,?_⟩
 ·have:=Blk.new (w.alloc (.cells (plc pl).toArray 325)) 321 #[.slice (some ⟨w.heap.size,0,none⟩) 16 16,.int .i64 0,.int .i64 0]
  rw[HL.out.1]
  simpa using this
 ·exact ext_new (by simp)
 ·exact(Blk.new w 325 (plc pl).toArray).alloc _
 ·exact ext_new (Nat.le_refl _)
 ·exact((Chg.refl (fun _=>False) w U).alloc _ |>.alloc _).below
def IfS (x T N:Nat)(W:World):Prop:=W.cell? ⟨x,0,none⟩=some (.slice (some ⟨T,0,none⟩) N N)/\True
theorem text_ne {a b:ByteArray}(h:¬ a=b):(a.toList == b.toList)=false:=by
 rw[beq_eq_false_iff_ne];intro e;rw[ByteArray.toList_eq,ByteArray.toList_eq]at e;exact h (ByteArray.ext (Array.toList_inj.1 e))
theorem hashK_lt (pl:List Place)(key:ByteArray)(h:0<pl.length):hashK pl key<pl.length:=Nat.mod_lt _ h
theorem find216 (w:World)(U:Own)(t x n used:Nat)(pl:List Place)(key:ByteArray)(h:IndexAt w U t x pl n used)(hks:key.size<=9223372036854775807) :
 Calls Tryz.prog 216 #[.pointer (some ⟨x,0,none⟩),.string key] w fun e w'=>e=.returned (.tuple #[.int .i64 (oi (findK pl key).1),.int .i64 (oi (findK pl key).2)])/\Below w.heap.size w w':=by
 obtain⟨T,h1,h2⟩:=h.ex;obtain⟨N,hN⟩:∃ N,N=pl.length:=⟨_,rfl⟩
 have hN16:16<=N/\N<=48:=by have:=h.len;omega
 have HN16:=hid hN16;rw[<- hN]at h1;have HH1:Hid (∀ W,Below w.heap.size w W->W.cell? ⟨x,0,none⟩=some (.slice (some ⟨T,0,none⟩) N N)):=hid fun W hb=>(hb.cell (p:=⟨x,0,none⟩) h1.lt).trans (h1.cell 0)
 have HPL:Hid (∀ i p,pl[i]? = some p->∀ W,Below w.heap.size w W->W.cell? ⟨T,i*4,none⟩=some (.string p.key)/\W.cell? ⟨T,i*4+1,none⟩=some (.int .i64 (p.pos:Int))/\W.cell? ⟨T,i*4+2,none⟩=some (.bool p.has)/\W.cell? ⟨T,i*4+3,none⟩=some (.bool p.gone)):=hid fun i p hp W hb=>by
  have hk:=h2.keep (T:=fun _=>False) (Chg.same_own (U:=U) hb) id;have e:=fun j hj=>plc_get pl i p hp j hj;refine⟨?_,?_,?_,?_⟩
  ·rw[hk.cell];simpa [Place.cells] using e 0 (by decide)
  ·rw[hk.cell];simpa [Place.cells] using e 1 (by decide)
  ·rw[hk.cell];simpa [Place.cells] using e 2 (by decide)
  ·rw[hk.cell];simpa [Place.cells] using e 3 (by decide)
 have HLEN:=hid hN;have HKS:=hid hks
 have HR:Hid (IntKind.u64.wrap (((Plain.mix [nb key]:Nat):Int)%(N:Int))=((Plain.mix [nb key]:Nat):Int)%(N:Int)):=hid (by
  have h1:=Int.emod_nonneg ((Plain.mix [nb key]:Nat):Int) (b:=(N:Int)) (by omega);have h2:=Int.emod_lt_of_pos ((Plain.mix [nb key]:Nat):Int) (b:=(N:Int)) (by omega)
  exact IntWalk.u64_in _ ⟨by omega,by omega⟩)
 have HH:Hid (IntKind.i64.wrap (((Plain.mix [nb key]:Nat):Int)%(N:Int))=((hashK pl key:Nat):Int)):=hid (by
  have h1:=Int.emod_nonneg ((Plain.mix [nb key]:Nat):Int) (b:=(N:Int)) (by omega);have h2:=Int.emod_lt_of_pos ((Plain.mix [nb key]:Nat):Int) (b:=(N:Int)) (by omega);rw[IntWalk.i64_in _ ⟨by omega,by omega⟩];unfold hashK;rw[<- hN]
  exact(Int.natCast_emod _ _).symm)
 have hH:hashK pl key<N:=by rw[hN];exact hashK_lt pl key (by omega)
 have HFK:Hid (findP pl key N (hashK pl key) none=findK pl key):=hid (by rw[hN];rfl)
 have n0:¬ ((N:Int)=0):=by omega
 have n1:(N:Int)<=48:=by omega
 have n2:(16:Int)<=(N:Int):=by omega
 have n3:¬ (N=0):=by omega
 clear h h1 h2 hks hN hN16;go_enter Tryz.func216,Tryz.ntmps216
 go_wp2_with fail
 have S0:Hid (IfS x T N w.drew):=hid ⟨HH1.out _ (Below.refl _ _).drew,trivial⟩;refine wp_region_hl [1,2] [0,3,4,5,6,7,8,1,2] (IfS x T N) (by kernel_rfl) (by kernel_rfl) S0.out ?_
 iterate 7 (refine hd_take (v:=?_) rfl rfl (by kernel_rfl) (fun W hW=>?_) ?_;rotate_left;(obtain⟨r0,-⟩:=hW;first|(go_simp;done)|(go_simp;with_reducible rfl)))
 refine hd_loud rfl rfl fun K hK=>?_;go_simp;have hal:∀ o,IfS x T N (w.drew.alloc o):=fun o=>⟨HH1.out _ ((Below.refl _ _).drew.alloc (Nat.le_refl _) _),trivial⟩;refine hK _ _ (hal _) ?_;clear hK;refine hd_loud rfl rfl fun K hK=>?_;go_simp;refine(of_any (some ⟨w.heap.size,0,none⟩) 1 1 [key] _ (Blk.new w.drew 9 #[.string key]).sl rfl (by decide) (by intro s hs;rw[List.mem_singleton.1 hs];exact HKS.out)).mono ?_;rintro e w1 ⟨rfl,rfl⟩;refine hK _ _ (hal _) (hd_end ?_);clear hK hal;simp only[zqa,zqb,zqc,zqd,Nat.zero_add,Nat.reduceAdd];have x1:=HR.out;have x2:=HH.out;have HB0:Hid (Below w.heap.size w (w.drew.alloc (.cells #[.string key] 9))):=hid ((Below.refl _ _).drew.alloc (Nat.le_refl _) _);generalize hW1:w.drew.alloc (.cells #[.string key] 9)=W1 at *;have c0:=HH1.out W1 HB0.out;generalize hashK pl key=a0 at *
 go_wp2_with fail
 clear x1 x2 HR HH
 go_loopw [6,7,25] (fun s6 s7 s25 wr=>∃ (k a:Nat) (free:Option Nat),k<=N/\a<N/\s6=.int .i64 (oi free)/\s7=.int .i64 (a:Int)/\s25=.int .i64 (k:Int)/\Below w.heap.size w wr/\findP pl key (N-k) a free=findK pl key) (fun _ _ s _=>N-(intOf s).toNat)
 case atStart=>exact⟨0,a0,none,Nat.zero_le _,hH,rfl,rfl,rfl,HB0.out,HFK.out⟩
 case round=>
  obtain⟨k,a,free,hk,ha,rfl,rfl,rfl,hbl,hfp⟩:=hrel;have HBL:=hid hbl;have HFP:=hid hfp;clear hbl hfp c0 HB0 HFK hW1
  by_cases hlt:k<N
  ·obtain⟨p,hp⟩:∃ p,pl[a]? = some p:=⟨_,List.getElem?_eq_getElem (by rw[<- HLEN.out];exact ha)⟩
   obtain⟨d0,d1,d2,d3⟩:=HPL.out a p hp wr HBL.out;have c0:=HH1.out wr HBL.out
   have k1:(k:Int)<(N:Int):=by omega
   have k2:(0:Int)<=(a:Int):=by omega
   have k3:(a:Int)<(N:Int):=by omega
   have k4:((a:Int)+1)%(N:Int)=(((a+1)%N:Nat):Int):=by rw[Int.natCast_emod];rfl
   have hml:(a+1)%N<N:=Nat.mod_lt _ (by have:=HN16.out;omega);have HML:=hid hml;clear hml;have HB1:Hid (Below w.heap.size w (wr.alloc (.cells #[.string p.key,.int .i64 (p.pos:Int),.bool p.has,.bool p.gone] 325))):=hid (HBL.out.alloc HBL.out.size _);have c1:=HH1.out _ HB1.out
   have e16:N-k=(N-(k+1))+1:=by omega
   have HST:Hid (findK pl key=if p.has=true/\p.key=key then (some a,some a) else
    let free':=if p.has=false/\free=none then some a else free
    if p.has=false/\p.gone=false then (none,free') else findP pl key (N-(k+1)) ((a+1)%N) free'):=hid (by
     rw[<- HFP.out,e16]
     simp only[findP,hp,<- HLEN.out])
   clear hp HFP e16;obtain⟨pk,pp,ph,pg⟩:=p;simp only at d0 d1 d2 d3 HST HB1 c1
   cases ph with
   | true=>
    by_cases hke:pk=key
    ·have HRES:Hid (findK pl key=(some a,some a)):=hid (by rw[HST.out];simp[hke])
     subst hke
     go_wp2
     go_ret2
     exact⟨by rw[HRES.out];rfl,HB1.out⟩
    ·have HN:Hid (findP pl key (N-(k+1)) ((a+1)%N) free=findK pl key):=hid (by rw[HST.out];simp[hke])
     have hk2:=text_ne hke
     go_wp2
     go_roundw
     case rel=>exact⟨k+1,(a+1)%N,free,by omega,HML.out,rfl,by first|rfl|(rw[<- k4];rfl)|go_num,by go_num,HB1.out,HN.out⟩
     case measure=>simp[intOf];omega
   | false=>
    cases free with
    | none=>
     cases pg with
     | false=>
      have HRES:Hid (findK pl key=(none,some a)):=hid (by rw[HST.out];simp)
      go_wp2
      go_ret2
      exact⟨by rw[HRES.out];rfl,HB1.out⟩
     | true=>
      have HN:Hid (findP pl key (N-(k+1)) ((a+1)%N) (some a)=findK pl key):=hid (by rw[HST.out];simp)
      go_wp2
      go_roundw
      case rel=>exact⟨k+1,(a+1)%N,some a,by omega,HML.out,rfl,by first|rfl|(rw[<- k4];rfl)|go_num,by go_num,HB1.out,HN.out⟩
      case measure=>simp[intOf];omega
    | some fr=>
     have hfr:¬ ((fr:Int)<0):=by omega
     cases pg with
     | false=>
      have HRES:Hid (findK pl key=(none,some fr)):=hid (by rw[HST.out];simp)
      go_wp2
      go_ret2
      exact⟨by rw[HRES.out];rfl,HB1.out⟩
     | true=>
      have HN:Hid (findP pl key (N-(k+1)) ((a+1)%N) (some fr)=findK pl key):=hid (by rw[HST.out];simp)
      go_wp2
      go_roundw
      case rel=>exact⟨k+1,(a+1)%N,some fr,by omega,HML.out,rfl,by first|rfl|(rw[<- k4];rfl)|go_num,by go_num,HB1.out,HN.out⟩
      case measure=>simp[intOf];omega
  ·obtain rfl:k=N:=by omega
   have HRES:Hid (findK pl key=(none,free)):=hid (by rw[<- HFP.out,Nat.sub_self];rfl)
   go_wp2
   go_ret2
   exact⟨by rw[HRES.out];rfl,HBL.out⟩
theorem findP_lt (pl:List Place)(key:ByteArray):∀ f i free,i<pl.length->(∀ x,free=some x->x<pl.length)->(∀ x,(findP pl key f i free).1=some x->x<pl.length)/\∀ x,(findP pl key f i free).2=some x->x<pl.length:=by
 intro f
 induction f with
 | zero=>intro i free hi hf;exact⟨fun x h=>by simp[findP]at h,fun x h=>hf x h⟩
 | succ f ih=>
  intro i free hi hf;unfold findP
  split
  ·exact⟨fun x h=>by simp at h,fun x h=>hf x h⟩
  ·split
   ·exact⟨fun x h=>by simp at h;omega,fun x h=>by simp at h;omega⟩
   ·have hf':∀ (b:Prop) [Decidable b],∀ x,(if b then some i else free)=some x->x<pl.length:=by
     intro b _ x h
     split at h
     ·injection h with h;omega
     ·exact hf x h
    dsimp only
    split
    ·exact⟨fun x h=>by simp at h,fun x h=>hf' _ x h⟩
    ·exact ih _ _ (Nat.mod_lt _ (by omega)) (hf' _)
theorem findK_lt (pl:List Place)(key:ByteArray)(h:0<pl.length):(∀ x,(findK pl key).1=some x->x<pl.length)/\∀ x,(findK pl key).2=some x->x<pl.length:=findP_lt pl key pl.length _ none (hashK_lt pl key h) (fun x h=>by cases h)
def getP (pl:List Place)(key:ByteArray):Option Nat:=match (findK pl key).1 with
 | none=>none
 | some i=>match pl[i]? with
  | none=>none
  | some p=>some p.pos
section
variable {w : World} {U : Own} {t x n used : Nat} {pl : List Place}
theorem IndexAt.cells (h:IndexAt w U t x pl n used):∃ T,Has w U t x 321 #[.slice (some ⟨T,0,none⟩) pl.length pl.length,.int .i64 (n:Int),.int .i64 (used:Int)]/\Has w U t T 325 (plc pl).toArray/\x≠T/\∀ i p,pl[i]? = some p->∀ W,Below w.heap.size w W->W.cell? ⟨T,i*4,none⟩=some (.string p.key)/\W.cell? ⟨T,i*4+1,none⟩=some (.int .i64 (p.pos:Int))/\W.cell? ⟨T,i*4+2,none⟩=some (.bool p.has)/\W.cell? ⟨T,i*4+3,none⟩=some (.bool p.gone):=by
 obtain⟨T,h1,h2⟩:=h.ex;refine⟨T,h1,h2,h1.other h2 (.inr (by decide)),fun i p hp W hb=>?_⟩;have hk:=h2.keep (T:=fun _=>False) (Chg.same_own (U:=U) hb) id;have e:=fun j hj=>plc_get pl i p hp j hj;refine⟨?_,?_,?_,?_⟩
 ·rw[hk.cell];simpa [Place.cells] using e 0 (by decide)
 ·rw[hk.cell];simpa [Place.cells] using e 1 (by decide)
 ·rw[hk.cell];simpa [Place.cells] using e 2 (by decide)
 ·rw[hk.cell];simpa [Place.cells] using e 3 (by decide)
end
theorem get272 (w:World)(U:Own)(t x n used:Nat)(pl:List Place)(key:ByteArray)(h:IndexAt w U t x pl n used)(hks:key.size<=9223372036854775807) :
 Calls Tryz.prog 272 #[.pointer (some ⟨x,0,none⟩),.string key] w fun e w'=>e=.returned (.tuple #[.int .i64 (((getP pl key).getD 0:Nat):Int),.bool (getP pl key).isSome])/\Below w.heap.size w w':=by
 have HF:=hid (find216 w U t x n used pl key h hks);have hl:=(findK_lt pl key (by have:=h.len;omega)).1;obtain⟨T,h1,h2,hne,hc⟩:=h.cells;have HG:Hid (getP pl key=match (findK pl key).1 with|none=>none|some i=>match pl[i]? with|none=>none|some p=>some p.pos):=hid rfl;generalize getP pl key=r at *;generalize findK pl key=fk at *;obtain⟨at_,free⟩:=fk;dsimp only at HF hl HG;generalize oi free=fv at HF
 cases at_ with
 | none=>
  have hr:r=none:=HG.out;subst hr;clear h h1 h2 hc hl HG hne;go_enter Tryz.func272,Tryz.ntmps272
  go_wp2_with fail
  refine HF.out.mono ?_;rintro e w1 ⟨rfl,hb⟩;have HB:=hid hb;clear hb HF;simp only[oi]
  go_wp2
  go_ret2
  exact⟨rfl,HB.out⟩
 | some i=>
  have hi:i<pl.length:=hl i rfl;obtain⟨p,hp⟩:∃ p,pl[i]? = some p:=⟨_,List.getElem?_eq_getElem hi⟩
  have hr:r=some p.pos:=by rw[HG.out];simp only[hp]
  subst hr;have HC1:Hid (∀ W,Below w.heap.size w W->W.cell? ⟨x,0,none⟩=some (.slice (some ⟨T,0,none⟩) pl.length pl.length)/\W.cell? ⟨T,i*4+1,none⟩=some (.int .i64 (p.pos:Int))):=hid fun W hb=>⟨(hb.cell (p:=⟨x,0,none⟩) h1.lt).trans (h1.cell 0),(hc i p hp W hb).2.1⟩
  have k1:(0:Int)<=(i:Int):=by omega
  have k2:(i:Int)<(pl.length:Int):=by omega
  clear h h1 h2 hc hl HG hne hp;go_enter Tryz.func272,Tryz.ntmps272
  go_wp2_with fail
  refine HF.out.mono ?_;rintro e w1 ⟨rfl,hb⟩;have HB:=hid hb;obtain⟨c1,c2⟩:=HC1.out w1 hb;clear hb HF HC1;simp only[oi]
  go_wp2
  go_ret2
  exact⟨rfl,HB.out⟩
def dropP (pl:List Place)(key:ByteArray):List Place:=match (findK pl key).1 with
 | none=>pl
 | some i=>pl.set i ⟨.empty,0,false,true⟩
theorem Chg.place {w0 w:World}{U0 U:Own}{t T i:Nat}(h:Chg (· = t) w0 U0 w U)(hT:U T=t)(a b c d:Value):Chg (· = t) w0 U0 ((((w.setCell ⟨T,i*4,none⟩ a).setCell ⟨T,i*4+1,none⟩ b).setCell ⟨T,i*4+2,none⟩ c).setCell ⟨T,i*4+3,none⟩ d) U:=
 (((h.setCell (p:=⟨T,_,none⟩) hT a).setCell (p:=⟨T,_,none⟩) hT b).setCell (p:=⟨T,_,none⟩) hT c).setCell (p:=⟨T,_,none⟩) hT d
theorem Has.placeFar {w:World}{U:Own}{t g T i:Nat}{ty:TypeId}{cs:Array Value}(h:Has w U t g ty cs)(hT:g≠T)(a b c d:Value):Has ((((w.setCell ⟨T,i*4,none⟩ a).setCell ⟨T,i*4+1,none⟩ b).setCell ⟨T,i*4+2,none⟩ c).setCell ⟨T,i*4+3,none⟩ d) U t g ty cs:=
 (((h.far (p:=⟨T,_,none⟩) hT a).far (p:=⟨T,_,none⟩) hT b).far (p:=⟨T,_,none⟩) hT c).far (p:=⟨T,_,none⟩) hT d
theorem Has.place {w:World}{U:Own}{t T:Nat}{pl:List Place}(h:Has w U t T 325 (plc pl).toArray)(i:Nat)(hi:i<pl.length)(q:Place) :
 Has ((((w.setCell ⟨T,i*4,none⟩ (.string q.key)).setCell ⟨T,i*4+1,none⟩ (.int .i64 (q.pos:Int))).setCell ⟨T,i*4+2,none⟩ (.bool q.has)).setCell ⟨T,i*4+3,none⟩ (.bool q.gone)) U t T 325 (plc (pl.set i q)).toArray:=by
 have h4:=(((h.set_ (i*4) (.string q.key)).set_ (i*4+1) (.int .i64 (q.pos:Int))).set_ (i*4+2) (.bool q.has)).set_ (i*4+3) (.bool q.gone);rw[plc_set pl i hi pl[i] q (List.getElem?_eq_getElem hi)]
 simpa using h4
theorem drop252 (w:World)(U:Own)(t x n used:Nat)(pl:List Place)(key:ByteArray)(h:IndexAt w U t x pl n used)(hks:key.size<=9223372036854775807)(hn:(findK pl key).1≠none->1<=n) :
 Calls Tryz.prog 252 #[.pointer (some ⟨x,0,none⟩),.string key] w fun e w'=>e=.returned (.bool (findK pl key).1.isSome)/\IndexAt w' U t x (dropP pl key) (if (findK pl key).1.isSome then n-1 else n) used/\Chg (· = t) w U w' U:=by
 have HF:=hid (find216 w U t x n used pl key h hks);have hl:=(findK_lt pl key (by have:=h.len;omega)).1;have HD:Hid (dropP pl key=match (findK pl key).1 with|none=>pl|some i=>pl.set i ⟨.empty,0,false,true⟩):=hid rfl;generalize dropP pl key=r at *;generalize findK pl key=fk at *;obtain⟨at_,free⟩:=fk;dsimp only at HF hl HD hn ⊢;generalize oi free=fv at HF
 cases at_ with
 | none=>
  have hr:r=pl:=HD.out;subst hr;have HI:=hid h;clear h hl HD;go_enter Tryz.func252,Tryz.ntmps252
  go_wp2_with fail
  refine HF.out.mono ?_;rintro e w1 ⟨rfl,hb⟩;have HB:=hid hb;clear hb HF;simp only[oi]
  go_wp2
  go_ret;exact⟨rfl,HI.out.below HB.out,(Chg.same_own HB.out).mono fun _ e=>e.elim⟩
 | some i=>
  have hi:i<pl.length:=hl i rfl;have hr:r=pl.set i ⟨.empty,0,false,true⟩:=HD.out;subst hr;have hn1:=hn (by simp);have HI:=hid h;obtain⟨T,h1,h2,hne,hc⟩:=h.cells;obtain⟨p,hp⟩:∃ p,pl[i]? = some p:=⟨_,List.getElem?_eq_getElem hi⟩;have HPC:=hid (hc i p hp)
  have kneg:¬ ((i:Int)<0):=by omega
  have HC1:Hid (∀ W,Below w.heap.size w W->Has W U t x 321 #[.slice (some ⟨T,0,none⟩) pl.length pl.length,.int .i64 (n:Int),.int .i64 (used:Int)]/\Has W U t T 325 (plc pl).toArray):=hid fun W hb=>⟨h1.keep (T:=fun _=>False) (Chg.same_own (U:=U) hb) id,h2.keep (T:=fun _=>False) (Chg.same_own (U:=U) hb) id⟩
  have k1:(0:Int)<=(i:Int):=by omega
  have k2:(i:Int)<(pl.length:Int):=by omega
  have k3:(n:Int)<=1000000:=by have:=h.sm.1;omega
  have k4:(1:Int)<=(n:Int):=by omega
  clear h h1 h2 hc hl HD;go_enter Tryz.func252,Tryz.ntmps252
  go_wp2_with fail
  refine HF.out.mono ?_;rintro e w1 ⟨rfl,hb⟩;have HB:=hid hb;obtain⟨c1,c2⟩:=HC1.out w1 hb;have d0:=c1.cell 0;have d1:=c1.cell 1;have d2:=c1.frozen 1;have d3:=c2.frozen (i*4);have d4:=c2.frozen (i*4+1);have d5:=c2.frozen (i*4+2);have d6:=c2.frozen (i*4+3);obtain⟨e0,e1,e2,e3⟩:=HPC.out w1 hb;have HC3:=hid c1;have HC4:=hid c2;clear hb HF HC1 HPC c1 c2 hp;have hne':=Ne.symm hne;simp only[oi]
  go_wp2
  go_ret
  have en:((n:Int)-1)=((n-1:Nat):Int):=by omega
  rw[en];have hh:=HI.out;refine⟨rfl,⟨⟨T,?_,?_⟩,by rw[List.length_set];exact hh.len,fun q hq=>?_,by have:=hh.sm;omega⟩,?_⟩
  ·have:=(HC3.out.placeFar (i:=i) hne (.string ⟨#[]⟩) (.int .i64 0) (.bool false) (.bool true)).set_ 1 (.int .i64 ((n-1:Nat):Int))
   simpa using this
  ·exact(HC4.out.place i hi ⟨.empty,0,false,true⟩).far (p:=⟨x,1,none⟩) hne' _
  ·rcases List.mem_or_eq_of_mem_set hq with hq|rfl
   ·exact hh.pos q hq
   ·intro e;cases e
  ·exact(((Chg.same_own HB.out).mono fun _ e=>e.elim).place HC4.out.own _ _ _ _).setCell (p:=⟨x,1,none⟩) HC3.out.own _
end Go.Proofs.Ytlhekbjidppijaa
