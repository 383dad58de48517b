/- Contracts of what TopFall reaches: what each function returns and leaves in memory. Conditions: as named. -/
import Derived.Laws.CopyRow
import Derived.Lib.AppendStr
import Derived.Test.YtlhekbjidppijaaGreatMAF
import Derived.Test.YtlhekbjidppijaaGreatMAK
set_option linter.unusedVariables false
set_option linter.unusedSimpArgs false
set_option maxRecDepth 20000
set_option maxHeartbeats 8000000
namespace Go.Proofs.Ytlhekbjidppijaa
open Lib (hid)
open Go.RowKit
def splice (cur:Array Value)(o:Nat)(cs:List Value):Array Value:=(cur.toList.take o++cs++cur.toList.drop (o+cs.length)).toArray
theorem splice_get (cur:Array Value)(o:Nat)(cs:List Value)(h:o+cs.length<=cur.size)(k:Nat) :
 (splice cur o cs)[k]? = if k<o then cur[k]? else if k<o+cs.length then cs[k-o]? else cur[k]?:=by
 unfold splice
 have hl:(cur.toList.take o).length=o:=by simp;omega
 rw[List.getElem?_toArray]
 by_cases h1:k<o
 ·rw[if_pos h1,List.getElem?_append_left (by simp;omega),List.getElem?_append_left (by omega),List.getElem?_take,if_pos h1]
  simp
 ·rw[if_neg h1]
  by_cases h2:k<o+cs.length
  ·rw[if_pos h2,List.getElem?_append_left (by simp;omega),List.getElem?_append_right (by omega),hl]
  ·rw[if_neg h2,List.getElem?_append_right (by simp;omega),List.getElem?_drop]
   simp only[List.length_append,hl];rw[show o+cs.length+(k-(o+cs.length))=k by omega];simp
theorem splice_size (cur:Array Value)(o:Nat)(cs:List Value)(h:o+cs.length<=cur.size):(splice cur o cs).size=cur.size:=by
 unfold splice;simp;omega
theorem copy_to {P:Program}(w:World)(dT sT ty elem:TypeId)(A off dlen dcap:Nat)(t:TypeId)(cur:Array Value)(hA:Blk w A t cur)(hu:P.underlying dT=some (.slice elem))(hsz:(P.info? elem).map (·.size)=some 1)
 (B:Option Addr)(m c:Nat)(cs:List Value)(hl:cs.length=m)(hm:m<=dlen)(hs:Sl w B cs)(hB:B=none->m=0/\c=0)(h1:∀ v∈cs,v.oneCell'=true)(hfit:off+m<=cur.size) :
 ∃ W2,(Builtin.copy_ #[dT,sT] ty #[.slice (some ⟨A,off,none⟩) dlen dcap,.slice B m c]).run P w=.ok (goInt m) W2/\Blk W2 A t (splice cur off cs)/\(∀ k,k≠A->W2.heap[k]? = w.heap[k]?)/\W2.heap.size=w.heap.size/\W2.os=w.os/\W2.tape=w.tape/\W2.output=w.output:=by
 subst hl
 cases B with
 | none=>
  obtain⟨h0,rfl⟩:=hB rfl;have hn:cs=[]:=List.eq_nil_of_length_eq_zero h0;subst hn;refine⟨w,run_copy_nil P w dT sT ty elem ⟨A,off,none⟩ dlen dcap hu (by cases hq:P.info? elem with|none=>rw[hq]at hsz;cases hsz|some i=>rfl),?_,fun _ _=>rfl,rfl,rfl,rfl,rfl⟩
  have:splice cur off []=cur:=by simp[splice]
  rw[this];exact hA
 | some a=>
  have hcells:∀ j v,cs[j]? = some v->w.cell? (a.add j)=some v:=by
   intro j u hu';obtain⟨b,o,h,hc⟩:=hs (by intro e;subst e;simp at hu')
   injection h with h
   subst h;rw[add_none];exact hc j u hu'
  refine⟨_,run_copy_row P w dT sT ty elem A off dlen dcap a cs.length c cur t cs hu hsz hA (Nat.min_eq_left hm).symm hcells hfit h1,?_,?_,?_,rfl,rfl,rfl⟩
  ·exact setRow_heap w A cur _ t _ hA
  ·intro k hk
   simp[World.setRow,Array.getElem?_modify,Ne.symm hk]
  ·simp[World.setRow]
theorem Secs.wrote {cells:Array Value}{n:Nat}{Z:Cont}{F:Nat->Prop}(h:Secs cells n Z F)(i:Nat)(hi:i<n)(l:List Nat)(hm:l.length=64)(hb:∀ x∈l,x<256)(hsz:i*129+129<=cells.size) :
 Secs ((splice cells (i*129) (bv l)).setIfInBounds (i*129+128) (.bool true)) n (upd Z i l) Loose:=by
 have hlen:(bv l).length=64:=by simp[bv,hm]
 have get:∀ k,k≠i*129+128->((splice cells (i*129) (bv l)).setIfInBounds (i*129+128) (.bool true))[k]? = if k<i*129 then cells[k]? else if k<i*129+64 then (bv l)[k-i*129]? else cells[k]?:=by
  intro k hk;rw[Array.getElem?_setIfInBounds_ne (Ne.symm hk),splice_get _ _ _ (by rw[hlen];omega),hlen]
 have old:∀ k,k≠i*129+128->¬ (i*129<=k/\k<i*129+64)->((splice cells (i*129) (bv l)).setIfInBounds (i*129+128) (.bool true))[k]? = cells[k]?:=by
  intro k hk hn;rw[get k hk]
  by_cases h1:k<i*129
  ·rw[if_pos h1]
  ·rw[if_neg h1,if_neg (by omega)]
 refine⟨fun k hk=>?_,fun k hk j hj=>?_,fun k hk=>?_,fun k hk=>?_⟩
 ·by_cases hc:k=i
  ·subst hc;rw[upd_self];exact⟨hm,hb⟩
  ·rw[upd_ne _ _ _ _ hc];exact h.len k hk
 ·by_cases hc:k=i
  ·subst hc
   rw[upd_self,get _ (by omega),if_neg (by omega),if_pos (by omega),Nat.add_sub_cancel_left]
  ·rw[upd_ne _ _ _ _ hc,old _ (by omega) (by omega)]
   exact h.now k hk j hj
 ·obtain⟨l',a,b,_,c⟩:=h.old k hk
  exact⟨l',a,b,fun e=>e.elim,fun j hj=>by rw[old _ (by omega) (by omega)];exact c j hj⟩
 ·by_cases hc:k=i
  ·subst hc
   refine⟨true,fun e=>e.elim,?_⟩;rw[Array.getElem?_setIfInBounds_self_of_lt (by rw[splice_size _ _ _ (by rw[hlen];omega)];omega)]
  ·obtain⟨b,_,hb⟩:=h.loose k hk
   refine⟨b,fun e=>e.elim,?_⟩;rw[old _ (by omega) (by omega)];exact hb
theorem write_any (w:World)(U:Own)(t p n:Nat)(Z:Cont)(F:Nat->Prop)(h:DevAt w U t p n Z F)(i:Nat)(hi:i<n)(B:Option Addr)(m c:Nat)(l:List Nat)(hl:l.length=m)(hm:m=64)(hb:∀ x∈l,x<256)(hs:Sl w B (bv l))(hB:B=none->m=0/\c=0) :
 Calls Tryz.prog 132 #[.pointer (some ⟨p,0,none⟩),.int .i64 i,.slice B m c] w fun e w'=>e=.returned (.int .i64 0)/\DevAt w' U t p n (upd Z i l) Loose/\Chg (· = t) w U w' U:=by
 obtain⟨A,calls,cells,h1,h2,h3⟩:=h.ex;have hpA:p≠A:=h1.other h2 (.inr (by decide))
 have hsz:i*129+129<=cells.size:=by
  obtain⟨b,_,hb⟩:=h3.loose i hi;have:=(Array.getElem?_eq_some_iff.1 hb).1;omega
 obtain⟨W2,hrun,hA2,hk2,hs2,ho2,ht2,hu2⟩:=copy_to (P:=Tryz.prog) w 74 74 3 5 A (i*129) 64 64 224 cells h2.blk (by kernel_rfl) (by kernel_rfl) B m c (bv l) (by simpa [bv] using hl) (by omega) hs hB (by intro u hu;obtain⟨x,_,rfl⟩:=List.mem_map.1 hu;rfl) (by omega);have c0:w.cell? ⟨p,0,none⟩=some (.slice (some ⟨A,0,none⟩) n n):=h1.cell 0;have hp2:Blk W2 p 197 #[.slice (some ⟨A,0,none⟩) n n,.int .i64 calls]:=(hk2 p hpA).trans h1.blk;have d0:W2.cell? ⟨p,0,none⟩=some (.slice (some ⟨A,0,none⟩) n n):=hp2.cell 0;have d1:W2.cell? ⟨p,1,none⟩=some (.int .i64 calls):=hp2.cell 1;have f1:=hp2.frozen 1;have fA:=hA2.frozen (i*129+128)
 have gA:∃ b,W2.cell? ⟨A,i*129+128,none⟩=some (.bool b):=by
  obtain⟨b,_,hb⟩:=h3.loose i hi;refine⟨b,?_⟩;rw[hA2.cell,splice_get _ _ _ (by simp[bv,hl];omega),if_neg (by omega),if_neg (by simp[bv,hl];omega)];exact hb
 obtain⟨b0,gA⟩:=gA;have HD:=hid h
 have k1:(i:Int)<(n:Int):=by omega
 have k2:(0:Int)<=(i:Int):=by omega
 have k3:¬ ((i:Int)<0\/(n:Int)<=(i:Int)):=by omega
 have k4:(m:Int)<=64:=by omega
 have HH:=hid (And.intro h1 (And.intro h2 (And.intro h3 (And.intro hs2 (And.intro hk2 (And.intro ho2 (And.intro ht2 hu2)))))));have HA2:=hid hA2;have HP2:=hid hp2;have HM:Hid (l.length=64):=hid (hl.trans hm);clear h1 h2 h3 h hs2 hk2 ho2 ht2 hu2 hA2 hp2 hm hl;go_enter Tryz.func132,Tryz.ntmps132
 go_wp2_with fail
 refine(off_any w U t p n Z F HD.out i).mono ?_;rw[if_neg k3];rintro e w' ⟨rfl,rfl⟩
 go_wp2
 go_ret;obtain⟨g1,g2,g3,g4,g5,g6,g7,g8⟩:=HH.out;refine⟨rfl,⟨A,_,_,⟨((HP2.out.far (p:=⟨A,i*129+128,none⟩) hpA _).set_ 1 _),g1.own⟩,⟨((HA2.out.set_ (i*129+128) _).far (p:=⟨p,1,none⟩) (Ne.symm hpA) _),g2.own⟩,g3.wrote i hi l HM.out hb hsz⟩,?_⟩;have hc:Chg (· = t) w' U W2 U:=⟨g6,g7,g8,by omega,fun k _ hn=>g5 k (by rintro rfl;exact hn g2.own),fun _ _=>rfl⟩;exact(hc.setCell (p:=⟨A,i*129+128,none⟩) g2.own _).setCell (p:=⟨p,1,none⟩) g1.own _
theorem run_loadAgg {P:Program}(w:World)(t:TypeId)(b o:Nat)(cs:List Value)(n:Nat)(hg:(isAgg t).run P w=.ok true w)(hs:(sizeOf t).run P w=.ok n w)(hn:cs.length=n)
 (hc:∀ j v,cs[j]? = some v->w.cell? ⟨b,o+j,none⟩=some v):(Instr.loadAt t (.pointer (some ⟨b,o,none⟩))).run P w=.ok (.agg cs.toArray) w:=by
 have h:=run_loadCells_list (P:=P) w ⟨b,o,none⟩ cs (fun j v hj=>by rw[add_none];exact hc j v hj);subst hn;unfold Instr.loadAt Instr.sureAddr loadVar;simp only[Sem.run_bind,Sem.run_pure,Result.andThen_ok,hg,hs,h,if_true]
theorem run_storeAgg {P:Program}(w:World)(t:TypeId)(A o:Nat)(ty:TypeId)(cur:Array Value)(cs:List Value)(n:Nat)(hs:(sizeOf t).run P w=.ok n w)(hn:cs.length=n)(hA:Blk w A ty cur)(hfit:o+cs.length<=cur.size)(h1:∀ v∈cs,v.oneCell'=true) :
 ∃ W2,(Instr.storeAt t (.pointer (some ⟨A,o,none⟩)) (.agg cs.toArray)).run P w=.ok () W2/\Blk W2 A ty (splice cur o cs)/\(∀ k,k≠A->W2.heap[k]? = w.heap[k]?)/\W2.heap.size=w.heap.size/\W2.os=w.os/\W2.tape=w.tape/\W2.output=w.output:=by
 have h:=run_storeCells_at P A o ty cs 0 cur w hA (by simpa using hfit) h1;simp only[Nat.add_zero]at h;refine⟨w.setRow A (cur.toList.take o++cs++cur.toList.drop (o+cs.length)).toArray,?_,?_,?_,?_,rfl,rfl,rfl⟩
 rotate_left
 ·exact setRow_heap w A cur _ ty _ hA
 ·intro k hk
  simp[World.setRow,Array.getElem?_modify,Ne.symm hk]
 ·simp[World.setRow]
 subst hn;unfold Instr.storeAt Instr.sureAddr storeVar;simp only[Sem.run_bind,Sem.run_pure,Result.andThen_ok,hs];rw[if_neg (by simp[Value.cells])];show(storeCells ⟨A,o,none⟩ cs 0).run P w=_;rw[h]
theorem Has.agg {w:World}{U:Own}{t g ty:Nat}{cur:Array Value}(h:Has w U t g ty cur){W2:World}{c2:Array Value}(hb:Blk W2 g ty c2):Has W2 U t g ty c2:=⟨hb,h.own⟩
theorem Chg.of_row {T:Nat->Prop}{w W1 W2:World}{U U':Own}{A:Nat}(h:Chg T w U W1 U')(hT:T (U' A))(hk:∀ k,k≠A->W2.heap[k]? = W1.heap[k]?)(hs:W2.heap.size=W1.heap.size)(ho:W2.os=W1.os)(ht:W2.tape=W1.tape)(hu:W2.output=W1.output):Chg T w U W2 U':=
 h.trans ⟨ho,ht,hu,by omega,fun k _ hn=>hk k (by rintro rfl;exact hn hT),fun _ _=>rfl⟩
section
variable {P : Program} {ops : Array Oper} {o : Oper} {a : Act} {K : Act -> World -> Prop} {Q : Exit -> Act -> World -> Prop} {w : World} {E : Prop}
theorem step_store (hgd:o.guard=none)(t:TypeId)(x y:Operand)(ho:o.op=.store t x y)(hd:o.dst=none)(p v:Value)(hx:a.eval x=p)(hy:a.eval y=v)(w':World)(hrun:(Instr.storeAt t p v).run P w=.ok () w')(h:K a w') :
 if Region.wanted o (yielded ops a.tmps)=true then o.wp P a w K Q else E:=by
 have hw:Region.wanted o (yielded ops a.tmps)=true:=by simp[Region.wanted,hgd]
 rw[if_pos hw];unfold Oper.wp;simp[execOp,ho,hx,hy,hrun,Result.andThen,Oper.upon,hd,Act.put];exact h
end
def tbs (ts:List ByteArray):List Value:=ts.flatMap fun t=>.int .u8 ((2*t.size:Nat):Int) :: Lib.strCells t
def tsum (ts:List ByteArray):Nat:=(ts.map fun t=>t.size+1).sum
theorem tbs_snoc (l:List ByteArray)(t:ByteArray):tbs (l++[t])=tbs l ++ .int .u8 ((2*t.size:Nat):Int) :: Lib.strCells t:=by simp[tbs]
theorem tsum_snoc (l:List ByteArray)(t:ByteArray):tsum (l++[t])=tsum l+1+t.size:=by simp[tsum];omega
theorem info5v:(Tryz.prog.info? 5).map (fun i=>(i.zero,i.size,i.bytes))=some (some (.int .u8 0),1,1):=by kernel_rfl
theorem putR (w:World)(U:Own)(t:Nat)(v:Value)(m:Nat)(xs:List Value)(hv:Rw w U t 5 1 v m xs)(hm:m<=1000000000)(n:Nat)(hn:n<64) :
 Calls Tryz.prog 178 #[v,.int .i64 n] w fun e w'=>∃ v' U',e=.returned v'/\Rw w' U' t 5 1 v' (m+1) (xs++[.int .u8 ((2*n:Nat):Int)])/\Chg (· = t) w U w' U':=by
 obtain⟨i0,z0,hi,hz,hc,hs0,hby⟩:=info_cells info5;have HI:=hid (And.intro hi (And.intro hz (And.intro hc (And.intro hs0 hby))))
 clear hi hz hc hs0 hby
 have HV:=hid hv;clear hv
 have k1:(0:Int)<=(n:Int):=by omega
 have k2:(n:Int)<64:=by omega
 go_enter Tryz.func178,Tryz.ntmps178
 go_wp2
 go_loop [0,5] (fun x u=>x=v/\u=.int .u64 ((n:Int)*2)) (fun _ _=>0)
 case atStart=>exact⟨rfl,rfl⟩
 case round=>
  obtain⟨rfl,rfl⟩:=hrel
  have k3:¬ ((127:Int)<(n:Int)*2):=by omega
  have HC:Hid ((n:Int)*2=((2*n:Nat):Int)):=hid (by omega)
  go_wp2_with (at_builtin;refine wpList_append_row _ rfl (.tmp 23) (.tmp 26) 74 rfl U t 5 i0 z0 1 1 (by kernel_rfl) HI.out.1 HI.out.2.1 HI.out.2.2.2.1 HI.out.2.2.2.2 (by rw[HI.out.2.2.1];rfl) (by decide) _ m xs rfl (HV.out.alloc _) (some ⟨w.heap.size,0,none⟩) 1 1 [.int .u8 ((n:Int)*2)] rfl rfl ?c2 (by intro h;cases h) (by intro u hu;rw[List.mem_singleton.1 hu];rfl) (by omega) (by decide) ?_)
  case c2=>exact(Blk.new w 5 #[.int .u8 ((n:Int)*2)]).sl
  intro v' w' ho hg;have HO:=hid ho;have HG:=hid hg;clear ho hg
  go_wp2
  go_ret;refine⟨v',_,rfl,?_,((Chg.refl _ w U).alloc _).trans HG.out⟩;rw[<- HC.out];exact HO.out
theorem putAllR (w:World)(U:Own)(t:Nat)(v:Value)(m:Nat)(xs:List Value)(hv:Rw w U t 5 1 v m xs)(B:Option Addr)(c:Nat)(ns:List Nat)(hB:Sl w B (nnums ns))(hBb:∀ a,B=some a->a.block<w.heap.size/\U a.block≠t)(hm:m+ns.length<=1000000000)(hn:∀ n∈ns,n<64) :
 Calls Tryz.prog 135 #[v,.slice B ns.length c] w fun e w'=>∃ v' U',e=.returned v'/\Rw w' U' t 5 1 v' (m+ns.length) (xs++nbs ns)/\Chg (· = t) w U w' U':=by
 have HV:=hid hv;have HS:=hid hB;clear hv hB;go_enter Tryz.func135,Tryz.ntmps135
 go_wp2
 go_loopw [0,9] (fun x i wr=>∃ k:Nat,k<=ns.length/\i=.int .i64 k/\∃ Ur,Rw wr Ur t 5 1 x (m+k) (xs++nbs (ns.take k))/\Chg (· = t) w U wr Ur) (fun _ i _=>ns.length-(intOf i).toNat)
 case atStart=>exact⟨0,Nat.zero_le _,rfl,U,by simpa [nbs] using HV.out,Chg.refl _ _ _⟩
 case round=>
  obtain⟨k,hk,rfl,Ur,ho,hbl⟩:=hrel;have HO:=hid ho;have HB:=hid hbl;clear ho hbl
  by_cases hlt:k<ns.length
  ·have k1:(k:Int)<(ns.length:Int):=by omega
   have k2:(0:Int)<=(k:Int):=by omega
   obtain⟨b,off,rfl,hcs⟩:=HS.out (by intro e;have h:=congrArg List.length e;unfold nnums at h;rw[List.length_map]at h;simp only[List.length_nil]at h;omega);have hc:w.cell? ⟨b,off+k,none⟩=some (.int .i64 (ns[k]:Int)):=hcs k _ (by unfold nnums;rw[List.getElem?_map,List.getElem?_eq_getElem hlt];rfl);have hbb:=hBb _ rfl;have e0:wr.cell? ⟨b,off+k,none⟩=some (.int .i64 (ns[k]:Int)):=(World.cell?_of_block (a:=⟨b,off+k,none⟩) (HB.out.block b hbb.1 hbb.2)).trans hc;have hnk:=hn _ (List.getElem_mem hlt)
   have HT:Hid (xs++nbs (ns.take k)++[.int .u8 ((2*ns[k]:Nat):Int)]=xs++nbs (ns.take (k+1))):=hid (by
    rw[List.take_succ_eq_append_getElem hlt,List.append_assoc];unfold nbs;rw[List.map_append];rfl)
   clear hcs hc;generalize ns[k]=q at *
   go_wp2_with fail
   refine(putR wr Ur t _ (m+k) _ HO.out (by omega) q hnk).mono ?_;rintro e w1 ⟨v1,U1,rfl,ho1,hb1⟩;rw[HT.out]at ho1;have HO1:=hid ho1;have HB1:=hid (HB.out.trans hb1);clear ho1 hb1 e0
   go_wp2
   go_roundw
   case rel=>exact⟨k+1,by omega,by go_num,U1,HO1.out,HB1.out⟩
   case measure=>simp[intOf];omega
  ·obtain rfl:k=ns.length:=by omega
   have HE:Hid (Rw wr Ur t 5 1 u0 (m+ns.length) (xs++nbs ns)):=hid (by have:=HO.out;rw[List.take_length]at this;exact this)
   go_wp2
   go_ret;exact⟨_,_,rfl,HE.out,HB.out⟩
theorem tsum_le (l:List ByteArray)(h:∀ t∈l,t.size<64):tsum l<=l.length*64:=by
 induction l with
 | nil=>simp[tsum]
 | cons t l ih=>
  have h1:=h t (by simp);have h2:=ih (fun t ht=>h t (by simp[ht]));simp[tsum]at h2 ⊢;omega
theorem strCells_length (s:ByteArray):(Lib.strCells s).length=s.size:=by simp[Lib.strCells]
section
variable {P : Program} (w : World)
theorem run_append_text (U:Own)(t:Nat)(st u ty e:TypeId)(i:TypeInfo)(ht:P.underlying st=some (.slice e))(hu:P.underlying u=some .string)(hi:P.info? e=some i)(hz:i.zero=some (.int .u8 0))
 (hsize:i.size=1)(hby:i.bytes=1)(v:Value)(n:Nat)(xs:List Value)(hown:Rw w U t e 1 v n xs)(s:ByteArray)(h63:n+s.size<=1073741824) :
 ∃ v' w',(Builtin.append_ #[st,u] ty #[v,.string s]).run P w=.ok v' w'/\Rw w' (ext U w t) t e 1 v' (n+s.size) (xs++Lib.strCells s)/\Chg (· = t) w U w' (ext U w t):=by
 have hml:n+s.size<=maxLen:=by unfold maxLen;omega
 have hb:n+s.size<=140737488355328:=by omega
 obtain⟨v',w',hr,h2,h3,_⟩:=Lib.run_append_own_string (P:=P) w 0 st u ty e i ht hu hi hz hsize hby v n xs hown.own s hml hb (Nat.zero_le _);refine⟨v',w',hr,⟨h2,fun g hg=>?_⟩,(Chg.grown (Chg.refl _ _ _) h3 (fun k hk=>.inr (hown.tag k hk))).ext t⟩
 rcases hown.own.2 with ⟨rfl,rfl⟩|⟨g0,cap,cur,rfl,hbg,hgb,hnc,hcm,hcs,htake⟩
 ·have hxs:xs=[]:=List.eq_nil_of_length_eq_zero (by simpa using hown.own.1)
  subst hxs;obtain⟨v2,w2,hr2,h22,_,_⟩:=Lib.run_append_own_string (P:=P) w w.heap.size st u ty e i ht hu hi hz hsize hby (.slice none 0 0) 0 [] (World.ownsRow_nil _ _ _ _) s hml hb (Nat.le_refl _);rw[hr]at hr2
  injection hr2 with e1 e2
  subst e1;exact ext_new (h22.lt g hg).1
 ·by_cases hroom:n+s.size<=cap
  ·have hr2:=Lib.run_append_room_string (P:=P) w st u ty e i ht hu hi hsize g0 n cap cur hgb s hroom (by have:cur.size=cap:=(by simpa using hcs);omega)
   rw[hr]at hr2
   injection hr2 with e1 e2
   subst e1
   have:g0=g:=by simpa [Value.ownBlock] using hg
   subst this;rw[ext_old (Array.getElem?_eq_some_iff.1 hgb).1];exact hown.tag _ rfl
  ·have hr2:=Lib.run_append_grow_string (P:=P) w st u ty e i (.int .u8 0) ht hu hi hz ⟨g0,0,none⟩ n cap xs (by rw[hsize];simpa using hown.own.1) (hown.own.cells (g:=g0) rfl) s (by omega) (by omega) (by rw[hby];exact growslice_fits (by omega) (by omega))
   rw[hr]at hr2
   injection hr2 with e1 e2
   subst e1
   have:w.heap.size=g:=by simpa [Value.ownBlock] using hg
   subst this;exact ext_new (Nat.le_refl _)
theorem wpList_append_text {ops:Array Oper}{rest:List Oper}{o:Oper}{a:Act}{Q:Exit->Act->World->Prop}(hgd:o.guard=none)(sl x:Operand)(st u:TypeId)
 (ho:o.op=.call { callee:=.builtin .append,args:=#[sl,x],argTypes:=#[st,u] })(U:Own)(t:Nat)
 (e:TypeId)(i:TypeInfo)(ht:P.underlying st=some (.slice e))(hu:P.underlying u=some .string)(hi:P.info? e=some i)(hz:i.zero=some (.int .u8 0))
 (hsize:i.size=1)(hby:i.bytes=1)
 (v:Value)(n:Nat)(xs:List Value)(hs:a.eval sl=v)(hown:Rw w U t e 1 v n xs)(s:ByteArray)(hx:a.eval x=.string s)(h63:n+s.size<=1073741824)
 (h:∀ v' w',Rw w' (ext U w t) t e 1 v' (n+s.size) (xs++Lib.strCells s)->Chg (· = t) w U w' (ext U w t)->wpList P ops Q rest (a.put o.dst v') w'):wpList P ops Q (o :: rest) a w:=by
 refine wpList_plain hgd fun K hK=>?_;obtain⟨v',w',hr,h2,h3⟩:=run_append_text (P:=P) w U t st u o.type e i ht hu hi hz hsize hby v n xs hown s h63;unfold Oper.wp execOp;simp only[ho,resolve,invoke,builtin,Sem.run_bind,Sem.run_pure,Result.andThen_ok,List.map_toArray,List.map_cons,List.map_nil,hs,hx,hr];exact hK _ _ (h v' w' h2 h3)
end
theorem putTextR (w:World)(U:Own)(t:Nat)(v:Value)(m:Nat)(xs:List Value)(hv:Rw w U t 5 1 v m xs)(B:Option Addr)(c:Nat)(ts:List ByteArray)(hB:Sl w B (ts.map .string))(hBb:∀ a,B=some a->a.block<w.heap.size/\U a.block≠t)(hm:m+ts.length*64<=1000000000)(hn:∀ t∈ts,t.size<64) :
 Calls Tryz.prog 214 #[v,.slice B ts.length c] w fun e w'=>∃ v' U',e=.returned v'/\Rw w' U' t 5 1 v' (m+tsum ts) (xs++tbs ts)/\Chg (· = t) w U w' U':=by
 have HV:=hid hv;have HS:=hid hB;obtain⟨i0,hi,hz0,hz1,hz2⟩:=info_parts info5v;have HI:=hid (And.intro hi (And.intro hz0 (And.intro hz1 hz2)));clear hv hB hi hz0 hz1 hz2;go_enter Tryz.func214,Tryz.ntmps214
 go_wp2
 go_loopw [0,9] (fun x i wr=>∃ k:Nat,k<=ts.length/\i=.int .i64 k/\∃ Ur,Rw wr Ur t 5 1 x (m+tsum (ts.take k)) (xs++tbs (ts.take k))/\Chg (· = t) w U wr Ur) (fun _ i _=>ts.length-(intOf i).toNat)
 case atStart=>exact⟨0,Nat.zero_le _,rfl,U,by simpa [tbs,tsum] using HV.out,Chg.refl _ _ _⟩
 case round=>
  obtain⟨k,hk,rfl,Ur,ho,hbl⟩:=hrel;have HO:=hid ho;have HB:=hid hbl;clear ho hbl
  by_cases hlt:k<ts.length
  ·have k1:(k:Int)<(ts.length:Int):=by omega
   have k2:(0:Int)<=(k:Int):=by omega
   obtain⟨b,off,rfl,hcs⟩:=HS.out (by intro e;have h:=congrArg List.length e;rw[List.length_map]at h;simp only[List.length_nil]at h;omega);have hc:w.cell? ⟨b,off+k,none⟩=some (.string ts[k]):=hcs k _ (by rw[List.getElem?_map,List.getElem?_eq_getElem hlt];rfl);have hbb:=hBb _ rfl;have e0:wr.cell? ⟨b,off+k,none⟩=some (.string ts[k]):=(World.cell?_of_block (a:=⟨b,off+k,none⟩) (HB.out.block b hbb.1 hbb.2)).trans hc;have hnk:=hn _ (List.getElem_mem hlt);have hT1:=tbs_snoc (ts.take k) ts[k];have hT2:=tsum_snoc (ts.take k) ts[k];rw[<- List.take_succ_eq_append_getElem hlt]at hT1 hT2
   have hle:tsum (ts.take k)<=k*64:=by
    have h:=tsum_le (ts.take k) (fun t ht=>hn t (List.mem_of_mem_take ht));rw[List.length_take,Nat.min_eq_left (by omega)]at h;exact h
   clear hcs hc;generalize ts[k]=q at *;generalize tsum (ts.take k)=sk at *;obtain⟨X,hX⟩:∃ X,X=tbs (ts.take k):=⟨_,rfl⟩;obtain⟨Y,hY⟩:∃ Y,Y=tbs (ts.take (k+1)):=⟨_,rfl⟩;obtain⟨sk1,hsk1⟩:∃ s,s=tsum (ts.take (k+1)):=⟨_,rfl⟩;rw[<- hX]at HO hT1;rw[<- hY]at hT1;rw[<- hsk1]at hT2;have HT:=hid (And.intro hT1 (And.intro hT2 (And.intro hY hsk1)));clear hT1 hT2 hX hY hsk1
   go_wp2_with fail
   refine(putR wr Ur t _ (m+sk) _ HO.out (by omega) q.size hnk).mono ?_;rintro e w1 ⟨v1,U1,rfl,ho1,hb1⟩;have HO1:=hid ho1;have HB1:=hid (HB.out.trans hb1);clear ho1 hb1 e0
   go_wp2_with (at_builtin;refine wpList_append_text _ rfl (.tmp 16) (.tmp 17) 74 9 rfl U1 t 5 i0 (by kernel_rfl) (by kernel_rfl) HI.out.1 HI.out.2.1 HI.out.2.2.1 HI.out.2.2.2 v1 _ _ rfl HO1.out q rfl (by omega) ?_)
   intro v2 w2 ho2 hg2;obtain⟨U2,hU2⟩:∃ U2,U2=ext U1 w1 t:=⟨_,rfl⟩;rw[<- hU2]at ho2 hg2
   have HO2:Hid (Rw w2 U2 t 5 1 v2 (m+tsum (ts.take (k+1))) (xs++tbs (ts.take (k+1)))):=hid (by
    obtain⟨t1,t2,t3,t4⟩:=HT.out;rw[<- t3,<- t4,t1,t2]
    simpa [Nat.add_assoc] using ho2)
   have HB2:=hid (HB1.out.trans hg2);clear ho2 hg2 hU2
   go_wp2
   go_roundw
   case rel=>exact⟨k+1,by omega,by go_num,U2,HO2.out,HB2.out⟩
   case measure=>simp[intOf];omega
  ·obtain rfl:k=ts.length:=by omega
   have HE:Hid (Rw wr Ur t 5 1 u0 (m+tsum ts) (xs++tbs ts)):=hid (by have:=HO.out;rw[List.take_length]at this;exact this)
   go_wp2
   go_ret;exact⟨_,_,rfl,HE.out,HB.out⟩
end Go.Proofs.Ytlhekbjidppijaa
