/- Contracts of what TopFall reaches: what each function returns and leaves in memory. Conditions: as named. -/
import Derived.Test.YtlhekbjidppijaaGreatMAI
set_option linter.unusedVariables false
set_option linter.unusedSimpArgs false
set_option maxRecDepth 20000
set_option maxHeartbeats 8000000
namespace Go.Proofs.Ytlhekbjidppijaa
open Lib (hid)
open Go.RowKit
abbrev Cont:=Nat->List Nat
structure Secs (cells:Array Value)(n:Nat)(Z:Cont)(F:Nat->Prop):Prop where
 len:∀ i,i<n->(Z i).length=64/\∀ x∈Z i,x<256
 now:∀ i,i<n->∀ j,j<64->cells[i*129+j]? = (bv (Z i))[j]?
 old:∀ i,i<n->∃ l:List Nat,l.length=64/\(∀ x∈l,x<256)/\(F i->l=Z i)/\∀ j,j<64->cells[i*129+64+j]? = (bv l)[j]?
 loose:∀ i,i<n->∃ b,(F i->b=false)/\cells[i*129+128]? = some (.bool b)
structure DevAt (w:World)(U:Own)(t p n:Nat)(Z:Cont)(F:Nat->Prop):Prop where
 ex:∃ A calls cells,Has w U t p 197 #[.slice (some ⟨A,0,none⟩) n n,.int .i64 calls]/\Has w U t A 224 cells/\Secs cells n Z F
def zeros:Cont:=fun _=>List.replicate 64 0
def upd (Z:Cont)(i:Nat)(l:List Nat):Cont:=fun k=>if k=i then l else Z k
def Loose:Nat->Prop:=fun _=>False
def Lasts:Nat->Prop:=fun _=>True
theorem upd_self (Z:Cont)(i:Nat)(l:List Nat):upd Z i l i=l:=by simp[upd]
theorem upd_ne (Z:Cont)(i:Nat)(l:List Nat)(k:Nat)(h:k≠i):upd Z i l k=Z k:=by simp[upd,h]
theorem upd_same (Z:Cont)(i:Nat)(l:List Nat)(h:Z i=l):upd Z i l=Z:=by
 funext k
 unfold upd
 split
 ·rename_i e;rw[e,h]
 ·rfl
theorem len_any (w:World)(U:Own)(t p n:Nat)(Z:Cont)(F:Nat->Prop)(h:DevAt w U t p n Z F) :
 Calls Tryz.prog 175 #[.pointer (some ⟨p,0,none⟩)] w fun e w'=>e=.returned (.int .i64 n)/\w'=w:=by
 obtain⟨A,calls,cells,h1,h2,h3⟩:=h.ex;have c0:w.cell? ⟨p,0,none⟩=some (.slice (some ⟨A,0,none⟩) n n):=h1.cell 0;clear h h1 h2 h3;go_enter Tryz.func175,Tryz.ntmps175
 go_wp2
 go_ret;exact⟨rfl,rfl⟩
theorem off_any (w:World)(U:Own)(t p n:Nat)(Z:Cont)(F:Nat->Prop)(h:DevAt w U t p n Z F)(i:Int) :
 Calls Tryz.prog 176 #[.pointer (some ⟨p,0,none⟩),.int .i64 i] w fun e w'=>e=.returned (.int .i64 (if i<0\/(n:Int)<=i then 4 else 0))/\w'=w:=by
 obtain⟨A,calls,cells,h1,h2,h3⟩:=h.ex;have c0:w.cell? ⟨p,0,none⟩=some (.slice (some ⟨A,0,none⟩) n n):=h1.cell 0;clear h h1 h2 h3
 by_cases ha:i<0
 ·go_enter Tryz.func176,Tryz.ntmps176
  go_wp2
  go_ret;exact⟨by simp,rfl⟩
 ·by_cases hb:(n:Int)<=i
  ·go_enter Tryz.func176,Tryz.ntmps176
   go_wp2
   go_ret;exact⟨by simp,rfl⟩
  ·go_enter Tryz.func176,Tryz.ntmps176
   go_wp2
   go_ret;exact⟨by simp,rfl⟩
def zsec:Array Value:=(Array.replicate 128 (.int .u8 0)).push (.bool false)
theorem info224:(Tryz.prog.info? 224).map (fun i=>(i.zero.map Value.cells,i.size,i.bytes))=some (some zsec,129,129):=by kernel_rfl
theorem zsec_size:zsec.size=129:=by simp[zsec]
theorem zsec_get (j:Nat)(h:j<128):zsec[j]! = .int .u8 0:=by
 have:zsec[j]? = some (.int .u8 0):=by
  unfold zsec;rw[Array.getElem?_push,if_neg (by simp;omega),Array.getElem?_replicate,if_pos h]
 rw[getElem!_def,this]
theorem zsec_last:zsec[128]! = .bool false:=by
 have:zsec[128]? = some (.bool false):=by
  unfold zsec;rw[Array.getElem?_push,if_pos (by simp)]
 rw[getElem!_def,this]
theorem made_secs (n:Nat):Secs (madeCells zsec (n*129)) n zeros Lasts:=by
 have key:∀ i,i<n->∀ j,j<129->(madeCells zsec (n*129))[i*129+j]? = some (zsec[j]!):=by
  intro i hi j hj;rw[made_cell (by omega),zsec_size,show(i*129+j)%129=j from by omega]
 have hz:∀ j,j<64->(bv (List.replicate 64 0))[j]? = some (.int .u8 0):=fun j hj=>by simp only[bv,List.getElem?_map,List.getElem?_replicate,if_pos hj];rfl
 refine⟨fun i hi=>⟨List.length_replicate,fun x hx=>by rw[List.eq_of_mem_replicate hx];decide⟩,fun i hi j hj=>?_,fun i hi=>⟨List.replicate 64 0,List.length_replicate,fun x hx=>by rw[List.eq_of_mem_replicate hx];decide,fun _=>rfl,fun j hj=>?_⟩,fun i hi=>⟨false,fun _=>rfl,?_⟩⟩
 ·rw[key i hi j (by omega),zsec_get j (by omega)];exact(hz j hj).symm
 ·rw[Nat.add_assoc,key i hi (64+j) (by omega),zsec_get (64+j) (by omega)];exact(hz j hj).symm
 ·rw[key i hi 128 (by omega),zsec_last]
theorem new_any (w:World)(U:Own)(t n:Nat)(h1:1<=n)(h2:n<=2048) :
 Calls Tryz.prog 73 #[.int .i64 n] w fun e w'=>∃ p,e=.returned (.pointer (some ⟨p,0,none⟩))/\DevAt w' (ext U w t) t p n zeros Lasts/\Below w.heap.size w w'/\w.heap.size<=p:=by
 have k1:(1:Int)<=(n:Int):=by omega
 have k2:(n:Int)<=2048:=by omega
 obtain⟨i,v,hi,hz,hc,hs,hb⟩:=info_cells info224
 have hmk:∀ W:World,(Instr.makeSlice 195 (.int .i64 (n:Int)) (.int .i64 (n:Int))).run Tryz.prog W=.ok (.slice (some ⟨W.heap.size,0,none⟩) n n) (W.alloc (.cells (madeCells zsec (n*129)) 224)):=fun W=>by
  have h:=run_make (P:=Tryz.prog) W 195 224 i v (by kernel_rfl) hi hz .i64 .i64 n n (by omega) (Int.le_refl _) (by rw[hb];omega) (by omega);simp only[Int.toNat_natCast]at h;rw[h,hc,hs]
 clear hi hz hc hs hb;have HS:=hid (made_secs n);generalize madeCells zsec (n*129)=M at *;go_enter Tryz.func73,Tryz.ntmps73
 go_wp2
 go_ret;refine⟨w.heap.size+1,rfl,⟨w.heap.size,0,M,⟨?_,ext_new (by omega)⟩,⟨?_,ext_new (Nat.le_refl _)⟩,HS.out⟩,((Below.refl _ _).alloc (Nat.le_refl _) _).alloc (by simp) _,by omega⟩
 ·have h:=Blk.new (w.alloc (.cells M 224)) 197 #[.slice (some ⟨w.heap.size,0,none⟩) n n,.int .i64 0]
  rw[World.size_alloc]at h;exact h
 ·exact(Blk.new w 224 M).alloc _
abbrev ClockAt (w:World)(U:Own)(t c:Nat)(now:Nat):Prop:=Has w U t c 165 #[.int .i64 (now:Int)]
theorem now61 (w:World)(U:Own)(t c now:Nat)(h:ClockAt w U t c now) :
 Calls Tryz.prog 61 #[.pointer (some ⟨c,0,none⟩)] w fun e w'=>e=.returned (.int .i64 now)/\w=w':=by
 have c0:w.cell? ⟨c,0,none⟩=some (.int .i64 now):=h.cell 0;clear h;go_enter Tryz.func61,Tryz.ntmps61
 go_wp2
 go_ret;exact⟨rfl,rfl⟩
theorem tick79 (w:World)(U:Own)(t c now:Nat)(h:ClockAt w U t c now)(hn:now<1099511627776) :
 Calls Tryz.prog 79 #[.pointer (some ⟨c,0,none⟩),.slice none 0 0] w fun e w'=>e=.returned (.int .i64 ((now+1:Nat):Int))/\ClockAt w' U t c (now+1)/\Chg (· = t) w U w' U:=by
 have c0:w.cell? ⟨c,0,none⟩=some (.int .i64 now):=h.cell 0;have f0:=h.frozen 0;have hlt:=h.lt
 have k1:(1:Int)<=1099511627776-(now:Int):=by omega
 have k2:(0:Int)<=(now:Int):=by omega
 have HH:=hid h;clear h;go_enter Tryz.func79,Tryz.ntmps79
 go_wp2
 have k3:(now:Int)+1<=1099511627776:=by omega
 obtain⟨W1,hW1⟩:∃ W,W=w.alloc (.cells #[.int .i64 1] 2):=⟨_,rfl⟩;rw[<- hW1]
 have d0:W1.cell? ⟨c,0,none⟩=some (.int .i64 now):=by rw[hW1];exact(HH.out.alloc _).cell 0
 have g0:W1.frozen? ⟨c,0,none⟩=false:=by rw[hW1];exact(HH.out.alloc _).frozen 0
 have e0:W1.cell? ⟨w.heap.size,0,none⟩=some (.int .i64 1):=by rw[hW1];exact(Blk.new w 2 #[.int .i64 1]).cell 0
 have HW:=hid hW1;clear hW1 c0 f0
 go_loopw [15] (fun i wr=>(i=.int .i64 0/\wr=W1)\/(i=.int .i64 1/\wr=W1.setCell ⟨c,0,none⟩ (.int .i64 ((now:Int)+1)))) (fun i _=>1-(intOf i).toNat)
 case atStart=>exact .inl ⟨rfl,rfl⟩
 case round=>
  rcases hrel with ⟨rfl,rfl⟩|⟨rfl,rfl⟩
  ·go_wp2
   go_roundw
   case rel=>exact .inr ⟨rfl,trivial⟩
   case measure=>simp[intOf]
  ·have m0:(W1.setCell ⟨c,0,none⟩ (.int .i64 ((now:Int)+1))).cell? ⟨c,0,none⟩=some (.int .i64 ((now:Int)+1)):=by
    have h:=((HH.out.alloc (.cells #[.int .i64 1] 2)).set_ 0 (.int .i64 ((now:Int)+1))).cell 0;rw[<- HW.out]at h;exact h
   go_wp2
   go_ret;refine⟨by simp,?_,?_⟩
   ·have h:=(HH.out.alloc (.cells #[.int .i64 1] 2)).set_ 0 (.int .i64 ((now:Int)+1))
    rw[<- HW.out]at h;exact h
   ·have h:=((Chg.refl (· = t) w U).alloc (.cells #[.int .i64 1] 2)).setCell (p:=⟨c,0,none⟩) HH.out.own (.int .i64 ((now:Int)+1))
    rw[<- HW.out]at h;exact h
theorem lease182 (w:World)(c:Nat) :
 Calls Tryz.prog 182 #[.pointer (some ⟨c,0,none⟩)] w fun e w'=>e=.returned (.pointer (some ⟨w.heap.size,0,none⟩))/\w'=w.alloc (.cells #[.pointer (some ⟨c,0,none⟩),.int .i64 0,.int .i64 0,.int .i64 0] 143):=by
 go_enter Tryz.func182,Tryz.ntmps182
 go_wp2
 go_ret;exact⟨rfl,rfl⟩
abbrev LeaseAt (w:World)(U:Own)(t l c:Nat)(ep en top:Nat):Prop:=Has w U t l 143 #[.pointer (some ⟨c,0,none⟩),.int .i64 (ep:Int),.int .i64 (en:Int),.int .i64 (top:Int)]
theorem ask110 (w:World)(U:Own)(t l c ep en top t' now:Nat)(h:LeaseAt w U t l c ep en top)(hc:ClockAt w U t' c now) :
 Calls Tryz.prog 110 #[.pointer (some ⟨l,0,none⟩)] w fun e w'=>e=.returned (.int .i64 now)/\w=w':=by
 have c0:w.cell? ⟨l,0,none⟩=some (.pointer (some ⟨c,0,none⟩)):=h.cell 0;have HC:=hid hc;clear h hc;go_enter Tryz.func110,Tryz.ntmps110
 go_wp2_with fail
 refine(now61 w U t' c now HC.out).mono ?_;rintro e w' ⟨rfl,rfl⟩
 go_wp2
 go_ret;exact⟨rfl,rfl⟩
theorem drop230 (w:World)(U:Own)(t l c ep en top:Nat)(h:LeaseAt w U t l c ep en top) :
 Calls Tryz.prog 230 #[.pointer (some ⟨l,0,none⟩)] w fun e w'=>(∃ v,e=.returned v)/\LeaseAt w' U t l c 0 0 0/\Chg (· = t) w U w' U:=by
 have c1:w.cell? ⟨l,1,none⟩=some (.int .i64 (ep:Int)):=h.cell 1;have c2:w.cell? ⟨l,2,none⟩=some (.int .i64 (en:Int)):=h.cell 2;have c3:w.cell? ⟨l,3,none⟩=some (.int .i64 (top:Int)):=h.cell 3;have f1:=h.frozen 1;have f2:=h.frozen 2;have f3:=h.frozen 3;have HH:=hid h;clear h;go_enter Tryz.func230,Tryz.ntmps230
 go_wp2
 refine bodyPost_end (by first|rfl|(simp[results];rfl)) rfl ?_;exact⟨⟨_,rfl⟩,((HH.out.set_ 1 _).set_ 2 _).set_ 3 _,(((Chg.refl _ w U).setCell (p:=⟨l,1,none⟩) HH.out.own _).setCell (p:=⟨l,2,none⟩) HH.out.own _).setCell (p:=⟨l,3,none⟩) HH.out.own _⟩
theorem since145 (w:World)(U:Own)(t c now s:Nat)(h:ClockAt w U t c now)(hs:s<=now)(hn:now<=1099511627776) :
 Calls Tryz.prog 145 #[.pointer (some ⟨c,0,none⟩),.int .i64 (s:Int)] w fun e w'=>e=.returned (.int .i64 ((now-s:Nat):Int))/\w=w':=by
 have HC:=hid h
 have k1:¬ (now<s):=by omega
 have k2:decide (now<s)=false:=by simpa using hs
 have HE:Hid ((now:Int)-(s:Int)=((now-s:Nat):Int)):=hid (by omega)
 have k3:(s:Int)<=(now:Int):=by omega
 have k4:(0:Int)<=(s:Int):=by omega
 clear h;go_enter Tryz.func145,Tryz.ntmps145
 go_wp2_with fail
 refine(now61 w U t c now HC.out).mono ?_;rintro e w' ⟨rfl,rfl⟩
 go_wp2_with fail
 refine(now61 w U t c now HC.out).mono ?_;rintro e w' ⟨rfl,rfl⟩
 go_wp2
 go_ret;exact⟨by rw[<- HE.out];rfl,rfl⟩
def takeF (ep en top now sent e:Nat):Nat × Nat × Nat:=if 20<=now-sent\/(e=ep/\sent+20<=en) then (ep,en,top) else (e,sent+20,e)
set_option maxRecDepth 200000 in
theorem take191 (w:World)(U:Own)(t l c ep en top t' now sent e:Nat)(h:LeaseAt w U t l c ep en top)(hc:ClockAt w U t' c now)(he:1<=e)(het:top<=e)(hs:sent<=now)(hn:now<=1099511627776) :
 Calls Tryz.prog 191 #[.pointer (some ⟨l,0,none⟩),.int .i64 (sent:Int),.int .i64 (e:Int)] w fun r w'=>(∃ b,r=.returned (.bool b))/\LeaseAt w' U t l c (takeF ep en top now sent e).1 (takeF ep en top now sent e).2.1 (takeF ep en top now sent e).2.2/\Chg (· = t) w U w' U:=by
 have c0:w.cell? ⟨l,0,none⟩=some (.pointer (some ⟨c,0,none⟩)):=h.cell 0;have c1:w.cell? ⟨l,1,none⟩=some (.int .i64 (ep:Int)):=h.cell 1;have c2:w.cell? ⟨l,2,none⟩=some (.int .i64 (en:Int)):=h.cell 2;have c3:w.cell? ⟨l,3,none⟩=some (.int .i64 (top:Int)):=h.cell 3;have f1:=h.frozen 1;have f2:=h.frozen 2;have f3:=h.frozen 3;have HC:=hid hc;have HH:=hid h
 have n1:¬ (e<1):=by omega
 have n2:¬ (e<top):=by omega
 have n3:¬ (now<sent):=by omega
 have m1:decide (e<top)=false:=by simpa using het
 have m2:decide (now<sent)=false:=by simpa using hs
 have m3:¬ ((e:Int)<1):=by omega
 have m4:(sent:Int)+20<=9223372036854775807:=by omega
 clear h hc
 by_cases h1:20<=now-sent
 ·have HF:Hid (takeF ep en top now sent e=(ep,en,top)):=hid (by unfold takeF;rw[if_pos (.inl h1)])
  have h1':(20:Int)<=((now-sent:Nat):Int):=by omega
  clear h1 he het m4 n1 n2 n3;go_enter Tryz.func191,Tryz.ntmps191
  go_wp2_with fail
  refine(now61 w U t' c now HC.out).mono ?_;rintro e w' ⟨rfl,rfl⟩
  go_wp2_with fail
  refine(since145 w U t' c now sent HC.out hs hn).mono ?_;rintro e w' ⟨rfl,rfl⟩
  go_wp2
  go_ret;rw[HF.out];exact⟨⟨_,rfl⟩,HH.out,Chg.refl _ _ _⟩
 ·have h1':((now-sent:Nat):Int)<20:=by omega
  by_cases h2:e=ep/\sent+20<=en
  ·have HF:Hid (takeF ep en top now sent e=(ep,en,top)):=hid (by unfold takeF;rw[if_pos (.inr h2)])
   have q1:((e:Int) == (ep:Int))=true:=by rw[beq_iff_eq];omega
   have q2:(sent:Int)+20<=(en:Int):=by omega
   clear h2 h1 he het m4 n1 n2 n3;go_enter Tryz.func191,Tryz.ntmps191
   go_wp2_with fail
   refine(now61 w U t' c now HC.out).mono ?_;rintro e w' ⟨rfl,rfl⟩
   go_wp2_with fail
   refine(since145 w U t' c now sent HC.out hs hn).mono ?_;rintro e w' ⟨rfl,rfl⟩
   go_wp2
   go_ret;rw[HF.out];exact⟨⟨_,rfl⟩,HH.out,Chg.refl _ _ _⟩
  ·have HF:Hid (takeF ep en top now sent e=(e,sent+20,e)):=hid (by unfold takeF;rw[if_neg (by omega)])
   by_cases h3:e=ep
   ·have q1:((e:Int) == (ep:Int))=true:=by rw[beq_iff_eq];omega
    have q2:¬ ((sent:Int)+20<=(en:Int)):=by omega
    clear h2 h3 h1 he het m4 n1 n2 n3;go_enter Tryz.func191,Tryz.ntmps191
    go_wp2_with fail
    refine(now61 w U t' c now HC.out).mono ?_;rintro e w' ⟨rfl,rfl⟩
    go_wp2_with fail
    refine(since145 w U t' c now sent HC.out hs hn).mono ?_;rintro e w' ⟨rfl,rfl⟩
    go_wp2
    go_ret;rw[HF.out];exact⟨⟨_,rfl⟩,((HH.out.set_ 1 _).set_ 2 _).set_ 3 _,(((Chg.refl _ w U).setCell (p:=⟨l,1,none⟩) HH.out.own _).setCell (p:=⟨l,2,none⟩) HH.out.own _).setCell (p:=⟨l,3,none⟩) HH.out.own _⟩
   ·have q1:((e:Int) == (ep:Int))=false:=by rw[beq_eq_false_iff_ne];omega
    clear h2 h3 h1 he het m4 n1 n2 n3;go_enter Tryz.func191,Tryz.ntmps191
    go_wp2_with fail
    refine(now61 w U t' c now HC.out).mono ?_;rintro e w' ⟨rfl,rfl⟩
    go_wp2_with fail
    refine(since145 w U t' c now sent HC.out hs hn).mono ?_;rintro e w' ⟨rfl,rfl⟩
    go_wp2
    go_ret;rw[HF.out];exact⟨⟨_,rfl⟩,((HH.out.set_ 1 _).set_ 2 _).set_ 3 _,(((Chg.refl _ w U).setCell (p:=⟨l,1,none⟩) HH.out.own _).setCell (p:=⟨l,2,none⟩) HH.out.own _).setCell (p:=⟨l,3,none⟩) HH.out.own _⟩
def goodF (ep en now e:Nat):Bool:=decide (0<e/\e=ep/\now<en)
theorem good47 (w:World)(U:Own)(t l c ep en top t' now e:Nat)(h:LeaseAt w U t l c ep en top)(hc:ClockAt w U t' c now) :
 Calls Tryz.prog 47 #[.pointer (some ⟨l,0,none⟩),.int .i64 (e:Int)] w fun r w'=>r=.returned (.bool (goodF ep en now e))/\∃ n,w'=w.drewN n:=by
 have c0:w.cell? ⟨l,0,none⟩=some (.pointer (some ⟨c,0,none⟩)):=h.cell 0;have c1:w.cell? ⟨l,1,none⟩=some (.int .i64 (ep:Int)):=h.cell 1;have c2:w.cell? ⟨l,2,none⟩=some (.int .i64 (en:Int)):=h.cell 2;have HC:=hid hc;have HN:Hid (∀ n,Calls Tryz.prog 61 #[.pointer (some ⟨c,0,none⟩)] (w.drewN n) fun e w''=>e=.returned (.int .i64 now)/\∃ m,w''=w.drewN m):=hid (fun n=>Calls.quiet_of_same ((now61 (w.drewN n) U t' c now (HC.out.drewN n)).mono fun e w' ⟨h1,h2⟩=>⟨h1,h2.symm⟩));clear h hc
 by_cases h1:0<e
 ·have h1':decide (0<e)=true:=by simpa using h1
  by_cases h2:(e:Int)=(ep:Int)
  ·have HF:Hid (goodF ep en now e=decide (now<en)):=hid (by unfold goodF;rw[decide_eq_decide];omega)
   have h2':((e:Int) == (ep:Int))=true:=by rw[beq_iff_eq];exact h2
   have H2:=hid h2;clear h2;go_enter Tryz.func47,Tryz.ntmps47
   go_wp2
   go_quiet (exact HN.out _)
   go_wp2
   go_ret;exact⟨by rw[HF.out];rfl,_,rfl⟩
  ·have HF:Hid (goodF ep en now e=false):=hid (by unfold goodF;rw[decide_eq_false_iff_not];omega)
   have h2':((e:Int) == (ep:Int))=false:=by rw[beq_eq_false_iff_ne];exact h2
   clear h2;go_enter Tryz.func47,Tryz.ntmps47
   go_wp2
   go_quiet (exact HN.out _)
   go_wp2
   go_ret;exact⟨by rw[HF.out];rfl,_,rfl⟩
 ·have HF:Hid (goodF ep en now e=false):=hid (by unfold goodF;rw[decide_eq_false_iff_not];omega)
  have h1':decide (0<e)=false:=by simpa using h1
  go_enter Tryz.func47,Tryz.ntmps47
  go_wp2
  go_quiet (exact HN.out _)
  go_wp2
  go_ret;exact⟨by rw[HF.out];rfl,_,rfl⟩
end Go.Proofs.Ytlhekbjidppijaa
