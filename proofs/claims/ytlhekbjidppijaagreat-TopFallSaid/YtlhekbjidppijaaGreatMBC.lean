/- Contracts of what TopFall reaches: what each function returns and leaves in memory. Conditions: as named. -/
import Derived.Test.YtlhekbjidppijaaGreatMBB
set_option linter.unusedVariables false
set_option linter.unusedSimpArgs false
set_option maxRecDepth 20000
set_option maxHeartbeats 8000000
namespace Go.Proofs.Ytlhekbjidppijaa
open Lib (hid)
open Go.RowKit
def doneL (l:List PCall):Bool:=(List.range l.length).all fun j=>match l[j]? with
 | some z=>z.done && decide (z.id=j+1)
 | none=>false
theorem doneL_at {l:List PCall}(h:doneL l=true)(j:Nat)(hj:j<l.length):l[j].done=true/\l[j].id=j+1:=by
 have:=List.all_eq_true.1 h j (List.mem_range.2 hj);rw[List.getElem?_eq_getElem hj]at this
 simpa using this
theorem endDone (w:World)(U:Own)(t p pos i op:Nat)(key:ByteArray)(cs:List PCall)(h:LgAt w U t p cs)(hn:cs.length<=1000)(hi:i<cs.length)(hd:cs[i].done=true) :
 Calls Tryz.prog 108 #[.pointer (some ⟨p,0,none⟩),.agg (encR ⟨i+1,op,key,8,⟨#[]⟩,false⟩).toArray,.int .i64 (pos:Int)] w fun e w'=>e=.returned (.bool false)/\Below w.heap.size w w':=by
 obtain⟨v,hp,hr⟩:=h.ex
 obtain⟨g,c,rfl,hcells⟩:∃ g c,v=.slice (some ⟨g,0,none⟩) cs.length c/\∀ j,j<13->w.cell? ⟨g,i*13+j,none⟩=(encC cs[i])[j]?:=by
  rcases hr.own.2 with ⟨_,h⟩|⟨g,cap,cur,rfl,-,hg,hc,hm,hsz,htk⟩
  ·omega
  ·refine⟨g,cap,rfl,fun j hj=>?_⟩
   rw[Blk.cell hg,<- flat_get encC_len cs i j hi hj,<- htk,List.getElem?_take,if_pos (by omega),Array.getElem?_toList]
 have hgl:g<w.heap.size:=by
  have:=hcells 6 (by decide);exact World.block_lt_of_cell? w ⟨g,i*13+6,none⟩ (u:=.bool cs[i].done) (by rw[this];rfl)
 have hpl:=hp.lt;generalize hx:cs[i]=x at *;obtain⟨xid,xop,xkey,xnode,xfrm,xto,xdone,xrep⟩:=x;dsimp only at hd;subst hd;have c6:=hcells 6 (by decide);unfold encC at c6;have cp:=hp.cell 0
 have k1:decide ((i:Int)+1<1)=false:=by rw[decide_eq_false_iff_not];omega
 have k2:¬ ((cs.length:Int)<(i:Int)+1):=by omega
 have k3:(i:Int)<(cs.length:Int):=by omega
 have k4:(i:Int)<=1000:=by omega
 have k5:(0:Int)<=(i:Int):=by omega
 have k6:¬ (cs.length<i+1):=by omega
 have hne2:g≠w.heap.size:=by omega
 have hne3:p≠w.heap.size:=by omega
 clear h hp hr hcells;unfold encR;dsimp only;go_enter Tryz.func108,Tryz.ntmps108
 go_wp2_with fail
 go_quiet (fail)
 go_wp2_with fail
 go_quiet (fail)
 go_wp2_with fail
 go_quiet (fail)
 go_wp2_with fail
 go_ret;refine⟨rfl,?_⟩;have hb:Below w.heap.size w (w.alloc (.cells #[.int .i64 ((i:Int)+1),.int .i64 (op:Int),.string key,.int .i64 8,.string ⟨#[]⟩,.bool false] 57)):=(Below.refl _ _).alloc (Nat.le_refl _) _;exact⟨hb.os,hb.tape,hb.output,hb.size,hb.block⟩
theorem drop93 (w:World)(U:Own)(t p pos node:Nat)(cs:List PCall)(h:LgAt w U t p cs)(hn:cs.length<=1000)(hd:doneL cs=true) :
 Calls Tryz.prog 93 #[.pointer (some ⟨p,0,none⟩),.int .i64 (node:Int),.int .i64 (pos:Int)] w fun e w'=>e=.returned (.int .i64 0)/\Below w.heap.size w w':=by
 have HAl:=hid (all28 w U t p cs h hn)
 have HE:Hid (∀ W,Below w.heap.size w W->∀ i (hi:i<cs.length) (op:Nat) (key:ByteArray),Calls Tryz.prog 108 #[.pointer (some ⟨p,0,none⟩),.agg (encR ⟨i+1,op,key,8,⟨#[]⟩,false⟩).toArray,.int .i64 (pos:Int)] W fun e w'=>e=.returned (.bool false)/\Below W.heap.size W w'):=hid fun W hb i hi op key=>
  endDone W _ t p pos i op key cs (h.keep (Chg.of_below hb 94:Chg (fun _=>False) w U W _) id id) hn hi (doneL_at hd i hi).1
 have HD:=hid hd
 have kl:(cs.length:Int)<=1000:=by omega
 clear h hn hd;go_enter Tryz.func93,Tryz.ntmps93
 go_wp2_with fail
 refine HAl.out.mono ?_;rintro e w1 ⟨v,rfl,ho,hb⟩;obtain⟨A,ca,rfl⟩:=ownsRow_slice ho;have hrw:Rw w1 (ext U w 94) 94 59 13 (.slice A cs.length ca) cs.length (cs.flatMap encC):=Rw.of_new ho (Nat.le_refl _) _ _;obtain⟨A',c',e',-,-,-,hsl,-,-⟩:=hrw.slice
 injection e' with e1 _ _
 subst e1;have HCe:Hid (∀ k (hk:k<cs.length),∃ g o,A=some ⟨g,o,none⟩/\∀ r v,(encC cs[k])[r]? = some v->w1.cell? ⟨g,o+(k*13+r),none⟩=some v):=hid fun k hk=>Sl.flat encC_len (by decide) hsl k hk;have HB:=hid hb;obtain⟨N,hN⟩:∃ N,N=cs.length:=⟨_,rfl⟩;have HN:=hid hN;rw[<- hN]at kl ⊢;clear ho hb hrw hsl HAl hN
 go_wp2_with fail
 go_loopw [7,13] (fun z i wr=>z=.int .i64 0/\∃ k:Nat,k<=N/\i=.int .i64 (k:Int)/\Below w1.heap.size w1 wr) (fun _ i _=>N-(intOf i).toNat)
 case atStart=>exact⟨rfl,0,Nat.zero_le _,rfl,Below.refl _ _⟩
 case round=>
  obtain⟨rfl,k,hk,rfl,hb⟩:=hrel
  by_cases hlt:k<N
  ·have hkl:k<cs.length:=by rw[<- HN.out];exact hlt
   obtain⟨g,o,rfl,hcs⟩:=HCe.out k hkl;have hjd:=(doneL_at HD.out k hkl).2;have HEk:=hid fun W hb=>HE.out W hb k hkl;generalize cs[k]=z at hcs hjd
   have hcl:∀ r v,(encC z)[r]? = some v->wr.cell? ⟨g,o+k*13+r,none⟩=some v:=fun r v h=>by
    have h1:=hcs r v h;rw[<- h1,Nat.add_assoc];exact World.cell?_of_block (a:=⟨g,o+(k*13+r),none⟩) (hb.block g (World.block_lt_of_cell? w1 ⟨g,o+(k*13+r),none⟩ h1))
   obtain⟨zid,zop,zkey,znode,zf,zt,zd,zr⟩:=z;dsimp only at hjd;subst hjd
   have k1:(k:Int)<(N:Int):=by omega
   have k2:(0:Int)<=(k:Int):=by omega
   obtain⟨enc,henc⟩:∃ enc,enc=encC ⟨k+1,zop,zkey,znode,zf,zt,zd,zr⟩:=⟨_,rfl⟩
   have hel:enc.length=13:=by rw[henc];exact encC_len _
   have heo:∀ v∈enc,v.oneCell'=true:=by
    rw[henc];intro v hv;simp only[encC,List.mem_cons,List.not_mem_nil,or_false]at hv
    rcases hv with rfl|rfl|rfl|rfl|rfl|rfl|rfl|rfl|rfl|rfl|rfl|rfl|rfl <;> rfl
   have HLd:Hid ((Instr.loadAt 59 (.pointer (some ⟨g,o+k*13,none⟩))).run Tryz.prog wr=.ok (.agg enc.toArray) wr):=hid (run_loadAgg wr 59 g (o+k*13) enc 13 (by kernel_rfl) (by kernel_rfl) hel (by rw[henc];exact fun j u hu=>hcl j u hu));obtain⟨W1,st1,kb1,hl1,hz1⟩:=store_new (P:=Tryz.prog) wr 59 #[.int .i64 0,.int .i64 0,.string ⟨#[]⟩,.int .i64 0,.int .i64 0,.int .i64 0,.bool false,.int .i64 0,.int .i64 0,.string ⟨#[]⟩,.int .i64 0,.string ⟨#[]⟩,.bool false] enc 13 (by kernel_rfl) hel (by rfl) heo;obtain⟨cb,hcb⟩:∃ b,b=wr.heap.size:=⟨_,rfl⟩;rw[<- hcb]at st1 kb1
   have q0:W1.cell? ⟨cb,0,none⟩=some (.int .i64 ((k:Int)+1)):=by rw[kb1.cell,henc];rfl
   have q1:W1.cell? ⟨cb,1,none⟩=some (.int .i64 (zop:Int)):=by rw[kb1.cell,henc];rfl
   have q2:W1.cell? ⟨cb,2,none⟩=some (.string zkey):=by rw[kb1.cell,henc];rfl
   have q3:W1.cell? ⟨cb,3,none⟩=some (.int .i64 (znode:Int)):=by rw[kb1.cell,henc];rfl
   have hB1:Below w1.heap.size w1 W1:=hb.trans (hl1.mono hb.size);have HEQ:=hid (HEk.out W1 (HB.out.trans (hB1.mono HB.out.size)) zop zkey);unfold encR at HEQ;dsimp only at HEQ;have HST:=hid (And.intro st1 hcb);have HB1:=hid hB1
   have hcase:znode=node\/(znode≠node/\((znode:Int) == (node:Int))=false):=by
    by_cases h:znode=node
    ·exact .inl h
    ·exact .inr ⟨h,by rw[beq_eq_false_iff_ne];omega⟩
   clear hcs hcl hb henc hel heo st1 kb1 hl1 hz1 hB1 hcb HE HEk
   rcases hcase with rfl|⟨hne,e1⟩
   ·go_wp2_with (first|(refine wpl_lq 59 _ rfl ?_;refine lq 59 _ (.pointer (some ⟨g,o+k*13,none⟩)) _ (by go_simp) (by kernel_rfl) HLd.out ?_)|(refine wpl_sq 59 _ _ rfl rfl ?_;rw[<- HST.out.2];refine sq 59 _ _ (.pointer (some ⟨cb,0,none⟩)) (.agg enc.toArray) W1 rfl rfl (by kernel_rfl) HST.out.1 ?_)|(go_at_call 108;fail))
    refine HEQ.out.mono ?_;rintro e w5 ⟨rfl,hb5⟩;have HB5:=hid (HB1.out.trans (hb5.mono HB1.out.size));clear hb5 HEQ q0 q1 q2 q3
    go_wp2_with fail
    go_roundw
    case rel=>exact⟨rfl,k+1,by omega,by go_num,HB5.out⟩
    case measure=>simp[intOf];omega
   ·have e2:¬ (znode:Int)=(node:Int):=by omega
    go_wp2_with (first|(refine wpl_lq 59 _ rfl ?_;refine lq 59 _ (.pointer (some ⟨g,o+k*13,none⟩)) _ (by go_simp) (by kernel_rfl) HLd.out ?_)|(refine wpl_sq 59 _ _ rfl rfl ?_;rw[<- HST.out.2];refine sq 59 _ _ (.pointer (some ⟨cb,0,none⟩)) (.agg enc.toArray) W1 rfl rfl (by kernel_rfl) HST.out.1 ?_)|fail)
    go_roundw
    case rel=>exact⟨rfl,k+1,by omega,by go_num,HB1.out⟩
    case measure=>simp[intOf];omega
  ·obtain rfl:k=N:=by omega
   have HF:=hid (HB.out.trans (hb.mono HB.out.size));clear hb
   go_wp2_with fail
   go_ret;exact⟨rfl,HF.out⟩
end Go.Proofs.Ytlhekbjidppijaa
