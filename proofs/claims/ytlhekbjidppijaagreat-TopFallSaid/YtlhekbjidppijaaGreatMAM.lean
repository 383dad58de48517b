/- Contracts of what TopFall reaches: what each function returns and leaves in memory. Conditions: as named. -/
import Derived.Deep.RegionLaw
import Derived.Test.YtlhekbjidppijaaGreatMAL
set_option linter.unusedVariables false
set_option linter.unusedSimpArgs false
set_option maxRecDepth 20000
set_option maxHeartbeats 8000000
namespace Go.Proofs.Ytlhekbjidppijaa
open Lib (hid)
open Go.RowKit
theorem splice_nil (cur:Array Value)(o:Nat):splice cur o []=cur:=by
 unfold splice;simp[List.take_append_drop]
theorem splice_cons (cur:Array Value)(o:Nat)(v:Value)(r:List Value)(h:o+(r.length+1)<=cur.size):splice (cur.setIfInBounds o v) (o+1) r=splice cur o (v :: r):=by
 apply Array.ext_getElem?;intro k;rw[splice_get _ _ _ (by simp;omega),splice_get _ _ _ (by simp;omega)];simp only[Array.getElem?_setIfInBounds,List.length_cons]
 by_cases h1:k<o
 ·rw[if_pos (by omega),if_neg (by omega),if_pos h1]
 ·by_cases h2:k=o
  ·subst h2
   rw[if_pos (by omega),if_pos rfl,if_pos (by omega),if_neg h1,if_pos (by omega),Nat.sub_self];rfl
  ·rw[if_neg (by omega),if_neg h1]
   by_cases h3:k<o+1+r.length
   ·rw[if_pos h3,if_pos (by omega),show k-o=(k-(o+1))+1 by omega,List.getElem?_cons_succ]
   ·rw[if_neg h3,if_neg (by omega),if_neg (by omega)]
theorem Blk.setCells {g:Nat}{t:TypeId}:∀ (news:List Value) (o:Nat) (w:World) (cur:Array Value),Blk w g t cur->o+news.length<=cur.size->Blk (w.setCells g o news) g t (splice cur o news)
 | [],o,w,cur,h,_=>by rw[splice_nil];exact h
 | v :: r,o,w,cur,h,hf=>by
  have:=Blk.setCells r (o+1) (w.setCell ⟨g,o,none⟩ v) (cur.setIfInBounds o v) (h.set_ o v) (by simp at hf ⊢;omega);rw[splice_cons cur o v r (by simpa using hf)]at this;exact this
theorem Chg.setCells {T:Nat->Prop}{w0:World}{U0 U:Own}{g:Nat}(hT:T (U g)):∀ (news:List Value) (o:Nat) (w:World),Chg T w0 U0 w U->Chg T w0 U0 (w.setCells g o news) U
 | [],_,_,h=>h
 | v :: r,o,w,h=>Chg.setCells hT r (o+1) _ (h.setCell (p:=⟨g,o,none⟩) hT v)
theorem run_clear_agg {P:Program}(w:World)(t e ty:TypeId)(z:Value)(zs:List Value)(ht:P.underlying t=some (.slice e))(hv:∀ w,(zeroValue e).run P w=.ok z w)(hz:(Builtin.zeroCells z.cells 1).toList=zs)(h1:∀ v∈zs,v.oneCell'=true)(b o c:Nat)
 (hc:∀ j,j<zs.length->(w.cell? ⟨b,o+j,none⟩).isSome=true)(hf:∀ j,j<zs.length->w.frozen? ⟨b,o+j,none⟩=false) :
 (Builtin.clear_ #[t] ty #[.slice (some ⟨b,o,none⟩) 1 c]).run P w=.ok (.tuple #[]) (w.setCells b o zs):=by
 have hst:=run_storeCells_cells (P:=P) b o zs 0 w (by simpa using hc) (by simpa using hf) h1;simp only[Nat.add_zero]at hst;simp[Builtin.clear_,run_underlying ht,hv,hz,hst]
theorem Rw.del {w W:World}{U:Own}{t e size g n cap i:Nat}{xs zs:List Value}{cur:Array Value}(hr:Rw w U t e size (.slice (some ⟨g,0,none⟩) n cap) n xs)(hb:Blk w g e cur)(hi:i<n)(hz:zs.length=size)
 (hW:Blk W g e (splice (splice cur (i*size) (xs.drop ((i+1)*size))) ((n-1)*size) zs))(hs:w.heap.size<=W.heap.size) :
 Rw W U t e size (.slice (some ⟨g,0,none⟩) (n-1) cap) (n-1) (xs.take (i*size)++xs.drop ((i+1)*size)):=by
 have hlen:=hr.own.1
 rcases hr.own.2 with ⟨h,_⟩|⟨g',cap',cur',h,hb0,hg,hc,hm,hsz,htk⟩
 ·cases h
 simp only[Value.slice.injEq,Option.some.injEq,Addr.mk.injEq]at h;obtain⟨⟨rfl,-⟩,-,rfl⟩:=h
 have:cur'=cur:=by
  unfold Blk at hb;rw[hb]at hg
  injection hg with hg
  injection hg with hg
  exact hg.symm
 subst this;have hk1:(i+1)*size<=n*size:=Nat.mul_le_mul_right _ hi
 have hk2:(n-1)*size+size=n*size:=by rw[<- Nat.succ_mul];congr 1;omega
 have hk3:i*size+size=(i+1)*size:=(Nat.succ_mul _ _).symm;have hk4:n*size<=cap*size:=Nat.mul_le_mul_right _ hc
 have hl2:(xs.drop ((i+1)*size)).length=n*size-(i+1)*size:=by rw[List.length_drop,hlen]
 have hxs:xs=cur'.toList.take (n*size):=htk.symm
 have hsz1:(splice cur' (i*size) (xs.drop ((i+1)*size))).size=cur'.size:=by
  unfold splice;simp;omega
 have hsz2:(splice (splice cur' (i*size) (xs.drop ((i+1)*size))) ((n-1)*size) zs).size=cur'.size:=by
  generalize splice cur' (i*size) (xs.drop ((i+1)*size))=q at hsz1;unfold splice;simp;omega
 refine⟨⟨by rw[List.length_append,List.length_take,hl2,hlen];omega,.inr ⟨g,cap,_,rfl,Nat.zero_le _,hW,by omega,hm,by rw[hsz2];exact hsz,?_⟩⟩,hr.tag⟩;apply List.ext_getElem?;intro k;rw[List.getElem?_take]
 by_cases hk:k<(n-1)*size
 ·rw[if_pos hk,Array.getElem?_toList,splice_get _ _ _ (by rw[hsz1];omega),if_pos hk,splice_get _ _ _ (by omega)]
  by_cases h1:k<i*size
  ·rw[if_pos h1,List.getElem?_append_left (by rw[List.length_take,hlen];omega),List.getElem?_take,if_pos h1,hxs,List.getElem?_take,if_pos (by omega),Array.getElem?_toList]
  ·rw[if_neg h1,if_pos (by omega),List.getElem?_append_right (by rw[List.length_take,hlen];omega),List.length_take,hlen]
   congr 1
   omega
 ·rw[if_neg hk,eq_comm,List.getElem?_eq_none]
  rw[List.length_append,List.length_take,hl2,hlen];omega
theorem info182z:(Tryz.prog.info? 182).map (fun i=>(i.size))=some 21:=by kernel_rfl
def zero182:List Value:=[.int .i64 0,.int .i64 0,.int .i64 0,.int .i64 0,.int .i64 0,.int .i64 0,.int .i64 0,.int .i64 0,.int .i64 0,.string ⟨#[]⟩,.int .i64 0,.bool false,.string ⟨#[]⟩,.string ⟨#[]⟩,.int .i64 0,.bool false,.slice none 0 0,.slice none 0 0,.slice none 0 0,.int .i64 0,.slice none 0 0]
theorem del114 (w:World)(U:Own)(t:Nat)(v:Value)(n i:Nat)(xs:List Value)(hr:Rw w U t 182 21 v n xs)(hi:i<n)(hn:n<=1048576)(h1x:∀ u∈xs,u.oneCell'=true) :
 Calls Tryz.prog 114 #[v,.int .i64 (i:Int),.int .i64 ((i:Int)+1)] w fun e w'=>∃ v',e=.returned v'/\Rw w' U t 182 21 v' (n-1) (xs.take (i*21)++xs.drop ((i+1)*21))/\Chg (· = t) w U w' U:=by
 have hlen:=hr.own.1
 rcases hr.own.2 with ⟨_,h⟩|⟨g,cap,cur,rfl,-,hg,hc,hm,hsz,htk⟩
 ·omega
 have hb:Blk w g 182 cur:=hg;have htg:U g=t:=hr.tag g rfl;obtain⟨m,rfl⟩:∃ m,n=m+1:=⟨n-1,by omega⟩;obtain⟨news,hnews⟩:∃ news,news=xs.drop ((i+1)*21):=⟨_,rfl⟩
 have hln:news.length=(m-i)*21:=by rw[hnews,List.length_drop,hlen];omega
 have hm1:maxLen=9223372036854775807:=rfl
 obtain⟨i0,hi0,hi1⟩:∃ i0,Tryz.prog.info? 182=some i0/\i0.size=21:=by
  have h:=info182z
  cases hq:Tryz.prog.info? 182 with
  | none=>rw[hq]at h;simp at h
  | some q=>rw[hq]at h;exact⟨q,rfl,by simpa using h⟩
 have HI:=hid (And.intro hi0 hi1)
 have hget:∀ k u,news[k]? = some u->w.cell? ⟨g,(i+1)*21+k,none⟩=some u:=by
  intro k u hu;have hk:=(List.getElem?_eq_some_iff.1 hu).1;rw[hb.cell];rw[hnews,List.getElem?_drop,<- htk,List.getElem?_take,if_pos (by omega),Array.getElem?_toList]at hu;exact hu
 obtain⟨A,hA,hsrc⟩:∃ A:Addr,(if cap=i+1 then (some (⟨g,0,none⟩:Addr)) else some ⟨g,(i+1)*21,none⟩)=some A/\Hid (∀ k u,news[k]? = some u->w.drew.cell? (A.add k)=some u):=by
  by_cases h:cap=i+1
  ·refine⟨⟨g,0,none⟩,by rw[if_pos h],fun k u hu=>?_⟩
   have:=(List.getElem?_eq_some_iff.1 hu).1;omega
  ·refine⟨⟨g,(i+1)*21,none⟩,by rw[if_neg h],fun k u hu=>?_⟩
   rw[add_none];exact hget k u hu
 have h1:Hid (∀ u∈news,u.oneCell'=true):=hid fun u hu=>h1x u (by rw[hnews]at hu;exact List.mem_of_mem_drop hu)
 have hroom:Hid (∀ j,j<news.length->(w.drew.cell? ⟨g,0+i*21+j,none⟩).isSome=true/\w.drew.frozen? ⟨g,0+i*21+j,none⟩=false):=hid fun j hj=>by
  refine⟨?_,hb.drew.frozen _⟩;rw[hb.drew.cell,Array.getElem?_eq_getElem (by omega)];rfl
 obtain⟨W1,hW1⟩:∃ W1,W1=w.drew.setCells g (0+i*21) news:=⟨_,rfl⟩;have HW1:=hid hW1
 have hb1:Blk W1 g 182 (splice cur (i*21) news):=by
  rw[hW1,Nat.zero_add];exact Blk.setCells news _ _ cur hb.drew (by omega)
 have hs1:(splice cur (i*21) news).size=cur.size:=by unfold splice;simp;omega
 have hcl:∀ ty,(Builtin.clear_ #[99] ty #[.slice (some ⟨g,m*21,none⟩) 1 (cap-m)]).run Tryz.prog W1=.ok (.tuple #[]) (W1.setCells g (m*21) zero182):=fun ty=>
  run_clear_agg W1 99 182 ty (.agg zero182.toArray) zero182 (by kernel_rfl) (fun w=>by kernel_rfl) (by kernel_rfl) (by unfold zero182;simp[Value.oneCell']) g (m*21) (cap-m) (fun j hj=>by
   have:zero182.length=21:=rfl;rw[hb1.cell,Array.getElem?_eq_getElem (by omega)]
   rfl) (fun j hj=>hb1.frozen _)
 have hF:Hid (∀ W,W=W1.setCells g (m*21) zero182->Rw W U t 182 21 (.slice (some ⟨g,0,none⟩) m cap) m (xs.take (i*21)++xs.drop ((i+1)*21))/\Chg (· = t) w U W U):=hid fun W hW=>by
  have hch:Chg (· = t) w U W1 U:=by rw[hW1];exact Chg.setCells htg _ _ _ (Chg.refl _ _ _).drew
  have hch2:Chg (· = t) w U W U:=by rw[hW];exact Chg.setCells htg _ _ _ hch
  have hW2:=Blk.setCells zero182 (m*21) W1 _ hb1 (by have:zero182.length=21:=rfl;omega);rw[<- hW,hnews]at hW2;exact⟨Rw.del hr hb hi rfl hW2 hch2.size,hch2⟩
 have hic:i<=cap:=by omega
 have hjc:i+1<=cap:=by omega
 have hmc:m<=cap:=by omega
 have hj0:(0:Int)<=(i:Int)+1:=by omega
 have hjn:(i:Int)+1<=((m+1:Nat):Int):=by omega
 have hjn2:(i:Int)<=(m:Int):=by omega
 have hin:i<m+1:=hi
 have hem:¬ (cap=m):=by omega
 have e1:i+(m-i)=m:=by omega
 have hmm:(m:Int)<=(cap:Int):=by omega
 have hmm1:(m:Int)+1<=(cap:Int):=by omega
 clear hnews hW1 hb1 hs1 hr hb hg hsz htk hget hi0 hi1 h1x hlen htg hm1;go_enter Tryz.func114,Tryz.ntmps114
 go_wp2_with fail
 go_region_law (refine step_append_room rfl (.tmp 22) (.tmp 25) 99 rfl 182 i0 21 (by kernel_rfl) HI.out.1 HI.out.2 g 0 i cap (by simp[Act.eval,Act.put]) A (m-i) (cap-(i+1)) news (by simp[Act.eval,Act.put]) hln hsrc.out h1.out (by omega) hroom.out ?_;rw[<- HW1.out])
 go_wp2
 go_ret;exact⟨_,rfl,hF.out _ rfl⟩
theorem info108z:(Tryz.prog.info? 108).map (fun i=>(i.size))=some 5:=by kernel_rfl
def zero108:List Value:=[.int .i64 0,.int .i64 0,.int .i64 0,.string ⟨#[]⟩,.int .i64 0]
theorem del117 (w:World)(U:Own)(t:Nat)(v:Value)(n i:Nat)(xs:List Value)(hr:Rw w U t 108 5 v n xs)(hi:i<n)(hn:n<=1048576)(h1x:∀ u∈xs,u.oneCell'=true) :
 Calls Tryz.prog 117 #[v,.int .i64 (i:Int),.int .i64 ((i:Int)+1)] w fun e w'=>∃ v',e=.returned v'/\Rw w' U t 108 5 v' (n-1) (xs.take (i*5)++xs.drop ((i+1)*5))/\Chg (· = t) w U w' U:=by
 have hlen:=hr.own.1
 rcases hr.own.2 with ⟨_,h⟩|⟨g,cap,cur,rfl,-,hg,hc,hm,hsz,htk⟩
 ·omega
 have hb:Blk w g 108 cur:=hg;have htg:U g=t:=hr.tag g rfl;obtain⟨m,rfl⟩:∃ m,n=m+1:=⟨n-1,by omega⟩;obtain⟨news,hnews⟩:∃ news,news=xs.drop ((i+1)*5):=⟨_,rfl⟩
 have hln:news.length=(m-i)*5:=by rw[hnews,List.length_drop,hlen];omega
 have hm1:maxLen=9223372036854775807:=rfl
 obtain⟨i0,hi0,hi1⟩:∃ i0,Tryz.prog.info? 108=some i0/\i0.size=5:=by
  have h:=info108z
  cases hq:Tryz.prog.info? 108 with
  | none=>rw[hq]at h;simp at h
  | some q=>rw[hq]at h;exact⟨q,rfl,by simpa using h⟩
 have HI:=hid (And.intro hi0 hi1)
 have hget:∀ k u,news[k]? = some u->w.cell? ⟨g,(i+1)*5+k,none⟩=some u:=by
  intro k u hu;have hk:=(List.getElem?_eq_some_iff.1 hu).1;rw[hb.cell];rw[hnews,List.getElem?_drop,<- htk,List.getElem?_take,if_pos (by omega),Array.getElem?_toList]at hu;exact hu
 obtain⟨A,hA,hsrc⟩:∃ A:Addr,(if cap=i+1 then (some (⟨g,0,none⟩:Addr)) else some ⟨g,(i+1)*5,none⟩)=some A/\Hid (∀ k u,news[k]? = some u->w.drew.cell? (A.add k)=some u):=by
  by_cases h:cap=i+1
  ·refine⟨⟨g,0,none⟩,by rw[if_pos h],fun k u hu=>?_⟩
   have:=(List.getElem?_eq_some_iff.1 hu).1;omega
  ·refine⟨⟨g,(i+1)*5,none⟩,by rw[if_neg h],fun k u hu=>?_⟩
   rw[add_none];exact hget k u hu
 have h1:Hid (∀ u∈news,u.oneCell'=true):=hid fun u hu=>h1x u (by rw[hnews]at hu;exact List.mem_of_mem_drop hu)
 have hroom:Hid (∀ j,j<news.length->(w.drew.cell? ⟨g,0+i*5+j,none⟩).isSome=true/\w.drew.frozen? ⟨g,0+i*5+j,none⟩=false):=hid fun j hj=>by
  refine⟨?_,hb.drew.frozen _⟩;rw[hb.drew.cell,Array.getElem?_eq_getElem (by omega)];rfl
 obtain⟨W1,hW1⟩:∃ W1,W1=w.drew.setCells g (0+i*5) news:=⟨_,rfl⟩;have HW1:=hid hW1
 have hb1:Blk W1 g 108 (splice cur (i*5) news):=by
  rw[hW1,Nat.zero_add];exact Blk.setCells news _ _ cur hb.drew (by omega)
 have hs1:(splice cur (i*5) news).size=cur.size:=by unfold splice;simp;omega
 have hcl:∀ ty,(Builtin.clear_ #[98] ty #[.slice (some ⟨g,m*5,none⟩) 1 (cap-m)]).run Tryz.prog W1=.ok (.tuple #[]) (W1.setCells g (m*5) zero108):=fun ty=>
  run_clear_agg W1 98 108 ty (.agg zero108.toArray) zero108 (by kernel_rfl) (fun w=>by kernel_rfl) (by kernel_rfl) (by unfold zero108;simp[Value.oneCell']) g (m*5) (cap-m) (fun j hj=>by
   have:zero108.length=5:=rfl;rw[hb1.cell,Array.getElem?_eq_getElem (by omega)]
   rfl) (fun j hj=>hb1.frozen _)
 have hF:Hid (∀ W,W=W1.setCells g (m*5) zero108->Rw W U t 108 5 (.slice (some ⟨g,0,none⟩) m cap) m (xs.take (i*5)++xs.drop ((i+1)*5))/\Chg (· = t) w U W U):=hid fun W hW=>by
  have hch:Chg (· = t) w U W1 U:=by rw[hW1];exact Chg.setCells htg _ _ _ (Chg.refl _ _ _).drew
  have hch2:Chg (· = t) w U W U:=by rw[hW];exact Chg.setCells htg _ _ _ hch
  have hW2:=Blk.setCells zero108 (m*5) W1 _ hb1 (by have:zero108.length=5:=rfl;omega);rw[<- hW,hnews]at hW2;exact⟨Rw.del hr hb hi rfl hW2 hch2.size,hch2⟩
 have hic:i<=cap:=by omega
 have hjc:i+1<=cap:=by omega
 have hmc:m<=cap:=by omega
 have hj0:(0:Int)<=(i:Int)+1:=by omega
 have hjn:(i:Int)+1<=((m+1:Nat):Int):=by omega
 have hjn2:(i:Int)<=(m:Int):=by omega
 have hin:i<m+1:=hi
 have hem:¬ (cap=m):=by omega
 have e1:i+(m-i)=m:=by omega
 have hmm:(m:Int)<=(cap:Int):=by omega
 have hmm1:(m:Int)+1<=(cap:Int):=by omega
 clear hnews hW1 hb1 hs1 hr hb hg hsz htk hget hi0 hi1 h1x hlen htg hm1;go_enter Tryz.func117,Tryz.ntmps117
 go_wp2_with fail
 go_region_law (refine step_append_room rfl (.tmp 22) (.tmp 25) 98 rfl 108 i0 5 (by kernel_rfl) HI.out.1 HI.out.2 g 0 i cap (by simp[Act.eval,Act.put]) A (m-i) (cap-(i+1)) news (by simp[Act.eval,Act.put]) hln hsrc.out h1.out (by omega) hroom.out ?_;rw[<- HW1.out])
 go_wp2
 go_ret;exact⟨_,rfl,hF.out _ rfl⟩
end Go.Proofs.Ytlhekbjidppijaa
