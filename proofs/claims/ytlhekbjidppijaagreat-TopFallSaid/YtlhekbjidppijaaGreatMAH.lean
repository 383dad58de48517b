/- Contracts of what TopFall reaches: what each function returns and leaves in memory. Conditions: as named. -/
import Derived.Deep.QuietTactic
import Derived.BigQuiet
import Derived.Test.YtlhekbjidppijaaGreatMAE
set_option linter.unusedVariables false
set_option linter.unusedSimpArgs false
set_option maxRecDepth 20000
set_option maxHeartbeats 8000000
namespace Go.Proofs.Ytlhekbjidppijaa
open Lib (hid)
open Go.RowKit
structure TkS where
 key:ByteArray
 good:Bool
 used:Bool
def left (L:List TkS)(i:Nat):Bool:=match L[i]? with
 | some t=>!t.used
 | none=>false
structure Tok (w:World)(base T M:Nat)(L:List TkS)(bl:Nat->Nat):Prop where
 hT:base<=T
 hM:base<=M
 blk:Blk w T 265 #[.int .i64 (L.length:Int),.map (some M)]
 map:MapAt w M mkI (entsF (left L) L.length bl) L.length
 one:∀ i j,i<L.length->j<L.length->bl i=bl j->i=j
 each:∀ i (h:i<L.length),base<=bl i/\Blk w (bl i) 267 #[.string L[i].key,.bool L[i].good]
theorem keysI:Keys Tryz.prog 2 mkI (.int .i64) where
 desc:=Tryz.underlying2
 same:=fun a b=>by unfold mkI Instr.sameNow;simp;rfl
 check:=fun empty a w=>Go.MapKept.run_checkKey Tryz.underlying2 (by unfold mkI;simp[MapKept.IsKey]) empty 9999
 bits:=fun a=>by unfold mkI;unfold Instr.sameBits;simp
theorem newT (w:World):Calls Tryz.prog 183 #[] w fun e w'=>∃ T M bl,e=.returned (.pointer (some ⟨T,0,none⟩))/\Tok w' w.heap.size T M [] bl/\Below w.heap.size w w':=by
 have hmm:=@run_makeMap Tryz.prog;go_enter Tryz.func183,Tryz.ntmps183
 go_wp2
 go_ret;refine⟨w.heap.size+1,w.heap.size,fun _=>0,rfl,?_,((Below.refl _ _).alloc (Nat.le_refl _) _).alloc (by simp) _⟩;refine⟨by omega,Nat.le_refl _,?_,?_,fun i j h=>by simp at h,fun i h=>by simp at h⟩
 ·have h:=Blk.new (w.alloc (.map #[] 0)) 265 #[.int .i64 0,.map (some w.heap.size)]
  rw[World.size_alloc]at h;exact h
 ·unfold MapAt
  rw[Below.heap_alloc _ _ _ (by simp)];exact heap_alloc_new w _
theorem giveT (w:World)(base T M:Nat)(L:List TkS)(bl:Nat->Nat)(key:ByteArray)(h:Tok w base T M L bl)(hl:L.length<1099511627776) :
 Calls Tryz.prog 223 #[.pointer (some ⟨T,0,none⟩),.string key] w fun e w'=>e=.returned (.int .i64 ((L.length:Int)+1))/\Tok w' base T M (L++[⟨key,true,false⟩]) (fun j=>if j=L.length then w.heap.size else bl j)/\Below base w w'/\∀ g,g<w.heap.size->g≠T->g≠M->w'.heap[g]? = w.heap[g]?:=by
 have c0:w.cell? ⟨T,0,none⟩=some (.int .i64 (L.length:Int)):=h.blk.cell 0;have c1:w.cell? ⟨T,1,none⟩=some (.map (some M)):=h.blk.cell 1;have f0:=h.blk.frozen 0
 have hl':¬ (1099511627776:Int)<=(L.length:Int):=by omega
 go_enter Tryz.func223,Tryz.ntmps223;have hTlt:=h.blk.lt
 have hMT:M≠T:=by
  intro e;have h1:=h.blk;have h2:=h.map;unfold Blk at h1;unfold MapAt at h2;rw[e,h1]at h2
  cases h2
 have hm3:MapAt ((w.setCell ⟨T,0,none⟩ (.int .i64 ((L.length:Int)+1))).alloc (.cells #[.string key,.bool true] 267)).drew M mkI (entsF (left L) L.length bl) L.length:=by
  unfold MapAt;show((w.setCell ⟨T,0,none⟩ _).alloc _).heap[M]? = _;have hlt:M<w.heap.size:=(Array.getElem?_eq_some_iff.1 h.map).1;rw[Below.heap_alloc _ _ _ (by simpa [World.setCell] using hlt),Below.heap_setCell _ _ _ _ hMT];exact h.map
 obtain⟨w4,hput,hmap4,hgr4,hsz4⟩:=run_put_at (P:=Tryz.prog) keysI Tryz.underlying263 hm3 ((L.length:Int)+1) (.pointer (some ⟨w.heap.size,0,none⟩));unfold mkI at hput;have hMlt:M<w.heap.size:=(Array.getElem?_eq_some_iff.1 h.map).1;have hblk3:Blk ((w.setCell ⟨T,0,none⟩ (.int .i64 ((L.length:Int)+1))).alloc (.cells #[.string key,.bool true] 267)).drew T 265 #[.int .i64 ((L.length:Int)+1),.map (some M)]:=((h.blk.set_ 0 _).alloc _).drew;have hblk4:=hblk3.grown hgr4 (by simp;exact Ne.symm hMT);have hc4:w4.cell? ⟨T,0,none⟩=some (.int .i64 ((L.length:Int)+1)):=hblk4.cell 0
 have HT4:Hid (Tok w4 base T M (L++[⟨key,true,false⟩]) (fun j=>if j=L.length then w.heap.size else bl j)):=by
  have hlen:(L++[(⟨key,true,false⟩:TkS)]).length=L.length+1:=by simp
  have hnb:∀ i,i<L.length->bl i<w.heap.size:=fun i hi=>(h.each i hi).2.lt;refine hid ⟨h.hT,h.hM,?_,?_,?_,?_⟩
  ·rw[hlen]
   have e:(((L.length+1:Nat)):Int)=(L.length:Int)+1:=by omega
   rw[e];exact hblk4
  ·rw[(put_entsF (left L) L.length bl w.heap.size).1,(put_entsF (left L) L.length bl w.heap.size).2]at hmap4
   rw[hlen]
   have he:entsF (left (L++[⟨key,true,false⟩])) (L.length+1) (fun j=>if j=L.length then w.heap.size else bl j)=entsF (fun j=>if j=L.length then true else left L j) (L.length+1) (fun j=>if j=L.length then w.heap.size else bl j):=entsF_congr (fun i hi=>by
    unfold left
    by_cases he:i=L.length
    ·subst he;simp
    ·rw[if_neg he,List.getElem?_append_left (by omega)]) (fun _ _=>rfl)
   rw[he];exact hmap4
  ·intro i j hi hj hij
   rw[hlen]at hi hj
   by_cases h1:i=L.length <;> by_cases h2:j=L.length
   ·omega
   ·have:=hnb j (by omega)
    simp only[h1,if_true,h2,if_false]at hij;omega
   ·have:=hnb i (by omega)
    simp only[h1,if_false,h2,if_true]at hij;omega
   ·simp only[h1,if_false,h2]at hij
    exact h.one i j (by omega) (by omega) hij
  ·intro i hi
   rw[hlen]at hi
   by_cases h1:i=L.length
   ·subst h1
    simp only[if_true,List.getElem_concat_length];refine⟨by have:=h.hT;omega,?_⟩;have hb:=(Blk.new (w.setCell ⟨T,0,none⟩ (.int .i64 ((L.length:Int)+1))) 267 #[.string key,.bool true]).drew.grown hgr4 (by simp[World.setCell];omega)
    have hsz:(w.setCell ⟨T,0,none⟩ (.int .i64 ((L.length:Int)+1))).heap.size=w.heap.size:=by simp[World.setCell]
    rw[hsz]at hb;exact hb
   ·simp only[h1,if_false]
    have hi':i<L.length:=by omega
    rw[List.getElem_append_left hi'];obtain⟨h2,h3⟩:=h.each i hi';refine⟨h2,?_⟩
    have hne:bl i≠T:=fun e=>by
     have:=h.blk;unfold Blk at this h3;rw[e,this]at h3
     cases h3
    have hneM:bl i≠M:=fun e=>by
     have:=h.map;unfold MapAt at this;unfold Blk at h3;rw[e,this]at h3
     cases h3
    exact((h3.far (p:=⟨T,0,none⟩) hne _).alloc _).drew.grown hgr4 (by simp;exact hneM)
 have HB4:Hid (Below base w w4):=hid ((((Below.refl base w).setCell (p:=⟨T,0,none⟩) h.hT _).alloc (by have:=h.hT;simp[World.setCell];omega) (.cells #[.string key,.bool true] 267)).drew.grown hgr4 (by have:=h.hT;simp[World.setCell];omega) (fun g hg=>by cases hg;exact h.hM));have HAP:Hid (∀ g,g<w.heap.size->g≠T->g≠M->w4.heap[g]? = w.heap[g]?):=hid fun g h1 h2 h3=>(hgr4.block g (by simp[World.setCell];omega) (by simpa using h3)).trans ((Below.heap_alloc _ _ _ (by simpa [World.setCell] using h1)).trans (Below.heap_setCell _ _ _ _ h2));clear hmap4 hgr4 hsz4 hm3 hblk3 hblk4 h
 go_wp2_with fail
 go_region
 go_wp2
 go_ret;exact⟨rfl,HT4.out,HB4.out,HAP.out⟩
theorem Tok.drewN {w:World}{base T M:Nat}{L:List TkS}{bl:Nat->Nat}(h:Tok w base T M L bl)(n:Nat):Tok (w.drewN n) base T M L bl:=⟨h.hT,h.hM,h.blk,h.map,h.one,h.each⟩
theorem below_drewN' {B:Nat}{w w':World}(h:Below B w w')(n:Nat):Below B w (w'.drewN n):=⟨h.os,h.tape,h.output,h.size,h.block⟩
theorem zero262 (w:World):(zeroValue 262).run Tryz.prog w=.ok (.pointer none) w:=by kernel_rfl
theorem useYes (w:World)(base T M:Nat)(L:List TkS)(bl:Nat->Nat)(i:Nat)(h:Tok w base T M L bl)(hi:i<L.length)(hu:L[i].used=false) :
 Calls Tryz.prog 118 #[.pointer (some ⟨T,0,none⟩),.int .i64 ((i:Int)+1)] w fun e w'=>e=.returned (.tuple #[.string L[i].key,.bool L[i].good])/\Tok w' base T M (L.set i ⟨L[i].key,L[i].good,true⟩) bl/\Below base w w'/\∀ g,g<w.heap.size->g≠M->w'.heap[g]? = w.heap[g]?:=by
 have c1:w.cell? ⟨T,1,none⟩=some (.map (some M)):=h.blk.cell 1
 have hl:left L i=true:=by unfold left;rw[List.getElem?_eq_getElem hi];simp[hu]
 obtain⟨m,hpos⟩:=keyPos_entsF_in (left L) L.length bl i hi hl 0;have hlk:=run_lookup_at (P:=Tryz.prog) keysI Tryz.underlying263 h.map ((i:Int)+1) (.pointer none) (zero262 w) false;rw[hpos]at hlk;unfold mkI at hlk;simp only[Bool.false_eq_true,if_false]at hlk;obtain⟨w4,hdel,hmap4,hgr4,hsz4⟩:=run_del_at (P:=Tryz.prog) keysI Tryz.underlying263 h.map ((i:Int)+1) 0;unfold mkI at hdel;obtain⟨hbase,hb⟩:=h.each i hi
 have hneM:∀ j,(hj:j<L.length)->bl j≠M:=fun j hj e=>by
  have h1:=h.map;have h3:=(h.each j hj).2;unfold MapAt at h1;unfold Blk at h3;rw[e,h1]at h3
  cases h3
 have hTM:T≠M:=fun e=>by
  have h1:=h.map;have h3:=h.blk;unfold MapAt at h1;unfold Blk at h3;rw[e,h1]at h3
  cases h3
 have hb4:=hb.grown hgr4 (by simp;exact hneM i hi);have hk:w4.cell? ⟨bl i,0,none⟩=some (.string L[i].key):=hb4.cell 0;have hg:w4.cell? ⟨bl i,1,none⟩=some (.bool L[i].good):=hb4.cell 1
 have HT4:Hid (Tok w4 base T M (L.set i ⟨L[i].key,L[i].good,true⟩) bl):=by
  refine hid ⟨h.hT,h.hM,?_,?_,?_,?_⟩
  ·rw[List.length_set]
   exact h.blk.grown hgr4 (by simp;exact hTM)
  ·rw[del_entsF _ _ _ _ hi hl]at hmap4
   rw[List.length_set]
   have he:entsF (left (L.set i ⟨L[i].key,L[i].good,true⟩)) L.length bl=entsF (fun j=>left L j && j != i) L.length bl:=entsF_congr (fun j hj=>by
    unfold left;rw[List.getElem?_set]
    by_cases hij:i=j
    ·subst hij;simp[hi]
    ·have hne:(j != i)=true:=by rw[bne_iff_ne];omega
     simp[hij,hne]) (fun _ _=>rfl)
   rw[he];exact hmap4
  ·intro a b ha hb' hab
   rw[List.length_set]at ha hb';exact h.one a b ha hb' hab
  ·intro a ha
   rw[List.length_set]at ha;obtain⟨h2,h3⟩:=h.each a ha;refine⟨h2,?_⟩;have h5:=h3.grown hgr4 (by simp;exact hneM a ha);rw[List.getElem_set]
   split
   ·rename_i hia;subst hia;exact h5
   ·exact h5
 have HB4:Hid (Below base w w4):=hid ((Below.refl base w).grown hgr4 (by have:=h.hT;have:=h.blk.lt;omega) (fun g hg=>by cases hg;exact h.hM));have HAP:Hid (∀ g,g<w.heap.size->g≠M->w4.heap[g]? = w.heap[g]?):=hid fun g h1 h3=>hgr4.block g h1 (by simpa using h3);clear hmap4 hgr4 hsz4 hb4 hb h;generalize L[i].key=ky at hk HT4;generalize L[i].good=gd at hg HT4;go_enter Tryz.func118,Tryz.ntmps118
 go_wp2_with fail
 go_quiet (fail)
 go_wp2
 go_ret2
 exact⟨rfl,HT4.out.drewN _,below_drewN' HB4.out _,HAP.out⟩
def hit (f:ByteArray->Bool)(t:TkS):Bool:=!t.used && t.good && f t.key
def hurt1 (f:ByteArray->Bool)(t:TkS):TkS:=if hit f t then ⟨t.key,false,t.used⟩ else t
def hurtIn (f:ByteArray->Bool)(S:List Nat)(L:List TkS):List TkS:=L.mapIdx fun i t=>if i∈S then hurt1 f t else t
def hitAt (f:ByteArray->Bool)(L:List TkS)(i:Nat):Bool:=match L[i]? with
 | some t=>hit f t
 | none=>false
theorem hurtIn_length (f:ByteArray->Bool)(S:List Nat)(L:List TkS):(hurtIn f S L).length=L.length:=by simp[hurtIn]
theorem hurtIn_get (f:ByteArray->Bool)(S:List Nat)(L:List TkS)(i:Nat)(h:i<(hurtIn f S L).length):(hurtIn f S L)[i]=if i∈S then hurt1 f (L[i]'(by rw[hurtIn_length]at h;exact h)) else L[i]'(by rw[hurtIn_length]at h;exact h):=by simp[hurtIn]
theorem hurt1_used (f:ByteArray->Bool)(t:TkS):(hurt1 f t).used=t.used:=by unfold hurt1;split <;> rfl
theorem left_hurtIn (f:ByteArray->Bool)(S:List Nat)(L:List TkS)(i:Nat):left (hurtIn f S L) i=left L i:=by
 unfold left hurtIn;rw[List.getElem?_mapIdx]
 cases L[i]? with
 | none=>rfl
 | some t=>
  simp only[Option.map_some]
  split
  ·rw[hurt1_used]
  ·rfl
theorem hurtIn_nil (f:ByteArray->Bool)(L:List TkS):hurtIn f [] L=L:=by
 apply List.ext_getElem
 ·simp[hurtIn]
 ·intro i h1 h2
  rw[hurtIn_get];simp
theorem hurtIn_miss (f:ByteArray->Bool)(S:List Nat)(L:List TkS)(i:Nat)(h:hitAt f L i=false):hurtIn f (S++[i]) L=hurtIn f S L:=by
 apply List.ext_getElem
 ·simp[hurtIn]
 ·intro j h1 h2
  rw[hurtIn_get,hurtIn_get]
  have hj:j<L.length:=by rw[hurtIn_length]at h2;exact h2
  by_cases hji:j=i
  ·subst hji
   unfold hitAt at h;rw[List.getElem?_eq_getElem hj]at h;simp only at h
   have:hurt1 f L[j]=L[j]:=by unfold hurt1;rw[h];rfl
   simp[this]
  ·simp[hji]
theorem hurtIn_hit (f:ByteArray->Bool)(S:List Nat)(L:List TkS)(i:Nat)(hi:i<L.length)(h:hit f L[i]=true):hurtIn f (S++[i]) L=(hurtIn f S L).set i ⟨L[i].key,false,L[i].used⟩:=by
 apply List.ext_getElem
 ·simp[hurtIn]
 ·intro j h1 h2
  rw[hurtIn_get,List.getElem_set,hurtIn_get]
  by_cases hji:j=i
  ·subst hji
   have:hurt1 f L[j]=⟨L[j].key,false,L[j].used⟩:=by unfold hurt1;rw[h];rfl
   simp[this]
  ·simp[hji,Ne.symm hji]
theorem hits_all (f:ByteArray->Bool)(L:List TkS):((List.range L.length).filter (hitAt f L)).length=(L.filter (hit f)).length:=by
 induction L with
 | nil=>rfl
 | cons t L ih=>
  rw[List.length_cons,List.range_succ_eq_map,List.filter_cons,List.filter_map,List.filter_cons]
  have e:(hitAt f (t :: L) ∘ Nat.succ)=hitAt f L:=by
   funext i
   unfold hitAt;simp
  have e0:hitAt f (t :: L) 0=hit f t:=by unfold hitAt;simp
  rw[e,e0]
  split <;> simp[ih]
theorem hurtIn_all (f:ByteArray->Bool)(S:List Nat)(L:List TkS)(h:∀ i,i<L.length->left L i=true->i∈S):hurtIn f S L=L.map (hurt1 f):=by
 apply List.ext_getElem
 ·simp[hurtIn]
 ·intro j h1 h2
  rw[hurtIn_get,List.getElem_map]
  have hj:j<L.length:=by rw[hurtIn_length]at h1;exact h1
  by_cases hs:j∈S
  ·simp[hs]
  ·rw[if_neg hs]
   have hl:left L j=false:=by
    cases hx:left L j
    ·rfl
    ·exact absurd (h j hj hx) hs
   unfold left at hl;rw[List.getElem?_eq_getElem hj]at hl;unfold hurt1 hit;simp only[Bool.not_eq_false']at hl;simp[hl]
theorem hits_end (f:ByteArray->Bool)(S:List Nat)(L:List TkS)(hn:S.Nodup)(hb:∀ i∈S,i<L.length)(h:∀ i,i<L.length->left L i=true->i∈S):(S.filter (hitAt f L)).length=(L.filter (hit f)).length:=by
 rw[<- hits_all];apply List.Perm.length_eq;rw[List.perm_ext_iff_of_nodup (hn.sublist List.filter_sublist) (List.nodup_range.sublist List.filter_sublist)];intro a;rw[List.mem_filter,List.mem_filter]
 constructor
 ·rintro⟨h1,h2⟩;exact⟨by simpa using hb a h1,h2⟩
 ·rintro⟨h1,h2⟩
  have ha:a<L.length:=by simpa using h1
  refine⟨h a ha ?_,h2⟩;unfold hitAt hit at h2;unfold left;rw[List.getElem?_eq_getElem ha]at h2 ⊢;simp at h2 ⊢;exact h2.1.1
theorem bbeq (a b:ByteArray):(a == b)=decide (a=b):=by
 cases a with|mk x=>cases b with|mk y=>
  show(x == y)=_;rw[Bool.eq_iff_iff];simp
theorem toList_inj {a b:ByteArray}(h:a.toList=b.toList):a=b:=by
 rw[ByteArray.toList_eq,ByteArray.toList_eq]at h
 cases a;cases b
 simp at h;exact congrArg _ h
theorem indexT (A:Option Addr)(n c:Nat)(ss:List ByteArray)(v:ByteArray)(w:World)(hr:Sl w A (ss.map .string))(hn:ss.length=n)(hm:n<=9223372036854775807) :
 Calls Tryz.prog 249 #[.slice A n c,.string v] w fun e w'=>∃ r:Int,e=.returned (.int .i64 r)/\(0<=r ↔ v∈ss)/\w=w':=by
 have HN:=hid hn;clear hn;go_enter Tryz.func249,Tryz.ntmps249
 go_wp2
 go_loop [8] (fun i=>∃ k:Nat,k<=n/\i=.int .i64 k/\∀ j (h:j<ss.length),j<k->ss[j]≠v) (fun i=>n-(intOf i).toNat)
 case atStart=>exact⟨0,Nat.zero_le _,rfl,fun j _ h=>by omega⟩
 case round=>
  obtain⟨k,hk,rfl,hno⟩:=hrel;have HNO:=hid hno;clear hno
  by_cases hlt:k<n
  ·have hlt':k<ss.length:=by rw[HN.out];exact hlt
   obtain⟨b,off,rfl,hc⟩:=hr.at_ k (by rw[List.length_map];exact hlt');rw[List.getElem_map]at hc
   by_cases he:v=ss[k]
   ·have hin:v∈ss:=he ▸ List.getElem_mem hlt'
    have HI:=hid hin
    have he2:(v.toList == ss[k].toList)=true:=by rw[<- he];exact beq_self_eq_true _
    clear he hin;generalize ss[k]=s at hc he2
    go_wp2
    go_ret;exact⟨k,rfl,⟨fun _=>HI.out,fun _=>Int.natCast_nonneg k⟩,rfl⟩
   ·have HE:=hid he
    have he2:(v.toList == ss[k].toList)=false:=by rw[beq_eq_false_iff_ne];exact fun e=>he (toList_inj e)
    have HN2:Hid (∀ j (h:j<ss.length),j<k+1->ss[j]≠v):=hid (fun j h hj=>by
     by_cases hjk:j=k
     ·subst hjk;exact fun e=>HE.out e.symm
     ·exact HNO.out j h (by omega))
    clear he;generalize ss[k]=s at hc he2 HE
    go_wp2
    exact⟨⟨k+1,by omega,by go_num,HN2.out⟩,by simp[intOf];omega⟩
  ·go_wp2
   go_ret;refine⟨-1,rfl,?_,rfl⟩
   constructor
   ·intro h;omega
   ·intro hv
    obtain⟨j,hj,hje⟩:=List.getElem_of_mem hv;exact absurd hje (HNO.out j hj (by have:=HN.out;omega))
theorem containsT (A:Option Addr)(n c:Nat)(ss:List ByteArray)(v:ByteArray)(w:World)(hr:Sl w A (ss.map .string))(hn:ss.length=n)(hm:n<=9223372036854775807) :
 Calls Tryz.prog 219 #[.slice A n c,.string v] w fun e w'=>∃ b:Bool,e=.returned (.bool b)/\(b=true ↔ v∈ss)/\w=w':=by
 go_enter Tryz.func219,Tryz.ntmps219
 go_wp2_with fail
 refine(indexT A n c ss v w hr hn hm).mono ?_;rintro e w' ⟨r,rfl,hr2,rfl⟩;have HR:=hid hr2;clear hr2
 go_wp2
 go_ret;exact⟨decide (0<=r),rfl,by rw[decide_eq_true_iff];exact HR.out,rfl⟩
theorem killedT (p:Addr)(A:Option Addr)(n c:Nat)(ss:List ByteArray)(v:ByteArray)(w:World)(hp:w.cell? p=some (.slice A n c))(hr:Sl w A (ss.map .string))(hn:ss.length=n)(hm:n<=9223372036854775807) :
 Calls Tryz.prog 218 #[.string v,.pointer (some p)] w fun e w'=>∃ b:Bool,e=.returned (.bool b)/\(b=true ↔ v∈ss)/\w=w':=by
 go_enter Tryz.func218,Tryz.ntmps218
 go_wp2_with fail
 refine(containsT A n c ss v w hr hn hm).mono ?_;rintro e w' ⟨b,rfl,hb,rfl⟩;have HR:=hid hb;clear hb
 go_wp2
 go_ret;exact⟨b,rfl,HR.out,rfl⟩
theorem clearedT (v:ByteArray)(w:World) :
 Calls Tryz.prog 239 #[.string v] w fun e w'=>e=.returned (.bool true)/\w=w':=by
 go_enter Tryz.func239,Tryz.ntmps239
 go_wp2
 go_ret;exact⟨rfl,rfl⟩
def Apart (bl:Nat->Nat)(n:Nat)(w w':World):Prop:=∀ g,g<w.heap.size->(∀ j,j<n->bl j≠g)->w'.heap[g]? = w.heap[g]?
theorem Tok.bl_ne {w:World}{base T M:Nat}{L:List TkS}{bl:Nat->Nat}(h:Tok w base T M L bl):T≠M/\∀ j,j<L.length->bl j≠M/\bl j≠T/\bl j<w.heap.size:=by
 refine⟨fun e=>?_,fun j hj=>⟨fun e=>?_,fun e=>?_,(h.each j hj).2.lt⟩⟩
 ·have h1:=h.map
  have h3:=h.blk;unfold MapAt at h1;unfold Blk at h3;rw[e,h1]at h3
  cases h3
 ·have h1:=h.map
  have h3:=(h.each j hj).2;unfold MapAt at h1;unfold Blk at h3;rw[e,h1]at h3
  cases h3
 ·have h1:=h.blk
  have h3:=(h.each j hj).2;unfold Blk at h1 h3;rw[e,h1]at h3
  cases h3
def seenSize (w:World)(r:Nat):Nat:=match w.heap[r]? with
 | some (.mapIter _ _ s _)=>s.size
 | _=>0
theorem IterAt.size {w:World}{r b c:Nat}{S:List Nat}(h:IterAt w r b c S):seenSize w r=S.length:=by
 unfold seenSize;unfold IterAt at h;rw[h];simp
theorem nodup_le {S:List Nat}{n:Nat}(hn:S.Nodup)(hb:∀ i∈S,i<n):S.length<=n:=by
 have hp:S.Perm ((List.range n).filter (· ∈ S)):=by
  rw[List.perm_ext_iff_of_nodup hn (List.nodup_range.sublist List.filter_sublist)];intro a;rw[List.mem_filter];simp;exact hb a
 have:=hp.length_eq;have h2:=List.length_filter_le (fun a=>decide (a∈S)) (List.range n);rw[List.length_range]at h2;omega
theorem Tok.alloc {w:World}{base T M:Nat}{L:List TkS}{bl:Nat->Nat}(h:Tok w base T M L bl)(o:Obj):Tok (w.alloc o) base T M L bl:=
 ⟨h.hT,h.hM,h.blk.alloc o,(Below.heap_alloc w o M (Array.getElem?_eq_some_iff.1 h.map).1).trans h.map,h.one,fun i hi=>⟨(h.each i hi).1,(h.each i hi).2.alloc o⟩⟩
theorem Tok.above {w:World}{base T M:Nat}{L:List TkS}{bl:Nat->Nat}(h:Tok w base T M L bl):base<=w.heap.size:=Nat.le_of_lt (Nat.lt_of_le_of_lt h.hT h.blk.lt)
theorem Tok.bad {w:World}{base T M:Nat}{L:List TkS}{bl:Nat->Nat}(h:Tok w base T M L bl)(i:Nat)(hi:i<L.length)(x:TkS)(hk:L[i].key=x.key)(hu:L[i].used=x.used)(hg:x.good=false):Tok (w.setCell ⟨bl i,1,none⟩ (.bool false)) base T M (L.set i x) bl:=by
 obtain⟨h1,h2⟩:=h.bl_ne;obtain⟨hM,hT,_⟩:=h2 i hi
 have e:entsF (left (L.set i x)) L.length bl=entsF (left L) L.length bl:=entsF_congr (fun j hj=>by
  unfold left;rw[List.getElem?_set]
  by_cases hij:i=j
  ·subst hij;simp[hi,hu]
  ·simp[hij]) (fun _ _=>rfl)
 refine⟨h.hT,h.hM,?_,?_,?_,?_⟩
 ·rw[List.length_set];exact h.blk.far (Ne.symm hT) _
 ·rw[List.length_set,e]
  exact(Below.heap_setCell _ _ _ _ (Ne.symm hM)).trans h.map
 ·intro a b ha hb;rw[List.length_set]at ha hb;exact h.one a b ha hb
 ·intro a ha
  rw[List.length_set]at ha;obtain⟨h3,h4⟩:=h.each a ha;refine⟨h3,?_⟩
  by_cases hai:i=a
  ·subst hai
   have:=h4.set_ 1 (.bool false);rw[List.getElem_set_self,<- hk,hg];exact this
  ·rw[List.getElem_set_ne hai]
   exact h4.far (fun e=>hai (h.one i a hi ha e.symm)) _
theorem mem_entsF {p:Nat->Bool}{n:Nat}{bl:Nat->Nat}{i:Nat}(hi:i<n)(hp:p i=true):((((i:Nat):Int)+1,.pointer (some ⟨bl i,0,none⟩),i):Ent Int)∈entsF p n bl:=
 List.mem_map.2 ⟨i,List.mem_filter.2 ⟨by simpa using hi,hp⟩,rfl⟩
theorem of_mem_entsF {p:Nat->Bool}{n:Nat}{bl:Nat->Nat}{k:Int}{v:Value}{i:Nat}(h:((k,v,i):Ent Int)∈entsF p n bl):i<n/\p i=true/\k=(i:Int)+1/\v=.pointer (some ⟨bl i,0,none⟩):=by
 obtain⟨a,ha,he⟩:=List.mem_map.1 h;obtain⟨h1,h2⟩:=List.mem_filter.1 ha
 cases he
 exact⟨by simpa using h1,h2,rfl,rfl⟩
theorem Tok.grown {w w':World}{base T M r:Nat}{L:List TkS}{bl:Nat->Nat}(h:Tok w base T M L bl)(hg:w.grownBy w' (some r))(hT:T≠r)(hM:M≠r)(hb:∀ j,j<L.length->bl j≠r):Tok w' base T M L bl:=
 ⟨h.hT,h.hM,h.blk.grown hg (by simpa using hT),(hg.block M (Array.getElem?_eq_some_iff.1 h.map).1 (by simpa using hM)).trans h.map,h.one,fun i hi=>⟨(h.each i hi).1,(h.each i hi).2.grown hg (by simpa using hb i hi)⟩⟩
theorem killT (w:World)(base T M:Nat)(L:List TkS)(bl:Nat->Nat)(h:Tok w base T M L bl)(hlen:L.length<1099511627776)(f:ByteArray->Bool)(p:Addr)
 (hF:∀ wr s,Apart bl L.length w wr->Calls Tryz.prog 218 #[.string s,.pointer (some p)] wr fun e w'=>e=.returned (.bool (f s))/\wr=w') :
 Calls Tryz.prog 217 #[.pointer (some ⟨T,0,none⟩),.func (.func 218) #[] #[.pointer (some p)]] w fun e w'=>e=.returned (.int .i64 ((L.filter (hit f)).length:Int))/\Tok w' base T M (L.map (hurt1 f)) bl/\Below base w w'/\Apart bl L.length w w':=by
 have c1:w.cell? ⟨T,1,none⟩=some (.map (some M)):=h.blk.cell 1;have hrange:=run_range_at (P:=Tryz.prog) Tryz.underlying263 h.map;have HT0:=hid h;have HF:=hid hF;clear h hF;go_enter Tryz.func217,Tryz.ntmps217
 go_wp2
 go_loopw [5] (fun n wr=>∃ S:List Nat,S.Nodup/\(∀ i∈S,i<L.length)/\n=.int .i64 ((S.filter (hitAt f L)).length:Int)/\Tok wr base T M (hurtIn f S L) bl/\IterAt wr w.heap.size M L.length S/\Below base w wr/\Apart bl L.length w wr) (fun _ wr=>L.length-seenSize wr w.heap.size)
 case atStart=>
  refine⟨[],List.nodup_nil,by simp,rfl,?_,heap_alloc_new w _,(Below.refl _ _).alloc HT0.out.above _,fun g hg _=>Below.heap_alloc _ _ _ hg⟩;rw[hurtIn_nil];exact HT0.out.alloc _
 case round=>
  obtain⟨S,hS,hSb,rfl,hT,hI,hB,hA⟩:=hrel;have HS:=hid hS;have HSb:=hid hSb;have HB:=hid hB;have HA:=hid hA;have HT:=hid hT;have HI:=hid hI;have hmap:=hT.map;have hst:=stamped_entsF (left (hurtIn f S L)) (hurtIn f S L).length bl;rw[hurtIn_length]at hmap hst;clear hS hSb hB hA hT hI
  go_wp2_with (refine wpList_next_at rfl (.tmp 14) rfl rfl hmap hst HI.out ?done ?more)
  case done=>
   intro hall;have HE1:Hid (hurtIn f S L=L.map (hurt1 f)):=hid (hurtIn_all f S L fun i hi hl=>hall _ _ _ (mem_entsF hi (by rw[left_hurtIn];exact hl)));have HE2:Hid ((S.filter (hitAt f L)).length=(L.filter (hit f)).length):=hid (hits_end f S L HS.out HSb.out fun i hi hl=>hall _ _ _ (mem_entsF hi (by rw[left_hurtIn];exact hl)));clear hall hmap hst
   go_wp2
   go_ret;refine⟨by rw[HE2.out];rfl,by rw[<- HE1.out];exact HT.out,HB.out,HA.out⟩
  case more=>
   intro k v i hq hns w2 hI2 hg2 hsz2 hent;obtain⟨hi,hl,rfl,rfl⟩:=of_mem_entsF hq;rw[left_hurtIn]at hl;have hbn:=HT0.out.bl_ne;have hent:=hent (by have:=(Array.getElem?_eq_some_iff.1 HT0.out.map).1;omega);unfold mkI at hent;have HT2:=hid (HT.out.grown hg2 (by have:=HT0.out.blk.lt;omega) (by have:=(Array.getElem?_eq_some_iff.1 HT0.out.map).1;omega) (fun j hj=>by rw[hurtIn_length]at hj;have:=(hbn.2 j hj).2.2;omega))
   have hi':i<(hurtIn f S L).length:=by rw[hurtIn_length];exact hi
   have hgi:(hurtIn f S L)[i]=L[i]:=by rw[hurtIn_get,if_neg hns]
   have hblk:=(HT2.out.each i hi').2;rw[hgi]at hblk;have hk:w2.cell? ⟨bl i,0,none⟩=some (.string L[i].key):=hblk.cell 0;have hg:w2.cell? ⟨bl i,1,none⟩=some (.bool L[i].good):=hblk.cell 1;have hfz:=hblk.frozen 1
   have hused:L[i].used=false:=by
    unfold left at hl;rw[List.getElem?_eq_getElem hi]at hl
    simpa using hl
   have hat:hitAt f L i=hit f L[i]:=by unfold hitAt;rw[List.getElem?_eq_getElem hi]
   have hA2:Apart bl L.length w w2:=fun g hg1 hg3=>(hg2.block g (by have:=HB.out.size;have h4:=(Array.getElem?_eq_some_iff.1 (HI.out:wr.heap[w.heap.size]? = _)).1;omega) (by simp;omega)).trans (HA.out g hg1 hg3);have HA2:=hid hA2;have HB2:=hid (HB.out.grown hg2 (by have:=HT.out.above;omega) (fun g hg'=>by cases hg';exact HT0.out.above))
   have HS2:Hid ((S++[i]).Nodup/\(∀ j∈S++[i],j<L.length)/\(S++[i]).length<=L.length):=by
    have h1:(S++[i]).Nodup:=by rw[List.nodup_append];exact⟨HS.out,by simp,by simp;intro a ha e;exact hns (e ▸ ha)⟩
    have h2:∀ j∈S++[i],j<L.length:=by
     intro j hj
     rcases List.mem_append.1 hj with h|h
     ·exact HSb.out j h
     ·simp at h;omega
    exact hid ⟨h1,h2,nodup_le h1 h2⟩
   have HI2:=hid hI2
   have HHG:Hid ((hit f L[i]=false->hurtIn f (S++[i]) L=hurtIn f S L/\((S++[i]).filter (hitAt f L)).length=(S.filter (hitAt f L)).length)/\(hit f L[i]=true->hurtIn f (S++[i]) L=(hurtIn f S L).set i ⟨L[i].key,false,L[i].used⟩/\((S++[i]).filter (hitAt f L)).length=(S.filter (hitAt f L)).length+1)):=by
    refine hid ⟨fun h=>⟨hurtIn_miss f S L i (hat.trans h),?_⟩,fun h=>⟨hurtIn_hit f S L i hi h,?_⟩⟩
    ·rw[List.filter_append,List.length_append];simp[hat,h]
    ·rw[List.filter_append,List.length_append];simp[hat,h]
   have hhit:hit f L[i]=(L[i].good && f L[i].key):=by unfold hit;rw[hused];rfl
   rw[hhit]at HHG;have HBNE:=hid hbn;have HKU:Hid ((hurtIn f S L)[i].key=L[i].key/\(hurtIn f S L)[i].used=L[i].used):=hid (by rw[hgi];exact⟨rfl,rfl⟩);have HI3:=hid hi;clear hat hhit hA2 hI2 hg2 hsz2 hq hns hl hbn hblk hgi hused hst hmap;generalize L[i].key=ky at hk HHG HKU;generalize L[i].good=gd at hg HHG
   cases gd with
   | false=>
    go_wp2
    obtain⟨e1,e2⟩:=HHG.out.1 rfl;refine⟨⟨S++[i],HS2.out.1,HS2.out.2.1,by rw[e2],by rw[e1];exact HT2.out,HI2.out,HB2.out,HA2.out⟩,?_⟩;have:=HI.out.size;have:=HI2.out.size;have:=HS2.out.2.2;rw[List.length_append,List.length_singleton]at *;omega
   | true=>
    go_wp2_with fail
    refine(HF.out w2 ky HA2.out).mono ?_;rintro e w3 ⟨rfl,rfl⟩
    have HSZ:Hid (L.length-seenSize w2 w.heap.size<L.length-seenSize wr w.heap.size/\seenSize w2 w.heap.size=(S++[i]).length):=by
     have h1:=HI.out.size;have h2:=HI2.out.size;have h3:=HS2.out.2.2;refine hid ⟨?_,h2⟩;rw[List.length_append,List.length_singleton]at *;omega
    by_cases hf:f ky=true
    ·have HS3:Hid (Tok (w2.setCell ⟨bl i,1,none⟩ (.bool false)) base T M (hurtIn f (S++[i]) L) bl/\IterAt (w2.setCell ⟨bl i,1,none⟩ (.bool false)) w.heap.size M L.length (S++[i])/\Below base w (w2.setCell ⟨bl i,1,none⟩ (.bool false))/\Apart bl L.length w (w2.setCell ⟨bl i,1,none⟩ (.bool false))/\((S++[i]).filter (hitAt f L)).length=(S.filter (hitAt f L)).length+1):=by
      obtain⟨e1,e2⟩:=HHG.out.2 (by rw[hf];rfl);have hb:=(HBNE.out.2 i HI3.out).2.2;refine hid ⟨?_,?_,?_,?_,e2⟩
      ·rw[e1]
       exact HT2.out.bad i hi' _ (HKU.out.1) (HKU.out.2) rfl
      ·exact(Below.heap_setCell _ _ _ _ (by show w.heap.size≠bl i;omega)).trans HI2.out
      ·exact HB2.out.setCell (HT0.out.each i HI3.out).1 _
      ·exact fun g hg1 hg3=>(Below.heap_setCell _ _ _ _ (fun e=>hg3 i HI3.out e.symm)).trans (HA2.out g hg1 hg3)
     have HZ:Hid (seenSize (w2.setCell ⟨bl i,1,none⟩ (.bool false)) w.heap.size=(S++[i]).length):=hid HS3.out.2.1.size;rw[hf];clear hf
     have hfl2:(S.filter (hitAt f L)).length<1099511627776:=by
      have hfl:=List.length_filter_le (hitAt f L) S;have hsl:=HS2.out.2.2;rw[List.length_append,List.length_singleton]at hsl;omega
     go_wp2
     obtain⟨x1,x2,x3,x4,x5⟩:=HS3.out;refine⟨⟨S++[i],HS2.out.1,HS2.out.2.1,by rw[x5];go_num,x1,x2,x3,x4⟩,?_⟩;rw[HZ.out,<- HSZ.out.2];exact HSZ.out.1
    ·have hf':f ky=false:=by cases h:f ky <;> simp_all
     rw[hf'];clear hf
     go_wp2
     obtain⟨e1,e2⟩:=HHG.out.1 (by rw[hf'];rfl);refine⟨⟨S++[i],HS2.out.1,HS2.out.2.1,by rw[e2],by rw[e1];exact HT2.out,HI2.out,HB2.out,HA2.out⟩,HSZ.out.1⟩
theorem killcT (w:World)(base T M:Nat)(L:List TkS)(bl:Nat->Nat)(h:Tok w base T M L bl)(hlen:L.length<1099511627776)(f:ByteArray->Bool)
 (hF:∀ wr s,Apart bl L.length w wr->Calls Tryz.prog 239 #[.string s] wr fun e w'=>e=.returned (.bool (f s))/\wr=w') :
 Calls Tryz.prog 217 #[.pointer (some ⟨T,0,none⟩),.func (.func 239) #[] #[]] w fun e w'=>e=.returned (.int .i64 ((L.filter (hit f)).length:Int))/\Tok w' base T M (L.map (hurt1 f)) bl/\Below base w w'/\Apart bl L.length w w':=by
 have c1:w.cell? ⟨T,1,none⟩=some (.map (some M)):=h.blk.cell 1;have hrange:=run_range_at (P:=Tryz.prog) Tryz.underlying263 h.map;have HT0:=hid h;have HF:=hid hF;clear h hF;go_enter Tryz.func217,Tryz.ntmps217
 go_wp2
 go_loopw [5] (fun n wr=>∃ S:List Nat,S.Nodup/\(∀ i∈S,i<L.length)/\n=.int .i64 ((S.filter (hitAt f L)).length:Int)/\Tok wr base T M (hurtIn f S L) bl/\IterAt wr w.heap.size M L.length S/\Below base w wr/\Apart bl L.length w wr) (fun _ wr=>L.length-seenSize wr w.heap.size)
 case atStart=>
  refine⟨[],List.nodup_nil,by simp,rfl,?_,heap_alloc_new w _,(Below.refl _ _).alloc HT0.out.above _,fun g hg _=>Below.heap_alloc _ _ _ hg⟩;rw[hurtIn_nil];exact HT0.out.alloc _
 case round=>
  obtain⟨S,hS,hSb,rfl,hT,hI,hB,hA⟩:=hrel;have HS:=hid hS;have HSb:=hid hSb;have HB:=hid hB;have HA:=hid hA;have HT:=hid hT;have HI:=hid hI;have hmap:=hT.map;have hst:=stamped_entsF (left (hurtIn f S L)) (hurtIn f S L).length bl;rw[hurtIn_length]at hmap hst;clear hS hSb hB hA hT hI
  go_wp2_with (refine wpList_next_at rfl (.tmp 14) rfl rfl hmap hst HI.out ?done ?more)
  case done=>
   intro hall;have HE1:Hid (hurtIn f S L=L.map (hurt1 f)):=hid (hurtIn_all f S L fun i hi hl=>hall _ _ _ (mem_entsF hi (by rw[left_hurtIn];exact hl)));have HE2:Hid ((S.filter (hitAt f L)).length=(L.filter (hit f)).length):=hid (hits_end f S L HS.out HSb.out fun i hi hl=>hall _ _ _ (mem_entsF hi (by rw[left_hurtIn];exact hl)));clear hall hmap hst
   go_wp2
   go_ret;refine⟨by rw[HE2.out];rfl,by rw[<- HE1.out];exact HT.out,HB.out,HA.out⟩
  case more=>
   intro k v i hq hns w2 hI2 hg2 hsz2 hent;obtain⟨hi,hl,rfl,rfl⟩:=of_mem_entsF hq;rw[left_hurtIn]at hl;have hbn:=HT0.out.bl_ne;have hent:=hent (by have:=(Array.getElem?_eq_some_iff.1 HT0.out.map).1;omega);unfold mkI at hent;have HT2:=hid (HT.out.grown hg2 (by have:=HT0.out.blk.lt;omega) (by have:=(Array.getElem?_eq_some_iff.1 HT0.out.map).1;omega) (fun j hj=>by rw[hurtIn_length]at hj;have:=(hbn.2 j hj).2.2;omega))
   have hi':i<(hurtIn f S L).length:=by rw[hurtIn_length];exact hi
   have hgi:(hurtIn f S L)[i]=L[i]:=by rw[hurtIn_get,if_neg hns]
   have hblk:=(HT2.out.each i hi').2;rw[hgi]at hblk;have hk:w2.cell? ⟨bl i,0,none⟩=some (.string L[i].key):=hblk.cell 0;have hg:w2.cell? ⟨bl i,1,none⟩=some (.bool L[i].good):=hblk.cell 1;have hfz:=hblk.frozen 1
   have hused:L[i].used=false:=by
    unfold left at hl;rw[List.getElem?_eq_getElem hi]at hl
    simpa using hl
   have hat:hitAt f L i=hit f L[i]:=by unfold hitAt;rw[List.getElem?_eq_getElem hi]
   have hA2:Apart bl L.length w w2:=fun g hg1 hg3=>(hg2.block g (by have:=HB.out.size;have h4:=(Array.getElem?_eq_some_iff.1 (HI.out:wr.heap[w.heap.size]? = _)).1;omega) (by simp;omega)).trans (HA.out g hg1 hg3);have HA2:=hid hA2;have HB2:=hid (HB.out.grown hg2 (by have:=HT.out.above;omega) (fun g hg'=>by cases hg';exact HT0.out.above))
   have HS2:Hid ((S++[i]).Nodup/\(∀ j∈S++[i],j<L.length)/\(S++[i]).length<=L.length):=by
    have h1:(S++[i]).Nodup:=by rw[List.nodup_append];exact⟨HS.out,by simp,by simp;intro a ha e;exact hns (e ▸ ha)⟩
    have h2:∀ j∈S++[i],j<L.length:=by
     intro j hj
     rcases List.mem_append.1 hj with h|h
     ·exact HSb.out j h
     ·simp at h;omega
    exact hid ⟨h1,h2,nodup_le h1 h2⟩
   have HI2:=hid hI2
   have HHG:Hid ((hit f L[i]=false->hurtIn f (S++[i]) L=hurtIn f S L/\((S++[i]).filter (hitAt f L)).length=(S.filter (hitAt f L)).length)/\(hit f L[i]=true->hurtIn f (S++[i]) L=(hurtIn f S L).set i ⟨L[i].key,false,L[i].used⟩/\((S++[i]).filter (hitAt f L)).length=(S.filter (hitAt f L)).length+1)):=by
    refine hid ⟨fun h=>⟨hurtIn_miss f S L i (hat.trans h),?_⟩,fun h=>⟨hurtIn_hit f S L i hi h,?_⟩⟩
    ·rw[List.filter_append,List.length_append];simp[hat,h]
    ·rw[List.filter_append,List.length_append];simp[hat,h]
   have hhit:hit f L[i]=(L[i].good && f L[i].key):=by unfold hit;rw[hused];rfl
   rw[hhit]at HHG;have HBNE:=hid hbn;have HKU:Hid ((hurtIn f S L)[i].key=L[i].key/\(hurtIn f S L)[i].used=L[i].used):=hid (by rw[hgi];exact⟨rfl,rfl⟩);have HI3:=hid hi;clear hat hhit hA2 hI2 hg2 hsz2 hq hns hl hbn hblk hgi hused hst hmap;generalize L[i].key=ky at hk HHG HKU;generalize L[i].good=gd at hg HHG
   cases gd with
   | false=>
    go_wp2
    obtain⟨e1,e2⟩:=HHG.out.1 rfl;refine⟨⟨S++[i],HS2.out.1,HS2.out.2.1,by rw[e2],by rw[e1];exact HT2.out,HI2.out,HB2.out,HA2.out⟩,?_⟩;have:=HI.out.size;have:=HI2.out.size;have:=HS2.out.2.2;rw[List.length_append,List.length_singleton]at *;omega
   | true=>
    go_wp2_with fail
    refine(HF.out w2 ky HA2.out).mono ?_;rintro e w3 ⟨rfl,rfl⟩
    have HSZ:Hid (L.length-seenSize w2 w.heap.size<L.length-seenSize wr w.heap.size/\seenSize w2 w.heap.size=(S++[i]).length):=by
     have h1:=HI.out.size;have h2:=HI2.out.size;have h3:=HS2.out.2.2;refine hid ⟨?_,h2⟩;rw[List.length_append,List.length_singleton]at *;omega
    by_cases hf:f ky=true
    ·have HS3:Hid (Tok (w2.setCell ⟨bl i,1,none⟩ (.bool false)) base T M (hurtIn f (S++[i]) L) bl/\IterAt (w2.setCell ⟨bl i,1,none⟩ (.bool false)) w.heap.size M L.length (S++[i])/\Below base w (w2.setCell ⟨bl i,1,none⟩ (.bool false))/\Apart bl L.length w (w2.setCell ⟨bl i,1,none⟩ (.bool false))/\((S++[i]).filter (hitAt f L)).length=(S.filter (hitAt f L)).length+1):=by
      obtain⟨e1,e2⟩:=HHG.out.2 (by rw[hf];rfl);have hb:=(HBNE.out.2 i HI3.out).2.2;refine hid ⟨?_,?_,?_,?_,e2⟩
      ·rw[e1]
       exact HT2.out.bad i hi' _ (HKU.out.1) (HKU.out.2) rfl
      ·exact(Below.heap_setCell _ _ _ _ (by show w.heap.size≠bl i;omega)).trans HI2.out
      ·exact HB2.out.setCell (HT0.out.each i HI3.out).1 _
      ·exact fun g hg1 hg3=>(Below.heap_setCell _ _ _ _ (fun e=>hg3 i HI3.out e.symm)).trans (HA2.out g hg1 hg3)
     have HZ:Hid (seenSize (w2.setCell ⟨bl i,1,none⟩ (.bool false)) w.heap.size=(S++[i]).length):=hid HS3.out.2.1.size;rw[hf];clear hf
     have hfl2:(S.filter (hitAt f L)).length<1099511627776:=by
      have hfl:=List.length_filter_le (hitAt f L) S;have hsl:=HS2.out.2.2;rw[List.length_append,List.length_singleton]at hsl;omega
     go_wp2
     obtain⟨x1,x2,x3,x4,x5⟩:=HS3.out;refine⟨⟨S++[i],HS2.out.1,HS2.out.2.1,by rw[x5];go_num,x1,x2,x3,x4⟩,?_⟩;rw[HZ.out,<- HSZ.out.2];exact HSZ.out.1
    ·have hf':f ky=false:=by cases h:f ky <;> simp_all
     rw[hf'];clear hf
     go_wp2
     obtain⟨e1,e2⟩:=HHG.out.1 (by rw[hf'];rfl);refine⟨⟨S++[i],HS2.out.1,HS2.out.2.1,by rw[e2],by rw[e1];exact HT2.out,HI2.out,HB2.out,HA2.out⟩,HSZ.out.1⟩
def inB (s:ByteArray)(ss:List ByteArray):Bool:=ss.any fun x=>decide (s=x)
theorem inB_iff (s:ByteArray)(ss:List ByteArray):inB s ss=true ↔ s∈ss:=by unfold inB;simp
theorem clearT (w:World)(base T M:Nat)(L:List TkS)(bl:Nat->Nat)(h:Tok w base T M L bl)(hlen:L.length<1099511627776) :
 Calls Tryz.prog 199 #[.pointer (some ⟨T,0,none⟩)] w fun e w'=>e=.returned (.int .i64 ((L.filter (hit fun _=>true)).length:Int))/\Tok w' base T M (L.map (hurt1 fun _=>true)) bl/\Below base w w'/\Apart bl L.length w w':=by
 have HX:=hid (killcT w base T M L bl h hlen (fun _=>true) (fun wr s _=>clearedT s wr));clear h;go_enter Tryz.func199,Tryz.ntmps199
 go_wp2_with fail
 refine HX.out.mono ?_;rintro e w' ⟨rfl,h1,h2,h3⟩;have H3:=hid h3;have H1:=hid h1;clear h1 h3
 go_wp2
 go_ret;exact⟨rfl,H1.out,h2,H3.out⟩
theorem killsT (w:World)(base T M:Nat)(L:List TkS)(bl:Nat->Nat)(h:Tok w base T M L bl)(hlen:L.length<1099511627776)(A:Option Addr)(n c:Nat)(ss:List ByteArray)(hr:Sl w A (ss.map .string))(hn:ss.length=n)(hm:n<=9223372036854775807)
 (hA:∀ a,A=some a->a.block<w.heap.size/\∀ j,j<L.length->bl j≠a.block) :
 Calls Tryz.prog 166 #[.pointer (some ⟨T,0,none⟩),.slice A n c] w fun e w'=>e=.returned (.int .i64 ((L.filter (hit fun s=>inB s ss)).length:Int))/\Tok w' base T M (L.map (hurt1 fun s=>inB s ss)) bl/\Below base w w'/\Apart bl L.length w w':=by
 have hb:=h.bl_ne;have hcell:(w.alloc (.cells #[.slice A n c] 40)).cell? ⟨w.heap.size,0,none⟩=some (.slice A n c):=(Blk.new w 40 #[.slice A n c]).cell 0
 have HX:=hid (killT (w.alloc (.cells #[.slice A n c] 40)) base T M L bl (h.alloc _) hlen (fun s=>inB s ss) ⟨w.heap.size,0,none⟩ (fun wr s ha=>by
  have hc:wr.cell? ⟨w.heap.size,0,none⟩=some (.slice A n c):=by
   have:=ha w.heap.size (by simp) (fun j hj e=>by have:=(hb.2 j hj).2.2;omega);unfold World.cell?;unfold World.cell? at hcell;rw[this];exact hcell
  have hs:Sl wr A (ss.map .string):=by
   intro hne;obtain⟨b,off,rfl,hcs⟩:=hr hne;refine⟨b,off,rfl,fun j u hu=>?_⟩;obtain⟨h1,h2⟩:=hA _ rfl;have:=ha b (by simp;exact Nat.lt_succ_of_lt h1) (fun j hj=>h2 j hj);have h0:=hcs j u hu;unfold World.cell? at h0 ⊢;rw[this,Below.heap_alloc _ _ _ h1];exact h0
  exact(killedT ⟨w.heap.size,0,none⟩ A n c ss s wr hc hs hn hm).mono (by
   rintro e w' ⟨b,rfl,hb2,rfl⟩;refine⟨?_,rfl⟩
   congr 2
   rw[Bool.eq_iff_iff,hb2,inB_iff])))
 have hbase:=h.above;clear h hr hb hA;go_enter Tryz.func166,Tryz.ntmps166
 go_wp2_with fail
 refine HX.out.mono ?_;rintro e w' ⟨rfl,h1,h2,h3⟩;have H3:Hid (Apart bl L.length w w'):=hid fun g hg hn=>(h3 g (by simp;omega) hn).trans (Below.heap_alloc _ _ _ hg);have H1:=hid h1;have H2:=hid (((Below.refl base w).alloc hbase (.cells #[.slice A n c] 40)).trans h2);clear h1 h3
 go_wp2
 go_ret;exact⟨rfl,H1.out,H2.out,H3.out⟩
end Go.Proofs.Ytlhekbjidppijaa
