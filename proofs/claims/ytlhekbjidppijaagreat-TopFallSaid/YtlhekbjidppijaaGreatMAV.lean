/- Contracts of what TopFall reaches: what each function returns and leaves in memory. Conditions: as named. -/
import Derived.Test.YtlhekbjidppijaaGreatMAU
set_option linter.unusedVariables false
set_option linter.unusedSimpArgs false
set_option maxRecDepth 20000
set_option maxHeartbeats 8000000
namespace Go.Proofs.Ytlhekbjidppijaa
open Lib (hid)
open Go.RowKit
structure MT (w:World)(U:Own)(tg g b:Nat)(W:World):Prop where
 hg:Has W U tg g 353 #[.int .i64 0,.int .i64 0,.int .i64 0,.slice none 0 0,.slice none 0 0]
 hx:Sl W (some ⟨b,0,none⟩) (bv (List.replicate 64 0))
 hb:b≠g
 hc:Chg (· = tg) w U W U
theorem zero_cell {W:World}{b:Nat}(h:Sl W (some ⟨b,0,none⟩) (bv (List.replicate 64 0)))(j:Nat)(hj:j<64):W.cell? ⟨b,j,none⟩=some (.int .u8 0):=by
 obtain⟨b',o',e,hc⟩:=h (by simp[bv])
 cases e
 have:=hc j (.int .u8 0) (by simp only[bv,List.getElem?_map,List.getElem?_replicate,if_pos hj];rfl)
 rwa [Nat.zero_add]at this
section
variable {w W W' : World} {U : Own} {tg g b : Nat}
theorem MT.set_ (h:MT w U tg g b W)(i:Nat)(hi:i<2):MT w U tg g b (W.setCell ⟨g,i,none⟩ (.int .i64 0)) where
 hg:=by
  have:=h.hg.set_ i (.int .i64 0)
  have e:(#[.int .i64 0,.int .i64 0,.int .i64 0,.slice none 0 0,.slice none 0 0]:Array Value).setIfInBounds i (.int .i64 0)=#[.int .i64 0,.int .i64 0,.int .i64 0,.slice none 0 0,.slice none 0 0]:=by
   rcases i with _|_|i
   ·rfl
   ·rfl
   ·omega
  rwa [e]at this
 hx:=h.hx.set_ (p:=⟨g,i,none⟩) (by rintro a ha;cases ha;exact h.hb) _
 hb:=h.hb
 hc:=h.hc.setCell (p:=⟨g,i,none⟩) h.hg.own _
theorem MT.alloc (h:MT w U tg g b W)(o:Obj):MT w U tg g b (W.alloc o):=⟨h.hg.alloc o,h.hx.keep ((Below.refl _ _).alloc (Nat.le_refl _) _),h.hb,h.hc.alloc o⟩
theorem MT.drewN (h:MT w U tg g b W)(n:Nat):MT w U tg g b (W.drewN n):=⟨h.hg.drewN n,h.hx,h.hb,h.hc.drewN n⟩
end
theorem de_zeros (n:Nat):de (List.replicate n 0)=0:=by
 induction n with
 | zero=>rfl
 | succ n ih=>rw[List.replicate_succ',de_snoc,ih]
theorem part_zero {W:World}{b:Nat}(h:Sl W (some ⟨b,0,none⟩) (bv (List.replicate 64 0)))(o n:Nat)(hn:o+n<=64):Sl W (some ⟨b,o,none⟩) (bv (List.replicate n 0)):=Sl.of_cells fun j u hu=>by
 have hj:j<n:=by have:=(List.getElem?_eq_some_iff.1 hu).1;simpa [bv] using this
 have e:=zero_cell h (o+j) (by omega);simp only[bv,List.getElem?_map,List.getElem?_replicate,if_pos hj]at hu;rw[add_none];exact e.trans (by simpa using hu)
theorem get_zero (W:World)(b o n c:Nat)(h:Sl W (some ⟨b,0,none⟩) (bv (List.replicate 64 0)))(hn:o+n<=64)(hn8:n<=8) :
 Calls Tryz.prog 295 #[.slice (some ⟨b,o,none⟩) n c] W fun e w'=>e=.returned (.int .u64 0)/\W=w':=by
 have h1:=get295 W b o n c (List.replicate n 0) List.length_replicate hn8 (fun x hx=>by rw[List.eq_of_mem_replicate hx];decide) (part_zero h o n hn);rw[de_zeros]at h1;exact h1
def S60:Nat:=Plain.crc (List.replicate 60 0)
theorem S60_ne:S60≠0/\S60<4294967296:=by decide +kernel
theorem take296 (w:World)(U:Own)(tg g b cx:Nat)(hM:MT w U tg g b w)(hcx:64<=cx) :
 Calls Tryz.prog 296 #[.pointer (some ⟨g,0,none⟩),.int .i64 0,.slice (some ⟨b,0,none⟩) 64 cx] w fun e w'=>e=.returned (.bool false)/\MT w U tg g b w':=by
 have k1:(64:Int)<=(cx:Int):=by omega
 have k2:cx≠16:=by omega
 have k3:cx≠4:=by omega
 have k4:cx≠10:=by omega
 have k5:cx-16≠6:=by omega
 have ew:IntKind.i64.wrap 0=0:=by decide
 have z4:(4:Int)<=(cx:Int):=by omega
 have z10:(10:Int)<=(cx:Int):=by omega
 have z14:(14:Int)<=(cx:Int):=by omega
 have z16:(16:Int)<=(cx:Int):=by omega
 have z6:(6:Int)<=((cx-16:Nat):Int):=by omega
 have HM0:=hid (hM.drewN 1);clear hM;go_enter Tryz.func296,Tryz.ntmps296
 go_wp2_with fail
 have hf:=HM0.out.hg.frozen 0;have hc3:=HM0.out.hg.cell 0;refine wp_region_hl [4,8,12] [0,1,2,3,6,7,4,5,8,9,10,11,12] (MT w U tg g b) (by kernel_rfl) (by kernel_rfl) HM0.out ?_
 iterate 6 (refine hd_take (v:=?_) rfl rfl (by kernel_rfl) (fun W hW=>?_) ?_;rotate_left;(first|(go_simp;done)|(go_simp;with_reducible rfl)))
 refine hd_loud rfl rfl fun K hK=>?_;go_simp;refine(get_zero _ b 4 6 (cx-4) HM0.out.hx (by decide) (by decide)).mono ?_;rintro e w1 ⟨rfl,rfl⟩;refine hK _ _ HM0.out ?_;clear hK;refine hd_take (v:=?_) rfl rfl (by kernel_rfl) (fun W hW=>?_) ?_;rotate_left;(first|(go_simp;done)|(go_simp;with_reducible rfl));refine hd_loud rfl rfl fun K hK=>?_;go_simp;refine(get_zero _ b 16 6 (cx-16) HM0.out.hx (by decide) (by decide)).mono ?_;rintro e w1 ⟨rfl,rfl⟩;refine hK _ _ HM0.out ?_;clear hK
 iterate 3 (refine hd_take (v:=?_) rfl rfl (by kernel_rfl) (fun W hW=>?_) ?_;rotate_left;(first|(go_simp;done)|(go_simp;with_reducible rfl)))
 refine hd_loud rfl rfl fun K hK=>?_;go_simp;refine hK _ _ (HM0.out.set_ 0 (by decide)) (hd_end ?_);clear hK hf hc3;simp only[zqa,zqb,zqc,zqd,Nat.zero_add,Nat.reduceAdd];have HM1:=hid (HM0.out.set_ 0 (by decide));generalize (w.drewN 1).setCell ⟨g,0,none⟩ (.int .i64 0)=w1 at HM1 ⊢;have hf:=HM1.out.hg.frozen 1;have hc3:=HM1.out.hg.cell 1
 go_wp2_with fail
 have HM2:=hid (HM1.out.set_ 1 (by decide));clear hf hc3 HM0 HM1;generalize w1.setCell ⟨g,1,none⟩ (.int .i64 0)=wx at HM2 ⊢;have HM1:=HM2;clear HM2;have HG:=hid (get_zero wx b 10 4 (cx-10) HM1.out.hx (by decide) (by decide));refine HG.out.mono ?_;rintro e w1 ⟨rfl,rfl⟩;clear HG
 go_wp2_with fail
 have HS60:Hid (Plain.crc (List.replicate 60 0)=S60):=hid rfl
 have HW60:IntKind.u64.wrap (S60:Int)=(S60:Int):=by have:=S60_ne.2;exact IntWalk.u64_in _ ⟨by omega,by omega⟩
 have HNE:((S60:Int) != 0)=true:=by rw[bne_iff_ne];have:=S60_ne.1;omega
 have HMd:=hid (HM1.out.drewN 1);have HPT:Hid (Sl wx.drew (some ⟨b,4,none⟩) (bv (List.replicate 60 0))):=hid (part_zero (HM1.out.drewN 1).hx 4 60 (by decide))
 have HSU:Hid (Calls Tryz.prog 171 #[.slice (some ⟨wx.heap.size,0,none⟩) 1 1] (wx.drew.alloc (.cells #[.slice (some ⟨b,4,none⟩) 60 (cx-4)] 74)) fun e w'=>e=.returned (.int .u32 (S60:Int))/\wx.drew.alloc (.cells #[.slice (some ⟨b,4,none⟩) 60 (cx-4)] 74)=w'):=hid (by
  refine(sum_any (some ⟨wx.heap.size,0,none⟩) 1 1 [⟨some ⟨b,4,none⟩,cx-4,List.replicate 60 0⟩] _ ?_ rfl (by decide) ?_).mono ?_
  ·simp only[List.map_cons,List.map_nil,Part.val,List.length_replicate];exact(Blk.new wx.drew 74 #[.slice (some ⟨b,4,none⟩) 60 (cx-4)]).sl
  ·intro p hp;rw[List.mem_singleton.1 hp];exact⟨HPT.out.keep ((Below.refl _ _).alloc (Nat.le_refl _) _),by simp,by intro c hc;rw[List.eq_of_mem_replicate hc];decide⟩
  ·rintro e w1 ⟨rfl,rfl⟩
   exact⟨by rw[<- HS60.out];simp[List.flatMap],rfl⟩)
 refine wp_region_hl [2,3,7,12,52] [0,1,5,6,2,3,4,7,8,9,10,11,14,15,16,17,12,13,18,19,20,21,22,23,24,25,26,27,28,29,30,31,32,33,34,35,36,37,38,39,40,41,42,43,44,45,46,47,48,49,50,51,52] (MT w U tg g b) (by kernel_rfl) (by kernel_rfl) HMd.out ?_
 iterate 4 (refine hd_take (v:=?_) rfl rfl (by kernel_rfl) (fun W hW=>?_) ?_;rotate_left;(first|(go_simp;done)|(go_simp;with_reducible rfl)))
 refine hd_loud rfl rfl fun K hK=>?_;go_simp;have HMa:=hid (HMd.out.alloc (.cells #[.slice (some ⟨b,4,none⟩) 60 (cx-4)] 74));refine hK _ _ HMa.out ?_;clear hK;refine hd_loud rfl rfl fun K hK=>?_;go_simp;refine HSU.out.mono ?_;rintro e w1 ⟨rfl,rfl⟩;refine hK _ _ HMa.out ?_;clear hK;refine hd_take (v:=?_) rfl rfl (by kernel_rfl) (fun W hW=>?_) ?_;rotate_left;(first|(go_simp;done)|(go_simp;with_reducible rfl));refine hd_loud rfl rfl fun K hK=>?_;go_simp;refine(get_zero _ b 0 4 cx HMa.out.hx (by decide) (by decide)).mono ?_;rintro e w1 ⟨rfl,rfl⟩;refine hK _ _ HMa.out ?_;clear hK
 iterate 2 (refine hd_take (v:=?_) rfl rfl (by kernel_rfl) (fun W hW=>?_) ?_;rotate_left;(first|(go_simp;done)|(go_simp;with_reducible rfl)))
 iterate 6 (refine hd_skip rfl rfl (by kernel_rfl) ?_)
 refine hd_loud rfl rfl fun K hK=>?_;go_simp;refine hK _ _ HMa.out ?_;clear hK
 iterate 2 (refine hd_skip rfl rfl (by kernel_rfl) ?_)
 iterate 2 (refine hd_take (v:=?_) rfl rfl (by kernel_rfl) (fun W hW=>?_) ?_;rotate_left;(first|(go_simp;done)|(go_simp;with_reducible rfl)))
 iterate 6 (refine hd_skip rfl rfl (by kernel_rfl) ?_)
 iterate 2 (refine hd_take (v:=?_) rfl rfl (by kernel_rfl) (fun W hW=>?_) ?_;rotate_left;(first|(go_simp;done)|(go_simp;with_reducible rfl)))
 iterate 6 (refine hd_skip rfl rfl (by kernel_rfl) ?_)
 iterate 2 (refine hd_take (v:=?_) rfl rfl (by kernel_rfl) (fun W hW=>?_) ?_;rotate_left;(first|(go_simp;done)|(go_simp;with_reducible rfl)))
 iterate 7 (refine hd_skip rfl rfl (by kernel_rfl) ?_)
 iterate 2 (refine hd_take (v:=?_) rfl rfl (by kernel_rfl) (fun W hW=>?_) ?_;rotate_left;(first|(go_simp;done)|(go_simp;with_reducible rfl)))
 iterate 6 (refine hd_skip rfl rfl (by kernel_rfl) ?_)
 refine hd_loud rfl rfl fun K hK=>?_;go_simp;refine hK _ _ HMa.out (hd_end ?_);clear hK;simp only[zqa,zqb,zqc,zqd,Nat.zero_add,Nat.reduceAdd]
 go_wp2
 go_ret;exact⟨rfl,HMa.out⟩
structure MZ (w:World)(b:Nat)(W:World):Prop where
 hx:Sl W (some ⟨b,0,none⟩) (bv (List.replicate 64 0))
 hb:Below w.heap.size w W
theorem MZ.alloc {w W:World}{b:Nat}(h:MZ w b W)(o:Obj):MZ w b (W.alloc o):=⟨h.hx.keep ((Below.refl _ _).alloc (Nat.le_refl _) _),h.hb.alloc h.hb.size _⟩
theorem MZ.drewN {w W:World}{b:Nat}(h:MZ w b W)(n:Nat):MZ w b (W.drewN n):=⟨h.hx,h.hb.os,h.hb.tape,h.hb.output,h.hb.size,h.hb.block⟩
theorem take_zi (w:World)(g b i cx:Nat)(hx:Sl w (some ⟨b,0,none⟩) (bv (List.replicate 64 0)))(hi:0<i)(hi8:i<8)(hcx:64<=cx) :
 Calls Tryz.prog 296 #[.pointer (some ⟨g,0,none⟩),.int .i64 (i:Int),.slice (some ⟨b,0,none⟩) 64 cx] w fun e w'=>e=.returned (.bool false)/\Below w.heap.size w w':=by
 have k1:(64:Int)<=(cx:Int):=by omega
 have k2:cx≠16:=by omega
 have k3:cx≠4:=by omega
 have k4:cx≠10:=by omega
 have ki:¬ ((i:Int)=0):=by omega
 have ki2:((i:Int) == 0)=false:=by rw[beq_eq_false_iff_ne];omega
 have ew:IntKind.i64.wrap 0=0:=by decide
 have z4:(4:Int)<=(cx:Int):=by omega
 have z10:(10:Int)<=(cx:Int):=by omega
 have z14:(14:Int)<=(cx:Int):=by omega
 have z16:(16:Int)<=(cx:Int):=by omega
 have HM1:Hid (MZ w b w):=hid ⟨hx,Below.refl _ _⟩;clear hx;go_enter Tryz.func296,Tryz.ntmps296
 go_wp2_with fail
 have HG:=hid (get_zero w b 10 4 (cx-10) HM1.out.hx (by decide) (by decide));refine HG.out.mono ?_;rintro e w1 ⟨rfl,rfl⟩;clear HG
 go_wp2_with fail
 have HS60:Hid (Plain.crc (List.replicate 60 0)=S60):=hid rfl
 have HW60:IntKind.u64.wrap (S60:Int)=(S60:Int):=by have:=S60_ne.2;exact IntWalk.u64_in _ ⟨by omega,by omega⟩
 have HNE:((S60:Int) != 0)=true:=by rw[bne_iff_ne];have:=S60_ne.1;omega
 have HMd:=hid (HM1.out.drewN 1);have HPT:Hid (Sl w.drew (some ⟨b,4,none⟩) (bv (List.replicate 60 0))):=hid (part_zero (HM1.out.drewN 1).hx 4 60 (by decide))
 have HSU:Hid (Calls Tryz.prog 171 #[.slice (some ⟨w.heap.size,0,none⟩) 1 1] (w.drew.alloc (.cells #[.slice (some ⟨b,4,none⟩) 60 (cx-4)] 74)) fun e w'=>e=.returned (.int .u32 (S60:Int))/\w.drew.alloc (.cells #[.slice (some ⟨b,4,none⟩) 60 (cx-4)] 74)=w'):=hid (by
  refine(sum_any (some ⟨w.heap.size,0,none⟩) 1 1 [⟨some ⟨b,4,none⟩,cx-4,List.replicate 60 0⟩] _ ?_ rfl (by decide) ?_).mono ?_
  ·simp only[List.map_cons,List.map_nil,Part.val,List.length_replicate];exact(Blk.new w.drew 74 #[.slice (some ⟨b,4,none⟩) 60 (cx-4)]).sl
  ·intro p hp;rw[List.mem_singleton.1 hp];exact⟨HPT.out.keep ((Below.refl _ _).alloc (Nat.le_refl _) _),by simp,by intro c hc;rw[List.eq_of_mem_replicate hc];decide⟩
  ·rintro e w1 ⟨rfl,rfl⟩
   exact⟨by rw[<- HS60.out];simp[List.flatMap],rfl⟩)
 refine wp_region_hl [2,3,7,12,52] [0,1,5,6,2,3,4,7,8,9,10,11,14,15,16,17,12,13,18,19,20,21,22,23,24,25,26,27,28,29,30,31,32,33,34,35,36,37,38,39,40,41,42,43,44,45,46,47,48,49,50,51,52] (MZ w b) (by kernel_rfl) (by kernel_rfl) HMd.out ?_
 iterate 4 (refine hd_take (v:=?_) rfl rfl (by kernel_rfl) (fun W hW=>?_) ?_;rotate_left;(first|(go_simp;done)|(go_simp;with_reducible rfl)))
 refine hd_loud rfl rfl fun K hK=>?_;go_simp;have HMa:=hid (HMd.out.alloc (.cells #[.slice (some ⟨b,4,none⟩) 60 (cx-4)] 74));refine hK _ _ HMa.out ?_;clear hK;refine hd_loud rfl rfl fun K hK=>?_;go_simp;refine HSU.out.mono ?_;rintro e w1 ⟨rfl,rfl⟩;refine hK _ _ HMa.out ?_;clear hK;refine hd_take (v:=?_) rfl rfl (by kernel_rfl) (fun W hW=>?_) ?_;rotate_left;(first|(go_simp;done)|(go_simp;with_reducible rfl));refine hd_loud rfl rfl fun K hK=>?_;go_simp;refine(get_zero _ b 0 4 cx HMa.out.hx (by decide) (by decide)).mono ?_;rintro e w1 ⟨rfl,rfl⟩;refine hK _ _ HMa.out ?_;clear hK
 iterate 2 (refine hd_take (v:=?_) rfl rfl (by kernel_rfl) (fun W hW=>?_) ?_;rotate_left;(first|(go_simp;done)|(go_simp;with_reducible rfl)))
 iterate 6 (refine hd_skip rfl rfl (by kernel_rfl) ?_)
 refine hd_loud rfl rfl fun K hK=>?_;go_simp;refine hK _ _ HMa.out ?_;clear hK
 iterate 2 (refine hd_skip rfl rfl (by kernel_rfl) ?_)
 iterate 2 (refine hd_take (v:=?_) rfl rfl (by kernel_rfl) (fun W hW=>?_) ?_;rotate_left;(first|(go_simp;done)|(go_simp;with_reducible rfl)))
 iterate 6 (refine hd_skip rfl rfl (by kernel_rfl) ?_)
 iterate 2 (refine hd_take (v:=?_) rfl rfl (by kernel_rfl) (fun W hW=>?_) ?_;rotate_left;(first|(go_simp;done)|(go_simp;with_reducible rfl)))
 iterate 6 (refine hd_skip rfl rfl (by kernel_rfl) ?_)
 iterate 2 (refine hd_take (v:=?_) rfl rfl (by kernel_rfl) (fun W hW=>?_) ?_;rotate_left;(first|(go_simp;done)|(go_simp;with_reducible rfl)))
 iterate 7 (refine hd_skip rfl rfl (by kernel_rfl) ?_)
 iterate 2 (refine hd_take (v:=?_) rfl rfl (by kernel_rfl) (fun W hW=>?_) ?_;rotate_left;(first|(go_simp;done)|(go_simp;with_reducible rfl)))
 iterate 6 (refine hd_skip rfl rfl (by kernel_rfl) ?_)
 refine hd_loud rfl rfl fun K hK=>?_;go_simp;refine hK _ _ HMa.out (hd_end ?_);clear hK;simp only[zqa,zqb,zqc,zqd,Nat.zero_add,Nat.reduceAdd]
 go_wp2
 go_ret;exact⟨rfl,HMa.out.hb⟩
theorem sl_part {W:World}{b:Nat}{x:List Nat}(h:Sl W (some ⟨b,0,none⟩) (bv x))(o n:Nat):Sl W (some ⟨b,o,none⟩) (bv ((x.drop o).take n)):=Sl.of_cells fun j u hu=>by
 have hj:=(List.getElem?_eq_some_iff.1 hu).1;simp only[bv,List.length_map,List.length_take,List.length_drop]at hj;obtain⟨b',o',e,hc⟩:=h (by intro e;have:=congrArg List.length e;simp[bv]at this;subst this;simp at hj)
 cases e
 rw[add_none]
 have:=hc (o+j) u (by
  rw[<- hu];simp only[bv,List.getElem?_map]
  rw[List.getElem?_take_of_lt (by omega),List.getElem?_drop])
 rwa [Nat.zero_add]at this
theorem sl_cell {W:World}{b:Nat}{x:List Nat}(h:Sl W (some ⟨b,0,none⟩) (bv x))(j v:Nat)(hj:x[j]? = some v):W.cell? ⟨b,j,none⟩=some (.int .u8 (v:Int)):=by
 obtain⟨b',o',e,hc⟩:=h (by intro e;have:=congrArg List.length e;simp[bv]at this;subst this;simp at hj)
 cases e
 have:=hc j (.int .u8 (v:Int)) (by simp only[bv,List.getElem?_map,hj];rfl)
 rwa [Nat.zero_add]at this
theorem get_part (W:World)(b o n c z:Nat)(x:List Nat)(h:Sl W (some ⟨b,0,none⟩) (bv x))(hp:(x.drop o).take n=be n z)(hz:z<256 ^ n)(hn8:n<=8) :
 Calls Tryz.prog 295 #[.slice (some ⟨b,o,none⟩) n c] W fun e w'=>e=.returned (.int .u64 (z:Int))/\W=w':=by
 have h1:=get295 W b o n c ((x.drop o).take n) (by rw[hp,be_len]) hn8 (by rw[hp];exact be_lt n z) (sl_part h o n);rw[hp,de_be' n z hz]at h1;exact h1
structure MY (w:World)(U:Own)(tg g b nb:Nat)(x lb:List Nat)(a0 a1 a2 a3 a4:Value)(W:World):Prop where
 hg:Has W U tg g 353 #[a0,a1,a2,a3,a4]
 hr:Rw W U tg 5 1 a3 nb (bv lb)
 hx:Sl W (some ⟨b,0,none⟩) (bv x)
 hc:Chg (· = tg) w U W U
section
variable {w W : World} {U : Own} {tg g b nb : Nat} {x lb : List Nat} {a0 a1 a2 a3 a4 : Value}
theorem MY.alloc (h:MY w U tg g b nb x lb a0 a1 a2 a3 a4 W)(o:Obj):MY w U tg g b nb x lb a0 a1 a2 a3 a4 (W.alloc o):=⟨h.hg.alloc o,h.hr.alloc o,h.hx.keep ((Below.refl _ _).alloc (Nat.le_refl _) _),h.hc.alloc o⟩
theorem MY.drewN (h:MY w U tg g b nb x lb a0 a1 a2 a3 a4 W)(n:Nat):MY w U tg g b nb x lb a0 a1 a2 a3 a4 (W.drewN n):=⟨h.hg.drewN n,h.hr.drewN n,h.hx,h.hc.drewN n⟩
theorem MY.set (h:MY w U tg g b nb x lb a0 a1 a2 a3 a4 W)(hb:b≠g)(i:Nat)(u b0 b1 b2:Value)(he:(#[a0,a1,a2,a3,a4]:Array Value).setIfInBounds i u=#[b0,b1,b2,a3,a4]):MY w U tg g b nb x lb b0 b1 b2 a3 a4 (W.setCell ⟨g,i,none⟩ u):=
 ⟨by have:=h.hg.set_ i u;rwa [he]at this,h.hr.far_ne (p:=⟨g,i,none⟩) (h.hr.not h.hg (.inr (by decide))) u,h.hx.set_ (p:=⟨g,i,none⟩) (by rintro a ha;cases ha;exact hb) _,h.hc.setCell (p:=⟨g,i,none⟩) h.hg.own _⟩
end
theorem bv_app (a b:List Nat):bv (a++b)=bv a++bv b:=by simp[bv]
def TyS (g b:Nat)(gn rn0 i m nb c:Nat)(B:Option Addr)(W:World):Prop:=W.cell? ⟨g,0,none⟩=some (.int .i64 (gn:Int))/\W.cell? ⟨g,2,none⟩=some (.int .i64 (rn0:Int))/\W.cell? ⟨g,3,none⟩=some (.slice B nb c)/\W.cell? ⟨b,14,none⟩=some (.int .u8 (i:Int))/\W.cell? ⟨b,15,none⟩=some (.int .u8 (m:Int))
def TkT (g b m nb c:Nat)(B:Option Addr)(W:World):Prop:=W.cell? ⟨g,3,none⟩=some (.slice B nb c)/\W.cell? ⟨b,15,none⟩=some (.int .u8 (m:Int))
theorem take_yes (w:World)(U:Own)(tg g b cx i k base run gen0 base0 rn0 c:Nat)(x ch lb:List Nat)(B:Option Addr)(rv:Value)(hok:SecOk x k base run i ch)(hi8:i<8)(hcx:64<=cx)(hch:0<ch.length)(hch2:ch.length<=if i=0 then 42 else 48)
 (hk:k<=100000)(hbase:base<=1000000)(hrun:run<=1000000)(hrn:rn0<=run)(hgen:i≠0->gen0=k+1)(hbase0:base0<=1000000)(hgb:b≠g)(hbt:U b≠tg)(hbl:b<w.heap.size)(hlen:lb.length=48*i-6)(hlb:∀ y∈lb,y<256)
 (hG:Has w U tg g 353 #[.int .i64 (gen0:Int),.int .i64 (base0:Int),.int .i64 (rn0:Int),.slice B lb.length c,rv])(hR:Rw w U tg 5 1 (.slice B lb.length c) lb.length (bv lb))(hx:Sl w (some ⟨b,0,none⟩) (bv x)) :
 Calls Tryz.prog 296 #[.pointer (some ⟨g,0,none⟩),.int .i64 (i:Int),.slice (some ⟨b,0,none⟩) 64 cx] w fun e w'=>e=.returned (.bool true)/\∃ U' B' c',Has w' U' tg g 353 #[.int .i64 ((k+1:Nat):Int),.int .i64 ((if i=0 then base else base0:Nat):Int),.int .i64 (run:Int),.slice B' (lb++ch).length c',rv]/\Rw w' U' tg 5 1 (.slice B' (lb++ch).length c') (lb++ch).length (bv (lb++ch))/\Chg (· = tg) w U w' U':=by
 obtain⟨gn,hgn⟩:∃ gn,gn=k+1:=⟨_,rfl⟩;obtain⟨nb,hnb⟩:∃ nb,nb=lb.length:=⟨_,rfl⟩;obtain⟨m,hm⟩:∃ m,m=ch.length:=⟨_,rfl⟩;obtain⟨X,hX⟩:∃ X,X=Plain.crc (x.drop 4):=⟨_,rfl⟩
 obtain⟨bs,hbs⟩:∃ bs,bs=if i=0 then base else base0:=⟨_,rfl⟩
 rw[<- hgn,<- hbs];rw[<- hnb]at hG hR hlen;rw[<- hm]at hch hch2
 have hX4:X<4294967296:=by rw[hX];unfold Plain.crc;omega
 have HGEN:Hid (∀ W,Sl W (some ⟨b,0,none⟩) (bv x)->Calls Tryz.prog 295 #[.slice (some ⟨b,4,none⟩) 6 (cx-4)] W fun e w'=>e=.returned (.int .u64 (gn:Int))/\W=w'):=hid fun W h=>get_part W b 4 6 (cx-4) gn x h (by rw[hok.gen,hgn]) (by omega) (by decide);have HBAS:Hid (i=0->∀ W,Sl W (some ⟨b,0,none⟩) (bv x)->Calls Tryz.prog 295 #[.slice (some ⟨b,16,none⟩) 6 (cx-16)] W fun e w'=>e=.returned (.int .u64 (base:Int))/\W=w'):=hid fun h0 W h=>get_part W b 16 6 (cx-16) base x h (hok.base h0) (by omega) (by decide);have HRUN:Hid (∀ W,Sl W (some ⟨b,0,none⟩) (bv x)->Calls Tryz.prog 295 #[.slice (some ⟨b,10,none⟩) 4 (cx-10)] W fun e w'=>e=.returned (.int .u64 (run:Int))/\W=w'):=hid fun W h=>get_part W b 10 4 (cx-10) run x h hok.run (by omega) (by decide);have HSUM:Hid (∀ W,Sl W (some ⟨b,0,none⟩) (bv x)->Calls Tryz.prog 295 #[.slice (some ⟨b,0,none⟩) 4 cx] W fun e w'=>e=.returned (.int .u64 (X:Int))/\W=w'):=hid fun W h=>get_part W b 0 4 cx X x h (by rw[List.drop_zero,hok.sum,hX]) (by omega) (by decide)
 have HCRC:Hid (∀ W,Sl W (some ⟨b,0,none⟩) (bv x)->Calls Tryz.prog 171 #[.slice (some ⟨W.heap.size,0,none⟩) 1 1] (W.alloc (.cells #[.slice (some ⟨b,4,none⟩) 60 (cx-4)] 74)) fun e w'=>e=.returned (.int .u32 (X:Int))/\W.alloc (.cells #[.slice (some ⟨b,4,none⟩) 60 (cx-4)] 74)=w'):=hid fun W h=>by
  have hpt:=sl_part h 4 60
  have h60:(x.drop 4).length=60:=by rw[List.length_drop,hok.len]
  rw[List.take_of_length_le (by omega)]at hpt;refine(sum_any (some ⟨W.heap.size,0,none⟩) 1 1 [⟨some ⟨b,4,none⟩,cx-4,x.drop 4⟩] _ ?_ rfl (by decide) ?_).mono ?_
  ·simp only[List.map_cons,List.map_nil,Part.val,h60];exact(Blk.new W 74 #[.slice (some ⟨b,4,none⟩) 60 (cx-4)]).sl
  ·intro p hp;rw[List.mem_singleton.1 hp];exact⟨hpt.keep ((Below.refl _ _).alloc (Nat.le_refl _) _),by rw[h60];decide,fun y hy=>hok.lt y (List.mem_of_mem_drop hy)⟩
  ·rintro e w1 ⟨rfl,rfl⟩
   exact⟨by rw[hX];simp[List.flatMap],rfl⟩
 have HX:Hid (∀ W,Sl W (some ⟨b,0,none⟩) (bv x)->W.cell? ⟨b,14,none⟩=some (.int .u8 (i:Int))/\W.cell? ⟨b,15,none⟩=some (.int .u8 (m:Int))/\Sl W (some ⟨b,if i=0 then 22 else 16,none⟩) (bv ch)):=hid fun W h=>⟨sl_cell h 14 i hok.place,sl_cell h 15 m (by rw[hok.used,hm]),by have:=sl_part h (if i=0 then 22 else 16) ch.length;rwa [hok.data]at this⟩;have HCH:Hid ((bv ch).length=m*1/\(∀ y∈ch,y<256)/\0<m):=hid ⟨by simp[bv,hm],fun y hy=>hok.lt y (by rw[<- hok.data]at hy;exact List.mem_of_mem_drop (List.mem_of_mem_take hy)),hch⟩;have HLB:Hid (lb.length=nb/\ch.length=m/\∀ y∈lb,y<256):=hid ⟨hnb.symm,hm.symm,hlb⟩
 have HST:Hid (∀ W,Calls Tryz.prog 247 #[.int .i64 (i:Int)] W fun e w'=>e=.returned (.int .i64 (nb:Int))/\W=w'):=hid fun W=>by rw[hlen];exact start247 W i (by omega)
 have HGB:Hid (b≠g/\U b≠tg/\b<w.heap.size):=hid ⟨hgb,hbt,hbl⟩
 have k1:(64:Int)<=(cx:Int):=by omega
 have k2:cx≠16:=by omega
 have k3:cx≠4:=by omega
 have k4:cx≠10:=by omega
 have k5:cx-16≠6:=by omega
 have z4:(4:Int)<=(cx:Int):=by omega
 have z10:(10:Int)<=(cx:Int):=by omega
 have z14:(14:Int)<=(cx:Int):=by omega
 have z16:(16:Int)<=(cx:Int):=by omega
 have z6:(6:Int)<=((cx-16:Nat):Int):=by omega
 have e1:IntKind.i64.wrap (gn:Int)=(gn:Int):=IntWalk.i64_in _ ⟨by omega,by omega⟩;have e2:IntKind.i64.wrap (base:Int)=(base:Int):=IntWalk.i64_in _ ⟨by omega,by omega⟩;have e3:IntKind.i64.wrap (run:Int)=(run:Int):=IntWalk.i64_in _ ⟨by omega,by omega⟩;have e4:IntKind.u64.wrap (X:Int)=(X:Int):=IntWalk.u64_in _ ⟨by omega,by omega⟩
 have d1:decide ((run:Int)<(rn0:Int))=false:=by rw[decide_eq_false_iff_not];omega
 have m0:(0:Int)<=(m:Int):=by omega
 have m48:(m:Int)<=48:=by split at hch2 <;> omega
 have HM42:Hid (i=0->(m:Int)<=42):=hid fun h=>by rw[if_pos h]at hch2;omega
 have HN:Hid (nb<=400):=hid (by omega);have ei:IntKind.i64.wrap (i:Int)=(i:Int):=IntWalk.i64_in _ ⟨by omega,by omega⟩;have em:IntKind.i64.wrap (m:Int)=(m:Int):=IntWalk.i64_in _ ⟨by omega,by omega⟩
 have e0:IntKind.i64.wrap 0=0:=by decide
 have hr9:rn0<=run:=hrn;have HMA:=hid (MY.mk (w:=w) hG hR hx (Chg.refl _ w U));have HGN:Hid (i≠0->gen0=gn):=hid fun h=>(hgen h).trans hgn.symm;have HBS:=hid hbs;clear hbl hok hch hch2 hk hbase hrun hrn hgen hbase0 hgb hbt hlen hlb hG hR hx hgn hnb hm hX hbs hX4
 have h0:i=0\/(¬ i=0/\¬ ((i:Int)=0)):=by omega
 rcases h0 with h0|⟨h0,hi1⟩
 focus(
  subst h0;have HMD:=hid (HMA.out.drewN 1);go_enter Tryz.func296,Tryz.ntmps296
  go_wp2_with fail
  have hf:=HMD.out.hg.frozen 0;have hc3:=HMD.out.hg.cell 0;refine wp_region_hl [4,8,12] [0,1,2,3,6,7,4,5,8,9,10,11,12] (fun _=>True) (by kernel_rfl) (by kernel_rfl) trivial ?_
  iterate 6 (refine hd_take (v:=?_) rfl rfl (by kernel_rfl) (fun W hW=>?_) ?_;rotate_left;(first|(go_simp;done)|(go_simp;with_reducible rfl)))
  refine hd_loud rfl rfl fun K hK=>?_;go_simp;refine(HGEN.out _ HMD.out.hx).mono ?_;rintro e w1 ⟨rfl,rfl⟩;refine hK _ _ trivial ?_;clear hK;refine hd_take (v:=?_) rfl rfl (by kernel_rfl) (fun W hW=>?_) ?_;rotate_left;(first|(go_simp;done)|(go_simp;with_reducible rfl));refine hd_loud rfl rfl fun K hK=>?_;go_simp;refine(HBAS.out trivial _ HMD.out.hx).mono ?_;rintro e w1 ⟨rfl,rfl⟩;refine hK _ _ trivial ?_;clear hK
  iterate 3 (refine hd_take (v:=?_) rfl rfl (by kernel_rfl) (fun W hW=>?_) ?_;rotate_left;(first|(go_simp;done)|(go_simp;with_reducible rfl)))
  refine hd_loud rfl rfl fun K hK=>?_;go_simp;refine hK _ _ trivial (hd_end ?_);clear hK hf hc3;simp only[zqa,zqb,zqc,zqd,Nat.zero_add,Nat.reduceAdd];have HM1:=hid (HMD.out.set HGB.out.1 0 (.int .i64 (gn:Int)) _ _ _ rfl);generalize (w.drewN 1).setCell ⟨g,0,none⟩ (.int .i64 (gn:Int))=w1 at HM1 ⊢;have hf:=HM1.out.hg.frozen 1;have hc3:=HM1.out.hg.cell 1;have HM2:=hid (HM1.out.set HGB.out.1 1 (.int .i64 (base:Int)) _ _ _ rfl)
  go_wp2_with fail
  clear hf hc3 HM1 HMA HMD;generalize w1.setCell ⟨g,1,none⟩ (.int .i64 (base:Int))=wx at HM2 ⊢;have HMX:Hid (MY w U tg g b nb x lb (.int .i64 (gn:Int)) (.int .i64 (bs:Int)) (.int .i64 (rn0:Int)) (.slice B nb c) rv wx):=hid (by rw[HBS.out];exact HM2.out);clear HM2 HBS HGN;have m42:=HM42.out trivial
  have z8:(m:Int)<=((cx-16-6:Nat):Int):=by omega
  have d2:decide ((42:Int)<(m:Int))=false:=by rw[decide_eq_false_iff_not];omega)
 rotate_left
 focus(
  have d2:decide ((48:Int)<(m:Int))=false:=by rw[decide_eq_false_iff_not];omega
  go_enter Tryz.func296,Tryz.ntmps296
  go_wp2_with fail
  obtain⟨wx,hwx,HMX⟩:∃ W,w=W/\Hid (MY w U tg g b nb x lb (.int .i64 (gn:Int)) (.int .i64 (bs:Int)) (.int .i64 (rn0:Int)) (.slice B nb c) rv W):=⟨w,rfl,hid (by rw[HBS.out,if_neg h0,<- HGN.out h0];exact HMA.out)⟩;clear HMA HBS HGN HBAS;rw[hwx]
  clear hwx)
 all_goals (
  refine(HRUN.out _ HMX.out.hx).mono ?_;rintro e w1 ⟨rfl,rfl⟩;clear HRUN
  go_wp2_with fail
  have HMd:=hid (HMX.out.drewN 1);have HMa:=hid (HMd.out.alloc (.cells #[.slice (some ⟨b,4,none⟩) 60 (cx-4)] 74));have S6:Hid (TyS g b gn rn0 _ m nb c B wx.drew):=hid ⟨HMd.out.hg.cell 0,HMd.out.hg.cell 2,HMd.out.hg.cell 3,(HX.out _ HMd.out.hx).1,(HX.out _ HMd.out.hx).2.1⟩;have S7:Hid (TyS g b gn rn0 _ m nb c B (wx.drew.alloc (.cells #[.slice (some ⟨b,4,none⟩) 60 (cx-4)] 74))):=hid ⟨HMa.out.hg.cell 0,HMa.out.hg.cell 2,HMa.out.hg.cell 3,(HX.out _ HMa.out.hx).1,(HX.out _ HMa.out.hx).2.1⟩;refine wp_region_hl [2,3,7,12,52] [0,1,5,6,2,3,4,7,8,9,10,11,14,15,16,17,12,13,18,19,20,21,22,23,24,25,26,27,28,29,30,31,32,33,34,35,36,37,38,39,40,41,42,43,44,45,46,47,48,49,50,51,52] (TyS g b gn rn0 _ m nb c B) (by kernel_rfl) (by kernel_rfl) S6.out ?_
  iterate 4 (refine hd_take (v:=?_) rfl rfl (by kernel_rfl) (fun W hW=>?_) ?_;rotate_left;(obtain⟨r0,r1,r2,r3,r4⟩:=hW;first|(go_simp;done)|(go_simp;with_reducible rfl)))
  refine hd_loud rfl rfl fun K hK=>?_;go_simp;refine hK _ _ S7.out ?_;clear hK;refine hd_loud rfl rfl fun K hK=>?_;go_simp;refine(HCRC.out _ HMd.out.hx).mono ?_;rintro e w2 ⟨rfl,rfl⟩;refine hK _ _ S7.out ?_;clear hK
  iterate 1 (refine hd_take (v:=?_) rfl rfl (by kernel_rfl) (fun W hW=>?_) ?_;rotate_left;(obtain⟨r0,r1,r2,r3,r4⟩:=hW;first|(go_simp;done)|(go_simp;with_reducible rfl)))
  refine hd_loud rfl rfl fun K hK=>?_;go_simp;refine(HSUM.out _ HMa.out.hx).mono ?_;rintro e w2 ⟨rfl,rfl⟩;refine hK _ _ S7.out ?_;clear hK;refine hd_take (v:=.bool false) rfl rfl (by kernel_rfl) (fun W hW=>by obtain⟨r0,r1,r2,r3,r4⟩:=hW;go_simp) ?_
  iterate 7 (refine hd_take (v:=?_) rfl rfl (by kernel_rfl) (fun W hW=>?_) ?_;rotate_left;(obtain⟨r0,r1,r2,r3,r4⟩:=hW;first|(go_simp;done)|(go_simp;with_reducible rfl)))
  refine hd_loud rfl rfl fun K hK=>?_;go_simp;refine(HGEN.out _ HMa.out.hx).mono ?_;rintro e w2 ⟨rfl,rfl⟩;refine hK _ _ S7.out ?_;clear hK
  iterate 1 (refine hd_take (v:=?_) rfl rfl (by kernel_rfl) (fun W hW=>?_) ?_;rotate_left;(obtain⟨r0,r1,r2,r3,r4⟩:=hW;first|(go_simp;done)|(go_simp;with_reducible rfl)))
  refine hd_take (v:=.bool false) rfl rfl (by kernel_rfl) (fun W hW=>by obtain⟨r0,r1,r2,r3,r4⟩:=hW;go_simp) ?_
  iterate 7 (refine hd_take (v:=?_) rfl rfl (by kernel_rfl) (fun W hW=>?_) ?_;rotate_left;(obtain⟨r0,r1,r2,r3,r4⟩:=hW;first|(go_simp;done)|(go_simp;with_reducible rfl)))
  refine hd_take (v:=.bool false) rfl rfl (by kernel_rfl) (fun W hW=>by obtain⟨r0,r1,r2,r3,r4⟩:=hW;go_simp) ?_
  iterate 7 (refine hd_take (v:=?_) rfl rfl (by kernel_rfl) (fun W hW=>?_) ?_;rotate_left;(obtain⟨r0,r1,r2,r3,r4⟩:=hW;first|(go_simp;done)|(go_simp;with_reducible rfl)))
  refine hd_take (v:=.bool false) rfl rfl (by kernel_rfl) (fun W hW=>by obtain⟨r0,r1,r2,r3,r4⟩:=hW;go_simp) ?_
  iterate 8 (refine hd_take (v:=?_) rfl rfl (by kernel_rfl) (fun W hW=>?_) ?_;rotate_left;(obtain⟨r0,r1,r2,r3,r4⟩:=hW;first|(go_simp;done)|(go_simp;with_reducible rfl)))
  refine hd_take (v:=.bool false) rfl rfl (by kernel_rfl) (fun W hW=>by obtain⟨r0,r1,r2,r3,r4⟩:=hW;go_simp) ?_
  iterate 8 (refine hd_take (v:=?_) rfl rfl (by kernel_rfl) (fun W hW=>?_) ?_;rotate_left;(obtain⟨r0,r1,r2,r3,r4⟩:=hW;first|(go_simp;done)|(go_simp;with_reducible rfl)))
  refine hd_loud rfl rfl fun K hK=>?_;go_simp;refine(HST.out _).mono ?_;rintro e w2 ⟨rfl,rfl⟩;refine hK _ _ S7.out (hd_end ?_);clear hK;simp only[zqa,zqb,zqc,zqd,Nat.zero_add,Nat.reduceAdd];clear S6 S7 HCRC HSUM HGEN HST;generalize (wx.drewN 1).alloc (.cells #[.slice (some ⟨b,4,none⟩) 60 (cx-4)] 74)=w1 at HMa ⊢;clear HMX HMd;have hf:=HMa.out.hg.frozen 2;have hc3:=HMa.out.hg.cell 2;have HM2:=hid (HMa.out.set HGB.out.1 2 (.int .i64 (run:Int)) _ _ _ rfl)
  go_wp2_with fail
  clear hf hc3 HMa;generalize w1.setCell ⟨g,2,none⟩ (.int .i64 (run:Int))=w2 at HM2 ⊢;have HMd:Hid (MY w U tg g b nb x lb _ _ _ _ _ w2.drew):=hid (HM2.out.drewN 1);have S9:Hid (TkT g b m nb c B w2.drew):=hid ⟨HMd.out.hg.cell 3,(HX.out _ HMd.out.hx).2.1⟩;obtain⟨i0,z0,hi0⟩:=info_cells info5;have HI:=hid hi0;clear hi0
  have z7:(m:Int)<=((cx-16:Nat):Int):=by omega
  refine wp_region_hl [10] [0,1,2,3,4,5,6,7,8,9,10] (TkT g b m nb c B) (by kernel_rfl) (by kernel_rfl) S9.out ?_
  iterate 10 (refine hd_take (v:=?_) rfl rfl (by kernel_rfl) (fun W hW=>?_) ?_;rotate_left;(obtain⟨r0,r1⟩:=hW;first|(go_simp;done)|(go_simp;with_reducible rfl)))
  refine hd_loud rfl rfl fun K hK=>?_;have HAP:=hid (HX.out _ HMd.out.hx).2.2
  first
   | (rw[if_neg h0]at HAP;refine step_append_row2 _ rfl (.tmp 96) (.tmp 101) 74 rfl U tg 5 i0 z0 1 1 (by kernel_rfl) HI.out.1 HI.out.2.1 HI.out.2.2.2.1 HI.out.2.2.2.2 (by rw[HI.out.2.2.1];rfl) (by decide) (.slice B nb c) nb (bv lb) (by go_simp) HMd.out.hr ⟨b,16,none⟩ m (cx-16) (bv ch) (by go_simp) HCH.out.1 HCH.out.2.2 HAP.out (by intro u hu;simp[bv]at hu;obtain⟨x,hx,rfl⟩:=hu;rfl) (by have:=HN.out;omega) (by decide) ?_)
   | (rw[if_pos trivial]at HAP;refine step_append_row2 _ rfl (.tmp 96) (.tmp 101) 74 rfl U tg 5 i0 z0 1 1 (by kernel_rfl) HI.out.1 HI.out.2.1 HI.out.2.2.2.1 HI.out.2.2.2.2 (by rw[HI.out.2.2.1];rfl) (by decide) (.slice B nb c) nb (bv lb) (by go_simp) HMd.out.hr ⟨b,22,none⟩ m (cx-16-6) (bv ch) (by go_simp) HCH.out.1 HCH.out.2.2 HAP.out (by intro u hu;simp[bv]at hu;obtain⟨x,hx,rfl⟩:=hu;rfl) (by have:=HN.out;omega) (by decide) ?_)
  intro bo co w3 hR hC hG;rw[<- bv_app]at hR;have hgr:=HMd.out.hg.grown hG (HMd.out.hr.not HMd.out.hg (.inr (by decide))) tg;have hsx:Sl w3 (some ⟨b,0,none⟩) (bv x):=HMd.out.hx.other hC (fun a ha=>by cases ha;exact⟨Nat.lt_of_lt_of_le HGB.out.2.2 HMd.out.hc.size,HGB.out.2.1⟩);have HF:=hid (And.intro hR (And.intro hgr (HMd.out.hc.trans hC)));refine hK _ _ ⟨hgr.cell 3,(HX.out _ hsx).2.1⟩ (hd_end ?_);clear hK hR hC hG hgr hsx HAP HMd HM2 S9 HI i0 z0;simp only[zqa,zqb,zqc,zqd,Nat.zero_add,Nat.reduceAdd];have hf:=HF.out.2.1.frozen 3;have hc3:=HF.out.2.1.cell 3
  go_wp2
  go_ret;obtain⟨f1,f2,f3⟩:=HF.out
  have hn1:nb+m=(lb++ch).length:=by rw[List.length_append,HLB.out.1,HLB.out.2.1]
  have f4:=f2.set_ 3 (.slice (some ⟨bo,0,none⟩) (nb+m) co);rw[hn1]at f1 f4;rw[hn1]
  exact⟨rfl,_,_,_,by simpa using f4,f1.far_ne (p:=⟨g,3,none⟩) (f1.not f2 (.inr (by decide))) _,f3.setCell (p:=⟨g,3,none⟩) f2.own _⟩)
theorem get170 (w:World)(b o n c:Nat)(l:List Nat)(hl:l.length=n)(hn:n<=8)(hb:∀ x∈l,x<256)(h:Sl w (some ⟨b,o,none⟩) (bv l)) :
 Calls Tryz.prog 170 #[.slice (some ⟨b,o,none⟩) n c] w fun e w'=>e=.returned (.int .u64 (de l:Int))/\w=w':=by
 have HC:Hid (∀ j (hj:j<l.length),w.cell? ⟨b,o+j,none⟩=some (.int .u8 ((l[j]:Nat):Int))/\l[j]<256):=hid fun j hj=>by
  obtain⟨b',o',e,hc⟩:=h (by intro e;have:=congrArg List.length e;simp only[bv,List.length_map,List.length_nil]at this;omega)
  cases e
  subst hl;exact⟨hc j _ (by simp[bv,hj]),hb _ (List.getElem_mem hj)⟩
 have HB:=hid hb
 have k0:(n:Int)<=8:=by omega
 have HL:=hid hl;clear h hb hl;go_enter Tryz.func170,Tryz.ntmps170
 go_wp2
 go_loop [3,8] (fun z i=>∃ k:Nat,k<=n/\i=.int .i64 k/\z=.int .u64 (de (l.take k):Int)) (fun _ i=>n-(intOf i).toNat)
 case atStart=>exact⟨0,Nat.zero_le _,rfl,rfl⟩
 case round=>
  obtain⟨k,hk,rfl,rfl⟩:=hrel;have hll:=HL.out
  by_cases hlt:k<n
  ·have k1:(k:Int)<(n:Int):=by omega
   have k2:(0:Int)<=(k:Int):=by omega
   obtain⟨c0,hx⟩:=HC.out k (by omega);have hd:=de_lt (l.take k) (fun x hx=>HB.out x (List.mem_of_mem_take hx));have hs:=de_take_succ l k (by omega);have hp:256 ^ (l.take k).length<=256 ^ 7:=Nat.pow_le_pow_right (by decide) (by rw[List.length_take];omega);generalize de (l.take k)=z at *;generalize l[k]=x at *;have HS:=hid hs;have HZ:Hid (z<256 ^ 7):=hid (Nat.lt_of_lt_of_le hd hp);clear hd hp hs hll
   go_wp2
   go_round
   case rel=>
    refine⟨k+1,by omega,by go_num,?_⟩;rw[HS.out];have hz:=HZ.out;rw[show((z:Int)*256)=((z*256:Nat):Int) by omega,show IntKind.u64.wrap ((z*256:Nat):Int)=((z*256:Nat):Int) from IntWalk.u64_in _ ⟨by omega,by omega⟩,u64_or_nat _ _ (by omega) (by omega),<- or_byte z x hx,Nat.shiftLeft_eq]
   case measure=>simp[intOf];omega
  ·obtain rfl:k=n:=by omega
   have ht:l.take k=l:=List.take_of_length_le (by omega);rw[ht];clear hll ht
   go_wp2
   go_ret;exact⟨rfl,rfl⟩
theorem get170p (W:World)(b o n c z:Nat)(x:List Nat)(h:Sl W (some ⟨b,0,none⟩) (bv x))(hp:(x.drop o).take n=be n z)(hz:z<256 ^ n)(hn8:n<=8) :
 Calls Tryz.prog 170 #[.slice (some ⟨b,o,none⟩) n c] W fun e w'=>e=.returned (.int .u64 (z:Int))/\W=w':=by
 have h1:=get170 W b o n c ((x.drop o).take n) (by rw[hp,be_len]) hn8 (by rw[hp];exact be_lt n z) (sl_part h o n);rw[hp,de_be' n z hz]at h1;exact h1
theorem text123 (w:World)(s m c:Nat)(A:Option Addr)(l:List Nat)(hc:w.cell? ⟨s,3,none⟩=some (.slice A m c))(hl:l.length=m)(hs:Sl w A (bv l))(hA:A=none->m=0)(hm:m<=1000) :
 Calls Tryz.prog 123 #[ptr s] w fun e w'=>∃ v,e=.returned v/\w'.ownsRow w.heap.size 5 1 v m (bv l)/\Below w.heap.size w w':=by
 have HC:=hid (clone172 w A m c (bv l) (by simp[bv,hl]) hs (by intro u hu;obtain⟨x,_,rfl⟩:=List.mem_map.1 hu;rfl) hA (by omega));clear hl hs hA;go_enter Tryz.func123,Tryz.ntmps123
 go_wp2_with fail
 refine HC.out.mono ?_;rintro e w1 ⟨v,rfl,ho,hb⟩;have H:=hid (And.intro ho hb);clear ho hb HC
 go_wp2
 go_ret;exact⟨v,rfl,H.out⟩
def supSt (N:Nat->Nat)(X:Nat->List Nat):Nat->Nat × Nat × List Nat
 | 0=>(0,0,[])
 | k+1=>if (supSt N X k).1<N k then (N k,k,X k) else supSt N X k
theorem supSt_le (N:Nat->Nat)(X:Nat->List Nat)(hN:∀ k,N k<=1000000)(hX:∀ k,(X k).length<=40)(k:Nat):(supSt N X k).1<=1000000/\(supSt N X k).2.1<=k/\(supSt N X k).2.2.length<=40:=by
 induction k with
 | zero=>exact⟨Nat.zero_le _,Nat.le_refl _,Nat.zero_le _⟩
 | succ k ih=>
  unfold supSt
  split
  ·exact⟨hN k,Nat.le_succ _,hX k⟩
  ·exact⟨ih.1,by omega,ih.2.2⟩
def SoS (s:Nat)(tn:Nat)(xb m:Nat)(W:World):Prop:=W.cell? ⟨s,2,none⟩=some (.int .i64 (tn:Int))/\W.cell? ⟨xb,12,none⟩=some (.int .u8 (m:Int))
theorem open122 (w:World)(U:Own)(t at_ td d n:Nat)(Z:Cont)(F:Nat->Prop)(N:Nat->Nat)(X:Nat->List Nat)(hD:DevAt w U td d n Z F)(ht:t<95)(hn:n<=2048)(hat:at_+1<n)
 (hx:∀ k,k<2->SupOk (Z (at_+k)) (N k) (X k))(hN:∀ k,N k<=1000000)(hX:∀ k,(X k).length<=40)(h1:1<=(supSt N X 2).1) :
 Calls Tryz.prog 122 #[ptr d,.int .i64 (at_:Int)] w fun e w'=>∃ s y v U',e=.returned (.tuple #[ptr s,.int .i64 0])/\y%96=95/\Has w' U' t s 238 #[ptr d,.int .i64 (at_:Int),.int .i64 ((supSt N X 2).1:Int),v,.int .i64 ((supSt N X 2).2.1:Int)]/\Rw w' U' y 5 1 v (supSt N X 2).2.2.length (bv (supSt N X 2).2.2)/\Chg (fun _=>False) w U w' U':=by
 obtain⟨y,hy1,hy2⟩:=fresh95 w U;have HD:=hid hD;have HTH:=hid (there131 w U td d n Z F hD at_ hat hn);have HXX:=hid hx;have HLE:=hid (supSt_le N X hN hX);have HNX:=hid (And.intro hN hX);have HY:=hid (And.intro hy1 ht);have HAT:=hid (And.intro hn hat);have H1:=hid h1;clear hD ht hn hat hx hN hX hy1 hy2 h1;go_enter Tryz.func122,Tryz.ntmps122
 go_wp2_with fail
 refine HTH.out.mono ?_;rintro e w' ⟨rfl,rfl⟩;clear HTH;obtain⟨s,hs⟩:∃ s,s=w'.heap.size:=⟨_,rfl⟩;have hq:Chg (fun _=>False) w' U (w'.alloc (.cells #[ptr d,.int .i64 (at_:Int),.int .i64 0,.slice none 0 0,.int .i64 0] 238)) (ext U w' t):=((Chg.refl _ _ _).alloc _).ext t
 have hk:Has (w'.alloc (.cells #[ptr d,.int .i64 (at_:Int),.int .i64 0,.slice none 0 0,.int .i64 0] 238)) (ext U w' t) t s 238 #[ptr d,.int .i64 (at_:Int),.int .i64 0,.slice none 0 0,.int .i64 0]:=by rw[hs];exact⟨Blk.new _ _ _,ext_new (Nat.le_refl _)⟩
 have HQ:=hid (And.intro hq hk);have HS:=hid hs;have HSZ:Hid (w'.heap.size<=s):=hid (by omega);clear hq hk hs
 go_wp2_with fail
 rw[<- HS.out];clear HS;generalize w'.alloc (.cells #[ptr d,.int .i64 (at_:Int),.int .i64 0,.slice none 0 0,.int .i64 0] 238)=W1 at *;generalize ext U w' t=U1 at *
 go_loopw [23] (fun i wr=>∃ (k:Nat) (Ur:Own) (v:Value),k<=2/\i=.int .i64 (k:Int)/\Has wr Ur t s 238 #[ptr d,.int .i64 (at_:Int),.int .i64 ((supSt N X k).1:Int),v,.int .i64 ((supSt N X k).2.1:Int)]/\Rw wr Ur y 5 1 v (supSt N X k).2.2.length (bv (supSt N X k).2.2)/\Chg (fun _=>False) w' U wr Ur) (fun i _=>2-(intOf i).toNat)
 case atStart=>exact⟨0,U1,.slice none 0 0,by decide,rfl,HQ.out.2,Rw.nil _ _ _ _ _,HQ.out.1⟩
 case round=>
  obtain⟨k,Ur,v,hk,rfl,r1,r2,r3⟩:=hrel
  by_cases hlt:k<2
  ·have hok:=HXX.out k hlt
   have hdv:=HD.out.keep r3 id;obtain⟨hat2,hat3⟩:=HAT.out;have HRD:=hid (read_any wr Ur td d n Z F hdv (at_+k) (by omega));obtain⟨l0,l1,l2⟩:=HLE.out k;obtain⟨tn,htn⟩:∃ tn,tn=(supSt N X k).1:=⟨_,rfl⟩;obtain⟨nn,hnn⟩:∃ nn,nn=N k:=⟨_,rfl⟩;obtain⟨m,hm⟩:∃ m,m=(X k).length:=⟨_,rfl⟩
   have hnn9:nn<=1000000:=by rw[hnn];exact HNX.out.1 k
   have hm40:m<=40:=by rw[hm];exact HNX.out.2 k
   rw[<- htn]at r1 l0;obtain⟨x,hx⟩:∃ x,x=Z (at_+k):=⟨_,rfl⟩;rw[<- hx]at HRD hok;rw[<- hnn]at hok
   have k1:(k:Int)<2:=by omega
   have k2:(0:Int)<=(k:Int):=by omega
   have k3:(0:Int)<=(at_:Int)+(k:Int):=by omega
   have k4:(at_:Int)+(k:Int)<=4096:=by omega
   have HK:Hid ((at_:Int)+(k:Int)=((at_+k:Nat):Int)):=hid (by omega);have HR:=hid (And.intro r1 (And.intro r2 r3));have HOK:=hid (And.intro hok hm);have HTN:=hid (And.intro htn hnn);have HB:=hid (And.intro l0 (And.intro l1 l2));clear r1 r2 r3 hok hdv hat2 hat3 htn hnn hm l0 l1 l2 hx HXX
   go_wp2_with fail
   rw[HK.out];refine HRD.out.mono ?_;rintro e wb ⟨vx,rfl,ho,hb⟩;obtain⟨xb,cx,rfl,hge,hxl⟩:=ho.form (by decide);obtain⟨A',cc',ee',hcx,-⟩:=(Rw.of_new ho (Nat.le_refl _) Ur y).slice
   cases ee'
   have hsl:Sl wb (some ⟨xb,0,none⟩) (bv x):=Sl.of_cells (ho.cells (g:=xb) rfl);have hcb:Chg (fun _=>False) wr Ur wb (ext Ur wr y):=Chg.of_below hb y;have HXB:=hid (And.intro hsl (And.intro hxl (And.intro hge (And.intro hcb (ext_new (U:=Ur) (t:=y) hge)))));generalize ext Ur wr y=Ub at *
   have z64:(64:Int)<=(cx:Int):=by omega
   have n4:cx≠4:=by omega
   have n13:cx≠13:=by omega
   have z13:(13:Int)+(m:Int)<=(cx:Int):=by omega
   have z12:(12:Int)<=(cx:Int):=by omega
   have z4:(4:Int)<=(cx:Int):=by omega
   have m0:(0:Int)<=(m:Int):=by omega
   have m40:(m:Int)<=40:=by omega
   have HNUM:Hid (∀ W,Sl W (some ⟨xb,0,none⟩) (bv x)->Calls Tryz.prog 170 #[.slice (some ⟨xb,4,none⟩) 8 (cx-4)] W fun e w'=>e=.returned (.int .u64 (nn:Int))/\W=w'):=hid fun W h=>get170p W xb 4 8 (cx-4) nn x h HOK.out.1.num (by omega) (by decide);obtain⟨Y,hY⟩:∃ Y,Y=Plain.crc (x.drop 4):=⟨_,rfl⟩
   have hY4:Y<4294967296:=by rw[hY];unfold Plain.crc;omega
   have HSUM:Hid (∀ W,Sl W (some ⟨xb,0,none⟩) (bv x)->Calls Tryz.prog 170 #[.slice (some ⟨xb,0,none⟩) 4 cx] W fun e w'=>e=.returned (.int .u64 (Y:Int))/\W=w'):=hid fun W h=>get170p W xb 0 4 cx Y x h (by rw[List.drop_zero,HOK.out.1.sum,hY]) (by omega) (by decide)
   have HCRC:Hid (∀ W,Sl W (some ⟨xb,0,none⟩) (bv x)->Calls Tryz.prog 171 #[.slice (some ⟨W.heap.size,0,none⟩) 1 1] (W.alloc (.cells #[.slice (some ⟨xb,4,none⟩) 60 (cx-4)] 74)) fun e w'=>e=.returned (.int .u32 (Y:Int))/\W.alloc (.cells #[.slice (some ⟨xb,4,none⟩) 60 (cx-4)] 74)=w'):=hid fun W h=>by
    have hpt:=sl_part h 4 60
    have h60:(x.drop 4).length=60:=by rw[List.length_drop,HOK.out.1.len]
    rw[List.take_of_length_le (by omega)]at hpt;refine(sum_any (some ⟨W.heap.size,0,none⟩) 1 1 [⟨some ⟨xb,4,none⟩,cx-4,x.drop 4⟩] _ ?_ rfl (by decide) ?_).mono ?_
    ·simp only[List.map_cons,List.map_nil,Part.val,h60];exact(Blk.new W 74 #[.slice (some ⟨xb,4,none⟩) 60 (cx-4)]).sl
    ·intro p hp;rw[List.mem_singleton.1 hp];exact⟨hpt.keep ((Below.refl _ _).alloc (Nat.le_refl _) _),by rw[h60];decide,fun y hy=>HOK.out.1.lt y (List.mem_of_mem_drop hy)⟩
    ·rintro e w1 ⟨rfl,rfl⟩
     exact⟨by rw[hY];simp[List.flatMap],rfl⟩
   have e1:IntKind.i64.wrap (nn:Int)=(nn:Int):=IntWalk.i64_in _ ⟨by omega,by omega⟩;have e4:IntKind.u64.wrap (Y:Int)=(Y:Int):=IntWalk.u64_in _ ⟨by omega,by omega⟩;have em:IntKind.i64.wrap (m:Int)=(m:Int):=IntWalk.i64_in _ ⟨by omega,by omega⟩;clear ho hb hcx hge hsl hcb hxl hY hY4 HRD
   go_wp2_with fail
   refine(HNUM.out _ HXB.out.1).mono ?_;rintro e w2 ⟨rfl,rfl⟩;clear HNUM
   go_wp2_with fail
   have HS0:Hid (SoS s tn xb m wb.drew):=hid ⟨(HR.out.1.keep (HXB.out.2.2.2.1.drewN 1) id).cell 2,sl_cell HXB.out.1 12 m (by rw[HOK.out.2];exact HOK.out.1.size)⟩;have HS1:Hid (SoS s tn xb m (wb.drew.alloc (.cells #[.slice (some ⟨xb,4,none⟩) 60 (cx-4)] 74))):=hid ⟨(HR.out.1.keep ((HXB.out.2.2.2.1.drewN 1).alloc _) id).cell 2,sl_cell (HXB.out.1.keep ((Below.refl _ _).drew.alloc (Nat.le_refl _) _)) 12 m (by rw[HOK.out.2];exact HOK.out.1.size)⟩;refine wp_region_hl [2,3,7] [0,1,5,6,2,3,4,7,8,9,10,11,12,13,14] (SoS s tn xb m) (by kernel_rfl) (by kernel_rfl) HS0.out ?_
   iterate 4 (refine hd_take (v:=?_) rfl rfl (by kernel_rfl) (fun W hW=>?_) ?_;rotate_left;(obtain⟨r0,r1⟩:=hW;first|(go_simp;done)|(go_simp;with_reducible rfl)))
   refine hd_loud rfl rfl fun K hK=>?_;go_simp;refine hK _ _ HS1.out ?_;clear hK;refine hd_loud rfl rfl fun K hK=>?_;go_simp;refine(HCRC.out wb.drew (HXB.out.1.keep (Below.refl _ _).drew)).mono ?_;rintro e w3 ⟨rfl,rfl⟩;refine hK _ _ HS1.out ?_;clear hK
   iterate 1 (refine hd_take (v:=?_) rfl rfl (by kernel_rfl) (fun W hW=>?_) ?_;rotate_left;(obtain⟨r0,r1⟩:=hW;first|(go_simp;done)|(go_simp;with_reducible rfl)))
   refine hd_loud rfl rfl fun K hK=>?_;go_simp;refine(HSUM.out _ (HXB.out.1.keep ((Below.refl _ _).drew.alloc (Nat.le_refl _) _))).mono ?_;rintro e w3 ⟨rfl,rfl⟩;refine hK _ _ HS1.out ?_;clear hK
   iterate 1 (refine hd_take (v:=?_) rfl rfl (by kernel_rfl) (fun W hW=>?_) ?_;rotate_left;(obtain⟨r0,r1⟩:=hW;first|(go_simp;done)|(go_simp;with_reducible rfl)))
   refine hd_take (v:=.bool true) rfl rfl (by kernel_rfl) (fun W hW=>by obtain⟨r0,r1⟩:=hW;go_simp) ?_
   iterate 5 (refine hd_take (v:=?_) rfl rfl (by kernel_rfl) (fun W hW=>?_) ?_;rotate_left;(obtain⟨r0,r1⟩:=hW;first|(go_simp;done)|(go_simp;with_reducible rfl)))
   refine hd_end ?_;simp only[zqa,zqb,zqc,zqd,Nat.zero_add,Nat.reduceAdd];have HC2:Hid (Chg (fun _=>False) wr Ur (wb.drew.alloc (.cells #[.slice (some ⟨xb,4,none⟩) 60 (cx-4)] 74)) Ub):=hid ((HXB.out.2.2.2.1.drewN 1).alloc _);have HX2:Hid (Sl (wb.drew.alloc (.cells #[.slice (some ⟨xb,4,none⟩) 60 (cx-4)] 74)) (some ⟨xb,0,none⟩) (bv x)):=hid (HXB.out.1.keep ((Below.refl _ _).drew.alloc (Nat.le_refl _) _));generalize wb.drew.alloc (.cells #[.slice (some ⟨xb,4,none⟩) 60 (cx-4)] 74)=W2 at *;have c12:=HS1.out.2;clear HSUM HCRC HS0
   have hcase:(tn<nn)\/¬ (tn<nn):=Nat.lt_or_ge tn nn |>.imp id Nat.not_lt.2
   rcases hcase with hcs|hcs
   ·have d1:decide ((tn:Int)<(nn:Int))=true:=decide_eq_true (by omega)
    have d1':(tn:Int)<(nn:Int):=by omega
    have hst:supSt N X (k+1)=(nn,k,X k):=by show(if (supSt N X k).1<N k then _ else _)=_;rw[<- HTN.out.1,<- HTN.out.2,if_pos hcs]
    have HST:=hid hst;clear hst;have HTX:Hid (Sl W2 (some ⟨xb,13,none⟩) (bv (X k))):=hid (by have:=sl_part HX2.out 13 m;rw[HOK.out.2,HOK.out.1.text]at this;exact this);have HCL:=hid (clone172 W2 (some ⟨xb,13,none⟩) m (cx-13) (bv (X k)) (by simp[bv,HOK.out.2]) HTX.out (by intro u hu;obtain⟨x,_,rfl⟩:=List.mem_map.1 hu;rfl) (fun e=>by cases e) (by omega))
    go_wp2_with fail
    refine HCL.out.mono ?_;rintro e w5 ⟨v5,rfl,ho5,hb5⟩;obtain⟨A5,c5,rfl,-⟩:=Sl.of_own ho5;have hc5:Chg (fun _=>False) W2 Ub w5 (ext Ub W2 y):=Chg.of_below hb5 y;have hr5:Rw w5 (ext Ub W2 y) y 5 1 (.slice A5 m c5) m (bv (X k)):=Rw.of_new ho5 (Nat.le_refl _) _ _;have hk5:=(HR.out.1.keep HC2.out id).keep hc5 id;have g2:=hk5.frozen 2;have g3:=hk5.frozen 3;have g4:=hk5.frozen 4;have u2:=hk5.cell 2;have u3:=hk5.cell 3;have u4':=hk5.cell 4;have HK5:=hid (And.intro hk5 (And.intro hr5 ((HR.out.2.2.trans HC2.out).trans hc5)));clear ho5 hb5 hc5 hr5 hk5 HCL HTX HX2 c12 HS1;generalize ext Ub W2 y=U5 at HK5
    go_wp2_with fail
    have HF5:Hid (∀ W,W=((w5.setCell ⟨s,2,none⟩ (.int .i64 (nn:Int))).setCell ⟨s,4,none⟩ (.int .i64 (k:Int))).setCell ⟨s,3,none⟩ (.slice A5 m c5)->Has W U5 t s 238 #[ptr d,.int .i64 (at_:Int),.int .i64 (nn:Int),.slice A5 m c5,.int .i64 (k:Int)]/\Rw W U5 y 5 1 (.slice A5 m c5) m (bv (X k))/\Chg (fun _=>False) w' U W U5):=hid fun W hW=>by
     obtain⟨k1,k2,k3⟩:=HK5.out;subst hW;refine⟨?_,?_,((k3.setNew (p:=⟨s,2,none⟩) HSZ.out _).setNew (p:=⟨s,4,none⟩) HSZ.out _).setNew (p:=⟨s,3,none⟩) HSZ.out _⟩
     ·have:=((k1.set_ 2 (.int .i64 (nn:Int))).set_ 4 (.int .i64 (k:Int))).set_ 3 (.slice A5 m c5)
      simpa using this
     ·have hne:∀ i,(⟨s,i,none⟩:Addr).block=s:=fun _=>rfl
      exact((k2.far_ne (p:=⟨s,2,none⟩) (k2.not k1 (.inr (by decide))) _).far_ne (p:=⟨s,4,none⟩) (k2.not k1 (.inr (by decide))) _).far_ne (p:=⟨s,3,none⟩) (k2.not k1 (.inr (by decide))) _
    clear g2 g3 g4 u2 u3 u4'
    go_roundw
    case rel=>
     refine⟨k+1,U5,.slice A5 m c5,by omega,by go_num,?_⟩;rw[HST.out];dsimp only;rw[<- HOK.out.2];exact HF5.out _ rfl
    case measure=>simp[intOf];omega
   ·have d1:decide ((tn:Int)<(nn:Int))=false:=decide_eq_false (by omega)
    have d1':¬ (tn:Int)<(nn:Int):=by omega
    have hst:supSt N X (k+1)=supSt N X k:=by show(if (supSt N X k).1<N k then _ else _)=_;rw[<- HTN.out.1,<- HTN.out.2,if_neg hcs]
    have HST:=hid hst;clear hst
    go_wp2_with fail
    go_roundw
    case rel=>
     refine⟨k+1,Ub,v,by omega,by go_num,?_⟩;rw[HST.out,<- HTN.out.1];exact⟨HR.out.1.keep HC2.out id,HR.out.2.1.keep HC2.out id,HR.out.2.2.trans HC2.out⟩
    case measure=>simp[intOf];omega
  ·obtain rfl:k=2:=by omega
   have q1:=H1.out;have HRR:=hid (And.intro r1 (And.intro r2 r3));obtain⟨tn,htn⟩:∃ tn,tn=(supSt N X 2).1:=⟨_,rfl⟩;have u2:=r1.cell 2;rw[<- htn]at q1;simp only[List.getElem?_toArray,<- htn]at u2
   have d1:((tn:Int) == 0)=false:=by rw[beq_eq_false_iff_ne];omega
   have d2:¬ (tn:Int)=0:=by omega
   clear r1 r2 r3 htn
   go_wp2_with fail
   go_ret2
   exact⟨s,y,v,Ur,rfl,HY.out.1,HRR.out⟩
end Go.Proofs.Ytlhekbjidppijaa
