/- Contracts of what TopFall reaches: what each function returns and leaves in memory. Conditions: as named. -/
import Derived.Handy
import Derived.Test.YtlhekbjidppijaaGreatMAE
set_option linter.unusedVariables false
set_option linter.unusedSimpArgs false
set_option maxRecDepth 20000
set_option maxHeartbeats 8000000
namespace Go.Proofs.Ytlhekbjidppijaa
open Lib (hid)
open Go.RowKit
theorem ret_u64 {a b:Int}(h:a=b):Ending.returned (.int .u64 a)=.returned (.int .u64 b):=by rw[h]
theorem stir_spell (x:Nat)(hx:x<18446744073709551616) :
 bits .xor .u64 (IntKind.u64.wrap (bits .xor .u64 (IntKind.u64.wrap (bits .xor .u64 (x:Int) ((x:Int) / 1073741824)*13787848793156543929))
  (IntKind.u64.wrap (bits .xor .u64 (x:Int) ((x:Int) / 1073741824)*13787848793156543929) / 134217728)*10723151780598845931))
  (IntKind.u64.wrap (bits .xor .u64 (IntKind.u64.wrap (bits .xor .u64 (x:Int) ((x:Int) / 1073741824)*13787848793156543929))
  (IntKind.u64.wrap (bits .xor .u64 (x:Int) ((x:Int) / 1073741824)*13787848793156543929) / 134217728)*10723151780598845931) / 2147483648)=(Plain.stir x:Int):=by
 have e1:=mixStep_u64 x 1073741824 13787848793156543929 hx;have e2:=mixStep_u64 ((x ^^^ x / 1073741824)*13787848793156543929%18446744073709551616) 134217728 10723151780598845931 (Nat.mod_lt _ (by decide));have e3:=xorShift_u64 (((x ^^^ x / 1073741824)*13787848793156543929%18446744073709551616 ^^^ (x ^^^ x / 1073741824)*13787848793156543929%18446744073709551616 / 134217728)*10723151780598845931%18446744073709551616) 2147483648 (Nat.mod_lt _ (by decide));rw[<- e2,<- e1]at e3;unfold Plain.stir;exact e3
theorem stir_any (x:Nat)(hx:x<18446744073709551616)(w:World) :
 Calls Tryz.prog 62 #[.int .u64 x] w fun e w'=>e=.returned (.int .u64 (Plain.stir x))/\w=w':=by
 have H:=hid (stir_spell x hx);go_enter Tryz.func62,Tryz.ntmps62
 go_wp2
 go_ret;exact⟨ret_u64 H.out,rfl⟩
def pt (n i:Int):Nat:=(IntKind.u64.wrap (wrap64 (wrap64 (n*1000003)+i))).toNat
theorem pt_eq (n i:Int):IntKind.u64.wrap (wrap64 (wrap64 (n*1000003)+i))=(pt n i:Int):=by
 unfold pt;rw[IntKind.wrap_u64];omega
theorem pt_lt (n i:Int):pt n i<18446744073709551616:=by
 unfold pt;rw[IntKind.wrap_u64];omega
theorem point_any (n i:Int)(w:World) :
 Calls Tryz.prog 263 #[.int .i64 n,.int .i64 i] w fun e w'=>e=.returned (.int .u64 (Plain.stir (pt n i)))/\w=w':=by
 go_enter Tryz.func263,Tryz.ntmps263
 go_wp2_with fail
 rw[pt_eq];refine(stir_any _ (pt_lt n i) _).mono ?_;rintro e w' ⟨rfl,rfl⟩
 go_wp2
 go_ret;exact⟨rfl,rfl⟩
def nb (s:ByteArray):List Nat:=s.data.toList.map UInt8.toNat
theorem nb_length (s:ByteArray):(nb s).length=s.size:=by simp[nb]
theorem nb_take (s:ByteArray)(k:Nat)(h:k<s.size):(nb s).take (k+1)=(nb s).take k++[(s[k]).toNat]:=by
 rw[List.take_succ_eq_append_getElem (by rw[nb_length];exact h)];simp[nb];rfl
theorem foldl_take_succ {α β : Type}(f : β -> α -> β)(b : β)(l:List α)(k:Nat)(h:k<l.length):(l.take (k+1)).foldl f b=f ((l.take k).foldl f b) l[k]:=by
 rw[List.take_succ_eq_append_getElem h,List.foldl_append,List.foldl_cons,List.foldl_nil]
def mixTo (ss:List ByteArray)(k:Nat):Nat:=((ss.map nb).take k).foldl Plain.mtext 11400714819323198485
def byteTo (h:Nat)(s:ByteArray)(k:Nat):Nat:=((nb s).take k).foldl Plain.mbyte h
theorem mtext_eq (h:Nat)(l:List Nat):Plain.mtext h l=Plain.mend (l.foldl Plain.mbyte h) l.length:=by
 unfold Plain.mtext;rfl
theorem mtext_lt (h:Nat)(l:List Nat):Plain.mtext h l<18446744073709551616:=by
 rw[mtext_eq];exact Plain.mend_lt _ _
theorem mixTo_succ (ss:List ByteArray)(k:Nat)(h:k<ss.length):mixTo ss (k+1)=Plain.mend (byteTo (mixTo ss k) ss[k] ss[k].size) ss[k].size:=by
 unfold mixTo byteTo;rw[foldl_take_succ _ _ _ _ (by simpa using h),List.getElem_map,mtext_eq,nb_length,List.take_of_length_le (l:=nb ss[k]) (by rw[nb_length];omega)]
theorem mixTo_lt (ss:List ByteArray)(k:Nat):mixTo ss k<18446744073709551616:=by
 unfold mixTo;generalize hl:(ss.map nb).take k=l;clear hl
 have:∀ (l:List (List Nat)) (s:Nat),s<18446744073709551616->l.foldl Plain.mtext s<18446744073709551616:=by
  intro l
  induction l with
  | nil=>exact fun _ h=>h
  | cons x l ih=>exact fun s _=>ih _ (mtext_lt _ _)
 exact this _ _ (by decide)
theorem byteTo_lt (h:Nat)(s:ByteArray)(j:Nat)(hh:h<18446744073709551616):byteTo h s j<18446744073709551616:=Plain.bytes_lt _ _ hh
theorem byteTo_succ (h:Nat)(s:ByteArray)(j:Nat)(hj:j<s.size):byteTo h s (j+1)=Plain.mbyte (byteTo h s j) (s[j]).toNat:=by
 unfold byteTo;rw[nb_take s j hj,List.foldl_append,List.foldl_cons,List.foldl_nil]
theorem xor_byte (h c:Nat)(hh:h<18446744073709551616)(hc:c<256):bits .xor .u64 (h:Int) (c:Int)=((h ^^^ c:Nat):Int):=bits_xor_u64_nat h c hh (by omega)
theorem wrap_byte (c:UInt8):IntKind.u64.wrap (c.toNat:Int)=(c.toNat:Int):=by
 have:=c.toNat_lt;rw[IntKind.wrap_u64];omega
theorem xor_end (h n:Nat)(hh:h<18446744073709551616)(hn:n<=9223372036854775807):bits .xor .u64 (h:Int) (256+(n:Int))=((h ^^^ (256+n):Nat):Int):=by
 have:=bits_xor_u64_nat h (256+n) hh (by omega);rw[<- this];congr 1
theorem byte_spell (h c:Nat):IntKind.u64.wrap ((Plain.stir (h ^^^ c):Int)+1)=(Plain.mbyte h c:Int):=by
 unfold Plain.mbyte;generalize Plain.stir (h ^^^ c)=x;rw[IntKind.wrap_u64];omega
theorem end_spell (h n:Nat):Plain.stir (h ^^^ (256+n))=Plain.mend h n:=by
 unfold Plain.mend;rfl
theorem of_any (A:Option Addr)(n c:Nat)(ss:List ByteArray)(w:World)(hr:Sl w A (ss.map .string))(hn:ss.length=n)(hm:n<=9223372036854775807)(hz:∀ s∈ss,s.size<=9223372036854775807) :
 Calls Tryz.prog 51 #[.slice A n c] w fun e w'=>e=.returned (.int .u64 (Plain.mix (ss.map nb)))/\w=w':=by
 have HN:=hid hn;clear hn;go_enter Tryz.func51,Tryz.ntmps51
 go_wp2
 go_loop [3,9] (fun h i=>∃ k:Nat,k<=n/\i=.int .i64 k/\h=.int .u64 (mixTo ss k)) (fun _ i=>n-(intOf i).toNat)
 case atStart=>exact⟨0,Nat.zero_le _,rfl,rfl⟩
 case round=>
  obtain⟨k,hk,rfl,rfl⟩:=hrel
  by_cases hlt:k<n
  ·have hlt':k<ss.length:=by rw[HN.out];exact hlt
   obtain⟨b,off,rfl,hc⟩:=hr.at_ k (by rw[List.length_map];exact hlt');rw[List.getElem_map]at hc;have hs:=hz _ (List.getElem_mem hlt');have HM:=hid (mixTo_succ ss k hlt');have hL:=mixTo_lt ss k;generalize ss[k]=s at hc hs HM;generalize mixTo ss k=H at HM hL
   go_wp2
   go_loop [3,15] (fun h i=>∃ j:Nat,j<=s.size/\i=.int .i64 j/\h=.int .u64 (byteTo H s j)) (fun _ i=>s.size-(intOf i).toNat)
   case atStart=>exact⟨0,Nat.zero_le _,rfl,rfl⟩
   case round=>
    obtain⟨j,hj,rfl,rfl⟩:=hrel;have hJ:=byteTo_lt H s j hL
    by_cases hjl:j<s.size
    ·have HS:=hid (byteTo_succ H s j hjl)
     go_wp2_with fail
     rw[wrap_byte,xor_byte _ _ hJ (UInt8.toNat_lt _)];refine(stir_any _ (Nat.xor_lt_two_pow (n:=64) hJ (by have:=(s[j]).toNat_lt;omega)) _).mono ?_;rintro e w' ⟨rfl,rfl⟩
     go_wp2
     go_round
     case rel=>exact⟨j+1,by omega,by go_num,by rw[HS.out,byte_spell]⟩
     case measure=>simp[intOf];omega
    ·go_wp2_with fail
     have e:j=s.size:=by omega
     subst e;rw[xor_end _ _ hJ hs];refine(stir_any _ (Nat.xor_lt_two_pow (n:=64) hJ (by omega)) _).mono ?_;rintro e w' ⟨rfl,rfl⟩
     go_wp2
     go_round
     case rel=>exact⟨k+1,by omega,by go_num,by rw[HM.out,end_spell]⟩
     case measure=>simp[intOf];omega
  ·go_wp2
   go_ret
   have e:k=n:=by omega
   subst e;exact⟨ret_u64 (by unfold mixTo Plain.mix;rw[List.take_of_length_le (by rw[List.length_map,HN.out];omega)]),rfl⟩
end Go.Proofs.Ytlhekbjidppijaa
