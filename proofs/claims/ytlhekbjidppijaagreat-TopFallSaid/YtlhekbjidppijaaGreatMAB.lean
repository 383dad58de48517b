/- Contracts of what TopFall reaches: what each function returns and leaves in memory. Conditions: as named. -/
import Derived.Test.YtlhekbjidppijaaGreatMAA
set_option linter.unusedVariables false
set_option linter.unusedSimpArgs false
set_option maxRecDepth 20000
set_option maxHeartbeats 8000000
namespace Go.Proofs.Ytlhekbjidppijaa
def lay (l:List Nat)(o:Nat)(m:List Nat):List Nat:=l.take o++m++l.drop (o+m.length)
theorem lay_len {l m:List Nat}{o:Nat}(h:o+m.length<=l.length):(lay l o m).length=l.length:=by
 unfold lay;simp only[List.length_append,List.length_take,List.length_drop];omega
theorem lay_get {l m:List Nat}{o:Nat}(h:o+m.length<=l.length)(k:Nat):(lay l o m)[k]? = if k<o then l[k]? else if k<o+m.length then m[k-o]? else l[k]?:=by
 unfold lay
 have hl:(l.take o).length=o:=by simp only[List.length_take];omega
 by_cases h1:k<o
 ·rw[if_pos h1,List.append_assoc,List.getElem?_append_left (by omega),List.getElem?_take_of_lt h1]
 ·rw[if_neg h1,List.append_assoc,List.getElem?_append_right (by omega),hl]
  by_cases h2:k<o+m.length
  ·rw[if_pos h2,List.getElem?_append_left (by omega)]
  ·rw[if_neg h2,List.getElem?_append_right (by omega),List.getElem?_drop]
   congr 1
   omega
theorem lay_lt {l m:List Nat}{o:Nat}(h1:∀ x∈l,x<256)(h2:∀ x∈m,x<256):∀ x∈lay l o m,x<256:=by
 intro x hx;unfold lay at hx
 rcases List.mem_append.1 hx with hx|hx
 ·rcases List.mem_append.1 hx with hx|hx
  ·exact h1 x (List.mem_of_mem_take hx)
  ·exact h2 x hx
 ·exact h1 x (List.mem_of_mem_drop hx)
def be:Nat->Nat->List Nat
 | 0,_=>[]
 | n+1,z=>z / 256 ^ n%256 :: be n z
theorem be_len (n z:Nat):(be n z).length=n:=by
 induction n with
 | zero=>rfl
 | succ n ih=>simp[be,ih]
theorem be_lt (n z:Nat):∀ x∈be n z,x<256:=by
 induction n with
 | zero=>intro x hx;cases hx
 | succ n ih=>
  intro x hx
  rcases List.mem_cons.1 hx with rfl|hx
  ·exact Nat.mod_lt _ (by decide)
  ·exact ih x hx
def de (l:List Nat):Nat:=l.foldl (fun a x=>a*256+x) 0
theorem de_snoc (l:List Nat)(x:Nat):de (l++[x])=de l*256+x:=by simp[de]
theorem de_cons (x:Nat)(l:List Nat):de (x :: l)=x*256 ^ l.length+de l:=by
 have key:∀ (l:List Nat) (a:Nat),l.foldl (fun a x=>a*256+x) a=a*256 ^ l.length+de l:=by
  intro l
  induction l with
  | nil=>intro a;simp[de]
  | cons y l ih=>
   intro a;have h1:=ih (a*256+y);have h2:=ih (0*256+y);simp only[List.foldl_cons,List.length_cons,de]at h1 h2 ⊢;rw[h1,h2,Nat.pow_succ];simp only[Nat.zero_mul,Nat.zero_add,Nat.add_mul];rw[Nat.mul_assoc,Nat.mul_comm 256,Nat.add_assoc]
 have:=key l (0*256+x);simp only[Nat.zero_mul,Nat.zero_add]at this;unfold de at this ⊢;simp only[List.foldl_cons,Nat.zero_mul,Nat.zero_add];exact this
theorem de_lt (l:List Nat)(h:∀ x∈l,x<256):de l<256 ^ l.length:=by
 induction l with
 | nil=>decide
 | cons x l ih=>
  rw[de_cons,List.length_cons,Nat.pow_succ];have h1:=ih fun y hy=>h y (by simp[hy]);have h2:=h x (by simp);have h3:(x+1)*256 ^ l.length<=256*256 ^ l.length:=Nat.mul_le_mul_right _ (by omega);rw[Nat.add_mul,Nat.one_mul]at h3;rw[Nat.mul_comm (256 ^ l.length)];omega
theorem de_be (n z:Nat):de (be n z)=z%256 ^ n:=by
 induction n with
 | zero=>simp[be,de,Nat.mod_one]
 | succ n ih=>
  rw[be,de_cons,be_len,ih,Nat.pow_succ,Nat.mod_mul,Nat.mul_comm];omega
theorem de_be' (n z:Nat)(h:z<256 ^ n):de (be n z)=z:=by rw[de_be,Nat.mod_eq_of_lt h]
theorem lay_be_step (l:List Nat)(o n k z:Nat)(hk:k<n)(hn:o+n<=l.length) :
 lay l (o+n-(k+1)) (be (k+1) z)=(lay l (o+n-k) (be k z)).set (o+n-(k+1)) (z / 256 ^ k%256):=by
 have h1:o+n-(k+1)+(be (k+1) z).length<=l.length:=by rw[be_len];omega
 have h2:o+n-k+(be k z).length<=l.length:=by rw[be_len];omega
 apply List.ext_getElem?;intro j;rw[lay_get h1,List.getElem?_set,lay_len h2,lay_get h2,be_len,be_len]
 by_cases hj:j<o+n-(k+1)
 ·have a1:¬ o+n-(k+1)=j:=by omega
  have a2:j<o+n-k:=by omega
  rw[if_pos hj,if_neg a1,if_pos a2]
 ·by_cases he:o+n-(k+1)=j
  ·subst he
   have a1:o+n-(k+1)<o+n-(k+1)+(k+1):=by omega
   have a2:o+n-(k+1)<l.length:=by omega
   rw[if_neg hj,if_pos a1,if_pos rfl,if_pos a2,Nat.sub_self];rfl
  ·have a1:¬ j<o+n-k:=by omega
   rw[if_neg hj,if_neg he,if_neg a1]
   by_cases h3:j<o+n
   ·have a2:j<o+n-(k+1)+(k+1):=by omega
    have a3:j<o+n-k+k:=by omega
    rw[if_pos a2,if_pos a3,show j-(o+n-(k+1))=(j-(o+n-k))+1 by omega];rfl
   ·have a2:¬ j<o+n-(k+1)+(k+1):=by omega
    have a3:¬ j<o+n-k+k:=by omega
    rw[if_neg a2,if_neg a3]
theorem lay_nil (l:List Nat)(o:Nat):lay l o []=l:=by simp[lay]
def chunk (i:Nat)(lb:List Nat):List Nat:=(lb.drop (48*i-6)).take (if i=0 then 42 else 48)
theorem chunk_len (i:Nat)(lb:List Nat):(chunk i lb).length=min (if i=0 then 42 else 48) (lb.length-(48*i-6)):=by simp[chunk]
def secC (k base run i:Nat)(lb:List Nat):List Nat:=
 let a:=(lay (lay (List.replicate 64 0) 4 (be 6 (k+1))) 10 (be 4 run)).set 14 i
 let b:=if i=0 then lay a 16 (be 6 base) else a
 (lay b (if i=0 then 22 else 16) (chunk i lb)).set 15 (chunk i lb).length
def secB (k base run i:Nat)(lb:List Nat):List Nat:=lay (secC k base run i lb) 0 (be 4 (Plain.crc ((secC k base run i lb).drop 4)))
structure SecOk (x:List Nat)(k base run i:Nat)(ch:List Nat):Prop where
 len:x.length=64
 lt:∀ y∈x,y<256
 sum:x.take 4=be 4 (Plain.crc (x.drop 4))
 gen:(x.drop 4).take 6=be 6 (k+1)
 run:(x.drop 10).take 4=be 4 run
 place:x[14]? = some i
 used:x[15]? = some ch.length
 base:i=0->(x.drop 16).take 6=be 6 base
 data:(x.drop (if i=0 then 22 else 16)).take ch.length=ch
theorem part_eq {l m:List Nat}(o n:Nat)(hm:m.length=n)(h:∀ j,j<n->l[o+j]? = m[j]?):(l.drop o).take n=m:=by
 apply List.ext_getElem?;intro j
 by_cases hj:j<n
 ·rw[List.getElem?_take_of_lt hj,List.getElem?_drop,h j hj]
 ·rw[List.getElem?_eq_none (by simp;omega),List.getElem?_eq_none (by omega)]
theorem sec_ok (k base run i:Nat)(lb:List Nat)(hi:i<8)(hlb:∀ x∈lb,x<256):SecOk (secB k base run i lb) k base run i (chunk i lb):=by
 have hcl:(chunk i lb).length<=if i=0 then 42 else 48:=by rw[chunk_len];omega
 have hcb:∀ x∈chunk i lb,x<256:=fun x hx=>hlb x (List.mem_of_mem_drop (List.mem_of_mem_take hx));obtain⟨a,ha⟩:∃ a,a=(lay (lay (List.replicate 64 0) 4 (be 6 (k+1))) 10 (be 4 run)).set 14 i:=⟨_,rfl⟩;have z0:(List.replicate 64 0:List Nat).length=64:=List.length_replicate
 have l1:(lay (List.replicate 64 0) 4 (be 6 (k+1))).length=64:=by rw[lay_len (by rw[be_len,z0];decide),z0]
 have l2:(lay (lay (List.replicate 64 0) 4 (be 6 (k+1))) 10 (be 4 run)).length=64:=by rw[lay_len (by rw[be_len,l1];decide),l1]
 have la:a.length=64:=by rw[ha,List.length_set,l2]
 have ab:∀ x∈a,x<256:=by
  intro x hx;rw[ha]at hx
  rcases List.mem_or_eq_of_mem_set hx with hx|rfl
  ·exact lay_lt (lay_lt (fun x hx=>by rw[List.eq_of_mem_replicate hx];decide) (be_lt _ _)) (be_lt _ _) x hx
  ·omega
 obtain⟨b,hb⟩:∃ b,b=if i=0 then lay a 16 (be 6 base) else a:=⟨_,rfl⟩
 have lbn:b.length=64:=by
  rw[hb];split
  ·rw[lay_len (by rw[be_len,la];decide),la]
  ·exact la
 have bb:∀ x∈b,x<256:=by
  rw[hb];split
  ·exact lay_lt ab (be_lt _ _)
  ·exact ab
 have hfit:(if i=0 then 22 else 16)+(chunk i lb).length<=b.length:=by rw[lbn];split <;> split at hcl <;> omega
 obtain⟨c,hc⟩:∃ c,c=(lay b (if i=0 then 22 else 16) (chunk i lb)).set 15 (chunk i lb).length:=⟨_,rfl⟩
 have lc:c.length=64:=by rw[hc,List.length_set,lay_len hfit,lbn]
 have cb:∀ x∈c,x<256:=by
  intro x hx;rw[hc]at hx
  rcases List.mem_or_eq_of_mem_set hx with hx|rfl
  ·exact lay_lt bb hcb x hx
  ·split at hcl <;> omega
 have hsec:secB k base run i lb=lay c 0 (be 4 (Plain.crc (c.drop 4))):=by rw[hc,hb,ha];rfl
 have h4:0+(be 4 (Plain.crc (c.drop 4))).length<=c.length:=by rw[be_len,lc];decide
 -- what stands at each place behind the sum
 have hget:∀ j,4<=j->(secB k base run i lb)[j]? = c[j]?:=fun j hj=>by rw[hsec,lay_get h4,be_len,if_neg (by omega),if_neg (by omega)]
 have hdrop:(secB k base run i lb).drop 4=c.drop 4:=by
  apply List.ext_getElem?;intro j;rw[List.getElem?_drop,List.getElem?_drop,hget _ (by omega)]
 have cget:∀ j,j≠15->c[j]? = (lay b (if i=0 then 22 else 16) (chunk i lb))[j]?:=fun j hj=>by rw[hc,List.getElem?_set,if_neg (fun e=>hj e.symm)]
 have bget:∀ j,j<15->c[j]? = b[j]?:=fun j hj=>by rw[cget j (by omega),lay_get hfit,if_pos (by split <;> omega)]
 have aget:∀ j,j<15->c[j]? = a[j]?:=fun j hj=>by
  rw[bget j hj,hb]
  split
  ·rw[lay_get (by rw[be_len,la];decide),if_pos (by omega)]
  ·rfl
 refine⟨by rw[hsec,lay_len h4,lc],by rw[hsec];exact lay_lt cb (be_lt _ _),?_,?_,?_,?_,?_,?_,?_⟩
 ·rw[hdrop]
  have:=part_eq (l:=secB k base run i lb) 0 4 (be_len 4 (Plain.crc (c.drop 4))) (fun j hj=>by rw[hsec,Nat.zero_add,lay_get h4,be_len,if_neg (by omega),if_pos (by omega),Nat.sub_zero])
  simpa using this
 ·refine part_eq 4 6 (be_len _ _) fun j hj=>?_
  rw[hget _ (by omega),aget _ (by omega),ha,List.getElem?_set,if_neg (by omega),lay_get (by rw[be_len,l1];decide),if_pos (by omega),lay_get (by rw[be_len,z0];decide),be_len,if_neg (by omega),if_pos (by omega),Nat.add_sub_cancel_left]
 ·refine part_eq 10 4 (be_len _ _) fun j hj=>?_
  rw[hget _ (by omega),aget _ (by omega),ha,List.getElem?_set,if_neg (by omega),lay_get (by rw[be_len,l1];decide),be_len,if_neg (by omega),if_pos (by omega),Nat.add_sub_cancel_left]
 ·rw[hget _ (by decide),aget _ (by decide),ha,List.getElem?_set,if_pos rfl,l2]
  rfl
 ·rw[hget _ (by decide),hc,List.getElem?_set,if_pos rfl,lay_len hfit,lbn]
  rfl
 ·intro h0
  refine part_eq 16 6 (be_len _ _) fun j hj=>?_;rw[hget _ (by omega),cget _ (by omega),lay_get hfit,if_pos (by rw[if_pos h0];omega),hb,if_pos h0,lay_get (by rw[be_len,la];decide),be_len,if_neg (by omega),if_pos (by omega),Nat.add_sub_cancel_left]
 ·refine part_eq _ _ rfl fun j hj=>?_
  rw[hget _ (by split <;> omega),cget _ (by split <;> omega),lay_get hfit,if_neg (by omega),if_pos (by omega),Nat.add_sub_cancel_left]
end Go.Proofs.Ytlhekbjidppijaa
