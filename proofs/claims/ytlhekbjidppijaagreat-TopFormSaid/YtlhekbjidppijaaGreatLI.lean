/- The walk of TopForm: for every input it returns true. No condition. -/
import Derived.Test.YtlhekbjidppijaaGreatMBQ
set_option linter.unusedVariables false
set_option linter.unusedSimpArgs false
namespace Go.Proofs.Ytlhekbjidppijaa
open Go.RowKit
def qF (F : FS) : PNode:=⟨F,0,3,⟨1,1,0,false⟩,1,23,1,some [1,2],[],[],[],0,[],[]⟩
def SF (F : FS) : PW:=⟨⟨2,[qF F,qF F],[3,3,3,3,3,3],[],[],[]⟩,[]⟩
theorem e0s : (⟨#[]⟩ : ByteArray).size = 0:=rfl
theorem e0e : ((⟨#[]⟩ : ByteArray) = ByteArray.empty) = True:=by simp;rfl
theorem atS_nil (p : Nat) (k : ByteArray) : atS [] p k = (⟨#[]⟩,false):=by
 induction p with
 | zero=>rfl
 | succ p ih=>unfold atS;simpa using ih
attribute [local simp] PW.step? stepOk PCl.step? PCl.call? PCl.mail? PCl.hear? PCl.read? PCl.small SF qF PNode.ask? PNode.step? PNode.answer? PNode.read? PNode.read1 PNode.get PNode.askF PNode.killF askMsg whoM liveR servesF goodF PNode.small PNode.tell tellMs tellRs tellR tellM PCl.back? PNode.clear PCl.setNode PCl.came? endAll? endC? lowOf low1 PMsg.okB itemOk isAns ansErr ansHas ansVal hurt1 hit atS_nil e0s e0e and_assoc
theorem ask_in {s : PW} {fn a : Nat} {k : ByteArray} {rd : Bool} {P : PW -> PCall -> Prop} (h : ∃ s1,s.step? fn a 0 k ⟨#[]⟩ false = some s1 /\ ∃ s2,s1.askL? rd 20 = some s2 /\ (1 <= s1.c.log.length /\ s1.c.log.length <= 1000 /\ s2.c.log.length <= 1000) /\ ∃ z,s2.c.log[s1.c.log.length - 1]? = some z /\ P s2 z) : ∃ s2 z,s.ask? fn a k rd = some (s2,z) /\ P s2 z:=by
 obtain ⟨s1,h1,s2,h2,hc,z,hz,hp⟩:=h
 refine ⟨s2,z,?_,hp⟩
 unfold PW.ask?
 simp only [h1,h2]
 rw [if_pos hc,hz]
 rfl
theorem drain_in {s : PW} {f : Nat} {P : PW -> Prop} (h : ¬ s.c.net.length = 0) (h2 : ∃ s1,s.step? 2 0 0 ⟨#[]⟩ ⟨#[]⟩ false = some s1 /\ ∃ s2,s1.drain? f = some s2 /\ P s2) : ∃ s2,s.drain? (f + 1) = some s2 /\ P s2:=by
 obtain ⟨s1,h1,s2,h2,hp⟩:=h2
 refine ⟨s2,?_,hp⟩
 unfold PW.drain?
 rw [if_neg h,h1]
 exact h2
theorem drain_end {s : PW} {f : Nat} {P : PW -> Prop} (h : s.c.net.length = 0) (hp : P s) : ∃ s2,s.drain? (f + 1) = some s2 /\ P s2:=⟨s,by unfold PW.drain?;rw [if_pos h],hp⟩
theorem askL_end {s : PW} {f : Nat} {P : PW -> Prop} (h : ∃ s1,s.drain? 300 = some s1 /\ s1.c.fewReads = true /\ s1.c.nreads 5 = 0 /\ P s1) : ∃ s2,s.askL? true (f + 1) = some s2 /\ P s2:=by
 obtain ⟨s1,h1,h2,h3,hp⟩:=h
 refine ⟨s1,?_,hp⟩
 unfold PW.askL?
 simp [h1,h2,h3]
theorem askL_in {s : PW} {f : Nat} {P : PW -> Prop} (h : ∃ s1,s.drain? 300 = some s1 /\ s1.c.fewReads = true /\ ¬ s1.c.nreads 5 = 0 /\ ∃ s3,s1.pass? [1,2,3,4,5] = some s3 /\ ∃ s2,s3.askL? true f = some s2 /\ P s2) : ∃ s2,s.askL? true (f + 1) = some s2 /\ P s2:=by
 obtain ⟨s1,h1,h2,h3,s3,h4,s2,h5,hp⟩:=h
 refine ⟨s2,?_,hp⟩
 have h4' : s1.pass? (List.range' 1 5) = some s3:=h4
 unfold PW.askL?
 simp only [h1,h2,h3,h4',h5]
 simp
set_option maxRecDepth 20000 in
set_option maxHeartbeats 4000000 in
theorem formB1 (k : ByteArray) (F : FS) (h45 : k.size <= 45) (hk : keyOk k = false) : ∃ s z,(SF F).ask? 7 1 k true = some (s,z) /\ z.done = true /\ z.reply.err = 1 /\ ∃ s2 z2,s.ask? 8 1 k true = some (s2,z2) /\ z2.done = true /\ z2.reply.err = 1:=by
 have h1000 : k.size <= 1000:=by omega
 have kbig : k.size <= 1099511627776:=by omega
 refine ask_in ?_
 simp [hk,h45,h1000,kbig]
 refine askL_end ?_
 refine drain_end (by simp) ?_
 refine ⟨by simp [PCl.fewReads],by simp [PCl.nreads],?_⟩
 simp
 refine ask_in ?_
 simp [hk,h45,h1000,kbig]
 refine askL_end ?_
 refine drain_end (by simp) ?_
 refine ⟨by simp [PCl.fewReads],by simp [PCl.nreads],?_⟩
 simp
set_option maxRecDepth 20000 in
set_option maxHeartbeats 4000000 in
theorem formB2 (k : ByteArray) (F : FS) (h45 : k.size <= 45) (hk : keyOk k = false) : ∃ s z,(SF F).ask? 7 2 k true = some (s,z) /\ z.done = true /\ z.reply.err = 1 /\ ∃ s2 z2,s.ask? 8 2 k true = some (s2,z2) /\ z2.done = true /\ z2.reply.err = 1:=by
 have h1000 : k.size <= 1000:=by omega
 have kbig : k.size <= 1099511627776:=by omega
 refine ask_in ?_
 simp [hk,h45,h1000,kbig]
 refine askL_end ?_
 refine drain_end (by simp) ?_
 refine ⟨by simp [PCl.fewReads],by simp [PCl.nreads],?_⟩
 simp
 refine ask_in ?_
 simp [hk,h45,h1000,kbig]
 refine askL_end ?_
 refine drain_end (by simp) ?_
 refine ⟨by simp [PCl.fewReads],by simp [PCl.nreads],?_⟩
 simp
set_option maxRecDepth 20000 in
set_option maxHeartbeats 4000000 in
theorem form11 (k : ByteArray) (F F2 : FS) (h45 : k.size <= 45) (hk : keyOk k = true) (ho : ownerK [1,2] k = 1) (hfe : fentry F k = some none) (hfd : fdrop 129 F k = some F2) : ∃ s z,(SF F).ask? 7 1 k true = some (s,z) /\ z.done = true /\ z.reply.err = 0 /\ z.reply.has = false /\ ∃ s2 z2,s.ask? 8 1 k true = some (s2,z2) /\ z2.done = true /\ z2.reply.err = 0:=by
 have h1000 : k.size <= 1000:=by omega
 have kbig : k.size <= 1099511627776:=by omega
 have k40 : k.size <= 40:=by unfold keyOk at hk;have:=of_decide_eq_true hk;omega
 refine ask_in ?_
 simp [hk,h45,h1000,hfe,hfd,kbig,ho,k40]
 refine askL_in ?_
 refine drain_end (by simp) ?_
 refine ⟨by simp [PCl.fewReads],by simp [PCl.nreads],?_⟩
 simp [PW.pass?,hk,h45,h1000,hfe,hfd,kbig,ho,k40]
 refine askL_end ?_
 refine drain_end (by simp) ?_
 refine ⟨by simp [PCl.fewReads],by simp [PCl.nreads],?_⟩
 simp
 refine ask_in ?_
 simp [hk,h45,h1000,hfe,hfd,kbig,ho,k40]
 refine askL_end ?_
 refine drain_end (by simp) ?_
 refine ⟨by simp [PCl.fewReads],by simp [PCl.nreads],?_⟩
 simp
set_option maxRecDepth 20000 in
set_option maxHeartbeats 4000000 in
theorem form22 (k : ByteArray) (F F2 : FS) (h45 : k.size <= 45) (hk : keyOk k = true) (ho : ownerK [1,2] k = 2) (hfe : fentry F k = some none) (hfd : fdrop 129 F k = some F2) : ∃ s z,(SF F).ask? 7 2 k true = some (s,z) /\ z.done = true /\ z.reply.err = 0 /\ z.reply.has = false /\ ∃ s2 z2,s.ask? 8 2 k true = some (s2,z2) /\ z2.done = true /\ z2.reply.err = 0:=by
 have h1000 : k.size <= 1000:=by omega
 have kbig : k.size <= 1099511627776:=by omega
 have k40 : k.size <= 40:=by unfold keyOk at hk;have:=of_decide_eq_true hk;omega
 refine ask_in ?_
 simp [hk,h45,h1000,hfe,hfd,kbig,ho,k40]
 refine askL_in ?_
 refine drain_end (by simp) ?_
 refine ⟨by simp [PCl.fewReads],by simp [PCl.nreads],?_⟩
 simp [PW.pass?,hk,h45,h1000,hfe,hfd,kbig,ho,k40]
 refine askL_end ?_
 refine drain_end (by simp) ?_
 refine ⟨by simp [PCl.fewReads],by simp [PCl.nreads],?_⟩
 simp
 refine ask_in ?_
 simp [hk,h45,h1000,hfe,hfd,kbig,ho,k40]
 refine askL_end ?_
 refine drain_end (by simp) ?_
 refine ⟨by simp [PCl.fewReads],by simp [PCl.nreads],?_⟩
 simp
set_option maxRecDepth 20000 in
set_option maxHeartbeats 4000000 in
theorem form12 (k : ByteArray) (F F2 : FS) (h45 : k.size <= 45) (hk : keyOk k = true) (ho : ownerK [1,2] k = 1) (hfe : fentry F k = some none) (hfd : fdrop 129 F k = some F2) : ∃ s z,(SF F).ask? 7 2 k true = some (s,z) /\ z.done = true /\ z.reply.err = 0 /\ z.reply.has = false /\ ∃ s2 z2,s.ask? 8 2 k true = some (s2,z2) /\ z2.done = true /\ z2.reply.err = 0:=by
 have h1000 : k.size <= 1000:=by omega
 have kbig : k.size <= 1099511627776:=by omega
 have k40 : k.size <= 40:=by unfold keyOk at hk;have:=of_decide_eq_true hk;omega
 refine ask_in ?_
 simp [hk,h45,h1000,hfe,hfd,kbig,ho,k40]
 refine askL_in ?_
 refine drain_in (by simp) ?_
 simp [hk,h45,h1000,hfe,hfd,kbig,ho,k40]
 refine drain_end (by simp) ?_
 refine ⟨by simp [PCl.fewReads],by simp [PCl.nreads],?_⟩
 simp [PW.pass?,hk,h45,h1000,hfe,hfd,kbig,ho,k40]
 refine askL_end ?_
 refine drain_in (by simp) ?_
 simp [hk,h45,h1000,hfe,hfd,kbig,ho,k40]
 refine drain_end (by simp) ?_
 refine ⟨by simp [PCl.fewReads],by simp [PCl.nreads],?_⟩
 simp
 refine ask_in ?_
 simp [hk,h45,h1000,hfe,hfd,kbig,ho,k40]
 refine askL_end ?_
 refine drain_in (by simp) ?_
 simp [hk,h45,h1000,hfe,hfd,kbig,ho,k40]
 refine drain_in (by simp) ?_
 simp [hk,h45,h1000,hfe,hfd,kbig,ho,k40]
 refine drain_end (by simp) ?_
 refine ⟨by simp [PCl.fewReads],by simp [PCl.nreads],?_⟩
 simp
set_option maxRecDepth 20000 in
set_option maxHeartbeats 4000000 in
theorem form21 (k : ByteArray) (F F2 : FS) (h45 : k.size <= 45) (hk : keyOk k = true) (ho : ownerK [1,2] k = 2) (hfe : fentry F k = some none) (hfd : fdrop 129 F k = some F2) : ∃ s z,(SF F).ask? 7 1 k true = some (s,z) /\ z.done = true /\ z.reply.err = 0 /\ z.reply.has = false /\ ∃ s2 z2,s.ask? 8 1 k true = some (s2,z2) /\ z2.done = true /\ z2.reply.err = 0:=by
 have h1000 : k.size <= 1000:=by omega
 have kbig : k.size <= 1099511627776:=by omega
 have k40 : k.size <= 40:=by unfold keyOk at hk;have:=of_decide_eq_true hk;omega
 refine ask_in ?_
 simp [hk,h45,h1000,hfe,hfd,kbig,ho,k40]
 refine askL_in ?_
 refine drain_in (by simp) ?_
 simp [hk,h45,h1000,hfe,hfd,kbig,ho,k40]
 refine drain_end (by simp) ?_
 refine ⟨by simp [PCl.fewReads],by simp [PCl.nreads],?_⟩
 simp [PW.pass?,hk,h45,h1000,hfe,hfd,kbig,ho,k40]
 refine askL_end ?_
 refine drain_in (by simp) ?_
 simp [hk,h45,h1000,hfe,hfd,kbig,ho,k40]
 refine drain_end (by simp) ?_
 refine ⟨by simp [PCl.fewReads],by simp [PCl.nreads],?_⟩
 simp
 refine ask_in ?_
 simp [hk,h45,h1000,hfe,hfd,kbig,ho,k40]
 refine askL_end ?_
 refine drain_in (by simp) ?_
 simp [hk,h45,h1000,hfe,hfd,kbig,ho,k40]
 refine drain_in (by simp) ?_
 simp [hk,h45,h1000,hfe,hfd,kbig,ho,k40]
 refine drain_end (by simp) ?_
 refine ⟨by simp [PCl.fewReads],by simp [PCl.nreads],?_⟩
 simp
def FW : FS:=⟨[.wipe],List.replicate 16 Place.zero,0,0⟩
theorem sF_eq : (PW.new 2).rounds? 3 = some (SF FW):=by kernel_rfl
theorem findP_succ (pl : List Place) (k : ByteArray) (f a : Nat) (p : Place) (hp : pl[a]? = some p) (h1 : p.has = false) (h2 : p.gone = false) : (findP pl k (f + 1) a none).1 = none:=by
 unfold findP
 rw [hp]
 simp [h1,h2]
theorem rep16 (a : Nat) (ha : a < 16) : (List.replicate 16 Place.zero)[a]? = some Place.zero:=by
 rw [List.getElem?_replicate,if_pos ha]
theorem findW_at (pl : List Place) (k : ByteArray) (a : Nat) (hp : pl[a]? = some Place.zero) : (findP pl k 16 a none).1 = none:=findP_succ pl k 15 a Place.zero hp rfl rfl
theorem findW (pl : List Place) (hpl : ∀ a,a < 16 -> pl[a]? = some Place.zero) (k : ByteArray) : (findK pl k).1 = none:=by
 have hh:=hashK_lt k
 unfold findK
 generalize hashK k = a at hh ⊢
 exact findW_at pl k a (hpl a hh)
theorem fentW (pl : List Place) (hpl : ∀ a,a < 16 -> pl[a]? = some Place.zero) (k : ByteArray) (r : List FRec) (n u : Nat) : fentry ⟨r,pl,n,u⟩ k = some none:=by
 have h:=findW pl hpl k
 unfold fentry getP
 simp only [h]
theorem fdropW (pl : List Place) (hpl : ∀ a,a < 16 -> pl[a]? = some Place.zero) (k : ByteArray) (n u : Nat) : ∃ F2,fdrop 129 ⟨[.wipe],pl,n,u⟩ k = some F2:=by
 have h:=findW pl hpl k
 unfold fdrop
 simp only [h]
 exact ⟨_,if_pos ⟨by decide,by simp⟩⟩
theorem fentFW (k : ByteArray) : fentry FW k = some none:=fentW _ rep16 k _ _ _
theorem fdropFW (k : ByteArray) : ∃ F2,fdrop 129 FW k = some F2:=fdropW _ rep16 k _ _
theorem ownL_mem (h b : Nat) : ∀ l : List (Nat × Nat),ownL h l = some b -> ∃ p,p ∈ l /\ p.2 = b
 | [],e=>by cases e
 | q :: l,e=>by
  unfold ownL at e
  split at e
  ·injection e with e
   exact ⟨q,List.mem_cons_self,e⟩
  ·obtain ⟨p,hp,hb⟩:=ownL_mem h b l e
   exact ⟨p,List.mem_cons_of_mem _ hp,hb⟩
set_option maxRecDepth 100000 in
theorem pts12 : ((sortP (ptsAll [1,2])).all fun p=>decide (p.2 = 1) || decide (p.2 = 2)) = true:=by decide +kernel
set_option maxRecDepth 100000 in
theorem head12 : ((sortP (ptsAll [1,2])).map (·.2)).headD 0 = 1 \/ ((sortP (ptsAll [1,2])).map (·.2)).headD 0 = 2:=by decide +kernel
theorem own12_of (h : Nat) (l : List (Nat × Nat)) (h1 : (l.all fun p=>decide (p.2 = 1) || decide (p.2 = 2)) = true) (h2 : (l.map (·.2)).headD 0 = 1 \/ (l.map (·.2)).headD 0 = 2) : (ownL h l).getD ((l.map (·.2)).headD 0) = 1 \/ (ownL h l).getD ((l.map (·.2)).headD 0) = 2:=by
 cases e : ownL h l with
 | none=>exact h2
 | some b=>
  obtain ⟨p,hp,rfl⟩:=ownL_mem h b _ e
  have:=List.all_eq_true.1 h1 p hp
  simpa using this
theorem own12 (h : Nat) : owner [1,2] h = 1 \/ owner [1,2] h = 2:=own12_of h (sortP (ptsAll [1,2])) pts12 head12
theorem form_plain (k : ByteArray) (h45 : k.size <= 45) (a : Nat) (ha : a = 1 \/ a = 2) : ∃ s0 s1 z1 s2 z2,(PW.new 2).rounds? 3 = some s0 /\ s0.ask? 7 a k true = some (s1,z1) /\ s1.ask? 8 a k true = some (s2,z2) /\ z1.done = true /\ z2.done = true /\ ((keyOk k = true /\ z1.reply.err = 0 /\ z1.reply.has = false /\ z2.reply.err = 0) \/ (keyOk k = false /\ z1.reply.err = 1 /\ z2.reply.err = 1)):=by
 obtain ⟨F2,h2⟩:=fdropFW k
 cases hk : keyOk k with
 | true=>
  have ho:=own12 (Plain.mix [nb k])
  rcases ha with rfl | rfl
  ·rcases ho with ho | ho
   ·obtain ⟨s,z,a1,a2,a3,a4,s2,z2,b1,b2,b3⟩:=form11 k FW F2 h45 hk ho (fentFW k) h2
    exact ⟨_,s,z,s2,z2,sF_eq,a1,b1,a2,b2,.inl ⟨rfl,a3,a4,b3⟩⟩
   ·obtain ⟨s,z,a1,a2,a3,a4,s2,z2,b1,b2,b3⟩:=form21 k FW F2 h45 hk ho (fentFW k) h2
    exact ⟨_,s,z,s2,z2,sF_eq,a1,b1,a2,b2,.inl ⟨rfl,a3,a4,b3⟩⟩
  ·rcases ho with ho | ho
   ·obtain ⟨s,z,a1,a2,a3,a4,s2,z2,b1,b2,b3⟩:=form12 k FW F2 h45 hk ho (fentFW k) h2
    exact ⟨_,s,z,s2,z2,sF_eq,a1,b1,a2,b2,.inl ⟨rfl,a3,a4,b3⟩⟩
   ·obtain ⟨s,z,a1,a2,a3,a4,s2,z2,b1,b2,b3⟩:=form22 k FW F2 h45 hk ho (fentFW k) h2
    exact ⟨_,s,z,s2,z2,sF_eq,a1,b1,a2,b2,.inl ⟨rfl,a3,a4,b3⟩⟩
 | false=>
  rcases ha with rfl | rfl
  ·obtain ⟨s,z,a1,a2,a3,s2,z2,b1,b2,b3⟩:=formB1 k FW h45 hk
   exact ⟨_,s,z,s2,z2,sF_eq,a1,b1,a2,b2,.inr ⟨rfl,a3,b3⟩⟩
  ·obtain ⟨s,z,a1,a2,a3,s2,z2,b1,b2,b3⟩:=formB2 k FW h45 hk
   exact ⟨_,s,z,s2,z2,sF_eq,a1,b1,a2,b2,.inr ⟨rfl,a3,b3⟩⟩
end Go.Proofs.Ytlhekbjidppijaa
namespace Go.Proofs.Ytlhekbjidppijaa
open Go.RowKit
set_option maxRecDepth 20000 in
set_option maxHeartbeats 8000000 in
theorem topForm.walk (w : World) (k : ByteArray) (hk : k.size <= maxLen) (a : Int) (ha : (Lit.int .i64 a).wf = true) : Calls Tryz.prog 6 #[.string k,.int .i64 a] w fun e w'=>e = .returned (.bool true) /\ Below w.heap.size w w':=by
 have HW:=Lib.hid hk
 have HWa:=Lib.hid ha
 clear hk ha
 have HB:=Lib.hid (begun13 w)
 go_enter Tryz.func6,Tryz.ntmps6
 go_wp2_with (go_at_call 13;fail)
 refine HB.out.mono ?_
 rintro e w1 ⟨rfl,hb1⟩
 have HB1:=Lib.hid hb1
 clear hb1 HB
 have hcase : k.size <= 45 \/ 45 < k.size:=by omega
 rcases hcase with h45 | h45
 focus (
  have k1 : ¬ ((45 : Int) < (k.size : Int)):=by omega
  have HP:=Lib.hid (form_plain k h45 (1 + smallF a 2) (by have:=smallF_lt a 2 (by decide);omega))
  have H45:=Lib.hid h45
  go_wp2_with (go_at_call 15;fail)
  clear k1 h45 HW
  generalize k = kk at HP H45 ⊢)
 rotate_left
 focus (
  have k1 : (45 : Int) < (k.size : Int):=by omega
  have k2 : (45 : Int) <= (k.size : Int):=by omega
  have hsz : (k.extract 0 45).size = 45:=by rw [ByteArray.size_extract];omega
  have HP:=Lib.hid (form_plain (k.extract 0 45) (by omega) (1 + smallF a 2) (by have:=smallF_lt a 2 (by decide);omega))
  have H45 : Hid ((k.extract 0 45).size <= 45):=Lib.hid (by omega)
  go_wp2_with (go_at_call 15;fail)
  clear k1 k2 h45 HW hsz
  generalize k.extract 0 45 = kk at HP H45 ⊢)
 rotate_left
 all_goals (
  obtain ⟨s0,s1,z1,s2,z2,e0,e1,e2,d1,d2,hfin⟩:=HP.out
  have HX:=Lib.hid (And.intro e0 (And.intro e1 (And.intro e2 (And.intro d1 (And.intro d2 hfin)))))
  clear HP e0 e1 e2 d1 d2 hfin
  have HM:=Lib.hid (tmade w w1 HB1.out 2 #[.int .i64 1,.int .i64 2] rfl (by decide) (by decide) s0 HX.out.1)
  clear HB1
  refine HM.out.mono ?_
  rintro e w2 ⟨t,x,c,L,rfl,τ2,h2⟩
  clear HM
  have H:=Lib.hid h2
  clear h2
  obtain ⟨t0,t1,q0⟩:=H.out.cells
  have HC:=Lib.hid (tsmall w2 a 2 (by decide) (by decide) HWa.out)
  go_wp2_with (go_at_call 14;fail)
  refine HC.out.mono ?_
  rintro e w' ⟨⟨d,hd,ed,rfl⟩,hw⟩
  obtain rfl:=hw
  clear HC t0 t1 q0
  obtain ⟨p,hp⟩ : ∃ p,p = 1 + d:=⟨_,rfl⟩
  have o0 : (1 : Int) + (d : Int) = (p : Int):=by omega
  have kd : (d : Int) < 2:=by omega
  have HPE : Hid (1 + smallF a 2 = p):=Lib.hid (by omega)
  clear ed hp hd
  obtain ⟨τa,hHa⟩ : ∃ T,TR w w2 T t x c L s0:=⟨_,H.out⟩
  have HT1:=Lib.hid (ask31 w2 τa t x c L s0 s1 z1 hHa.tat 7 p kk true (by rw [<- HPE.out];exact HX.out.2.1))
  have HHa:=Lib.hid hHa
  obtain ⟨t0,t1,q0⟩:=H.out.cells
  clear hHa
  go_wp2_with (go_at_call 31;fail)
  refine HT1.out.mono ?_
  rintro e v1 ⟨rfl,σ1,u1,c1⟩
  obtain ⟨V1,hst,hb1,hbl,-⟩:=store_fresh (P:=Tryz.prog) v1 57 z57 (encR z1.reply) (fun W=>by kernel_rfl) rfl (encR_one z1.reply)
  have HSt1:=Lib.hid hst
  have h1:=(HHa.out.go u1 c1).keep hbl
  have b1 : Has V1 (ext σ1 v1 94) 94 v1.heap.size 57 (encR z1.reply).toArray:=⟨hb1,ext_new (Nat.le_refl _)⟩
  have HT2:=Lib.hid (ask31 V1 (ext σ1 v1 94) t x c L s1 s2 z2 h1.tat 8 p kk true (by rw [<- HPE.out];exact HX.out.2.2.1))
  have HB1:=Lib.hid (And.intro h1 b1)
  clear H HT1 t0 t1 q0 hst hb1 hbl u1 c1 HHa h1 b1
  obtain ⟨t0,t1,q0⟩:=HB1.out.1.cells
  go_wp2_with (first | (refine wpl_sq 57 _ _ rfl rfl ?_;refine sq 57 _ _ _ _ V1 rfl rfl (by kernel_rfl) HSt1.out ?_) | (go_at_call 31;fail))
  refine HT2.out.mono ?_
  rintro e v2 ⟨rfl,σ2,u2,c2⟩
  obtain ⟨V2,hst,hb2,hbl,-⟩:=store_fresh (P:=Tryz.prog) v2 57 z57 (encR z2.reply) (fun W=>by kernel_rfl) rfl (encR_one z2.reply)
  have HSt2:=Lib.hid hst
  have h2:=(HB1.out.1.go u2 c2).keep hbl
  have b1:=(HB1.out.2.keep c2 (by unfold TX;decide)).keep (show Chg (fun _=>False) v2 σ2 V2 (ext σ2 v2 94) from Chg.of_below hbl 94) id
  have a3 : V2.cell? ⟨v1.heap.size,3,none⟩ = some (.int .i64 (z1.reply.err : Int)):=b1.cell 3
  have a5 : V2.cell? ⟨v1.heap.size,5,none⟩ = some (.bool z1.reply.has):=b1.cell 5
  have y3 : V2.cell? ⟨v2.heap.size,3,none⟩ = some (.int .i64 (z2.reply.err : Int)):=hb2.cell 3
  obtain ⟨-,x1,-⟩:=h2.cells
  have HF:=Lib.hid h2.below
  have HK:=Lib.hid (key32 V2 kk (by have:=H45.out;omega))
  rw [HX.out.2.2.2.1,HX.out.2.2.2.2.1]
  clear HT2 t0 t1 q0 hst hb2 hbl u2 c2 HB1 h2 b1 HSt1
  have hfin:=HX.out.2.2.2.2.2
  rcases hfin with ⟨f1,f2,f3,f4⟩ | ⟨f1,f2,f3⟩
  focus (
   rw [f2] at a3
   rw [f3] at a5
   rw [f4] at y3
   rw [f1] at HK
   clear f1 f2 f3 f4)
  rotate_left
  focus (
   rw [f2] at a3
   rw [f3] at y3
   rw [f1] at HK
   clear f1 f2 f3 a5)
  rotate_left
  all_goals (
   go_wp2_with (first | (refine wpl_sq 57 _ _ rfl rfl ?_;refine sq 57 _ _ _ _ V2 rfl rfl (by kernel_rfl) HSt2.out ?_) | (go_at_call 32;fail))
   refine HK.out.mono ?_
   rintro e w' ⟨rfl,hw⟩
   obtain rfl:=hw
   clear HK HSt2
   go_wp2_with fail
   go_ret
   exact ⟨rfl,HF.out⟩))
end Go.Proofs.Ytlhekbjidppijaa
