/- Contracts of functions that the Top rows reach, and plain laws for them: what each returns and what it leaves in memory. Conditions: those that each theorem names. -/
import Derived.Test.YtlhekbjidppijaaGreatMAB
import Derived.Test.YtlhekbjidppijaaGreatMAH
import Derived.Test.YtlhekbjidppijaaGreatMBE
set_option linter.unusedVariables false
set_option linter.unusedSimpArgs false
namespace Go.Proofs.Ytlhekbjidppijaa
open Go.RowKit
abbrev NN (n x : Nat) : Prop:=x % 96 = n
theorem NodeAt.setReads {w w' W : World} {τ τ' : Own} {ts n N d k i : Nat} {s : PNode} {h : Hd} {v : Value} {R : List PRead} {L : List TkS} (H : NodeAt w τ ts n N d k i s h) (hf : Far ts n) (hr : Rw w' τ' (n + 192) 108 5 v R.length (R.flatMap encD)) (ht : TokAt w' τ' (n + 672) h.T L) (hc : Chg (fun x=>x = n + 192 \/ x = n + 672) w τ w' τ') (hW : W = w'.setCell ⟨N,10,none⟩ v) :
 NodeAt W τ' ts n N d k i { s with toks:=L,reads:=R } { h with rv:=v } /\ Chg (NN n) w τ W τ':=by
 obtain ⟨h1,h2,h3⟩:=hf
 obtain ⟨mv,pv,hN,hm,hp⟩:=H.out.ex
 have hN':=hN.keep hc (by omega)
 have hc2 : Chg (· = n) w' τ' W τ':=by rw [hW];exact (Chg.refl _ _ _).setCell (p:=⟨N,10,none⟩) hN'.own _
 have hcc : Chg (fun x=>x = n \/ x = n + 192 \/ x = n + 672) w τ W τ':=(hc.mono fun x h=>.inr h).trans (hc2.mono fun x h=>.inl h)
 have kk (x : Nat) (h : x ≠ n /\ x ≠ n + 192 /\ x ≠ n + 672) : ¬ (x = n \/ x = n + 192 \/ x = n + 672):=by rintro (e | e | e) <;> omega
 refine ⟨⟨H.id,H.asked,⟨mv,pv,by rw [hW];exact hN'.set_ 10 v,hm.keep hcc (kk _ (by omega)),hp.keep hcc (kk _ (by omega))⟩,H.store.keep hcc fun x hx h=>by unfold ST at h;rcases hx with e | e | e <;> omega,H.lease.keep hcc (kk _ (by omega)),ht.keep hc2 (by omega),H.waits.keep hcc (kk _ (by omega)),hr.keep hc2 (by omega),H.ring.keep hcc (kk _ (by omega))⟩,hcc.mono fun x h=>by rcases h with e | e | e <;> omega⟩
def PNode.get (s : PNode) (i : Nat) (x : PWho) (r : Option (ByteArray × ByteArray × Bool)) : PNode:=
 match liveR r with
 | some y=>s.tell i x 0 y.2.1 true
 | none=>{ s with toks:=s.toks ++ [⟨x.key,true,false⟩],reads:=s.reads ++ [⟨x,s.toks.length + 1⟩] }
theorem encD_one (x : PRead) : ∀ u ∈ encD x,u.oneCell' = true:=by
 intro u hu
 simp only [encD,List.mem_cons,List.not_mem_nil,or_false] at hu
 rcases hu with rfl | rfl | rfl | rfl | rfl <;> rfl
theorem info108 : (Tryz.prog.info? 108).map (fun i=>(i.zero.map Value.cells,i.size,i.bytes)) = some (some #[.int .i64 0,.int .i64 0,.int .i64 0,.string ⟨#[]⟩,.int .i64 0],5,48):=by kernel_rfl
theorem itemR_some (r : Option (ByteArray × ByteArray × Bool)) : ∃ a b g,itemR r = .agg #[.string a,.string b,.int .i64 0,.bool g] /\ ∀ y,r = some y -> b = y.2.1:=by
 cases r with
 | none=>exact ⟨_,_,_,rfl,fun y h=>by cases h⟩
 | some y=>exact ⟨_,_,_,rfl,fun z h=>by cases h;rfl⟩
def GetS (N S c L k b : Nat) (x : PWho) (W : World) : Prop:=
 W.cell? ⟨N,0,none⟩ = some (.pointer (some ⟨S,0,none⟩)) /\ W.cell? ⟨S,0,none⟩ = some (.pointer (some ⟨c,0,none⟩)) /\ W.cell? ⟨N,1,none⟩ = some (.pointer (some ⟨L,0,none⟩)) /\ W.cell? ⟨L,0,none⟩ = some (.pointer (some ⟨k,0,none⟩)) /\ W.cell? ⟨b,3,none⟩ = some (.string x.key)
def GetT (N T b : Nat) (rv : Value) (x : PWho) (W : World) : Prop:=
 W.cell? ⟨N,10,none⟩ = some rv /\ W.cell? ⟨N,4,none⟩ = some (.pointer (some ⟨T,0,none⟩)) /\ W.cell? ⟨b,0,none⟩ = some (.int .i64 (x.node : Int)) /\ W.cell? ⟨b,1,none⟩ = some (.int .i64 (x.id : Int)) /\ W.cell? ⟨b,2,none⟩ = some (.int .i64 (x.op : Int)) /\ W.cell? ⟨b,3,none⟩ = some (.string x.key)
set_option maxRecDepth 20000 in
set_option maxHeartbeats 2000000 in
theorem get168 (w : World) (τ : Own) (ts n N d k i tk now : Nat) (s : PNode) (h : Hd) (H : NodeAt w τ ts n N d k i s h) (hk : ClockAt w τ tk k now) (hf : Far ts n) (hl : s.ms.length <= 1000) (hl2 : s.rs.length <= 1000) (hlr : s.reads.length <= 1000) (hlt : s.toks.length <= 1000) (x : PWho) (hx : x.key.size <= 1000)
 (r : Option (ByteArray × ByteArray × Bool)) (hr : fentry s.fs x.key = some r) :
 Calls Tryz.prog 168 #[.pointer (some ⟨N,0,none⟩),.agg (encW x).toArray] w fun e w'=>(∃ r,e = .returned r) /\ ∃ h' τ',NodeAt w' τ' ts n N d k i (s.get i x r) h' /\ Chg (NN n) w τ w' τ':=by
 obtain ⟨W0,hW0⟩ : ∃ W,W = w.alloc (.cells (encW x).toArray 106):=⟨_,rfl⟩
 have hB0 : Blk W0 w.heap.size 106 (encW x).toArray:=by rw [hW0];exact Blk.new _ _ _
 have hc0 : Chg (fun _=>False) w τ W0 (ext τ w (n + 864)):=by rw [hW0];exact ((Chg.refl _ _ _).alloc _).ext _
 have hN0:=H.keep hc0 hf.1 (fun _ h=>h.elim)
 have hk0:=hk.keep hc0 id
 have hX0 : Has W0 (ext τ w (n + 864)) (n + 864) w.heap.size 106 (encW x).toArray:=⟨hB0,ext_new (Nat.le_refl _)⟩
 obtain ⟨mv,pv,hNb,-,-⟩:=hN0.out.ex
 obtain ⟨c,j,kp,hS,hFl,-,-,-⟩:=hN0.store.ex
 have hLe:=hN0.lease
 generalize ext τ w (n + 864) = τ0 at *
 have HA : Hid (∀ W,Below W0.heap.size W0 W -> GetS N h.S c h.L k w.heap.size x W /\ (∃ τ',NodeAt W τ' ts n N d k i s h /\ Has W τ' (n + 864) w.heap.size 106 (encW x).toArray /\ FlashAt W τ' (ts + 6) c d 162 129 1200 s.fs /\ ClockAt W τ' tk k now /\ Chg (fun _=>False) w τ W τ')):=Lib.hid fun W hb=>by
  have hc : Chg (fun _=>False) W0 τ0 W (ext τ0 W0 0):=Chg.of_below hb _
  have a1:=hNb.keep hc id
  have a2:=hS.keep hc id
  have a3:=hLe.keep hc id
  have a4:=hX0.keep hc id
  exact ⟨⟨a1.cell 0,a2.cell 0,a1.cell 1,a3.cell 0,a4.cell 3⟩,_,hN0.keep hc hf.1 (fun _ h=>h.elim),a4,hFl.quiet hc,hk0.keep hc id,hc0.trans hc⟩
 have S0:=Lib.hid (HA.out W0.drew (Below.refl _ W0).drew).1
 have HG : Hid (∀ W,Below W0.heap.size W0 W -> Calls Tryz.prog 222 #[.pointer (some ⟨c,0,none⟩),.string x.key,.int .i64 now] W fun e w'=>e = .returned (.tuple #[itemR (liveR r),.bool (liveR r).isSome]) /\ Below W.heap.size W w'):=Lib.hid fun W hb=>by
  obtain ⟨-,τ',-,-,h3,-,-⟩:=HA.out W hb
  exact get222 W τ' (ts + 6) c d 162 129 1200 s.fs x.key now r h3 (by omega) hr
 have HNo : Hid (∀ W,Below W0.heap.size W0 W -> Calls Tryz.prog 61 #[.pointer (some ⟨k,0,none⟩)] W fun e w'=>e = .returned (.int .i64 now) /\ W = w'):=Lib.hid fun W hb=>by
  obtain ⟨-,τ',-,-,-,h4,-⟩:=HA.out W hb
  exact now61 W τ' tk k now h4
 have HF:=Lib.hid hf
 have HW:=Lib.hid hW0
 clear H hk hc0 hN0 hk0 hB0 hX0 hNb hS hFl hLe hf hW0 hr
 obtain ⟨a,vv,g,hit,hitv⟩:=itemR_some (liveR r)
 rw [hit] at HG
 have HIT:=Lib.hid hitv
 clear hit hitv
 go_enter Tryz.func168,Tryz.ntmps168
 go_wp2_with (first | rw [<- HW.out] | fail)
 refine wp_region_pl (.take 0 (.take 1 (.take 2 (.take 3 (.take 4 (.take 5 (.take 6 (.take 7 (.take 8 (.take 9 (.take 10 (.take 11 (.take 12 (.take 13 (.take 14 (.take 15 (.two 16 (.two 17 (.take 18 (.take 19 (.take 20 (.one 21 (.one 22 .done))))) 21 (.one 17 (.take 18 (.take 19 (.take 20 (.one 22 .done)))))) 21 (.one 16 (.one 17 (.take 18 (.take 19 (.take 20 (.one 22 .done))))))))))))))))))))))) (GetS N h.S c h.L k w.heap.size x) (by kernel_rfl) (by kernel_rfl) S0.out ?_
 iterate 16 (refine pl_take (v:=?_) rfl (by kernel_rfl) (fun W hW=>?_) ?_;rotate_left;(obtain ⟨r0,r1,r2,r3,r4⟩:=hW;first | (go_simp;done) | (go_simp;with_reducible rfl)))
 refine pl_two rfl rfl (fun K hK=>?_) (fun K hK=>?_)
 ·go_simp
  refine (HNo.out _ (Below.refl _ W0).drew).mono ?_
  rintro e w1 ⟨rfl,rfl⟩
  refine hK _ _ S0.out ?_
  clear hK
  refine pl_two rfl rfl (fun K hK=>?_) (fun K hK=>?_)
  ·go_simp
   refine (HG.out _ (Below.refl _ W0).drew).mono ?_
   rintro e w1 ⟨rfl,hb1⟩
   have HB1:=Lib.hid ((Below.refl W0.heap.size W0).drew.trans (hb1.mono (Nat.le_refl _)))
   have S1:=Lib.hid (HA.out w1 HB1.out).1
   clear hb1
   refine hK _ _ S1.out ?_
   clear hK
   iterate 3 (refine pl_take (v:=?_) rfl (by kernel_rfl) (fun W hW=>?_) ?_;rotate_left;(first | (go_simp;done) | (go_simp;with_reducible rfl)))
   refine pl_one rfl fun K hK=>?_
   go_simp
   have hB2 : Below W0.heap.size W0 (w1.alloc (.cells #[.string a,.string vv,.int .i64 0,.bool g] 178)):=HB1.out.alloc HB1.out.size _
   have hB2' : Below W0.heap.size W0 (w1.alloc (.cells #[.string ⟨#[]⟩,.string ⟨#[]⟩,.int .i64 0,.bool false] 178)):=HB1.out.alloc HB1.out.size _
   have S2':=Lib.hid (HA.out _ hB2').1
   have S2:=Lib.hid (HA.out _ hB2).1
   have HV : Hid ((w1.alloc (.cells #[.string a,.string vv,.int .i64 0,.bool g] 178)).cell? ⟨w1.heap.size,1,none⟩ = some (.string vv)):=Lib.hid ((Blk.new w1 178 #[.string a,.string vv,.int .i64 0,.bool g]).cell 1)
   have HB2:=Lib.hid hB2
   clear hB2 hB2'
   refine hK _ _ S2'.out ?_
   clear hK S2'
   refine pl_one rfl fun K hK=>?_
   go_simp
   refine hK _ _ S2.out ?_
   clear hK S2 HB1 S1
   generalize hib : w1.heap.size = ib at HV ⊢
   generalize hW5 : w1.alloc (.cells #[.string a,.string vv,.int .i64 0,.bool g] 178) = W5 at *
   clear hib hW5
   have HB5:=HB2
   have HV5:=HV.out
   clear HV HB2
   refine pl_end ?_
   simp only [Plan.len,List.drop_succ_cons,List.drop_zero,Nat.zero_add,Nat.reduceAdd]
   obtain ⟨-,τ5,a1,a2,-,-,a5⟩:=HA.out W5 HB5.out
   obtain ⟨mv,pv,hNb,-,-⟩:=a1.out.ex
   have b0 : W5.cell? ⟨w.heap.size,0,none⟩ = some (.int .i64 (x.node : Int)):=a2.cell 0
   have b1 : W5.cell? ⟨w.heap.size,1,none⟩ = some (.int .i64 (x.id : Int)):=a2.cell 1
   have b2 : W5.cell? ⟨w.heap.size,2,none⟩ = some (.int .i64 (x.op : Int)):=a2.cell 2
   have b3 : W5.cell? ⟨w.heap.size,3,none⟩ = some (.string x.key):=a2.cell 3
   have S6 : Hid (GetT N h.T w.heap.size h.rv x W5.drew):=Lib.hid ⟨hNb.cell 10,hNb.cell 4,b0,b1,b2,b3⟩
   have HX5:=Lib.hid a2
   have HN5:=Lib.hid a1
   have HC5:=Lib.hid a5
   clear a1 a2 a5 hNb HA HG HNo S0
   cases hlv : liveR r with
   | some y=>
    obtain rfl:=HIT.out y hlv
    have HT:=Lib.hid (nodeTell W5 τ5 ts n N d k i s h HN5.out HF.out hl hl2 x 0 y.2.1 true)
    have HFn : Hid (s.get i x r = s.tell i x 0 y.2.1 true):=Lib.hid (by unfold PNode.get;rw [hlv])
    clear hlv
    go_wp2_with (go_at_call 112;fail)
    refine HT.out.mono ?_
    rintro e w6 ⟨⟨v6,rfl⟩,τ6,hn6,hc6⟩
    have HFF:=Lib.hid (And.intro hn6 (HC5.out.mono (fun _ h=>h.elim) |>.trans (hc6.mono fun x hx=>(show NN n x by have:=HF.out.1;rcases hx with e | e | e <;> (unfold NN;omega)))))
    clear hn6 hc6
    go_wp2
    refine bodyPost_ret (by first | exact results_none rfl _ _ _ | exact Great.results_none rfl _ _ _ | rfl) rfl ?_
    rw [HFn.out]
    exact ⟨⟨_,rfl⟩,h,τ6,HFF.out⟩
   | none=>
    have HFn : Hid (s.get i x r = { s with toks:=s.toks ++ [⟨x.key,true,false⟩],reads:=s.reads ++ [⟨x,s.toks.length + 1⟩] }):=Lib.hid (by unfold PNode.get;rw [hlv])
    clear hlv
    go_wp2_with fail
    refine wp_region_hl [12,14,15] [0,1,2,3,4,5,6,7,8,9,10,11,12,13,14,15] (GetT N h.T w.heap.size h.rv x) (by kernel_rfl) (by kernel_rfl) S6.out ?_
    iterate 12 (refine hd_take (v:=?_) rfl rfl (by kernel_rfl) (fun W hW=>?_) ?_;rotate_left;(obtain ⟨r0,r1,r2,r3,r4,r5⟩:=hW;first | (go_simp;done) | (go_simp;with_reducible rfl)))
    refine hd_loud rfl rfl fun K hK=>?_
    go_simp
    obtain ⟨t1,ht1⟩ : ∃ t,t = s.toks.length + 1:=⟨_,rfl⟩
    have hcd : Chg (fun _=>False) W5 τ5 W5.drew τ5:=(Chg.refl _ _ _).drew
    have hN6:=HN5.out.keep hcd HF.out.1 (fun _ h=>h.elim)
    have hTG:=tokGive W5.drew τ5 (n + 672) h.T s.toks x.key hN6.toks (by omega)
    rw [<- ht1] at hTG HFn
    refine hTG.mono ?_
    rintro e w6 ⟨rfl,ht6,hc6⟩
    generalize ext τ5 W5.drew (n + 672) = τ6 at ht6 hc6
    have hn95:=HF.out.1
    have hNS (W : World) (τ' : Own) (hc : Chg (fun x=>x = n + 192 \/ x = n + 672) W5.drew τ5 W τ') : GetT N h.T w.heap.size h.rv x W /\ Rw W τ' (n + 192) 108 5 h.rv s.reads.length (s.reads.flatMap encD) \/ True:=.inr trivial
    have hS (W : World) (τ' : Own) (hc : Chg (· = n + 672) W5.drew τ5 W τ') : GetT N h.T w.heap.size h.rv x W:=by
     obtain ⟨mv6,pv6,hNb,-,-⟩:=hN6.out.ex
     have a1:=hNb.keep hc (by omega)
     have a2:=(HX5.out.keep hcd id).keep hc (by omega)
     exact ⟨a1.cell 10,a1.cell 4,a2.cell 0,a2.cell 1,a2.cell 2,a2.cell 3⟩
    have S7:=Lib.hid (hS w6 τ6 hc6)
    have hr6:=hN6.reads.keep hc6 (by omega)
    have hcA:=hc6.alloc (.cells (encD ⟨x,t1⟩).toArray 108)
    have S8:=Lib.hid (hS _ τ6 hcA)
    have hrA:=hr6.alloc (.cells (encD ⟨x,t1⟩).toArray 108)
    have htA:=ht6.keep ((Chg.refl (fun _=>False) w6 τ6).alloc (.cells (encD ⟨x,t1⟩).toArray 108)) id
    have HRA:=Lib.hid hrA
    have HTA:=Lib.hid htA
    have HCA:=Lib.hid hcA
    have HN6:=Lib.hid hN6
    have HCC:=Lib.hid (HC5.out.trans hcd)
    have HFr:=Lib.hid hS
    clear hTG hcd hN6 hNS hS hr6 hcA hrA htA ht6 hc6 ht1
    refine hK _ _ S7.out ?_
    clear hK
    refine hd_take (v:=?_) rfl rfl (by kernel_rfl) (fun W hW=>?_) ?_
    rotate_left
    ·first | (go_simp;done) | (go_simp;with_reducible rfl)
    refine hd_loud rfl rfl fun K hK=>?_
    go_simp
    refine hK _ _ S8.out ?_
    clear hK
    refine hd_loud rfl rfl fun K hK=>?_
    refine st_app rfl rfl τ6 (n + 192) (by kernel_rfl) info108 rfl (by decide) (by decide) rfl HRA.out rfl rfl (Blk.new _ _ _).sl (encD_one ⟨x,t1⟩) (by omega) ?_
    intro g8 cap8 w8 hr8 hc8 hg8
    generalize ext τ6 _ (n + 192) = τ8 at hr8 hc8
    have hcB : Chg (fun x=>x = n + 192 \/ x = n + 672) W5.drew τ5 w8 τ8:=(HCA.out.mono fun x h=>.inr h).trans (hc8.mono fun x h=>.inl h)
    have htB:=HTA.out.keep hc8 (by omega)
    obtain ⟨mv8,pv8,hNb8,-,-⟩:=HN6.out.out.ex
    have hNb9:=hNb8.keep hcB (by omega)
    have d10:=hNb9.cell 10
    have g10:=hNb9.frozen 10
    have S9 : Hid (GetT N h.T w.heap.size h.rv x w8):=Lib.hid (by
     have a2:=HX5.out.keep ((Chg.refl (fun _=>False) W5 τ5).drew) id
     have a3:=a2.keep hcB (by omega)
     exact ⟨hNb9.cell 10,hNb9.cell 4,a3.cell 0,a3.cell 1,a3.cell 2,a3.cell 3⟩)
    have HFF : Hid (∀ W,W = w8.setCell ⟨N,10,none⟩ (.slice (some ⟨g8,0,none⟩) (s.reads.length + 1) cap8) -> ∃ h',NodeAt W τ8 ts n N d k i (s.get i x r) h' /\ Chg (NN n) w τ W τ8):=Lib.hid fun W hW=>by
     obtain ⟨R,hR⟩ : ∃ R : List PRead,R = s.reads ++ [⟨x,t1⟩]:=⟨_,rfl⟩
     have e1 : R.length = s.reads.length + 1:=by rw [hR];simp
     have e2 : R.flatMap encD = s.reads.flatMap encD ++ encD ⟨x,t1⟩:=by rw [hR];simp
     have hr9 : Rw w8 τ8 (n + 192) 108 5 (.slice (some ⟨g8,0,none⟩) (s.reads.length + 1) cap8) R.length (R.flatMap encD):=by rw [e1,e2];exact hr8
     obtain ⟨k1,k2⟩:=HN6.out.setReads HF.out hr9 htB hcB hW
     rw [hR] at k1
     rw [HFn.out]
     exact ⟨_,k1,(HCC.out.mono fun _ h=>h.elim).trans k2⟩
    clear hr8 hc8 hg8 hcB htB hNb8 hNb9
    refine hK _ _ S9.out (hd_end ?_)
    clear hK
    simp only [List.length_cons,List.length_nil,List.drop_succ_cons,List.drop_zero,Nat.zero_add,Nat.reduceAdd]
    go_wp2_with fail
    refine bodyPost_end (by first | rfl | (simp [results];rfl)) rfl ?_
    obtain ⟨h',k1,k2⟩:=HFF.out _ rfl
    exact ⟨⟨_,rfl⟩,h',τ8,k1,k2⟩
  ·go_simp
   have hB2 : Below W0.heap.size W0 (W0.alloc (.cells #[.string ⟨#[]⟩,.string ⟨#[]⟩,.int .i64 0,.bool false] 178)).drew:=((Below.refl _ W0).alloc (Nat.le_refl _) _).drew
   have S2:=Lib.hid (HA.out _ hB2).1
   have hI2 : Blk (W0.alloc (.cells #[.string ⟨#[]⟩,.string ⟨#[]⟩,.int .i64 0,.bool false] 178)).drew W0.heap.size 178 #[.string ⟨#[]⟩,.string ⟨#[]⟩,.int .i64 0,.bool false]:=(Blk.new W0 178 #[.string ⟨#[]⟩,.string ⟨#[]⟩,.int .i64 0,.bool false]).drew
   have HB2:=Lib.hid hB2
   have HI2:=Lib.hid hI2
   clear hB2 hI2
   refine hK _ _ S2.out ?_
   clear hK S2
   generalize (W0.alloc (.cells #[.string ⟨#[]⟩,.string ⟨#[]⟩,.int .i64 0,.bool false] 178)).drew = W2 at *
   refine pl_one rfl fun K hK=>?_
   go_simp
   refine (HG.out _ HB2.out).mono ?_
   rintro e w1 ⟨rfl,hb1⟩
   have HB1:=Lib.hid (HB2.out.trans (hb1.mono HB2.out.size))
   have S1:=Lib.hid (HA.out w1 HB1.out).1
   have hI1:=HI2.out.below hb1 HI2.out.lt
   have i0:=hI1.cell 0
   have i1:=hI1.cell 1
   have i2:=hI1.cell 2
   have i3:=hI1.cell 3
   have j0:=hI1.frozen 0
   have j1:=hI1.frozen 1
   have j2:=hI1.frozen 2
   have j3:=hI1.frozen 3
   have HI1:=Lib.hid hI1
   clear hb1 hI1
   refine hK _ _ S1.out ?_
   clear hK
   iterate 3 (refine pl_take (v:=?_) rfl (by kernel_rfl) (fun W hW=>?_) ?_;rotate_left;(first | (go_simp;done) | (go_simp;with_reducible rfl)))
   refine pl_one rfl fun K hK=>?_
   go_simp
   have HV5 : ((((w1.setCell ⟨W0.heap.size,0,none⟩ (.string a)).setCell ⟨W0.heap.size,1,none⟩ (.string vv)).setCell ⟨W0.heap.size,2,none⟩ (.int .i64 0)).setCell ⟨W0.heap.size,3,none⟩ (.bool g)).cell? ⟨W0.heap.size,1,none⟩ = some (.string vv):=((((HI1.out.set_ 0 (.string a)).set_ 1 (.string vv)).set_ 2 (.int .i64 0)).set_ 3 (.bool g)).cell 1
   have HB5:=Lib.hid ((((HB1.out.setCell (p:=⟨W0.heap.size,0,none⟩) (Nat.le_refl _) (.string a)).setCell (p:=⟨W0.heap.size,1,none⟩) (Nat.le_refl _) (.string vv)).setCell (p:=⟨W0.heap.size,2,none⟩) (Nat.le_refl _) (.int .i64 0)).setCell (p:=⟨W0.heap.size,3,none⟩) (Nat.le_refl _) (.bool g))
   have S5:=Lib.hid (HA.out _ HB5.out).1
   refine hK _ _ S5.out ?_
   clear hK S5 HB1 S1 HI1 HI2 HB2 i0 i1 i2 i3 j0 j1 j2 j3
   generalize hW5 : ((((w1.setCell ⟨W0.heap.size,0,none⟩ (.string a)).setCell ⟨W0.heap.size,1,none⟩ (.string vv)).setCell ⟨W0.heap.size,2,none⟩ (.int .i64 0)).setCell ⟨W0.heap.size,3,none⟩ (.bool g)) = W5 at *
   clear hW5
   refine pl_end ?_
   simp only [Plan.len,List.drop_succ_cons,List.drop_zero,Nat.zero_add,Nat.reduceAdd]
   obtain ⟨-,τ5,a1,a2,-,-,a5⟩:=HA.out W5 HB5.out
   obtain ⟨mv,pv,hNb,-,-⟩:=a1.out.ex
   have b0 : W5.cell? ⟨w.heap.size,0,none⟩ = some (.int .i64 (x.node : Int)):=a2.cell 0
   have b1 : W5.cell? ⟨w.heap.size,1,none⟩ = some (.int .i64 (x.id : Int)):=a2.cell 1
   have b2 : W5.cell? ⟨w.heap.size,2,none⟩ = some (.int .i64 (x.op : Int)):=a2.cell 2
   have b3 : W5.cell? ⟨w.heap.size,3,none⟩ = some (.string x.key):=a2.cell 3
   have S6 : Hid (GetT N h.T w.heap.size h.rv x W5.drew):=Lib.hid ⟨hNb.cell 10,hNb.cell 4,b0,b1,b2,b3⟩
   have HX5:=Lib.hid a2
   have HN5:=Lib.hid a1
   have HC5:=Lib.hid a5
   clear a1 a2 a5 hNb HA HG HNo S0
   cases hlv : liveR r with
   | some y=>
    obtain rfl:=HIT.out y hlv
    have HT:=Lib.hid (nodeTell W5 τ5 ts n N d k i s h HN5.out HF.out hl hl2 x 0 y.2.1 true)
    have HFn : Hid (s.get i x r = s.tell i x 0 y.2.1 true):=Lib.hid (by unfold PNode.get;rw [hlv])
    clear hlv
    go_wp2_with (go_at_call 112;fail)
    refine HT.out.mono ?_
    rintro e w6 ⟨⟨v6,rfl⟩,τ6,hn6,hc6⟩
    have HFF:=Lib.hid (And.intro hn6 (HC5.out.mono (fun _ h=>h.elim) |>.trans (hc6.mono fun x hx=>(show NN n x by have:=HF.out.1;rcases hx with e | e | e <;> (unfold NN;omega)))))
    clear hn6 hc6
    go_wp2
    refine bodyPost_ret (by first | exact results_none rfl _ _ _ | exact Great.results_none rfl _ _ _ | rfl) rfl ?_
    rw [HFn.out]
    exact ⟨⟨_,rfl⟩,h,τ6,HFF.out⟩
   | none=>
    have HFn : Hid (s.get i x r = { s with toks:=s.toks ++ [⟨x.key,true,false⟩],reads:=s.reads ++ [⟨x,s.toks.length + 1⟩] }):=Lib.hid (by unfold PNode.get;rw [hlv])
    clear hlv
    go_wp2_with fail
    refine wp_region_hl [12,14,15] [0,1,2,3,4,5,6,7,8,9,10,11,12,13,14,15] (GetT N h.T w.heap.size h.rv x) (by kernel_rfl) (by kernel_rfl) S6.out ?_
    iterate 12 (refine hd_take (v:=?_) rfl rfl (by kernel_rfl) (fun W hW=>?_) ?_;rotate_left;(obtain ⟨r0,r1,r2,r3,r4,r5⟩:=hW;first | (go_simp;done) | (go_simp;with_reducible rfl)))
    refine hd_loud rfl rfl fun K hK=>?_
    go_simp
    obtain ⟨t1,ht1⟩ : ∃ t,t = s.toks.length + 1:=⟨_,rfl⟩
    have hcd : Chg (fun _=>False) W5 τ5 W5.drew τ5:=(Chg.refl _ _ _).drew
    have hN6:=HN5.out.keep hcd HF.out.1 (fun _ h=>h.elim)
    have hTG:=tokGive W5.drew τ5 (n + 672) h.T s.toks x.key hN6.toks (by omega)
    rw [<- ht1] at hTG HFn
    refine hTG.mono ?_
    rintro e w6 ⟨rfl,ht6,hc6⟩
    generalize ext τ5 W5.drew (n + 672) = τ6 at ht6 hc6
    have hn95:=HF.out.1
    have hNS (W : World) (τ' : Own) (hc : Chg (fun x=>x = n + 192 \/ x = n + 672) W5.drew τ5 W τ') : GetT N h.T w.heap.size h.rv x W /\ Rw W τ' (n + 192) 108 5 h.rv s.reads.length (s.reads.flatMap encD) \/ True:=.inr trivial
    have hS (W : World) (τ' : Own) (hc : Chg (· = n + 672) W5.drew τ5 W τ') : GetT N h.T w.heap.size h.rv x W:=by
     obtain ⟨mv6,pv6,hNb,-,-⟩:=hN6.out.ex
     have a1:=hNb.keep hc (by omega)
     have a2:=(HX5.out.keep hcd id).keep hc (by omega)
     exact ⟨a1.cell 10,a1.cell 4,a2.cell 0,a2.cell 1,a2.cell 2,a2.cell 3⟩
    have S7:=Lib.hid (hS w6 τ6 hc6)
    have hr6:=hN6.reads.keep hc6 (by omega)
    have hcA:=hc6.alloc (.cells (encD ⟨x,t1⟩).toArray 108)
    have S8:=Lib.hid (hS _ τ6 hcA)
    have hrA:=hr6.alloc (.cells (encD ⟨x,t1⟩).toArray 108)
    have htA:=ht6.keep ((Chg.refl (fun _=>False) w6 τ6).alloc (.cells (encD ⟨x,t1⟩).toArray 108)) id
    have HRA:=Lib.hid hrA
    have HTA:=Lib.hid htA
    have HCA:=Lib.hid hcA
    have HN6:=Lib.hid hN6
    have HCC:=Lib.hid (HC5.out.trans hcd)
    have HFr:=Lib.hid hS
    clear hTG hcd hN6 hNS hS hr6 hcA hrA htA ht6 hc6 ht1
    refine hK _ _ S7.out ?_
    clear hK
    refine hd_take (v:=?_) rfl rfl (by kernel_rfl) (fun W hW=>?_) ?_
    rotate_left
    ·first | (go_simp;done) | (go_simp;with_reducible rfl)
    refine hd_loud rfl rfl fun K hK=>?_
    go_simp
    refine hK _ _ S8.out ?_
    clear hK
    refine hd_loud rfl rfl fun K hK=>?_
    refine st_app rfl rfl τ6 (n + 192) (by kernel_rfl) info108 rfl (by decide) (by decide) rfl HRA.out rfl rfl (Blk.new _ _ _).sl (encD_one ⟨x,t1⟩) (by omega) ?_
    intro g8 cap8 w8 hr8 hc8 hg8
    generalize ext τ6 _ (n + 192) = τ8 at hr8 hc8
    have hcB : Chg (fun x=>x = n + 192 \/ x = n + 672) W5.drew τ5 w8 τ8:=(HCA.out.mono fun x h=>.inr h).trans (hc8.mono fun x h=>.inl h)
    have htB:=HTA.out.keep hc8 (by omega)
    obtain ⟨mv8,pv8,hNb8,-,-⟩:=HN6.out.out.ex
    have hNb9:=hNb8.keep hcB (by omega)
    have d10:=hNb9.cell 10
    have g10:=hNb9.frozen 10
    have S9 : Hid (GetT N h.T w.heap.size h.rv x w8):=Lib.hid (by
     have a2:=HX5.out.keep ((Chg.refl (fun _=>False) W5 τ5).drew) id
     have a3:=a2.keep hcB (by omega)
     exact ⟨hNb9.cell 10,hNb9.cell 4,a3.cell 0,a3.cell 1,a3.cell 2,a3.cell 3⟩)
    have HFF : Hid (∀ W,W = w8.setCell ⟨N,10,none⟩ (.slice (some ⟨g8,0,none⟩) (s.reads.length + 1) cap8) -> ∃ h',NodeAt W τ8 ts n N d k i (s.get i x r) h' /\ Chg (NN n) w τ W τ8):=Lib.hid fun W hW=>by
     obtain ⟨R,hR⟩ : ∃ R : List PRead,R = s.reads ++ [⟨x,t1⟩]:=⟨_,rfl⟩
     have e1 : R.length = s.reads.length + 1:=by rw [hR];simp
     have e2 : R.flatMap encD = s.reads.flatMap encD ++ encD ⟨x,t1⟩:=by rw [hR];simp
     have hr9 : Rw w8 τ8 (n + 192) 108 5 (.slice (some ⟨g8,0,none⟩) (s.reads.length + 1) cap8) R.length (R.flatMap encD):=by rw [e1,e2];exact hr8
     obtain ⟨k1,k2⟩:=HN6.out.setReads HF.out hr9 htB hcB hW
     rw [hR] at k1
     rw [HFn.out]
     exact ⟨_,k1,(HCC.out.mono fun _ h=>h.elim).trans k2⟩
    clear hr8 hc8 hg8 hcB htB hNb8 hNb9
    refine hK _ _ S9.out (hd_end ?_)
    clear hK
    simp only [List.length_cons,List.length_nil,List.drop_succ_cons,List.drop_zero,Nat.zero_add,Nat.reduceAdd]
    go_wp2_with fail
    refine bodyPost_end (by first | rfl | (simp [results];rfl)) rfl ?_
    obtain ⟨h',k1,k2⟩:=HFF.out _ rfl
    exact ⟨⟨_,rfl⟩,h',τ8,k1,k2⟩
 ·go_simp
  have hB2 : Below W0.heap.size W0 (W0.alloc (.cells #[.string ⟨#[]⟩,.string ⟨#[]⟩,.int .i64 0,.bool false] 178)).drew:=((Below.refl _ W0).alloc (Nat.le_refl _) _).drew
  have S2:=Lib.hid (HA.out _ hB2).1
  have hI2 : Blk (W0.alloc (.cells #[.string ⟨#[]⟩,.string ⟨#[]⟩,.int .i64 0,.bool false] 178)).drew W0.heap.size 178 #[.string ⟨#[]⟩,.string ⟨#[]⟩,.int .i64 0,.bool false]:=(Blk.new W0 178 #[.string ⟨#[]⟩,.string ⟨#[]⟩,.int .i64 0,.bool false]).drew
  have HB2:=Lib.hid hB2
  have HI2:=Lib.hid hI2
  clear hB2 hI2
  refine hK _ _ S2.out ?_
  clear hK
  generalize (W0.alloc (.cells #[.string ⟨#[]⟩,.string ⟨#[]⟩,.int .i64 0,.bool false] 178)).drew = W2 at *
  refine pl_one rfl fun K hK=>?_
  go_simp
  refine (HNo.out _ HB2.out).mono ?_
  rintro e w1 ⟨rfl,rfl⟩
  refine hK _ _ S2.out ?_
  clear hK S2
  refine pl_one rfl fun K hK=>?_
  go_simp
  refine (HG.out _ HB2.out).mono ?_
  rintro e w1 ⟨rfl,hb1⟩
  have HB1:=Lib.hid (HB2.out.trans (hb1.mono HB2.out.size))
  have S1:=Lib.hid (HA.out w1 HB1.out).1
  have hI1:=HI2.out.below hb1 HI2.out.lt
  have i0:=hI1.cell 0
  have i1:=hI1.cell 1
  have i2:=hI1.cell 2
  have i3:=hI1.cell 3
  have j0:=hI1.frozen 0
  have j1:=hI1.frozen 1
  have j2:=hI1.frozen 2
  have j3:=hI1.frozen 3
  have HI1:=Lib.hid hI1
  clear hb1 hI1
  refine hK _ _ S1.out ?_
  clear hK
  iterate 3 (refine pl_take (v:=?_) rfl (by kernel_rfl) (fun W hW=>?_) ?_;rotate_left;(first | (go_simp;done) | (go_simp;with_reducible rfl)))
  refine pl_one rfl fun K hK=>?_
  go_simp
  have HV5 : ((((w1.setCell ⟨W0.heap.size,0,none⟩ (.string a)).setCell ⟨W0.heap.size,1,none⟩ (.string vv)).setCell ⟨W0.heap.size,2,none⟩ (.int .i64 0)).setCell ⟨W0.heap.size,3,none⟩ (.bool g)).cell? ⟨W0.heap.size,1,none⟩ = some (.string vv):=((((HI1.out.set_ 0 (.string a)).set_ 1 (.string vv)).set_ 2 (.int .i64 0)).set_ 3 (.bool g)).cell 1
  have HB5:=Lib.hid ((((HB1.out.setCell (p:=⟨W0.heap.size,0,none⟩) (Nat.le_refl _) (.string a)).setCell (p:=⟨W0.heap.size,1,none⟩) (Nat.le_refl _) (.string vv)).setCell (p:=⟨W0.heap.size,2,none⟩) (Nat.le_refl _) (.int .i64 0)).setCell (p:=⟨W0.heap.size,3,none⟩) (Nat.le_refl _) (.bool g))
  have S5:=Lib.hid (HA.out _ HB5.out).1
  refine hK _ _ S5.out ?_
  clear hK S5 HB1 S1 HI1 HI2 HB2 i0 i1 i2 i3 j0 j1 j2 j3
  generalize hW5 : ((((w1.setCell ⟨W0.heap.size,0,none⟩ (.string a)).setCell ⟨W0.heap.size,1,none⟩ (.string vv)).setCell ⟨W0.heap.size,2,none⟩ (.int .i64 0)).setCell ⟨W0.heap.size,3,none⟩ (.bool g)) = W5 at *
  clear hW5
  refine pl_end ?_
  simp only [Plan.len,List.drop_succ_cons,List.drop_zero,Nat.zero_add,Nat.reduceAdd]
  obtain ⟨-,τ5,a1,a2,-,-,a5⟩:=HA.out W5 HB5.out
  obtain ⟨mv,pv,hNb,-,-⟩:=a1.out.ex
  have b0 : W5.cell? ⟨w.heap.size,0,none⟩ = some (.int .i64 (x.node : Int)):=a2.cell 0
  have b1 : W5.cell? ⟨w.heap.size,1,none⟩ = some (.int .i64 (x.id : Int)):=a2.cell 1
  have b2 : W5.cell? ⟨w.heap.size,2,none⟩ = some (.int .i64 (x.op : Int)):=a2.cell 2
  have b3 : W5.cell? ⟨w.heap.size,3,none⟩ = some (.string x.key):=a2.cell 3
  have S6 : Hid (GetT N h.T w.heap.size h.rv x W5.drew):=Lib.hid ⟨hNb.cell 10,hNb.cell 4,b0,b1,b2,b3⟩
  have HX5:=Lib.hid a2
  have HN5:=Lib.hid a1
  have HC5:=Lib.hid a5
  clear a1 a2 a5 hNb HA HG HNo S0
  cases hlv : liveR r with
  | some y=>
   obtain rfl:=HIT.out y hlv
   have HT:=Lib.hid (nodeTell W5 τ5 ts n N d k i s h HN5.out HF.out hl hl2 x 0 y.2.1 true)
   have HFn : Hid (s.get i x r = s.tell i x 0 y.2.1 true):=Lib.hid (by unfold PNode.get;rw [hlv])
   clear hlv
   go_wp2_with (go_at_call 112;fail)
   refine HT.out.mono ?_
   rintro e w6 ⟨⟨v6,rfl⟩,τ6,hn6,hc6⟩
   have HFF:=Lib.hid (And.intro hn6 (HC5.out.mono (fun _ h=>h.elim) |>.trans (hc6.mono fun x hx=>(show NN n x by have:=HF.out.1;rcases hx with e | e | e <;> (unfold NN;omega)))))
   clear hn6 hc6
   go_wp2
   refine bodyPost_ret (by first | exact results_none rfl _ _ _ | exact Great.results_none rfl _ _ _ | rfl) rfl ?_
   rw [HFn.out]
   exact ⟨⟨_,rfl⟩,h,τ6,HFF.out⟩
  | none=>
   have HFn : Hid (s.get i x r = { s with toks:=s.toks ++ [⟨x.key,true,false⟩],reads:=s.reads ++ [⟨x,s.toks.length + 1⟩] }):=Lib.hid (by unfold PNode.get;rw [hlv])
   clear hlv
   go_wp2_with fail
   refine wp_region_hl [12,14,15] [0,1,2,3,4,5,6,7,8,9,10,11,12,13,14,15] (GetT N h.T w.heap.size h.rv x) (by kernel_rfl) (by kernel_rfl) S6.out ?_
   iterate 12 (refine hd_take (v:=?_) rfl rfl (by kernel_rfl) (fun W hW=>?_) ?_;rotate_left;(obtain ⟨r0,r1,r2,r3,r4,r5⟩:=hW;first | (go_simp;done) | (go_simp;with_reducible rfl)))
   refine hd_loud rfl rfl fun K hK=>?_
   go_simp
   obtain ⟨t1,ht1⟩ : ∃ t,t = s.toks.length + 1:=⟨_,rfl⟩
   have hcd : Chg (fun _=>False) W5 τ5 W5.drew τ5:=(Chg.refl _ _ _).drew
   have hN6:=HN5.out.keep hcd HF.out.1 (fun _ h=>h.elim)
   have hTG:=tokGive W5.drew τ5 (n + 672) h.T s.toks x.key hN6.toks (by omega)
   rw [<- ht1] at hTG HFn
   refine hTG.mono ?_
   rintro e w6 ⟨rfl,ht6,hc6⟩
   generalize ext τ5 W5.drew (n + 672) = τ6 at ht6 hc6
   have hn95:=HF.out.1
   have hNS (W : World) (τ' : Own) (hc : Chg (fun x=>x = n + 192 \/ x = n + 672) W5.drew τ5 W τ') : GetT N h.T w.heap.size h.rv x W /\ Rw W τ' (n + 192) 108 5 h.rv s.reads.length (s.reads.flatMap encD) \/ True:=.inr trivial
   have hS (W : World) (τ' : Own) (hc : Chg (· = n + 672) W5.drew τ5 W τ') : GetT N h.T w.heap.size h.rv x W:=by
    obtain ⟨mv6,pv6,hNb,-,-⟩:=hN6.out.ex
    have a1:=hNb.keep hc (by omega)
    have a2:=(HX5.out.keep hcd id).keep hc (by omega)
    exact ⟨a1.cell 10,a1.cell 4,a2.cell 0,a2.cell 1,a2.cell 2,a2.cell 3⟩
   have S7:=Lib.hid (hS w6 τ6 hc6)
   have hr6:=hN6.reads.keep hc6 (by omega)
   have hcA:=hc6.alloc (.cells (encD ⟨x,t1⟩).toArray 108)
   have S8:=Lib.hid (hS _ τ6 hcA)
   have hrA:=hr6.alloc (.cells (encD ⟨x,t1⟩).toArray 108)
   have htA:=ht6.keep ((Chg.refl (fun _=>False) w6 τ6).alloc (.cells (encD ⟨x,t1⟩).toArray 108)) id
   have HRA:=Lib.hid hrA
   have HTA:=Lib.hid htA
   have HCA:=Lib.hid hcA
   have HN6:=Lib.hid hN6
   have HCC:=Lib.hid (HC5.out.trans hcd)
   have HFr:=Lib.hid hS
   clear hTG hcd hN6 hNS hS hr6 hcA hrA htA ht6 hc6 ht1
   refine hK _ _ S7.out ?_
   clear hK
   refine hd_take (v:=?_) rfl rfl (by kernel_rfl) (fun W hW=>?_) ?_
   rotate_left
   ·first | (go_simp;done) | (go_simp;with_reducible rfl)
   refine hd_loud rfl rfl fun K hK=>?_
   go_simp
   refine hK _ _ S8.out ?_
   clear hK
   refine hd_loud rfl rfl fun K hK=>?_
   refine st_app rfl rfl τ6 (n + 192) (by kernel_rfl) info108 rfl (by decide) (by decide) rfl HRA.out rfl rfl (Blk.new _ _ _).sl (encD_one ⟨x,t1⟩) (by omega) ?_
   intro g8 cap8 w8 hr8 hc8 hg8
   generalize ext τ6 _ (n + 192) = τ8 at hr8 hc8
   have hcB : Chg (fun x=>x = n + 192 \/ x = n + 672) W5.drew τ5 w8 τ8:=(HCA.out.mono fun x h=>.inr h).trans (hc8.mono fun x h=>.inl h)
   have htB:=HTA.out.keep hc8 (by omega)
   obtain ⟨mv8,pv8,hNb8,-,-⟩:=HN6.out.out.ex
   have hNb9:=hNb8.keep hcB (by omega)
   have d10:=hNb9.cell 10
   have g10:=hNb9.frozen 10
   have S9 : Hid (GetT N h.T w.heap.size h.rv x w8):=Lib.hid (by
    have a2:=HX5.out.keep ((Chg.refl (fun _=>False) W5 τ5).drew) id
    have a3:=a2.keep hcB (by omega)
    exact ⟨hNb9.cell 10,hNb9.cell 4,a3.cell 0,a3.cell 1,a3.cell 2,a3.cell 3⟩)
   have HFF : Hid (∀ W,W = w8.setCell ⟨N,10,none⟩ (.slice (some ⟨g8,0,none⟩) (s.reads.length + 1) cap8) -> ∃ h',NodeAt W τ8 ts n N d k i (s.get i x r) h' /\ Chg (NN n) w τ W τ8):=Lib.hid fun W hW=>by
    obtain ⟨R,hR⟩ : ∃ R : List PRead,R = s.reads ++ [⟨x,t1⟩]:=⟨_,rfl⟩
    have e1 : R.length = s.reads.length + 1:=by rw [hR];simp
    have e2 : R.flatMap encD = s.reads.flatMap encD ++ encD ⟨x,t1⟩:=by rw [hR];simp
    have hr9 : Rw w8 τ8 (n + 192) 108 5 (.slice (some ⟨g8,0,none⟩) (s.reads.length + 1) cap8) R.length (R.flatMap encD):=by rw [e1,e2];exact hr8
    obtain ⟨k1,k2⟩:=HN6.out.setReads HF.out hr9 htB hcB hW
    rw [hR] at k1
    rw [HFn.out]
    exact ⟨_,k1,(HCC.out.mono fun _ h=>h.elim).trans k2⟩
   clear hr8 hc8 hg8 hcB htB hNb8 hNb9
   refine hK _ _ S9.out (hd_end ?_)
   clear hK
   simp only [List.length_cons,List.length_nil,List.drop_succ_cons,List.drop_zero,Nat.zero_add,Nat.reduceAdd]
   go_wp2_with fail
   refine bodyPost_end (by first | rfl | (simp [results];rfl)) rfl ?_
   obtain ⟨h',k1,k2⟩:=HFF.out _ rfl
   exact ⟨⟨_,rfl⟩,h',τ8,k1,k2⟩
end Go.Proofs.Ytlhekbjidppijaa
namespace Go.Proofs.Ytlhekbjidppijaa
open Go.RowKit
def ownerK (ns : List Nat) (key : ByteArray) : Nat:=owner ns (Plain.mix [nb key])
def servesF (s : PNode) (i now : Nat) (ns : List Nat) (key : ByteArray) : Bool:=decide (ownerK ns key = i) && goodF s.ep s.en now s.m.e
def SrvS (N S k : Nat) (h : Hd) (W : World) : Prop:=
 W.cell? ⟨N,0,none⟩ = some (.pointer (some ⟨S,0,none⟩)) /\ W.cell? ⟨N,1,none⟩ = some (.pointer (some ⟨h.L,0,none⟩)) /\ W.cell? ⟨N,2,none⟩ = some (.int .i64 (h.id : Int)) /\ W.cell? ⟨N,3,none⟩ = some h.rg /\ W.cell? ⟨S,2,none⟩ = some (.pointer (some ⟨k,0,none⟩))
theorem field45_1 (a b c : Int) (f : Bool) (W : World) : (Instr.field 45 (.agg #[.int .i64 a,.int .i64 b,.int .i64 c,.bool f]) 1).run Tryz.prog W = .ok (.int .i64 b) W:=by kernel_rfl
theorem field45_3 (a b c : Int) (f : Bool) (W : World) : (Instr.field 45 (.agg #[.int .i64 a,.int .i64 b,.int .i64 c,.bool f]) 3).run Tryz.prog W = .ok (.bool f) W:=by kernel_rfl
set_option maxRecDepth 20000 in
set_option maxHeartbeats 1000000 in
theorem serves33 (w : World) (τ : Own) (ts n N d k i tk now : Nat) (s : PNode) (h : Hd) (H : NodeAt w τ ts n N d k i s h) (hk : ClockAt w τ tk k now) (ns : List Nat) (hr : s.ring = some ns) (hf : s.m.f = false) (key : ByteArray) (hks : key.size <= 1000) (hn : n < 95) :
 Calls Tryz.prog 33 #[.pointer (some ⟨N,0,none⟩),.string key] w fun e w'=>e = .returned (.bool (servesF s i now ns key)) /\ Below w.heap.size w w':=by
 obtain ⟨hid,-,hout,hst,hle,-,-,-,hrg⟩:=H
 rw [hr] at hrg
 obtain ⟨r,hrv,hring,hok⟩:=hrg
 obtain ⟨mv,pv,hN,-,-⟩:=hout.ex
 obtain ⟨c,j,kp,hS,-,-,hK,-⟩:=hst.ex
 have HA : Hid (∀ W,Below w.heap.size w W -> SrvS N h.S kp h W /\ (∃ τ',RingAt W τ' (n + 768) r 1 ns /\ KeeperAt W τ' (ts + 1) kp d 0 s.tn s.m /\ LeaseAt W τ' (n + 576) h.L k s.ep s.en s.top /\ ClockAt W τ' tk k now)):=Lib.hid fun W hb=>by
  have hc : Chg (fun _=>False) w τ W (ext τ w 0):=Chg.of_below hb _
  have hN':=hN.keep hc id
  have hS':=hS.keep hc id
  exact ⟨⟨hN'.cell 0,hN'.cell 1,hN'.cell 2,hN'.cell 3,hS'.cell 2⟩,_,hring.keep hc id,hK.keep hc id id,hle.keep hc id,hk.keep hc id⟩
 have HOK:=Lib.hid hok
 have S0:=Lib.hid (HA.out w.drew (Below.refl _ w).drew).1
 clear hN hS hring hK hle hk hout hst hok
 have hrv':=hrv
 obtain ⟨hS',hL',hid',hrg',hT',hwv',hrv2,ha'⟩:=h
 dsimp only at *
 subst hrv
 subst hid
 have hf1:=field45_1
 have hf3:=field45_3
 go_enter Tryz.func33,Tryz.ntmps33
 go_wp2_with fail
 have HOf : Hid (∀ W,Below w.heap.size w W -> Calls Tryz.prog 46 #[.pointer (some ⟨r,0,none⟩),.string key] W fun e w'=>e = .returned (.int .i64 (ownerK ns key : Int)) /\ Below W.heap.size W w'):=Lib.hid fun W hb=>by
  obtain ⟨-,τ',h1,-⟩:=HA.out W hb
  exact of46 W τ' (n + 768) r 1 key ns h1 HOK.out (by omega)
 have HMe : Hid (∀ W,Below w.heap.size w W -> Calls Tryz.prog 48 #[.pointer (some ⟨kp,0,none⟩)] W fun e w'=>e = .returned (.agg #[.int .i64 (s.m.b : Int),.int .i64 (s.m.e : Int),.int .i64 (s.m.r : Int),.bool s.m.f]) /\ Below W.heap.size W w'):=Lib.hid fun W hb=>by
  obtain ⟨-,τ',-,h2,-⟩:=HA.out W hb
  exact meta48 W τ' (ts + 1) kp d 0 s.tn s.m h2
 have HGo : Hid (∀ W,Below w.heap.size w W -> Calls Tryz.prog 47 #[.pointer (some ⟨hL',0,none⟩),.int .i64 (s.m.e : Int)] W fun e w'=>e = .returned (.bool (goodF s.ep s.en now s.m.e)) /\ Below W.heap.size W w'):=Lib.hid fun W hb=>by
  obtain ⟨-,τ',-,-,h3,h4⟩:=HA.out W hb
  refine (good47 W τ' (n + 576) hL' k s.ep s.en s.top tk now s.m.e h3 h4).mono ?_
  rintro e w' ⟨rfl,q,rfl⟩
  exact ⟨rfl,below_drewN' (Below.refl _ _) _⟩
 refine wp_region_hl [8,27] [0,1,2,3,4,5,6,7,9,10,11,12,8,13,14,15,16,17,18,19,20,21,22,23,24,25,26,27,28] (SrvS N hS' kp ⟨hS',hL',hid',.pointer (some ⟨r,0,none⟩),hT',hwv',hrv2,ha'⟩) (by kernel_rfl) (by kernel_rfl) S0.out ?_
 iterate 12 (refine hd_take (v:=?_) rfl rfl (by kernel_rfl) (fun W hW=>?_) ?_;rotate_left;(obtain ⟨r0,r1,r2,r3,r4⟩:=hW;first | (go_simp;done) | (go_simp;with_reducible rfl)))
 refine hd_loud rfl rfl fun K hK=>?_
 go_simp
 refine (HOf.out _ (Below.refl _ w).drew).mono ?_
 rintro e w1 ⟨rfl,hb1⟩
 have HB1:=Lib.hid ((Below.refl w.heap.size w).drew.trans (hb1.mono (Nat.le_refl _)))
 have S1:=Lib.hid (HA.out w1 HB1.out).1
 clear hb1
 refine hK _ _ S1.out ?_
 clear hK
 have HSF : Hid (servesF s hid' now ns key = (decide (ownerK ns key = hid') && goodF s.ep s.en now s.m.e)):=Lib.hid rfl
 generalize ownerK ns key = ow at HSF ⊢
 by_cases how : ow = hid'
 ·subst how
  have HSF2 : Hid (servesF s ow now ns key = goodF s.ep s.en now s.m.e):=Lib.hid (by rw [HSF.out];simp)
  clear HSF
  iterate 14 (refine hd_take (v:=?_) rfl rfl (by kernel_rfl) (fun W hW=>?_) ?_;rotate_left;(obtain ⟨r0,r1,r2,r3,r4⟩:=hW;first | (go_simp;done) | (go_simp;with_reducible rfl)))
  refine hd_loud rfl rfl fun K hK=>?_
  go_simp
  refine (HMe.out _ HB1.out).mono ?_
  rintro e w2 ⟨rfl,hb2⟩
  have HB2:=Lib.hid (HB1.out.trans (hb2.mono HB1.out.size))
  have S2:=Lib.hid (HA.out w2 HB2.out).1
  clear hb2
  refine hK _ _ S2.out ?_
  clear hK
  refine hd_take (v:=?_) rfl rfl (by kernel_rfl) (fun W hW=>?_) (hd_end ?_)
  rotate_left
  ·first | (go_simp;done) | (go_simp;with_reducible rfl)
  simp only [List.length_cons,List.length_nil,List.drop_succ_cons,List.drop_zero,Nat.zero_add,Nat.reduceAdd]
  go_wp2_with (go_at_call 47;fail)
  refine (HGo.out _ HB2.out).mono ?_
  rintro e w3 ⟨rfl,hb3⟩
  have HB3:=Lib.hid (HB2.out.trans (hb3.mono HB2.out.size))
  have S3:=Lib.hid (HA.out w3 HB3.out)
  obtain ⟨⟨q0,q1,q2,q3,q4⟩,-⟩:=HA.out w3 HB3.out
  have HMe3:=Lib.hid (HMe.out _ HB3.out)
  rw [hf] at HMe3
  clear hb3
  cases hg : goodF s.ep s.en now s.m.e with
  | false=>
   rw [hg] at HSF2
   clear hg
   go_wp2
   go_ret
   exact ⟨by rw [HSF2.out];rfl,HB3.out⟩
  | true=>
   rw [hg] at HSF2
   clear hg
   go_wp2_with (go_at_call 48;fail)
   refine HMe3.out.mono ?_
   rintro e w4 ⟨rfl,hb4⟩
   have HB4:=Lib.hid (HB3.out.trans (hb4.mono HB3.out.size))
   clear hb4
   go_wp2
   go_ret
   exact ⟨by rw [HSF2.out];rfl,HB4.out⟩
 ·have HSF2 : Hid (servesF s hid' now ns key = false):=Lib.hid (by rw [HSF.out];simp [how])
  have e1 : ((ow : Int) == (hid' : Int)) = false:=by rw [beq_eq_false_iff_ne];omega
  have e2 : ¬ ((ow : Int) = (hid' : Int)):=by omega
  have e3 : ¬ (ow = hid'):=how
  have e4 : ((ow : Int) != (hid' : Int)) = true:=by simp;omega
  clear HSF how
  refine hd_take (v:=.bool true) rfl rfl (by kernel_rfl) (fun W hW=>?_) ?_
  ·go_simp
  iterate 2 (refine hd_take (v:=?_) rfl rfl (by kernel_rfl) (fun W hW=>?_) ?_;rotate_left;(obtain ⟨r0,r1,r2,r3,r4⟩:=hW;first | (go_simp;done) | (go_simp;with_reducible rfl)))
  iterate 11 (refine hd_skip rfl rfl (by kernel_rfl) ?_)
  refine hd_loud rfl rfl fun K hK=>?_
  go_simp
  refine hK _ _ S1.out ?_
  clear hK
  refine hd_skip rfl rfl (by kernel_rfl) (hd_end ?_)
  simp only [List.length_cons,List.length_nil,List.drop_succ_cons,List.drop_zero,Nat.zero_add,Nat.reduceAdd]
  go_wp2
  go_ret
  exact ⟨by rw [HSF2.out];rfl,HB1.out⟩
end Go.Proofs.Ytlhekbjidppijaa
