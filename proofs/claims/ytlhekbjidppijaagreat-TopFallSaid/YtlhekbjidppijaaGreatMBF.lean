/- Contracts of what TopFall reaches: what each function returns and leaves in memory. Conditions: as named. -/
import Derived.Test.YtlhekbjidppijaaGreatMBE
set_option linter.unusedVariables false
set_option linter.unusedSimpArgs false
set_option maxRecDepth 20000
set_option maxHeartbeats 8000000
namespace Go.Proofs.Ytlhekbjidppijaa
open Lib (hid)
open Go.RowKit
theorem replayFrom_append (a b:List FRec):∀ i s,replayFrom i (a++b) s=(replayFrom i a s).bind (replayFrom (i+a.length) b):=by
 induction a with
 | nil=>intro i s;rfl
 | cons r a ih=>
  intro i s;show(recStep i r s).bind (replayFrom (i+1) (a++b))=((recStep i r s).bind (replayFrom (i+1) a)).bind _
  cases recStep i r s with
  | none=>rfl
  | some t=>
   show replayFrom (i+1) (a++b) t=(replayFrom (i+1) a t).bind _;rw[ih,List.length_cons,show i+1+a.length=i+(a.length+1) by omega]
theorem replay_take {rs:List FRec}{b:List Place × Nat × Nat}(h:replay rs=some b)(k:Nat):∃ s,replay (rs.take k)=some s:=by
 have e:=replayFrom_append (rs.take k) (rs.drop k) 0 (List.replicate 16 Place.zero,0,0);rw[List.take_append_drop]at e
 cases hs:replay (rs.take k) with
 | some s=>exact⟨s,rfl⟩
 | none=>
  rw[show replayFrom 0 rs _=some b from h,show replayFrom 0 (rs.take k) _=none from hs]at e
  cases e
theorem replay_next {rs:List FRec}{b s:List Place × Nat × Nat}{k:Nat}{r:FRec}(h:replay rs=some b)(hr:rs[k]? = some r)(hs:replay (rs.take k)=some s):∃ t,recStep k r s=some t/\replay (rs.take (k+1))=some t:=by
 obtain⟨t,ht⟩:=replay_take h (k+1);have hk:=(List.getElem?_eq_some_iff.1 hr).1
 have e:rs.take (k+1)=rs.take k++[r]:=by rw[List.take_add_one,hr];rfl
 have ht':=ht;rw[e,replay_snoc,hs,Option.bind_some,List.length_take,Nat.min_eq_left (by omega)]at ht';exact⟨t,ht',ht⟩
theorem mapP_life {n:Nat}{a:List Place × Nat × Nat}(bs:List (List UInt8))(h:PlB n a)(hn:n<=bs.length):mapP (if bs=[] then none else some bs.length) a.1=a.1:=by
 split
 ·exact mapP_none h
 ·exact mapP_same h hn
theorem readw258 (w:World)(b c:Nat)(hc1:1<=c)(hc:c<=9223372036854775807)(hs:Sl w (some ⟨b,0,none⟩) (ub [2])) :
 Calls Tryz.prog 258 #[.slice (some ⟨b,0,none⟩) 1 c] w fun e w'=>e=.returned (.tuple #[.agg #[.string ⟨#[]⟩,.string ⟨#[]⟩,.int .i64 0,.bool false],.bool false])/\Below w.heap.size w w':=by
 have HC0:Hid (∀ W,Below w.heap.size w W->W.cell? ⟨b,0,none⟩=some (.int .u8 2)):=hid fun W hb=>by
  obtain⟨b',o',e,hcc⟩:=(hs.keep hb) (by simp[ub])
  cases e
  exact hcc 0 _ (by simp[ub])
 obtain⟨W1,hW1⟩:∃ W,W=w.alloc (.cells #[.string ⟨#[]⟩,.string ⟨#[]⟩,.int .i64 0,.bool false] 178):=⟨_,rfl⟩
 have hB1:Below w.heap.size w W1:=by rw[hW1];exact(Below.refl _ _).alloc (Nat.le_refl _) _
 have hK1:Blk W1 w.heap.size 178 #[.string ⟨#[]⟩,.string ⟨#[]⟩,.int .i64 0,.bool false]:=by rw[hW1];exact Blk.new _ _ _
 have k4:(1:Int)<=(c:Int):=by omega
 have d0:(w.alloc (.cells #[.string ⟨#[]⟩,.string ⟨#[]⟩,.int .i64 0,.bool false] 178)).cell? ⟨b,0,none⟩=some (.int .u8 2):=HC0.out _ ((Below.refl _ _).alloc (Nat.le_refl _) _)
 have s0:(w.alloc (.cells #[.string ⟨#[]⟩,.string ⟨#[]⟩,.int .i64 0,.bool false] 178)).cell? ⟨w.heap.size,0,none⟩=some (.string ⟨#[]⟩):=by rw[<- hW1];exact hK1.cell 0
 have s1:(w.alloc (.cells #[.string ⟨#[]⟩,.string ⟨#[]⟩,.int .i64 0,.bool false] 178)).cell? ⟨w.heap.size,1,none⟩=some (.string ⟨#[]⟩):=by rw[<- hW1];exact hK1.cell 1
 have s2:(w.alloc (.cells #[.string ⟨#[]⟩,.string ⟨#[]⟩,.int .i64 0,.bool false] 178)).cell? ⟨w.heap.size,2,none⟩=some (.int .i64 0):=by rw[<- hW1];exact hK1.cell 2
 have s3:(w.alloc (.cells #[.string ⟨#[]⟩,.string ⟨#[]⟩,.int .i64 0,.bool false] 178)).cell? ⟨w.heap.size,3,none⟩=some (.bool false):=by rw[<- hW1];exact hK1.cell 3
 have HK:=hid (And.intro hW1 (And.intro hB1 hK1));clear hW1 hB1 hK1 hs;go_enter Tryz.func258,Tryz.ntmps258
 go_wp2
 have hb:=HK.out.2.1;rw[HK.out.1]at hb;exact bodyPost_ret (v:=.tuple #[.agg #[.string ⟨#[]⟩,.string ⟨#[]⟩,.int .i64 0,.bool false],.bool false]) (by simp[results,Tryz.results258,go_sem,s0,s1,s2,s3]) rfl ⟨rfl,hb⟩
structure OL (w0:World)(U0:Own)(tc c lp:Nat)(recs:List FRec)(k:Nat)(W:World):Prop where
 ex:∃ U' x pl n used,Has W U' tc c 274 #[.pointer (some ⟨lp,0,none⟩),.pointer (some ⟨x,0,none⟩)]/\IndexAt W U' (tc+1) x pl n used/\replay (recs.take k)=some (pl,n,used)/\Chg (fun z=>z=tc\/z=tc+1) w0 U0 W U'
def OpS (c x b2:Nat)(key:ByteArray)(W:World):Prop:=W.cell? ⟨c,1,none⟩=some (.pointer (some ⟨x,0,none⟩))/\W.cell? ⟨b2,0,none⟩=some (.string key)
def OpT (c x b1 b2 k:Nat)(key:ByteArray)(W:World):Prop:=W.cell? ⟨c,1,none⟩=some (.pointer (some ⟨x,0,none⟩))/\W.cell? ⟨b2,0,none⟩=some (.string key)/\W.cell? ⟨b1,0,none⟩=some (.int .i64 ((k:Int)+1))
theorem open226 (w:World)(U:Own)(tc td d n from_ segs:Nat)(Z:Cont)(F:Nat->Prop)(recs:List FRec)(pl':List Place)(n' used':Nat)(hD:DevAt w U td d n Z F)(ht:tc+2<95)(htd:td<95/\(td<tc\/tc+2<td))(hs:3<=segs)(hs2:segs<=200)(hn:from_+segs*8<=n)(hn2:n<=2048)
 (hon:OnDisk Z from_ segs (recs.map FRec.bytes))(hpk:(pack (recs.map FRec.bytes)).length<=12)(hok:∀ r∈recs,r.ok=true)(hle:recs.length<=segs)(hrp:replay recs=some (pl',n',used')) :
 Calls Tryz.prog 226 #[.pointer (some ⟨d,0,none⟩),.int .i64 (from_:Int),.int .i64 (segs:Int)] w fun e w'=>∃ c U',e=.returned (.tuple #[.pointer (some ⟨c,0,none⟩),.int .i64 0])/\FlashAt w' U' tc c d from_ segs n (if recs.map FRec.bytes=[] then none else some (recs.map FRec.bytes).length) Z ⟨recs,pl',n',used'⟩/\DevAt w' U' td d n Z F/\Chg (fun x=>tc<=x%96/\x%96<=tc+2) w U w' U':=by
 have hbl:∀ l∈recs.map FRec.bytes,1<=l.length/\l.length<=200:=fun l hl=>by
  obtain⟨r,hr,rfl⟩:=List.mem_map.1 hl;exact r.ok_len (hok r hr)
 obtain⟨lf,hlf⟩:∃ lf:Lf,lf=if recs.map FRec.bytes=[] then none else some (recs.map FRec.bytes).length:=⟨_,rfl⟩
 have HOP:=hid (open255 w U (tc+2) td d n from_ segs Z F (recs.map FRec.bytes) hD ht htd.1 (by omega) hs hs2 hn hn2 hon hpk (by rw[List.length_map];omega) (fun l hl=>by have:=hbl l hl;omega));rw[<- hlf]at HOP ⊢;have HN:Hid ((tc+2<95/\from_+segs*8<=n/\n<=2048)/\(∀ r∈recs,r.ok=true)/\recs.length<=segs/\segs<=200):=hid ⟨⟨ht,hn,hn2⟩,hok,hle,hs2⟩;have hPB:=replay_ok hok hrp
 have hmp:mapP lf pl'=pl':=by rw[hlf];exact mapP_life _ hPB (by rw[List.length_map];exact Nat.le_refl _)
 have HFN:Hid (PlOk (mapP lf pl')/\mapP lf pl'=pl'):=hid ⟨hPB.ok (by omega),hmp⟩
 have HPZ:Hid (∀ k,k<recs.length->pz lf k=k+1):=hid fun k hk=>by
  rw[hlf]
  split
  ·rfl
  ·simp only[pz,List.length_map];rw[if_pos hk]
 have HRP:=hid hrp;have HTD:=hid htd;have HBL:=hid hbl
 have hl1:recs.length<=200:=by omega
 clear hD ht htd hs hs2 hn hn2 hon hpk hok hle hrp hlf hPB hmp hbl;go_enter Tryz.func226,Tryz.ntmps226
 go_wp2_with fail
 refine HOP.out.mono ?_;rintro e w1 ⟨lp,U1,rfl,a1,a2,a3⟩;have HNEW:=hid (new257 w1 U1 (tc+1));have HA:=hid (And.intro a1 (And.intro a2 a3));clear a1 a2 a3 HOP
 go_wp2_with fail
 refine HNEW.out.mono ?_;rintro e w2 ⟨x,rfl,hi,hb⟩;have hn:=HN.out.1;have ht2:=HTD.out;have hq:Chg (fun _=>False) w1 U1 w2 (ext U1 w1 (tc+1)):=Chg.of_below hb _;have hq2:Chg (fun _=>False) w2 (ext U1 w1 (tc+1)) (w2.alloc (.cells #[.pointer (some ⟨lp,0,none⟩),.pointer (some ⟨x,0,none⟩)] 274)) (ext (ext U1 w1 (tc+1)) w2 tc):=((Chg.refl _ _ _).alloc _).ext tc;have hq3:=hq.trans hq2;obtain⟨c,hc⟩:∃ c,c=w2.heap.size:=⟨_,rfl⟩
 have HF:Hid (LogAt (w2.alloc (.cells #[.pointer (some ⟨lp,0,none⟩),.pointer (some ⟨x,0,none⟩)] 274)) (ext (ext U1 w1 (tc+1)) w2 tc) (tc+2) lp d from_ segs true lf Z (recs.map FRec.bytes)/\IndexAt (w2.alloc (.cells #[.pointer (some ⟨lp,0,none⟩),.pointer (some ⟨x,0,none⟩)] 274)) (ext (ext U1 w1 (tc+1)) w2 tc) (tc+1) x (List.replicate 16 Place.zero) 0 0/\Has (w2.alloc (.cells #[.pointer (some ⟨lp,0,none⟩),.pointer (some ⟨x,0,none⟩)] 274)) (ext (ext U1 w1 (tc+1)) w2 tc) tc c 274 #[.pointer (some ⟨lp,0,none⟩),.pointer (some ⟨x,0,none⟩)]/\DevAt (w2.alloc (.cells #[.pointer (some ⟨lp,0,none⟩),.pointer (some ⟨x,0,none⟩)] 274)) (ext (ext U1 w1 (tc+1)) w2 tc) td d n Z F/\Chg (fun x=>x%96=tc+2) w U (w2.alloc (.cells #[.pointer (some ⟨lp,0,none⟩),.pointer (some ⟨x,0,none⟩)] 274)) (ext (ext U1 w1 (tc+1)) w2 tc)):=hid
  ⟨HA.out.1.keep hq3 (fun _ e=>e.elim),hi.keep hq2 id,⟨by rw[hc];exact Blk.new _ _ _,by rw[hc];exact ext_new (Nat.le_refl _)⟩,HA.out.2.1.keep hq3 id,HA.out.2.2.trans (hq3.mono fun _ e=>e.elim)⟩
 clear hi hb hn ht2 hq hq2 hq3 HNEW HA;have HCC:=hid hc;clear hc
 go_wp2_with fail
 rw[<- HCC.out];clear HCC;generalize w2.alloc (.cells #[.pointer (some ⟨lp,0,none⟩),.pointer (some ⟨x,0,none⟩)] 274)=W3 at *;generalize ext (ext U1 w1 (tc+1)) w2 tc=U3 at *;refine(all256 W3 U3 (tc+2) lp d from_ segs true lf Z _ HF.out.1 (by rw[List.length_map];omega) (fun l hl=>by have:=HBL.out l hl;omega)).mono ?_;rintro e w4 ⟨v,y,U4,rfl,hy,hR,hc4⟩;obtain⟨vs,v1,v2,v3⟩:=hR.ex;obtain⟨A,cA,rfl,-⟩:=v2.slice
 have hYn:y≠tc/\y≠tc+1:=by have:=HN.out.1.1;omega
 have HREC:Hid (∀ (k:Nat) (r:FRec),recs[k]? = some r->∃ B o Yb cy,A=some ⟨B,o,none⟩/\1<=r.bytes.length/\r.bytes.length<=cy/\cy<=9223372036854775807/\∀ W U',Chg (fun z=>z=tc\/z=tc+1) w4 U4 W U' ->
  W.cell? ⟨B,o+k*2,none⟩=some (.int .i64 ((k:Int)+1))/\W.cell? ⟨B,o+k*2+1,none⟩=some (.slice (some ⟨Yb,0,none⟩) r.bytes.length cy)/\Sl W (some ⟨Yb,0,none⟩) (ub r.bytes)/\Yb<W.heap.size):=hid fun k r hr=>by
  have hk:k<recs.length:=(List.getElem?_eq_some_iff.1 hr).1
  have hbr:(recs.map FRec.bytes)[k]? = some r.bytes:=by rw[List.getElem?_map,hr];rfl
  obtain⟨B,o,Yb,cy,e,y1,y2,y3,h⟩:=hR.at (T:=fun z=>z=tc\/z=tc+1) (by omega) k _ hbr;refine⟨B,o,Yb,cy,e,y1,y2,y3,fun W U' hc=>?_⟩;have:=h W U' hc;rw[HPZ.out k hk]at this;exact this
 have HC4:=hid hc4;have HY:=hid hYn;rw[List.length_map];have HOL:Hid (OL w4 U4 tc c lp recs 0 w4):=hid ⟨U4,x,_,0,0,HF.out.2.2.1.keep hc4 id,HF.out.2.1.keep hc4 id,rfl,Chg.refl _ _ _⟩;clear hR hc4 hy vs v1 v2 v3 hYn
 go_wp2
 go_loopw [32] (fun i wr=>∃ k:Nat,k<=recs.length/\i=.int .i64 (k:Int)/\OL w4 U4 tc c lp recs k wr) (fun i _=>recs.length-(intOf i).toNat)
 case atStart=>exact⟨0,Nat.zero_le _,rfl,HOL.out⟩
 case round=>
  obtain⟨k,hk,rfl,hol⟩:=hrel;obtain⟨U',x',pl,m,u,h1,h2,h3,h4⟩:=hol.ex;clear hol HOL
  by_cases hlt:k<recs.length
  ·obtain⟨r,hr⟩:∃ r,recs[k]? = some r:=⟨_,List.getElem?_eq_getElem hlt⟩
   obtain⟨⟨pl2,m2,u2⟩,hst,hnx⟩:=replay_next HRP.out hr h3;obtain⟨B,o,Yb,cy,rfl,y0,y1,y2,hW⟩:=HREC.out k r hr;obtain⟨d1,d2,d3,d4⟩:=hW wr U' h4;have hrok:=HN.out.2.1 r (List.mem_of_getElem? hr);have hPB:=replay_ok (fun q hq=>HN.out.2.1 q (List.mem_of_mem_take hq)) h3
   have k1:(k:Int)<(recs.length:Int):=by omega
   have k2:(0:Int)<=(k:Int):=by omega
   obtain⟨b1,hb1⟩:∃ b,b=wr.heap.size:=⟨_,rfl⟩;obtain⟨wa,hwa⟩:∃ W,W=wr.alloc (.cells #[.int .i64 ((k:Int)+1),.slice (some ⟨Yb,0,none⟩) r.bytes.length cy] 359):=⟨_,rfl⟩
   have hqa:Chg (fun _=>False) wr U' wa (ext U' wr 95):=by rw[hwa];exact((Chg.refl _ _ _).alloc _).ext 95
   have hka:Has wa (ext U' wr 95) 95 b1 359 #[.int .i64 ((k:Int)+1),.slice (some ⟨Yb,0,none⟩) r.bytes.length cy]:=by rw[hwa,hb1];exact⟨Blk.new _ _ _,ext_new (Nat.le_refl _)⟩
   have HST:=hid (And.intro hst (And.intro hnx (And.intro hrok hPB)));have HO:=hid (And.intro h1 (And.intro h2 h4));have HA2:=hid (And.intro hqa (And.intro hka (And.intro hwa hb1)));have HSL:=hid (And.intro d3 d4);have HYY:=hid (And.intro y0 (And.intro y1 y2));clear hst hnx hrok h1 h2 h3 h4 hqa hka hwa hb1 d3 d4 hPB hW hr y0 y1 y2
   cases r with
   | wipe=>
    replace d2:wr.cell? ⟨B,o+k*2+1,none⟩=some (.slice (some ⟨Yb,0,none⟩) 1 cy):=d2;have HA3:Hid (wa=wr.alloc (.cells #[.int .i64 ((k:Int)+1),.slice (some ⟨Yb,0,none⟩) 1 cy] 359)):=hid HA2.out.2.2.1
    go_wp2_with fail
    rw[<- HA3.out,<- HA2.out.2.2.2];refine(readw258 wa Yb cy HYY.out.2.1 HYY.out.2.2 (HSL.out.1.keep HA2.out.1.below)).mono ?_;rintro e wb ⟨rfl,hbb⟩;have hcb:Chg (fun _=>False) wr U' (wb.alloc (.cells #[.string ⟨#[]⟩,.string ⟨#[]⟩,.int .i64 0,.bool false] 178)) (ext (ext (ext U' wr 95) wa 95) wb 95):=(HA2.out.1.trans (Chg.of_below hbb 95)).trans (((Chg.refl _ _ _).alloc _).ext 95);have hkb:=(HA2.out.2.1.keep (Chg.of_below (T:=fun _=>False) hbb 95) id).keep (((Chg.refl (fun _=>False) wb (ext (ext U' wr 95) wa 95)).alloc (.cells #[.string ⟨#[]⟩,.string ⟨#[]⟩,.int .i64 0,.bool false] 178)).ext 95) id;have f1:(wb.alloc (.cells #[.string ⟨#[]⟩,.string ⟨#[]⟩,.int .i64 0,.bool false] 178)).cell? ⟨b1,1,none⟩=some (.slice (some ⟨Yb,0,none⟩) 1 cy):=hkb.cell 1
    have f2:(wb.alloc (.cells #[.string ⟨#[]⟩,.string ⟨#[]⟩,.int .i64 0,.bool false] 178)).cell? ⟨Yb,0,none⟩=some (.int .u8 2):=by
     obtain⟨b',o',e,hcc⟩:=(HSL.out.1.keep hcb.below) (by simp[FRec.bytes,ub])
     cases e
     exact hcc 0 _ (by simp[FRec.bytes,ub])
    have HCB:=hid hcb
    have f4:(0:Int)<1:=by decide
    clear hbb hcb hkb d1 d2
    go_wp2_with fail
    generalize wb.alloc (.cells #[.string ⟨#[]⟩,.string ⟨#[]⟩,.int .i64 0,.bool false] 178)=wc at *;generalize ext (ext (ext U' wr 95) wa 95) wb 95=Uc at *;refine(new257 wc Uc (tc+1)).mono ?_;rintro e wd ⟨x2,rfl,hi2,hbd⟩;have hcd:Chg (fun _=>False) wr U' wd (ext Uc wc (tc+1)):=HCB.out.trans (Chg.of_below hbd _);have hc1:=HO.out.1.keep hcd id;have g1:wd.cell? ⟨c,1,none⟩=some (.pointer (some ⟨x',0,none⟩)):=hc1.cell 1;have g2:=hc1.frozen 1;have HD2:=hid (And.intro hcd (And.intro hi2 hc1));clear hcd hi2 hbd hc1 f1 f2
    go_wp2
    go_roundw
    case rel=>
     obtain⟨hcd,hi2,hc1⟩:=HD2.out;obtain⟨hst,hnx,-,-⟩:=HST.out;have hs2:Chg (· = tc) wd (ext Uc wc (tc+1)) (wd.setCell ⟨c,1,none⟩ (.pointer (some ⟨x2,0,none⟩))) (ext Uc wc (tc+1)):=(Chg.refl _ _ _).setCell (p:=⟨c,1,none⟩) hc1.own _;refine⟨k+1,by omega,by go_num,⟨_,x2,List.replicate 16 Place.zero,0,0,?_,hi2.keep hs2 (by omega),?_,(HO.out.2.2.trans (hcd.mono fun _ e=>e.elim)).trans (hs2.mono fun z e=>.inl e)⟩⟩
     ·have:=hc1.set_ 1 (.pointer (some ⟨x2,0,none⟩))
      simpa using this
     ·rw[hnx,<- hst]
      rfl
    case measure=>simp[intOf];omega
   | entry key val g=>
    have HRE:Hid (∀ W,Sl W (some ⟨Yb,0,none⟩) (ub (FRec.entry key val g).bytes)->Calls Tryz.prog 258 #[.slice (some ⟨Yb,0,none⟩) (FRec.entry key val g).bytes.length cy] W fun e w'=>e=.returned (.tuple #[.agg #[.string key,.string val,.int .i64 0,.bool g],.bool true])/\Below W.heap.size W w'):=hid fun W h=>read258 W Yb cy _ key val g HST.out.2.2.1 rfl HYY.out.2.1 HYY.out.2.2 h
    have hm5:5<=(FRec.entry key val g).bytes.length:=by simp[FRec.bytes,ibs_length]
    generalize (FRec.entry key val g).bytes=body at *;generalize body.length=mm at *
    have mm1:decide ((mm:Int)=1)=false:=by rw[decide_eq_false_iff_not];omega
    have mm2:((mm:Int) == 1)=false:=by rw[beq_eq_false_iff_ne];omega
    have mm3:¬ mm=1:=by omega
    have hks:=HST.out.2.2.1;simp only[FRec.ok,Bool.and_eq_true,decide_eq_true_eq]at hks;have HKS:Hid (key.size<64):=hid hks.1.2;clear hks
    go_wp2_with fail
    rw[<- HA2.out.2.2.1,<- HA2.out.2.2.2];refine(HRE.out wa (HSL.out.1.keep HA2.out.1.below)).mono ?_;rintro e wb ⟨rfl,hbb⟩;have hcb:Chg (fun _=>False) wr U' (wb.alloc (.cells #[.string key,.string val,.int .i64 0,.bool g] 178)) (ext (ext (ext U' wr 95) wa 95) wb 95):=(HA2.out.1.trans (Chg.of_below hbb 95)).trans (((Chg.refl _ _ _).alloc _).ext 95);have hkb:=(HA2.out.2.1.keep (Chg.of_below (T:=fun _=>False) hbb 95) id).keep (((Chg.refl (fun _=>False) wb (ext (ext U' wr 95) wa 95)).alloc (.cells #[.string key,.string val,.int .i64 0,.bool g] 178)).ext 95) id;have f1:(wb.alloc (.cells #[.string key,.string val,.int .i64 0,.bool g] 178)).cell? ⟨b1,1,none⟩=some (.slice (some ⟨Yb,0,none⟩) mm cy):=hkb.cell 1;obtain⟨b2,hb2⟩:∃ b,b=wb.heap.size:=⟨_,rfl⟩
    have hk2:Has (wb.alloc (.cells #[.string key,.string val,.int .i64 0,.bool g] 178)) (ext (ext (ext U' wr 95) wa 95) wb 95) 95 b2 178 #[.string key,.string val,.int .i64 0,.bool g]:=by rw[hb2];exact⟨Blk.new _ _ _,ext_new (Nat.le_refl _)⟩
    have f3:(wb.alloc (.cells #[.string key,.string val,.int .i64 0,.bool g] 178)).cell? ⟨wb.heap.size,3,none⟩=some (.bool g):=by rw[<- hb2];exact hk2.cell 3
    have HCB:=hid (And.intro hcb (And.intro hkb hk2));have HB2:=hid hb2;clear hbb hcb hkb hk2 d1 d2 HRE hb2
    cases g with
    | true=>
     go_wp2_with fail
     rw[<- HB2.out];clear HB2;generalize wb.alloc (.cells #[.string key,.string val,.int .i64 0,.bool true] 178)=wc at *;generalize ext (ext (ext U' wr 95) wa 95) wb 95=Uc at *;have hc1:=HO.out.1.keep HCB.out.1 id;have hi1:=HO.out.2.1.keep HCB.out.1 id;have hS:OpS c x' b2 key wc.drew:=⟨hc1.cell 1,HCB.out.2.2.cell 0⟩;obtain⟨hst,-,-,-⟩:=HST.out;unfold recStep at hst;dsimp only at hst
     split at hst
     case isFalse=>cases hst
     rename_i hg
     injection hst with hst
     have HDR:=hid (drop252 wc.drew Uc (tc+1) x' m u pl key (hi1.keep ((Chg.refl (fun _=>False) wc Uc).drewN 1) id) (by have:=HKS.out;omega) (fun e=>hg (by cases h9:(findK pl key).1 with|none=>exact absurd h9 e|some _=>rfl)));have HH:=hid (And.intro hst hc1);have HS:=hid hS;clear hst hg hc1 hi1 hS f1 f3;refine wp_region_hl [] [0,1,2,3,4,5] (OpS c x' b2 key) (by kernel_rfl) (by kernel_rfl) HS.out ?_
     iterate 6 (refine hd_take (v:=?_) rfl rfl (by kernel_rfl) (fun W hW=>?_) ?_;rotate_left;(obtain⟨r0,r1⟩:=hW;first|(go_simp;done)|(go_simp;with_reducible rfl)))
     refine hd_end ?_;simp only[zqa,zqb,zqc,zqd,Nat.zero_add,Nat.reduceAdd]
     go_wp2_with fail
     refine HDR.out.mono ?_;rintro e wd ⟨rfl,hi2,hc2⟩;have HD2:=hid (And.intro hi2 hc2);clear hi2 hc2 HDR
     go_wp2
     go_roundw
     case rel=>
      obtain⟨hi2,hc2⟩:=HD2.out;obtain⟨-,hnx,-,-⟩:=HST.out;have hcd:=((Chg.refl (fun z=>z=tc+1) wc Uc).drewN 1).trans hc2;refine⟨k+1,by omega,by go_num,⟨_,x',_,_,_,HH.out.2.keep hcd (by omega),hi2,?_,(HO.out.2.2.trans (HCB.out.1.mono fun _ e=>e.elim)).trans (hcd.mono fun z e=>.inr e)⟩⟩;rw[hnx,<- HH.out.1]
     case measure=>simp[intOf];omega
    | false=>
     go_wp2_with fail
     rw[<- HB2.out];clear HB2;generalize wb.alloc (.cells #[.string key,.string val,.int .i64 0,.bool false] 178)=wc at *;generalize ext (ext (ext U' wr 95) wa 95) wb 95=Uc at *;have hc1:=HO.out.1.keep HCB.out.1 id;have hi1:=HO.out.2.1.keep HCB.out.1 id;have hS:OpT c x' b1 b2 k key wc.drew:=⟨hc1.cell 1,HCB.out.2.2.cell 0,HCB.out.2.1.cell 0⟩;obtain⟨hst,-,-,hPB⟩:=HST.out;unfold recStep at hst;dsimp only at hst
     split at hst
     case isFalse=>cases hst
     rename_i hg;have HPT:=put162 wc.drew Uc (tc+1) x' m u m2 u2 (k+1) pl pl2 key (hi1.keep ((Chg.refl (fun _=>False) wc Uc).drewN 1) id) (by have:=HN.out.1.1;omega) (fun p hp=>by have:=hPB.1 p hp;have:=List.length_take_le k recs;omega) (by have:=HKS.out;omega) hst (by omega) (by omega) (by omega);rw[Int.natCast_succ]at HPT;replace HPT:=hid HPT;have HH:=hid hc1;have HS:=hid hS;clear hst hg hc1 hi1 hS f1 f3 hPB;refine wp_region_hl [] [0,1,2,3,4,5,6,7] (OpT c x' b1 b2 k key) (by kernel_rfl) (by kernel_rfl) HS.out ?_
     iterate 8 (refine hd_take (v:=?_) rfl rfl (by kernel_rfl) (fun W hW=>?_) ?_;rotate_left;(obtain⟨r0,r1,r2⟩:=hW;first|(go_simp;done)|(go_simp;with_reducible rfl)))
     refine hd_end ?_;simp only[zqa,zqb,zqc,zqd,Nat.zero_add,Nat.reduceAdd]
     go_wp2_with fail
     refine HPT.out.mono ?_;rintro e wd ⟨⟨vd,rfl⟩,Ud,hi2,hc2⟩;have HD2:=hid (And.intro hi2 hc2);clear hi2 hc2 HPT
     go_wp2
     go_roundw
     case rel=>
      obtain⟨hi2,hc2⟩:=HD2.out;obtain⟨-,hnx,-,-⟩:=HST.out;have hcd:=((Chg.refl (fun z=>z=tc+1) wc Uc).drewN 1).trans hc2;exact⟨k+1,by omega,by go_num,⟨_,x',_,_,_,HH.out.keep hcd (by omega),hi2,hnx,(HO.out.2.2.trans (HCB.out.1.mono fun _ e=>e.elim)).trans (hcd.mono fun z e=>.inr e)⟩⟩
     case measure=>simp[intOf];omega
  ·obtain rfl:k=recs.length:=by omega
   rw[List.take_length,HRP.out]at h3;simp only[Option.some.injEq,Prod.mk.injEq]at h3;obtain⟨rfl,rfl,rfl⟩:=h3;have HO:=hid (And.intro h1 (And.intro h2 h4));clear h1 h2 h4 HREC
   go_wp2
   go_ret2
   obtain⟨h1,h2,h4⟩:=HO.out;obtain⟨i1,-,-,i4,i5⟩:=HF.out;have hn:=HN.out;have ht2:=HTD.out;have hc:=(HC4.out.mono (T':=fun z=>z=tc\/z=tc+1) fun _ e=>e.elim).trans h4;exact⟨c,U',rfl,⟨⟨⟨lp,x',true,h1,i1.keep hc (fun z e=>by omega),by rw[HFN.out.2];exact h2⟩,hn.1.1,hn.2.1,hn.1.2,hn.2.2.1,HFN.out.1⟩,HRP.out⟩,i4.keep hc (by omega),(i5.mono (T':=fun z=>tc<=z%96/\z%96<=tc+2) fun z e=>by omega).trans (hc.mono (T':=fun z=>tc<=z%96/\z%96<=tc+2) fun z e=>by omega)⟩
theorem pack_le (bodies:List (List UInt8)):(pack bodies).length<=bodies.length:=by
 have h:∀ (l:List (List UInt8)) (ps:List (List (List UInt8))),(l.foldl packStep ps).length<=ps.length+l.length:=by
  intro l
  induction l with
  | nil=>intro ps;exact Nat.le_refl _
  | cons b l ih=>
   intro ps;refine Nat.le_trans (ih (packStep ps b)) ?_
   have:(packStep ps b).length<=ps.length+1:=by
    unfold packStep
    split
    ·simp
    ·rename_i q hq
     have hp:0<ps.length:=by
      cases ps with
      | nil=>simp at hq
      | cons _ _=>simp
     split
     ·simp only[List.length_append,List.length_dropLast,List.length_cons,List.length_nil];omega
     ·simp
   simp only[List.length_cons];omega
 have:=h bodies []
 simpa [pack] using this
def FQ.zero:FQ:=⟨[],List.replicate 16 Place.zero,0,0⟩
structure StoreAt (w:World)(U:Own)(ts st d:Nat)(fs:FQ)(cnt tn:Nat)(m:MS):Prop where
 ex:∃ c j k lf lj Z,Has w U ts st 119 #[.pointer (some ⟨c,0,none⟩),.pointer (some ⟨j,0,none⟩),.pointer (some ⟨k,0,none⟩),.int .i64 (m.b:Int)]/\FlashAt w U (ts+6) c d 162 129 1200 lf Z fs/\JournalAt w U (ts+3) j d 2 20 1200 lj Z cnt/\KeeperAt w U (ts+1) k d 0 tn m/\DevAt w U (ts+9) d 1200 Z Lasts/\(m.b=1->lf=none/\lj=none/\SupOn Z 0 tn m)
 lt:ts+9<95
def ST (ts x:Nat):Prop:=ts<=x%96/\x%96<=ts+9
theorem StoreAt.keep {T:Nat->Prop}{w w':World}{U U':Own}{ts st d cnt tn:Nat}{fs:FQ}{m:MS}(h:StoreAt w U ts st d fs cnt tn m)(hc:Chg T w U w' U')(hT:∀ x,T x->¬ ST ts x):StoreAt w' U' ts st d fs cnt tn m:=by
 obtain⟨c,j,k,lf,lj,Z,h1,h2,h3,h4,h5,h6⟩:=h.ex;have hl:=h.lt;have key:∀ x,x%96=x->ts<=x->x<=ts+9->¬ T x:=fun x e a b hx=>hT x hx ⟨by omega,by omega⟩;refine⟨⟨c,j,k,lf,lj,Z,h1.keep hc (key _ (by omega) (by omega) (by omega)),h2.keep hc (fun x hx e=>hT x hx ⟨by omega,by omega⟩),h3.keep hc (fun x hx e=>hT x hx ⟨by omega,by omega⟩),h4.keep hc (key _ (by omega) (by omega) (by omega)) (key _ (by omega) (by omega) (by omega)),h5.keep hc (key _ (by omega) (by omega) (by omega)),h6⟩,hl⟩
theorem FlashAt.on {w:World}{U:Own}{tc c d from_ segs n:Nat}{f:Lf}{Z Z':Cont}{s:FQ}(h:FlashAt w U tc c d from_ segs n f Z s)(he:∀ j,from_<=j->j<from_+segs*8->Z' j=Z j):FlashAt w U tc c d from_ segs n f Z' s:=by
 obtain⟨lp,x,fr,h1,h2,h3⟩:=h.raw.ex;exact⟨⟨⟨lp,x,fr,h1,h2.on he,h3⟩,h.raw.lt,h.raw.ok,h.raw.room,h.raw.le,h.raw.pk⟩,h.rp⟩
theorem JournalAt.on {w:World}{U:Own}{tj j d from_ segs n cnt:Nat}{f:Lf}{Z Z':Cont}(h:JournalAt w U tj j d from_ segs n f Z cnt)(he:∀ j,from_<=j->j<from_+segs*8->Z' j=Z j):JournalAt w U tj j d from_ segs n f Z' cnt:=by
 obtain⟨lp,fr,vM,keys,h1,h2,h3,h4,h5⟩:=h.ex;exact⟨⟨lp,fr,vM,keys,h1,h2,h3,h4,h5.on he⟩,h.lt,h.room,h.le⟩
theorem SupOn.on {Z Z':Cont}{a tn:Nat}{m:MS}(h:SupOn Z a tn m)(he:∀ j,j<a+2->Z' j=Z j):SupOn Z' a tn m:=by
 obtain⟨m0,h1,h2,h3,h4⟩:=h;exact⟨m0,h1,h2,by rw[he _ (by omega)];exact h3,by rw[he _ (by omega)];exact h4⟩
structure StoreOn (Z:Cont)(fs:FQ)(cnt tn:Nat)(m:MS):Prop where
 ex:∃ keys:List ByteArray,keys.length=cnt/\(∀ k∈keys,0<k.size/\k.size<=40)/\OnDisk Z 2 20 (mbs 0 keys)
 fl:OnDisk Z 162 129 (fs.recs.map FRec.bytes)
 ok:∀ r∈fs.recs,r.ok=true
 le:fs.recs.length<=129/\cnt<=20
 rp:replay fs.recs=some (fs.pl,fs.n,fs.used)
 sup:SupOn Z 0 tn m
 mok:m.b<64/\m.e<64/\m.r<64
theorem StoreAt.fallen {w:World}{U:Own}{ts st d cnt tn:Nat}{fs:FQ}{m:MS}(h:StoreAt w U ts st d fs cnt tn m)(hb:m.b=1):∃ Z,DevAt w U (ts+9) d 1200 Z Lasts/\StoreOn Z fs cnt tn m:=by
 obtain⟨c,j,k,lf,lj,Z,h1,h2,h3,h4,h5,h6⟩:=h.ex;obtain⟨rfl,rfl,hs⟩:=h6 hb;obtain⟨lp,x,fr,-,f2,-⟩:=h2.raw.ex;obtain⟨lq,fq,vM,keys,j1,j2,-,-,j5⟩:=h3.ex;have hle:=h2.raw.le;have hjl:=h3.le;exact⟨Z,h5,⟨keys,j1,j2,j5.disk (by rw[mbs_length];omega)⟩,f2.disk (by rw[List.length_map];exact hle),h2.raw.ok,⟨hle,hjl⟩,h2.rp,hs,h4.ok⟩
theorem off179 (w:World)(U:Own)(td d:Nat)(Z:Cont)(F:Nat->Prop)(h:DevAt w U td d 1200 Z F):Calls Tryz.prog 179 #[.pointer (some ⟨d,0,none⟩)] w fun e w'=>e=.returned (.int .i64 0)/\w'=w:=by
 have H:=hid (len_any w U td d 1200 Z F h);clear h;go_enter Tryz.func179,Tryz.ntmps179
 go_wp2_with fail
 refine H.out.mono ?_;rintro e w1 ⟨rfl,rfl⟩
 go_wp2
 go_ret;exact⟨rfl,rfl⟩
theorem OnDisk.zeros {Z:Cont}{from_ segs:Nat}(h:∀ j,from_<=j->j<from_+segs*8->Z j=List.replicate 64 0):OnDisk Z from_ segs []:=
 ⟨[],fun k hk i hi=>by rw[h _ (by omega) (by omega)];simp,rfl,fun p hp=>by simp at hp,by simp[pack],fun p hp=>by simp at hp,by simp⟩
theorem parts181 (w:World)(U:Own)(ts d k tn:Nat)(m:MS)(Z:Cont)(F:Nat->Prop)(fs:FQ)(keys:List ByteArray)(hK:KeeperAt w U (ts+1) k d 0 tn m)(hD:DevAt w U (ts+9) d 1200 Z F)(hlt:ts+9<95)(htn:tn+1<=1000000)(ht1:1<=tn)
 (hm:(⟨m.b+1,m.e,m.r,m.f⟩:MS).ok=true)(hsup:m.b=0->Z ((tn+1)%2)=supB tn (mbytes m))
 (hj:OnDisk Z 2 20 (mbs 0 keys))(hjk:∀ k∈keys,0<k.size/\k.size<=40)(hjl:keys.length<=12)
 (hf:OnDisk Z 162 129 (fs.recs.map FRec.bytes))(hfp:(pack (fs.recs.map FRec.bytes)).length<=12)(hfo:∀ r∈fs.recs,r.ok=true)(hfl:fs.recs.length<=129)(hrp:replay fs.recs=some (fs.pl,fs.n,fs.used))
 (hb:m.b=0->fs.recs=[]/\keys=[]) :
 Calls Tryz.prog 181 #[.pointer (some ⟨d,0,none⟩),.pointer (some ⟨k,0,none⟩)] w fun e w'=>∃ st U',e=.returned (.tuple #[.pointer (some ⟨st,0,none⟩),.int .i64 0])/\StoreAt w' U' ts st d fs keys.length (tn+1) ⟨m.b+1,m.e,m.r,m.f⟩/\Chg (ST ts) w U w' U':=by
 obtain⟨mb,me,mr,mf⟩:=m;dsimp only at hm hsup hb ⊢;obtain⟨y,hy1,hy2⟩:=fresh95 w U;have HME:Hid (Calls Tryz.prog 48 #[.pointer (some ⟨k,0,none⟩)] w fun e w'=>e=.returned (.agg #[.int .i64 (mb:Int),.int .i64 (me:Int),.int .i64 (mr:Int),.bool mf])/\Below w.heap.size w w'):=hid (meta48 w U (ts+1) k d 0 tn ⟨mb,me,mr,mf⟩ hK);obtain⟨Z1,hZ1⟩:∃ Z1,Z1=upd Z (0+tn%2) (supB (tn+1) (mbytes ⟨mb+1,me,mr,mf⟩)):=⟨_,rfl⟩
 have hZe:∀ j,2<=j->Z1 j=Z j:=fun j hj=>by rw[hZ1,upd_ne _ _ _ _ (by omega)]
 have HSV:Hid (∀ W,Below w.heap.size w W->Calls Tryz.prog 192 #[.pointer (some ⟨k,0,none⟩),.agg #[.int .i64 ((mb:Int)+1),.int .i64 (me:Int),.int .i64 (mr:Int),.bool mf]] W fun e w'=>e=.returned (.int .i64 0)/\∃ U',KeeperAt w' U' (ts+1) k d 0 (tn+1) ⟨mb+1,me,mr,mf⟩/\DevAt w' U' (ts+9) d 1200 Z1 Lasts/\Chg (fun x=>x=ts+1\/x=ts+1+1\/x=ts+9) W (ext U w y) w' U'):=hid fun W hb=>by
  have hc:Chg (fun _=>False) w U W (ext U w y):=Chg.of_below hb y;have:=save192 W (ext U w y) (ts+1) k 0 (ts+9) d 1200 tn ⟨mb,me,mr,mf⟩ ⟨mb+1,me,mr,mf⟩ Z F (hK.keep hc id id) (hD.keep hc id) (by omega) (by omega) (by decide) (by decide) htn hm ⟨Nat.le_succ _,Nat.le_refl _⟩;rw[<- hZ1]at this;dsimp only at this;rw[Int.natCast_succ]at this;exact this
 have HSUP:Hid (mb+1=1->SupOn Z1 0 (tn+1) ⟨mb+1,me,mr,mf⟩):=hid fun e=>by
  refine⟨⟨mb,me,mr,mf⟩,hK.ok,by omega,?_,?_⟩
  ·rw[hZ1,show 0+(tn+1+1)%2=0+tn%2 by omega,upd_self]
  ·rw[hZ1,upd_ne _ _ _ _ (by omega),Nat.add_sub_cancel,Nat.zero_add]
   exact hsup (by omega)
 have HB:=hid hb;have HJ:=hid (And.intro (hj.congr (Z':=Z1) fun j h1 h2=>hZe j h1) (And.intro hjk hjl));have HFF:=hid (And.intro (hf.congr (Z':=Z1) fun j h1 h2=>hZe j (by omega)) (And.intro hfp (And.intro hfo (And.intro hfl hrp))));have HLT:=hid hlt;have HY:=hid hy1;have HMB:Hid (((mb+1:Nat):Int)=(mb:Int)+1):=hid (Int.natCast_succ mb)
 have k1:(mb:Int)<=64:=by have:=hK.ok.1;dsimp only at this;omega
 have k2:(0:Int)<=(mb:Int):=by omega
 clear hK hD hlt hy1 hy2 htn ht1 hm hsup hj hjk hjl hf hfp hfo hfl hrp hb hZ1 hZe;go_enter Tryz.func181,Tryz.ntmps181
 go_wp2_with fail
 refine HME.out.mono ?_;rintro e w1 ⟨rfl,hb1⟩;have HB1:=hid hb1;clear hb1 HME
 go_wp2_with fail
 have hbW:Below w.heap.size w (w1.alloc (.cells #[.int .i64 ((mb:Int)+1),.int .i64 (me:Int),.int .i64 (mr:Int),.bool mf] 45)):=HB1.out.alloc HB1.out.size _;have hmb:Has (w1.alloc (.cells #[.int .i64 ((mb:Int)+1),.int .i64 (me:Int),.int .i64 (mr:Int),.bool mf] 45)) (ext U w y) y w1.heap.size 45 #[.int .i64 ((mb:Int)+1),.int .i64 (me:Int),.int .i64 (mr:Int),.bool mf]:=⟨Blk.new _ _ _,ext_new HB1.out.size⟩;have HBW:=hid hbW;have HMBK:=hid hmb;clear hbW hmb;generalize w1.alloc (.cells #[.int .i64 ((mb:Int)+1),.int .i64 (me:Int),.int .i64 (mr:Int),.bool mf] 45)=W1 at *;generalize w1.heap.size=mbb at *;refine(HSV.out W1 HBW.out).mono ?_;rintro e w2 ⟨rfl,U2,hk2,hd2,hc2⟩;have hl:=HLT.out;have HMB2:Hid (Has w2 U2 y mbb 45 #[.int .i64 ((mb:Int)+1),.int .i64 (me:Int),.int .i64 (mr:Int),.bool mf]):=hid (HMBK.out.keep hc2 (by have:=HY.out;omega));have HJO:=hid (open225 w2 U2 (ts+3) (ts+9) d 1200 2 20 Z1 Lasts keys hd2 (by omega) (by omega) (by decide) (by decide) (by decide) (by decide) HJ.out.1 (by refine Nat.le_trans (pack_le _) ?_;rw[mbs_length];exact HJ.out.2.2) HJ.out.2.1 (by have:=HJ.out.2.2;omega) (by have:=HJ.out.2.2;omega));have HS2:Hid (KeeperAt w2 U2 (ts+1) k d 0 (tn+1) ⟨mb+1,me,mr,mf⟩/\Chg (ST ts) w U w2 U2):=hid ⟨hk2,(Chg.of_below HBW.out y).trans (hc2.mono fun x e=>by unfold ST;omega)⟩;clear hk2 hd2 hc2 hl HSV HMBK HBW
 go_wp2_with fail
 refine HJO.out.mono ?_;rintro e w3 ⟨j,U3,rfl,hj3,hd3,hc3⟩;have hl:=HLT.out;have HMB3:Hid (Has w3 U3 y mbb 45 #[.int .i64 ((mb:Int)+1),.int .i64 (me:Int),.int .i64 (mr:Int),.bool mf]):=hid (HMB2.out.keep hc3 (by have:=HY.out;omega));have HLN:=hid (len_any w3 U3 (ts+9) d 1200 _ _ hd3);have HFO:=hid (open226 w3 U3 (ts+6) (ts+9) d 1200 162 129 Z1 Lasts fs.recs fs.pl fs.n fs.used hd3 (by omega) (by omega) (by decide) (by decide) (by decide) (by decide) HFF.out.1 HFF.out.2.1 HFF.out.2.2.1 HFF.out.2.2.2.1 HFF.out.2.2.2.2);generalize hlj:(if mbs 0 keys=[] then none else some (mbs 0 keys).length:Lf)=lj at hj3;generalize hlf:(if fs.recs.map FRec.bytes=[] then none else some (fs.recs.map FRec.bytes).length:Lf)=lf at HFO
 have HLL:Hid (mb+1=1->lf=none/\lj=none):=hid fun e=>by
  obtain⟨e1,e2⟩:=HB.out (by omega);rw[e1]at hlf;rw[e2]at hlj;exact⟨hlf.symm.trans (if_pos rfl),hlj.symm.trans (if_pos rfl)⟩
 have HS3:Hid (KeeperAt w3 U3 (ts+1) k d 0 (tn+1) ⟨mb+1,me,mr,mf⟩/\JournalAt w3 U3 (ts+3) j d 2 20 1200 lj Z1 keys.length/\Chg (ST ts) w U w3 U3):=hid ⟨HS2.out.1.keep hc3 (by omega) (by omega),hj3,HS2.out.2.trans (hc3.mono fun x e=>by unfold ST;omega)⟩;clear hj3 hd3 hc3 hl hlj hlf HJO HS2 HMB2
 go_wp2_with fail
 refine HLN.out.mono ?_;rintro e w4 ⟨rfl,rfl⟩;clear HLN
 go_wp2_with fail
 refine HFO.out.mono ?_;rintro e w5 ⟨c,U5,rfl,hf5,hd5,hc5⟩;have hl:=HLT.out;have hmb5:=HMB3.out.keep hc5 (by have:=HY.out;omega);have c0:w5.cell? ⟨mbb,0,none⟩=some (.int .i64 ((mb:Int)+1)):=hmb5.cell 0;have hq:Chg (fun _=>False) w5 U5 (w5.alloc (.cells #[.pointer (some ⟨c,0,none⟩),.pointer (some ⟨j,0,none⟩),.pointer (some ⟨k,0,none⟩),.int .i64 ((mb:Int)+1)] 119)) (ext U5 w5 ts):=((Chg.refl _ _ _).alloc _).ext ts
 have HRES:Hid (StoreAt (w5.alloc (.cells #[.pointer (some ⟨c,0,none⟩),.pointer (some ⟨j,0,none⟩),.pointer (some ⟨k,0,none⟩),.int .i64 ((mb:Int)+1)] 119)) (ext U5 w5 ts) ts w5.heap.size d fs keys.length (tn+1) ⟨mb+1,me,mr,mf⟩/\Chg (ST ts) w U (w5.alloc (.cells #[.pointer (some ⟨c,0,none⟩),.pointer (some ⟨j,0,none⟩),.pointer (some ⟨k,0,none⟩),.int .i64 ((mb:Int)+1)] 119)) (ext U5 w5 ts)):=hid
  ⟨⟨⟨c,j,k,lf,lj,Z1,by
   have h9:Has (w5.alloc (.cells #[.pointer (some ⟨c,0,none⟩),.pointer (some ⟨j,0,none⟩),.pointer (some ⟨k,0,none⟩),.int .i64 ((mb:Int)+1)] 119)) (ext U5 w5 ts) ts w5.heap.size 119 #[.pointer (some ⟨c,0,none⟩),.pointer (some ⟨j,0,none⟩),.pointer (some ⟨k,0,none⟩),.int .i64 ((mb:Int)+1)]:=⟨Blk.new _ _ _,ext_new (Nat.le_refl _)⟩;rw[<- HMB.out]at h9 ⊢
   exact h9,hf5.quiet hq,(HS3.out.2.1.keep hc5 (fun x e=>by omega)).keep hq (fun _ e=>e.elim),(HS3.out.1.keep hc5 (by omega) (by omega)).keep hq id id,hd5.keep hq id,fun e=>⟨(HLL.out e).1,(HLL.out e).2,HSUP.out e⟩⟩,hl⟩,(HS3.out.2.2.trans (hc5.mono fun x e=>by unfold ST;omega)).trans (hq.mono fun _ e=>e.elim)⟩
 clear hf5 hd5 hc5 hl hmb5 hq HFO HS3 HMB3 HLL HSUP
 go_wp2
 go_ret2
 exact⟨w5.heap.size,_,rfl,HRES.out.1,HRES.out.2⟩
theorem make138 (w:World)(U:Own)(ts d:Nat)(hD:DevAt w U (ts+9) d 1200 zeros Lasts)(hlt:ts+9<95) :
 Calls Tryz.prog 138 #[.pointer (some ⟨d,0,none⟩)] w fun e w'=>∃ st U',e=.returned (.tuple #[.pointer (some ⟨st,0,none⟩),.int .i64 0])/\StoreAt w' U' ts st d FQ.zero 0 2 ⟨1,0,0,false⟩/\Chg (ST ts) w U w' U':=by
 have HO:=hid (off179 w U (ts+9) d _ _ hD);have HLN:=hid (len_any w U (ts+9) d 1200 _ _ hD);have HD:=hid hD;have HLT:=hid hlt;clear hD hlt;go_enter Tryz.func138,Tryz.ntmps138
 go_wp2_with fail
 refine HO.out.mono ?_;rintro e w1 ⟨rfl,rfl⟩
 go_wp2_with fail
 refine HLN.out.mono ?_;rintro e w2 ⟨rfl,rfl⟩;clear HO HLN
 go_wp2
 go_loopw [16] (fun i wr=>∃ k:Nat,k<=1200/\i=.int .i64 (k:Int)/\(∃ F,DevAt wr U (ts+9) d 1200 zeros F)/\Chg (· = ts+9) w2 U wr U) (fun i _=>1200-(intOf i).toNat)
 case atStart=>exact⟨0,by decide,rfl,⟨_,HD.out⟩,Chg.refl _ _ _⟩
 case round=>
  obtain⟨k,hk,rfl,⟨F,h1⟩,h2⟩:=hrel;have HD1:=hid h1;have HC1:=hid h2;clear h1 h2 HD
  by_cases hlt:k<1200
  ·have k2:(k:Int)<1200:=by omega
   have hmk:=make_zbuf wr;have HD2:Hid (DevAt (wr.alloc (.cells zbuf 5)) U (ts+9) d 1200 zeros F):=hid (HD1.out.keep ((Chg.refl (fun _=>False) wr U).alloc _) id);have HZB:=hid (zbuf_sl wr)
   go_wp2_with fail
   refine(write_any _ U (ts+9) d 1200 zeros F HD2.out k hlt (some ⟨wr.heap.size,0,none⟩) 64 64 (List.replicate 64 0) (by simp) (by decide) (fun x hx=>by rw[List.eq_of_mem_replicate hx];decide) HZB.out (by intro e;cases e)).mono ?_;rintro e w3 ⟨rfl,hd2,hc2⟩;rw[show upd zeros k (List.replicate 64 0)=zeros from upd_same zeros k _ rfl]at hd2;have HD3:=hid hd2;have HC3:Hid (Chg (· = ts+9) w2 U w3 U):=hid ((HC1.out.alloc _).trans hc2);clear hd2 hc2 hmk HZB
   go_wp2
   go_roundw
   case rel=>exact⟨k+1,by omega,by go_num,⟨_,HD3.out⟩,HC3.out⟩
   case measure=>simp[intOf];omega
  ·obtain rfl:k=1200:=by omega
   have hl:=HLT.out;have HMK:=hid (make184 wr U (ts+1) 0 (ts+9) d 1200 zeros F HD1.out (by omega) (by omega) (by decide) (by decide) (fun i=>rfl));clear hl
   go_wp2_with fail
   refine HMK.out.mono ?_;rintro e w3 ⟨kp,U3,rfl,hk3,hd3,hc3⟩
   have hz:∀ j,2<=j->upd zeros 0 (supB 1 (mbytes ⟨0,0,0,false⟩)) j=List.replicate 64 0:=fun j hj=>by rw[upd_ne _ _ _ _ (by omega)];rfl
   have HP:=hid (parts181 w3 U3 ts d kp 1 ⟨0,0,0,false⟩ _ _ FQ.zero [] hk3 hd3 HLT.out (by decide) (by decide) (by decide) (fun _=>upd_self _ _ _) (OnDisk.zeros fun j h1 h2=>hz j h1) (by simp) (by decide) (OnDisk.zeros fun j h1 h2=>hz j (by omega)) (by decide) (by simp[FQ.zero]) (by decide) rfl (fun _=>⟨rfl,rfl⟩));have HC3:Hid (Chg (ST ts) w2 U w3 U3):=hid ((HC1.out.mono fun x e=>by have:=HLT.out;subst e;unfold ST;omega).trans (hc3.mono fun x e=>by have:=HLT.out;unfold ST;omega));clear hk3 hd3 hc3 hz HMK
   go_wp2_with fail
   refine HP.out.mono ?_;rintro e w4 ⟨st,U4,rfl,hs4,hc4⟩;have HR:=hid (And.intro hs4 (HC3.out.trans hc4));clear hs4 hc4
   go_wp2
   go_ret2
   exact⟨st,U4,rfl,HR.out.1,HR.out.2⟩
theorem open136 (w:World)(U:Own)(ts d cnt tn:Nat)(fs:FQ)(m:MS)(Z:Cont)(F:Nat->Prop)(hD:DevAt w U (ts+9) d 1200 Z F)(hlt:ts+9<95)(hS:StoreOn Z fs cnt tn m)(hc:cnt<=12)(hfp:(pack (fs.recs.map FRec.bytes)).length<=12)(htn:tn+1<=1000000)(hb:1<=m.b)(hok:m.ok=true)(hok2:(⟨m.b+1,m.e,m.r,m.f⟩:MS).ok=true) :
 Calls Tryz.prog 136 #[.pointer (some ⟨d,0,none⟩)] w fun e w'=>∃ st U',e=.returned (.tuple #[.pointer (some ⟨st,0,none⟩),.int .i64 0])/\StoreAt w' U' ts st d fs cnt (tn+1) ⟨m.b+1,m.e,m.r,m.f⟩/\Chg (ST ts) w U w' U':=by
 obtain⟨keys,rfl,hk1,hk2⟩:=hS.ex;have HO:=hid (off179 w U (ts+9) d _ _ hD);have HMO:=hid (open180 w U (ts+1) 0 (ts+9) d 1200 tn m Z F hD (by omega) (by omega) (by decide) (by decide) hS.sup hok (by omega))
 have HP:Hid (∀ w1 U1 kp,KeeperAt w1 U1 (ts+1) kp d 0 tn m->Chg (fun _=>False) w U w1 U1->Calls Tryz.prog 181 #[.pointer (some ⟨d,0,none⟩),.pointer (some ⟨kp,0,none⟩)] w1 fun e w'=>∃ st U',e=.returned (.tuple #[.pointer (some ⟨st,0,none⟩),.int .i64 0])/\StoreAt w' U' ts st d fs keys.length (tn+1) ⟨m.b+1,m.e,m.r,m.f⟩/\Chg (ST ts) w1 U1 w' U'):=hid fun w1 U1 kp h1 h2=>by
  obtain⟨-,-,b2,-,-⟩:=hS.sup;exact parts181 w1 U1 ts d kp tn m Z F fs keys h1 (hD.keep h2 id) hlt htn (by omega) hok2 (fun e=>absurd e (by omega)) hk2 hk1 hc hS.fl hfp hS.ok hS.le.1 hS.rp (fun e=>absurd e (by omega))
 clear hD hlt hS hc hfp hb htn hok hok2 hk1 hk2;go_enter Tryz.func136,Tryz.ntmps136
 go_wp2_with fail
 refine HO.out.mono ?_;rintro e w1 ⟨rfl,rfl⟩
 go_wp2_with fail
 refine HMO.out.mono ?_;rintro e w2 ⟨kp,U2,rfl,hk2,hc2⟩;have HPP:=hid (HP.out w2 U2 kp hk2 hc2);have HC:=hid hc2;clear hk2 hc2 HP HMO HO
 go_wp2_with fail
 refine HPP.out.mono ?_;rintro e w4 ⟨st,U4,rfl,hs4,hc4⟩;have HR:=hid (And.intro hs4 ((HC.out.mono fun _ e=>e.elim).trans hc4));clear hs4 hc4
 go_wp2
 go_ret2
 exact⟨st,U4,rfl,HR.out.1,HR.out.2⟩
theorem kill167 (w:World)(U:Own)(ts st d cnt tn:Nat)(fs fs':FQ)(m:MS)(k:ByteArray)(KB ko ck:Nat)(hS:StoreAt w U ts st d fs cnt tn m)(hk:keyOk k=true)(hcnt:cnt<20)(hdr:fdrop 129 fs k=some fs')
 (hkey:w.cell? ⟨KB,ko,none⟩=some (.string k))(hKB:KB<w.heap.size/\¬ ST ts (U KB)) :
 Calls Tryz.prog 167 #[.pointer (some ⟨st,0,none⟩),.slice (some ⟨KB,ko,none⟩) 1 ck] w fun e w'=>e=.returned (.tuple #[.int .i64 ((cnt+1:Nat):Int),.int .i64 0])/\∃ U',StoreAt w' U' ts st d fs' (cnt+1) tn m/\Chg (ST ts) w U w' U':=by
 obtain⟨c,j,kp,lf,lj,Z,h1,h2,h3,h4,h5,h6⟩:=hS.ex;have hl:=hS.lt
 have hks:k.size<64:=by unfold keyOk at hk;have:=of_decide_eq_true hk;omega
 have HKEY:Hid (∀ W,Calls Tryz.prog 164 #[.string k] W fun e w'=>e=.returned (.bool true)/\W=w'):=hid fun W=>by
  have:=key_any W k (by omega);rw[hk]at this;exact this
 have hok:(FRec.entry k ⟨#[]⟩ true).ok=true:=by
  show(keyOk k && (!true || decide ((⟨#[]⟩:ByteArray).size=0)) && decide (k.size<64) && decide ((⟨#[]⟩:ByteArray).size<64))=true;rw[hk,decide_eq_true hks];rfl
 have HADD:=hid (add220 w U (ts+3) (ts+9) j d 2 20 1200 cnt lj Z Lasts k KB ko ck h3 h5 (by omega) hk hks (by omega) hkey hKB.1)
 have HRST:Hid (∀ W U' Z',JournalAt W U' (ts+3) j d 2 20 1200 lj Z' (cnt+1)->DevAt W U' (ts+9) d 1200 Z' Lasts->(∀ i,(i<2\/2+20*8<=i)->Z' i=Z i)->Chg (FT (ts+3) (ts+9)) w U W U'->W.cell? ⟨st,0,none⟩=some (.pointer (some ⟨c,0,none⟩))/\Calls Tryz.prog 221 #[.pointer (some ⟨c,0,none⟩),.slice (some ⟨KB,ko,none⟩) 1 ck] W fun e w'=>e=.returned (.int .i64 0)/\∃ U2,StoreAt w' U2 ts st d fs' (cnt+1) tn m/\Chg (ST ts) w U w' U2):=hid fun W U' Z' a b hz hc=>by
  have hkb:¬ FT (ts+3) (ts+9) (U KB):=fun e=>hKB.2 (by unfold FT at e;unfold ST;omega);have g1:=h1.keep hc (by unfold FT;omega);have g4:=h4.keep hc (by unfold FT;omega) (by unfold FT;omega);refine⟨g1.cell 0,?_⟩;refine(drop221 W U' (ts+6) (ts+9) c d 162 129 1200 lf fs fs' Z' Lasts k KB ko ck ((h2.keep hc (fun x e=>by unfold FT at e;omega)).on fun i h1 h2=>hz i (by omega)) b (by omega) hok hdr ((World.cell?_of_block (hc.block KB hKB.1 hkb)).trans hkey) ⟨Nat.lt_of_lt_of_le hKB.1 hc.size,by rw[hc.own KB hKB.1];exact fun e=>hKB.2 (by unfold FT at e;unfold ST;omega)⟩).mono ?_;rintro e w' ⟨rfl,U2,Z2,f1,f2,fz,f3⟩;exact⟨rfl,U2,⟨⟨c,j,kp,lf,lj,Z2,g1.keep f3 (by unfold FT;omega),f1,(a.keep f3 (fun x e=>by unfold FT at e;omega)).on fun i h1 h2=>fz i (by omega),g4.keep f3 (by unfold FT;omega) (by unfold FT;omega),f2,fun e=>⟨(h6 e).1,(h6 e).2.1,(h6 e).2.2.on fun i hi=>by rw[fz i (by omega),hz i (by omega)]⟩⟩,hl⟩,(hc.mono fun x e=>by unfold FT at e;unfold ST;omega).trans (f3.mono fun x e=>by unfold FT at e;unfold ST;omega)⟩
 have c1:w.cell? ⟨st,1,none⟩=some (.pointer (some ⟨j,0,none⟩)):=h1.cell 1;clear hS h1 h2 h3 h4 h5 h6 hl hk hok hdr hKB hks;go_enter Tryz.func167,Tryz.ntmps167
 go_wp2
 go_loop [15] (fun i=>∃ q:Nat,q<=1/\i=.int .i64 (q:Int)) (fun i=>1-(intOf i).toNat)
 case atStart=>exact⟨0,by decide,rfl⟩
 case round=>
  obtain⟨q,hq,rfl⟩:=hrel
  by_cases hq0:q=0
  ·subst hq0
   go_wp2_with fail
   refine(HKEY.out w).mono ?_;rintro e w1 ⟨rfl,rfl⟩
   go_wp2
   go_round
   case rel=>exact⟨1,by decide,rfl⟩
   case measure=>simp[intOf]
  ·obtain rfl:q=1:=by omega
   go_wp2_with fail
   refine HADD.out.mono ?_;rintro e w1 ⟨rfl,U1,Z1,a1,a2,az,a3⟩;obtain⟨c0,hd⟩:=HRST.out w1 U1 Z1 a1 a2 az a3;have HD:=hid hd;clear a1 a2 az a3 hd HADD HRST c1
   go_wp2_with fail
   refine HD.out.mono ?_;rintro e w2 ⟨rfl,U2,b1,b2⟩;have HR:=hid (And.intro b1 b2);clear b1 b2 c0 HD
   go_wp2
   go_ret2
   exact⟨rfl,U2,HR.out.1,HR.out.2⟩
structure StrB (w:World)(U:Own)(y g n:Nat)(P:ByteArray->Prop):Prop where
 ex:∃ cs,Has w U y g 9 cs/\∀ j,j<n->∃ k,cs[j]? = some (.string k)/\P k
section
variable {T : Nat -> Prop} {w w' : World} {U U' : Own} {y g n : Nat} {P : ByteArray -> Prop}
theorem StrB.keep (h:StrB w U y g n P)(hc:Chg T w U w' U')(ht:¬ T y):StrB w' U' y g n P:=by
 obtain⟨cs,h1,h2⟩:=h.ex;exact⟨cs,h1.keep hc ht,h2⟩
theorem StrB.get (h:StrB w U y g n P)(j:Nat)(hj:j<n):∃ k,w.cell? ⟨g,j,none⟩=some (.string k)/\P k:=by
 obtain⟨cs,h1,h2⟩:=h.ex;obtain⟨k,hk,hp⟩:=h2 j hj;exact⟨k,(h1.cell j).trans hk,hp⟩
theorem StrB.set (h:StrB w U y g n P)(j:Nat)(k:ByteArray)(hk:P k):StrB (w.setCell ⟨g,j,none⟩ (.string k)) U y g n P/\Chg (· = y) w U (w.setCell ⟨g,j,none⟩ (.string k)) U:=by
 obtain⟨cs,h1,h2⟩:=h.ex;refine⟨⟨_,h1.set_ j (.string k),fun i hi=>?_⟩,(Chg.refl _ _ _).setCell (p:=⟨g,j,none⟩) h1.own _⟩;obtain⟨q,hq,hp⟩:=h2 i hi
 by_cases he:j=i
 ·subst he
  exact⟨k,Array.getElem?_setIfInBounds_self_of_lt (Array.getElem?_eq_some_iff.1 hq).1,hk⟩
 ·rw[Array.getElem?_setIfInBounds_ne he]
  exact⟨q,hq,hp⟩
theorem StrB.frozen (h:StrB w U y g n P)(j:Nat):w.frozen? ⟨g,j,none⟩=false:=by
 obtain⟨cs,h1,h2⟩:=h.ex;exact h1.frozen j
end
theorem less334 (w:World)(a b:ByteArray):Calls Tryz.prog 334 #[.string a,.string b] w fun e w'=>(∃ v:Bool,e=.returned (.bool v))/\w'=w:=by
 have HN:Hid (∀ s,Calls Tryz.prog 344 #[.string s] w fun e w'=>e=.returned (.bool false)/\w'=w):=hid fun s=>by
  go_enter Tryz.func344,Tryz.ntmps344
  go_wp2
  go_ret;exact⟨rfl,rfl⟩
 go_enter Tryz.func334,Tryz.ntmps334
 go_wp2_with fail
 refine(HN.out _).mono ?_;rintro e w1 ⟨rfl,rfl⟩
 go_wp2
 go_ret;exact⟨⟨_,rfl⟩,rfl⟩
def InT (g i j:Nat)(a b:ByteArray)(W:World):Prop:=W.cell? ⟨g,i,none⟩=some (.string a)/\W.cell? ⟨g,j,none⟩=some (.string b)
theorem ins328 (w:World)(U:Own)(y g n c:Nat)(P:ByteArray->Prop)(hB:StrB w U y g n P)(hm:n<=1000) :
 Calls Tryz.prog 328 #[.slice (some ⟨g,0,none⟩) n c,.int .i64 0,.int .i64 (n:Int)] w fun e w'=>(∃ v,e=.returned v)/\StrB w' U y g n P/\Chg (· = y) w U w' U:=by
 have HB:=hid hB;clear hB;go_enter Tryz.func328,Tryz.ntmps328
 go_wp2
 go_loopw [6] (fun i wr=>∃ k:Nat,1<=k/\i=.int .i64 (k:Int)/\StrB wr U y g n P/\Chg (· = y) w U wr U) (fun i _=>n+1-(intOf i).toNat)
 case atStart=>exact⟨1,Nat.le_refl _,rfl,HB.out,Chg.refl _ _ _⟩
 case round=>
  obtain⟨k,hk1,rfl,hb,hc⟩:=hrel;have H1:=hid (And.intro hb hc);clear hb hc HB
  by_cases hlt:k<n
  ·have k1:(k:Int)<(n:Int):=by omega
   have HKN:=hid (And.intro hlt hk1)
   have kk9:(k:Int)<=1000:=by omega
   go_wp2_with fail
   go_loopw [7] (fun i wr=>∃ q:Nat,q<=k/\i=.int .i64 (q:Int)/\StrB wr U y g n P/\Chg (· = y) w U wr U) (fun i _=>(intOf i).toNat)
   case atStart=>exact⟨k,Nat.le_refl _,rfl,H1.out⟩
   case round=>
    obtain⟨q,hq,rfl,hb,hc⟩:=hrel;have H2:=hid (And.intro hb hc);clear hb hc H1
    by_cases hq0:q=0
    ·subst hq0
     go_wp2_with fail
     refine wp_region_hl [] [0,1,2,3,4,5,6,7,8,9,10,11,12] (fun _=>True) (by kernel_rfl) (by kernel_rfl) trivial ?_
     iterate 3 (refine hd_take (v:=?_) rfl rfl (by kernel_rfl) (fun W hW=>?_) ?_;rotate_left;(first|(go_simp;done)|(go_simp;with_reducible rfl)))
     refine hd_take (v:=.bool false) rfl rfl (by kernel_rfl) (fun W hW=>by go_simp) ?_
     iterate 9 (refine hd_skip rfl rfl (by kernel_rfl) ?_)
     refine hd_end ?_;simp only[zqa,zqb,zqc,zqd,Nat.zero_add,Nat.reduceAdd]
     go_wp2_with fail
     go_roundw
     case rel=>exact⟨k+1,by omega,by go_num,H2.out.1.keep ((Chg.refl (fun _=>False) wr U).drewN 1) id,H2.out.2.drewN 1⟩
     case measure=>have:=HKN.out;simp[intOf];omega
    ·obtain⟨j,rfl⟩:∃ j,q=j+1:=⟨q-1,by omega⟩
     obtain⟨a,ha,hpa⟩:=H2.out.1.get (j+1) (by have:=HKN.out;omega);obtain⟨b,hb,hpb⟩:=H2.out.1.get j (by have:=HKN.out;omega);obtain⟨q,hqe⟩:∃ q,q=j+1:=⟨_,rfl⟩
     have e1:((q:Nat):Int)-1=(j:Int):=by omega
     have e2:(0:Int)<=(j:Int):=by omega
     have e3:(j:Int)<(n:Int):=by omega
     have e4:IntKind.i64.wrap ((q:Nat):Int)=((q:Nat):Int):=IntWalk.i64_in _ ⟨by omega,by omega⟩
     have e5:((q:Nat):Int).toNat=q:=by omega
     have e6:((j:Nat):Int).toNat=j:=by omega
     have e7:0<q:=by omega
     have e8:IntKind.i64.wrap ((j:Nat):Int)=(j:Int):=IntWalk.i64_in _ ⟨by omega,by omega⟩
     have q1:(q:Int)<(n:Int):=by omega
     have q2:(0:Int)<(q:Int):=by omega
     have q3:(0:Int)<=(q:Int):=by omega
     rw[<- hqe]at ha ⊢;have HQE:=hid (And.intro hqe (And.intro hpa (And.intro hpb hq)));have S4:Hid (InT g q j a b wr.drew):=hid ⟨ha,hb⟩;have HLs:=hid (less334 wr.drew a b);have HLe:Hid (j+1<=k):=hid hq;clear hqe hpa hpb hq hq0 ha hb
     go_wp2_with fail
     refine wp_region_hl [] [0,1,2,3,4,5,6,7,8,9,10,11,12] (InT g q j a b) (by kernel_rfl) (by kernel_rfl) S4.out ?_
     iterate 3 (refine hd_take (v:=?_) rfl rfl (by kernel_rfl) (fun W hW=>?_) ?_;rotate_left;(obtain⟨r0,r1⟩:=hW;first|(go_simp;done)|(go_simp;with_reducible rfl)))
     refine hd_take (v:=.bool true) rfl rfl (by kernel_rfl) (fun W hW=>by obtain⟨r0,r1⟩:=hW;go_simp) ?_
     iterate 9 (refine hd_take (v:=?_) rfl rfl (by kernel_rfl) (fun W hW=>?_) ?_;rotate_left;(obtain⟨r0,r1⟩:=hW;first|(go_simp;done)|(go_simp;with_reducible rfl)))
     refine hd_end ?_;simp only[zqa,zqb,zqc,zqd,Nat.zero_add,Nat.reduceAdd]
     go_wp2_with fail
     refine HLs.out.mono ?_;rintro e w1 ⟨⟨v,rfl⟩,rfl⟩;have hd:=H2.out.1.keep ((Chg.refl (fun _=>False) wr U).drewN 1) id;have hcd:=H2.out.2.drewN 1;have HD:=hid (And.intro hd hcd);clear hd hcd H2 S4 HLs
     cases v with
     | false=>
      go_wp2_with fail
      go_roundw
      case rel=>exact⟨k+1,by omega,by go_num,HD.out⟩
      case measure=>have:=HKN.out;simp[intOf];omega
     | true=>
      change Hid (StrB wr.drew U y g n P/\Chg (· = y) w U wr.drew U) at HD
      generalize wr.drew=W1 at HD ⊢;have hd2:StrB W1.drew U y g n P/\Chg (· = y) w U W1.drew U:=⟨HD.out.1.keep ((Chg.refl (fun _=>False) W1 U).drewN 1) id,HD.out.2.drewN 1⟩;obtain⟨a',ha',hpa'⟩:=hd2.1.get q (by have:=HKN.out;have:=HQE.out.1;omega);obtain⟨b',hb',hpb'⟩:=hd2.1.get j (by have:=HKN.out;have:=HLe.out;omega);have S6:Hid (InT g q j a' b' W1.drew):=hid ⟨ha',hb'⟩;have HP2:=hid (And.intro hpa' hpb');have f1:=hd2.1.frozen q;have HD2:=hid hd2;clear hd2 hpa' hpb' hb' HD
      go_wp2_with fail
      refine wp_region_pl (.take 0 (.take 1 (.take 2 (.take 3 (.take 4 (.take 5 (.take 6 (.take 7 (.take 8 (.take 10 (.take 11 (.take 12 (.two 9 (.one 13 (.take 14 (.one 15 .done))) 13 (.one 9 (.take 14 (.one 15 .done)))))))))))))))) (fun _=>True) (by kernel_rfl) (by kernel_rfl) trivial ?_;have e9:=S6.out.1;have e10:=S6.out.2;generalize W1.drew=wd at *
      iterate 12 (refine pl_take (v:=?_) rfl (by kernel_rfl) (fun W hW=>?_) ?_;rotate_left;(first|(go_simp;done)|(go_simp;with_reducible rfl)))
      refine pl_two rfl rfl (fun K hK=>?_) (fun K hK=>?_)
      all_goals (
       go_simp;refine hK _ _ trivial ?_;clear hK;refine pl_one rfl fun K hK=>?_;go_simp;refine hK _ _ trivial ?_;clear hK;refine pl_take (v:=?_) rfl (by kernel_rfl) (fun W hW=>?_) ?_
       rotate_left
       (first|(go_simp;done)|(go_simp;with_reducible rfl))
       refine pl_one rfl fun K hK=>?_;go_simp;refine hK _ _ trivial (pl_end ?_);clear hK e9 e10 f1;have h3:=HD2.out.1.set q b' HP2.out.2;have f2:=h3.1.frozen j;obtain⟨x2,hx2,-⟩:=h3.1.get j (by have:=HKN.out;have:=HLe.out;omega);have h4:=h3.1.set j a' HP2.out.1;have H4:Hid (StrB ((wd.setCell ⟨g,q,none⟩ (.string b')).setCell ⟨g,j,none⟩ (.string a')) U y g n P/\Chg (· = y) w U ((wd.setCell ⟨g,q,none⟩ (.string b')).setCell ⟨g,j,none⟩ (.string a')) U):=hid ⟨h4.1,(HD2.out.2.trans h3.2).trans h4.2⟩;clear h3 h4;simp only[Plan.len,List.drop_succ_cons,List.drop_zero,Nat.zero_add,Nat.reduceAdd]
       go_wp2_with fail
       go_roundw
       case rel=>exact⟨j,by have:=HLe.out;omega,by have:=HQE.out.1;go_num,H4.out⟩
       case measure=>have:=HQE.out.1;simp[intOf];omega)
  ·go_wp2_with fail
   refine bodyPost_end (by first|rfl|(simp[results];rfl)) rfl ?_;exact⟨⟨_,rfl⟩,H1.out⟩
theorem pdq315 (w:World)(U:Own)(y g n c:Nat)(L:Int)(P:ByteArray->Prop)(hB:StrB w U y g n P)(hm:n<=12) :
 Calls Tryz.prog 315 #[.slice (some ⟨g,0,none⟩) n c,.int .i64 0,.int .i64 (n:Int),.int .i64 L] w fun e w'=>(∃ v,e=.returned v)/\StrB w' U y g n P/\Chg (· = y) w U w' U:=by
 have H:=hid (ins328 w U y g n c P hB (by omega))
 have k1:(n:Int)<=12:=by omega
 have k0:(0:Int)<=(n:Int):=by omega
 clear hB;go_enter Tryz.func315,Tryz.ntmps315
 go_wp2
 go_loop [1,2,3] (fun a b c=>a=.int .i64 0/\b=.int .i64 (n:Int)/\c=.int .i64 L) (fun _ _ _=>0)
 case atStart=>exact⟨rfl,rfl,rfl⟩
 case round=>
  obtain⟨rfl,rfl,rfl⟩:=hrel
  go_wp2_with fail
  refine H.out.mono ?_;rintro e w1 ⟨⟨v,rfl⟩,h1⟩;have H1:=hid h1;clear h1
  go_wp2
  refine bodyPost_ret (by first|exact results_none rfl _ _ _|exact Great.results_none rfl _ _ _|rfl) rfl ?_;exact⟨⟨_,rfl⟩,H1.out⟩
theorem sort291 (w:World)(U:Own)(y g n c:Nat)(P:ByteArray->Prop)(hB:StrB w U y g n P)(hm:n<=12) :
 Calls Tryz.prog 291 #[.slice (some ⟨g,0,none⟩) n c] w fun e w'=>(∃ v,e=.returned v)/\StrB w' U y g n P/\Chg (· = y) w U w' U:=by
 have H:=hid fun L=>pdq315 w U y g n c L P hB hm;have H2:=hid (len262 w n hm)
 have k1:(n:Int)<=12:=by omega
 have k0:(0:Int)<=(n:Int):=by omega
 clear hB;go_enter Tryz.func291,Tryz.ntmps291
 go_wp2_with fail
 refine H2.out.mono ?_;rintro e w1 ⟨⟨L,rfl⟩,rfl⟩
 go_wp2_with fail
 refine(H.out L).mono ?_;rintro e w1 ⟨⟨v,rfl⟩,h1⟩;have H1:=hid h1;clear h1
 go_wp2
 refine bodyPost_end (by first|rfl|(simp[results];rfl)) rfl ?_;exact⟨⟨_,rfl⟩,H1.out⟩
theorem ins328z (w:World):Calls Tryz.prog 328 #[.slice none 0 0,.int .i64 0,.int .i64 0] w fun e w'=>(∃ v,e=.returned v)/\w'=w:=by
 go_enter Tryz.func328,Tryz.ntmps328
 go_wp2
 go_loop [6] (fun i=>i=.int .i64 1) (fun _=>0)
 case atStart=>rfl
 case round=>
  subst hrel
  go_wp2
  refine bodyPost_end (by first|rfl|(simp[results];rfl)) rfl ?_;exact⟨⟨_,rfl⟩,rfl⟩
theorem pdq315z (w:World)(L:Int):Calls Tryz.prog 315 #[.slice none 0 0,.int .i64 0,.int .i64 0,.int .i64 L] w fun e w'=>(∃ v,e=.returned v)/\w'=w:=by
 have H:=hid (ins328z w);go_enter Tryz.func315,Tryz.ntmps315
 go_wp2
 go_loop [1,2,3] (fun a b c=>a=.int .i64 0/\b=.int .i64 0/\c=.int .i64 L) (fun _ _ _=>0)
 case atStart=>exact⟨rfl,rfl,rfl⟩
 case round=>
  obtain⟨rfl,rfl,rfl⟩:=hrel
  go_wp2_with fail
  refine H.out.mono ?_;rintro e w1 ⟨⟨v,rfl⟩,rfl⟩
  go_wp2
  refine bodyPost_ret (by first|exact results_none rfl _ _ _|exact Great.results_none rfl _ _ _|rfl) rfl ?_;exact⟨⟨_,rfl⟩,rfl⟩
theorem sort291z (w:World):Calls Tryz.prog 291 #[.slice none 0 0] w fun e w'=>(∃ v,e=.returned v)/\w'=w:=by
 have H:=hid fun L=>pdq315z w L;have H2:=hid (len262 w 0 (by decide));go_enter Tryz.func291,Tryz.ntmps291
 go_wp2_with fail
 refine H2.out.mono ?_;rintro e w1 ⟨⟨L,rfl⟩,rfl⟩
 go_wp2_with fail
 refine(H.out L).mono ?_;rintro e w1 ⟨⟨v,rfl⟩,rfl⟩
 go_wp2
 refine bodyPost_end (by first|rfl|(simp[results];rfl)) rfl ?_;exact⟨⟨_,rfl⟩,rfl⟩
def fS (k:ByteArray):List Value:=[.string k]
def hadK (pl:List Place):List ByteArray:=(pl.filter (·.has)).map (·.key)
theorem hadK_succ (pl:List Place)(j:Nat)(p:Place)(h:pl[j]? = some p):hadK (pl.take (j+1))=if p.has=true then hadK (pl.take j)++[p.key] else hadK (pl.take j):=by
 unfold hadK;rw[List.take_add_one,h];simp only[Option.toList_some,List.filter_append,List.map_append]
 by_cases hp:p.has=true
 ·simp[hp]
 ·simp[hp]
theorem hadK_le (pl:List Place)(j:Nat):(hadK (pl.take j)).length<=(pl.filter (·.has)).length:=by
 unfold hadK;rw[List.length_map];exact((List.take_sublist j pl).filter _).length_le
theorem hadK_mem (pl:List Place)(k:ByteArray)(h:k∈hadK pl):∃ p∈pl,p.has=true/\p.key=k:=by
 unfold hadK at h;obtain⟨p,hp,rfl⟩:=List.mem_map.1 h;obtain⟨h1,h2⟩:=List.mem_filter.1 hp;exact⟨p,h1,h2,rfl⟩
def StrV (w:World)(U:Own)(v:Value)(n:Nat)(P:ByteArray->Prop):Prop:=(n=0/\v=.slice none 0 0)\/∃ y g c,y%96=95/\v=.slice (some ⟨g,0,none⟩) n c/\n<=c/\StrB w U y g n P
theorem info9s:(Tryz.prog.info? 9).map (fun i=>(i.zero.map Value.cells,i.size,i.bytes))=some (some #[.string ⟨#[]⟩],1,16):=by kernel_rfl
theorem keys267 (w:World)(U:Own)(t x n used:Nat)(pl:List Place)(hI:IndexAt w U t x pl n used)(hle:(pl.filter (·.has)).length<=12)(ht:t<95) :
 Calls Tryz.prog 267 #[.pointer (some ⟨x,0,none⟩)] w fun e w'=>∃ v U' m,e=.returned v/\m<=12/\StrV w' U' v m (fun k=>∃ p∈pl,p.has=true/\p.key=k)/\Chg (fun _=>False) w U w' U':=by
 obtain⟨y,hy1,hy2⟩:=fresh95 w U;obtain⟨T,hx,hT,-,hcs⟩:=hI.cells;have c0:=hx.cell 0;have hlen:=hI.len
 have hln:(pl.length:Int)<=48:=by omega
 obtain⟨N,hN⟩:∃ N,N=pl.length:=⟨_,rfl⟩;have HCS:Hid (∀ W U',Chg (fun _=>False) w U W U'->∀ i p,pl[i]? = some p->W.cell? ⟨T,i*4,none⟩=some (.string p.key)/\W.cell? ⟨T,i*4+1,none⟩=some (.int .i64 (p.pos:Int))/\W.cell? ⟨T,i*4+2,none⟩=some (.bool p.has)/\W.cell? ⟨T,i*4+3,none⟩=some (.bool p.gone)):=hid fun W U' hc i p hp=>hcs i p hp W hc.below;have HX:=hid (And.intro hN hle);have HY:=hid (And.intro hy1 hy2);simp only[List.getElem?_toArray]at c0;rw[<- hN]at c0 hln;clear hI hx hT hcs hle hy1 hy2 hN hlen;go_enter Tryz.func267,Tryz.ntmps267
 go_wp2
 go_loopw [3,13] (fun l i wr=>∃ (j:Nat) (Ur:Own),j<=N/\i=.int .i64 (j:Int)/\Rw wr Ur y 9 1 l (hadK (pl.take j)).length ((hadK (pl.take j)).flatMap fS)/\Chg (fun _=>False) w U wr Ur) (fun _ i _=>N-(intOf i).toNat)
 case atStart=>exact⟨0,U,Nat.zero_le _,rfl,Rw.nil _ _ _ _ _,Chg.refl _ _ _⟩
 case round=>
  obtain⟨j,Ur,hj,rfl,hr,hc⟩:=hrel;obtain⟨A,cA,rfl,hcA,-,-,-,hA0,-⟩:=hr.slice;have hle12:(hadK (pl.take j)).length<=12:=Nat.le_trans (hadK_le pl j) HX.out.2
  by_cases hlt:j<N
  ·have hjl:j<pl.length:=by rw[<- HX.out.1];exact hlt
   obtain⟨p,hp⟩:∃ p,pl[j]? = some p:=⟨_,List.getElem?_eq_getElem hjl⟩;obtain⟨p0,p1,p2,p3⟩:=HCS.out wr Ur hc j p hp;have HSU:=hid (hadK_succ pl j p hp);obtain⟨pk,pp,ph,pg⟩:=p;dsimp only at p0 p1 p2 p3
   have k1:(j:Int)<(N:Int):=by omega
   have k2:(0:Int)<=(j:Int):=by omega
   have k3:(j:Int)<=48:=by omega
   have HR:=hid (And.intro hr (And.intro hc hle12));obtain⟨h,hh⟩:∃ h,h=hadK (pl.take j):=⟨_,rfl⟩;rw[<- hh]at HR HSU;obtain⟨hl,hhl⟩:∃ hl,hl=h.length:=⟨_,rfl⟩;rw[<- hh,<- hhl];rw[<- hhl]at HR;have HHL:=hid hhl;clear hr hc hp hjl hcA hA0 hle12 hh hhl c0
   cases ph with
   | false=>
    go_wp2
    go_roundw
    case rel=>
     refine⟨j+1,Ur,by omega,by go_num,?_⟩;rw[HSU.out,if_neg (by simp)];rw[<- HHL.out];exact⟨HR.out.1.alloc _,HR.out.2.1.alloc _⟩
    case measure=>simp[intOf];omega
   | true=>
    obtain⟨W1,hW1⟩:∃ W,W=wr.alloc (.cells #[.string pk,.int .i64 (pp:Int),.bool true,.bool pg] 325):=⟨_,rfl⟩
    have hr1:Rw (W1.alloc (.cells #[.string pk] 9)) Ur y 9 1 (.slice A hl cA) hl (h.flatMap fS):=by rw[hW1];exact(HR.out.1.alloc _).alloc _
    have hc1:Chg (fun _=>False) w U (W1.alloc (.cells #[.string pk] 9)) Ur:=by rw[hW1];exact(HR.out.2.1.alloc _).alloc _
    have HR1:=hid (And.intro hr1 hc1)
    have hkp:Blk W1 wr.heap.size 325 #[.string pk,.int .i64 (pp:Int),.bool true,.bool pg]:=by rw[hW1];exact Blk.new _ _ _
    have s0:W1.cell? ⟨wr.heap.size,0,none⟩=some (.string pk):=hkp.cell 0;have s2:W1.cell? ⟨wr.heap.size,2,none⟩=some (.bool true):=hkp.cell 2;have HW1:=hid hW1
    have kb:(hl:Int)<=12:=by have:=HR.out.2.2;omega
    clear hr1 hc1 hW1 hkp
    go_wp2_with (first|(rw[<- HW1.out])|(at_builtin;refine wpl_app (news:=[.string pk]) rfl rfl Ur y (by kernel_rfl) info9s rfl (by decide) (by decide) rfl HR1.out.1 rfl rfl (Blk.new W1 9 #[.string pk]).sl (by simp[Value.oneCell']) (by omega) ?_))
    intro g cap w8 hr8 hc8 hg8;generalize ext Ur (W1.alloc (.cells #[.string pk] 9)) y=U8 at hr8 hc8;have hc9:Chg (fun _=>False) w U w8 U8:=((HR1.out.2.mono (T':=(· = y)) fun _ e=>e.elim).trans hc8).fresh fun i hi e=>(HY.out.2 i hi e).elim;have H8:=hid (And.intro hr8 hc9);clear hr8 hc8 hg8 hc9 s0 s2
    go_wp2_with fail
    go_roundw
    case rel=>
     refine⟨j+1,U8,by omega,by go_num,?_⟩;rw[HSU.out,if_pos trivial]
     have e1:(h++[pk]).length=hl+1:=by simp[HHL.out]
     rw[e1,List.flatMap_append];exact H8.out
    case measure=>simp[intOf];omega
  ·obtain rfl:j=N:=by omega
   have hall:pl.take j=pl:=List.take_of_length_le (by have:=HX.out.1;omega);rw[hall]at hr hle12 hcA hA0;rw[hall];obtain⟨h,hh⟩:∃ h,h=hadK pl:=⟨_,rfl⟩;have hmem:∀ k∈h,∃ p∈pl,p.has=true/\p.key=k:=fun k hk=>hadK_mem pl k (by rw[<- hh];exact hk);rw[<- hh]at hr hle12 hcA hA0 ⊢;obtain⟨m,hm⟩:∃ m,m=h.length:=⟨_,rfl⟩;rw[<- hm]at hr hle12 hcA hA0 ⊢;have HM:=hid (And.intro hmem (And.intro hle12 (And.intro hcA hc)))
   rcases hr.own.2 with ⟨hv,h0⟩|⟨g,cap,cur,hv,-,hg,hcc,hmm,hsz,htk⟩
   ·cases hv
    have HS:=hid (sort291z wr);clear hr hmem hle12 hcA hA0 hc hm
    go_wp2_with (go_at_call 291;fail)
    refine HS.out.mono ?_;rintro e w1 ⟨⟨v,rfl⟩,rfl⟩
    go_wp2
    go_ret;exact⟨_,Ur,0,rfl,by decide,.inl ⟨rfl,rfl⟩,HM.out.2.2.2⟩
   ·cases hv
    have hlen:(h.flatMap fS).length=m*1:=hr.own.1
    have hfl:h.flatMap fS=h.map Value.string:=by
     clear hr htk hlen hh hmem hm HM
     induction h with
     | nil=>rfl
     | cons a l ih=>rw[List.flatMap_cons,List.map_cons,ih];rfl
    have hB:StrB wr Ur y g m (fun k=>∃ p∈pl,p.has=true/\p.key=k):=⟨cur,⟨hg,hr.tag g rfl⟩,fun i hi=>by
     have hil:i<h.length:=by omega
     refine⟨h[i],?_,hmem _ (List.getElem_mem hil)⟩;have:=congrArg (·[i]?) htk;simp only[hfl,List.getElem?_map,List.getElem?_eq_getElem hil,Option.map_some]at this;rw[List.getElem?_take,if_pos (by omega),Array.getElem?_toList]at this
     exact this⟩
    have HS:=hid (sort291 wr Ur y g m cA _ hB hle12);clear hr hmem hle12 hcA hA0 hc hm htk hlen hfl hB hg hcc hmm hsz
    go_wp2_with (go_at_call 291;fail)
    refine HS.out.mono ?_;rintro e w1 ⟨⟨v,rfl⟩,h1,h2⟩;have H1:=hid (And.intro h1 h2);clear h1 h2 HS
    go_wp2
    go_ret;refine⟨_,Ur,m,rfl,HM.out.2.1,.inr ⟨y,g,cA,HY.out.1,rfl,HM.out.2.2.1,H1.out.1⟩,?_⟩;exact((HM.out.2.2.2.mono (T':=(· = y)) fun _ e=>e.elim).trans H1.out.2).fresh fun i hi e=>(HY.out.2 i hi e).elim
theorem mapP_filter (f:Lf)(pl:List Place):((mapP f pl).filter (·.has)).length=(pl.filter (·.has)).length:=by
 unfold mapP;rw[List.filter_map,List.length_map]
 congr 1
 apply List.filter_congr;intro p _;exact mp_has f p
theorem keys236 (w:World)(U:Own)(tc c d from_ segs n:Nat)(f:Lf)(Z:Cont)(s:FQ)(hF:FlashAt w U tc c d from_ segs n f Z s)(hle:(s.pl.filter (·.has)).length<=12) :
 Calls Tryz.prog 236 #[.pointer (some ⟨c,0,none⟩)] w fun e w'=>∃ v U' m,e=.returned v/\m<=12/\StrV w' U' v m (fun k=>k.size<=9223372036854775807/\∃ p∈s.pl,p.has=true)/\Chg (fun _=>False) w U w' U':=by
 obtain⟨lp,x,fr,h1,h2,h3⟩:=hF.raw.ex;have hpk:=hF.raw.pk;have ht:=hF.raw.lt;have H:=hid (keys267 w U (tc+1) x s.n s.used (mapP f s.pl) h3 (by rw[mapP_filter];exact hle) (by omega))
 have HPK:Hid (∀ p∈mapP f s.pl,p.has=true->p.key.size<=9223372036854775807/\∃ p∈s.pl,p.has=true):=hid fun p hp hh=>⟨(hpk p hp).1,by
  unfold mapP at hp;obtain⟨q,hq,rfl⟩:=List.mem_map.1 hp
  exact⟨q,hq,by rw[<- mp_has f q];exact hh⟩⟩
 have c1:w.cell? ⟨c,1,none⟩=some (.pointer (some ⟨x,0,none⟩)):=h1.cell 1;clear hF h1 h2 h3 hle hpk ht;go_enter Tryz.func236,Tryz.ntmps236
 go_wp2_with (go_at_call 267;fail)
 refine H.out.mono ?_;rintro e w1 ⟨v,U',m,rfl,hm,hv,hc⟩;have HB:=hid (And.intro hm (And.intro hv hc));clear hm hv hc
 go_wp2
 go_ret;refine⟨v,U',m,rfl,HB.out.1,?_,HB.out.2.2⟩
 rcases HB.out.2.1 with h|⟨y,g,c,h1,h2,h3,cs,h4,h5⟩
 ·exact .inl h
 ·refine .inr ⟨y,g,c,h1,h2,h3,cs,h4,fun j hj=>?_⟩
  obtain⟨k,hk,p,hp,hh,rfl⟩:=h5 j hj;exact⟨_,hk,HPK.out p hp hh⟩
end Go.Proofs.Ytlhekbjidppijaa
