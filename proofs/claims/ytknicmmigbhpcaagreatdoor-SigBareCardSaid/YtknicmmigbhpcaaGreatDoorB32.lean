/- Walks and plain laws: ScopeW4, ScopeW5, ShowPB, ScopeW6, ShowPC, ShowPD, ShowPE, ScopeW7, SigMem, SigW2, DumpL. -/
import Derived.Test.YtknicmmigbhpcaaGreatDoorB31
set_option maxHeartbeats 16000000
set_option maxRecDepth 100000
set_option linter.unusedVariables false
set_option linter.unusedSimpArgs false
namespace Go.Proofs.YtknicmmigbhpcaaGreatDoor
open Go.RowKit Go
def I7 (x:PZ):Prop:=∀ (E:SE) (C:WV) (lb B:Nat) (im:Value) (f:Fl) (am:Option Addr) (wn cm:Nat) (ae:Option Addr) (ce:Nat) (ab:Option Addr) (cb:Nat) (bd:List (List UInt8)) (res:Bool) (w:World),qK C lb im f w→ScM E C lb B im w→nH f →
 oI YA (fun b=>b≠lb) w (.slice am wn cm) (.slice ae x.kids.length ce) x→bJ (fun b=>b≠lb) w (.slice ab bd.length cb) bd→bd.Pairwise (· < ·)→bd.length+x.size≤500000 →
 Calls Tryz.prog 86 #[.pointer (some ⟨lb,0,none⟩),.agg (aU x.op ⟨x.name.toArray⟩ ⟨x.module.toArray⟩ (decide (x.num<0)) (.slice am wn cm) x.yes (.slice ae x.kids.length ce) x.at_),.agg #[.slice ab bd.length cb],.bool res] w (I6 C lb im (sw f (x.kZ E bd res)) w)
theorem Qe (w:World)(x:List UInt8):bJ (fun _=>True) (w.alloc (.cells #[.string ⟨x.toArray⟩] 9)) (.slice (some ⟨w.heap.size,0,none⟩) 1 1) [x]:=by
 refine⟨⟨_,1,rfl,Nat.le_refl _,rfl,fun _=>⟨w.heap.size,0,rfl,trivial,by simp,fun i hi=>?_⟩⟩,fun n c q=>by cases q⟩
 obtain rfl:i=0:=by simpa using hi
 rw[Lib.cell_of_heap (heap_alloc_new w _)]
 rfl
theorem PZ.tK (e:PZ):e.size=rQ e.kids+1:=by cases e;rw[PZ.size];rfl
theorem Lv:∀ {l:List PZ} {k:Nat} (h:k<l.length),l[k].size≤rQ l
 | [],_,h=>absurd h (by simp)
 | e :: l,0,_=>by rw[rQ];exact Nat.le_add_right _ _
 | e :: l,k+1,h=>by
  rw[rQ];have:=Lv (l:=l) (k:=k) (by simpa using h);simp only[List.getElem_cons_succ];omega
theorem D7:∀ l:List PZ,l.length≤rQ l
 | []=>Nat.le_refl _
 | e :: l=>by
  have h1:=D7 l;have h2:=e.tK;rw[eG,rQ];omega
theorem yw (E:SE):∀ (op:Int) (nm md:List UInt8) (n:Nat) (a:Int) (bd:List (List UInt8)) (res:Bool),nH (tO E bd res op nm md n a):=fun op nm md n a bd res=>by
 have hA:∀ o,nH (CZ o n a):=fun o=>by
  unfold CZ
  split
  ·exact nH.some (by decide)
  ·split
   ·exact nH.none
   ·exact nH.some (by decide)
 unfold tO
 split
 ·exact nH.some (by decide)
 ·split
  ·unfold Gg
   split
   ·exact hA _
   ·split
    ·exact hA _
    ·exact nH.some (by decide)
  ·exact nH.none
mutual
theorem PZ.yw (E:SE)(bd:List (List UInt8))(res:Bool):∀ e:PZ,nH (e.kZ E bd res)
 | .mk op nm md _ _ kids a=>by rw[PZ.kZ];exact(Go.Proofs.YtknicmmigbhpcaaGreatDoor.yw E op nm md kids.length a bd res).or (zI E op nm bd res kids 0)
theorem zI (E:SE)(op:Int)(nm:List UInt8)(bd:List (List UInt8))(res:Bool):∀ (l:List PZ) (i:Nat),nH (fO E op nm bd res i l)
 | [],i=>by rw[fO];exact nH.none
 | e :: l,i=>by rw[fO];exact(PZ.yw E _ res e).or (zI E op nm bd res l (i+1))
end
theorem OG (x:PZ)(IHx:∀ k∈x.kids,I7 k):I7 x:=by
 intro E C lb B im f am wn cm ae ce ab cb bd res w hL hM hf hZ hT hr hn;have hal:=(aj w (.cells (aU x.op ⟨x.name.toArray⟩ ⟨x.module.toArray⟩ (decide (x.num<0)) (.slice am wn cm) x.yes (.slice ae x.kids.length ce) x.at_) 46)).alloc (by simp) (.cells #[.slice ab bd.length cb] 114);have g0:=(Lib.alloc_old (w.alloc (.cells (aU x.op ⟨x.name.toArray⟩ ⟨x.module.toArray⟩ (decide (x.num<0)) (.slice am wn cm) x.yes (.slice ae x.kids.length ce) x.at_) 46)) (.cells #[.slice ab bd.length cb] 114) w.heap.size (by simp)).trans (heap_alloc_new w (.cells (aU x.op ⟨x.name.toArray⟩ ⟨x.module.toArray⟩ (decide (x.num<0)) (.slice am wn cm) x.yes (.slice ae x.kids.length ce) x.at_) 46));have g1:=heap_alloc_new (w.alloc (.cells (aU x.op ⟨x.name.toArray⟩ ⟨x.module.toArray⟩ (decide (x.num<0)) (.slice am wn cm) x.yes (.slice ae x.kids.length ce) x.at_) 46)) (.cells #[.slice ab bd.length cb] 114);rw[World.size_alloc] at g1;have hhd:=yw E x.op x.name x.module x.kids.length x.at_ bd res;have hdef:=x.NZ E bd res;have hks:=x.tK;have hkl:=D7 x.kids
 have hcap:=fun i (hi:i<x.kids.length)=>Lv hi
 obtain⟨_,ae',ce',hv,_,hform⟩:=hZ.form;simp only[Value.slice.injEq] at hv;obtain⟨rfl,-,rfl⟩:=hv;have hlw:=hL.lt;have hL1:=hL.below hal;have hM1:=hM.keep hL (aQ.of hal);have hT1:=hT.below hal;have HF:=ah hform;have HSZ:=ah hcap;have IH:=ah IHx;have Zy:=ah hdef;have HR:=ah hr;have HFO:=ah hf;rw[hks] at hn;clear hL hM hT hZ hr hf hform hcap IHx hdef hks
 obtain⟨R,hR⟩:∃ R,R=x.kZ E bd res:=⟨_,rfl⟩
 rw[← hR] at Zy ⊢;clear hR;generalize hop:x.op=op at *;generalize hnm:x.name=nm at *;generalize hmd:x.module=md at *;generalize hat:x.at_=a_ at *;generalize hkk:x.kids=ks at *;clear hop hnm hmd hat hkk;generalize decide (x.num<0)=ng at *;generalize x.yes=ys at *;have HX:=ah (fun W (hW:Below w.heap.size w W)=>hW);go_enter Tryz.func86,Tryz.ntmps86
 go_upto_block 0 with fail
 change Code.wp _ _ _ _ ((w.alloc _).alloc (.cells #[.slice ab bd.length cb] 114));generalize (w.alloc _).alloc (.cells #[.slice ab bd.length cb] 114)=w1 at *;have hz1:=hal.size;have hl1:=(bG g1).1;have hk1:=iq.of hal hlw;obtain⟨y0,y1,y2,y3,y4,y5,y6,y7⟩:=aG g0;obtain⟨r0,rz⟩:=aH g1;have HL1:=ah hL1;have Zz:=ah hM1;have HT1:=ah hT1;have HG:=ah (And.intro g0 g1);clear hL1 hM1 hT1 g0 g1 HX
 obtain⟨A,hA⟩:∃ A,A=(decide (op=3) && !decide (nm∈bd)):=⟨_,rfl⟩
 obtain⟨T,hTT⟩:∃ T,T=decide ((op=3∧nm ∉ bd)∨(op=4∧res=false)):=⟨_,rfl⟩
 have HA:=ah hA;have Mc:=ah hTT;clear hA hTT
 obtain⟨f1,hf1⟩:∃ f1,f1=sw f (tO E bd res op nm md ks.length a_):=⟨_,rfl⟩
 have SC:=ah hf1
 have adb:nH f1:=by rw[hf1];exact HFO.out.or hhd
 have aer:=ah adb;clear hf1 adb hhd
 have afI:lb<w1.heap.size:=by omega
 go_cut [] (fun wc=>qK C lb im f1 wc∧iq lb w1 wc)
 case first =>
  go_upto_region 1 with fail
  go_cut [10] (fun v wc=>v=.bool A∧Below w1.heap.size w1 wc)
  case first =>
   have HH:=ah (yh _ ab cb bd ⟨nm.toArray⟩ w1 HT1.out HR.out (by omega));simp only at HH
   obtain⟨m,hm⟩:∃ m,m=decide (nm∈bd):=⟨_,rfl⟩
   rw[← hm] at HH HA;clear hm
   by_cases h3:op=3
   ·have h3I:((op:Int) == 3)=true:=by simp[h3]
    have HA1:Hid (A=!m):=ah (by rw[HA.out,decide_eq_true h3];rfl);clear h3 HA;go_wp2_with (go_at_call 60;refine HH.out.mono ?_;rintro e w2 ⟨rfl,hb2⟩)
    go_meet
    exact⟨by rw[HA1.out],hb2⟩
   ·have h3I:((op:Int) == 3)=false:=by simp[h3]
    have HA1:Hid (A=false):=ah (by rw[HA.out,decide_eq_false h3];rfl);clear h3 HA HH;go_wp2
    go_meet
    exact⟨by rw[HA1.out],Below.refl _ _⟩
  case rest =>
   obtain⟨rfl,hb2⟩:=hcut
   obtain⟨w2,rfl⟩:∃ w2:World,w2=wc:=⟨_,rfl⟩
   clear y0 y1 y2 y3 y4 y5 y6 y7 r0 rz;have hz2:=hb2.size;have g0:=(hb2.block _ (by omega)).trans HG.out.1;have g1:=(hb2.block _ hl1).trans HG.out.2;have HG2:=ah (And.intro g0 g1);obtain⟨y0,y1,y2,y3,y4,y5,y6,y7⟩:=aG g0;clear g0 g1
   go_upto_if 10 with fail
   go_cut [10] (fun v wc=>v=.bool T∧w2=wc)
   case first =>
    cases A with
    | true =>
     have HT1:Hid (T=true):=ah (by
      have h1:=HA.out;rw[Mc.out];simp only[Bool.true_eq,Bool.and_eq_true,decide_eq_true_eq,Bool.not_eq_true',decide_eq_false_iff_not] at h1
      exact decide_eq_true (.inl h1))
     go_wp2
     go_meet
     exact⟨by rw[HT1.out],rfl⟩
    | false =>
     have HT1:Hid (T=(decide (op=4) && !res)):=ah (by
      have h1:=HA.out;rw[Mc.out]
      have h2:¬ (op=3∧nm ∉ bd):=fun q=>by rw[decide_eq_true q.1,decide_eq_false q.2] at h1;cases h1
      by_cases h4:op=4
      ·cases res<;>simp[h4,h2]
      ·simp[h4,h2])
     clear Mc HA
     by_cases h4:op=4
     ·have h4I:((op:Int) == 4)=true:=by simp[h4]
      have HT2:Hid (T=!res):=ah (by rw[HT1.out,decide_eq_true h4];rfl);clear h4 HT1;go_wp2
      go_meet
      exact⟨by rw[HT2.out],rfl⟩
     ·have h4I:((op:Int) == 4)=false:=by simp[h4]
      have HT2:Hid (T=false):=ah (by rw[HT1.out,decide_eq_false h4];rfl);clear h4 HT1;go_wp2
      go_meet
      exact⟨by rw[HT2.out],rfl⟩
   case rest =>
    obtain⟨rfl,rfl⟩:=hcut;have hL2:=HL1.out.below hb2;have hM2:=Zz.out.keep HL1.out (aQ.of hb2);have HL2:=ah hL2;have TD:=ah hM2;clear hL2 hM2
    go_upto_if 10 with fail
    cases T with
    | true =>
     have HE:Hid (f1=sw f (some (31,a_))):=ah (by
      rw[SC.out,tO,if_pos (of_decide_eq_true Mc.out.symm)])
     have X5:=ah (Gu C lb im f 31 a_ w2 HL2.out HFO.out);clear Mc HA SC;go_wp2_with (go_at_call 56;refine X5.out.mono ?_;rintro e w3 ⟨rfl,hl3,hk3⟩)
     go_meet
     exact⟨by rw[HE.out];exact hl3,(iq.of hb2 (by omega)).trans hk3⟩
    | false =>
     have hnT:=of_decide_eq_false Mc.out.symm
     by_cases XP:op=24
     ·have HE:Hid (f1=sw f (Gg E nm md ks.length a_)):=ah (by
       rw[SC.out,tO,if_neg hnT,if_pos XP])
      subst XP;have HCA:Hid (Calls _ _ _ w2 _):=ah (SS E C lb B im f 24 nm md ng ys (.slice am wn cm) ae ks.length ce a_ w2 HL2.out TD.out HFO.out);unfold aU at HCA;clear Mc HA SC hnT;go_wp2_with (go_at_call 142;refine HCA.out.mono ?_;rintro e w3 ⟨rfl,hl3,hk3⟩)
      go_meet
      exact⟨by rw[HE.out];exact hl3,(iq.of hb2 (by omega)).trans hk3⟩
     ·have afJ:((op:Int) == 24)=false:=by simp[XP]
      have HE:Hid (f1=f):=ah (by
       rw[SC.out,tO,if_neg hnT,if_neg XP,xU])
      clear Mc HA SC hnT XP;go_wp2
      go_meet
      exact⟨by rw[HE.out];exact HL2.out,iq.of hb2 (by omega)⟩
 case rest =>
  obtain⟨hl2,hk2⟩:=hcut
  obtain⟨w2,rfl⟩:∃ w2:World,w2=wc:=⟨_,rfl⟩
  clear y0 y1 y2 y3 y4 y5 y6 y7 r0 rz HA Mc A T;have hz2:=hk2.2.1;have hM2:=Zz.out.keep HL1.out hk2.2;have Pm:=HT1.out.frame hk2.2;have g0:=(hk2.2.2 w.heap.size (by omega) (by omega)).trans HG.out.1;have g1:=(hk2.2.2 (w.heap.size+1) (by omega) hl1).trans HG.out.2;have aes:aQ (fun b=>b≠lb) w w2:=hk1.2.trans hk2.2;have aeu:=hk1.trans hk2;obtain⟨y0,y1,y2,y3,y4,y5,y6,y7⟩:=aG g0;have TD:=ah hM2;have HT2:=ah Pm;have HG2:=ah (And.intro g0 g1);have HL2:=ah hl2
  have afK:w.heap.size+1<w2.heap.size:=by omega
  clear hM2 Pm g0 g1 hl2 Zz HT1 HL1 HG hk1;go_wp2
  go_loopw [8,9,42] (fun _ _ q wr=>∃ k:Nat,k≤ks.length∧q=.int .i64 k∧qK C lb im (sw f1 (fO E op nm bd res 0 (ks.take k))) wr∧iq lb w2 wr) (fun _ _ q _=>ks.length - (intOf q).toNat)
  case atStart=>exact⟨0,Nat.zero_le _,rfl,by rw[List.take_zero,fO,xU];exact HL2.out,iq.refl _ _⟩
  case round =>
   obtain⟨k,hk,rfl,hlr,hkr⟩:=hrel;clear y0 y1 y2 y3 y4 y5 y6 y7;have uL:=hkr.2.1;have HLR:=ah hlr;clear hlr
   by_cases hlt:k<ks.length
   ·obtain⟨b,off,rfl,hPb,hbw,qx⟩:=HF.out (by omega)
    obtain⟨m,kv,hE,hc⟩:=qx k hlt;have har:aQ (fun b=>b≠lb) w wr:=aes.trans hkr.2;obtain⟨VG,VH,VI,ZA,ZB,rfl,rfl⟩:=hE.YQ;have hE':=hE.frame har
    have hcr:∀ (j:Nat) (u:Value),w.cell? ⟨b,off+k * 8+j,none⟩=some u→wr.cell? ⟨b,off+k * 8+j,none⟩=some u:=fun j u h=>(World.cell?_of_block (a:=⟨b,off+k * 8+j,none⟩) (har.2 b hPb hbw)).trans h
    have x0:=hcr 0 _ (hc 0 _ rfl);have x1:=hcr 1 _ (hc 1 _ rfl);have x2:=hcr 2 _ (hc 2 _ rfl);have x3:=hcr 3 _ (hc 3 _ rfl);have x4:=hcr 4 _ (hc 4 _ rfl);have x5:=hcr 5 _ (hc 5 _ rfl);have x6:=hcr 6 _ (hc 6 _ rfl);have x7:=hcr 7 _ (hc 7 _ rfl);rw[Nat.add_zero] at x0;simp only[dh] at x1 x2;have hIH:=IH.out _ (List.getElem_mem hlt);have hsz:=HSZ.out k hlt;have hsn:=Iu E op nm bd res hlt;have pK:=ah hsn;have HE:=ah hE';have HIH:=ah hIH;clear qx hE hE' hc hcr hIH hsn;generalize ks[k]=x at *
    obtain⟨fk,hfk⟩:∃ fk,fk=sw f1 (fO E op nm bd res 0 (ks.take k)):=⟨_,rfl⟩
    have ade:nH fk:=by rw[hfk];exact aer.out.or (zI E op nm bd res _ _)
    have YU:Hid (sw f1 (fO E op nm bd res 0 (ks.take (k+1)))=sw fk (x.kZ E (KP op nm bd k) res)):=ah (by rw[pK.out,hfk,zw]);rw[← hfk] at HLR;have hMr:=TD.out.keep HL2.out hkr.2
    have HK:Hid (∀ (W:World) (ab':Option Addr) (cb':Nat) (bd':List (List UInt8)),qK C lb im fk W→aQ (fun b=>b≠lb) wr W→bJ (fun b=>b≠lb) W (.slice ab' bd'.length cb') bd'→bd'.Pairwise (· < ·)→bd'.length+x.size≤500000→Calls Tryz.prog 86 #[.pointer (some ⟨lb,0,none⟩),.agg #[.int .i64 x.op,.string ⟨x.name.toArray⟩,.string ⟨x.module.toArray⟩,.bool (decide (x.num<0)),.slice VG VH VI,.bool x.yes,.slice ZA x.kids.length ZB,.int .i64 x.at_],.agg #[.slice ab' bd'.length cb'],.bool res] W (I6 C lb im (sw fk (x.kZ E bd' res)) W)) :=
     ah fun W ab' cb' bd' h1 h2 h3 h4 h5=>HIH.out E C lb B im fk VG VH VI ZA ZB ab' cb' bd' res W h1 (hMr.keep HLR.out h2) ade (HE.out.frame h2) h3 h4 h5
    have hTr:=HT2.out.frame hkr.2;have gr0:=(hkr.2.2 w.heap.size (by omega) (by omega)).trans HG2.out.1;have gr1:=(hkr.2.2 (w.heap.size+1) (by omega) (by omega)).trans HG2.out.2;have mO:=aj wr (.cells (aU x.op ⟨x.name.toArray⟩ ⟨x.module.toArray⟩ (decide (x.num<0)) (.slice VG VH VI) x.yes (.slice ZA x.kids.length ZB) x.at_) 46);have gk:=heap_alloc_new wr (.cells (aU x.op ⟨x.name.toArray⟩ ⟨x.module.toArray⟩ (decide (x.num<0)) (.slice VG VH VI) x.yes (.slice ZA x.kids.length ZB) x.at_) 46)
    have oH:(k:Int)<(ks.length:Int):=by omega
    have HTr:=ah hTr;have HGR:=ah (And.intro gr0 gr1);have aev:lb<wr.heap.size:=HLR.out.lt;clear hfk ade pK HE HIH hMr hTr gr0 gr1 har
    go_upto_region 9 with fail
    change Code.wp _ _ _ _ (wr.alloc (.cells (aU x.op ⟨x.name.toArray⟩ ⟨x.module.toArray⟩ (decide (x.num<0)) (.slice VG VH VI) x.yes (.slice ZA x.kids.length ZB) x.at_) 46));clear x0 x1 x2 x3 x4 x5 x6 x7
    have aew:wr.heap.size<(wr.alloc (.cells (aU x.op ⟨x.name.toArray⟩ ⟨x.module.toArray⟩ (decide (x.num<0)) (.slice VG VH VI) x.yes (.slice ZA x.kids.length ZB) x.at_) 46)).heap.size:=by simp
    generalize wr.alloc (.cells (aU x.op ⟨x.name.toArray⟩ ⟨x.module.toArray⟩ (decide (x.num<0)) (.slice VG VH VI) x.yes (.slice ZA x.kids.length ZB) x.at_) 46)=w3 at *;have hz3:=mO.size;have hL3:=HLR.out.below mO;have g0:=(mO.block _ (by omega)).trans HGR.out.1;have g1:=(mO.block _ (by omega)).trans HGR.out.2;have hk3:=iq.of mO aev;have WX:=ah hL3;have HT3:=ah (HTr.out.below mO);obtain⟨y0,y1,y2,y3,y4,y5,y6,y7⟩:=aG g0;obtain⟨q0,qz⟩:=aH g1;obtain⟨v0,v1,v2,v3,v4,v5,v6,v7⟩:=aG gk;have HGK:=ah gk;clear hL3 g0 g1 gk HGR HLR HTr
    obtain⟨bb,WO⟩:∃ bb,decide (op=22∧k=1)=bb:=⟨_,rfl⟩
    have WQ:=ah WO;clear WO
    go_cut [53] (fun v wc=>v=.bool bb∧w3=wc)
    case first =>
     by_cases h22:op=22
     ·have hh:((op:Int) == 22)=true:=by simp[h22]
      by_cases hk1:k=1
      ·have hbt:Hid (bb=true):=ah (by rw[← WQ.out];exact decide_eq_true ⟨h22,hk1⟩)
       subst hk1;clear h22;go_wp2
       go_meet
       exact⟨by rw[hbt.out],rfl⟩
      ·have hbt:Hid (bb=false):=ah (by rw[← WQ.out];exact decide_eq_false (fun q=>hk1 q.2))
       have hk2:((k:Int) == 1)=false:=by simp;omega
       clear h22;go_wp2
       go_meet
       exact⟨by rw[hbt.out],rfl⟩
     ·have hh:((op:Int) == 22)=false:=by simp[h22]
      have hbt:Hid (bb=false):=ah (by rw[← WQ.out];exact decide_eq_false (fun q=>h22 q.1));clear h22;go_wp2
      go_meet
      exact⟨by rw[hbt.out],rfl⟩
    case rest =>
     obtain⟨rfl,rfl⟩:=hcut;have HKP:=ah (fun (W:World) (hW:iq lb w3 W)=>(show iq lb w2 W from hkr.trans (hk3.trans hW)))
     cases bb with
     | true =>
      have hin:KP op nm bd k=bF (bd++[nm]):=by rw[KP,if_pos (of_decide_eq_true WQ.out)]
      rw[hin] at YU;have hsl:=kK (bd++[nm]);rw[bN,List.length_singleton] at hsl;have HW:=ah (DN (fun _=>True) ab cb (.slice (some ⟨w3.heap.size,0,none⟩) 1 1) bd [nm] (w3.alloc (.cells #[.string ⟨nm.toArray⟩] 9)).drew (((HT3.out.below (aj w3 _)).below (Below.refl _ _).drew).imp fun _ _ _=>trivial) ((Qe w3 nm).below (Below.refl _ _).drew) (by omega) (by simp));have hb4:Below w3.heap.size w3 (w3.alloc (.cells #[.string ⟨nm.toArray⟩] 9)).drew:=(aj w3 _).drew;have hsr:=sF (bd++[nm]);have HSR:=ah hsr;clear hin hsr WQ;generalize bF (bd++[nm])=S at *
      have hn0:w.heap.size<w3.heap.size:=by omega
      have hn1:w.heap.size+1<w3.heap.size:=by omega
      have hne1:wr.heap.size≠lb:=by omega
      have hne2:w.heap.size+1≠lb:=by omega
      have abw:w.heap.size≠lb:=by omega
      have HS:Hid (∀ W,aQ (fun b=>b≠lb) w3 W→((W.cell? ⟨wr.heap.size,0,none⟩=some (.int .i64 x.op)∧W.cell? ⟨wr.heap.size,1,none⟩=some (.string ⟨x.name.toArray⟩)∧W.cell? ⟨wr.heap.size,2,none⟩=some (.string ⟨x.module.toArray⟩)∧W.cell? ⟨wr.heap.size,3,none⟩=some (.bool (decide (x.num<0)))∧W.cell? ⟨wr.heap.size,4,none⟩=some (.slice VG VH VI)∧W.cell? ⟨wr.heap.size,5,none⟩=some (.bool x.yes)∧W.cell? ⟨wr.heap.size,6,none⟩=some (.slice ZA x.kids.length ZB)∧W.cell? ⟨wr.heap.size,7,none⟩=some (.int .i64 x.at_))∧W.cell? ⟨w.heap.size+1,0,none⟩=some (.slice ab bd.length cb)∧W.cell? ⟨w.heap.size,1,none⟩=some (.string ⟨nm.toArray⟩))):=ah fun W hW=>⟨aG ((hW.2 wr.heap.size hne1 aew).trans HGK.out),(World.cell?_of_block (a:=⟨w.heap.size+1,0,none⟩) (hW.2 _ hne2 hn1)).trans q0,(World.cell?_of_block (a:=⟨w.heap.size,1,none⟩) (hW.2 _ abw hn0)).trans y1⟩
      go_upto_region 10 with fail
      go_region_held3 (fun W=>(W.cell? ⟨wr.heap.size,0,none⟩=some (.int .i64 x.op)∧W.cell? ⟨wr.heap.size,1,none⟩=some (.string ⟨x.name.toArray⟩)∧W.cell? ⟨wr.heap.size,2,none⟩=some (.string ⟨x.module.toArray⟩)∧W.cell? ⟨wr.heap.size,3,none⟩=some (.bool (decide (x.num<0)))∧W.cell? ⟨wr.heap.size,4,none⟩=some (.slice VG VH VI)∧W.cell? ⟨wr.heap.size,5,none⟩=some (.bool x.yes)∧W.cell? ⟨wr.heap.size,6,none⟩=some (.slice ZA x.kids.length ZB)∧W.cell? ⟨wr.heap.size,7,none⟩=some (.int .i64 x.at_))∧W.cell? ⟨w.heap.size+1,0,none⟩=some (.slice ab bd.length cb)∧W.cell? ⟨w.heap.size,1,none⟩=some (.string ⟨nm.toArray⟩))
       (first|(with_reducible exact p3)|(go_keep;done))
       (first
        | (go_at_call 61;refine HW.out.mono ?_;rintro e w5 ⟨a5,c5,rfl,ht5,hb5⟩;have WY:=hb4.trans (hb5.mono (by simp));have HEX:=HK.out w5 a5 c5 S (WX.out.below WY) ((aQ.of mO).trans (aQ.of WY)) (ht5.imp fun q hq _=>by have:=hb4.size;omega) HSR.out (by omega);have p3:=HS.out w5 (aQ.of WY))
        | (go_at_call 86;refine HEX.mono ?_;rintro e w6 ⟨rfl,hl6,yG⟩;have p3:=HS.out w6 ((aQ.of WY).trans yG.2)))
      all_goals
       clear p3 v0 v1 v2 v3 v4 v5 v6 v7 y0 y1 y2 y3 y4 y5 y6 y7 q0 HS HK;go_wp2_with fail
       go_roundw
       case rel=>exact⟨k+1,by omega,by go_num,by rw[YU.out];exact hl6,HKP.out _ ((iq.of WY (by omega)).trans yG)⟩
       case measure=>simp[intOf];omega
     | false =>
      have hin:KP op nm bd k=bd:=by rw[KP,if_neg (of_decide_eq_false WQ.out)]
      rw[hin] at YU;have HEX:=ah (HK.out w3 ab cb bd WX.out (aQ.of mO) HT3.out HR.out (by omega));clear hin WQ HK;go_wp2_with (go_at_call 86;refine HEX.out.mono ?_;rintro e w4 ⟨rfl,hl4,hk4⟩)
      go_roundw
      case rel=>exact⟨k+1,by omega,by go_num,by rw[YU.out];exact hl4,HKP.out _ hk4⟩
      case measure=>simp[intOf];omega
   ·obtain rfl:k=ks.length:=by omega
    have oH:decide ((ks.length:Int)<(ks.length:Int))=false:=decide_eq_false (by omega);go_wp2
    go_end0
    refine⟨rfl,?_,aeu.trans hkr⟩;rw[Zy.out];have:=HLR.out;rw[List.take_length,SC.out,zw] at this;exact this
mutual
theorem SV:∀ x:PZ,I7 x
 | .mk op nm md num yes kids a=>OG _ (D8 kids)
theorem D8:∀ l:List PZ,∀ k∈l,I7 k
 | [],k,h=>by cases h
 | e :: l,k,h=>by
  rcases List.mem_cons.1 h with q|q
  ·rw[q];exact SV e
  ·exact D8 l k q
end
end Go.Proofs.YtknicmmigbhpcaaGreatDoor

namespace Go.Proofs.YtknicmmigbhpcaaGreatDoor
open Go.RowKit Go
end Go.Proofs.YtknicmmigbhpcaaGreatDoor

namespace Go.Proofs.YtknicmmigbhpcaaGreatDoor
open Go.RowKit Go
def wu (d:ZD)(ap:Option Addr)(cp:Nat)(ac:Option Addr)(cc:Nat)(am:Option Addr)(wn cm:Nat)(ae:Option Addr)(ce:Nat):Array Value:=#[.bool d.pub,.string ⟨d.res.name.toArray⟩,.slice ap d.params.length cp,.int .i64 d.res.base,.slice ac d.res.clause.length cc,.int .i64 d.body.op,.string ⟨d.body.name.toArray⟩,.string ⟨d.body.module.toArray⟩,.bool (decide (d.body.num<0)),.slice am wn cm,.bool d.body.yes,.slice ae d.body.kids.length ce,.int .i64 d.body.at_,.int .i64 d.res.at_,.int .i64 d.res.bare]
theorem wz {w:World}{b:Nat}{d:ZD}{ap:Option Addr}{cp:Nat}{ac:Option Addr}{cc:Nat}{am:Option Addr}{wn cm:Nat}{ae:Option Addr}{ce:Nat}(h:w.heap[b]?=some (.cells (wu d ap cp ac cc am wn cm ae ce) 48 (0,0))) :
  w.cell? ⟨b,0,none⟩=some (.bool d.pub)∧w.cell? ⟨b,1,none⟩=some (.string ⟨d.res.name.toArray⟩)∧w.cell? ⟨b,2,none⟩=some (.slice ap d.params.length cp)∧w.cell? ⟨b,3,none⟩=some (.int .i64 d.res.base)∧w.cell? ⟨b,4,none⟩=some (.slice ac d.res.clause.length cc)∧w.cell? ⟨b,5,none⟩=some (.int .i64 d.body.op)∧w.cell? ⟨b,6,none⟩=some (.string ⟨d.body.name.toArray⟩)∧w.cell? ⟨b,7,none⟩=some (.string ⟨d.body.module.toArray⟩)∧w.cell? ⟨b,8,none⟩=some (.bool (decide (d.body.num<0)))∧w.cell? ⟨b,9,none⟩=some (.slice am wn cm)∧w.cell? ⟨b,10,none⟩=some (.bool d.body.yes)∧w.cell? ⟨b,11,none⟩=some (.slice ae d.body.kids.length ce)∧w.cell? ⟨b,12,none⟩=some (.int .i64 d.body.at_)∧w.cell? ⟨b,13,none⟩=some (.int .i64 d.res.at_)∧w.cell? ⟨b,14,none⟩=some (.int .i64 d.res.bare):=by
 refine⟨?_,?_,?_,?_,?_,?_,?_,?_,?_,?_,?_,?_,?_,?_,?_⟩<;>(rw[Lib.cell_of_heap h];rfl)
structure OH (d:ZD) (B:Nat) (ap:Option Addr) (cp:Nat) (ac:Option Addr) (cc:Nat) (am:Option Addr) (wn cm:Nat) (ae:Option Addr) (ce:Nat) (w:World):Prop where
 jR:PO B w ap d.params
 cl:jI B w ac d.res.clause
 body:oI YA (fun k=>k<B) w (.slice am wn cm) (.slice ae d.body.kids.length ce) d.body
 hB:B≤w.heap.size
theorem OH.sQ {d:ZD}{B:Nat}{ap:Option Addr}{cp:Nat}{ac:Option Addr}{cc:Nat}{am:Option Addr}{wn cm:Nat}{ae:Option Addr}{ce:Nat}{w W:World}(h:OH d B ap cp ac cc am wn cm ae ce w)(hW:Below B w W):OH d B ap cp ac cc am wn cm ae ce W:=⟨h.jR.sQ hW,h.cl.sQ hW,h.body.frame (aQ.sQ hW fun b hb=>hb),Nat.le_trans h.hB hW.size⟩
theorem OH.below {d:ZD}{B:Nat}{ap:Option Addr}{cp:Nat}{ac:Option Addr}{cc:Nat}{am:Option Addr}{wn cm:Nat}{ae:Option Addr}{ce:Nat}{w W:World}(h:OH d B ap cp ac cc am wn cm ae ce w)(hW:Below w.heap.size w W):OH d B ap cp ac cc am wn cm ae ce W:=h.sQ (hW.mono h.hB)
structure ZD.uZ (d:ZD):Prop where
 jR:d.params.length≤1000
 pcl:∀ f∈d.params,f.clause.length≤1000∧∀ e∈f.clause,e.size≤400000
 cl:d.res.clause.length≤1000∧∀ e∈d.res.clause,e.size≤400000
 body:d.body.size≤400000
end Go.Proofs.YtknicmmigbhpcaaGreatDoor

namespace Go.Proofs.YtknicmmigbhpcaaGreatDoor
open Go.RowKit Go
open Go.RowKit Go
end Go.Proofs.YtknicmmigbhpcaaGreatDoor

namespace Go.Proofs.YtknicmmigbhpcaaGreatDoor
open Go.RowKit Go
def Qf (B:Nat)(w:World)(ai:Option Addr)(l:List (List UInt8 × Int)):Prop:=0<l.length→∃ b off,ai=some ⟨b,off,none⟩∧b<B∧b<w.heap.size∧∀ i,(hi:i<l.length)→w.cell? ⟨b,off+i * 2,none⟩=some (.string ⟨l[i].1.toArray⟩)∧w.cell? ⟨b,off+i * 2+1,none⟩=some (.int .i64 l[i].2)
def Qg (B:Nat)(w:World)(ad:Option Addr)(l:List ZD):Prop:=0<l.length→∃ b off,ad=some ⟨b,off,none⟩∧b<B∧b<w.heap.size∧∀ i,(hi:i<l.length)→∃ ap cp ac cc am wn cm ae ce,OH l[i] B ap cp ac cc am wn cm ae ce w∧∀ j u,(wu l[i] ap cp ac cc am wn cm ae ce)[j]?=some u→w.cell? ⟨b,off+i * 15+j,none⟩=some u
theorem Qf.sQ {B:Nat}{w W:World}{ai:Option Addr}{l:List (List UInt8 × Int)}(h:Qf B w ai l)(hW:Below B w W):Qf B W ai l:=fun h0=>by
 obtain⟨b,off,q1,q2,q3,q4⟩:=h h0;exact⟨b,off,q1,q2,Nat.lt_of_lt_of_le q3 hW.size,fun i hi=>⟨(hW.cell (p:=⟨b,off+i * 2,none⟩) q2).trans (q4 i hi).1,(hW.cell (p:=⟨b,off+i * 2+1,none⟩) q2).trans (q4 i hi).2⟩⟩
theorem Qg.sQ {B:Nat}{w W:World}{ad:Option Addr}{l:List ZD}(h:Qg B w ad l)(hW:Below B w W):Qg B W ad l:=fun h0=>by
 obtain⟨b,off,q1,q2,q3,q4⟩:=h h0;refine⟨b,off,q1,q2,Nat.lt_of_lt_of_le q3 hW.size,fun i hi=>?_⟩;obtain⟨ap,cp,ac,cc,am,wn,cm,ae,ce,q5,q6⟩:=q4 i hi;exact⟨ap,cp,ac,cc,am,wn,cm,ae,ce,q5.sQ hW,fun j u hu=>(hW.cell (p:=⟨b,off+i * 15+j,none⟩) q2).trans (q6 j u hu)⟩
structure abx (p:ZP) (B:Nat) (ai ad:Option Addr) (w:World):Prop where
 imps:Qf B w ai p.imports
 defs:Qg B w ad p.defs
 hB:B≤w.heap.size
theorem abx.sQ {p:ZP}{B:Nat}{ai ad:Option Addr}{w W:World}(h:abx p B ai ad w)(hW:Below B w W):abx p B ai ad W:=⟨h.imps.sQ hW,h.defs.sQ hW,Nat.le_trans h.hB hW.size⟩
theorem ZP.Y6 {p:ZP}(h:0<p.imports.length∨0<p.defs.length):p.text≠[]:=by
 intro q;have hq:=congrArg List.length q;rw[ZP.text,bN,List.length_nil] at hq
 rcases h with h|h
 ·match hi:p.imports,h with
  | m :: l,_=>rw[hi] at hq;simp[Y7] at hq
 ·match hi:p.defs,h with
  | d :: l,_=>rw[hi] at hq;simp[ZD.text] at hq
def A8 (p:ZP)(w:World)(r:Ending)(w':World):Prop:=(r=.returned (.tuple #[.string ⟨(if p.right=true then p.text else []).toArray⟩,.int .i64 (if p.right=true then 0 else 10)]))∧Below w.heap.size w w'
theorem A8.no {p:ZP}{w w':World}(h:p.right=false)(hb:Below w.heap.size w w'):A8 p w (.returned (.tuple #[.string ⟨#[]⟩,.int .i64 10])) w':=⟨by rw[h];rfl,hb⟩
theorem A8.yes {p:ZP}{w w':World}(h:p.right=true)(hb:Below w.heap.size w w'):A8 p w (.returned (.tuple #[.string ⟨p.text.toArray⟩,.int .i64 0])) w':=⟨by rw[h];rfl,hb⟩
end Go.Proofs.YtknicmmigbhpcaaGreatDoor

namespace Go.Proofs.YtknicmmigbhpcaaGreatDoor
open Go.RowKit Go
end Go.Proofs.YtknicmmigbhpcaaGreatDoor

namespace Go.Proofs.YtknicmmigbhpcaaGreatDoor
open Go.RowKit Go
def D9:RK ZF Value where
 sz:=3
 cells f cv:=[dh f.name,.int .i64 f.base,cv]
 inn P w f cv:=RowK (ZK YA) P w cv f.clause
 len _ _:=rfl
 frame h ha:=h.frame ha
 imp h hq:=h.imp hq
def zJ (P:Nat→Prop)(w:World)(pv cv:Value)(ps:List ZF)(cl:List PZ):Prop:=RowK D9 P w pv ps∧RowK (ZK YA) P w cv cl
theorem zJ.frame {P:Nat→Prop}{w w':World}{pv cv:Value}{ps:List ZF}{cl:List PZ}(h:zJ P w pv cv ps cl)(ha:aQ P w w'):zJ P w' pv cv ps cl:=⟨h.1.frame ha,h.2.frame ha⟩
theorem zJ.imp {P Q:Nat→Prop}{w:World}{pv cv:Value}{ps:List ZF}{cl:List PZ}(h:zJ P w pv cv ps cl)(hq:∀ b,P b→b<w.heap.size→Q b):zJ Q w pv cv ps cl:=⟨h.1.imp hq,h.2.imp hq⟩
end Go.Proofs.YtknicmmigbhpcaaGreatDoor

namespace Go.Proofs.YtknicmmigbhpcaaGreatDoor
open Go.RowKit Go Go.Sort
structure ZF.known (f:ZF):Prop where
 name:f.name.length≤65536
 few:f.clause.length≤1000000
 cl:∀ x∈f.clause,AZ x
 text:(gG f.base f.clause).length≤1099511627776
theorem jL {w:World}{b:Nat}{x y z:Value}(h:w.heap[b]?=some (.cells #[x,y,z] 96 (0,0))):w.cell? ⟨b,0,none⟩=some x∧w.cell? ⟨b,1,none⟩=some y∧w.cell? ⟨b,2,none⟩=some z:=by
 refine⟨?_,?_,?_⟩<;>(rw[Lib.cell_of_heap h];rfl)
theorem Ak (r:ZF)(ps:List ZF)(B:Nat)(ap:Option Addr)(cp:Nat)(ac:Option Addr)(cc:Nat)(w:World)(h:zJ (fun b=>b<B) w (.slice ap ps.length cp) (.slice ac r.clause.length cc) ps r.clause)(hB:B≤w.heap.size)(hr:r.known)(hps:∀ f∈ps,f.known) :
  Calls Tryz.prog 35 #[.agg #[.string ⟨r.name.toArray⟩,.slice ap ps.length cp,.int .i64 r.base,.slice ac r.clause.length cc]] w fun e w'=>e=.returned (.bool (gZ r.name ps r.base r.clause))∧Below w.heap.size w w':=by
 have hal:=aj w (.cells #[.string ⟨r.name.toArray⟩,.slice ap ps.length cp,.int .i64 r.base,.slice ac r.clause.length cc] 31);have hN:=heap_alloc_new w (.cells #[.string ⟨r.name.toArray⟩,.slice ap ps.length cp,.int .i64 r.base,.slice ac r.clause.length cc] 31);have hrn:=hr.name;have HP:=ah (fun V=>qX ⟨r.name.toArray⟩ V (by show r.name.toArray.size≤_;simp;omega));simp only at HP;obtain⟨hpr,hcr⟩:=h;obtain⟨ap',cp',hv,_,hform⟩:=hpr.form;simp only[Value.slice.injEq] at hv;obtain⟨rfl,-,rfl⟩:=hv;obtain⟨ac',cc',hv,hck⟩:=l6 hcr;simp only[Value.slice.injEq] at hv;obtain⟨rfl,-,rfl⟩:=hv;have HF:=ah hform;have HKR:=ah hcr;have HR:=ah hr;have HPS:=ah hps;unfold gZ;clear hform hr hps hpr hcr hck
 obtain⟨rs,hrs⟩:∃ rs:Bool,rs=X4 r.base r.clause [] ps:=⟨_,rfl⟩
 rw[← hrs];have HRS:=ah hrs;clear hrs;obtain⟨rn,rb,rc,ra,rbr⟩:=r;simp only at *;generalize hpl:dL rn=pl at *;clear hpl;go_enter Tryz.func35,Tryz.ntmps35
 go_upto_region 1 with fail
 change Code.wp _ _ _ _ (w.alloc (.cells #[.string ⟨rn.toArray⟩,.slice ap ps.length cp,.int .i64 rb,.slice ac rc.length cc] 31));generalize w.alloc (.cells #[.string ⟨rn.toArray⟩,.slice ap ps.length cp,.int .i64 rb,.slice ac rc.length cc] 31)=w1 at hal hN ⊢;have hl1:=(bG hN).1;have hz1:=hal.size;obtain⟨⟨y0,y1,y2,y3⟩,-⟩:=iD hN;have HN:=ah hN;clear hN
 cases pl with
 | false =>
  go_wp2_with (go_at_call 48;refine(HP.out _).mono ?_;rintro r w2 ⟨rfl,hb2⟩);go_ret;exact⟨rfl,hal.trans (hb2.mono hz1)⟩
 | true =>
  by_cases h8:ps.length≤8
  ·have h8I:¬ (8:Int)<(ps.length:Int):=by omega
   have h8D:Hid (decide (ps.length≤8)=true):=ah (decide_eq_true h8)
   go_upto_region 3 with (go_at_call 48;refine(HP.out _).mono ?_;rintro r w2 ⟨rfl,hb2⟩;obtain⟨⟨z0,z1,z2,z3⟩,-⟩:=iD ((hb2.block _ hl1).trans HN.out))
   have hz2:=hb2.size;have sj:=hal.trans (hb2.mono hz1);have Md:=(hb2.block _ hl1).trans HN.out;have mO:=aj w2 (.cells #[.slice none 0 0] 114);have gv:=heap_alloc_new w2 (.cells #[.slice none 0 0] 114);have vD:=sj.trans (mO.mono sj.size);have PN:=(mO.block _ (by omega)).trans Md
   have hvl:w2.heap.size<(w2.alloc (.cells #[.slice none 0 0] 114)).heap.size:=by simp
   clear y0 y1 y2 y3 z0 z1 z2 z3
   go_upto_region 4 with fail
   change Code.wp _ _ _ _ (w2.alloc (.cells #[.slice none 0 0] 114));generalize w2.alloc (.cells #[.slice none 0 0] 114)=w3 at *;obtain⟨⟨y0,y1,y2,y3⟩,-⟩:=iD PN;have HN3:=ah PN;have HGV:=ah gv;have hz3:=vD.size
   have hwv:w.heap.size<w2.heap.size:=by omega
   generalize w2.heap.size=vb at *;clear PN gv Md mO sj HN;go_wp2;clear y0 y1 y2 y3
   go_loopw [5,19] (fun _ q wr=>∃ (k:Nat) (ab:Option Addr) (cb:Nat) (bd:List (List UInt8)),k≤ps.length∧q=.int .i64 k∧rs=X4 rb rc bd (ps.drop k)∧wr.heap[vb]?=some (.cells #[.slice ab bd.length cb] 114 (0,0))∧bJ (fun b=>b≠vb) wr (.slice ab bd.length cb) bd∧bd.Pairwise (· < ·)∧bd.length≤k∧Below w.heap.size w wr∧wr.heap[w.heap.size]?=some (.cells #[.string ⟨rn.toArray⟩,.slice ap ps.length cp,.int .i64 rb,.slice ac rc.length cc] 31 (0,0))) (fun _ q _=>ps.length - (intOf q).toNat)
   case atStart=>exact⟨0,none,0,[],Nat.zero_le _,rfl,by rw[HRS.out];rfl,HGV.out,bJ.nil _ _,List.Pairwise.nil,Nat.zero_le _,vD,HN3.out⟩
   case round =>
    obtain⟨k,ab,cb,bd,hk,rfl,hres,hvb,htr,hrr,hbk,hbl,hsg⟩:=hrel;have uL:=hbl.size;have hvr:=(bG hvb).1;have hsr:=(bG hsg).1;have zK:=ah hres;have HVB:=ah hvb;have Tx:=ah htr;have HRR:=ah hrr;have HSG:=ah hsg;clear hres hvb htr hrr hsg
    by_cases hlt:k<ps.length
    ·obtain⟨b,off,rfl,_,hbw,hcell⟩:=HF.out (by omega)
     obtain⟨cv,hcv,hc⟩:=hcell k hlt;have OI:RowK (ZK YA) (fun b=>b<B) w cv ps[k].clause:=hcv;obtain⟨a2,c2,rfl,-⟩:=l6 OI;have x0:=(hbl.cell (p:=⟨b,off+k * 3+0,none⟩) hbw).trans (hc 0 _ rfl);have x1:=(hbl.cell (p:=⟨b,off+k * 3+1,none⟩) hbw).trans (hc 1 _ rfl);have x2:=(hbl.cell (p:=⟨b,off+k * 3+2,none⟩) hbw).trans (hc 2 _ rfl);rw[Nat.add_zero] at x0;have hdr:ps.drop k=ps[k] :: ps.drop (k+1):=List.drop_eq_getElem_cons hlt;have hkn:=HPS.out _ (List.getElem_mem hlt)
     have oH:(k:Int)<(ps.length:Int):=by omega
     have HDR:=ah hdr;have wF:=ah hkn;have HCV:=ah OI;clear hc hcell hdr hkn hcv OI;generalize ps[k]=f at *;obtain⟨pU,fb,fc,fa,fbr⟩:=f;simp only[dh] at x0 x1 x2 wF HCV;have hfl:=wF.out.name;simp only at hfl;have yx:Hid (rs=(dL pU && (!decide (pU∈bd) && (uY fb fc (bF (bd++[pU])) false && X4 rb rc (bF (bd++[pU])) (ps.drop (k+1)))))):=ah (by rw[zK.out,HDR.out,X4]);have bC:=aj wr (.cells #[.string ⟨pU.toArray⟩,.int .i64 fb,.slice a2 fc.length c2] 96);have hN:=heap_alloc_new wr (.cells #[.string ⟨pU.toArray⟩,.int .i64 fb,.slice a2 fc.length c2] 96);clear zK HDR
     go_upto_region 7 with fail
     change Code.wp _ _ _ _ (wr.alloc (.cells #[.string ⟨pU.toArray⟩,.int .i64 fb,.slice a2 fc.length c2] 96));clear x0 x1 x2
     have hyl:wr.heap.size<(wr.alloc (.cells #[.string ⟨pU.toArray⟩,.int .i64 fb,.slice a2 fc.length c2] 96)).heap.size:=by simp
     generalize wr.alloc (.cells #[.string ⟨pU.toArray⟩,.int .i64 fb,.slice a2 fc.length c2] 96)=w5 at *;have LZ:=bC.size;have gv5:=(bC.block _ hvr).trans HVB.out;have gs5:=(bC.block _ hsr).trans HSG.out;have hT5:=Tx.out.below bC;have hb5:=hbl.trans (bC.mono uL);have HPF:=ah (fun V=>qX ⟨pU.toArray⟩ V (by show pU.toArray.size≤_;simp;omega));simp only at HPF;have HN5:=ah hN;have HV5:=ah gv5;have HS5:=ah gs5;have HT5:=ah hT5;obtain⟨y0,y1,y2⟩:=jL hN;generalize dL pU=py at *;clear hN gv5 gs5 hT5 HVB Tx HSG
     cases py with
     | false =>
      have HE:Hid (rs=false):=ah (by rw[yx.out];rfl);clear yx;go_wp2_with (go_at_call 48;refine(HPF.out _).mono ?_;rintro r w6 ⟨rfl,hb6⟩);go_ret;exact⟨by rw[HE.out,h8D.out];rfl,hb5.trans (hb6.mono hb5.size)⟩
     | true =>
      have HH:=ah (fun W (hW:Below w5.heap.size w5 W)=>yh _ ab cb bd ⟨pU.toArray⟩ W (HT5.out.below hW) HRR.out (by omega));simp only at HH;have HW0:=ah (fun W (hW:Below w5.heap.size w5 W)=>DN (fun _=>True) ab cb (.slice (some ⟨W.heap.size,0,none⟩) 1 1) bd [pU] (W.alloc (.cells #[.string ⟨pU.toArray⟩] 9)) (((HT5.out.below hW).below (aj W _)).imp fun _ _ _=>trivial) (Qe W pU) (by omega) (by simp));have hsl:=kK (bd++[pU]);rw[bN,List.length_singleton] at hsl;have HSR:=ah (sF (bd++[pU]));generalize bF (bd++[pU])=S at *
      obtain⟨m,hm⟩:∃ m,m=decide (pU∈bd):=⟨_,rfl⟩
      rw[← hm] at HH yx;clear hm
      cases m with
      | true =>
       have HE:Hid (rs=false):=ah (by rw[yx.out];rfl);clear yx HW0;go_wp2_with (first|(go_at_call 48;refine(HPF.out _).mono ?_;rintro r w6 ⟨rfl,hb6⟩;obtain⟨v0,v1,v2⟩:=jL ((hb6.block _ hyl).trans HN5.out);obtain⟨u0,uz⟩:=aH ((hb6.block _ (by omega)).trans HV5.out))|(go_at_call 60;refine(HH.out _ hb6).mono ?_;rintro r w7 ⟨rfl,rZ⟩));go_ret;exact⟨by rw[HE.out,h8D.out];rfl,hb5.trans ((hb6.trans (rZ.mono hb6.size)).mono hb5.size)⟩
      | false =>
       go_upto_region 9 with (first|(go_at_call 48;refine(HPF.out _).mono ?_;rintro r w6 ⟨rfl,hb6⟩;obtain⟨v0,v1,v2⟩:=jL ((hb6.block _ hyl).trans HN5.out);obtain⟨u0,uz⟩:=aH ((hb6.block _ (by omega)).trans HV5.out))|(go_at_call 60;refine(HH.out _ hb6).mono ?_;rintro r w7 ⟨rfl,rZ⟩))
       clear y0 y1 y2 v0 v1 v2 u0 uz;have SX:=hb6.trans (rZ.mono hb6.size);have hz7:=SX.size;have gn7:=(SX.block _ hyl).trans HN5.out;obtain⟨v0,v1,v2⟩:=jL gn7;have gv7:=(SX.block _ (by omega)).trans HV5.out;have gs7:=(SX.block _ (by omega)).trans HS5.out;obtain⟨u0,uz⟩:=aH gv7;have HWx:=ah (HW0.out w7 SX);have jq:Below w7.heap.size w7 (w7.alloc (.cells #[.string ⟨pU.toArray⟩] 9)):=aj w7 _;have HV7:=ah gv7;have HN7:=ah gn7;have HS7:=ah gs7;clear gv7 gn7 gs7 HW0 HH HPF HN5 HT5 HV5 HS5
       have aex:vb<w7.heap.size:=by omega
       go_upto_region 10 with (go_at_call 61;refine HWx.out.mono ?_;rintro e w9 ⟨a9,c9,rfl,ht9,ZC⟩;have WZ:=jq.trans (ZC.mono (by simp));have gv9:=(WZ.block _ aex).trans HV7.out;have hfz:=(aH gv9).2;have hc0:=(aH gv9).1)
       have hw9:=hb5.trans ((SX.trans (WZ.mono hz7)).mono hb5.size);have TH:=WZ.size;have gvF:=heap_setCell_same w9 vb 0 _ _ (.slice a9 S.length c9) gv9;have gnF:=(heap_setCell_other w9 ⟨vb,0,none⟩ wr.heap.size (.slice a9 S.length c9) (by show wr.heap.size≠vb;omega)).trans ((WZ.block _ (by omega)).trans HN7.out);have gsF:=(heap_setCell_other w9 ⟨vb,0,none⟩ w.heap.size (.slice a9 S.length c9) (by show w.heap.size≠vb;omega)).trans ((WZ.block _ (by omega)).trans HS7.out)
       have hTF:bJ (fun b=>b≠vb) (w9.setCell ⟨vb,0,none⟩ (.slice a9 S.length c9)) (.slice a9 S.length c9) S:=(ht9.frame (aQ.set _ fun b hb=>by have:=jq.size;show b≠vb;omega)).imp fun b hb _=>by have:=jq.size;omega
       have hwF:Below w.heap.size w (w9.setCell ⟨vb,0,none⟩ (.slice a9 S.length c9)):=hw9.setCell (Nat.le_of_lt hwv) _
       have hzF:(w9.setCell ⟨vb,0,none⟩ (.slice a9 S.length c9)).heap.size=w9.heap.size:=by simp
       clear v0 v1 v2 u0 uz hfz hc0 gv9 ht9 HV7 HN7 HS7 HWx jq ZC;generalize w9.setCell ⟨vb,0,none⟩ (.slice a9 S.length c9)=wA at *;obtain⟨v0,v1,v2⟩:=jL gnF;obtain⟨u0,uz⟩:=aH gvF;have hsz:=hwF.size;obtain⟨a2',c2',hv2,hck⟩:=l6 (HCV.out.frame (aQ.sQ hwF fun b hb=>by omega));simp only[Value.slice.injEq] at hv2;obtain⟨rfl,-,rfl⟩:=hv2;have HFI:=ah (Lm fb fc S false (fun b=>b≠vb) B a2 c2 a9 c9 wA hck (by omega) wF.out.cl wF.out.few wF.out.text hTF HSR.out (by omega));have HG:=ah (And.intro gvF (And.intro hTF gsF));have hvA:=(bG gvF).1;have hsA:=(bG gsF).1;clear hck gvF gnF gsF hTF;generalize uY fb fc S false=fi at *
       cases fi with
       | false =>
        have HE:Hid (rs=false):=ah (by rw[yx.out];rfl);clear yx;go_wp2_with (go_at_call 62;refine HFI.out.mono ?_;rintro r jT ⟨rfl,oL⟩);go_ret;exact⟨by rw[HE.out,h8D.out];rfl,hwF.trans (oL.mono hsz)⟩
       | true =>
        have HE:Hid (rs=X4 rb rc S (ps.drop (k+1))):=ah (by rw[yx.out];rfl);clear yx;go_wp2_with (go_at_call 62;refine HFI.out.mono ?_;rintro r jT ⟨rfl,oL⟩)
        go_roundw
        case rel=>exact⟨k+1,a9,c9,S,by omega,by go_num,HE.out,(oL.block _ hvA).trans HG.out.1,HG.out.2.1.below oL,HSR.out,by omega,hwF.trans (oL.mono hsz),(oL.block _ hsA).trans HG.out.2.2⟩
        case measure=>simp[intOf];omega
    ·obtain rfl:k=ps.length:=by omega
     have oH:decide ((ps.length:Int)<(ps.length:Int))=false:=decide_eq_false (by omega);have HE:Hid (rs=uY rb rc bd true):=ah (by rw[zK.out,List.drop_length];rfl);obtain⟨⟨y0,y1,y2,y3⟩,-⟩:=iD HSG.out;obtain⟨u0,uz⟩:=aH HVB.out;obtain⟨ac',cc',hv2,hck⟩:=l6 (HKR.out.frame (aQ.sQ hbl fun b hb=>by omega));simp only[Value.slice.injEq] at hv2;obtain⟨rfl,-,rfl⟩:=hv2;have HRk:=HR.out;have HFI:=ah (Lm rb rc bd true (fun b=>b≠vb) B ac cc ab cb wr hck (by omega) HRk.cl HRk.few HRk.text Tx.out HRR.out (by omega));clear hck HRk HSG HVB Tx zK;generalize uY rb rc bd true=fi at *;go_wp2_with (go_at_call 62;refine HFI.out.mono ?_;rintro r jT ⟨rfl,oL⟩);go_ret;exact⟨by rw[HE.out,h8D.out];rfl,hbl.trans (oL.mono uL)⟩
  ·have h8I:(8:Int)<(ps.length:Int):=by omega
   have h8D:decide (ps.length≤8)=false:=decide_eq_false h8;have HD:=ah h8D;clear h8D;go_wp2_with (go_at_call 48;refine(HP.out _).mono ?_;rintro r w2 ⟨rfl,hb2⟩;obtain⟨⟨z0,z1,z2,z3⟩,-⟩:=iD ((hb2.block _ hl1).trans HN.out));go_ret;exact⟨by rw[HD.out];rfl,hal.trans (hb2.mono hz1)⟩
end Go.Proofs.YtknicmmigbhpcaaGreatDoor

namespace Go.Proofs.YtknicmmigbhpcaaGreatDoor
open Go.RowKit Go
mutual
def PE.adf:PE→Prop
 | .mk op _ _ _ _ _ kids _=>op<100∧W9 kids
def W9:List PE→Prop
 | []=>True
 | e :: l=>e.adf∧W9 l
end
theorem nN (a b:List UInt8):(ByteArray.mk a.toArray)++(ByteArray.mk b.toArray)=ByteArray.mk (a++b).toArray:=by
 apply ByteArray.ext
 simp
end Go.Proofs.YtknicmmigbhpcaaGreatDoor
