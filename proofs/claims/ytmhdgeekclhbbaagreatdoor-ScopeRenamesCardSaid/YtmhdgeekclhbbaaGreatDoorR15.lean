/- Walks and plain laws: ScopeW4, ScopeW5, ShowPB, ScopeW6, ShowPC, ShowPD. -/
import Derived.Test.YtmhdgeekclhbbaaGreatDoorR14
set_option maxHeartbeats 16000000
set_option maxRecDepth 100000
set_option linter.unusedVariables false
set_option linter.unusedSimpArgs false
namespace Go.Proofs.YtmhdgeekclhbbaaGreatDoor
open Go.RowKit Go
def KL (x:PZ):Prop:=∀ (E:SE) (C:VG) (lb B:Nat) (im:Value) (f:Fl) (am:Option Addr) (wn cm:Nat) (ae:Option Addr) (ce:Nat) (ab:Option Addr) (cb:Nat) (bd:List (List UInt8)) (res:Bool) (w:World),l8 C lb im f w→ScM E C lb B im w→iH f →
 nL YA (fun b=>b≠lb) w (.slice am wn cm) (.slice ae x.aA.length ce) x→gD (fun b=>b≠lb) w (.slice ab bd.length cb) bd→bd.Pairwise (· < ·)→bd.length+x.size≤500000 →
 Calls Tryz.prog 81 #[.pointer (some ⟨lb,0,none⟩),.agg (aQ x.op ⟨x.name.toArray⟩ ⟨x.module.toArray⟩ (decide (x.num<0)) (.slice am wn cm) x.yes (.slice ae x.aA.length ce) x.at_),.agg #[.slice ab bd.length cb],.bool res] w (yS C lb im (nR f (x.eO E bd res)) w)
theorem KM (w:World)(x:List UInt8):gD (fun _=>True) (w.alloc (.cells #[.string ⟨x.toArray⟩] 9)) (.slice (some ⟨w.heap.size,0,none⟩) 1 1) [x]:=by
 refine⟨⟨_,1,rfl,bD _,rfl,fun _=>⟨w.heap.size,0,rfl,trivial,by simp,fun i hi=>?_⟩⟩,fun n c q=>by cases q⟩
 obtain rfl:i=0:=by simpa using hi
 rw[aV (aY w _)]
 rfl
theorem PZ.Fa (e:PZ):e.size=qd e.aA+1:=by cases e;rw[PZ.size];rfl
theorem Ow:∀ {l:List PZ} {k:Nat} (h:k<l.length),l[k].size≤qd l
 | [],_,h=>absurd h (by simp)
 | e :: l,0,_=>by rw[qd];exact Nat.le_add_right _ _
 | e :: l,k+1,h=>by
  rw[qd];have:=Ow (l:=l) (k:=k) (by simpa using h);simp only[List.getElem_cons_succ];omega
theorem Fy:∀ l:List PZ,l.length≤qd l
 | []=>bD _
 | e :: l=>by
  have h1:=Fy l;have h2:=e.Fa;rw[dR,qd];omega
theorem tT (E:SE):∀ (op:Int) (nm md:List UInt8) (n:Nat) (a:Int) (bd:List (List UInt8)) (res:Bool),iH (qQ E bd res op nm md n a):=fun op nm md n a bd res=>by
 have hA:∀ o,iH (Fq o n a):=fun o=>by
  unfold Fq
  split
  ·exact iH.some (by decide)
  ·split
   ·exact iH.none
   ·exact iH.some (by decide)
 unfold qQ
 split
 ·exact iH.some (by decide)
 ·split
  ·unfold Jk
   split
   ·exact hA _
   ·split
    ·exact hA _
    ·exact iH.some (by decide)
  ·exact iH.none
mutual
theorem PZ.tT (E:SE)(bd:List (List UInt8))(res:Bool):∀ e:PZ,iH (e.eO E bd res)
 | .mk op nm md _ _ aA a=>by rw[PZ.eO];exact(Go.Proofs.YtmhdgeekclhbbaaGreatDoor.tT E op nm md aA.length a bd res).or (BA E op nm bd res aA 0)
theorem BA (E:SE)(op:Int)(nm:List UInt8)(bd:List (List UInt8))(res:Bool):∀ (l:List PZ) (i:Nat),iH (dY E op nm bd res i l)
 | [],i=>by rw[dY];exact iH.none
 | e :: l,i=>by rw[dY];exact(PZ.tT E _ res e).or (BA E op nm bd res l (i+1))
end
theorem RA (x:PZ)(IHx:∀ k∈x.aA,KL k):KL x:=by
 intro E C lb B im f am wn cm ae ce ab cb bd res w hL hM hf hZ hT hr hn;have hal:=(aB w (.cells (aQ x.op ⟨x.name.toArray⟩ ⟨x.module.toArray⟩ (decide (x.num<0)) (.slice am wn cm) x.yes (.slice ae x.aA.length ce) x.at_) 64)).alloc (by simp) (.cells #[.slice ab bd.length cb] 107);have g0:=(gY (w.alloc (.cells (aQ x.op ⟨x.name.toArray⟩ ⟨x.module.toArray⟩ (decide (x.num<0)) (.slice am wn cm) x.yes (.slice ae x.aA.length ce) x.at_) 64)) (.cells #[.slice ab bd.length cb] 107) w.heap.size (by simp)).trans (aY w (.cells (aQ x.op ⟨x.name.toArray⟩ ⟨x.module.toArray⟩ (decide (x.num<0)) (.slice am wn cm) x.yes (.slice ae x.aA.length ce) x.at_) 64));have g1:=aY (w.alloc (.cells (aQ x.op ⟨x.name.toArray⟩ ⟨x.module.toArray⟩ (decide (x.num<0)) (.slice am wn cm) x.yes (.slice ae x.aA.length ce) x.at_) 64)) (.cells #[.slice ab bd.length cb] 107);rw[oP] at g1;have hhd:=tT E x.op x.name x.module x.aA.length x.at_ bd res;have hdef:=x.Rx E bd res;have hks:=x.Fa;have hkl:=Fy x.aA
 have hcap:=fun i (hi:i<x.aA.length)=>Ow hi
 obtain⟨_,ae',ce',hv,_,hform⟩:=hZ.form;simp only[Value.slice.injEq] at hv;obtain⟨rfl,-,rfl⟩:=hv;have hlw:=hL.lt;have hL1:=hL.below hal;have hM1:=hM.keep hL (aW.of hal);have hT1:=hT.below hal;have HF:=ay hform;have HSZ:=ay hcap;have IH:=ay IHx;have BD:=ay hdef;have HR:=ay hr;have HFO:=ay hf;rw[hks] at hn;clear hL hM hT hZ hr hf hform hcap IHx hdef hks
 obtain⟨R,hR⟩:∃ R,R=x.eO E bd res:=⟨_,rfl⟩
 rw[← hR] at BD ⊢;clear hR;generalize hop:x.op=op at *;generalize hnm:x.name=nm at *;generalize hmd:x.module=md at *;generalize hat:x.at_=a_ at *;generalize hkk:x.aA=ks at *;clear hop hnm hmd hat hkk;generalize decide (x.num<0)=ng at *;generalize x.yes=ys at *;have HX:=ay (fun W (hW:Below w.heap.size w W)=>hW);go_enter Tryz.func81,Tryz.ntmps81
 go_upto_block 0 with fail
 change Code.wp _ _ _ _ ((w.alloc _).alloc (.cells #[.slice ab bd.length cb] 107));generalize (w.alloc _).alloc (.cells #[.slice ab bd.length cb] 107)=w1 at *;have hz1:=hal.size;have hl1:=(bS g1).1;have hk1:=dK.of hal hlw;obtain⟨y0,y1,y2,y3,y4,y5,y6,y7⟩:=aI g0;obtain⟨r0,rz⟩:=bL g1;have Y8:=ay hL1;have Y9:=ay hM1;have HT1:=ay hT1;have HG:=ay (And.intro g0 g1);clear hL1 hM1 hT1 g0 g1 HX
 obtain⟨A,hA⟩:∃ A,A=(decide (op=3) && !decide (nm∈bd)):=⟨_,rfl⟩
 obtain⟨T,hTT⟩:∃ T,T=decide ((op=3∧nm ∉ bd)∨(op=4∧res=false)):=⟨_,rfl⟩
 have HA:=ay hA;have Tm:=ay hTT;clear hA hTT
 obtain⟨f1,hf1⟩:∃ f1,f1=nR f (qQ E bd res op nm md ks.length a_):=⟨_,rfl⟩
 have Jl:=ay hf1
 have Ox:iH f1:=by rw[hf1];exact HFO.out.or hhd
 have VJ:=ay Ox;clear hf1 Ox hhd
 have ahE:lb<w1.heap.size:=by omega
 go_cut [] (fun wc=>l8 C lb im f1 wc∧dK lb w1 wc)
 case first =>
  go_upto_region 1 with fail
  go_cut [10] (fun v wc=>v=.bool A∧Below w1.heap.size w1 wc)
  case first =>
   have HH:=ay (Dj _ ab cb bd ⟨nm.toArray⟩ w1 HT1.out HR.out (by omega));simp only at HH
   obtain⟨m,hm⟩:∃ m,m=decide (nm∈bd):=⟨_,rfl⟩
   rw[← hm] at HH HA;clear hm
   by_cases h3:op=3
   ·have h3I:((op:Int) == 3)=true:=by simp[h3]
    have HA1:Hid (A=!m):=ay (by rw[HA.out,iX h3];rfl);clear h3 HA;go_wp2_with (go_at_call 54;refine HH.out.mono ?_;rintro e w2 ⟨rfl,hb2⟩)
    go_meet
    exact⟨by rw[HA1.out],hb2⟩
   ·have h3I:((op:Int) == 3)=false:=by simp[h3]
    have HA1:Hid (A=false):=ay (by rw[HA.out,dA h3];rfl);clear h3 HA HH;go_wp2
    go_meet
    exact⟨by rw[HA1.out],bI _ _⟩
  case rest =>
   obtain⟨rfl,hb2⟩:=hcut
   obtain⟨w2,rfl⟩:∃ w2:World,w2=wc:=⟨_,rfl⟩
   clear y0 y1 y2 y3 y4 y5 y6 y7 r0 rz;have hz2:=hb2.size;have g0:=(hb2.block _ (by omega)).trans HG.out.1;have g1:=(hb2.block _ hl1).trans HG.out.2;have HG2:=ay (And.intro g0 g1);obtain⟨y0,y1,y2,y3,y4,y5,y6,y7⟩:=aI g0;clear g0 g1
   go_upto_if 10 with fail
   go_cut [10] (fun v wc=>v=.bool T∧w2=wc)
   case first =>
    cases A with
    | true =>
     have HT1:Hid (T=true):=ay (by
      have h1:=HA.out;rw[Tm.out];simp only[Bool.true_eq,Bool.and_eq_true,decide_eq_true_eq,Bool.not_eq_true',decide_eq_false_iff_not] at h1
      exact iX (.inl h1))
     go_wp2
     go_meet
     exact⟨by rw[HT1.out],rfl⟩
    | false =>
     have HT1:Hid (T=(decide (op=4) && !res)):=ay (by
      have h1:=HA.out;rw[Tm.out]
      have h2:¬ (op=3∧nm ∉ bd):=fun q=>by rw[iX q.1,dA q.2] at h1;cases h1
      by_cases h4:op=4
      ·cases res<;>simp[h4,h2]
      ·simp[h4,h2])
     clear Tm HA
     by_cases h4:op=4
     ·have h4I:((op:Int) == 4)=true:=by simp[h4]
      have HT2:Hid (T=!res):=ay (by rw[HT1.out,iX h4];rfl);clear h4 HT1;go_wp2
      go_meet
      exact⟨by rw[HT2.out],rfl⟩
     ·have h4I:((op:Int) == 4)=false:=by simp[h4]
      have HT2:Hid (T=false):=ay (by rw[HT1.out,dA h4];rfl);clear h4 HT1;go_wp2
      go_meet
      exact⟨by rw[HT2.out],rfl⟩
   case rest =>
    obtain⟨rfl,rfl⟩:=hcut;have hL2:=Y8.out.below hb2;have hM2:=Y9.out.keep Y8.out (aW.of hb2);have HL2:=ay hL2;have GR:=ay hM2;clear hL2 hM2
    go_upto_if 10 with fail
    cases T with
    | true =>
     have HE:Hid (f1=nR f (some (31,a_))):=ay (by
      rw[Jl.out,qQ,if_pos (of_decide_eq_true Tm.out.symm)])
     have TA:=ay (xw C lb im f 31 a_ w2 HL2.out HFO.out);clear Tm HA Jl;go_wp2_with (go_at_call 50;refine TA.out.mono ?_;rintro e w3 ⟨rfl,hl3,gM⟩)
     go_meet
     exact⟨by rw[HE.out];exact hl3,(dK.of hb2 (by omega)).trans gM⟩
    | false =>
     have hnT:=of_decide_eq_false Tm.out.symm
     by_cases h24:op=24
     ·have HE:Hid (f1=nR f (Jk E nm md ks.length a_)):=ay (by
       rw[Jl.out,qQ,if_neg hnT,if_pos h24])
      subst h24;have HCA:Hid (Calls _ _ _ w2 _):=ay (VI E C lb B im f 24 nm md ng ys (.slice am wn cm) ae ks.length ce a_ w2 HL2.out GR.out HFO.out);unfold aQ at HCA;clear Tm HA Jl hnT;go_wp2_with (go_at_call 137;refine HCA.out.mono ?_;rintro e w3 ⟨rfl,hl3,gM⟩)
      go_meet
      exact⟨by rw[HE.out];exact hl3,(dK.of hb2 (by omega)).trans gM⟩
     ·have ahF:((op:Int) == 24)=false:=by simp[h24]
      have HE:Hid (f1=f):=ay (by
       rw[Jl.out,qQ,if_neg hnT,if_neg h24,pF])
      clear Tm HA Jl hnT h24;go_wp2
      go_meet
      exact⟨by rw[HE.out];exact HL2.out,dK.of hb2 (by omega)⟩
 case rest =>
  obtain⟨hl2,hk2⟩:=hcut
  obtain⟨w2,rfl⟩:∃ w2:World,w2=wc:=⟨_,rfl⟩
  clear y0 y1 y2 y3 y4 y5 y6 y7 r0 rz HA Tm A T;have hz2:=hk2.2.1;have hM2:=Y9.out.keep Y8.out hk2.2;have SN:=HT1.out.frame hk2.2;have g0:=(hk2.2.2 w.heap.size (by omega) (by omega)).trans HG.out.1;have g1:=(hk2.2.2 (w.heap.size+1) (by omega) hl1).trans HG.out.2;have agk:aW (fun b=>b≠lb) w w2:=hk1.2.trans hk2.2;have agl:=hk1.trans hk2;obtain⟨y0,y1,y2,y3,y4,y5,y6,y7⟩:=aI g0;have GR:=ay hM2;have HT2:=ay SN;have HG2:=ay (And.intro g0 g1);have HL2:=ay hl2
  have ahG:w.heap.size+1<w2.heap.size:=by omega
  clear hM2 SN g0 g1 hl2 Y9 HT1 Y8 HG hk1;go_wp2
  go_loopw [8,9,42] (fun _ _ q wr=>∃ k:Nat,k≤ks.length∧q=.int .i64 k∧l8 C lb im (nR f1 (dY E op nm bd res 0 (ks.take k))) wr∧dK lb w2 wr) (fun _ _ q _=>ks.length - (intOf q).toNat)
  case atStart=>exact⟨0,lI _,rfl,by rw[List.take_zero,dY,pF];exact HL2.out,dK.refl _ _⟩
  case round =>
   obtain⟨k,hk,rfl,hlr,hkr⟩:=hrel;clear y0 y1 y2 y3 y4 y5 y6 y7;have Fv:=hkr.2.1;have Dq:=ay hlr;clear hlr
   by_cases hlt:k<ks.length
   ·obtain⟨b,off,rfl,hPb,hbw,kL⟩:=HF.out (by omega)
    obtain⟨m,kv,hE,hc⟩:=kL k hlt;have har:aW (fun b=>b≠lb) w wr:=agk.trans hkr.2;obtain⟨KC,KD,KE,Oy,Oz,rfl,rfl⟩:=hE.slX;have hE':=hE.frame har
    have mW:∀ (j:Nat) (u:Value),w.cell? ⟨b,off+k * 8+j,none⟩=some u→wr.cell? ⟨b,off+k * 8+j,none⟩=some u:=fun j u h=>(World.cell?_of_block (a:=⟨b,off+k * 8+j,none⟩) (har.2 b hPb hbw)).trans h
    have x0:=mW 0 _ (hc 0 _ rfl);have x1:=mW 1 _ (hc 1 _ rfl);have x2:=mW 2 _ (hc 2 _ rfl);have x3:=mW 3 _ (hc 3 _ rfl);have x4:=mW 4 _ (hc 4 _ rfl);have x5:=mW 5 _ (hc 5 _ rfl);have x6:=mW 6 _ (hc 6 _ rfl);have x7:=mW 7 _ (hc 7 _ rfl);rw[Nat.add_zero] at x0;simp only[dJ] at x1 x2;have hIH:=IH.out _ (mX hlt);have hsz:=HSZ.out k hlt;have hsn:=KI E op nm bd res hlt;have qx:=ay hsn;have HE:=ay hE';have HIH:=ay hIH;clear kL hE hE' hc mW hIH hsn;generalize ks[k]=x at *
    obtain⟨fk,Rh⟩:∃ fk,fk=nR f1 (dY E op nm bd res 0 (ks.take k)):=⟨_,rfl⟩
    have KN:iH fk:=by rw[Rh];exact VJ.out.or (BA E op nm bd res _ _)
    have Da:Hid (nR f1 (dY E op nm bd res 0 (ks.take (k+1)))=nR fk (x.eO E (Fu op nm bd k) res)):=ay (by rw[qx.out,Rh,tQ]);rw[← Rh] at Dq;have hMr:=GR.out.keep HL2.out hkr.2
    have HK:Hid (∀ (W:World) (ab':Option Addr) (cb':Nat) (Ac:List (List UInt8)),l8 C lb im fk W→aW (fun b=>b≠lb) wr W→gD (fun b=>b≠lb) W (.slice ab' Ac.length cb') Ac→Ac.Pairwise (· < ·)→Ac.length+x.size≤500000→Calls Tryz.prog 81 #[.pointer (some ⟨lb,0,none⟩),.agg #[.int .i64 x.op,.string ⟨x.name.toArray⟩,.string ⟨x.module.toArray⟩,.bool (decide (x.num<0)),.slice KC KD KE,.bool x.yes,.slice Oy x.aA.length Oz,.int .i64 x.at_],.agg #[.slice ab' Ac.length cb'],.bool res] W (yS C lb im (nR fk (x.eO E Ac res)) W)) :=
     ay fun W ab' cb' Ac h1 h2 h3 h4 h5=>HIH.out E C lb B im fk KC KD KE Oy Oz ab' cb' Ac res W h1 (hMr.keep Dq.out h2) KN (HE.out.frame h2) h3 h4 h5
    have hTr:=HT2.out.frame hkr.2;have gr0:=(hkr.2.2 w.heap.size (by omega) (by omega)).trans HG2.out.1;have gr1:=(hkr.2.2 (w.heap.size+1) (by omega) (by omega)).trans HG2.out.2;have gW:=aB wr (.cells (aQ x.op ⟨x.name.toArray⟩ ⟨x.module.toArray⟩ (decide (x.num<0)) (.slice KC KD KE) x.yes (.slice Oy x.aA.length Oz) x.at_) 64);have gk:=aY wr (.cells (aQ x.op ⟨x.name.toArray⟩ ⟨x.module.toArray⟩ (decide (x.num<0)) (.slice KC KD KE) x.yes (.slice Oy x.aA.length Oz) x.at_) 64)
    have pR:(k:Int)<(ks.length:Int):=by omega
    have HTr:=ay hTr;have WX:=ay (And.intro gr0 gr1);have VK:lb<wr.heap.size:=Dq.out.lt;clear Rh KN qx HE HIH hMr hTr gr0 gr1 har
    go_upto_region 9 with fail
    change Code.wp _ _ _ _ (wr.alloc (.cells (aQ x.op ⟨x.name.toArray⟩ ⟨x.module.toArray⟩ (decide (x.num<0)) (.slice KC KD KE) x.yes (.slice Oy x.aA.length Oz) x.at_) 64));clear x0 x1 x2 x3 x4 x5 x6 x7
    have ads:wr.heap.size<(wr.alloc (.cells (aQ x.op ⟨x.name.toArray⟩ ⟨x.module.toArray⟩ (decide (x.num<0)) (.slice KC KD KE) x.yes (.slice Oy x.aA.length Oz) x.at_) 64)).heap.size:=by simp
    generalize wr.alloc (.cells (aQ x.op ⟨x.name.toArray⟩ ⟨x.module.toArray⟩ (decide (x.num<0)) (.slice KC KD KE) x.yes (.slice Oy x.aA.length Oz) x.at_) 64)=w3 at *;have hz3:=gW.size;have hL3:=Dq.out.below gW;have g0:=(gW.block _ (by omega)).trans WX.out.1;have g1:=(gW.block _ (by omega)).trans WX.out.2;have gM:=dK.of gW VK;have Pz:=ay hL3;have HT3:=ay (HTr.out.below gW);obtain⟨y0,y1,y2,y3,y4,y5,y6,y7⟩:=aI g0;obtain⟨q0,qz⟩:=bL g1;obtain⟨v0,v1,v2,v3,v4,v5,v6,v7⟩:=aI gk;have HGK:=ay gk;clear hL3 g0 g1 gk WX Dq HTr
    obtain⟨bb,aeX⟩:∃ bb,decide (op=22∧k=1)=bb:=⟨_,rfl⟩
    have HBB:=ay aeX;clear aeX
    go_cut [53] (fun v wc=>v=.bool bb∧w3=wc)
    case first =>
     by_cases h22:op=22
     ·have hh:((op:Int) == 22)=true:=by simp[h22]
      by_cases hk1:k=1
      ·have hbt:Hid (bb=true):=ay (by rw[← HBB.out];exact iX ⟨h22,hk1⟩)
       subst hk1;clear h22;go_wp2
       go_meet
       exact⟨by rw[hbt.out],rfl⟩
      ·have hbt:Hid (bb=false):=ay (by rw[← HBB.out];exact dA (fun q=>hk1 q.2))
       have hk2:((k:Int) == 1)=false:=by simp;omega
       clear h22;go_wp2
       go_meet
       exact⟨by rw[hbt.out],rfl⟩
     ·have hh:((op:Int) == 22)=false:=by simp[h22]
      have hbt:Hid (bb=false):=ay (by rw[← HBB.out];exact dA (fun q=>h22 q.1));clear h22;go_wp2
      go_meet
      exact⟨by rw[hbt.out],rfl⟩
    case rest =>
     obtain⟨rfl,rfl⟩:=hcut;have HKP:=ay (fun (W:World) (hW:dK lb w3 W)=>(show dK lb w2 W from hkr.trans (gM.trans hW)))
     cases bb with
     | true =>
      have hin:Fu op nm bd k=fH (bd++[nm]):=by rw[Fu,if_pos (of_decide_eq_true HBB.out)]
      rw[hin] at Da;have hsl:=sJ (bd++[nm]);rw[bN,List.length_singleton] at hsl;have HW:=ay (Fw (fun _=>True) ab cb (.slice (some ⟨w3.heap.size,0,none⟩) 1 1) bd [nm] (w3.alloc (.cells #[.string ⟨nm.toArray⟩] 9)).drew (((HT3.out.below (aB w3 _)).below (bI _ _).drew).imp fun _ _ _=>trivial) ((KM w3 nm).below (bI _ _).drew) (by omega) (by simp));have hb4:Below w3.heap.size w3 (w3.alloc (.cells #[.string ⟨nm.toArray⟩] 9)).drew:=(aB w3 _).drew;have hsr:=vD (bd++[nm]);have HSR:=ay hsr;clear hin hsr HBB;generalize fH (bd++[nm])=S at *
      have hn0:w.heap.size<w3.heap.size:=by omega
      have hn1:w.heap.size+1<w3.heap.size:=by omega
      have hne1:wr.heap.size≠lb:=by omega
      have hne2:w.heap.size+1≠lb:=by omega
      have RD:w.heap.size≠lb:=by omega
      have HS:Hid (∀ W,aW (fun b=>b≠lb) w3 W→((W.cell? ⟨wr.heap.size,0,none⟩=some (.int .i64 x.op)∧W.cell? ⟨wr.heap.size,1,none⟩=some (.string ⟨x.name.toArray⟩)∧W.cell? ⟨wr.heap.size,2,none⟩=some (.string ⟨x.module.toArray⟩)∧W.cell? ⟨wr.heap.size,3,none⟩=some (.bool (decide (x.num<0)))∧W.cell? ⟨wr.heap.size,4,none⟩=some (.slice KC KD KE)∧W.cell? ⟨wr.heap.size,5,none⟩=some (.bool x.yes)∧W.cell? ⟨wr.heap.size,6,none⟩=some (.slice Oy x.aA.length Oz)∧W.cell? ⟨wr.heap.size,7,none⟩=some (.int .i64 x.at_))∧W.cell? ⟨w.heap.size+1,0,none⟩=some (.slice ab bd.length cb)∧W.cell? ⟨w.heap.size,1,none⟩=some (.string ⟨nm.toArray⟩))):=ay fun W hW=>⟨aI ((hW.2 wr.heap.size hne1 ads).trans HGK.out),(World.cell?_of_block (a:=⟨w.heap.size+1,0,none⟩) (hW.2 _ hne2 hn1)).trans q0,(World.cell?_of_block (a:=⟨w.heap.size,1,none⟩) (hW.2 _ RD hn0)).trans y1⟩
      go_upto_region 10 with fail
      go_region_held3 (fun W=>(W.cell? ⟨wr.heap.size,0,none⟩=some (.int .i64 x.op)∧W.cell? ⟨wr.heap.size,1,none⟩=some (.string ⟨x.name.toArray⟩)∧W.cell? ⟨wr.heap.size,2,none⟩=some (.string ⟨x.module.toArray⟩)∧W.cell? ⟨wr.heap.size,3,none⟩=some (.bool (decide (x.num<0)))∧W.cell? ⟨wr.heap.size,4,none⟩=some (.slice KC KD KE)∧W.cell? ⟨wr.heap.size,5,none⟩=some (.bool x.yes)∧W.cell? ⟨wr.heap.size,6,none⟩=some (.slice Oy x.aA.length Oz)∧W.cell? ⟨wr.heap.size,7,none⟩=some (.int .i64 x.at_))∧W.cell? ⟨w.heap.size+1,0,none⟩=some (.slice ab bd.length cb)∧W.cell? ⟨w.heap.size,1,none⟩=some (.string ⟨nm.toArray⟩))
       (first|(with_reducible exact p3)|(go_keep;done))
       (first
        | (go_at_call 55;refine HW.out.mono ?_;rintro e w5 ⟨a5,c5,rfl,ht5,hb5⟩;have Za:=hb4.trans (hb5.mono (by simp));have HEX:=HK.out w5 a5 c5 S (Pz.out.below Za) ((aW.of gW).trans (aW.of Za)) (ht5.imp fun q hq _=>by have:=hb4.size;omega) HSR.out (by omega);have p3:=HS.out w5 (aW.of Za))
        | (go_at_call 81;refine HEX.mono ?_;rintro e w6 ⟨rfl,hl6,vw⟩;have p3:=HS.out w6 ((aW.of Za).trans vw.2)))
      all_goals
       clear p3 v0 v1 v2 v3 v4 v5 v6 v7 y0 y1 y2 y3 y4 y5 y6 y7 q0 HS HK;go_wp2_with fail
       go_roundw
       case rel=>exact⟨k+1,by omega,by go_num,by rw[Da.out];exact hl6,HKP.out _ ((dK.of Za (by omega)).trans vw)⟩
       case measure=>simp[intOf];omega
     | false =>
      have hin:Fu op nm bd k=bd:=by rw[Fu,if_neg (of_decide_eq_false HBB.out)]
      rw[hin] at Da;have HEX:=ay (HK.out w3 ab cb bd Pz.out (aW.of gW) HT3.out HR.out (by omega));clear hin HBB HK;go_wp2_with (go_at_call 81;refine HEX.out.mono ?_;rintro e w4 ⟨rfl,hl4,hk4⟩)
      go_roundw
      case rel=>exact⟨k+1,by omega,by go_num,by rw[Da.out];exact hl4,HKP.out _ hk4⟩
      case measure=>simp[intOf];omega
   ·obtain rfl:k=ks.length:=by omega
    have pR:decide ((ks.length:Int)<(ks.length:Int))=false:=dA (by omega);go_wp2
    go_end0
    refine⟨rfl,?_,agl.trans hkr⟩;rw[BD.out];have:=Dq.out;rw[List.take_length,Jl.out,tQ] at this;exact this
mutual
theorem BF:∀ x:PZ,KL x
 | .mk op nm md num yes aA a=>RA _ (Fz aA)
theorem Fz:∀ l:List PZ,∀ k∈l,KL k
 | [],k,h=>by cases h
 | e :: l,k,h=>by
  rcases List.mem_cons.1 h with q|q
  ·rw[q];exact BF e
  ·exact Fz l k q
end
theorem qU (E:SE)(bd:List (List UInt8))(res:Bool):∀ l:List PZ,iH (bZ E bd res l)
 | []=>iH.none
 | e :: l=>(PZ.tT E bd res e).or (qU E bd res l)
theorem CK (E:SE)(C:VG)(lb B:Nat)(im:Value)(f:Fl)(al:Option Addr)(cl:Nat)(ks:List PZ)(ab:Option Addr)(cb:Nat)(bd:List (List UInt8))(res:Bool)(w:World)(hL:l8 C lb im f w)(hM:ScM E C lb B im w)(hf:iH f)
  (hK:RowK (ZK YA) (fun b=>b≠lb) w (.slice al ks.length cl) ks) (hT:gD (fun b=>b≠lb) w (.slice ab bd.length cb) bd) (hr:bd.Pairwise (· < ·)) (hn:∀ e∈ks,bd.length+e.size≤500000) (hkl:ks.length≤1000000) :
  Calls Tryz.prog 80 #[.pointer (some ⟨lb,0,none⟩),.slice al ks.length cl,.agg #[.slice ab bd.length cb],.bool res] w (yS C lb im (nR f (bZ E bd res ks)) w):=by
 have hal:=aB w (.cells #[.slice ab bd.length cb] 107);have g1:=aY w (.cells #[.slice ab bd.length cb] 107);obtain⟨ae',ce',hv,_,hform⟩:=hK.form;simp only[Value.slice.injEq] at hv;obtain⟨rfl,-,rfl⟩:=hv;have hlw:=hL.lt;have hL1:=hL.below hal;have hM1:=hM.keep hL (aW.of hal);have hT1:=hT.below hal;have HF:=ay hform;have HSZ:=ay hn;have HFO:=ay hf;have HR:=ay hr;clear hL hM hT hr hf hform hn hK
 obtain⟨R,hR⟩:∃ R,R=nR f (bZ E bd res ks):=⟨_,rfl⟩
 rw[← hR];have BD:=ay hR;clear hR;go_enter Tryz.func80,Tryz.ntmps80
 go_upto_region 1 with fail
 change Code.wp _ _ _ _ (w.alloc (.cells #[.slice ab bd.length cb] 107));generalize w.alloc (.cells #[.slice ab bd.length cb] 107)=w1 at *;have hz1:=hal.size;have hl1:=(bS g1).1;have hk1:=dK.of hal hlw;have Y8:=ay hL1;have Y9:=ay hM1;have HT1:=ay hT1;have HG1:=ay g1;have agm:aW (fun b=>b≠lb) w w1:=aW.of hal;clear hL1 hM1 hT1 g1;go_wp2
 go_loopw [9,12] (fun _ q wr=>∃ k:Nat,k≤ks.length∧q=.int .i64 k∧l8 C lb im (nR f (bZ E bd res (ks.take k))) wr∧dK lb w1 wr) (fun _ q _=>ks.length - (intOf q).toNat)
 case atStart=>exact⟨0,lI _,rfl,by rw[List.take_zero,bZ,pF];exact Y8.out,dK.refl _ _⟩
 case round =>
  obtain⟨k,hk,rfl,hlr,hkr⟩:=hrel;have Fv:=hkr.2.1;have Dq:=ay hlr;clear hlr
  by_cases hlt:k<ks.length
  ·obtain⟨b,off,rfl,hPb,hbw,kL⟩:=HF.out (by omega)
   obtain⟨⟨m,kv⟩,hE,hc⟩:=kL k hlt;have har:aW (fun b=>b≠lb) w wr:=agm.trans hkr.2;obtain⟨KC,KD,KE,Oy,Oz,rfl,rfl⟩:=nL.slX hE;have hE':=nL.frame har hE
   have mW:∀ (j:Nat) (u:Value),w.cell? ⟨b,off+k * 8+j,none⟩=some u→wr.cell? ⟨b,off+k * 8+j,none⟩=some u:=fun j u h=>(World.cell?_of_block (a:=⟨b,off+k * 8+j,none⟩) (har.2 b hPb hbw)).trans h
   have x0:=mW 0 _ (hc 0 _ rfl);have x1:=mW 1 _ (hc 1 _ rfl);have x2:=mW 2 _ (hc 2 _ rfl);have x3:=mW 3 _ (hc 3 _ rfl);have x4:=mW 4 _ (hc 4 _ rfl);have x5:=mW 5 _ (hc 5 _ rfl);have x6:=mW 6 _ (hc 6 _ rfl);have x7:=mW 7 _ (hc 7 _ rfl);rw[Nat.add_zero] at x0;simp only[dJ] at x1 x2;have hsz:=HSZ.out _ (mX hlt);have qx:=ay (Hq E bd res hlt);have HE:=ay hE';clear kL hE hE' hc mW;generalize ks[k]=x at *
   obtain⟨fk,Rh⟩:∃ fk,fk=nR f (bZ E bd res (ks.take k)):=⟨_,rfl⟩
   have KN:iH fk:=by rw[Rh];exact HFO.out.or (qU E bd res _)
   have Da:Hid (nR f (bZ E bd res (ks.take (k+1)))=nR fk (x.eO E bd res)):=ay (by rw[qx.out,Rh,tQ]);rw[← Rh] at Dq;have hMr:=Y9.out.keep Y8.out hkr.2
   have HK:Hid (∀ (W:World),l8 C lb im fk W→aW (fun b=>b≠lb) wr W→gD (fun b=>b≠lb) W (.slice ab bd.length cb) bd→Calls Tryz.prog 81 #[.pointer (some ⟨lb,0,none⟩),.agg #[.int .i64 x.op,.string ⟨x.name.toArray⟩,.string ⟨x.module.toArray⟩,.bool (decide (x.num<0)),.slice KC KD KE,.bool x.yes,.slice Oy x.aA.length Oz,.int .i64 x.at_],.agg #[.slice ab bd.length cb],.bool res] W (yS C lb im (nR fk (x.eO E bd res)) W)) :=
    ay fun W h1 h2 h3=>BF x E C lb B im fk KC KD KE Oy Oz ab cb bd res W h1 (hMr.keep Dq.out h2) KN (nL.frame h2 HE.out) h3 HR.out hsz
   have hTr:=HT1.out.frame hkr.2;have gr1:=(hkr.2.2 w.heap.size (by omega) hl1).trans HG1.out;have gW:=aB wr (.cells (aQ x.op ⟨x.name.toArray⟩ ⟨x.module.toArray⟩ (decide (x.num<0)) (.slice KC KD KE) x.yes (.slice Oy x.aA.length Oz) x.at_) 64);have gk:=aY wr (.cells (aQ x.op ⟨x.name.toArray⟩ ⟨x.module.toArray⟩ (decide (x.num<0)) (.slice KC KD KE) x.yes (.slice Oy x.aA.length Oz) x.at_) 64)
   have pR:(k:Int)<(ks.length:Int):=by omega
   have VK:lb<wr.heap.size:=Dq.out.lt;have HEX:=ay (HK.out (wr.alloc (.cells (aQ x.op ⟨x.name.toArray⟩ ⟨x.module.toArray⟩ (decide (x.num<0)) (.slice KC KD KE) x.yes (.slice Oy x.aA.length Oz) x.at_) 64)) (Dq.out.below gW) (aW.of gW) (hTr.below gW));have g1:=(gW.block _ (by omega)).trans gr1;have hkF:=hkr.trans (dK.of gW VK);clear Rh KN qx HE hMr hTr gr1 har HK
   go_upto_region 4 with fail
   change Code.wp _ _ _ _ (wr.alloc (.cells (aQ x.op ⟨x.name.toArray⟩ ⟨x.module.toArray⟩ (decide (x.num<0)) (.slice KC KD KE) x.yes (.slice Oy x.aA.length Oz) x.at_) 64));clear x0 x1 x2 x3 x4 x5 x6 x7;generalize wr.alloc (.cells (aQ x.op ⟨x.name.toArray⟩ ⟨x.module.toArray⟩ (decide (x.num<0)) (.slice KC KD KE) x.yes (.slice Oy x.aA.length Oz) x.at_) 64)=w3 at *;obtain⟨q0,qz⟩:=bL g1;obtain⟨v0,v1,v2,v3,v4,v5,v6,v7⟩:=aI gk;clear g1 gk Dq;go_wp2_with (go_at_call 81;refine HEX.out.mono ?_;rintro e w4 ⟨rfl,hl4,hk4⟩)
   go_roundw
   case rel=>exact⟨k+1,by omega,by go_num,by rw[Da.out];exact hl4,hkF.trans hk4⟩
   case measure=>simp[intOf];omega
  ·obtain rfl:k=ks.length:=by omega
   have pR:decide ((ks.length:Int)<(ks.length:Int))=false:=dA (by omega);go_wp2
   go_end0
   refine⟨rfl,?_,hk1.trans hkr⟩;rw[BD.out];have:=Dq.out;rw[List.take_length] at this;exact this
def jB (d:ZD)(ap:Option Addr)(cp:Nat)(ac:Option Addr)(cc:Nat)(am:Option Addr)(wn cm:Nat)(ae:Option Addr)(ce:Nat):Array Value:=#[.bool d.pub,.string ⟨d.res.name.toArray⟩,.slice ap d.params.length cp,.int .i64 d.res.base,.slice ac d.res.aC.length cc,.int .i64 d.body.op,.string ⟨d.body.name.toArray⟩,.string ⟨d.body.module.toArray⟩,.bool (decide (d.body.num<0)),.slice am wn cm,.bool d.body.yes,.slice ae d.body.aA.length ce,.int .i64 d.body.at_,.int .i64 d.res.at_,.int .i64 d.res.bare]
theorem bB {w:World}{b:Nat}{d:ZD}{ap:Option Addr}{cp:Nat}{ac:Option Addr}{cc:Nat}{am:Option Addr}{wn cm:Nat}{ae:Option Addr}{ce:Nat}(h:w.heap[b]?=some (.cells (jB d ap cp ac cc am wn cm ae ce) 66 (0,0))) :
  w.cell? ⟨b,0,none⟩=some (.bool d.pub)∧w.cell? ⟨b,1,none⟩=some (.string ⟨d.res.name.toArray⟩)∧w.cell? ⟨b,2,none⟩=some (.slice ap d.params.length cp)∧w.cell? ⟨b,3,none⟩=some (.int .i64 d.res.base)∧w.cell? ⟨b,4,none⟩=some (.slice ac d.res.aC.length cc)∧w.cell? ⟨b,5,none⟩=some (.int .i64 d.body.op)∧w.cell? ⟨b,6,none⟩=some (.string ⟨d.body.name.toArray⟩)∧w.cell? ⟨b,7,none⟩=some (.string ⟨d.body.module.toArray⟩)∧w.cell? ⟨b,8,none⟩=some (.bool (decide (d.body.num<0)))∧w.cell? ⟨b,9,none⟩=some (.slice am wn cm)∧w.cell? ⟨b,10,none⟩=some (.bool d.body.yes)∧w.cell? ⟨b,11,none⟩=some (.slice ae d.body.aA.length ce)∧w.cell? ⟨b,12,none⟩=some (.int .i64 d.body.at_)∧w.cell? ⟨b,13,none⟩=some (.int .i64 d.res.at_)∧w.cell? ⟨b,14,none⟩=some (.int .i64 d.res.bare):=by
 refine⟨?_,?_,?_,?_,?_,?_,?_,?_,?_,?_,?_,?_,?_,?_,?_⟩<;>(rw[aV h];rfl)
structure Db (d:ZD) (B:Nat) (ap:Option Addr) (cp:Nat) (ac:Option Addr) (cc:Nat) (am:Option Addr) (wn cm:Nat) (ae:Option Addr) (ce:Nat) (w:World):Prop where
 lg:CF B w ap d.params
 cl:kK B w ac d.res.aC
 body:nL YA (fun k=>k<B) w (.slice am wn cm) (.slice ae d.body.aA.length ce) d.body
 hB:B≤w.heap.size
theorem Db.ru {d:ZD}{B:Nat}{ap:Option Addr}{cp:Nat}{ac:Option Addr}{cc:Nat}{am:Option Addr}{wn cm:Nat}{ae:Option Addr}{ce:Nat}{w W:World}(h:Db d B ap cp ac cc am wn cm ae ce w)(hW:Below B w W):Db d B ap cp ac cc am wn cm ae ce W:=⟨h.lg.ru hW,h.cl.ru hW,h.body.frame (aW.ru hW fun b hb=>hb),jc h.hB hW.size⟩
theorem Db.below {d:ZD}{B:Nat}{ap:Option Addr}{cp:Nat}{ac:Option Addr}{cc:Nat}{am:Option Addr}{wn cm:Nat}{ae:Option Addr}{ce:Nat}{w W:World}(h:Db d B ap cp ac cc am wn cm ae ce w)(hW:Below w.heap.size w W):Db d B ap cp ac cc am wn cm ae ce W:=h.ru (hW.mono h.hB)
theorem VL (d:ZD)(hf:d.fit)(B:Nat)(ap:Option Addr)(cp:Nat)(ac:Option Addr)(cc:Nat)(am:Option Addr)(wn cm:Nat)(ae:Option Addr)(ce:Nat)(w:World)(h:Db d B ap cp ac cc am wn cm ae ce w) :
  Calls Tryz.prog 130 #[.agg #[.bool d.pub,.string ⟨d.res.name.toArray⟩,.slice ap d.params.length cp,.int .i64 d.res.base,.slice ac d.res.aC.length cc,.int .i64 d.body.op,.string ⟨d.body.name.toArray⟩,.string ⟨d.body.module.toArray⟩,.bool (decide (d.body.num<0)),.slice am wn cm,.bool d.body.yes,.slice ae d.body.aA.length ce,.int .i64 d.body.at_,.int .i64 d.res.at_,.int .i64 d.res.bare]] w fun r w'=>r=.returned (.bool d.sound)∧Below w.heap.size w w':=by
 obtain⟨f1,f2,f3,f4⟩:=hf;have hal:=aB w (.cells (jB d ap cp ac cc am wn cm ae ce) 66);have hN:=aY w (.cells (jB d ap cp ac cc am wn cm ae ce) 66);have HP:=ay (fun V=>lY ⟨d.res.name.toArray⟩ V (by have:=f3.1;show d.res.name.toArray.size≤_;simp;omega));have HF:=ay (fun V (hV:Below w.heap.size w V)=>Ho 208 #[] (fun x=>!x.right) (enters_of Tryz.func208 (by kernel_rfl) rfl) B ap cp d.params V (h.below hV).lg (h.below hV).hB (by omega) fun x hx=>Rw x (f2 x hx) B V (h.below hV).hB);have HC:=ay (fun V (hV:Below w.heap.size w V)=>CB d.res.base B ac cc d.res.aC V (h.below hV).cl (h.below hV).hB (by have:=f3.2.1;omega) f3.2.2);have HR:=ay (fun V (hV:Below w.heap.size w V)=>yR false _ d.body (Nat.lt_succ_self _) f4 B am wn cm ae ce V (h.below hV).body (h.below hV).hB (by have:=(PZ.kT f4).2.2.2.1;omega));have eN:(ByteArray.mk d.res.name.toArray).data.toList=d.res.name:=rfl;rw[eN] at HP;rw[ZD.sound];have hpl:d.params.length≤1000000:=f1;clear h f1 f2 f3 f4 eN;generalize bf d.res.name=pl at *;generalize (d.params.any fun f=>!f.right)=an at *;generalize lG d.res.base d.res.aC=cl at *;generalize d.body.right false=rb at *
 obtain⟨res,hres⟩:∃ b:Bool,b=(pl && (decide (d.params.length≤8) && (!an && (cl && rb)))):=⟨_,rfl⟩
 rw[← hres];have pX:=ay hres;clear hres;go_enter Tryz.func130,Tryz.ntmps130
 go_upto_region 2 with fail
 change Code.wp _ _ _ _ (w.alloc (.cells (jB d ap cp ac cc am wn cm ae ce) 66));generalize w.alloc _=w0 at hal hN ⊢;have hl0:=(bS hN).1;have HN:=ay (fun V (hV:Below w0.heap.size w0 V)=>bB ((hV.block _ hl0).trans hN));obtain⟨y0,y1,y2,y3,y4,y5,y6,y7,y8,y9,rA,rC,rD,-⟩:=HN.out w0 (bI _ _);clear hN
 cases pl with
 | false =>
  have hr:Hid (res=false):=ay (by rw[pX.out];rfl);clear HF HC HR pX;go_wp2_with (go_at_call 42;refine(HP.out _).mono ?_;rintro r w1 ⟨rfl,hb1⟩);go_ret;exact⟨aT hr.out.symm,hal.trans (hb1.mono hal.size)⟩
 | true =>
  by_cases h8:d.params.length≤8
  ·have h8I:(d.params.length:Int)≤8:=by omega
   cases an with
   | true =>
    have hr:Hid (res=false):=ay (by rw[pX.out,iX h8];rfl);clear HC HR pX h8;go_wp2_with (first|(go_at_call 42;refine(HP.out _).mono ?_;rintro r w1 ⟨rfl,hb1⟩;have oC:=hal.trans (hb1.mono hal.size);obtain⟨z0,z1,z2,z3,z4,-⟩:=HN.out w1 hb1)|(go_at_call 209;refine(HF.out _ oC).mono ?_;rintro r w2 ⟨rfl,hb2⟩));go_ret;exact⟨aT hr.out.symm,oC.trans (hb2.mono oC.size)⟩
   | false =>
    cases cl with
    | false =>
     have hr:Hid (res=false):=ay (by rw[pX.out,iX h8];rfl);clear HR pX h8;go_wp2_with (first|(go_at_call 42;refine(HP.out _).mono ?_;rintro r w1 ⟨rfl,hb1⟩;have oC:=hal.trans (hb1.mono hal.size);obtain⟨z0,z1,z2,z3,z4,-⟩:=HN.out w1 hb1)|(go_at_call 209;refine(HF.out _ oC).mono ?_;rintro r w2 ⟨rfl,hb2⟩;have lF:=oC.trans (hb2.mono oC.size);have qR:=hb1.trans (hb2.mono hb1.size);obtain⟨v0,v1,v2,v3,v4,-⟩:=HN.out w2 qR)|(go_at_call 70;refine(HC.out _ lF).mono ?_;rintro r w3 ⟨rfl,hb3⟩));go_ret;exact⟨aT hr.out.symm,lF.trans (hb3.mono lF.size)⟩
    | true =>
     have hr:Hid (res=rb):=ay (by rw[pX.out,iX h8];rfl);clear pX h8;go_wp2_with (first|(go_at_call 42;refine(HP.out _).mono ?_;rintro r w1 ⟨rfl,hb1⟩;have oC:=hal.trans (hb1.mono hal.size);obtain⟨z0,z1,z2,z3,z4,-⟩:=HN.out w1 hb1)|(go_at_call 209;refine(HF.out _ oC).mono ?_;rintro r w2 ⟨rfl,hb2⟩;have lF:=oC.trans (hb2.mono oC.size);have qR:=hb1.trans (hb2.mono hb1.size);obtain⟨v0,v1,v2,v3,v4,-⟩:=HN.out w2 qR)|(go_at_call 70;refine(HC.out _ lF).mono ?_;rintro r w3 ⟨rfl,hb3⟩;have uZ:=lF.trans (hb3.mono lF.size);have su:=qR.trans (hb3.mono qR.size);obtain⟨u0,u1,u2,u3,u4,u5,u6,u7,u8,u9,u10,u11,u12,-⟩:=HN.out w3 su)|(go_at_call 122;refine(HR.out _ uZ).mono ?_;rintro r w4 ⟨rfl,hb4⟩));go_ret;exact⟨aT hr.out.symm,uZ.trans (hb4.mono uZ.size)⟩
  ·have h8I:(8:Int)<(d.params.length:Int):=by omega
   have hr:Hid (res=false):=ay (by rw[pX.out,dA h8];rfl);clear h8 HF HC HR pX;go_wp2_with (go_at_call 42;refine(HP.out _).mono ?_;rintro r w1 ⟨rfl,hb1⟩;have oC:=hal.trans (hb1.mono hal.size);obtain⟨z0,z1,z2,z3,z4,-⟩:=HN.out w1 hb1);go_ret;exact⟨aT hr.out.symm,oC⟩
theorem dK.low {lb:Nat}{w w5 w7:World}(h:dK lb w w5)(hb:Below w.heap.size w5 w7)(hl:lb<w.heap.size):dK lb w w7 :=
 ⟨fun B hB=>(h.1 B hB).trans (hb.mono (by omega)),⟨jc h.2.1 hb.size,fun b hb1 hb2=>(hb.block b hb2).trans (h.2.2 b hb1 hb2)⟩⟩
theorem FB (E:SE):∀ (l:List ZF) (s:List (List UInt8) × Fl),(lC E s l).1.length≤s.1.length+l.length
 | [],s=>bD _
 | f :: l,s=>by
  have h1:=FB E l (fH (s.1++[f.name]),nR (nR s.2 (if f.name∈s.1 then some (30,f.at_) else none)) (bZ E (fH (s.1++[f.name])) false f.aC));have h2:=sJ (s.1++[f.name]);rw[bN,List.length_singleton] at h2;rw[lC,dR];simp only at h1;omega
theorem BG (E:SE):∀ (l:List ZF) (s:List (List UInt8) × Fl),iH s.2→iH (lC E s l).2
 | [],s,h=>h
 | f :: l,s,h=>BG E l _ ((h.or (by split;exact iH.some (by decide);exact iH.none)).or (qU E _ _ _))
structure ZD.tV (d:ZD):Prop where
 lg:d.params.length≤1000
 pcl:∀ f∈d.params,f.aC.length≤1000∧∀ e∈f.aC,e.size≤400000
 cl:d.res.aC.length≤1000∧∀ e∈d.res.aC,e.size≤400000
 body:d.body.size≤400000
theorem Zb (E:SE)(C:VG)(lb B:Nat)(im:Value)(f:Fl)(d:ZD)(ap:Option Addr)(cp:Nat)(ac:Option Addr)(cc:Nat)(am:Option Addr)(wn cm:Nat)(ae:Option Addr)(ce:Nat)(w:World)(hL:l8 C lb im f w)(hM:ScM E C lb B im w)(hf:iH f)(hfit:d.tV)
  (hP:RowK ZFK (fun b=>b≠lb) w (.slice ap d.params.length cp) d.params) (hC:RowK (ZK YA) (fun b=>b≠lb) w (.slice ac d.res.aC.length cc) d.res.aC) (hE:nL YA (fun b=>b≠lb) w (.slice am wn cm) (.slice ae d.body.aA.length ce) d.body) :
  Calls Tryz.prog 52 #[.pointer (some ⟨lb,0,none⟩),.agg (jB d ap cp ac cc am wn cm ae ce)] w (yS C lb im (Aa E f d) w):=by
 have hal:=(aB w (.cells (jB d ap cp ac cc am wn cm ae ce) 66)).alloc (by simp) (.cells #[.slice none 0 0] 107);have g0:=(gY (w.alloc (.cells (jB d ap cp ac cc am wn cm ae ce) 66)) (.cells #[.slice none 0 0] 107) w.heap.size (by simp)).trans (aY w (.cells (jB d ap cp ac cc am wn cm ae ce) 66));have g1:=aY (w.alloc (.cells (jB d ap cp ac cc am wn cm ae ce) 66)) (.cells #[.slice none 0 0] 107);rw[oP] at g1;obtain⟨ae',ce',hv,_,hform⟩:=hP.form;simp only[Value.slice.injEq] at hv;obtain⟨rfl,-,rfl⟩:=hv;have hlw:=hL.lt;have hL1:=hL.below hal;have HF:=ay hform;have HL0:=ay hL;have HM0:=ay hM;have HFO:=ay hf;have FC:=ay hfit;have YP:=ay hC;have HE0:=ay hE;have hpn:=hfit.lg;clear hL hM hf hform hP hC hE hfit
 obtain⟨R,hR⟩:∃ R,R=Aa E f d:=⟨_,rfl⟩
 rw[← hR];have BD:=ay hR;clear hR;go_enter Tryz.func52,Tryz.ntmps52
 go_upto_region 2 with fail
 change Code.wp _ _ _ _ ((w.alloc (.cells (jB d ap cp ac cc am wn cm ae ce) 66)).alloc (.cells #[.slice none 0 0] 107));generalize (w.alloc (.cells (jB d ap cp ac cc am wn cm ae ce) 66)).alloc (.cells #[.slice none 0 0] 107)=w1 at *;have hz1:=hal.size;have hl1:=(bS g1).1;have hk1:=dK.of hal hlw;obtain⟨y0,y1,y2,y3,y4,y5,y6,y7,y8,y9,rA,rC,rD,y13,VN⟩:=bB g0;have Y8:=ay hL1;have HG:=ay (And.intro g0 g1);clear hL1 g0 g1;generalize hps:d.params=ps at *;go_wp2;clear y0 y1 y2 y3 y4 y5 y6 y7 y8 y9 rA rC rD y13 VN
 go_loopw [6,10] (fun _ q wr=>∃ (k:Nat) (ab:Option Addr) (cb:Nat) (bd:List (List UInt8)) (fk:Fl),k≤ps.length∧q=.int .i64 k∧lC E ([],f) (ps.take k)=(bd,fk)∧l8 C lb im fk wr∧wr.heap[w.heap.size]?=some (.cells (jB d ap cp ac cc am wn cm ae ce) 66 (0,0))∧wr.heap[w.heap.size+1]?=some (.cells #[.slice ab bd.length cb] 107 (0,0))∧gD (fun b=>b≠lb∧b≠w.heap.size+1) wr (.slice ab bd.length cb) bd∧bd.Pairwise (· < ·)∧dK lb w wr) (fun _ q _=>ps.length - (intOf q).toNat)
 case atStart=>exact⟨0,none,0,[],f,lI _,rfl,rfl,Y8.out,HG.out.1,HG.out.2,gD.nil _ _,List.Pairwise.nil,hk1⟩
 case round =>
  obtain⟨k,ab,cb,bd,fk,hk,rfl,hsc,hlr,gd,gv,htr,hrr,hkr⟩:=hrel;have Fv:=hkr.2.1;have Dq:=ay hlr;have HSC:=ay hsc;have hbl:=FB E (ps.take k) ([],f);rw[hsc,qZ] at hbl;have KN:=BG E (ps.take k) ([],f) HFO.out;rw[hsc] at KN;have HFK:=ay KN
  have hbd:bd.length≤1000:=by simp only[gX] at hbl;omega
  have hdl:=(bS gd).1;have hvl:=(bS gv).1;have hMr:=HM0.out.keep HL0.out hkr.2;have HMR:=ay hMr;have HGD:=ay gd;have HGV:=ay gv;have QF:=ay htr;have HRR:=ay hrr;clear hlr hsc hbl KN hMr gd gv htr hrr
  by_cases hlt:k<ps.length
  ·obtain⟨b,off,rfl,hPb,hbw,kL⟩:=HF.out (by omega)
   obtain⟨cv,hcl,hc⟩:=kL k hlt;obtain⟨a2,c2,rfl⟩:=RowK.slice hcl
   have mW:∀ (j:Nat) (u:Value),w.cell? ⟨b,off+k * 5+j,none⟩=some u→wr.cell? ⟨b,off+k * 5+j,none⟩=some u:=fun j u h=>(World.cell?_of_block (a:=⟨b,off+k * 5+j,none⟩) (hkr.2.2 b hPb hbw)).trans h
   have x0:=mW 0 _ (hc 0 _ rfl);have x1:=mW 1 _ (hc 1 _ rfl);have x2:=mW 2 _ (hc 2 _ rfl);have x3:=mW 3 _ (hc 3 _ rfl);have x4:=mW 4 _ (hc 4 _ rfl);rw[Nat.add_zero] at x0;simp only[dJ] at x0;have hsn:=Ot E ([],f) hlt;rw[HSC.out] at hsn;have hpf:=FC.out.pcl _ (by rw[hps];exact mX hlt);have qx:=ay hsn;have HPF:=ay hpf;have AU:=ay hcl;clear kL hcl hc mW hsn hpf;generalize ps[k]=p at *;have gW:=aB wr (.cells #[.string ⟨p.name.toArray⟩,.int .i64 p.base,.slice a2 p.aC.length c2,.int .i64 p.at_,.int .i64 p.bare] 68);have gk:=aY wr (.cells #[.string ⟨p.name.toArray⟩,.int .i64 p.base,.slice a2 p.aC.length c2,.int .i64 p.at_,.int .i64 p.bare] 68)
   have pR:(k:Int)<(ps.length:Int):=by omega
   have VK:lb<wr.heap.size:=Dq.out.lt
   go_upto_region 5 with fail
   change Code.wp _ _ _ _ (wr.alloc (.cells #[.string ⟨p.name.toArray⟩,.int .i64 p.base,.slice a2 p.aC.length c2,.int .i64 p.at_,.int .i64 p.bare] 68));clear x0 x1 x2 x3 x4
   have ads:wr.heap.size<(wr.alloc (.cells #[.string ⟨p.name.toArray⟩,.int .i64 p.base,.slice a2 p.aC.length c2,.int .i64 p.at_,.int .i64 p.bare] 68)).heap.size:=by simp
   generalize wr.alloc (.cells #[.string ⟨p.name.toArray⟩,.int .i64 p.base,.slice a2 p.aC.length c2,.int .i64 p.at_,.int .i64 p.bare] 68)=w3 at *;have hz3:=gW.size;have hL3:=Dq.out.below gW;have gd3:=(gW.block _ hdl).trans HGD.out;have gv3:=(gW.block _ hvl).trans HGV.out;obtain⟨p0,p1,p2,p3,p4⟩:=dX gk;obtain⟨q0,qz⟩:=bL gv3;have Pz:=ay hL3;have aeY:=ay gd3;have adt:=ay gv3;have HGK:=ay gk;have XO:=QF.out.below gW;have HT3:=ay XO;have HH:=ay (Dj _ ab cb bd ⟨p.name.toArray⟩ w3 XO HRR.out (by omega));simp only at HH
   obtain⟨m,hm⟩:∃ m,m=decide (p.name∈bd):=⟨_,rfl⟩
   rw[← hm] at HH;have wD:=ay hm
   obtain⟨f1,hf1⟩:∃ f1,f1=nR fk (if p.name∈bd then some (30,p.at_) else none):=⟨_,rfl⟩
   have Jl:=ay hf1;clear hm hf1 hL3 gd3 gv3 gk XO;clear p0 p1 p2 p3 p4 q0 qz;obtain⟨p0,p1,p2,p3,p4⟩:=dX HGK.out;obtain⟨q0,-⟩:=bL adt.out
   go_upto_if 17 with (go_at_call 54;refine HH.out.mono ?_;rintro e w4 ⟨rfl,hb4⟩)
   clear p0 p1 p2 p3 p4 q0;have zF:=hb4.size;have aeZ:=ay ((hb4.block _ (by omega)).trans aeY.out);have ae0:=ay ((hb4.block _ (by omega)).trans adt.out);have adu:=ay ((hb4.block _ ads).trans HGK.out);have HL4:=ay (Pz.out.below hb4);have HT4:=ay (HT3.out.below hb4);have hk4:dK lb w w4:=hkr.trans (dK.of (gW.trans (hb4.mono hz3)) VK);obtain⟨p0,p1,p2,p3,p4⟩:=dX adu.out
   have hne1:w.heap.size≠lb:=by omega
   have hne2:w.heap.size+1≠lb:=by omega
   have RD:wr.heap.size≠lb:=by omega
   have ae1:wr.heap.size≠w.heap.size+1:=by omega
   clear aeY adt HGK Pz HT3 HH HGD HGV QF Dq
   go_cut [] (fun wc=>l8 C lb im f1 wc∧dK lb w4 wc)
   case first =>
    cases m with
    | true =>
     have HE:Hid (f1=nR fk (some (30,p.at_))):=ay (by rw[Jl.out,if_pos (of_decide_eq_true wD.out.symm)]);have TA:=ay (xw C lb im fk 30 p.at_ w4 HL4.out HFK.out);clear wD Jl;go_wp2_with (go_at_call 50;refine TA.out.mono ?_;rintro e w5 ⟨rfl,hl5,lM⟩)
     go_meet
     exact⟨by rw[HE.out];exact hl5,lM⟩
    | false =>
     have HE:Hid (f1=fk):=ay (by rw[Jl.out,if_neg (of_decide_eq_false wD.out.symm),pF]);clear wD Jl;go_wp2
     go_meet
     exact⟨by rw[HE.out];exact HL4.out,dK.refl _ _⟩
   case rest =>
    obtain⟨hl5,lM⟩:=hcut
    obtain⟨w5,rfl⟩:∃ w5:World,w5=wc:=⟨_,rfl⟩
    clear p0 p1 p2 p3 p4;have SH:=lM.2.1;have gd5:=(lM.2.2 _ hne1 (by omega)).trans aeZ.out;have gv5:=(lM.2.2 _ hne2 (by omega)).trans ae0.out;have gk5:=(lM.2.2 _ RD (by omega)).trans adu.out;have hT5:=HT4.out.frame (⟨lM.2.1,fun b hb hl=>lM.2.2 b hb.1 hl⟩:aW (fun b=>b≠lb∧b≠w.heap.size+1) w4 w5);have Nf:=hk4.trans lM;have hb6:Below w5.heap.size w5 (w5.alloc (.cells #[.string ⟨p.name.toArray⟩] 9)):=aB w5 _;have hsl:=sJ (bd++[p.name]);rw[bN,List.length_singleton] at hsl;have HW:=ay (Fw (fun _=>True) ab cb (.slice (some ⟨w5.heap.size,0,none⟩) 1 1) bd [p.name] (w5.alloc (.cells #[.string ⟨p.name.toArray⟩] 9)) ((hT5.below (aB w5 _)).imp fun _ _ _=>trivial) (KM w5 p.name) (by omega) (by simp))
    have hstep:lC E ([],f) (ps.take (k+1))=(fH (bd++[p.name]),nR f1 (bZ E (fH (bd++[p.name])) false p.aC)):=by rw[qx.out,Jl.out];rfl
    have ae3:=ay hstep;have HSR:=ay (vD (bd++[p.name]))
    have Ox:iH f1:=by rw[Jl.out];exact HFK.out.or (by split;exact iH.some (by decide);exact iH.none)
    have VJ:=ay Ox;have VO:=ay hl5;have Zc:=ay gd5;have ae4:=ay gv5;have ae5:=ay gk5;obtain⟨p0,p1,p2,p3,p4⟩:=dX gk5;obtain⟨q0,qz⟩:=bL gv5;have ahH:lb<w5.heap.size:=hl5.lt;clear hstep Ox hl5 gd5 gv5 gk5 aeZ ae0 adu HL4 HT4 hT5 qx Jl wD;generalize fH (bd++[p.name])=S at *
    go_upto_region 8 with (go_at_call 55;refine HW.out.mono ?_;rintro e w6 ⟨a6,c6,rfl,ht6,agn⟩;have sD:=hb6.trans (agn.mono (by simp));have gv6:=(sD.block _ (by omega)).trans ae4.out;have hfz:=(bL gv6).2;have hc0:=(bL gv6).1)
    have hz6:=sD.size;have gv7:=heap_setCell_same w6 (w.heap.size+1) 0 _ _ (.slice a6 S.length c6) gv6;have hL7:l8 C lb im f1 (w6.setCell ⟨w.heap.size+1,0,none⟩ (.slice a6 S.length c6)):=(heap_setCell_other _ _ _ _ (Ne.symm hne2)).trans (VO.out.below sD);have gd7:=(heap_setCell_other w6 ⟨w.heap.size+1,0,none⟩ w.heap.size (.slice a6 S.length c6) (by show w.heap.size≠w.heap.size+1;omega)).trans ((sD.block _ (by omega)).trans Zc.out);have gk7:=(heap_setCell_other w6 ⟨w.heap.size+1,0,none⟩ wr.heap.size (.slice a6 S.length c6) (by show wr.heap.size≠w.heap.size+1;omega)).trans ((sD.block _ (by omega)).trans ae5.out);have KO:Below w.heap.size w5 (w6.setCell ⟨w.heap.size+1,0,none⟩ (.slice a6 S.length c6)):=(sD.mono (by omega)).setCell (by show w.heap.size≤w.heap.size+1;omega) _;have abR:dK lb w (w6.setCell ⟨w.heap.size+1,0,none⟩ (.slice a6 S.length c6)):=Nf.low KO hlw
    have Zd:gD (fun b=>b≠lb∧b≠w.heap.size+1) (w6.setCell ⟨w.heap.size+1,0,none⟩ (.slice a6 S.length c6)) (.slice a6 S.length c6) S:=(ht6.frame (aW.set _ fun b hb=>by have:=hb6.size;show b≠w.heap.size+1;omega)).imp fun b hb _=>by have:=hb6.size;exact⟨by omega,by omega⟩
    have HCA:=ay (CK E C lb B im f1 a2 c2 p.aC a6 c6 S false _ hL7 (HM0.out.keep HL0.out abR.2) VJ.out (RowK.frame AU.out abR.2) (Zd.imp fun b hb _=>hb.1) HSR.out (fun e he=>by have:=HPF.out.2 e he;omega) (by have:=HPF.out.1;omega));clear p0 p1 p2 p3 p4 q0 qz hfz hc0;generalize w6.setCell _ _=w7 at *;obtain⟨p0,p1,p2,p3,p4⟩:=dX gk7;obtain⟨q0,-⟩:=bL gv7;have hz7:=abR.2.1;have agp:=ay gd7;have agq:=ay gv7;have HT7:=ay Zd;have hd7:=(bS gd7).1;have hv7:=(bS gv7).1;clear gk7 gd7 gv7 Zd hL7 gv6 VO Zc ae4 ae5 HW ht6;go_wp2_with (go_at_call 80;refine HCA.out.mono ?_;rintro e w8 ⟨rfl,hl8,CY⟩)
    go_roundw
    case rel=>exact⟨k+1,a6,c6,S,nR f1 (bZ E S false p.aC),by omega,by go_num,ae3.out,hl8,(CY.2.2 _ hne1 hd7).trans agp.out,(CY.2.2 _ hne2 hv7).trans agq.out,HT7.out.frame ⟨CY.2.1,fun b hb hl=>CY.2.2 b hb.1 hl⟩,HSR.out,abR.trans CY⟩
    case measure=>simp[intOf];omega
  ·obtain rfl:k=ps.length:=by omega
   have pR:decide ((ps.length:Int)<(ps.length:Int))=false:=dA (by omega);have hsc2:=HSC.out;rw[List.take_length,← hps] at hsc2
   have hne1:w.heap.size≠lb:=by omega
   have hne2:w.heap.size+1≠lb:=by omega
   have HCA:=ay (CK E C lb B im fk ac cc d.res.aC ab cb bd true wr Dq.out HMR.out HFK.out (RowK.frame YP.out hkr.2) (QF.out.imp fun b hb _=>hb.1) HRR.out (fun e he=>by have:=FC.out.cl.2 e he;omega) (by have:=FC.out.cl.1;omega));have ae6:iH (nR fk (bZ E bd true d.res.aC)):=HFK.out.or (qU E _ _ _);have HF2:=ay ae6;have HD2:Hid (R=nR (nR fk (bZ E bd true d.res.aC)) (d.body.eO E bd false)):=ay (by rw[BD.out,Aa,hsc2]);obtain⟨y0,y1,y2,y3,y4,y5,y6,y7,y8,y9,rA,rC,rD,y13,VN⟩:=bB HGD.out;obtain⟨q0,-⟩:=bL HGV.out;clear hsc2 ae6 HSC
   go_upto_region 11 with (go_at_call 80;refine HCA.out.mono ?_;rintro e w8 ⟨rfl,hl8,CY⟩)
   clear y0 y1 y2 y3 y4 y5 y6 y7 y8 y9 rA rC rD y13 VN q0;have gd8:=(CY.2.2 _ hne1 hdl).trans HGD.out;have gv8:=(CY.2.2 _ hne2 hvl).trans HGV.out;obtain⟨y0,y1,y2,y3,y4,y5,y6,y7,y8,y9,rA,rC,rD,y13,VN⟩:=bB gd8;obtain⟨q0,-⟩:=bL gv8;have HEX:=ay (BF d.body E C lb B im (nR fk (bZ E bd true d.res.aC)) am wn cm ae ce ab cb bd false w8 hl8 (HMR.out.keep Dq.out CY.2) HF2.out (nL.frame (hkr.trans CY).2 HE0.out) ((QF.out.frame ⟨CY.2.1,fun b hb hl=>CY.2.2 b hb.1 hl⟩).imp fun b hb _=>hb.1) HRR.out (by have:=FC.out.body;omega));unfold aQ at HEX;rw[← HD2.out] at HEX;clear gd8 gv8 hl8 HCA;go_wp2_with (go_at_call 81;refine HEX.out.mono ?_;rintro e w9 ⟨rfl,hl9,XL⟩)
   go_end0
   exact⟨rfl,hl9,(hkr.trans CY).trans XL⟩
theorem wE {base:Int}{ks:List PZ}(h:lG base ks=true):(base=1∨base=2)∧ks.length≤1∧∀ e∈ks,e.right true=true:=by
 unfold lG at h;simp only[Bool.and_eq_true,Bool.or_eq_true,decide_eq_true_eq] at h;exact⟨h.1,h.2.1,fun e he=>vQ.1 h.2.2 e he⟩
def Ze (f:FuncId)(lb:Array Value)(B' b:Nat)(w:World)(x:ZF):Prop:=∀ (acc:List UInt8) (W:World) (ac:Option Addr) (cc:Nat),iD w B' b acc W→kK B' W ac x.aC→acc.length+x.text.length≤1099511627776 →
 Calls Tryz.prog f (#[.agg #[.string ⟨x.name.toArray⟩,.int .i64 x.base,.slice ac x.aC.length cc,.int .i64 x.at_,.int .i64 x.bare]]++lb) W (bQ B' b (acc++x.text) W)
theorem Zf (x:ZF)(hr:x.right=true)(hf:x.fit)(B' b tb:Nat)(acc0:List UInt8)(w:World)(hb0:jY B' b acc0 w 151)(ht:w.heap[tb]?=some (.cells #[.pointer (some ⟨b,0,none⟩)] 145 (0,0)))(hB:B'≤w.heap.size) :
  Ze 211 #[.pointer (some ⟨tb,0,none⟩)] B' b w x:=by
 intro acc W ac cc st hE hn;rw[ZF.right,Bool.and_eq_true] at hr;obtain⟨qR,hk1,hkr⟩:=wE hr.2;have hT:=st.box hb0 ht (by decide) (by decide);have hal:=aB W (.cells #[.string ⟨x.name.toArray⟩,.int .i64 x.base,.slice ac x.aC.length cc,.int .i64 x.at_,.int .i64 x.bare] 68);have hN:=aY W (.cells #[.string ⟨x.name.toArray⟩,.int .i64 x.base,.slice ac x.aC.length cc,.int .i64 x.at_,.int .i64 x.bare] 68);have hBW:=jc hB st.kM.size;have hT1:=(hal.block tb (bS hT).1).trans hT;have s1:=(iD.start st.lu).below hal hBW;have hE1:=hE.below hal;have hB1:=jc hBW hal.size;have HTY:=ay (fun (a:List UInt8) (V:World) hk hbd TB hl=>Fp x.base qR x.aC B' B' b ac cc a V (fun e he=>xu _ e (Nat.lt_succ_self _) (hkr e he) (hf.2.2 e he)) hk (bD _) hbd TB hl (by omega))
 have htx:acc++x.text=(acc++(x.name++[58,32]))++kN x.base x.aC:=by rw[ZF.text];simp[nQ]
 have hln:acc.length+x.name.length+2+(kN x.base x.aC).length≤1099511627776:=by
  have:=congrArg List.length htx;simp only[bN,dR,gX] at this;omega
 rw[htx];have eN:(ByteArray.mk x.name.toArray).data.toList=x.name:=rfl
 have eN2:(ByteArray.mk x.name.toArray).size=x.name.length:=by show x.name.toArray.size=_;simp
 have HE1:=ay hE1;show Calls _ _ #[_,_] _ _;clear hE hn st hT ht hb0 hr hkr hf htx hE1;generalize kN x.base x.aC=ty at *;go_enter Tryz.func211,Tryz.ntmps211
 go_upto_region 1 with fail
 change Code.wp _ _ _ _ (W.alloc (.cells #[.string ⟨x.name.toArray⟩,.int .i64 x.base,.slice ac x.aC.length cc,.int .i64 x.at_,.int .i64 x.bare] 68));generalize W.alloc _=w1 at hal hN hT1 s1 HE1 hB1 ⊢;obtain⟨y0,y1,y2,y3,y4⟩:=dX hN
 have yt:w1.cell? ⟨tb,0,none⟩=some (.pointer (some ⟨b,0,none⟩)):=by rw[aV hT1];rfl
 have HW:=ay (xg ⟨x.name.toArray⟩ ⟨#[58,32]⟩ B' b acc w1 s1.lu hB1 (by rw[eN2];show _+2≤_;omega));have GH:=ay s1;have HN:=ay hN;have HT1:=ay hT1;clear hN hT1 s1 eN eN2
 go_upto_region 2 with (go_at_call 123;refine HW.out.mono ?_;rintro r w2 h2;obtain rfl:=h2.eq)
 have s2:=(iD.start GH.out.lu).write h2;have hz2:=s2.kM.size;clear y0 y1 y2 y3 y4 yt;obtain⟨y0,y1,y2,y3,y4⟩:=dX (s2.box GH.out.lu HN.out (by decide) (by decide))
 have yt:w2.cell? ⟨tb,0,none⟩=some (.pointer (some ⟨b,0,none⟩)):=by rw[aV (s2.box GH.out.lu HT1.out (by decide) (by decide))];rfl
 have HY:=ay (HTY.out (acc++(x.name++[58,32])) w2 (HE1.out.ru s2.kM) s2.lu (by omega) (by simp only[bN,dR,gX];omega));have HS2:=ay s2;clear HTY HW h2 s2 HN HT1 HE1;go_wp2_with (go_at_call 71;refine HY.out.mono ?_;rintro r w3 h3;obtain rfl:=h3.eq)
 go_end0
 exact bQ.from hal hBW (HS2.out.write h3)
theorem VP (f:FuncId)(lb:Array Value)(eg:∀ args w,(callFunc f args).run Tryz.prog w=.ok (.enter f args) w)(ks:List ZF)(B B' b:Nat)(ae:Option Addr)(ce:Nat)(acc:List UInt8)(w:World)(hk:∀ x∈ks,Ze f lb B' b w x)(h:CF B w ae ks)(mM:B≤B')(hbd:jY B' b acc w 151)(hB:B'≤w.heap.size)(hn:acc.length+(bM (ks.map ZF.text)).length≤1099511627776)(hkl:ks.length≤1000000) :
  Calls Tryz.prog 210 #[.pointer (some ⟨b,0,none⟩),.slice ae ks.length ce,.func (.func f) #[] lb] w (bQ B' b (acc++bM (ks.map ZF.text)) w):=by
 have HH:=ay h;have HK:=ay hk;have HB:=ay hbd;clear h hk hbd;go_enter Tryz.func210,Tryz.ntmps210;go_wp2
 go_loopw [6,10] (fun _ q wr=>∃ k:Nat,k≤ks.length∧q=.int .i64 k∧iD w B' b (acc++bM ((ks.map ZF.text).take k)) wr) (fun _ q _=>ks.length - (intOf q).toNat)
 case atStart=>exact⟨0,lI _,rfl,by simpa [bM] using iD.start HB.out⟩
 case round =>
  obtain⟨k,hkk,rfl,st⟩:=hrel;have hz:=st.kM.size
  by_cases hlt:k<ks.length
  ·have hlm:k<(ks.map ZF.text).length:=by simpa using hlt
   have hts:(ks.map ZF.text).take (k+1)=(ks.map ZF.text).take k++[ks[k].text]:=by rw[Dg hlm];simp
   have hsn:=r9 ((ks.map ZF.text).take k) ks[k].text;rw[← hts] at hsn;have hle:=Bu ((ks.map ZF.text).take (k+1)) ((ks.map ZF.text).drop (k+1));rw[List.take_append_drop] at hle
   have hnil:((ks.map ZF.text).take k=[])↔k=0:=by
    constructor
    ·intro q
     have:=congrArg List.length q;rw[qZ,gX] at this;omega
    ·rintro rfl;rfl
   simp only[hnil] at hsn;have HD:=ay (HK.out _ (mX hlt));obtain⟨kb,off,rfl,hkB,hkw,kL⟩:=HH.out.ru (st.kM.mono mM) (by omega);obtain⟨ac,cc,hE,x0,x1,x2,x3,x4⟩:=kL k hlt;have qx:=ay hsn;have HST:=ay st
   have hc0:k=0→bM ((ks.map ZF.text).take k)=[]:=by rintro rfl;rfl
   have YP:=ay hc0;clear hsn hts hlm hnil st hc0 kL;generalize bM ((ks.map ZF.text).take k)=c at qx HST YP;generalize hcc:bM ((ks.map ZF.text).take (k+1))=c2 at hle qx;have HCC:=ay hcc;clear hcc;generalize ks[k]=x at *
   have pR:(k:Int)<(ks.length:Int):=by omega
   have hln:acc.length+c2.length≤1099511627776:=by omega
   have hal:=aB wr (.cells #[.string ⟨x.name.toArray⟩,.int .i64 x.base,.slice ac x.aC.length cc,.int .i64 x.at_,.int .i64 x.bare] 68);have hN:=aY wr (.cells #[.string ⟨x.name.toArray⟩,.int .i64 x.base,.slice ac x.aC.length cc,.int .i64 x.at_,.int .i64 x.bare] 68);have s1:=HST.out.below hal hB
   have hE1:kK B' (wr.alloc (.cells #[.string ⟨x.name.toArray⟩,.int .i64 x.base,.slice ac x.aC.length cc,.int .i64 x.at_,.int .i64 x.bare] 68)) ac x.aC:=fun h0=>by
    obtain⟨q,o,q1,q2,q3,q4⟩:=hE.below hal h0;refine⟨q,o,q1,by omega,q3,fun i hi=>?_⟩;obtain⟨Lr,wn',Ls,Kv,Kw,q5,q6⟩:=q4 i hi;exact⟨Lr,wn',Ls,Kv,Kw,q5.imp fun b hb _=>by omega,q6⟩
   clear hle hE
   go_upto_region 3 with fail
   change Code.wp _ _ _ _ (wr.alloc (.cells #[.string ⟨x.name.toArray⟩,.int .i64 x.base,.slice ac x.aC.length cc,.int .i64 x.at_,.int .i64 x.bare] 68));clear x0 x1 x2 x3 x4;generalize wr.alloc _=w1 at hal hN s1 hE1 ⊢;have hz1:=hal.size
   by_cases h0:k=0
   ·have YQ:Hid (c2=x.text):=ay (by rw[qx.out,if_pos h0])
    have hc0:=YP.out h0;subst hc0;rw[List.append_nil] at s1;have HX:=ay (HD.out acc w1 ac cc s1 hE1 (by rw[← YQ.out];exact hln));have zB:Hid (bM ((ks.map ZF.text).take (k+1))=c2):=HCC;have GH:=ay s1;obtain⟨y0,y1,y2,y3,y4⟩:=dX hN
    have abN:(k:Int)≤0:=by omega
    clear qx HST HD hal hN s1 hE1 YP HCC h0;go_wp2_with (go_at_fn f;refine HX.out.mono ?_;rintro r w3 h3;obtain rfl:=h3.eq);refine⟨⟨k+1,by omega,by go_num,?_⟩,by simp[intOf];omega⟩;rw[zB.out,YQ.out];exact GH.out.write h3
   ·have YQ:Hid (c2=c++[44,32]++x.text):=ay (by rw[qx.out,if_neg h0])
    have hl2:acc.length+c.length+2+x.text.length≤1099511627776:=by
     have:=congrArg List.length YQ.out;simp only[bN,dR,gX] at this;omega
    have abN:(0:Int)<(k:Int):=by omega
    have zB:Hid (bM ((ks.map ZF.text).take (k+1))=c2):=HCC;clear h0 qx YP HCC hln
    go_upto_region 5 with (go_at_call 123;refine(dO ⟨#[44,32]⟩ B' b (acc++c) w1 s1.lu (by omega) (by show (acc++c).length+2≤_;rw[bN];omega)).mono ?_;rintro r w2 h2;obtain rfl:=h2.eq)
    have s2:=s1.write h2;obtain⟨y0,y1,y2,y3,y4⟩:=dX (s1.lu.block h2.2.2.2 hN (by decide) (by decide));have HX:=ay (HD.out (acc++c++[44,32]) w2 ac cc s2 (hE1.ru h2.2.2.1) (by simp only[bN,dR,gX];omega));have GH:=ay s2;clear HST HD hal hN s1 hE1 s2 h2;go_wp2_with (go_at_fn f;refine HX.out.mono ?_;rintro r w3 h3;obtain rfl:=h3.eq);refine⟨⟨k+1,by omega,by go_num,?_⟩,by simp[intOf];omega⟩;have:=GH.out.write h3;rw[zB.out,YQ.out]
    simpa [nQ] using this
  ·obtain rfl:k=ks.length:=by omega
   have pR:decide ((ks.length:Int)<(ks.length:Int))=false:=dA (by omega);rw[show (ks.map ZF.text).take ks.length=ks.map ZF.text by rw[Au (by simp)]] at st;have HST:=ay st;clear st;go_wp2
   go_end0
   exact⟨rfl,HST.out.lu,HST.out.kM,HST.out.kept⟩
theorem Zg (d:ZD)(hs:d.sound=true)(hf:d.fit)(B B' b:Nat)(ap:Option Addr)(cp:Nat)(ac:Option Addr)(cc:Nat)(am:Option Addr)(wn cm:Nat)(ae:Option Addr)(ce:Nat)(acc:List UInt8)(w:World)(h:Db d B ap cp ac cc am wn cm ae ce w)(mM:B≤B')(hbd:jY B' b acc w 151)(hB:B'≤w.heap.size)(hn:acc.length+d.text.length≤1099511627776) :
  Calls Tryz.prog 131 #[.pointer (some ⟨b,0,none⟩),.agg #[.bool d.pub,.string ⟨d.res.name.toArray⟩,.slice ap d.params.length cp,.int .i64 d.res.base,.slice ac d.res.aC.length cc,.int .i64 d.body.op,.string ⟨d.body.name.toArray⟩,.string ⟨d.body.module.toArray⟩,.bool (decide (d.body.num<0)),.slice am wn cm,.bool d.body.yes,.slice ae d.body.aA.length ce,.int .i64 d.body.at_,.int .i64 d.res.at_,.int .i64 d.res.bare]] w (bQ B' b (acc++d.text) w):=by
 obtain⟨f1,f2,f3,f4⟩:=hf;have hs':=hs;rw[ZD.sound] at hs';simp only[Bool.and_eq_true,decide_eq_true_eq,Bool.not_eq_true',List.any_eq_false] at hs';obtain⟨hs1,hs2,hs3,hs4,hs5⟩:=hs'
 have hpr:∀ x∈d.params,x.right=true:=fun x hx=>by have:=hs3 x hx;simpa using this
 obtain⟨qR,hk1,hkr⟩:=wE hs4
 obtain⟨pb,hpb⟩:∃ l,l=if d.pub=true then [112,117,98,32] else ([]:List UInt8):=⟨_,rfl⟩
 have eNz:(ByteArray.mk d.res.name.toArray).size=d.res.name.length:=by show d.res.name.toArray.size=_;simp
 have hout:acc++d.text=acc++pb++([102,117,110,32]++(d.res.name++[40]))++bM (d.params.map ZF.text)++[41,58,32]++kN d.res.base d.res.aC++[32,61,32]++d.body.text++[59,10]:=by
  rw[ZD.text,← hpb];simp[nQ]
 have hal:=(aB w (.cells #[.pointer (some ⟨b,0,none⟩)] 145)).alloc (by simp) (.cells (jB d ap cp ac cc am wn cm ae ce) 66);have hT:=(gY (w.alloc (.cells #[.pointer (some ⟨b,0,none⟩)] 145)) (.cells (jB d ap cp ac cc am wn cm ae ce) 66) w.heap.size (by simp)).trans (aY w (.cells #[.pointer (some ⟨b,0,none⟩)] 145));have hN:=aY (w.alloc (.cells #[.pointer (some ⟨b,0,none⟩)] 145)) (.cells (jB d ap cp ac cc am wn cm ae ce) 66);rw[oP] at hN;have hb1:=hbd.l7 hal;have xH:=hal.mono hB;have hB1:=jc hB hal.size;have h1:=h.below hal;have ent:=enters_of Tryz.func211 (by kernel_rfl) rfl
 have hL:=fun (a:List UInt8) (V:World) (w1:World) (hV:Below B' w1 V) (h1:Db d B ap cp ac cc am wn cm ae ce w1) (hbv:jY B' b a V 151) (ht:V.heap[w.heap.size]?=some (.cells #[.pointer (some ⟨b,0,none⟩)] 145 (0,0))) (TB:B'≤V.heap.size) (hl:a.length+(bM (d.params.map ZF.text)).length≤1099511627776)=>VP 211 #[.pointer (some ⟨w.heap.size,0,none⟩)] ent d.params B B' b ap cp a V (fun x hx=>Zf x (hpr x hx) (f2 x hx) B' b w.heap.size a V hbv ht TB) (h1.ru (hV.mono mM)).lg mM hbv TB hl f1
 have hTY:=fun (a:List UInt8) (V:World) (w1:World) (hV:Below B' w1 V) (h1:Db d B ap cp ac cc am wn cm ae ce w1) (hbv:jY B' b a V 151) (TB:B'≤V.heap.size) (hl:a.length+(kN d.res.base d.res.aC).length≤1099511627776)=>Fp d.res.base qR d.res.aC B B' b ac cc a V (fun e he=>xu _ e (Nat.lt_succ_self _) (hkr e he) (f3.2.2 e he)) (h1.ru (hV.mono mM)).cl mM hbv TB hl (by omega)
 have hXP:=fun (a:List UInt8) (V:World) (w1:World) (hV:Below B' w1 V) (h1:Db d B ap cp ac cc am wn cm ae ce w1) (hbv:jY B' b a V 151) (TB:B'≤V.heap.size) (hl:a.length+d.body.text.length≤1099511627776)=>xu _ d.body (Nat.lt_succ_self _) hs5 f4 B B' b am wn cm ae ce a V (h1.ru (hV.mono mM)).body mM hbv TB hl
 have hlen:acc.length+d.text.length=acc.length+pb.length+(4+(d.res.name.length+1))+(bM (d.params.map ZF.text)).length+3+(kN d.res.base d.res.aC).length+3+d.body.text.length+2:=by
  have:=congrArg List.length hout;simp only[bN,dR,gX] at this;omega
 have ahI:pb.length≤4:=by rw[hpb];split<;>simp
 rw[hlen] at hn;have ae7:=ay hout;clear hout hlen hs hs1 hs2 hs3 hs4 hs5 hpr hkr f1 f2 f3 f4 ent h;generalize bM (d.params.map ZF.text)=PD at *;generalize kN d.res.base d.res.aC=ty at *;generalize d.body.text=bt at *;go_enter Tryz.func131,Tryz.ntmps131
 go_upto_region 1 with fail
 change Code.wp _ _ _ _ ((w.alloc (.cells #[.pointer (some ⟨b,0,none⟩)] 145)).alloc (.cells (jB d ap cp ac cc am wn cm ae ce) 66));generalize (w.alloc _).alloc _=w1 at hal hT hN hb1 xH hB1 h1 ⊢;have HL:=ay (fun a V hV hbv ht TB hl=>hL a V w1 hV h1 hbv ht TB hl);have HTY:=ay (fun a V hV hbv TB hl=>hTY a V w1 hV h1 hbv TB hl);have HXP:=ay (fun a V hV hbv TB hl=>hXP a V w1 hV h1 hbv TB hl);have HB1:=ay hb1;have HN:=ay hN;have HT:=ay hT;have HPB:=ay hpb;have GH:=ay (iD.start hb1);clear hL hTY hXP hN hT hb1 h1 hpb
 have hrest:∀ (w2:World),iD w1 B' b (acc++pb) w2→True:=fun _ _=>trivial
 clear hrest;obtain⟨y0,y1,y2,y3,y4,y5,y6,y7,y8,y9,rA,rC,rD,-⟩:=bB HN.out
 have yt:w1.cell? ⟨w.heap.size,0,none⟩=some (.pointer (some ⟨b,0,none⟩)):=by rw[aV HT.out];rfl
 cases hpu:d.pub with
 | true =>
  have KP:Hid (pb=[112,117,98,32]):=ay (by rw[HPB.out,hpu];rfl);rw[hpu] at y0;have HW:=ay (dO ⟨#[112,117,98,32]⟩ B' b acc w1 GH.out.lu hB1 (by show acc.length+4≤_;omega));clear hpu HPB
  go_upto_region 3 with (go_at_call 123;refine HW.out.mono ?_;rintro r w2 h2;obtain rfl:=h2.eq)
  have ae8:=ay (GH.out.write h2);have HS2:Hid (iD w1 B' b (acc++pb) w2):=ay (by rw[KP.out];exact ae8.out);clear y0 y1 y2 y3 y4 y5 y6 y7 y8 y9 rA rC rD yt HW h2 ae8 KP;obtain⟨y0,y1,y2,y3,y4,y5,y6,y7,y8,y9,rA,rC,rD,-⟩:=bB (HS2.out.box HB1.out HN.out (by decide) (by decide))
  have yt:w2.cell? ⟨w.heap.size,0,none⟩=some (.pointer (some ⟨b,0,none⟩)):=by rw[aV (HS2.out.box HB1.out HT.out (by decide) (by decide))];rfl
  have hz2:=HS2.out.kM.size;have HW:=ay (show Calls _ _ _ _ (bQ B' b (acc++pb++([102,117,110,32]++(d.res.name++[40]))) w2) from xq ⟨#[102,117,110,32]⟩ ⟨d.res.name.toArray⟩ ⟨#[40]⟩ B' b (acc++pb) w2 HS2.out.lu (by omega) (by rw[eNz];show (acc++pb).length+4+d.res.name.length+1≤_;simp only[bN];omega))
  go_upto_region 4 with (go_at_call 123;refine HW.out.mono ?_;rintro r w3 h2;obtain rfl:=h2.eq)
  have Hl:=ay (HS2.out.write h2);clear y0 y1 y2 y3 y4 y5 y6 y7 y8 y9 rA rC rD yt HW h2 HS2;obtain⟨y0,y1,y2,y3,y4,y5,y6,y7,y8,y9,rA,rC,rD,-⟩:=bB (Hl.out.box HB1.out HN.out (by decide) (by decide))
  have yt:w3.cell? ⟨w.heap.size,0,none⟩=some (.pointer (some ⟨b,0,none⟩)):=by rw[aV (Hl.out.box HB1.out HT.out (by decide) (by decide))];rfl
  have hz3:=Hl.out.kM.size;have HW:=ay (HL.out (acc++pb++([102,117,110,32]++(d.res.name++[40]))) w3 Hl.out.kM Hl.out.lu (Hl.out.box HB1.out HT.out (by decide) (by decide)) (by omega) (by simp only[bN,dR,gX];omega))
  go_upto_region 5 with (go_at_call 210;refine HW.out.mono ?_;rintro r w4 h2;obtain rfl:=h2.eq)
  have Ru:=ay (Hl.out.write h2);clear y0 y1 y2 y3 y4 y5 y6 y7 y8 y9 rA rC rD yt HW h2 Hl;obtain⟨y0,y1,y2,y3,y4,y5,y6,y7,y8,y9,rA,rC,rD,-⟩:=bB (Ru.out.box HB1.out HN.out (by decide) (by decide))
  have yt:w4.cell? ⟨w.heap.size,0,none⟩=some (.pointer (some ⟨b,0,none⟩)):=by rw[aV (Ru.out.box HB1.out HT.out (by decide) (by decide))];rfl
  have zF:=Ru.out.kM.size;have HW:=ay (dO ⟨#[41,58,32]⟩ B' b (acc++pb++([102,117,110,32]++(d.res.name++[40]))++PD) w4 Ru.out.lu (by omega) (by show (acc++pb++([102,117,110,32]++(d.res.name++[40]))++PD).length+3≤_;simp only[bN,dR,gX];omega))
  go_upto_region 6 with (go_at_call 123;refine HW.out.mono ?_;rintro r w5 h2;obtain rfl:=h2.eq)
  have Oi:=ay (Ru.out.write h2);clear y0 y1 y2 y3 y4 y5 y6 y7 y8 y9 rA rC rD yt HW h2 Ru;obtain⟨y0,y1,y2,y3,y4,y5,y6,y7,y8,y9,rA,rC,rD,-⟩:=bB (Oi.out.box HB1.out HN.out (by decide) (by decide))
  have yt:w5.cell? ⟨w.heap.size,0,none⟩=some (.pointer (some ⟨b,0,none⟩)):=by rw[aV (Oi.out.box HB1.out HT.out (by decide) (by decide))];rfl
  have SH:=Oi.out.kM.size;have HW:=ay (HTY.out (acc++pb++([102,117,110,32]++(d.res.name++[40]))++PD++[41,58,32]) w5 Oi.out.kM Oi.out.lu (by omega) (by simp only[bN,dR,gX];omega))
  go_upto_region 7 with (go_at_call 71;refine HW.out.mono ?_;rintro r w6 h2;obtain rfl:=h2.eq)
  have VQ:=ay (Oi.out.write h2);clear y0 y1 y2 y3 y4 y5 y6 y7 y8 y9 rA rC rD yt HW h2 Oi;obtain⟨y0,y1,y2,y3,y4,y5,y6,y7,y8,y9,rA,rC,rD,-⟩:=bB (VQ.out.box HB1.out HN.out (by decide) (by decide))
  have yt:w6.cell? ⟨w.heap.size,0,none⟩=some (.pointer (some ⟨b,0,none⟩)):=by rw[aV (VQ.out.box HB1.out HT.out (by decide) (by decide))];rfl
  have hz6:=VQ.out.kM.size;have HW:=ay (dO ⟨#[32,61,32]⟩ B' b (acc++pb++([102,117,110,32]++(d.res.name++[40]))++PD++[41,58,32]++ty) w6 VQ.out.lu (by omega) (by show (acc++pb++([102,117,110,32]++(d.res.name++[40]))++PD++[41,58,32]++ty).length+3≤_;simp only[bN,dR,gX];omega))
  go_upto_region 8 with (go_at_call 123;refine HW.out.mono ?_;rintro r w7 h2;obtain rfl:=h2.eq)
  have RF:=ay (VQ.out.write h2);clear y0 y1 y2 y3 y4 y5 y6 y7 y8 y9 rA rC rD yt HW h2 VQ;obtain⟨y0,y1,y2,y3,y4,y5,y6,y7,y8,y9,rA,rC,rD,-⟩:=bB (RF.out.box HB1.out HN.out (by decide) (by decide))
  have yt:w7.cell? ⟨w.heap.size,0,none⟩=some (.pointer (some ⟨b,0,none⟩)):=by rw[aV (RF.out.box HB1.out HT.out (by decide) (by decide))];rfl
  have hz7:=RF.out.kM.size;have HW:=ay (HXP.out (acc++pb++([102,117,110,32]++(d.res.name++[40]))++PD++[41,58,32]++ty++[32,61,32]) w7 RF.out.kM RF.out.lu (by omega) (by simp only[bN,dR,gX];omega))
  go_upto_region 9 with (go_at_call 124;refine HW.out.mono ?_;rintro r w8 h2;obtain rfl:=h2.eq)
  have Zh:=ay (RF.out.write h2);clear y0 y1 y2 y3 y4 y5 y6 y7 y8 y9 rA rC rD yt HW h2 RF;obtain⟨y0,y1,y2,y3,y4,y5,y6,y7,y8,y9,rA,rC,rD,-⟩:=bB (Zh.out.box HB1.out HN.out (by decide) (by decide))
  have yt:w8.cell? ⟨w.heap.size,0,none⟩=some (.pointer (some ⟨b,0,none⟩)):=by rw[aV (Zh.out.box HB1.out HT.out (by decide) (by decide))];rfl
  have hz8:=Zh.out.kM.size;have HW:=ay (dO ⟨#[59,10]⟩ B' b (acc++pb++([102,117,110,32]++(d.res.name++[40]))++PD++[41,58,32]++ty++[32,61,32]++bt) w8 Zh.out.lu (by omega) (by show (acc++pb++([102,117,110,32]++(d.res.name++[40]))++PD++[41,58,32]++ty++[32,61,32]++bt).length+2≤_;simp only[bN,dR,gX];omega));go_wp2_with (go_at_call 123;refine HW.out.mono ?_;rintro r w9 h2;obtain rfl:=h2.eq)
  go_end0
  have hfin:=bQ.from hal hB (Zh.out.write h2)
  rw[ae7.out];exact hfin
 | false =>
  have KP:Hid (pb=[]):=ay (by rw[HPB.out,hpu];rfl);rw[hpu] at y0;clear hpu HPB
  go_upto_region 3 with fail
  obtain⟨w2,hw2⟩:∃ w2:World,w2=w1:=⟨_,rfl⟩
  have HS2:Hid (iD w1 B' b (acc++pb) w1):=ay (by rw[KP.out,List.append_nil];exact GH.out);clear y0 y1 y2 y3 y4 y5 y6 y7 y8 y9 rA rC rD yt KP hw2 w2;obtain⟨y0,y1,y2,y3,y4,y5,y6,y7,y8,y9,rA,rC,rD,-⟩:=bB (HS2.out.box HB1.out HN.out (by decide) (by decide))
  have yt:w1.cell? ⟨w.heap.size,0,none⟩=some (.pointer (some ⟨b,0,none⟩)):=by rw[aV (HS2.out.box HB1.out HT.out (by decide) (by decide))];rfl
  have hz2:=HS2.out.kM.size;have HW:=ay (show Calls _ _ _ _ (bQ B' b (acc++pb++([102,117,110,32]++(d.res.name++[40]))) w1) from xq ⟨#[102,117,110,32]⟩ ⟨d.res.name.toArray⟩ ⟨#[40]⟩ B' b (acc++pb) w1 HS2.out.lu (by omega) (by rw[eNz];show (acc++pb).length+4+d.res.name.length+1≤_;simp only[bN];omega))
  go_upto_region 4 with (go_at_call 123;refine HW.out.mono ?_;rintro r w3 h2;obtain rfl:=h2.eq)
  have Hl:=ay (HS2.out.write h2);clear y0 y1 y2 y3 y4 y5 y6 y7 y8 y9 rA rC rD yt HW h2 HS2;obtain⟨y0,y1,y2,y3,y4,y5,y6,y7,y8,y9,rA,rC,rD,-⟩:=bB (Hl.out.box HB1.out HN.out (by decide) (by decide))
  have yt:w3.cell? ⟨w.heap.size,0,none⟩=some (.pointer (some ⟨b,0,none⟩)):=by rw[aV (Hl.out.box HB1.out HT.out (by decide) (by decide))];rfl
  have hz3:=Hl.out.kM.size;have HW:=ay (HL.out (acc++pb++([102,117,110,32]++(d.res.name++[40]))) w3 Hl.out.kM Hl.out.lu (Hl.out.box HB1.out HT.out (by decide) (by decide)) (by omega) (by simp only[bN,dR,gX];omega))
  go_upto_region 5 with (go_at_call 210;refine HW.out.mono ?_;rintro r w4 h2;obtain rfl:=h2.eq)
  have Ru:=ay (Hl.out.write h2);clear y0 y1 y2 y3 y4 y5 y6 y7 y8 y9 rA rC rD yt HW h2 Hl;obtain⟨y0,y1,y2,y3,y4,y5,y6,y7,y8,y9,rA,rC,rD,-⟩:=bB (Ru.out.box HB1.out HN.out (by decide) (by decide))
  have yt:w4.cell? ⟨w.heap.size,0,none⟩=some (.pointer (some ⟨b,0,none⟩)):=by rw[aV (Ru.out.box HB1.out HT.out (by decide) (by decide))];rfl
  have zF:=Ru.out.kM.size;have HW:=ay (dO ⟨#[41,58,32]⟩ B' b (acc++pb++([102,117,110,32]++(d.res.name++[40]))++PD) w4 Ru.out.lu (by omega) (by show (acc++pb++([102,117,110,32]++(d.res.name++[40]))++PD).length+3≤_;simp only[bN,dR,gX];omega))
  go_upto_region 6 with (go_at_call 123;refine HW.out.mono ?_;rintro r w5 h2;obtain rfl:=h2.eq)
  have Oi:=ay (Ru.out.write h2);clear y0 y1 y2 y3 y4 y5 y6 y7 y8 y9 rA rC rD yt HW h2 Ru;obtain⟨y0,y1,y2,y3,y4,y5,y6,y7,y8,y9,rA,rC,rD,-⟩:=bB (Oi.out.box HB1.out HN.out (by decide) (by decide))
  have yt:w5.cell? ⟨w.heap.size,0,none⟩=some (.pointer (some ⟨b,0,none⟩)):=by rw[aV (Oi.out.box HB1.out HT.out (by decide) (by decide))];rfl
  have SH:=Oi.out.kM.size;have HW:=ay (HTY.out (acc++pb++([102,117,110,32]++(d.res.name++[40]))++PD++[41,58,32]) w5 Oi.out.kM Oi.out.lu (by omega) (by simp only[bN,dR,gX];omega))
  go_upto_region 7 with (go_at_call 71;refine HW.out.mono ?_;rintro r w6 h2;obtain rfl:=h2.eq)
  have VQ:=ay (Oi.out.write h2);clear y0 y1 y2 y3 y4 y5 y6 y7 y8 y9 rA rC rD yt HW h2 Oi;obtain⟨y0,y1,y2,y3,y4,y5,y6,y7,y8,y9,rA,rC,rD,-⟩:=bB (VQ.out.box HB1.out HN.out (by decide) (by decide))
  have yt:w6.cell? ⟨w.heap.size,0,none⟩=some (.pointer (some ⟨b,0,none⟩)):=by rw[aV (VQ.out.box HB1.out HT.out (by decide) (by decide))];rfl
  have hz6:=VQ.out.kM.size;have HW:=ay (dO ⟨#[32,61,32]⟩ B' b (acc++pb++([102,117,110,32]++(d.res.name++[40]))++PD++[41,58,32]++ty) w6 VQ.out.lu (by omega) (by show (acc++pb++([102,117,110,32]++(d.res.name++[40]))++PD++[41,58,32]++ty).length+3≤_;simp only[bN,dR,gX];omega))
  go_upto_region 8 with (go_at_call 123;refine HW.out.mono ?_;rintro r w7 h2;obtain rfl:=h2.eq)
  have RF:=ay (VQ.out.write h2);clear y0 y1 y2 y3 y4 y5 y6 y7 y8 y9 rA rC rD yt HW h2 VQ;obtain⟨y0,y1,y2,y3,y4,y5,y6,y7,y8,y9,rA,rC,rD,-⟩:=bB (RF.out.box HB1.out HN.out (by decide) (by decide))
  have yt:w7.cell? ⟨w.heap.size,0,none⟩=some (.pointer (some ⟨b,0,none⟩)):=by rw[aV (RF.out.box HB1.out HT.out (by decide) (by decide))];rfl
  have hz7:=RF.out.kM.size;have HW:=ay (HXP.out (acc++pb++([102,117,110,32]++(d.res.name++[40]))++PD++[41,58,32]++ty++[32,61,32]) w7 RF.out.kM RF.out.lu (by omega) (by simp only[bN,dR,gX];omega))
  go_upto_region 9 with (go_at_call 124;refine HW.out.mono ?_;rintro r w8 h2;obtain rfl:=h2.eq)
  have Zh:=ay (RF.out.write h2);clear y0 y1 y2 y3 y4 y5 y6 y7 y8 y9 rA rC rD yt HW h2 RF;obtain⟨y0,y1,y2,y3,y4,y5,y6,y7,y8,y9,rA,rC,rD,-⟩:=bB (Zh.out.box HB1.out HN.out (by decide) (by decide))
  have yt:w8.cell? ⟨w.heap.size,0,none⟩=some (.pointer (some ⟨b,0,none⟩)):=by rw[aV (Zh.out.box HB1.out HT.out (by decide) (by decide))];rfl
  have hz8:=Zh.out.kM.size;have HW:=ay (dO ⟨#[59,10]⟩ B' b (acc++pb++([102,117,110,32]++(d.res.name++[40]))++PD++[41,58,32]++ty++[32,61,32]++bt) w8 Zh.out.lu (by omega) (by show (acc++pb++([102,117,110,32]++(d.res.name++[40]))++PD++[41,58,32]++ty++[32,61,32]++bt).length+2≤_;simp only[bN,dR,gX];omega));go_wp2_with (go_at_call 123;refine HW.out.mono ?_;rintro r w9 h2;obtain rfl:=h2.eq)
  go_end0
  have hfin:=bQ.from hal hB (Zh.out.write h2)
  rw[ae7.out];exact hfin
