/- Walks and plain laws, without a condition. -/
import Derived.Test.YtmleecdnkmoohaaGreatDoorK19
set_option maxHeartbeats 16000000
set_option maxRecDepth 100000
set_option linter.unusedVariables false
set_option linter.unusedSimpArgs false
namespace Go.Proofs.YtmleecdnkmoohaaGreatDoor
open Go.RowKit Go
variable{ks:List PZ}
theorem aeY {P:Nat->Prop}{w:World}{mv:Value}{ae:Option Addr}{n ce:Nat}{op num a_:Int}{nm md:aH}{ys:Bool}(hZ:l7 YA P w mv (.slice ae n ce) (.mk op nm md num ys ks a_))(h0:0<ks.length) :
  ∃ b off,ae=some ⟨b,off,none⟩/\P b/\b<w.heap.size/\∀ i k,ks[i]?=some k->∃ am wn cm ak ck,l7 YA P w (.slice am wn cm) (.slice ak k.aB.length ck) k/\∀ W:World,W.heap[b]?=w.heap[b]?->∀ j u,(YA.cells k (.slice am wn cm) (.slice ak k.aB.length ck))[j]?=some u->W.cell? ⟨b,off+i * 8+j,none⟩=some u:=by
 obtain⟨_,PN,PO,hv,_,hform⟩:=hZ.form;simp only[Value.slice.injEq] at hv;obtain⟨rfl,-,rfl⟩:=hv;obtain⟨b,off,h1,h2,h3,h4⟩:=hform h0;refine⟨b,off,h1,h2,h3,λi k hk=>?_⟩;obtain⟨hi,rfl⟩:=pE hk;obtain⟨m,kv,h5,h6⟩:=h4 i hi;obtain⟨am,wn,cm,ak,ck,rfl,rfl⟩:=h5.PK;exact⟨am,wn,cm,ak,ck,h5,λW hW j u hu=>(yK (a:=⟨b,off+i * 8+j,none⟩) hW).trans (h6 j u hu)⟩
theorem Hg (h:ks.length=2):∃ x y,ks=[x,y]:=by
 match ks,h with
 | [x,y],_=>exact⟨x,y,rfl⟩
theorem SC (h:ks.length=3):∃ x y z,ks=[x,y,z]:=by
 match ks,h with
 | [x,y,z],_=>exact⟨x,y,z,rfl⟩
theorem SF (p:ZP)(op num a_:Int)(nm md:aH)(ys:Bool)(ks:List PZ)(Ow:∀ k∈ks,lF p k)(hop:1<=op/\op<=24/\countB op ks.length=true):lF p (.mk op nm md num ys ks a_):=by
 intro C cb B mb n g res f am wn cm ae ce w h hkm hf hg hn hZ;have hcl:=h.lt;have hks:(PZ.mk op nm md num ys ks a_).size=ou ks+1:=PZ.Aw _
 have mI:Hid (∀ want,Calls Tryz.prog 90 #[.pointer (some ⟨cb,0,none⟩),.agg (aR op ⟨nm.toArray⟩ ⟨md.toArray⟩ (decide (num<0)) (.slice am wn cm) ys (.slice ae ks.length ce) a_),.pointer (some ⟨mb,0,none⟩),.int .i64 res,.int .i64 want] (w.alloc (.cells (aR op ⟨nm.toArray⟩ ⟨md.toArray⟩ (decide (num<0)) (.slice am wn cm) ys (.slice ae ks.length ce) a_) 60)) (Uj C cb (jv g res want f (ks.map λe=>(e.at_,e.ty (aS p.defs)))) (w.alloc (.cells (aR op ⟨nm.toArray⟩ ⟨md.toArray⟩ (decide (num<0)) (.slice am wn cm) ys (.slice ae ks.length ce) a_) 60)))) :=
  ay λwant=>aeW p (.mk op nm md num ys ks a_) Ow C cb B mb n g res want f am wn cm ae ce _ (h.below (aA w _)) (hkm.keep (aW.of (aA w _))) hf (hg.below (aA w _)) hn (hZ.frame (aW.of (aA w _)))
 have hZ0:l7 YA (λb=>b≠cb) w (.slice am wn cm) (.slice ae ks.length ce) (.mk op nm md num ys ks a_):=hZ;have HZ:=ay (λh0=>aeY hZ0 h0)
 have DL:Hid (op=24->gu C cb none w->Calls Tryz.prog 92 #[.pointer (some ⟨cb,0,none⟩),.agg (aR op ⟨nm.toArray⟩ ⟨md.toArray⟩ (decide (num<0)) (.slice am wn cm) ys (.slice ae ks.length ce) a_),.pointer (some ⟨mb,0,none⟩),.int .i64 res] (w.alloc (.cells (aR op ⟨nm.toArray⟩ ⟨md.toArray⟩ (decide (num<0)) (.slice am wn cm) ys (.slice ae ks.length ce) a_) 60)) (LW C cb (sV (aS p.defs) nm md (ks.map λe=>(e.at_,e.ty (aS p.defs))) g res) (w.alloc (.cells (aR op ⟨nm.toArray⟩ ⟨md.toArray⟩ (decide (num<0)) (.slice am wn cm) ys (.slice ae ks.length ce) a_) 60)))):=ay λq h0=>by
  subst q;rw[hks] at hn;exact adb p num a_ nm md ys ks Ow C cb B mb n g res am wn cm ae ce _ (h0.below (aA w _)) (hkm.keep (aW.of (aA w _))) (hg.below (aA w _)) hn (hZ0.frame (aW.of (aA w _)))
 have Hy:=ay hkm;clear hZ hZ0 hkm;rw[hks] at hn
 have hty:(PZ.mk op nm md num ys ks a_).ty (aS p.defs) g res f=aa3 (aS p.defs) op nm md (ks.map λe=>(e.at_,e.ty (aS p.defs))) g res f:=by rw[PZ.aa5];rfl
 rw[hty];show Calls Tryz.prog 51 #[.pointer (some ⟨cb,0,none⟩),.agg (aR op ⟨nm.toArray⟩ ⟨md.toArray⟩ (decide (num<0)) (.slice am wn cm) ys (.slice ae ks.length ce) a_),.pointer (some ⟨mb,0,none⟩),.int .i64 res] w _;clear hty hks;generalize decide (num<0)=ng at *;have hal:=aA w (.cells (aR op ⟨nm.toArray⟩ ⟨md.toArray⟩ ng (.slice am wn cm) ys (.slice ae ks.length ce) a_) 60);have g0:=aX w (.cells (aR op ⟨nm.toArray⟩ ⟨md.toArray⟩ ng (.slice am wn cm) ys (.slice ae ks.length ce) a_) 60);have h1:=h.below hal;have hk1:=aO.of hal hcl;have HW:=ay (gy h hg);have Ay:=ay hf
 have HX:Hid (∀ k∈ks,∀ (W:World) (B' mb' n':Nat) (g':dM) (f':Fl) (am:Option Addr) (wn cm:Nat) (ak:Option Addr) (ck:Nat),gu C cb f' W->KM p C cb W->bq f'->jM B' mb' g' n' W->n'+k.size<=500000->l7 YA (λb=>b≠cb) W (.slice am wn cm) (.slice ak k.aB.length ck) k->Calls Tryz.prog 51 #[.pointer (some ⟨cb,0,none⟩),.agg #[.int .i64 k.op,.string ⟨k.name.toArray⟩,.string ⟨k.module.toArray⟩,.bool (decide (k.num<0)),.slice am wn cm,.bool k.yes,.slice ak k.aB.length ck,.int .i64 k.at_],.pointer (some ⟨mb',0,none⟩),.int .i64 res] W (LW C cb (k.ty (aS p.defs) g' res f') W)) :=
  ay λk hk W B' mb' n' g' f' am wn cm ak ck a1 a0 a2 a3 a4 a5=>Ow k hk C cb B' mb' n' g' res f' am wn cm ak ck W a1 a0 a2 a3 a4 a5
 have hsz:=λi (hi:i<ks.length)=>wS hi
 have HSZ:=ay hsz;have V6:=ay Ow;clear Ow hsz;have hOK:=ay (abw C cb f _ h1 hf);go_enter Tryz.func51,Tryz.ntmps51
 go_upto_region 1 with fail
 change Code.wp _ _ _ _ (w.alloc _);generalize w.alloc _=w1 at *;have hl1:=(bP g0).1;obtain⟨y0,y1,y2,y3,y4,y5,y6,y7⟩:=aI g0;have H1:=ay h1;have HG:=ay g0;clear h1 g0 hf h hg
 cases f with
 | some e =>
  clear mI HX HZ DL;go_wp2_with (go_at_call 52;refine hOK.out.mono ?_;rintro e w2 ⟨rfl,rfl⟩);go_ret;exact⟨rfl,H1.out,hk1⟩
 | none =>
  go_upto_region 3 with (go_at_call 52;refine hOK.out.mono ?_;rintro e w2 ⟨rfl,rfl⟩)
  obtain⟨w1,rfl⟩:∃ w1:World,w1=w2:=⟨_,rfl⟩
  obtain⟨R,hR⟩:∃ R,R=LU (aS p.defs) op nm md (ks.map λe=>(e.at_,e.ty (aS p.defs))) g res:=⟨_,rfl⟩
  have HR:Hid (aa3 (aS p.defs) op nm md (ks.map λe=>(e.at_,e.ty (aS p.defs))) g res none=R):=ay hR.symm;have HRR:=ay hR;clear hR;obtain⟨p1,p24,hcnt⟩:=hop
  have hops:op=4\/op=24\/op=1\/op=2\/op=3\/(op=5\/op=7\/op=8\/op=9\/op=10\/op=11)\/(op=14\/op=15\/op=16\/op=17)\/(op=12\/op=13)\/(op=6\/op=18\/op=19\/op=20)\/op=22\/op=21\/op=23:=by omega
  unfold aR at mI;clear p1 p24
  rcases hops with rfl|rfl|rfl|rfl|rfl|hA|hA|hA|hA|rfl|rfl|rfl
  ·go_wp2
   go_ret;exact⟨by rw[HR.out,HRR.out];rfl,by rw[HR.out,HRR.out];exact H1.out,hk1⟩
  ·have HN:=ay (DL.out rfl HW.out.1)
   unfold aR at HN;have HT:Hid (R=sV (aS p.defs) nm md (ks.map λe=>(e.at_,e.ty (aS p.defs))) g res):=ay (by rw[HRR.out];rfl);clear DL mI HX HZ HRR;generalize sV (aS p.defs) nm md (ks.map λe=>(e.at_,e.ty (aS p.defs))) g res=v at *;go_wp2_with (go_at_call 92;refine HN.out.mono ?_;rintro r w2 ⟨rfl,h2,hk2⟩);go_ret;exact⟨by rw[HR.out,HT.out];rfl,by rw[HR.out,HT.out];exact h2,hk1.trans hk2⟩
  ·go_wp2
   go_ret;exact⟨by rw[HR.out,HRR.out];rfl,by rw[HR.out,HRR.out];exact H1.out,hk1⟩
  ·go_wp2
   go_ret;exact⟨by rw[HR.out,HRR.out];rfl,by rw[HR.out,HRR.out];exact H1.out,hk1⟩
  ·have HN:=ay (ac9 C cb B mb n g 3 nm md ng ys (.slice am wn cm) (.slice ae ks.length ce) a_ w1 H1.out (HW.out.2.ck HW.out.1 hk1.2) (by omega))
   unfold aR at HN;have HT:Hid (R=Am g nm):=ay (by rw[HRR.out];rfl);clear DL mI HX HZ HRR;generalize Am g nm=v at *;go_wp2_with (go_at_call 89;refine HN.out.mono ?_;rintro r w2 ⟨rfl,h2,hk2⟩);go_ret;exact⟨by rw[HR.out,HT.out];rfl,by rw[HR.out,HT.out];exact h2,hk1.trans hk2⟩
  ·have HA:=ay (mI.out 1)
   have HT:Hid (R=(1,jv g res 1 none (ks.map λe=>(e.at_,e.ty (aS p.defs))))):=ay (by rw[HRR.out];rcases hA with rfl|rfl|rfl|rfl|rfl|rfl<;>rfl);clear DL mI HX HZ HRR;generalize jv g res 1 none (ks.map λe=>(e.at_,e.ty (aS p.defs)))=fl at *
   rcases hA with rfl|rfl|rfl|rfl|rfl|rfl
   all_goals
    go_wp2_with (go_at_call 90;refine HA.out.mono ?_;rintro r w2 ⟨rfl,h2,hk2⟩);go_ret;exact⟨by rw[HR.out,HT.out];rfl,by rw[HR.out,HT.out];exact h2,hk1.trans hk2⟩
  ·have HA:=ay (mI.out 1)
   have HT:Hid (R=(2,jv g res 1 none (ks.map λe=>(e.at_,e.ty (aS p.defs))))):=ay (by rw[HRR.out];rcases hA with rfl|rfl|rfl|rfl<;>rfl);clear DL mI HX HZ HRR;generalize jv g res 1 none (ks.map λe=>(e.at_,e.ty (aS p.defs)))=fl at *
   rcases hA with rfl|rfl|rfl|rfl
   all_goals
    go_wp2_with (go_at_call 90;refine HA.out.mono ?_;rintro r w2 ⟨rfl,h2,hk2⟩);go_ret;exact⟨by rw[HR.out,HT.out];rfl,by rw[HR.out,HT.out];exact h2,hk1.trans hk2⟩
  ·obtain⟨x,y,rfl⟩:=Hg (by rcases hA with rfl|rfl<;>simpa [countB] using hcnt)
   obtain⟨b,off,rfl,hPb,hbl,HK⟩:=HZ.out (by simp);obtain⟨qH,qI,qJ,zI,zJ,hE1,hc1⟩:=HK 0 x rfl;obtain⟨jY,jZ,j3,kC,kD,hE2,hc2⟩:=HK 1 y rfl;simp only[ou] at hn;have HT:Hid (R=(2,(uY g res none (x.at_,x.ty (aS p.defs)) (y.at_,y.ty (aS p.defs))).2)):=ay (by rw[HRR.out];rcases hA with rfl|rfl<;>rfl);have HL:Hid (Calls Tryz.prog 91 #[.pointer (some ⟨cb,0,none⟩),.agg #[.int .i64 x.op,.string ⟨x.name.toArray⟩,.string ⟨x.module.toArray⟩,.bool (decide (x.num<0)),.slice qH qI qJ,.bool x.yes,.slice zI x.aB.length zJ,.int .i64 x.at_],.agg #[.int .i64 y.op,.string ⟨y.name.toArray⟩,.string ⟨y.module.toArray⟩,.bool (decide (y.num<0)),.slice jY jZ j3,.bool y.yes,.slice kC y.aB.length kD,.int .i64 y.at_],.pointer (some ⟨mb,0,none⟩),.int .i64 res] w1.drew (LW C cb (uY g res none (x.at_,x.ty (aS p.defs)) (y.at_,y.ty (aS p.defs))) w1.drew)):=ay (Pn p x y (V6.out x (by simp)) (V6.out y (by simp)) C cb B mb n g res none qH qI qJ zI zJ jY jZ j3 kC kD w1.drew H1.out (Hy.out.keep (hk1.trans (aO.drew cb w1)).2) bq.none (HW.out.2.ck HW.out.1 (hk1.trans (aO.drew cb w1)).2) (by omega) (by omega) (hE1.frame (hk1.trans (aO.drew cb w1)).2) (hE2.frame (hk1.trans (aO.drew cb w1)).2));have hwb:=hk1.2.2 b hPb hbl
   have hne:w.heap.size≠cb:=by omega
   have HS:Hid (∀ W,aW (λb=>b≠cb) w1 W->(W.cell? ⟨w.heap.size,6,none⟩=some (.slice (some ⟨b,off,none⟩) 2 ce)/\(W.cell? ⟨b,off,none⟩=some (.int .i64 x.op)/\W.cell? ⟨b,off+1,none⟩=some (.string ⟨x.name.toArray⟩)/\W.cell? ⟨b,off+2,none⟩=some (.string ⟨x.module.toArray⟩)/\W.cell? ⟨b,off+3,none⟩=some (.bool (decide (x.num<0)))/\W.cell? ⟨b,off+4,none⟩=some (.slice qH qI qJ)/\W.cell? ⟨b,off+5,none⟩=some (.bool x.yes)/\W.cell? ⟨b,off+6,none⟩=some (.slice zI x.aB.length zJ)/\W.cell? ⟨b,off+7,none⟩=some (.int .i64 x.at_))/\W.cell? ⟨b,off+8,none⟩=some (.int .i64 y.op)/\W.cell? ⟨b,off+9,none⟩=some (.string ⟨y.name.toArray⟩)/\W.cell? ⟨b,off+10,none⟩=some (.string ⟨y.module.toArray⟩)/\W.cell? ⟨b,off+11,none⟩=some (.bool (decide (y.num<0)))/\W.cell? ⟨b,off+12,none⟩=some (.slice jY jZ j3)/\W.cell? ⟨b,off+13,none⟩=some (.bool y.yes)/\W.cell? ⟨b,off+14,none⟩=some (.slice kC y.aB.length kD)/\W.cell? ⟨b,off+15,none⟩=some (.int .i64 y.at_))):=ay λW hW=>by
    have g1:=aI ((hW.2 w.heap.size hne hl1).trans HG.out);have c1:=hc1 W ((hW.2 b hPb (by omega)).trans hwb);have c2:=hc2 W ((hW.2 b hPb (by omega)).trans hwb);simp only[Nat.zero_mul,nZ,Nat.one_mul,vN,Nat.reduceAdd] at c1 c2;exact⟨g1.2.2.2.2.2.2.1,⟨c1 0 _ rfl,c1 1 _ rfl,c1 2 _ rfl,c1 3 _ rfl,c1 4 _ rfl,c1 5 _ rfl,c1 6 _ rfl,c1 7 _ rfl⟩,c2 0 _ rfl,c2 1 _ rfl,c2 2 _ rfl,c2 3 _ rfl,c2 4 _ rfl,c2 5 _ rfl,c2 6 _ rfl,c2 7 _ rfl⟩
   have p3:=HS.out w1 (aW.refl _ _);generalize uY g res none (x.at_,x.ty (aS p.defs)) (y.at_,y.ty (aS p.defs))=v at *;clear DL mI HX HZ HRR HK hc1 hc2 hE1 hE2
   rcases hA with rfl|rfl
   all_goals
    go_upto_region 28 with fail
    clear y0 y1 y2 y3 y4 y5 y6 y7
    --aiR
    go_region_held3 (λW=>W.cell? ⟨w.heap.size,6,none⟩=some (.slice (some ⟨b,off,none⟩) 2 ce)/\(W.cell? ⟨b,off,none⟩=some (.int .i64 x.op)/\W.cell? ⟨b,off+1,none⟩=some (.string ⟨x.name.toArray⟩)/\W.cell? ⟨b,off+2,none⟩=some (.string ⟨x.module.toArray⟩)/\W.cell? ⟨b,off+3,none⟩=some (.bool (decide (x.num<0)))/\W.cell? ⟨b,off+4,none⟩=some (.slice qH qI qJ)/\W.cell? ⟨b,off+5,none⟩=some (.bool x.yes)/\W.cell? ⟨b,off+6,none⟩=some (.slice zI x.aB.length zJ)/\W.cell? ⟨b,off+7,none⟩=some (.int .i64 x.at_))/\W.cell? ⟨b,off+8,none⟩=some (.int .i64 y.op)/\W.cell? ⟨b,off+9,none⟩=some (.string ⟨y.name.toArray⟩)/\W.cell? ⟨b,off+10,none⟩=some (.string ⟨y.module.toArray⟩)/\W.cell? ⟨b,off+11,none⟩=some (.bool (decide (y.num<0)))/\W.cell? ⟨b,off+12,none⟩=some (.slice jY jZ j3)/\W.cell? ⟨b,off+13,none⟩=some (.bool y.yes)/\W.cell? ⟨b,off+14,none⟩=some (.slice kC y.aB.length kD)/\W.cell? ⟨b,off+15,none⟩=some (.int .i64 y.at_))
     (first|(with_reducible exact p3)|(with_reducible exact p4)|(go_keep;done))
     (first|(go_at_call 91;refine HL.out.mono ?_;rintro r w2 ⟨rfl,h2,hk2⟩;have p4:=HS.out w2 ((aO.drew cb w1).trans hk2).2))
    go_wp2_with fail;go_ret;exact⟨by rw[HR.out,HT.out];rfl,by rw[HR.out,HT.out];exact h2,hk1.trans ((aO.drew cb w1).trans hk2)⟩
  ·have HA:=ay (mI.out 2)
   have HT:Hid (R=(2,jv g res 2 none (ks.map λe=>(e.at_,e.ty (aS p.defs))))):=ay (by rw[HRR.out];rcases hA with rfl|rfl|rfl|rfl<;>rfl);clear DL mI HX HZ HRR;generalize jv g res 2 none (ks.map λe=>(e.at_,e.ty (aS p.defs)))=fl at *
   rcases hA with rfl|rfl|rfl|rfl
   all_goals
    go_wp2_with (go_at_call 90;refine HA.out.mono ?_;rintro r w2 ⟨rfl,h2,hk2⟩);go_ret;exact⟨by rw[HR.out,HT.out];rfl,by rw[HR.out,HT.out];exact h2,hk1.trans hk2⟩
  ·obtain⟨x,y,rfl⟩:=Hg (by simpa [countB] using hcnt)
   obtain⟨b,off,rfl,hPb,hbl,HK⟩:=HZ.out (by simp);obtain⟨qH,qI,qJ,zI,zJ,hE1,hc1⟩:=HK 0 x rfl;obtain⟨jY,jZ,j3,kC,kD,hE2,hc2⟩:=HK 1 y rfl;simp only[ou] at hn;have hwb:=hk1.2.2 b hPb hbl
   have hne:w.heap.size≠cb:=by omega
   obtain⟨v,hv⟩:∃ v,v=x.ty (aS p.defs) g res none:=⟨_,rfl⟩
   obtain⟨u,hu⟩:∃ u,u=y.ty (aS p.defs) (zu g nm v.1) res v.2:=⟨_,rfl⟩
   have HT:Hid (R=u):=ay (by rw[HRR.out,hu,hv];rfl)
   have vv:bq v.2:=by rw[hv];exact PZ.xu (aS p.defs) x g res none bq.none
   have HX1:Hid (∀ W,aO cb w1 W->gu C cb none W->Calls Tryz.prog 51 #[.pointer (some ⟨cb,0,none⟩),.agg #[.int .i64 x.op,.string ⟨x.name.toArray⟩,.string ⟨x.module.toArray⟩,.bool (decide (x.num<0)),.slice qH qI qJ,.bool x.yes,.slice zI x.aB.length zJ,.int .i64 x.at_],.pointer (some ⟨mb,0,none⟩),.int .i64 res] W (LW C cb v W)):=ay λW hW hc=>by
    rw[hv];exact HX.out x (by simp) W B mb n g none qH qI qJ zI zJ hc (Hy.out.keep (hk1.trans hW).2) bq.none (HW.out.2.ck HW.out.1 (hk1.trans hW).2) (by omega) (hE1.frame (hk1.trans hW).2)
   have JH:Hid (∀ W mb',aO cb w1 W->gu C cb v.2 W->jM w1.heap.size mb' (zu g nm v.1) (n+1) W->Calls Tryz.prog 51 #[.pointer (some ⟨cb,0,none⟩),.agg #[.int .i64 y.op,.string ⟨y.name.toArray⟩,.string ⟨y.module.toArray⟩,.bool (decide (y.num<0)),.slice jY jZ j3,.bool y.yes,.slice kC y.aB.length kD,.int .i64 y.at_],.pointer (some ⟨mb',0,none⟩),.int .i64 res] W (LW C cb u W)):=ay λW mb' hW hc he=>by
    rw[hu];exact HX.out y (by simp) W w1.heap.size mb' (n+1) (zu g nm v.1) v.2 jY jZ j3 kC kD hc (Hy.out.keep (hk1.trans hW).2) vv he (by omega) (hE2.frame (hk1.trans hW).2)
   have HCP:=ay (WK B mb n g w1 (HW.out.2.ck HW.out.1 hk1.2) (by omega))
   have HS:Hid (∀ W,aW (λb=>b≠cb) w1 W->(W.cell? ⟨w.heap.size,1,none⟩=some (.string ⟨nm.toArray⟩)/\W.cell? ⟨w.heap.size,6,none⟩=some (.slice (some ⟨b,off,none⟩) 2 ce)/\(W.cell? ⟨b,off,none⟩=some (.int .i64 x.op)/\W.cell? ⟨b,off+1,none⟩=some (.string ⟨x.name.toArray⟩)/\W.cell? ⟨b,off+2,none⟩=some (.string ⟨x.module.toArray⟩)/\W.cell? ⟨b,off+3,none⟩=some (.bool (decide (x.num<0)))/\W.cell? ⟨b,off+4,none⟩=some (.slice qH qI qJ)/\W.cell? ⟨b,off+5,none⟩=some (.bool x.yes)/\W.cell? ⟨b,off+6,none⟩=some (.slice zI x.aB.length zJ)/\W.cell? ⟨b,off+7,none⟩=some (.int .i64 x.at_)))):=ay λW hW=>by
    have g1:=aI ((hW.2 w.heap.size hne hl1).trans HG.out);have c1:=hc1 W ((hW.2 b hPb (by omega)).trans hwb);simp only[Nat.zero_mul,nZ,Nat.one_mul,vN,Nat.reduceAdd,Nat.reduceMul] at c1;exact⟨g1.2.1,g1.2.2.2.2.2.2.1,⟨c1 0 _ rfl,c1 1 _ rfl,c1 2 _ rfl,c1 3 _ rfl,c1 4 _ rfl,c1 5 _ rfl,c1 6 _ rfl,c1 7 _ rfl⟩⟩
   have HS2:Hid (∀ W,aW (λb=>b≠cb) w1 W->(W.cell? ⟨w.heap.size,6,none⟩=some (.slice (some ⟨b,off,none⟩) 2 ce)/\(W.cell? ⟨b,off+8,none⟩=some (.int .i64 y.op)/\W.cell? ⟨b,off+9,none⟩=some (.string ⟨y.name.toArray⟩)/\W.cell? ⟨b,off+10,none⟩=some (.string ⟨y.module.toArray⟩)/\W.cell? ⟨b,off+11,none⟩=some (.bool (decide (y.num<0)))/\W.cell? ⟨b,off+12,none⟩=some (.slice jY jZ j3)/\W.cell? ⟨b,off+13,none⟩=some (.bool y.yes)/\W.cell? ⟨b,off+14,none⟩=some (.slice kC y.aB.length kD)/\W.cell? ⟨b,off+15,none⟩=some (.int .i64 y.at_)))):=ay λW hW=>by
    have g1:=aI ((hW.2 w.heap.size hne hl1).trans HG.out);have c2:=hc2 W ((hW.2 b hPb (by omega)).trans hwb);simp only[Nat.zero_mul,nZ,Nat.one_mul,vN,Nat.reduceAdd,Nat.reduceMul] at c2;exact⟨g1.2.2.2.2.2.2.1,⟨c2 0 _ rfl,c2 1 _ rfl,c2 2 _ rfl,c2 3 _ rfl,c2 4 _ rfl,c2 5 _ rfl,c2 6 _ rfl,c2 7 _ rfl⟩⟩
   clear DL mI HX HZ HRR HK hc1 hc2 hE1 hE2 hv hu;have hcw:cb<w1.heap.size:=H1.out.lt
   go_upto_region 40 with (go_at_call 93;refine HCP.out.mono ?_;rintro e w2 ⟨mb2,rfl,hg2,hm2,hb2⟩)
   clear y0 y1 y2 y3 y4 y5 y6 y7;have hk2:=aO.of hb2 hcw;have aeZ:=hk2.trans (aO.drew cb w2);have p3:=HS.out w2 hk2.2;have h2:=H1.out.below hb2;have HG2:=ay hg2;have H2:=ay h2;clear hg2 h2
   go_region_held3 (λW=>W.cell? ⟨w.heap.size,1,none⟩=some (.string ⟨nm.toArray⟩)/\W.cell? ⟨w.heap.size,6,none⟩=some (.slice (some ⟨b,off,none⟩) 2 ce)/\(W.cell? ⟨b,off,none⟩=some (.int .i64 x.op)/\W.cell? ⟨b,off+1,none⟩=some (.string ⟨x.name.toArray⟩)/\W.cell? ⟨b,off+2,none⟩=some (.string ⟨x.module.toArray⟩)/\W.cell? ⟨b,off+3,none⟩=some (.bool (decide (x.num<0)))/\W.cell? ⟨b,off+4,none⟩=some (.slice qH qI qJ)/\W.cell? ⟨b,off+5,none⟩=some (.bool x.yes)/\W.cell? ⟨b,off+6,none⟩=some (.slice zI x.aB.length zJ)/\W.cell? ⟨b,off+7,none⟩=some (.int .i64 x.at_)))
    (first|(with_reducible exact p3)|(with_reducible exact p4)|(with_reducible exact p5)|(go_keep;done))
    (first
     | (go_at_call 49;refine(Pm w1.heap.size mb2 n g nm v.1 w3 (HG2.out.ck H2.out ((aO.drew cb w2).trans eP).2) (by have:=hk2.2.1;have:=eP.2.1;exact jq hk2.2.1 eP.2.1) hm2 (by omega)).mono ?_;rintro r w4 ⟨⟨rb,rfl⟩,hg4,hb4,-⟩;have hk4:=(aeZ.trans eP).low hb4 hcw;have p5:=HS.out w4 hk4.2)
     | (go_at_call 51;refine(HX1.out w2.drew aeZ H2.out).mono ?_;rintro r w3 ⟨rfl,h3,eP⟩;have p4:=HS.out w3 (aeZ.trans eP).2))
   have h4:=(hb4.block cb hcw).trans h3;obtain⟨q6,q0,q1,q2,q3,q4,q5,q7,q8⟩:=HS2.out w4 hk4.2;clear p3 p4 p5;go_wp2_with (go_at_call 51;refine(JH.out w4 mb2 hk4 h4 hg4).mono ?_;rintro r w5 ⟨rfl,h5,iN⟩);go_ret;exact⟨by rw[HR.out,HT.out];rfl,by rw[HR.out,HT.out];exact h5,(hk1.trans hk4).trans iN⟩
  ·obtain⟨x,y,z,rfl⟩:=SC (by simpa [countB] using hcnt)
   obtain⟨b,off,rfl,hPb,hbl,HK⟩:=HZ.out (by simp);obtain⟨qH,qI,qJ,zI,zJ,hE1,hc1⟩:=HK 0 x rfl;obtain⟨jY,jZ,j3,kC,kD,hE2,hc2⟩:=HK 1 y rfl;obtain⟨am3,wn3,cm3,ae3,ce3,hE3,hc3⟩:=HK 2 z rfl;simp only[ou] at hn;have hwb:=hk1.2.2 b hPb hbl
   have hne:w.heap.size≠cb:=by omega
   obtain⟨v,hv⟩:∃ v,v=x.ty (aS p.defs) g res none:=⟨_,rfl⟩
   obtain⟨fq,hfm⟩:∃ fq,fq=lg v.2 x.at_ v.1 2:=⟨_,rfl⟩
   have vv:bq v.2:=by rw[hv];exact PZ.xu (aS p.defs) x g res none bq.none
   have ae0:bq fq:=by rw[hfm];exact qj _ _ _ vv
   obtain⟨u,hu⟩:∃ u,u=uY g res fq (y.at_,y.ty (aS p.defs)) (z.at_,z.ty (aS p.defs)):=⟨_,rfl⟩
   have HT:Hid (R=u):=ay (by rw[HRR.out,hu,hfm,hv];rfl)
   have HX1:Hid (∀ W,aO cb w1 W->gu C cb none W->Calls Tryz.prog 51 #[.pointer (some ⟨cb,0,none⟩),.agg #[.int .i64 x.op,.string ⟨x.name.toArray⟩,.string ⟨x.module.toArray⟩,.bool (decide (x.num<0)),.slice qH qI qJ,.bool x.yes,.slice zI x.aB.length zJ,.int .i64 x.at_],.pointer (some ⟨mb,0,none⟩),.int .i64 res] W (LW C cb v W)):=ay λW hW hc=>by
    rw[hv];exact HX.out x (by simp) W B mb n g none qH qI qJ zI zJ hc (Hy.out.keep (hk1.trans hW).2) bq.none (HW.out.2.ck HW.out.1 (hk1.trans hW).2) (by omega) (hE1.frame (hk1.trans hW).2)
   have WM:Hid (∀ W,gu C cb v.2 W->Calls Tryz.prog 71 #[.pointer (some ⟨cb,0,none⟩),.agg #[.int .i64 x.op,.string ⟨x.name.toArray⟩,.string ⟨x.module.toArray⟩,.bool (decide (x.num<0)),.slice qH qI qJ,.bool x.yes,.slice zI x.aB.length zJ,.int .i64 x.at_],.int .i64 v.1,.int .i64 2] W (Uj C cb fq W)):=ay λW hc=>by
    rw[hfm];exact vg C cb v.2 _ _ _ _ _ _ _ _ _ _ W hc vv
   have JH:Hid (∀ W,aO cb w1 W->gu C cb fq W->Calls Tryz.prog 91 #[.pointer (some ⟨cb,0,none⟩),.agg #[.int .i64 y.op,.string ⟨y.name.toArray⟩,.string ⟨y.module.toArray⟩,.bool (decide (y.num<0)),.slice jY jZ j3,.bool y.yes,.slice kC y.aB.length kD,.int .i64 y.at_],.agg #[.int .i64 z.op,.string ⟨z.name.toArray⟩,.string ⟨z.module.toArray⟩,.bool (decide (z.num<0)),.slice am3 wn3 cm3,.bool z.yes,.slice ae3 z.aB.length ce3,.int .i64 z.at_],.pointer (some ⟨mb,0,none⟩),.int .i64 res] W (LW C cb u W)):=ay λW hW hc=>by
    rw[hu];exact Pn p y z (V6.out y (by simp)) (V6.out z (by simp)) C cb B mb n g res fq jY jZ j3 kC kD am3 wn3 cm3 ae3 ce3 W hc (Hy.out.keep (hk1.trans hW).2) ae0 (HW.out.2.ck HW.out.1 (hk1.trans hW).2) (by omega) (by omega) (hE2.frame (hk1.trans hW).2) (hE3.frame (hk1.trans hW).2)
   have HS:Hid (∀ W,aW (λb=>b≠cb) w1 W->(W.cell? ⟨w.heap.size,6,none⟩=some (.slice (some ⟨b,off,none⟩) 3 ce)/\(W.cell? ⟨b,off,none⟩=some (.int .i64 x.op)/\W.cell? ⟨b,off+1,none⟩=some (.string ⟨x.name.toArray⟩)/\W.cell? ⟨b,off+2,none⟩=some (.string ⟨x.module.toArray⟩)/\W.cell? ⟨b,off+3,none⟩=some (.bool (decide (x.num<0)))/\W.cell? ⟨b,off+4,none⟩=some (.slice qH qI qJ)/\W.cell? ⟨b,off+5,none⟩=some (.bool x.yes)/\W.cell? ⟨b,off+6,none⟩=some (.slice zI x.aB.length zJ)/\W.cell? ⟨b,off+7,none⟩=some (.int .i64 x.at_)))):=ay λW hW=>by
    have g1:=aI ((hW.2 w.heap.size hne hl1).trans HG.out);have c1:=hc1 W ((hW.2 b hPb (by omega)).trans hwb);simp only[Nat.zero_mul,nZ,Nat.one_mul,vN,Nat.reduceAdd,Nat.reduceMul] at c1;exact⟨g1.2.2.2.2.2.2.1,⟨c1 0 _ rfl,c1 1 _ rfl,c1 2 _ rfl,c1 3 _ rfl,c1 4 _ rfl,c1 5 _ rfl,c1 6 _ rfl,c1 7 _ rfl⟩⟩
   have HS2:Hid (∀ W,aW (λb=>b≠cb) w1 W->(W.cell? ⟨w.heap.size,0,none⟩=some (.int .i64 21)/\W.cell? ⟨w.heap.size,6,none⟩=some (.slice (some ⟨b,off,none⟩) 3 ce)/\(W.cell? ⟨b,off+8,none⟩=some (.int .i64 y.op)/\W.cell? ⟨b,off+9,none⟩=some (.string ⟨y.name.toArray⟩)/\W.cell? ⟨b,off+10,none⟩=some (.string ⟨y.module.toArray⟩)/\W.cell? ⟨b,off+11,none⟩=some (.bool (decide (y.num<0)))/\W.cell? ⟨b,off+12,none⟩=some (.slice jY jZ j3)/\W.cell? ⟨b,off+13,none⟩=some (.bool y.yes)/\W.cell? ⟨b,off+14,none⟩=some (.slice kC y.aB.length kD)/\W.cell? ⟨b,off+15,none⟩=some (.int .i64 y.at_))/\(W.cell? ⟨b,off+16,none⟩=some (.int .i64 z.op)/\W.cell? ⟨b,off+17,none⟩=some (.string ⟨z.name.toArray⟩)/\W.cell? ⟨b,off+18,none⟩=some (.string ⟨z.module.toArray⟩)/\W.cell? ⟨b,off+19,none⟩=some (.bool (decide (z.num<0)))/\W.cell? ⟨b,off+20,none⟩=some (.slice am3 wn3 cm3)/\W.cell? ⟨b,off+21,none⟩=some (.bool z.yes)/\W.cell? ⟨b,off+22,none⟩=some (.slice ae3 z.aB.length ce3)/\W.cell? ⟨b,off+23,none⟩=some (.int .i64 z.at_)))):=ay λW hW=>by
    have g1:=aI ((hW.2 w.heap.size hne hl1).trans HG.out);have c2:=hc2 W ((hW.2 b hPb (by omega)).trans hwb);have c3:=hc3 W ((hW.2 b hPb (by omega)).trans hwb);simp only[Nat.zero_mul,nZ,Nat.one_mul,vN,Nat.reduceAdd,Nat.reduceMul] at c2 c3;exact⟨g1.1,g1.2.2.2.2.2.2.1,⟨c2 0 _ rfl,c2 1 _ rfl,c2 2 _ rfl,c2 3 _ rfl,c2 4 _ rfl,c2 5 _ rfl,c2 6 _ rfl,c2 7 _ rfl⟩,⟨c3 0 _ rfl,c3 1 _ rfl,c3 2 _ rfl,c3 3 _ rfl,c3 4 _ rfl,c3 5 _ rfl,c3 6 _ rfl,c3 7 _ rfl⟩⟩
   clear DL mI HX HZ HRR HK hc1 hc2 hE1 hE2 hv hu hfm
   go_upto_region 42 with fail
   clear y0 y1 y2 y3 y4 y5 y6 y7;have p3:=HS.out w1 (aW.refl _ _)
   go_region_held3 (λW=>W.cell? ⟨w.heap.size,6,none⟩=some (.slice (some ⟨b,off,none⟩) 3 ce)/\(W.cell? ⟨b,off,none⟩=some (.int .i64 x.op)/\W.cell? ⟨b,off+1,none⟩=some (.string ⟨x.name.toArray⟩)/\W.cell? ⟨b,off+2,none⟩=some (.string ⟨x.module.toArray⟩)/\W.cell? ⟨b,off+3,none⟩=some (.bool (decide (x.num<0)))/\W.cell? ⟨b,off+4,none⟩=some (.slice qH qI qJ)/\W.cell? ⟨b,off+5,none⟩=some (.bool x.yes)/\W.cell? ⟨b,off+6,none⟩=some (.slice zI x.aB.length zJ)/\W.cell? ⟨b,off+7,none⟩=some (.int .i64 x.at_)))
    (first|(with_reducible exact p3)|(with_reducible exact p4)|(with_reducible exact p5)|(go_keep;done))
    (first
     | (go_at_call 71;refine(WM.out w3 h3).mono ?_;rintro r w4 ⟨rfl,h4,hk4⟩;have p5:=HS.out w4 (((aO.drew cb w1).trans eP).trans hk4).2)
     | (go_at_call 51;refine(HX1.out w1.drew (aO.drew cb w1) H1.out).mono ?_;rintro r w3 ⟨rfl,h3,eP⟩;have p4:=HS.out w3 ((aO.drew cb w1).trans eP).2))
   clear p3 p4 p5;have SH:=((aO.drew cb w1).trans eP).trans hk4;have o0:=(HS2.out w4 SH.2).1
   go_upto_region 44 with fail
   clear o0;have p3:=(HS2.out w4 SH.2).2;have ae4:=SH.trans (aO.drew cb w4)
   go_region_held3 (λW=>W.cell? ⟨w.heap.size,6,none⟩=some (.slice (some ⟨b,off,none⟩) 3 ce)/\(W.cell? ⟨b,off+8,none⟩=some (.int .i64 y.op)/\W.cell? ⟨b,off+9,none⟩=some (.string ⟨y.name.toArray⟩)/\W.cell? ⟨b,off+10,none⟩=some (.string ⟨y.module.toArray⟩)/\W.cell? ⟨b,off+11,none⟩=some (.bool (decide (y.num<0)))/\W.cell? ⟨b,off+12,none⟩=some (.slice jY jZ j3)/\W.cell? ⟨b,off+13,none⟩=some (.bool y.yes)/\W.cell? ⟨b,off+14,none⟩=some (.slice kC y.aB.length kD)/\W.cell? ⟨b,off+15,none⟩=some (.int .i64 y.at_))/\(W.cell? ⟨b,off+16,none⟩=some (.int .i64 z.op)/\W.cell? ⟨b,off+17,none⟩=some (.string ⟨z.name.toArray⟩)/\W.cell? ⟨b,off+18,none⟩=some (.string ⟨z.module.toArray⟩)/\W.cell? ⟨b,off+19,none⟩=some (.bool (decide (z.num<0)))/\W.cell? ⟨b,off+20,none⟩=some (.slice am3 wn3 cm3)/\W.cell? ⟨b,off+21,none⟩=some (.bool z.yes)/\W.cell? ⟨b,off+22,none⟩=some (.slice ae3 z.aB.length ce3)/\W.cell? ⟨b,off+23,none⟩=some (.int .i64 z.at_)))
    (first|(with_reducible exact p3)|(with_reducible exact p5)|(go_keep;done))
    (first|(go_at_call 91;refine(JH.out w4.drew ae4 h4).mono ?_;rintro r w5 ⟨rfl,h5,iN⟩;have p5:=(HS2.out w5 (ae4.trans iN).2).2))
   go_wp2_with fail;go_ret;exact⟨by rw[HR.out,HT.out];rfl,by rw[HR.out,HT.out];exact h5,(hk1.trans ae4).trans iN⟩
  ·obtain⟨x,y,rfl⟩:=Hg (by simpa [countB] using hcnt)
   obtain⟨b,off,rfl,hPb,hbl,HK⟩:=HZ.out (by simp);obtain⟨qH,qI,qJ,zI,zJ,hE1,hc1⟩:=HK 0 x rfl;obtain⟨jY,jZ,j3,kC,kD,hE2,hc2⟩:=HK 1 y rfl;simp only[ou] at hn;have hwb:=hk1.2.2 b hPb hbl
   have hne:w.heap.size≠cb:=by omega
   obtain⟨v,hv⟩:∃ v,v=x.ty (aS p.defs) g res none:=⟨_,rfl⟩
   obtain⟨fq,hfm⟩:∃ fq,fq=lg v.2 x.at_ v.1 2:=⟨_,rfl⟩
   have vv:bq v.2:=by rw[hv];exact PZ.xu (aS p.defs) x g res none bq.none
   have ae0:bq fq:=by rw[hfm];exact qj _ _ _ vv
   obtain⟨u,hu⟩:∃ u,u=y.ty (aS p.defs) g res fq:=⟨_,rfl⟩
   have HT:Hid (R=u):=ay (by rw[HRR.out,hu,hfm,hv];rfl)
   have HX1:Hid (∀ W,aO cb w1 W->gu C cb none W->Calls Tryz.prog 51 #[.pointer (some ⟨cb,0,none⟩),.agg #[.int .i64 x.op,.string ⟨x.name.toArray⟩,.string ⟨x.module.toArray⟩,.bool (decide (x.num<0)),.slice qH qI qJ,.bool x.yes,.slice zI x.aB.length zJ,.int .i64 x.at_],.pointer (some ⟨mb,0,none⟩),.int .i64 res] W (LW C cb v W)):=ay λW hW hc=>by
    rw[hv];exact HX.out x (by simp) W B mb n g none qH qI qJ zI zJ hc (Hy.out.keep (hk1.trans hW).2) bq.none (HW.out.2.ck HW.out.1 (hk1.trans hW).2) (by omega) (hE1.frame (hk1.trans hW).2)
   have WM:Hid (∀ W,gu C cb v.2 W->Calls Tryz.prog 71 #[.pointer (some ⟨cb,0,none⟩),.agg #[.int .i64 x.op,.string ⟨x.name.toArray⟩,.string ⟨x.module.toArray⟩,.bool (decide (x.num<0)),.slice qH qI qJ,.bool x.yes,.slice zI x.aB.length zJ,.int .i64 x.at_],.int .i64 v.1,.int .i64 2] W (Uj C cb fq W)):=ay λW hc=>by
    rw[hfm];exact vg C cb v.2 _ _ _ _ _ _ _ _ _ _ W hc vv
   have JH:Hid (∀ W,aO cb w1 W->gu C cb fq W->Calls Tryz.prog 51 #[.pointer (some ⟨cb,0,none⟩),.agg #[.int .i64 y.op,.string ⟨y.name.toArray⟩,.string ⟨y.module.toArray⟩,.bool (decide (y.num<0)),.slice jY jZ j3,.bool y.yes,.slice kC y.aB.length kD,.int .i64 y.at_],.pointer (some ⟨mb,0,none⟩),.int .i64 res] W (LW C cb u W)):=ay λW hW hc=>by
    rw[hu];exact HX.out y (by simp) W B mb n g fq jY jZ j3 kC kD hc (Hy.out.keep (hk1.trans hW).2) ae0 (HW.out.2.ck HW.out.1 (hk1.trans hW).2) (by omega) (hE2.frame (hk1.trans hW).2)
   have HS:Hid (∀ W,aW (λb=>b≠cb) w1 W->(W.cell? ⟨w.heap.size,6,none⟩=some (.slice (some ⟨b,off,none⟩) 2 ce)/\(W.cell? ⟨b,off,none⟩=some (.int .i64 x.op)/\W.cell? ⟨b,off+1,none⟩=some (.string ⟨x.name.toArray⟩)/\W.cell? ⟨b,off+2,none⟩=some (.string ⟨x.module.toArray⟩)/\W.cell? ⟨b,off+3,none⟩=some (.bool (decide (x.num<0)))/\W.cell? ⟨b,off+4,none⟩=some (.slice qH qI qJ)/\W.cell? ⟨b,off+5,none⟩=some (.bool x.yes)/\W.cell? ⟨b,off+6,none⟩=some (.slice zI x.aB.length zJ)/\W.cell? ⟨b,off+7,none⟩=some (.int .i64 x.at_)))):=ay λW hW=>by
    have g1:=aI ((hW.2 w.heap.size hne hl1).trans HG.out);have c1:=hc1 W ((hW.2 b hPb (by omega)).trans hwb);simp only[Nat.zero_mul,nZ,Nat.one_mul,vN,Nat.reduceAdd,Nat.reduceMul] at c1;exact⟨g1.2.2.2.2.2.2.1,⟨c1 0 _ rfl,c1 1 _ rfl,c1 2 _ rfl,c1 3 _ rfl,c1 4 _ rfl,c1 5 _ rfl,c1 6 _ rfl,c1 7 _ rfl⟩⟩
   have HS2:Hid (∀ W,aW (λb=>b≠cb) w1 W->(W.cell? ⟨w.heap.size,0,none⟩=some (.int .i64 23)/\W.cell? ⟨w.heap.size,6,none⟩=some (.slice (some ⟨b,off,none⟩) 2 ce)/\(W.cell? ⟨b,off+8,none⟩=some (.int .i64 y.op)/\W.cell? ⟨b,off+9,none⟩=some (.string ⟨y.name.toArray⟩)/\W.cell? ⟨b,off+10,none⟩=some (.string ⟨y.module.toArray⟩)/\W.cell? ⟨b,off+11,none⟩=some (.bool (decide (y.num<0)))/\W.cell? ⟨b,off+12,none⟩=some (.slice jY jZ j3)/\W.cell? ⟨b,off+13,none⟩=some (.bool y.yes)/\W.cell? ⟨b,off+14,none⟩=some (.slice kC y.aB.length kD)/\W.cell? ⟨b,off+15,none⟩=some (.int .i64 y.at_)))):=ay λW hW=>by
    have g1:=aI ((hW.2 w.heap.size hne hl1).trans HG.out);have c2:=hc2 W ((hW.2 b hPb (by omega)).trans hwb);simp only[Nat.zero_mul,nZ,Nat.one_mul,vN,Nat.reduceAdd,Nat.reduceMul] at c2;exact⟨g1.1,g1.2.2.2.2.2.2.1,⟨c2 0 _ rfl,c2 1 _ rfl,c2 2 _ rfl,c2 3 _ rfl,c2 4 _ rfl,c2 5 _ rfl,c2 6 _ rfl,c2 7 _ rfl⟩⟩
   clear DL mI HX HZ HRR HK hc1 hc2 hE1 hE2 hv hu hfm
   go_upto_region 42 with fail
   clear y0 y1 y2 y3 y4 y5 y6 y7;have p3:=HS.out w1 (aW.refl _ _)
   go_region_held3 (λW=>W.cell? ⟨w.heap.size,6,none⟩=some (.slice (some ⟨b,off,none⟩) 2 ce)/\(W.cell? ⟨b,off,none⟩=some (.int .i64 x.op)/\W.cell? ⟨b,off+1,none⟩=some (.string ⟨x.name.toArray⟩)/\W.cell? ⟨b,off+2,none⟩=some (.string ⟨x.module.toArray⟩)/\W.cell? ⟨b,off+3,none⟩=some (.bool (decide (x.num<0)))/\W.cell? ⟨b,off+4,none⟩=some (.slice qH qI qJ)/\W.cell? ⟨b,off+5,none⟩=some (.bool x.yes)/\W.cell? ⟨b,off+6,none⟩=some (.slice zI x.aB.length zJ)/\W.cell? ⟨b,off+7,none⟩=some (.int .i64 x.at_)))
    (first|(with_reducible exact p3)|(with_reducible exact p4)|(with_reducible exact p5)|(go_keep;done))
    (first
     | (go_at_call 71;refine(WM.out w3 h3).mono ?_;rintro r w4 ⟨rfl,h4,hk4⟩;have p5:=HS.out w4 (((aO.drew cb w1).trans eP).trans hk4).2)
     | (go_at_call 51;refine(HX1.out w1.drew (aO.drew cb w1) H1.out).mono ?_;rintro r w3 ⟨rfl,h3,eP⟩;have p4:=HS.out w3 ((aO.drew cb w1).trans eP).2))
   clear p3 p4 p5;have SH:=((aO.drew cb w1).trans eP).trans hk4;obtain⟨o0,q6,q0,q1,q2,q3,q4,q5,q7,q8⟩:=HS2.out w4 SH.2;go_wp2_with (go_at_call 51;refine(JH.out w4 SH h4).mono ?_;rintro r w5 ⟨rfl,h5,iN⟩);go_ret;exact⟨by rw[HR.out,HT.out];rfl,by rw[HR.out,HT.out];exact h5,(hk1.trans SH).trans iN⟩
mutual
theorem Dw (p:ZP):∀ x:PZ,x.shape=true->lF p x
 | .mk op nm md num yes aB a,hr=>SF p op num a nm md yes aB (AV p aB (by rw[PZ.shape,uw] at hr;exact hr.2)) (PZ.WQ hr).1
theorem AV (p:ZP):∀ l:List PZ,sN l=true->∀ k∈l,lF p k
 | [],_,k,h=>by cases h
 | e :: l,hr,k,h=>by
  rw[sN,uw] at hr
  rcases nY.1 h with q|q
  ·rw[q];exact Dw p e hr.1
  ·exact AV p l hr.2 k q
end
theorem Kh (p:ZP)(fm:Bool)(x:PZ)(h:x.right fm=true):lF p x:=Dw p x (Dv x h)
theorem LX (dG:dS)(g:dM)(res:Int){f:Fl}(l:List PZ)(h:bq f):bq (GU dG g res f l):=rM g res 2 (by rw[<- um];exact Cq dG l) h
theorem Cr (dG:dS):∀ (l:List ZF) (s:dM × Fl),bq s.2->bq (fM dG s l).2
 | [],_,h=>h
 | x :: l,s,h=>Cr dG l _ (LX dG _ 0 x.aC h)
theorem ae5 (p:ZP)(C:IU)(cb:Nat)(f:Fl)(d:ZD)(ap:Option Addr)(cp:Nat)(ac:Option Addr)(cc:Nat)(am:Option Addr)(wn cm:Nat)(ae:Option Addr)(ce:Nat)(w:World)(h:gu C cb f w)(hkm:KM p C cb w)(hf:bq f)(hfit:d.qF)(hcp:∀ x∈d.params,∀ e∈x.aC,lF p e)(dI:∀ e∈d.res.aC,lF p e)(hcb:lF p d.body)
  (hP:RowK ZFK (λb=>b≠cb) w (.slice ap d.params.length cp) d.params) (hC:RowK (ZK YA) (λb=>b≠cb) w (.slice ac d.res.aC.length cc) d.res.aC) (hE:l7 YA (λb=>b≠cb) w (.slice am wn cm) (.slice ae d.body.aB.length ce) d.body) :
  Calls Tryz.prog 31 #[.pointer (some ⟨cb,0,none⟩),.agg (gN d ap cp ac cc am wn cm ae ce)] w (Uj C cb (xq (aS p.defs) f d) w):=by
 have hal:=aA w (.cells (gN d ap cp ac cc am wn cm ae ce) 62);have g0:=aX w (.cells (gN d ap cp ac cc am wn cm ae ce) 62);obtain⟨PN,PO,hv,_,hform⟩:=hP.form;simp only[Value.slice.injEq] at hv;obtain⟨rfl,-,rfl⟩:=hv;have Vj:=h.lt;have h1:=h.below hal;have hk1:=aO.of hal Vj;have HF:=ay hform;have rZ:=ay hfit;have Hy:=ay hkm;have HCP:=ay (gy hcp dI);have VH:=ay hC;have hps:=hfit.lX;have HE0:=ay hE;have HX:=ay hcb
 obtain⟨R,hR⟩:∃ R,R=xq (aS p.defs) f d:=⟨_,rfl⟩
 rw[<- hR];have sU:=ay hR;have Ay:=ay hf;clear h hf hfit hkm hcp dI hcb hP hC hE hform hR;generalize Hf:aS p.defs=dG at *;go_enter Tryz.func31,Tryz.ntmps31
 go_upto_region 1 with fail
 change Code.wp _ _ _ _ (w.alloc _);generalize w.alloc _=w1 at *;have hl1:=(bP g0).1;have hcw:cb<w1.heap.size:=h1.lt
 have hne:w.heap.size≠cb:=by omega
 have H1:=ay h1;have HG:=ay g0;clear h1 g0
 go_upto_region 2 with (go_at_call 47;refine(abv w1).mono ?_;rintro e w2 ⟨rfl,hg2,hb2⟩)
 have HG2:=ay hg2;clear hg2;have hy2:=(aV ((hb2.block _ hl1).trans HG.out)).2.2.1;generalize agX:d.params=ps at *;go_wp2;clear hy2;have hz2:=hb2.size
 go_loopw [11] (λq wr=>∃ k:Nat,k<=ps.length/\q=.int .i64 k/\jM w1.heap.size w1.heap.size (fM dG (λ_=>none,f) (ps.take k)).1 k wr/\gu C cb (fM dG (λ_=>none,f) (ps.take k)).2 wr/\aO cb w1 wr) (λq _=>ps.length - (intOf q).toNat)
 case atStart=>exact⟨0,kJ _,rfl,HG2.out,H1.out.below hb2,aO.of hb2 hcw⟩
 case round =>
  obtain⟨k,hk,rfl,hgr,dI,hkr⟩:=hrel;have Mg:=ay hgr;have HCR:=ay dI;clear hgr dI;have DY:=hkr.2.1;have Cc:=hk1.trans hkr;have hfs:=Cr dG (ps.take k) (λ_=>none,f) Ay.out
  by_cases hlt:k<ps.length
  ·obtain⟨b,off,rfl,hPb,hbw,iw⟩:=HF.out (by omega)
   obtain⟨cv,hcl,hc⟩:=iw k hlt
   replace hcl:RowK (ZK YA) (λb=>b≠cb) w cv ps[k].aC:=hcl
   obtain⟨a2,c2,rfl⟩:=RowK.slice hcl;have hbk:=Cc.2.2 b hPb hbw
   have dI:∀ (j:Nat) (u:Value),w.cell? ⟨b,off+k * 5+j,none⟩=some u->wr.cell? ⟨b,off+k * 5+j,none⟩=some u:=λj u q=>(yK (a:=⟨b,off+k * 5+j,none⟩) hbk).trans q
   have x0:=dI 0 _ (hc 0 _ rfl);have x1:=dI 1 _ (hc 1 _ rfl);have x2:=dI 2 _ (hc 2 _ rfl);have x3:=dI 3 _ (hc 3 _ rfl);have x4:=dI 4 _ (hc 4 _ rfl);rw[nZ] at x0;simp only[fC] at x0;have hpe:=OZ dG (λ_=>none,f) hlt
   have hmem:ps[k]∈d.params:=by rw[agX];exact nH hlt
   have HPF:=ay (rZ.out.pcl _ hmem);have HPC:=ay (HCP.out.1 _ (nH hlt));have DL:=ay hcl;clear iw hcl hc dI hbk hmem;generalize ps[k]=x at *;generalize fM dG (λ_=>none,f) (ps.take k)=s at *;obtain⟨g,fk⟩:=s;dsimp only at hpe hfs Mg HCR;have HPE:=ay hpe;clear hpe
   have nK:(k:Int)<(ps.length:Int):=by omega
   have fJ:=aA wr (.cells #[.string ⟨x.name.toArray⟩,.int .i64 x.base,.slice a2 x.aC.length c2,.int .i64 x.at_,.int .i64 x.bare] 103);have gk:=aX wr (.cells #[.string ⟨x.name.toArray⟩,.int .i64 x.base,.slice a2 x.aC.length c2,.int .i64 x.at_,.int .i64 x.bare] 103)
   go_upto_region 5 with fail
   change Code.wp _ _ _ _ (wr.alloc (.cells #[.string ⟨x.name.toArray⟩,.int .i64 x.base,.slice a2 x.aC.length c2,.int .i64 x.at_,.int .i64 x.bare] 103));clear x0 x1 x2 x3 x4;generalize wr.alloc _=w3 at *;have hz3:=fJ.size;have HPT:=ay (Pm w1.heap.size w1.heap.size k g x.name x.base w3 (Mg.out.below fJ) (by omega) (bD _) (by omega));have Qz:=hkr.trans (aO.of fJ HCR.out.lt);have hc3:=HCR.out.below fJ;have hlk:=(bP gk).1;have HC3:=ay hc3
   have hnb:wr.heap.size≠w1.heap.size:=by have:=Mg.out.lt;omega
   obtain⟨p0,p1,p2,p3,p4⟩:=dF gk;have Zi:=ay gk;have agY:=ay (λ(W:World) (f2:Fl) (g2:dM) (h2:gu C cb f2 W) (hf2:bq f2) (hg2:jM w1.heap.size w1.heap.size g2 (k+1) W) (hW:aO cb w1 W)=>Kg p x.aC HPC.out C cb w1.heap.size w1.heap.size (k+1) g2 0 f2 a2 c2 W h2 (Hy.out.keep (hk1.trans hW).2) hf2 hg2 (λe he=>by have:=HPF.out.2 e he;omega) (by have:=HPF.out.1;omega) (DL.out.frame (hk1.trans hW).2));rw[Hf] at agY;clear gk fJ hc3;go_wp2_with (first|(go_at_call 49;refine HPT.out.mono ?_;rintro r w4 ⟨⟨rb,rfl⟩,hg4,hb4,hk4⟩;have Va:=Qz.low hb4 hcw;have hc4:=(hb4.block cb hcw).trans HC3.out;have y2:=(dF ((hk4 _ _ _ _ hnb (by decide) Zi.out).trans Zi.out)).2.2.1)|(go_at_call 70;refine(agY.out w4 _ _ hc4 hfs hg4 Va).mono ?_;rintro r w5 ⟨rfl,hc5,iN⟩))
   go_roundw
   case rel=>exact⟨k+1,by omega,by go_num,by rw[HPE.out];exact hg4.ck hc4 iN.2,by rw[HPE.out];exact hc5,Va.trans iN⟩
   case measure=>simp[intOf];omega
  ·obtain rfl:k=ps.length:=by omega
   have nK:decide ((ps.length:Int)<(ps.length:Int))=false:=dX (by omega);have hgr:=Mg.out;rw[zG] at hgr hfs;have dI:=HCR.out;rw[zG] at dI;generalize hs:fM dG (λ_=>none,f) ps=s at *;obtain⟨g,fp⟩:=s;dsimp only at hgr hfs dI;have HGE:=ay hgr;have HCE:=ay dI;clear hgr Mg dI HCR
   have HS:Hid (∀ W,aW (λb=>b≠cb) wr W->(W.cell? ⟨w.heap.size,3,none⟩=some (.int .i64 d.res.base)/\W.cell? ⟨w.heap.size,5,none⟩=some (.int .i64 d.body.op)/\W.cell? ⟨w.heap.size,6,none⟩=some (.string ⟨d.body.name.toArray⟩)/\W.cell? ⟨w.heap.size,7,none⟩=some (.string ⟨d.body.module.toArray⟩)/\W.cell? ⟨w.heap.size,8,none⟩=some (.bool (decide (d.body.num<0)))/\W.cell? ⟨w.heap.size,9,none⟩=some (.slice am wn cm)/\W.cell? ⟨w.heap.size,10,none⟩=some (.bool d.body.yes)/\W.cell? ⟨w.heap.size,11,none⟩=some (.slice ae d.body.aB.length ce)/\W.cell? ⟨w.heap.size,12,none⟩=some (.int .i64 d.body.at_))):=ay λW hW=>by
    have hl:=xw hl1 DY;obtain⟨-,-,-,q3,-,q5,q6,q7,q8,q9,q10,q11,q12,-⟩:=aV ((hW.2 w.heap.size hne hl).trans ((hkr.2.2 _ hne hl1).trans HG.out));exact⟨q3,q5,q6,q7,q8,q9,q10,q11,q12⟩
   obtain⟨y0,y1,y2,y3,y4,y5,y6,y7,y8,y9,rP,rQ,rR,y13,PV⟩:=aV ((hkr.2.2 _ hne hl1).trans HG.out);clear y0 y1 y2 y5 y6 y7 y8 y9 rP rQ rR y13 PV;have hfc:=LX dG g d.res.base d.res.aC hfs;have ae6:=ay (Kg p d.res.aC HCP.out.2 C cb w1.heap.size w1.heap.size ps.length g d.res.base fp ac cc wr HCE.out (Hy.out.keep Cc.2) hfs HGE.out (λe he=>by have:=rZ.out.cl.2 e he;omega) (by have:=rZ.out.cl.1;omega) (VH.out.frame Cc.2));rw[Hf] at ae6
   obtain⟨fc,ae7⟩:∃ fc,fc=GU dG g d.res.base fp d.res.aC:=⟨_,rfl⟩
   rw[<- ae7] at hfc ae6;have hok:=PZ.xu dG d.body g 0 fc hfc
   obtain⟨v,hv⟩:∃ v,v=d.body.ty dG g 0 fc:=⟨_,rfl⟩
   rw[<- hv] at hok
   have HX1:Hid (∀ W,aO cb wr W->gu C cb fc W->Calls Tryz.prog 51 #[.pointer (some ⟨cb,0,none⟩),.agg #[.int .i64 d.body.op,.string ⟨d.body.name.toArray⟩,.string ⟨d.body.module.toArray⟩,.bool (decide (d.body.num<0)),.slice am wn cm,.bool d.body.yes,.slice ae d.body.aB.length ce,.int .i64 d.body.at_],.pointer (some ⟨w1.heap.size,0,none⟩),.int .i64 0] W (LW C cb v W)):=ay λW hW hc=>by
    have hq:=HX.out C cb w1.heap.size w1.heap.size ps.length g 0 fc am wn cm ae ce W hc (Hy.out.keep (Cc.trans hW).2) hfc (HGE.out.ck HCE.out hW.2) (by have:=rZ.out.body;omega) (HE0.out.frame (Cc.trans hW).2);rw[Hf,<- hv] at hq;exact hq
   have WM:Hid (∀ W,gu C cb v.2 W->Calls Tryz.prog 71 #[.pointer (some ⟨cb,0,none⟩),.agg #[.int .i64 d.body.op,.string ⟨d.body.name.toArray⟩,.string ⟨d.body.module.toArray⟩,.bool (decide (d.body.num<0)),.slice am wn cm,.bool d.body.yes,.slice ae d.body.aB.length ce,.int .i64 d.body.at_],.int .i64 v.1,.int .i64 d.res.base] W (Uj C cb R W)):=ay λW hc=>by
    rw[sU.out,xq,agX,hs,<- ae7,<- hv];exact vg C cb v.2 _ _ _ _ _ _ _ _ _ _ W hc hok
   clear hv ae7 hok hfs hfc sU
   go_upto_region 9 with (go_at_call 70;refine ae6.out.mono ?_;rintro r w5 ⟨rfl,h5,iN⟩)
   clear y3 y4;have H5:=ay h5;have p3:=HS.out w5 iN.2;clear h5
   go_region_held3 (λW=>W.cell? ⟨w.heap.size,3,none⟩=some (.int .i64 d.res.base)/\W.cell? ⟨w.heap.size,5,none⟩=some (.int .i64 d.body.op)/\W.cell? ⟨w.heap.size,6,none⟩=some (.string ⟨d.body.name.toArray⟩)/\W.cell? ⟨w.heap.size,7,none⟩=some (.string ⟨d.body.module.toArray⟩)/\W.cell? ⟨w.heap.size,8,none⟩=some (.bool (decide (d.body.num<0)))/\W.cell? ⟨w.heap.size,9,none⟩=some (.slice am wn cm)/\W.cell? ⟨w.heap.size,10,none⟩=some (.bool d.body.yes)/\W.cell? ⟨w.heap.size,11,none⟩=some (.slice ae d.body.aB.length ce)/\W.cell? ⟨w.heap.size,12,none⟩=some (.int .i64 d.body.at_))
    (first|(with_reducible exact p3)|(with_reducible exact p4)|(with_reducible exact p5)|(go_keep;done))
    (first
     | (go_at_call 71;refine(WM.out w6 h6).mono ?_;rintro r w7 ⟨rfl,h7,tK⟩;have p5:=HS.out w7 (((iN.trans (aO.drew cb w5)).trans mR).trans tK).2)
     | (go_at_call 51;refine(HX1.out w5.drew (iN.trans (aO.drew cb w5)) H5.out).mono ?_;rintro r w6 ⟨rfl,h6,mR⟩;have p4:=HS.out w6 ((iN.trans (aO.drew cb w5)).trans mR).2))
   all_goals
    go_wp2_with fail
    go_end0
    exact⟨rfl,h7,Cc.trans (((iN.trans (aO.drew cb w5)).trans mR).trans tK)⟩
theorem SI (C:PU)(lb:Nat)(im:Value)(f:Fl)(nm:aH)(a:Option Addr)(c:Nat)(w:World)(h:ku C lb im f w)(hfs:C.fs=.slice a 0 c) :
  Calls Tryz.prog 79 #[.pointer (some ⟨lb,0,none⟩),.string ⟨nm.toArray⟩] w λe w'=>e=.returned (.bool false)/\w'=w:=by
 obtain⟨⟨-,-,-,k3,-,-,-,-⟩,-⟩:=h.cells;rw[hfs] at k3;clear h hfs;go_enter Tryz.func79,Tryz.ntmps79;go_wp2
 go_loopw [12] (λq wr=>q=.int .i64 0/\wr=w) (λ_ _=>0)
 case atStart=>exact⟨rfl,rfl⟩
 case round =>
  obtain⟨rfl,rfl⟩:=hrel;go_wp2;go_ret;exact⟨rfl,rfl⟩
theorem Tryz.abB:∀ args w,(callFunc 61 args).run Tryz.prog w=.ok (.enter 61 args) w:=Go.Proofs.enters_of Tryz.func61 (by kernel_rfl) rfl
def ae8 (C:PU)(lb:Nat)(S:List aH)(f:Fl)(w:World)(r:Ending)(w':World):Prop:=r=.returned (.tuple #[])/\∃ a c,ku C lb (.slice a S.length c) f w'/\fK (λb=>b≠lb/\w.heap.size<=b) w' (.slice a S.length c) S/\aO lb w w'
theorem IW (C:PU)(lb:Nat)(ab:Option Addr)(cb:Nat)(bd:List aH)(f:Fl)(nm:aH)(at_:Int)(af:Option Addr)(cf:Nat)(w:World)(h:ku C lb (.slice ab bd.length cb) f w)(hfs:C.fs=.slice af 0 cf)(ht:fK (λb=>b≠lb) w (.slice ab bd.length cb) bd)(hr:bd.Pairwise (· < ·))(hl:bd.length<=400000)(hf:bq f) :
  Calls Tryz.prog 35 #[.pointer (some ⟨lb,0,none⟩),.agg #[.string ⟨nm.toArray⟩,.int .i64 at_]] w (ae8 C lb (gD (bd++[nm])) (kY f (if nm=C.md then some (33,at_) else if nm∈bd then some (30,at_) else some (33,at_))) w):=by
 have hal:=aA w (.cells #[.string ⟨nm.toArray⟩,.int .i64 at_] 50);have g0:=aX w (.cells #[.string ⟨nm.toArray⟩,.int .i64 at_] 50);have Vj:=h.lt;have hL1:=h.below hal;have hk1:=aO.of hal Vj;have hT1:=ht.below hal;have hsl:=pR (bd++[nm]);rw[bY,List.length_singleton] at hsl
 obtain⟨f1,hf1⟩:∃ f1,f1=kY f (if nm=C.md then some (33,at_) else if nm∈bd then some (30,at_) else some (33,at_)):=⟨_,rfl⟩
 rw[<- hf1];have D5:=ay hf1;clear h ht hf1;go_enter Tryz.func35,Tryz.ntmps35
 go_upto_block 0 with fail
 change Code.wp _ _ _ _ (w.alloc _);generalize w.alloc _=w1 at *;have hl1:=(bP g0).1
 have hne:w.heap.size≠lb:=by omega
 obtain⟨y0,y1⟩:=jk g0;obtain⟨⟨k0,-,-,-,k4,-,-,-⟩,kz⟩:=hL1.cells;have kz4:=kz 4;have RO:=ay hL1;have HT1:=ay hT1;have HG:=ay g0;have HR:=ay hr;have Ay:=ay hf;have HFS:=ay hfs;clear hL1 hT1 g0 hr kz hf hfs
 obtain⟨t,ht⟩:∃ t,t=decide (nm=C.md):=⟨_,rfl⟩
 have hcmp:(nm == C.md)=t:=by rw[ht];by_cases q:nm=C.md<;>simp[q]
 have Me:=ay ht;clear ht kz4
 go_cut [] (λwc=>ku C lb (.slice ab bd.length cb) f1 wc/\aO lb w1 wc)
 case first =>
  go_upto_region 1 with fail
  go_cut [4] (λv wc=>v=.bool t/\Below w1.heap.size w1 wc)
  case first =>
   go_region_with fail
   all_goals
    go_wp2_with fail
    go_meet
    exact⟨rfl,(bQ _ _).drew⟩
  case rest =>
  obtain⟨rfl,hq1⟩:=hcut
  obtain⟨w2,rfl⟩:∃ w2:World,w2=wc:=⟨_,rfl⟩
  clear y0 y1 k0 k4 hcmp;have hk2:=aO.of hq1 RO.out.lt;have hg2:=(hq1.block _ hl1).trans HG.out;have hL2:=RO.out.below hq1;have HL2:=ay hL2;have HG2:=ay hg2;have HT2:=ay (HT1.out.below hq1);have hl2:=(bP hg2).1;obtain⟨y0,y1⟩:=jk hg2;obtain⟨⟨k0,-,-,-,k4,-,-,-⟩,-⟩:=hL2.cells;clear hg2 hL2
  cases t with
  | true =>
   have hq:nm=C.md:=PY Me.out.symm;have HE:Hid (f1=kY f (some (33,at_))):=ay (by rw[D5.out,bR hq]);have JR:=ay (oZ C lb _ f 33 at_ w2 HL2.out Ay.out);clear hq;go_wp2_with (go_at_call 37;refine JR.out.mono ?_;rintro e w5 ⟨rfl,hl5,iN⟩)
   go_meet
   exact⟨by rw[HE.out];exact hl5,hk2.trans iN⟩
  | false =>
   have hq:nm≠C.md:=of_decide_eq_false Me.out.symm;have HE:Hid (f1=kY f (if nm∈bd then some (30,at_) else some (33,at_))):=ay (by rw[D5.out,aU hq]);have HH:=ay (λW (hW:Below w2.heap.size w2 W)=>Ar _ ab cb bd ⟨nm.toArray⟩ W (HT2.out.below hW) HR.out (by omega));simp only at HH
   obtain⟨m,hm⟩:∃ m,m=decide (nm∈bd):=⟨_,rfl⟩
   rw[<- hm] at HH;have uy:=ay hm;clear hq D5 hm
   go_upto_region 3 with fail
   go_cut [16] (λv wc=>v=.bool m/\Below w2.heap.size w2 wc)
   case first =>
    go_region_with (go_at_call 78;refine(HH.out _ (bQ _ _).drew).mono ?_;rintro e w3 ⟨rfl,hb3⟩)
    all_goals
     go_wp2_with fail
     go_meet
     exact⟨rfl,(bQ _ _).drew.trans hb3⟩
   case rest =>
    obtain⟨rfl,hq3⟩:=hcut
    obtain⟨w3,rfl⟩:∃ w3:World,w3=wc:=⟨_,rfl⟩
    clear y0 y1 k0 k4 HH;have hL3:=HL2.out.below hq3;obtain⟨y0,y1⟩:=jk ((hq3.block _ hl2).trans HG2.out);have IJ:=ay hL3;have eP:=aO.of hq3 HL2.out.lt;clear hL3
    cases m with
    | true =>
     have HE2:Hid (f1=kY f (some (30,at_))):=ay (by rw[HE.out,bR (PY uy.out.symm)]);have JR:=ay (oZ C lb _ f 30 at_ w3 IJ.out Ay.out);clear uy HE;go_wp2_with (go_at_call 37;refine JR.out.mono ?_;rintro e w5 ⟨rfl,hl5,iN⟩)
     go_meet
     exact⟨by rw[HE2.out];exact hl5,hk2.trans (eP.trans iN)⟩
    | false =>
     have HE2:Hid (f1=kY f (some (33,at_))):=ay (by rw[HE.out,aU (of_decide_eq_false uy.out.symm)]);have JR:=ay (oZ C lb _ f 33 at_ w3 IJ.out Ay.out);have HFC:=ay (SI C lb _ f nm af cf w3 IJ.out HFS.out);clear uy HE;go_wp2_with (first|(go_at_call 79;refine HFC.out.mono ?_;rintro e w4 ⟨rfl,rfl⟩)|(go_at_call 37;refine JR.out.mono ?_;rintro e w5 ⟨rfl,hl5,iN⟩))
     go_meet
     exact⟨by rw[HE2.out];exact hl5,hk2.trans (eP.trans iN)⟩
 case rest =>
  obtain⟨hl5,iN⟩:=hcut
  obtain⟨w5,rfl⟩:∃ w5:World,w5=wc:=⟨_,rfl⟩
  clear y0 y1 k0 k4;have g5:=(iN.2.2 _ hne hl1).trans HG.out;obtain⟨y0,y1⟩:=jk g5;obtain⟨⟨k0,-,-,-,k4,-,-,-⟩,kz⟩:=hl5.cells;have kz4:=kz 4;have hT5:=HT1.out.frame iN.2;have agt:=hl5.lt;have ain:w.heap.size<w5.heap.size:=xw hl1 iN.2.1;have OA:=ay hl5;have HG5:=ay g5;have HW:=ay (λ(W:World) (hW:Below w5.heap.size w5 W)=>Av (λ_=>True) ab cb (.slice (some ⟨W.heap.size,0,none⟩) 1 1) bd [nm] (W.alloc (.cells #[.string ⟨nm.toArray⟩] 9)).drew ((((hT5.below hW).below (aA W _)).below (bQ _ _).drew).imp λ_ _ _=>trivial) ((Ej W nm).below (bQ _ _).drew) (by omega) (by simp));have HSR:=ay (pQ (bd++[nm]));clear hl5 g5 kz hT5 D5 RO HT1 HG Me;generalize gD (bd++[nm])=S at *
  have HS:Hid (∀ W,Below w5.heap.size w5 W->(W.cell? ⟨lb,4,none⟩=some (.slice ab bd.length cb)/\W.frozen? ⟨lb,4,none⟩=false/\W.cell? ⟨w.heap.size,0,none⟩=some (.string ⟨nm.toArray⟩))):=ay λW hW=>⟨(OA.out.below hW).cells.1.2.2.2.2.1,(OA.out.below hW).cells.2 4,(jk ((hW.block _ ain).trans HG5.out)).1⟩
  have HKE:=ay iN;obtain⟨c4,z4,n0⟩:=HS.out _ (bQ _ _).drew
  have c4A:∀ o,(w5.alloc o).drew.cell? ⟨lb,4,none⟩=some (.slice ab bd.length cb):=λo=>(HS.out _ (aA w5 o).drew).1
  have n0A:∀ o,(w5.alloc o).drew.cell? ⟨w.heap.size,0,none⟩=some (.string ⟨nm.toArray⟩):=λo=>(HS.out _ (aA w5 o).drew).2.2
  have aio:=Tryz.abB
  go_upto_region 7 with fail
  refine wp_region_held_drew (S:=(λW=>W.cell? ⟨w.heap.size,0,none⟩=some (.string ⟨nm.toArray⟩))) (by kernel_rfl) n0 (λhHeld=>?_);refine wpAnyH_take (i:=0) (oi:=⟨some 38,_,_,_,_,_⟩) (v:=?_) rfl (by kernel_rfl) (by kernel_rfl) (by kernel_rfl) (λ_ _ _ h=>h) (Or.inl ⟨by rfl,?_⟩) hHeld ?_
  rotate_left
  ·intro w hSw;(try dsimp only at hSw);go_simp;try (with_reducible rfl)
  simp only[Act.put,List.setIfInBounds_toArray,List.set_cons_zero,List.set_cons_succ];refine wpAnyH_take (i:=1) (oi:=⟨some 39,_,_,_,_,_⟩) (v:=?_) rfl (by kernel_rfl) (by kernel_rfl) (by kernel_rfl) (λ_ _ _ h=>h) (Or.inl ⟨by rfl,?_⟩) hHeld ?_
  rotate_left
  ·intro w hSw;(try dsimp only at hSw);go_simp;try (with_reducible rfl)
  simp only[Act.put,List.setIfInBounds_toArray,List.set_cons_zero,List.set_cons_succ];refine wpAnyH_take (i:=2) (oi:=⟨some 40,_,_,_,_,_⟩) (v:=?_) rfl (by kernel_rfl) (by kernel_rfl) (by kernel_rfl) (λ_ _ _ h=>h) (Or.inl ⟨by rfl,?_⟩) hHeld ?_
  rotate_left
  ·intro w hSw;(try dsimp only at hSw);go_simp;try (with_reducible rfl)
  simp only[Act.put,List.setIfInBounds_toArray,List.set_cons_zero,List.set_cons_succ];refine wpAnyH_take (i:=3) (oi:=⟨some 41,_,_,_,_,_⟩) (v:=?_) rfl (by kernel_rfl) (by kernel_rfl) (by kernel_rfl) (λ_ _ _ h=>h) (Or.inl ⟨by rfl,?_⟩) hHeld ?_
  rotate_left
  ·intro w hSw;(try dsimp only at hSw);go_simp;try (with_reducible rfl)
  simp only[Act.put,List.setIfInBounds_toArray,List.set_cons_zero,List.set_cons_succ];refine wpAnyH_take (i:=5) (oi:=⟨some 43,_,_,_,_,_⟩) (v:=?_) rfl (by kernel_rfl) (by kernel_rfl) (by kernel_rfl) (λ_ _ _ h=>h) (Or.inl ⟨by rfl,?_⟩) hHeld ?_
  rotate_left
  ·intro w hSw;(try dsimp only at hSw);go_simp;try (with_reducible rfl)
  simp only[Act.put,List.setIfInBounds_toArray,List.set_cons_zero,List.set_cons_succ];refine wpAnyH_take (i:=6) (oi:=⟨some 44,_,_,_,_,_⟩) (v:=?_) rfl (by kernel_rfl) (by kernel_rfl) (by kernel_rfl) (λ_ _ _ h=>h) (Or.inl ⟨by rfl,?_⟩) hHeld ?_
  rotate_left
  ·intro w hSw;(try dsimp only at hSw);go_simp;try (with_reducible rfl)
  simp only[Act.put,List.setIfInBounds_toArray,List.set_cons_zero,List.set_cons_succ];refine wpAnyH_ready (rs:=[4,7]) (by kernel_rfl) (by simp) (AllReadyH.cons (o:=⟨some 42,_,_,_,_,_⟩) rfl (λK hK=>?_) (AllReadyH.cons (o:=⟨some 45,_,_,_,_,_⟩) rfl (λK hK=>?_) AllReadyH.nil));go_simp;refine hK.out _ _ (hHeld) (λhHeld=>?_);clear hK K;refine wpAnyH_ready (rs:=[7]) (by kernel_rfl) (by simp) (AllReadyH.cons (o:=⟨some 45,_,_,_,_,_⟩) rfl (λK hK=>?_) AllReadyH.nil)
  all_goals
   go_simp;refine hK.out _ _ (n0A _) (λhHeld=>?_);clear hK K
  rotate_left 1;refine wpAnyH_ready (rs:=[4]) (by kernel_rfl) (by simp) (AllReadyH.cons (o:=⟨some 42,_,_,_,_,_⟩) rfl (λK hK=>?_) AllReadyH.nil);go_simp;refine hK.out _ _ (hHeld) (λhHeld=>?_);clear hK K;rotate_right 1
  all_goals refine wpAnyH_ready (rs:=[8]) (by kernel_rfl) (by simp) (AllReadyH.cons (o:=⟨some 46,_,_,_,_,_⟩) rfl (λK hK=>?_) AllReadyH.nil)
  all_goals
   refine tL rfl 61 _ _ rfl (HW.out w5 (bQ _ _)) (by rfl) (aio _ _) ?_;rintro e w6 ⟨a6,c6,rfl,ht6,hb6⟩;refine⟨_,rfl,?_⟩;have oU:=(aA w5 (.cells #[.string ⟨nm.toArray⟩] 9)).drew.trans (hb6.mono (by simp));have z6:=(HS.out w6 oU).2.1;have c6':=(HS.out w6 oU).1;have p3:=(HS.out w6 oU).2.2;have p3a:=λv=>(World.cell?_setCell_far w6 ⟨lb,4,none⟩ ⟨w.heap.size,0,none⟩ v (Ne.symm hne)).trans p3
   refine hK.out _ _ (p3) (λhHeld=>?_);clear hK K
  all_goals
   refine wpAnyH_take (i:=9) (oi:=⟨some 47,_,_,_,_,_⟩) (v:=?_) rfl (by kernel_rfl) (by kernel_rfl) (by kernel_rfl) (λ_ _ _ h=>h) (Or.inl ⟨by rfl,?_⟩) hHeld ?_;rotate_left
   ·intro w hSw;(try dsimp only at hSw);go_simp;try (with_reducible rfl)
   simp only[Act.put,List.setIfInBounds_toArray,List.set_cons_zero,List.set_cons_succ]
  all_goals
   refine wpAnyH_take (i:=10) (oi:=⟨some 48,_,_,_,_,_⟩) (v:=?_) rfl (by kernel_rfl) (by kernel_rfl) (by kernel_rfl) (λ_ _ _ h=>h) (Or.inl ⟨by rfl,?_⟩) hHeld ?_;rotate_left
   ·intro w hSw;(try dsimp only at hSw);go_simp;try (with_reducible rfl)
   simp only[Act.put,List.setIfInBounds_toArray,List.set_cons_zero,List.set_cons_succ]
  all_goals refine wpAnyH_ready (rs:=[11]) (by kernel_rfl) (by simp) (AllReadyH.cons (o:=⟨none,_,_,_,_,_⟩) rfl (λK hK=>?_) AllReadyH.nil)
  all_goals
   go_simp;refine hK.out _ _ (p3a _) (λhHeld=>?_);clear hK K
  all_goals refine wpAnyH_done (by kernel_rfl) ?_ _
  all_goals
   have hl7:ku C lb (.slice a6 S.length c6) f1 (w6.setCell ⟨lb,4,none⟩ (.slice a6 S.length c6)):=jN _ lb 4 _ _ _ (OA.out.below oU)
   have ht7:fK (λb=>b≠lb/\w.heap.size<=b) (w6.setCell ⟨lb,4,none⟩ (.slice a6 S.length c6)) (.slice a6 S.length c6) S:=(ht6.frame (aW.set _ λb hb=>by have:=hb6.size;simp at hb;show b≠lb;omega)).imp λb hb _=>by simp at hb;exact⟨by omega,by omega⟩
   have tK:aO lb w5 (w6.setCell ⟨lb,4,none⟩ (.slice a6 S.length c6)):=(aO.of oU agt).trans (aO.set w6 4 _);go_wp2_with fail
   go_end0
   exact⟨rfl,a6,c6,hl7,ht7,hk1.trans (iN.trans tK)⟩
open Go.Lib
def aip (B mb:Nat)(v:Value)(l:ML)(x:aH)(vs:List Value)(w:World)(e:Ending)(w':World):Prop :=
 e=.returned (.bool true)/\(∃ v',zx B mb v' (oW l x vs) w'/\∀ b,b<w.heap.size->some b≠v.ownBlock->some b≠v'.ownBlock)/\Below B w w'/\aW (λb=>b≠mb/\some b≠v.ownBlock) w w'
theorem WR (B mb:Nat)(v:Value)(l:ML)(x:aH)(v1 v2 v3 v4:Value)(w:World)(h:zx B mb v l w)(hB:B<=w.heap.size)(hBm:B<=mb)(hn:l.length<=1000000)(hx:lJ l x=false)(h1:∀ u∈[v1,v2,v3,v4],u.oneCell'=true) :
  Calls Tryz.prog 38 #[.pointer (some ⟨mb,0,none⟩),.string ⟨x.toArray⟩,.agg #[v1,v2,v3,v4]] w (aip B mb v l x [v1,v2,v3,v4] w):=by
 have hal:=aA w (.cells #[v1,v2,v3,v4] 115);have hN:=aX w (.cells #[v1,v2,v3,v4] 115);have hM:=h.below hal;have HF:=ay (JO B mb v l x (w.alloc (.cells #[v1,v2,v3,v4] 115)) hM hn);rw[hx] at HF;have aii:=(bP h.box).1
 have aeU:∀ b,v.ownBlock=some b->b<w.heap.size:=λb q=>(h.own.lt b q).2
 have hne:some mb≠v.ownBlock:=own_ne h.own h.box (by decide);clear h;go_enter Tryz.func38,Tryz.ntmps38
 go_upto_region 1 with fail
 change Code.wp _ _ _ _ (w.alloc (.cells #[v1,v2,v3,v4] 115))
 have hz:w.heap.size<(w.alloc (.cells #[v1,v2,v3,v4] 115)).heap.size:=by simp
 generalize w.alloc _=w1 at *
 go_upto_region 2 with (go_at_call 80;refine HF.out.mono ?_;rintro e w2 ⟨rfl,hb2⟩)
 have Ol:=(hb2.block _ hz).trans hN;have hM2:=hM.below hb2;have hbw:=hal.trans (hb2.mono hal.size);have hz2:=hb2.size;clear HF hN hM hal;obtain⟨⟨a0,a1,a2,a3⟩,-⟩:=mF Ol;obtain⟨m0,-⟩:=sM hM2.box;have hpl:=lK l x;have HI:=ay (λ(W:World) (hW:Below w2.heap.size w2 W) (hs:W.heap[w2.heap.size]?=some (.cells #[.string ⟨x.toArray⟩,v1,v2,v3,v4] 175 (0,0)))=>Ou B w2.heap.size v l x [v1,v2,v3,v4] W hM2.wf (by have:=hW.size;omega) hn rfl h1 (own_below hM2.own hW) hs (λq=>by have:=aeU _ q.symm;omega))
 have s1:=λa m W=>run_store Tryz.prog W a v1 m (h1 v1 (by simp))
 have s2:=λa m W=>run_store Tryz.prog W a v2 m (h1 v2 (by simp))
 have s3:=λa m W=>run_store Tryz.prog W a v3 m (h1 v3 (by simp))
 have s4:=λa m W=>run_store Tryz.prog W a v4 m (h1 v4 (by simp))
 have aeV:mb<w2.heap.size:=by omega
 have hmx:=ay hM2;have HX:=ay hx;have HO1:=ay h1;clear hM2 hx h1 Ol
 go_upto_region 5 with fail
 have hA:(w2.alloc (.cells #[.string ⟨x.toArray⟩,v1,v2,v3,v4] 175)).drew.heap[w2.heap.size]?=some (.cells #[.string ⟨x.toArray⟩,v1,v2,v3,v4] 175 (0,0)):=aX w2 _;have hAb:Below w2.heap.size w2 (w2.alloc (.cells #[.string ⟨x.toArray⟩,v1,v2,v3,v4] 175)).drew:=((bQ _ _).alloc (bD _) _).drew;have HIx:=ay (HI.out _ hAb hA);have hmA:(w2.alloc (.cells #[.string ⟨x.toArray⟩,v1,v2,v3,v4] 175)).drew.heap[mb]?=some (.cells #[v] 169 (0,0)):=(gZ w2 _ mb aeV).trans hmx.out.box;have HMA:=ay hmA;clear hA HI hmA
 go_region_with (go_at_call 81;refine HIx.out.mono ?_;rintro e w3 ⟨g',jw,rfl,kK,hgrow,hor⟩;have G9:=(hgrow.block mb (bP HMA.out).1 hne).trans HMA.out;obtain⟨t0,f0⟩:=sM G9;have Xu:=ay kK;have Uh:=ay hgrow;have HR3:=ay hor;have HB3:=ay G9;clear kK hgrow hor G9)
 all_goals
  go_wp2;go_ret;refine⟨rfl,⟨_,⟨hmx.out.wf.ins HX.out rfl HO1.out,jN w3 mb 0 _ _ _ HB3.out,?_⟩,?_⟩,?_,?_⟩
  ·rw[Aq]
   exact iO Xu.out (λq=>own_ne Xu.out HB3.out (by decide) q) _
  ·intro b hb hv q
   rcases HR3.out with q3|q3
   ·exact hv (by rw[q3];exact q)
   ·simp only[Value.ownBlock,Option.some.injEq] at q;have:=hbw.size;have:=hAb.size;omega
  ·exact(((((hbw.mono hB).trans (hAb.mono (jq hB hbw.size))).grown Uh.out (jq (jq hB hbw.size) hAb.size) (λb q=>(hmx.out.own.lt b q).1))).setCell hBm _)
  ·exact(aW.of hbw).trans ((aW.of hAb).trans ((aW.grown Uh.out λb hb=>hb.2).trans (aW.set _ λb hb=>hb.1)))
