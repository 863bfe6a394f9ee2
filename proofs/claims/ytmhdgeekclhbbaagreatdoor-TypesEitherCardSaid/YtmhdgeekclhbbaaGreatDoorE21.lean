/- Walks and plain laws, without a condition. -/
import Derived.Test.YtmhdgeekclhbbaaGreatDoorE20
set_option maxHeartbeats 16000000
set_option maxRecDepth 100000
set_option linter.unusedVariables false
set_option linter.unusedSimpArgs false
namespace Go.Proofs.YtmhdgeekclhbbaaGreatDoor
open Go.RowKit Go
variable{ks:List PZ}{n b:Nat}{w w':World}{p:ZP}{v x y:Value}{aj:List Nd}{ah:List Tok}
theorem agh {P:Nat->Prop}{mv:Value}{ae:Option Addr}{ce:Nat}{op num a_:Int}{nm md:aH}{ys:Bool}(hZ:nD YA P w mv (.slice ae n ce) (.mk op nm md num ys ks a_))(h0:0<ks.length) :
  ∃ b off,ae=some ⟨b,off,none⟩/\P b/\b<w.heap.size/\∀ i k,ks[i]?=some k->∃ am wn cm ak ck,nD YA P w (.slice am wn cm) (.slice ak k.aA.length ck) k/\∀ W:World,W.heap[b]?=w.heap[b]?->∀ j u,(YA.cells k (.slice am wn cm) (.slice ak k.aA.length ck))[j]?=some u->W.cell? ⟨b,off+i * 8+j,none⟩=some u:=by
 obtain⟨_,ae',ce',hv,_,hform⟩:=hZ.form;simp only[Value.slice.injEq] at hv;obtain⟨rfl,-,rfl⟩:=hv;obtain⟨b,off,h1,h2,h3,h4⟩:=hform h0;refine⟨b,off,h1,h2,h3,λi k hk=>?_⟩;obtain⟨hi,rfl⟩:=qm hk;obtain⟨m,kv,h5,h6⟩:=h4 i hi;obtain⟨am,wn,cm,ak,ck,rfl,rfl⟩:=h5.Xt;exact⟨am,wn,cm,ak,ck,h5,λW hW j u hu=>(AJ (a:=⟨b,off+i * 8+j,none⟩) hW).trans (h6 j u hu)⟩
theorem Jp (h:ks.length=2):∃ x y,ks=[x,y]:=by
 match ks,h with
 | [x,y],_=>exact⟨x,y,rfl⟩
theorem UK (h:ks.length=3):∃ x y z,ks=[x,y,z]:=by
 match ks,h with
 | [x,y,z],_=>exact⟨x,y,z,rfl⟩
theorem UL (op num a_:Int)(nm md:aH)(ys:Bool)(ks:List PZ)(IHx:∀ k∈ks,Av k)(hr:(PZ.mk op nm md num ys ks a_).right false=true)(hc:(PZ.mk op nm md num ys ks a_).jY=false):Av (.mk op nm md num ys ks a_):=by
 intro C cb B mb n g res f am wn cm ae ce w h hf hg hn hZ;have hcl:=h.lt;have hks:(PZ.mk op nm md num ys ks a_).size=qI ks+1:=PZ.xY _
 have hop:1<=op/\op<=24/\op≠4/\op≠24/\countB op ks.length=true:=by
  rw[PZ.right,qM] at hr;have h1:=hr.1;unfold PK at h1;simp only[qM,uK] at h1;obtain⟨⟨⟨⟨⟨q1,q2⟩,q3⟩,-⟩,-⟩,q4⟩:=h1;rw[PZ.jY,abn,decide_eq_false_iff_not] at hc;refine⟨q1,q2,λq=>?_,hc.2,q4⟩;rw[Tn,aP (by simp),uK] at q3;exact q3 q
 have qK:Hid (∀ want,Calls Tryz.prog 142 #[.pointer (some ⟨cb,0,none⟩),.agg (aT op ⟨nm.toArray⟩ ⟨md.toArray⟩ (decide (num<0)) (.slice am wn cm) ys (.slice ae ks.length ce) a_),.pointer (some ⟨mb,0,none⟩),.int .i64 res,.int .i64 want] (w.alloc (.cells (aT op ⟨nm.toArray⟩ ⟨md.toArray⟩ (decide (num<0)) (.slice am wn cm) ys (.slice ae ks.length ce) a_) 64)) (CkU C cb (kL g res want f (ks.map λe=>(e.at_,e.ty))) (w.alloc (.cells (aT op ⟨nm.toArray⟩ ⟨md.toArray⟩ (decide (num<0)) (.slice am wn cm) ys (.slice ae ks.length ce) a_) 64)))) :=
  ay λwant=>agd (.mk op nm md num ys ks a_) IHx C cb B mb n g res want f am wn cm ae ce _ (h.below (aB w _)) hf (hg.below (aB w _)) hn (hZ.frame (bA.of (aB w _)))
 have hZ0:nD YA (λb=>b≠cb) w (.slice am wn cm) (.slice ae ks.length ce) (.mk op nm md num ys ks a_):=hZ;have HZ:=ay (λh0=>agh hZ0 h0);clear hZ hZ0 hr hc;rw[hks] at hn
 have hty:(PZ.mk op nm md num ys ks a_).ty g res f=Qp op nm (ks.map λe=>(e.at_,e.ty)) g res f:=by rw[PZ.afz];rfl
 rw[hty];show Calls Tryz.prog 86 #[.pointer (some ⟨cb,0,none⟩),.agg (aT op ⟨nm.toArray⟩ ⟨md.toArray⟩ (decide (num<0)) (.slice am wn cm) ys (.slice ae ks.length ce) a_),.pointer (some ⟨mb,0,none⟩),.int .i64 res] w _;clear hty hks;generalize decide (num<0)=ng at *;have hal:=aB w (.cells (aT op ⟨nm.toArray⟩ ⟨md.toArray⟩ ng (.slice am wn cm) ys (.slice ae ks.length ce) a_) 64);have g0:=aZ w (.cells (aT op ⟨nm.toArray⟩ ⟨md.toArray⟩ ng (.slice am wn cm) ys (.slice ae ks.length ce) a_) 64);have h1:=h.below hal;have hk1:=aR.of hal hcl;have HW:=ay (iq h hg);have JB:=ay hf
 have HX:Hid (∀ k∈ks,∀ (W:World) (B' mb' n':Nat) (g':gX) (f':Fl) (am:Option Addr) (wn cm:Nat) (ak:Option Addr) (ck:Nat),jv C cb f' W->bT f'->kY B' mb' g' n' W->n'+k.size<=500000->nD YA (λb=>b≠cb) W (.slice am wn cm) (.slice ak k.aA.length ck) k->Calls Tryz.prog 86 #[.pointer (some ⟨cb,0,none⟩),.agg #[.int .i64 k.op,.string ⟨k.name.toArray⟩,.string ⟨k.module.toArray⟩,.bool (decide (k.num<0)),.slice am wn cm,.bool k.yes,.slice ak k.aA.length ck,.int .i64 k.at_],.pointer (some ⟨mb',0,none⟩),.int .i64 res] W (UH C cb (k.ty g' res f') W)) :=
  ay λk hk W B' mb' n' g' f' am wn cm ak ck a1 a2 a3 a4 a5=>IHx k hk C cb B' mb' n' g' res f' am wn cm ak ck W a1 a2 a3 a4 a5
 have hsz:=λi (hi:i<ks.length)=>Cg hi
 have HSZ:=ay hsz;have HIH:=ay IHx;clear IHx hsz;have hOK:=ay (acS C cb f _ h1 hf);go_enter Tryz.func86,Tryz.ntmps86
 go_upto_region 1 with fail
 change Code.wp _ _ _ _ (w.alloc _);generalize w.alloc _=w1 at *;have hl1:=(bU g0).1;obtain⟨y0,y1,y2,y3,y4,y5,y6,y7⟩:=aL g0;have H1:=ay h1;have HG:=ay g0;clear h1 g0 hf h hg
 cases f with
 | some e =>
  clear qK HX HZ;go_wp2_with (go_at_call 140;refine hOK.out.mono ?_;rintro e w2 ⟨rfl,rfl⟩);go_ret;exact⟨rfl,H1.out,hk1⟩
 | none =>
  go_upto_region 3 with (go_at_call 140;refine hOK.out.mono ?_;rintro e w2 ⟨rfl,rfl⟩)
  obtain⟨w1,rfl⟩:∃ w1:World,w1=w2:=⟨_,rfl⟩
  obtain⟨R,hR⟩:∃ R,R=wz op nm (ks.map λe=>(e.at_,e.ty)) g res:=⟨_,rfl⟩
  have HR:Hid (Qp op nm (ks.map λe=>(e.at_,e.ty)) g res none=R):=ay hR.symm;have HRR:=ay hR;clear hR;obtain⟨p1,p24,n4,n24,hcnt⟩:=hop
  have hops:op=1\/op=2\/op=3\/(op=5\/op=7\/op=8\/op=9\/op=10\/op=11)\/(op=14\/op=15\/op=16\/op=17)\/(op=12\/op=13)\/(op=6\/op=18\/op=19\/op=20)\/op=22\/op=21\/op=23:=by omega
  unfold aT at qK;clear p1 p24 n4 n24
  rcases hops with rfl|rfl|rfl|hA|hA|hA|hA|rfl|rfl|rfl
  ·go_wp2
   go_ret;exact⟨by rw[HR.out,HRR.out];rfl,by rw[HR.out,HRR.out];exact H1.out,hk1⟩
  ·go_wp2
   go_ret;exact⟨by rw[HR.out,HRR.out];rfl,by rw[HR.out,HRR.out];exact H1.out,hk1⟩
  ·have HN:=ay (aem C cb B mb n g 3 nm md ng ys (.slice am wn cm) (.slice ae ks.length ce) a_ w1 H1.out (HW.out.2.ck HW.out.1 hk1.2) (by omega))
   unfold aT at HN;have HT:Hid (R=BP g nm):=ay (by rw[HRR.out];rfl);clear qK HX HZ HRR;generalize BP g nm=v at *;go_wp2_with (go_at_call 141;refine HN.out.mono ?_;rintro r w2 ⟨rfl,h2,hk2⟩);go_ret;exact⟨by rw[HR.out,HT.out];rfl,by rw[HR.out,HT.out];exact h2,hk1.trans hk2⟩
  ·have HA:=ay (qK.out 1)
   have HT:Hid (R=(1,kL g res 1 none (ks.map λe=>(e.at_,e.ty)))):=ay (by rw[HRR.out];rcases hA with rfl|rfl|rfl|rfl|rfl|rfl<;>rfl);clear qK HX HZ HRR;generalize kL g res 1 none (ks.map λe=>(e.at_,e.ty))=fl at *
   rcases hA with rfl|rfl|rfl|rfl|rfl|rfl
   all_goals
    go_wp2_with (go_at_call 142;refine HA.out.mono ?_;rintro r w2 ⟨rfl,h2,hk2⟩);go_ret;exact⟨by rw[HR.out,HT.out];rfl,by rw[HR.out,HT.out];exact h2,hk1.trans hk2⟩
  ·have HA:=ay (qK.out 1)
   have HT:Hid (R=(2,kL g res 1 none (ks.map λe=>(e.at_,e.ty)))):=ay (by rw[HRR.out];rcases hA with rfl|rfl|rfl|rfl<;>rfl);clear qK HX HZ HRR;generalize kL g res 1 none (ks.map λe=>(e.at_,e.ty))=fl at *
   rcases hA with rfl|rfl|rfl|rfl
   all_goals
    go_wp2_with (go_at_call 142;refine HA.out.mono ?_;rintro r w2 ⟨rfl,h2,hk2⟩);go_ret;exact⟨by rw[HR.out,HT.out];rfl,by rw[HR.out,HT.out];exact h2,hk1.trans hk2⟩
  ·obtain⟨x,y,rfl⟩:=Jp (by rcases hA with rfl|rfl<;>simpa [countB] using hcnt)
   obtain⟨b,off,rfl,hPb,hbl,HK⟩:=HZ.out (by simp);obtain⟨rC,rD,rE,Az,AA,hE1,hc1⟩:=HK 0 x rfl;obtain⟨oK,oL,oM,oZ,o8,hE2,hc2⟩:=HK 1 y rfl;simp only[qI] at hn;have HT:Hid (R=(2,(oN g res none (x.at_,x.ty) (y.at_,y.ty)).2)):=ay (by rw[HRR.out];rcases hA with rfl|rfl<;>rfl);have HL:Hid (Calls Tryz.prog 143 #[.pointer (some ⟨cb,0,none⟩),.agg #[.int .i64 x.op,.string ⟨x.name.toArray⟩,.string ⟨x.module.toArray⟩,.bool (decide (x.num<0)),.slice rC rD rE,.bool x.yes,.slice Az x.aA.length AA,.int .i64 x.at_],.agg #[.int .i64 y.op,.string ⟨y.name.toArray⟩,.string ⟨y.module.toArray⟩,.bool (decide (y.num<0)),.slice oK oL oM,.bool y.yes,.slice oZ y.aA.length o8,.int .i64 y.at_],.pointer (some ⟨mb,0,none⟩),.int .i64 res] w1.drew (UH C cb (oN g res none (x.at_,x.ty) (y.at_,y.ty)) w1.drew)):=ay (Rk x y (HIH.out x (by simp)) (HIH.out y (by simp)) C cb B mb n g res none rC rD rE Az AA oK oL oM oZ o8 w1.drew H1.out bT.none (HW.out.2.ck HW.out.1 (hk1.trans (aR.drew cb w1)).2) (by omega) (by omega) (hE1.frame (hk1.trans (aR.drew cb w1)).2) (hE2.frame (hk1.trans (aR.drew cb w1)).2));have hwb:=hk1.2.2 b hPb hbl
   have hne:w.heap.size≠cb:=by omega
   have HS:Hid (∀ W,bA (λb=>b≠cb) w1 W->(W.cell? ⟨w.heap.size,6,none⟩=some (.slice (some ⟨b,off,none⟩) 2 ce)/\(W.cell? ⟨b,off,none⟩=some (.int .i64 x.op)/\W.cell? ⟨b,off+1,none⟩=some (.string ⟨x.name.toArray⟩)/\W.cell? ⟨b,off+2,none⟩=some (.string ⟨x.module.toArray⟩)/\W.cell? ⟨b,off+3,none⟩=some (.bool (decide (x.num<0)))/\W.cell? ⟨b,off+4,none⟩=some (.slice rC rD rE)/\W.cell? ⟨b,off+5,none⟩=some (.bool x.yes)/\W.cell? ⟨b,off+6,none⟩=some (.slice Az x.aA.length AA)/\W.cell? ⟨b,off+7,none⟩=some (.int .i64 x.at_))/\W.cell? ⟨b,off+8,none⟩=some (.int .i64 y.op)/\W.cell? ⟨b,off+9,none⟩=some (.string ⟨y.name.toArray⟩)/\W.cell? ⟨b,off+10,none⟩=some (.string ⟨y.module.toArray⟩)/\W.cell? ⟨b,off+11,none⟩=some (.bool (decide (y.num<0)))/\W.cell? ⟨b,off+12,none⟩=some (.slice oK oL oM)/\W.cell? ⟨b,off+13,none⟩=some (.bool y.yes)/\W.cell? ⟨b,off+14,none⟩=some (.slice oZ y.aA.length o8)/\W.cell? ⟨b,off+15,none⟩=some (.int .i64 y.at_))):=ay λW hW=>by
    have g1:=aL ((hW.2 w.heap.size hne hl1).trans HG.out);have c1:=hc1 W ((hW.2 b hPb (by omega)).trans hwb);have c2:=hc2 W ((hW.2 b hPb (by omega)).trans hwb);simp only[Nat.zero_mul,qp,Nat.one_mul,wU,Nat.reduceAdd] at c1 c2;exact⟨g1.2.2.2.2.2.2.1,⟨c1 0 _ rfl,c1 1 _ rfl,c1 2 _ rfl,c1 3 _ rfl,c1 4 _ rfl,c1 5 _ rfl,c1 6 _ rfl,c1 7 _ rfl⟩,c2 0 _ rfl,c2 1 _ rfl,c2 2 _ rfl,c2 3 _ rfl,c2 4 _ rfl,c2 5 _ rfl,c2 6 _ rfl,c2 7 _ rfl⟩
   have p3:=HS.out w1 (bA.refl _ _);generalize oN g res none (x.at_,x.ty) (y.at_,y.ty)=v at *;clear qK HX HZ HRR HK hc1 hc2 hE1 hE2
   rcases hA with rfl|rfl
   all_goals
    go_upto_region 28 with fail
    clear y0 y1 y2 y3 y4 y5 y6 y7
    --ajF
    go_region_held3 (λW=>W.cell? ⟨w.heap.size,6,none⟩=some (.slice (some ⟨b,off,none⟩) 2 ce)/\(W.cell? ⟨b,off,none⟩=some (.int .i64 x.op)/\W.cell? ⟨b,off+1,none⟩=some (.string ⟨x.name.toArray⟩)/\W.cell? ⟨b,off+2,none⟩=some (.string ⟨x.module.toArray⟩)/\W.cell? ⟨b,off+3,none⟩=some (.bool (decide (x.num<0)))/\W.cell? ⟨b,off+4,none⟩=some (.slice rC rD rE)/\W.cell? ⟨b,off+5,none⟩=some (.bool x.yes)/\W.cell? ⟨b,off+6,none⟩=some (.slice Az x.aA.length AA)/\W.cell? ⟨b,off+7,none⟩=some (.int .i64 x.at_))/\W.cell? ⟨b,off+8,none⟩=some (.int .i64 y.op)/\W.cell? ⟨b,off+9,none⟩=some (.string ⟨y.name.toArray⟩)/\W.cell? ⟨b,off+10,none⟩=some (.string ⟨y.module.toArray⟩)/\W.cell? ⟨b,off+11,none⟩=some (.bool (decide (y.num<0)))/\W.cell? ⟨b,off+12,none⟩=some (.slice oK oL oM)/\W.cell? ⟨b,off+13,none⟩=some (.bool y.yes)/\W.cell? ⟨b,off+14,none⟩=some (.slice oZ y.aA.length o8)/\W.cell? ⟨b,off+15,none⟩=some (.int .i64 y.at_))
     (first|(with_reducible exact p3)|(with_reducible exact p4)|(go_keep;done))
     (first|(go_at_call 143;refine HL.out.mono ?_;rintro r w2 ⟨rfl,h2,hk2⟩;have p4:=HS.out w2 ((aR.drew cb w1).trans hk2).2))
    go_wp2_with fail;go_ret;exact⟨by rw[HR.out,HT.out];rfl,by rw[HR.out,HT.out];exact h2,hk1.trans ((aR.drew cb w1).trans hk2)⟩
  ·have HA:=ay (qK.out 2)
   have HT:Hid (R=(2,kL g res 2 none (ks.map λe=>(e.at_,e.ty)))):=ay (by rw[HRR.out];rcases hA with rfl|rfl|rfl|rfl<;>rfl);clear qK HX HZ HRR;generalize kL g res 2 none (ks.map λe=>(e.at_,e.ty))=fl at *
   rcases hA with rfl|rfl|rfl|rfl
   all_goals
    go_wp2_with (go_at_call 142;refine HA.out.mono ?_;rintro r w2 ⟨rfl,h2,hk2⟩);go_ret;exact⟨by rw[HR.out,HT.out];rfl,by rw[HR.out,HT.out];exact h2,hk1.trans hk2⟩
  ·obtain⟨x,y,rfl⟩:=Jp (by simpa [countB] using hcnt)
   obtain⟨b,off,rfl,hPb,hbl,HK⟩:=HZ.out (by simp);obtain⟨rC,rD,rE,Az,AA,hE1,hc1⟩:=HK 0 x rfl;obtain⟨oK,oL,oM,oZ,o8,hE2,hc2⟩:=HK 1 y rfl;simp only[qI] at hn;have hwb:=hk1.2.2 b hPb hbl
   have hne:w.heap.size≠cb:=by omega
   obtain⟨v,hv⟩:∃ v,v=x.ty g res none:=⟨_,rfl⟩
   obtain⟨u,hu⟩:∃ u,u=y.ty (Ak g nm v.1) res v.2:=⟨_,rfl⟩
   have HT:Hid (R=u):=ay (by rw[HRR.out,hu,hv];rfl)
   have Jo:bT v.2:=by rw[hv];exact PZ.Cn x g res none bT.none
   have HX1:Hid (∀ W,aR cb w1 W->jv C cb none W->Calls Tryz.prog 86 #[.pointer (some ⟨cb,0,none⟩),.agg #[.int .i64 x.op,.string ⟨x.name.toArray⟩,.string ⟨x.module.toArray⟩,.bool (decide (x.num<0)),.slice rC rD rE,.bool x.yes,.slice Az x.aA.length AA,.int .i64 x.at_],.pointer (some ⟨mb,0,none⟩),.int .i64 res] W (UH C cb v W)):=ay λW hW hc=>by
    rw[hv];exact HX.out x (by simp) W B mb n g none rC rD rE Az AA hc bT.none (HW.out.2.ck HW.out.1 (hk1.trans hW).2) (by omega) (hE1.frame (hk1.trans hW).2)
   have Lc:Hid (∀ W mb',aR cb w1 W->jv C cb v.2 W->kY w1.heap.size mb' (Ak g nm v.1) (n+1) W->Calls Tryz.prog 86 #[.pointer (some ⟨cb,0,none⟩),.agg #[.int .i64 y.op,.string ⟨y.name.toArray⟩,.string ⟨y.module.toArray⟩,.bool (decide (y.num<0)),.slice oK oL oM,.bool y.yes,.slice oZ y.aA.length o8,.int .i64 y.at_],.pointer (some ⟨mb',0,none⟩),.int .i64 res] W (UH C cb u W)):=ay λW mb' hW hc he=>by
    rw[hu];exact HX.out y (by simp) W w1.heap.size mb' (n+1) (Ak g nm v.1) v.2 oK oL oM oZ o8 hc Jo he (by omega) (hE2.frame (hk1.trans hW).2)
   have HCP:=ay (YD B mb n g w1 (HW.out.2.ck HW.out.1 hk1.2) (by omega))
   have HS:Hid (∀ W,bA (λb=>b≠cb) w1 W->(W.cell? ⟨w.heap.size,1,none⟩=some (.string ⟨nm.toArray⟩)/\W.cell? ⟨w.heap.size,6,none⟩=some (.slice (some ⟨b,off,none⟩) 2 ce)/\(W.cell? ⟨b,off,none⟩=some (.int .i64 x.op)/\W.cell? ⟨b,off+1,none⟩=some (.string ⟨x.name.toArray⟩)/\W.cell? ⟨b,off+2,none⟩=some (.string ⟨x.module.toArray⟩)/\W.cell? ⟨b,off+3,none⟩=some (.bool (decide (x.num<0)))/\W.cell? ⟨b,off+4,none⟩=some (.slice rC rD rE)/\W.cell? ⟨b,off+5,none⟩=some (.bool x.yes)/\W.cell? ⟨b,off+6,none⟩=some (.slice Az x.aA.length AA)/\W.cell? ⟨b,off+7,none⟩=some (.int .i64 x.at_)))):=ay λW hW=>by
    have g1:=aL ((hW.2 w.heap.size hne hl1).trans HG.out);have c1:=hc1 W ((hW.2 b hPb (by omega)).trans hwb);simp only[Nat.zero_mul,qp,Nat.one_mul,wU,Nat.reduceAdd,Nat.reduceMul] at c1;exact⟨g1.2.1,g1.2.2.2.2.2.2.1,⟨c1 0 _ rfl,c1 1 _ rfl,c1 2 _ rfl,c1 3 _ rfl,c1 4 _ rfl,c1 5 _ rfl,c1 6 _ rfl,c1 7 _ rfl⟩⟩
   have HS2:Hid (∀ W,bA (λb=>b≠cb) w1 W->(W.cell? ⟨w.heap.size,6,none⟩=some (.slice (some ⟨b,off,none⟩) 2 ce)/\(W.cell? ⟨b,off+8,none⟩=some (.int .i64 y.op)/\W.cell? ⟨b,off+9,none⟩=some (.string ⟨y.name.toArray⟩)/\W.cell? ⟨b,off+10,none⟩=some (.string ⟨y.module.toArray⟩)/\W.cell? ⟨b,off+11,none⟩=some (.bool (decide (y.num<0)))/\W.cell? ⟨b,off+12,none⟩=some (.slice oK oL oM)/\W.cell? ⟨b,off+13,none⟩=some (.bool y.yes)/\W.cell? ⟨b,off+14,none⟩=some (.slice oZ y.aA.length o8)/\W.cell? ⟨b,off+15,none⟩=some (.int .i64 y.at_)))):=ay λW hW=>by
    have g1:=aL ((hW.2 w.heap.size hne hl1).trans HG.out);have c2:=hc2 W ((hW.2 b hPb (by omega)).trans hwb);simp only[Nat.zero_mul,qp,Nat.one_mul,wU,Nat.reduceAdd,Nat.reduceMul] at c2;exact⟨g1.2.2.2.2.2.2.1,⟨c2 0 _ rfl,c2 1 _ rfl,c2 2 _ rfl,c2 3 _ rfl,c2 4 _ rfl,c2 5 _ rfl,c2 6 _ rfl,c2 7 _ rfl⟩⟩
   clear qK HX HZ HRR HK hc1 hc2 hE1 hE2 hv hu;have hcw:cb<w1.heap.size:=H1.out.lt
   go_upto_region 40 with (go_at_call 145;refine HCP.out.mono ?_;rintro e w2 ⟨mb2,rfl,hg2,hm2,hb2⟩)
   clear y0 y1 y2 y3 y4 y5 y6 y7;have hk2:=aR.of hb2 hcw;have agi:=hk2.trans (aR.drew cb w2);have p3:=HS.out w2 hk2.2;have h2:=H1.out.below hb2;have HG2:=ay hg2;have H2:=ay h2;clear hg2 h2
   go_region_held3 (λW=>W.cell? ⟨w.heap.size,1,none⟩=some (.string ⟨nm.toArray⟩)/\W.cell? ⟨w.heap.size,6,none⟩=some (.slice (some ⟨b,off,none⟩) 2 ce)/\(W.cell? ⟨b,off,none⟩=some (.int .i64 x.op)/\W.cell? ⟨b,off+1,none⟩=some (.string ⟨x.name.toArray⟩)/\W.cell? ⟨b,off+2,none⟩=some (.string ⟨x.module.toArray⟩)/\W.cell? ⟨b,off+3,none⟩=some (.bool (decide (x.num<0)))/\W.cell? ⟨b,off+4,none⟩=some (.slice rC rD rE)/\W.cell? ⟨b,off+5,none⟩=some (.bool x.yes)/\W.cell? ⟨b,off+6,none⟩=some (.slice Az x.aA.length AA)/\W.cell? ⟨b,off+7,none⟩=some (.int .i64 x.at_)))
    (first|(with_reducible exact p3)|(with_reducible exact p4)|(with_reducible exact p5)|(go_keep;done))
    (first
     | (go_at_call 83;refine(Ri w1.heap.size mb2 n g nm v.1 w3 (HG2.out.ck H2.out ((aR.drew cb w2).trans fM).2) (by have:=hk2.2.1;have:=fM.2.1;exact iY hk2.2.1 fM.2.1) hm2 (by omega)).mono ?_;rintro r w4 ⟨⟨rb,rfl⟩,hg4,hb4,-⟩;have hk4:=(agi.trans fM).low hb4 hcw;have p5:=HS.out w4 hk4.2)
     | (go_at_call 86;refine(HX1.out w2.drew agi H2.out).mono ?_;rintro r w3 ⟨rfl,h3,fM⟩;have p4:=HS.out w3 (agi.trans fM).2))
   have h4:=(hb4.block cb hcw).trans h3;obtain⟨q6,q0,q1,q2,q3,q4,q5,q7,q8⟩:=HS2.out w4 hk4.2;clear p3 p4 p5;go_wp2_with (go_at_call 86;refine(Lc.out w4 mb2 hk4 h4 hg4).mono ?_;rintro r w5 ⟨rfl,h5,lu⟩);go_ret;exact⟨by rw[HR.out,HT.out];rfl,by rw[HR.out,HT.out];exact h5,(hk1.trans hk4).trans lu⟩
  ·obtain⟨x,y,z,rfl⟩:=UK (by simpa [countB] using hcnt)
   obtain⟨b,off,rfl,hPb,hbl,HK⟩:=HZ.out (by simp);obtain⟨rC,rD,rE,Az,AA,hE1,hc1⟩:=HK 0 x rfl;obtain⟨oK,oL,oM,oZ,o8,hE2,hc2⟩:=HK 1 y rfl;obtain⟨am3,wn3,cm3,ae3,ce3,hE3,hc3⟩:=HK 2 z rfl;simp only[qI] at hn;have hwb:=hk1.2.2 b hPb hbl
   have hne:w.heap.size≠cb:=by omega
   obtain⟨v,hv⟩:∃ v,v=x.ty g res none:=⟨_,rfl⟩
   obtain⟨fm,hfm⟩:∃ fm,fm=mO v.2 x.at_ v.1 2:=⟨_,rfl⟩
   have Jo:bT v.2:=by rw[hv];exact PZ.Cn x g res none bT.none
   have agj:bT fm:=by rw[hfm];exact sV _ _ _ Jo
   obtain⟨u,hu⟩:∃ u,u=oN g res fm (y.at_,y.ty) (z.at_,z.ty):=⟨_,rfl⟩
   have HT:Hid (R=u):=ay (by rw[HRR.out,hu,hfm,hv];rfl)
   have HX1:Hid (∀ W,aR cb w1 W->jv C cb none W->Calls Tryz.prog 86 #[.pointer (some ⟨cb,0,none⟩),.agg #[.int .i64 x.op,.string ⟨x.name.toArray⟩,.string ⟨x.module.toArray⟩,.bool (decide (x.num<0)),.slice rC rD rE,.bool x.yes,.slice Az x.aA.length AA,.int .i64 x.at_],.pointer (some ⟨mb,0,none⟩),.int .i64 res] W (UH C cb v W)):=ay λW hW hc=>by
    rw[hv];exact HX.out x (by simp) W B mb n g none rC rD rE Az AA hc bT.none (HW.out.2.ck HW.out.1 (hk1.trans hW).2) (by omega) (hE1.frame (hk1.trans hW).2)
   have HMU:Hid (∀ W,jv C cb v.2 W->Calls Tryz.prog 85 #[.pointer (some ⟨cb,0,none⟩),.agg #[.int .i64 x.op,.string ⟨x.name.toArray⟩,.string ⟨x.module.toArray⟩,.bool (decide (x.num<0)),.slice rC rD rE,.bool x.yes,.slice Az x.aA.length AA,.int .i64 x.at_],.int .i64 v.1,.int .i64 2] W (CkU C cb fm W)):=ay λW hc=>by
    rw[hfm];exact Cm C cb v.2 _ _ _ _ _ _ _ _ _ _ W hc Jo
   have Lc:Hid (∀ W,aR cb w1 W->jv C cb fm W->Calls Tryz.prog 143 #[.pointer (some ⟨cb,0,none⟩),.agg #[.int .i64 y.op,.string ⟨y.name.toArray⟩,.string ⟨y.module.toArray⟩,.bool (decide (y.num<0)),.slice oK oL oM,.bool y.yes,.slice oZ y.aA.length o8,.int .i64 y.at_],.agg #[.int .i64 z.op,.string ⟨z.name.toArray⟩,.string ⟨z.module.toArray⟩,.bool (decide (z.num<0)),.slice am3 wn3 cm3,.bool z.yes,.slice ae3 z.aA.length ce3,.int .i64 z.at_],.pointer (some ⟨mb,0,none⟩),.int .i64 res] W (UH C cb u W)):=ay λW hW hc=>by
    rw[hu];exact Rk y z (HIH.out y (by simp)) (HIH.out z (by simp)) C cb B mb n g res fm oK oL oM oZ o8 am3 wn3 cm3 ae3 ce3 W hc agj (HW.out.2.ck HW.out.1 (hk1.trans hW).2) (by omega) (by omega) (hE2.frame (hk1.trans hW).2) (hE3.frame (hk1.trans hW).2)
   have HS:Hid (∀ W,bA (λb=>b≠cb) w1 W->(W.cell? ⟨w.heap.size,6,none⟩=some (.slice (some ⟨b,off,none⟩) 3 ce)/\(W.cell? ⟨b,off,none⟩=some (.int .i64 x.op)/\W.cell? ⟨b,off+1,none⟩=some (.string ⟨x.name.toArray⟩)/\W.cell? ⟨b,off+2,none⟩=some (.string ⟨x.module.toArray⟩)/\W.cell? ⟨b,off+3,none⟩=some (.bool (decide (x.num<0)))/\W.cell? ⟨b,off+4,none⟩=some (.slice rC rD rE)/\W.cell? ⟨b,off+5,none⟩=some (.bool x.yes)/\W.cell? ⟨b,off+6,none⟩=some (.slice Az x.aA.length AA)/\W.cell? ⟨b,off+7,none⟩=some (.int .i64 x.at_)))):=ay λW hW=>by
    have g1:=aL ((hW.2 w.heap.size hne hl1).trans HG.out);have c1:=hc1 W ((hW.2 b hPb (by omega)).trans hwb);simp only[Nat.zero_mul,qp,Nat.one_mul,wU,Nat.reduceAdd,Nat.reduceMul] at c1;exact⟨g1.2.2.2.2.2.2.1,⟨c1 0 _ rfl,c1 1 _ rfl,c1 2 _ rfl,c1 3 _ rfl,c1 4 _ rfl,c1 5 _ rfl,c1 6 _ rfl,c1 7 _ rfl⟩⟩
   have HS2:Hid (∀ W,bA (λb=>b≠cb) w1 W->(W.cell? ⟨w.heap.size,0,none⟩=some (.int .i64 21)/\W.cell? ⟨w.heap.size,6,none⟩=some (.slice (some ⟨b,off,none⟩) 3 ce)/\(W.cell? ⟨b,off+8,none⟩=some (.int .i64 y.op)/\W.cell? ⟨b,off+9,none⟩=some (.string ⟨y.name.toArray⟩)/\W.cell? ⟨b,off+10,none⟩=some (.string ⟨y.module.toArray⟩)/\W.cell? ⟨b,off+11,none⟩=some (.bool (decide (y.num<0)))/\W.cell? ⟨b,off+12,none⟩=some (.slice oK oL oM)/\W.cell? ⟨b,off+13,none⟩=some (.bool y.yes)/\W.cell? ⟨b,off+14,none⟩=some (.slice oZ y.aA.length o8)/\W.cell? ⟨b,off+15,none⟩=some (.int .i64 y.at_))/\(W.cell? ⟨b,off+16,none⟩=some (.int .i64 z.op)/\W.cell? ⟨b,off+17,none⟩=some (.string ⟨z.name.toArray⟩)/\W.cell? ⟨b,off+18,none⟩=some (.string ⟨z.module.toArray⟩)/\W.cell? ⟨b,off+19,none⟩=some (.bool (decide (z.num<0)))/\W.cell? ⟨b,off+20,none⟩=some (.slice am3 wn3 cm3)/\W.cell? ⟨b,off+21,none⟩=some (.bool z.yes)/\W.cell? ⟨b,off+22,none⟩=some (.slice ae3 z.aA.length ce3)/\W.cell? ⟨b,off+23,none⟩=some (.int .i64 z.at_)))):=ay λW hW=>by
    have g1:=aL ((hW.2 w.heap.size hne hl1).trans HG.out);have c2:=hc2 W ((hW.2 b hPb (by omega)).trans hwb);have c3:=hc3 W ((hW.2 b hPb (by omega)).trans hwb);simp only[Nat.zero_mul,qp,Nat.one_mul,wU,Nat.reduceAdd,Nat.reduceMul] at c2 c3;exact⟨g1.1,g1.2.2.2.2.2.2.1,⟨c2 0 _ rfl,c2 1 _ rfl,c2 2 _ rfl,c2 3 _ rfl,c2 4 _ rfl,c2 5 _ rfl,c2 6 _ rfl,c2 7 _ rfl⟩,⟨c3 0 _ rfl,c3 1 _ rfl,c3 2 _ rfl,c3 3 _ rfl,c3 4 _ rfl,c3 5 _ rfl,c3 6 _ rfl,c3 7 _ rfl⟩⟩
   clear qK HX HZ HRR HK hc1 hc2 hE1 hE2 hv hu hfm
   go_upto_region 42 with fail
   clear y0 y1 y2 y3 y4 y5 y6 y7;have p3:=HS.out w1 (bA.refl _ _)
   go_region_held3 (λW=>W.cell? ⟨w.heap.size,6,none⟩=some (.slice (some ⟨b,off,none⟩) 3 ce)/\(W.cell? ⟨b,off,none⟩=some (.int .i64 x.op)/\W.cell? ⟨b,off+1,none⟩=some (.string ⟨x.name.toArray⟩)/\W.cell? ⟨b,off+2,none⟩=some (.string ⟨x.module.toArray⟩)/\W.cell? ⟨b,off+3,none⟩=some (.bool (decide (x.num<0)))/\W.cell? ⟨b,off+4,none⟩=some (.slice rC rD rE)/\W.cell? ⟨b,off+5,none⟩=some (.bool x.yes)/\W.cell? ⟨b,off+6,none⟩=some (.slice Az x.aA.length AA)/\W.cell? ⟨b,off+7,none⟩=some (.int .i64 x.at_)))
    (first|(with_reducible exact p3)|(with_reducible exact p4)|(with_reducible exact p5)|(go_keep;done))
    (first
     | (go_at_call 85;refine(HMU.out w3 h3).mono ?_;rintro r w4 ⟨rfl,h4,hk4⟩;have p5:=HS.out w4 (((aR.drew cb w1).trans fM).trans hk4).2)
     | (go_at_call 86;refine(HX1.out w1.drew (aR.drew cb w1) H1.out).mono ?_;rintro r w3 ⟨rfl,h3,fM⟩;have p4:=HS.out w3 ((aR.drew cb w1).trans fM).2))
   clear p3 p4 p5;have UM:=((aR.drew cb w1).trans fM).trans hk4;have o0:=(HS2.out w4 UM.2).1
   go_upto_region 44 with fail
   clear o0;have p3:=(HS2.out w4 UM.2).2;have agk:=UM.trans (aR.drew cb w4)
   go_region_held3 (λW=>W.cell? ⟨w.heap.size,6,none⟩=some (.slice (some ⟨b,off,none⟩) 3 ce)/\(W.cell? ⟨b,off+8,none⟩=some (.int .i64 y.op)/\W.cell? ⟨b,off+9,none⟩=some (.string ⟨y.name.toArray⟩)/\W.cell? ⟨b,off+10,none⟩=some (.string ⟨y.module.toArray⟩)/\W.cell? ⟨b,off+11,none⟩=some (.bool (decide (y.num<0)))/\W.cell? ⟨b,off+12,none⟩=some (.slice oK oL oM)/\W.cell? ⟨b,off+13,none⟩=some (.bool y.yes)/\W.cell? ⟨b,off+14,none⟩=some (.slice oZ y.aA.length o8)/\W.cell? ⟨b,off+15,none⟩=some (.int .i64 y.at_))/\(W.cell? ⟨b,off+16,none⟩=some (.int .i64 z.op)/\W.cell? ⟨b,off+17,none⟩=some (.string ⟨z.name.toArray⟩)/\W.cell? ⟨b,off+18,none⟩=some (.string ⟨z.module.toArray⟩)/\W.cell? ⟨b,off+19,none⟩=some (.bool (decide (z.num<0)))/\W.cell? ⟨b,off+20,none⟩=some (.slice am3 wn3 cm3)/\W.cell? ⟨b,off+21,none⟩=some (.bool z.yes)/\W.cell? ⟨b,off+22,none⟩=some (.slice ae3 z.aA.length ce3)/\W.cell? ⟨b,off+23,none⟩=some (.int .i64 z.at_)))
    (first|(with_reducible exact p3)|(with_reducible exact p5)|(go_keep;done))
    (first|(go_at_call 143;refine(Lc.out w4.drew agk h4).mono ?_;rintro r w5 ⟨rfl,h5,lu⟩;have p5:=(HS2.out w5 (agk.trans lu).2).2))
   go_wp2_with fail;go_ret;exact⟨by rw[HR.out,HT.out];rfl,by rw[HR.out,HT.out];exact h5,(hk1.trans agk).trans lu⟩
  ·obtain⟨x,y,rfl⟩:=Jp (by simpa [countB] using hcnt)
   obtain⟨b,off,rfl,hPb,hbl,HK⟩:=HZ.out (by simp);obtain⟨rC,rD,rE,Az,AA,hE1,hc1⟩:=HK 0 x rfl;obtain⟨oK,oL,oM,oZ,o8,hE2,hc2⟩:=HK 1 y rfl;simp only[qI] at hn;have hwb:=hk1.2.2 b hPb hbl
   have hne:w.heap.size≠cb:=by omega
   obtain⟨v,hv⟩:∃ v,v=x.ty g res none:=⟨_,rfl⟩
   obtain⟨fm,hfm⟩:∃ fm,fm=mO v.2 x.at_ v.1 2:=⟨_,rfl⟩
   have Jo:bT v.2:=by rw[hv];exact PZ.Cn x g res none bT.none
   have agj:bT fm:=by rw[hfm];exact sV _ _ _ Jo
   obtain⟨u,hu⟩:∃ u,u=y.ty g res fm:=⟨_,rfl⟩
   have HT:Hid (R=u):=ay (by rw[HRR.out,hu,hfm,hv];rfl)
   have HX1:Hid (∀ W,aR cb w1 W->jv C cb none W->Calls Tryz.prog 86 #[.pointer (some ⟨cb,0,none⟩),.agg #[.int .i64 x.op,.string ⟨x.name.toArray⟩,.string ⟨x.module.toArray⟩,.bool (decide (x.num<0)),.slice rC rD rE,.bool x.yes,.slice Az x.aA.length AA,.int .i64 x.at_],.pointer (some ⟨mb,0,none⟩),.int .i64 res] W (UH C cb v W)):=ay λW hW hc=>by
    rw[hv];exact HX.out x (by simp) W B mb n g none rC rD rE Az AA hc bT.none (HW.out.2.ck HW.out.1 (hk1.trans hW).2) (by omega) (hE1.frame (hk1.trans hW).2)
   have HMU:Hid (∀ W,jv C cb v.2 W->Calls Tryz.prog 85 #[.pointer (some ⟨cb,0,none⟩),.agg #[.int .i64 x.op,.string ⟨x.name.toArray⟩,.string ⟨x.module.toArray⟩,.bool (decide (x.num<0)),.slice rC rD rE,.bool x.yes,.slice Az x.aA.length AA,.int .i64 x.at_],.int .i64 v.1,.int .i64 2] W (CkU C cb fm W)):=ay λW hc=>by
    rw[hfm];exact Cm C cb v.2 _ _ _ _ _ _ _ _ _ _ W hc Jo
   have Lc:Hid (∀ W,aR cb w1 W->jv C cb fm W->Calls Tryz.prog 86 #[.pointer (some ⟨cb,0,none⟩),.agg #[.int .i64 y.op,.string ⟨y.name.toArray⟩,.string ⟨y.module.toArray⟩,.bool (decide (y.num<0)),.slice oK oL oM,.bool y.yes,.slice oZ y.aA.length o8,.int .i64 y.at_],.pointer (some ⟨mb,0,none⟩),.int .i64 res] W (UH C cb u W)):=ay λW hW hc=>by
    rw[hu];exact HX.out y (by simp) W B mb n g fm oK oL oM oZ o8 hc agj (HW.out.2.ck HW.out.1 (hk1.trans hW).2) (by omega) (hE2.frame (hk1.trans hW).2)
   have HS:Hid (∀ W,bA (λb=>b≠cb) w1 W->(W.cell? ⟨w.heap.size,6,none⟩=some (.slice (some ⟨b,off,none⟩) 2 ce)/\(W.cell? ⟨b,off,none⟩=some (.int .i64 x.op)/\W.cell? ⟨b,off+1,none⟩=some (.string ⟨x.name.toArray⟩)/\W.cell? ⟨b,off+2,none⟩=some (.string ⟨x.module.toArray⟩)/\W.cell? ⟨b,off+3,none⟩=some (.bool (decide (x.num<0)))/\W.cell? ⟨b,off+4,none⟩=some (.slice rC rD rE)/\W.cell? ⟨b,off+5,none⟩=some (.bool x.yes)/\W.cell? ⟨b,off+6,none⟩=some (.slice Az x.aA.length AA)/\W.cell? ⟨b,off+7,none⟩=some (.int .i64 x.at_)))):=ay λW hW=>by
    have g1:=aL ((hW.2 w.heap.size hne hl1).trans HG.out);have c1:=hc1 W ((hW.2 b hPb (by omega)).trans hwb);simp only[Nat.zero_mul,qp,Nat.one_mul,wU,Nat.reduceAdd,Nat.reduceMul] at c1;exact⟨g1.2.2.2.2.2.2.1,⟨c1 0 _ rfl,c1 1 _ rfl,c1 2 _ rfl,c1 3 _ rfl,c1 4 _ rfl,c1 5 _ rfl,c1 6 _ rfl,c1 7 _ rfl⟩⟩
   have HS2:Hid (∀ W,bA (λb=>b≠cb) w1 W->(W.cell? ⟨w.heap.size,0,none⟩=some (.int .i64 23)/\W.cell? ⟨w.heap.size,6,none⟩=some (.slice (some ⟨b,off,none⟩) 2 ce)/\(W.cell? ⟨b,off+8,none⟩=some (.int .i64 y.op)/\W.cell? ⟨b,off+9,none⟩=some (.string ⟨y.name.toArray⟩)/\W.cell? ⟨b,off+10,none⟩=some (.string ⟨y.module.toArray⟩)/\W.cell? ⟨b,off+11,none⟩=some (.bool (decide (y.num<0)))/\W.cell? ⟨b,off+12,none⟩=some (.slice oK oL oM)/\W.cell? ⟨b,off+13,none⟩=some (.bool y.yes)/\W.cell? ⟨b,off+14,none⟩=some (.slice oZ y.aA.length o8)/\W.cell? ⟨b,off+15,none⟩=some (.int .i64 y.at_)))):=ay λW hW=>by
    have g1:=aL ((hW.2 w.heap.size hne hl1).trans HG.out);have c2:=hc2 W ((hW.2 b hPb (by omega)).trans hwb);simp only[Nat.zero_mul,qp,Nat.one_mul,wU,Nat.reduceAdd,Nat.reduceMul] at c2;exact⟨g1.1,g1.2.2.2.2.2.2.1,⟨c2 0 _ rfl,c2 1 _ rfl,c2 2 _ rfl,c2 3 _ rfl,c2 4 _ rfl,c2 5 _ rfl,c2 6 _ rfl,c2 7 _ rfl⟩⟩
   clear qK HX HZ HRR HK hc1 hc2 hE1 hE2 hv hu hfm
   go_upto_region 42 with fail
   clear y0 y1 y2 y3 y4 y5 y6 y7;have p3:=HS.out w1 (bA.refl _ _)
   go_region_held3 (λW=>W.cell? ⟨w.heap.size,6,none⟩=some (.slice (some ⟨b,off,none⟩) 2 ce)/\(W.cell? ⟨b,off,none⟩=some (.int .i64 x.op)/\W.cell? ⟨b,off+1,none⟩=some (.string ⟨x.name.toArray⟩)/\W.cell? ⟨b,off+2,none⟩=some (.string ⟨x.module.toArray⟩)/\W.cell? ⟨b,off+3,none⟩=some (.bool (decide (x.num<0)))/\W.cell? ⟨b,off+4,none⟩=some (.slice rC rD rE)/\W.cell? ⟨b,off+5,none⟩=some (.bool x.yes)/\W.cell? ⟨b,off+6,none⟩=some (.slice Az x.aA.length AA)/\W.cell? ⟨b,off+7,none⟩=some (.int .i64 x.at_)))
    (first|(with_reducible exact p3)|(with_reducible exact p4)|(with_reducible exact p5)|(go_keep;done))
    (first
     | (go_at_call 85;refine(HMU.out w3 h3).mono ?_;rintro r w4 ⟨rfl,h4,hk4⟩;have p5:=HS.out w4 (((aR.drew cb w1).trans fM).trans hk4).2)
     | (go_at_call 86;refine(HX1.out w1.drew (aR.drew cb w1) H1.out).mono ?_;rintro r w3 ⟨rfl,h3,fM⟩;have p4:=HS.out w3 ((aR.drew cb w1).trans fM).2))
   clear p3 p4 p5;have UM:=((aR.drew cb w1).trans fM).trans hk4;obtain⟨o0,q6,q0,q1,q2,q3,q4,q5,q7,q8⟩:=HS2.out w4 UM.2;go_wp2_with (go_at_call 86;refine(Lc.out w4 UM h4).mono ?_;rintro r w5 ⟨rfl,h5,lu⟩);go_ret;exact⟨by rw[HR.out,HT.out];rfl,by rw[HR.out,HT.out];exact h5,(hk1.trans UM).trans lu⟩
mutual
theorem LM:∀ x:PZ,x.right false=true->x.jY=false->Av x
 | .mk op nm md num yes aA a,hr,hc=>UL op num a nm md yes aA (Jq aA (by rw[PZ.right,qM] at hr;exact hr.2) (by rw[PZ.jY,abn] at hc;exact hc.1)) hr hc
theorem Jq:∀ l:List PZ,jO false l=true->jZ l=false->∀ k∈l,Av k
 | [],_,_,k,h=>by cases h
 | e :: l,hr,hc,k,h=>by
  rw[jO,qM] at hr;rw[jZ,abn] at hc
  rcases oo.1 h with q|q
  ·rw[q];exact LM e hr.1 hc.1
  ·exact Jq l hr.2 hc.2 k q
end
theorem LP (v0 v2 v3:Value)(a:Option Addr)(c:Nat)(w:World):Calls Tryz.prog 84 #[v0,.slice a 0 c,v2,v3] w λe w'=>e=.returned (.tuple #[])/\w'=w:=by
 go_enter Tryz.func84,Tryz.ntmps84;go_wp2
 go_loopw [12] (λq wr=>q=.int .i64 0/\wr=w) (λ_ _=>0)
 case atStart=>exact⟨rfl,rfl⟩
 case round =>
  obtain⟨rfl,rfl⟩:=hrel;go_wp2
  go_end0
  exact⟨rfl,rfl⟩
theorem agl (C:Rj)(cb:Nat)(f:Fl)(d:ZD)(ap:Option Addr)(cp:Nat)(ac:Option Addr)(cc:Nat)(am:Option Addr)(wn cm:Nat)(ae:Option Addr)(ce:Nat)(w:World)(h:jv C cb f w)(hf:bT f)(hps:d.params.length<=1000)(hcl:(∀ p∈d.params,p.aC=[])/\d.res.aC=[])(hsz:d.body.size<=400000)(hr:d.body.right false=true)(hc:d.body.jY=false)
  (hP:RowK ZFK (λb=>b≠cb) w (.slice ap d.params.length cp) d.params) (hE:nD YA (λb=>b≠cb) w (.slice am wn cm) (.slice ae d.body.aA.length ce) d.body) :
  Calls Tryz.prog 53 #[.pointer (some ⟨cb,0,none⟩),.agg (iG d ap cp ac cc am wn cm ae ce)] w (CkU C cb (Ie f d) w):=by
 have hal:=aB w (.cells (iG d ap cp ac cc am wn cm ae ce) 66);have g0:=aZ w (.cells (iG d ap cp ac cc am wn cm ae ce) 66);obtain⟨ae',ce',hv,_,hform⟩:=hP.form;simp only[Value.slice.injEq] at hv;obtain⟨rfl,-,rfl⟩:=hv;have YO:=h.lt;have h1:=h.below hal;have hk1:=aR.of hal YO;have HF:=ay hform;have KY:=ay hcl;have HE0:=ay hE;have HX:=ay (LM d.body hr hc)
 obtain⟨R,hR⟩:∃ R,R=Ie f d:=⟨_,rfl⟩
 rw[<- hR];have vI:=ay hR;have JB:=ay hf;clear h hf hcl hP hE hform hr hc hR;go_enter Tryz.func53,Tryz.ntmps53
 go_upto_region 1 with fail
 change Code.wp _ _ _ _ (w.alloc _);generalize w.alloc _=w1 at *;have hl1:=(bU g0).1;have hcw:cb<w1.heap.size:=h1.lt
 have hne:w.heap.size≠cb:=by omega
 have H1:=ay h1;have HG:=ay g0;clear h1 g0
 go_upto_region 2 with (go_at_call 82;refine(acR w1).mono ?_;rintro e w2 ⟨rfl,hg2,hb2⟩)
 have HG2:=ay hg2;clear hg2;have hy2:=(aY ((hb2.block _ hl1).trans HG.out)).2.2.1;generalize aji:d.params=ps at *;go_wp2;clear hy2;have hz2:=hb2.size
 go_loopw [11] (λq wr=>∃ k:Nat,k<=ps.length/\q=.int .i64 k/\kY w1.heap.size w1.heap.size (ug (λ_=>none) (ps.take k)) k wr/\Below w1.heap.size w1 wr) (λq _=>ps.length - (intOf q).toNat)
 case atStart=>exact⟨0,mD _,rfl,HG2.out,hb2⟩
 case round =>
  obtain⟨k,hk,rfl,hgr,hbr⟩:=hrel;have QS:=ay hgr;clear hgr;have Fx:=hbr.size
  by_cases hlt:k<ps.length
  ·obtain⟨b,off,rfl,hPb,hbw,kK⟩:=HF.out (by omega)
   obtain⟨cv,hcl,hc⟩:=kK k hlt;obtain⟨a2,c2,rfl⟩:=RowK.slice hcl;have hbk:=(hbr.block b (by have:=hal.size;omega)).trans (hk1.2.2 b hPb hbw)
   have iU:∀ (j:Nat) (u:Value),w.cell? ⟨b,off+k * 5+j,none⟩=some u->wr.cell? ⟨b,off+k * 5+j,none⟩=some u:=λj u q=>(AJ (a:=⟨b,off+k * 5+j,none⟩) hbk).trans q
   have x0:=iU 0 _ (hc 0 _ rfl);have x1:=iU 1 _ (hc 1 _ rfl);have x2:=iU 2 _ (hc 2 _ rfl);have x3:=iU 3 _ (hc 3 _ rfl);have x4:=iU 4 _ (hc 4 _ rfl);rw[qp] at x0;simp only[dX] at x0;have HPE:=ay (T9 (λ_=>none) hlt);have hnil:=KY.out.1 _ (oQ hlt);rw[hnil] at x2;clear kK hcl hc iU hnil hbk;generalize ps[k]=p at *;generalize ug (λ_=>none) (ps.take k)=g at *
   have qF:(k:Int)<(ps.length:Int):=by omega
   have fV:=aB wr (.cells #[.string ⟨p.name.toArray⟩,.int .i64 p.base,.slice a2 0 c2,.int .i64 p.at_,.int .i64 p.bare] 68);have gk:=aZ wr (.cells #[.string ⟨p.name.toArray⟩,.int .i64 p.base,.slice a2 0 c2,.int .i64 p.at_,.int .i64 p.bare] 68)
   go_upto_region 5 with fail
   change Code.wp _ _ _ _ (wr.alloc (.cells #[.string ⟨p.name.toArray⟩,.int .i64 p.base,.slice a2 0 c2,.int .i64 p.at_,.int .i64 p.bare] 68));clear x0 x1 x2 x3 x4;generalize wr.alloc _=w3 at *;have hz3:=fV.size;have HPT:=ay (Ri w1.heap.size w1.heap.size k g p.name p.base w3 (QS.out.below fV) (by omega) (bI _) (by omega));have rA:=hbr.trans (fV.mono Fx)
   have hnb:wr.heap.size≠w1.heap.size:=by have:=QS.out.lt;omega
   obtain⟨p0,p1,p2,p3,p4⟩:=dL gk;have HGK:=ay gk;clear gk fV;go_wp2_with (first|(go_at_call 83;refine HPT.out.mono ?_;rintro r w4 ⟨⟨rb,rfl⟩,hg4,hb4,hk4⟩;have y2:=(dL ((hk4 _ _ _ _ hnb (by decide) HGK.out).trans HGK.out)).2.2.1)|(go_at_call 84;refine(LP _ _ _ _ _ w4).mono ?_;rintro r w5 ⟨rfl,rfl⟩))
   go_roundw
   case rel=>exact⟨k+1,by omega,by go_num,by rw[HPE.out];exact hg4,rA.trans hb4⟩
   case measure=>simp[intOf];omega
  ·obtain rfl:k=ps.length:=by omega
   have qF:decide ((ps.length:Int)<(ps.length:Int))=false:=fu (by omega);have hgr:=QS.out;rw[Fe] at hgr;have HGE:=ay hgr;clear hgr QS;have hkw:=hk1.low (hbr.mono (Nat.le_of_lt hl1)) YO
   have HS:Hid (∀ W,bA (λb=>b≠cb) wr W->(W.cell? ⟨w.heap.size,3,none⟩=some (.int .i64 d.res.base)/\W.cell? ⟨w.heap.size,5,none⟩=some (.int .i64 d.body.op)/\W.cell? ⟨w.heap.size,6,none⟩=some (.string ⟨d.body.name.toArray⟩)/\W.cell? ⟨w.heap.size,7,none⟩=some (.string ⟨d.body.module.toArray⟩)/\W.cell? ⟨w.heap.size,8,none⟩=some (.bool (decide (d.body.num<0)))/\W.cell? ⟨w.heap.size,9,none⟩=some (.slice am wn cm)/\W.cell? ⟨w.heap.size,10,none⟩=some (.bool d.body.yes)/\W.cell? ⟨w.heap.size,11,none⟩=some (.slice ae d.body.aA.length ce)/\W.cell? ⟨w.heap.size,12,none⟩=some (.int .i64 d.body.at_))):=ay λW hW=>by
    have hl:=zI hl1 Fx;obtain⟨-,-,-,q3,-,q5,q6,q7,q8,q9,q10,q11,q12,-⟩:=aY ((hW.2 w.heap.size hne hl).trans ((hbr.block _ hl1).trans HG.out));exact⟨q3,q5,q6,q7,q8,q9,q10,q11,q12⟩
   obtain⟨y0,y1,y2,y3,y4,y5,y6,y7,y8,y9,um,uo,uq,y13,VQ⟩:=aY ((hbr.block _ hl1).trans HG.out);rw[KY.out.2,iF] at y4;clear y0 y1 y2 y5 y6 y7 y8 y9 um uo uq y13 VQ;have h2:jv C cb f wr:=(hbr.block cb hcw).trans H1.out;have H2:=ay h2;have hok:=PZ.Cn d.body (ug (λ_=>none) ps) 0 f JB.out
   obtain⟨v,hv⟩:∃ v,v=d.body.ty (ug (λ_=>none) ps) 0 f:=⟨_,rfl⟩
   rw[<- hv] at hok
   have HX1:Hid (∀ W,aR cb wr W->jv C cb f W->Calls Tryz.prog 86 #[.pointer (some ⟨cb,0,none⟩),.agg #[.int .i64 d.body.op,.string ⟨d.body.name.toArray⟩,.string ⟨d.body.module.toArray⟩,.bool (decide (d.body.num<0)),.slice am wn cm,.bool d.body.yes,.slice ae d.body.aA.length ce,.int .i64 d.body.at_],.pointer (some ⟨w1.heap.size,0,none⟩),.int .i64 0] W (UH C cb v W)):=ay λW hW hc=>by
    rw[hv];exact HX.out C cb w1.heap.size w1.heap.size ps.length (ug (λ_=>none) ps) 0 f am wn cm ae ce W hc JB.out (HGE.out.ck H2.out hW.2) (by omega) (HE0.out.frame (hkw.trans hW).2)
   have HMU:Hid (∀ W,jv C cb v.2 W->Calls Tryz.prog 85 #[.pointer (some ⟨cb,0,none⟩),.agg #[.int .i64 d.body.op,.string ⟨d.body.name.toArray⟩,.string ⟨d.body.module.toArray⟩,.bool (decide (d.body.num<0)),.slice am wn cm,.bool d.body.yes,.slice ae d.body.aA.length ce,.int .i64 d.body.at_],.int .i64 v.1,.int .i64 d.res.base] W (CkU C cb R W)):=ay λW hc=>by
    rw[vI.out,Ie,aji,<- hv];exact Cm C cb v.2 _ _ _ _ _ _ _ _ _ _ W hc hok
   clear hv hok h2 vI
   go_upto_region 9 with (go_at_call 84;refine(LP _ _ _ _ _ wr).mono ?_;rintro r w5 ⟨rfl,rfl⟩)
   obtain⟨wr,rfl⟩:∃ wr:World,wr=w5:=⟨_,rfl⟩
   clear y3 y4;have p3:=HS.out wr (bA.refl _ _)
   go_region_held3 (λW=>W.cell? ⟨w.heap.size,3,none⟩=some (.int .i64 d.res.base)/\W.cell? ⟨w.heap.size,5,none⟩=some (.int .i64 d.body.op)/\W.cell? ⟨w.heap.size,6,none⟩=some (.string ⟨d.body.name.toArray⟩)/\W.cell? ⟨w.heap.size,7,none⟩=some (.string ⟨d.body.module.toArray⟩)/\W.cell? ⟨w.heap.size,8,none⟩=some (.bool (decide (d.body.num<0)))/\W.cell? ⟨w.heap.size,9,none⟩=some (.slice am wn cm)/\W.cell? ⟨w.heap.size,10,none⟩=some (.bool d.body.yes)/\W.cell? ⟨w.heap.size,11,none⟩=some (.slice ae d.body.aA.length ce)/\W.cell? ⟨w.heap.size,12,none⟩=some (.int .i64 d.body.at_))
    (first|(with_reducible exact p3)|(with_reducible exact p4)|(with_reducible exact p5)|(go_keep;done))
    (first
     | (go_at_call 85;refine(HMU.out w6 h6).mono ?_;rintro r w7 ⟨rfl,h7,zk⟩;have p5:=HS.out w7 (((aR.drew cb wr).trans qY).trans zk).2)
     | (go_at_call 86;refine(HX1.out wr.drew (aR.drew cb wr) H2.out).mono ?_;rintro r w6 ⟨rfl,h6,qY⟩;have p4:=HS.out w6 ((aR.drew cb wr).trans qY).2))
   all_goals
    go_wp2_with fail
    go_end0
    exact⟨rfl,h7,hkw.trans (((aR.drew cb wr).trans qY).trans zk)⟩
theorem Jr (E:SE):∀ (l:List ZD) (f:Fl),bT f->bT (sJ E f l)
 | [],_,h=>h
 | d :: l,f,h=>Jr E l _ (((yY E d.params ([],f) h).or (qj E _ _ _)).or (PZ.sU E _ _ _))
theorem LQ (hi:p.aG=[])(own:aH)(ms:List aH):bT (p.check own ms):=by
 unfold ZP.check
 split
 ·unfold ZP.fB
  refine Jr _ _ _ (Au _ _ _ ?_);rw[hi];exact bT.none
 ·exact bT.some (by decide)
theorem DF:∀ (l:List ZD) (f:Fl),bT f->bT (ql f l)
 | [],_,h=>h
 | d :: l,f,h=>DF l _ (sV _ _ _ (PZ.Cn d.body _ _ _ h))
theorem Rl {own:aH}{ms:List aH}(h:p.check own ms=none):∀ d∈p.defs,d.body.right false=true:=λd hd=>by
 unfold ZP.check at h
 split at h
 ·rename_i hq
  simp only[qM] at hq;have hs:=hq.1;unfold ZP.right at hs;simp only[qM,List.all_eq_true] at hs;have:=hs.2.2.2 d hd;unfold ZD.sound at this;simp only[qM] at this;exact this.2.2.2.2
 ·cases h
theorem Aw (own:aH)(p:ZP)(ai:Option Addr)(ci:Nat)(ad:Option Addr)(cd:Nat)(w:World)(hi:p.aG=[])(hfit:p.uw)(hown:own.length<=65536)
  (hD:RowK Vu (λb=>b<w.heap.size) w (.slice ad p.defs.length cd) p.defs) (hcl:∀ d∈p.defs,((∀ f∈d.params,f.aC=[])/\d.res.aC=[])/\d.body.jY=false) :
  Calls Tryz.prog 25 #[.string ⟨own.toArray⟩,.agg #[.slice ai p.aG.length ci,.slice ad p.defs.length cd],.slice none 0 0] w (Fz (p.types own) w):=by
 have hal:=(aB w (.cells #[.slice ai p.aG.length ci,.slice ad p.defs.length cd] 26)).alloc (by simp) (.cells #[.int .i64 0,.int .i64 0] 71);have g0:=(iB (w.alloc (.cells #[.slice ai p.aG.length ci,.slice ad p.defs.length cd] 26)) (.cells #[.int .i64 0,.int .i64 0] 71) w.heap.size (by simp)).trans (aZ w (.cells #[.slice ai p.aG.length ci,.slice ad p.defs.length cd] 26));have g1:=aZ (w.alloc (.cells #[.slice ai p.aG.length ci,.slice ad p.defs.length cd] 26)) (.cells #[.int .i64 0,.int .i64 0] 71);rw[oU] at g1;have HD:=ay hD;have Dy:=ay hfit;have KY:=ay hcl;have hdn:=hfit.few;have JB:=ay (LQ hi own []);have HRI:=ay (λq=>Rl (p:=p) (own:=own) (ms:=[]) q);have HCK:=ay (λW (hW:Below w.heap.size w W)=>UD own p ai ci ad cd none 0 [] W hi hfit hown ((hD.frame (bA.of hW)).imp λb _ hl=>hl) (RowK.nil _ _ _) ⟨by decide,λm hm=>by cases hm⟩)
 have hty:p.types own=match p.check own [] with|some x=>some x|none=>ql none p.defs:=rfl
 have Rx:=ay hty;clear hD hfit hcl hi hty;generalize p.types own=R at *;generalize p.check own []=f0 at *;go_enter Tryz.func25,Tryz.ntmps25
 go_upto_region 1 with fail
 change Code.wp _ _ _ _ ((w.alloc (.cells #[.slice ai p.aG.length ci,.slice ad p.defs.length cd] 26)).alloc (.cells #[.int .i64 0,.int .i64 0] 71));generalize (w.alloc (.cells #[.slice ai p.aG.length ci,.slice ad p.defs.length cd] 26)).alloc (.cells #[.int .i64 0,.int .i64 0] 71)=w1 at *;have hz1:=hal.size;have hl1:=(bU g1).1
 have hn0:w.heap.size<w1.heap.size:=by omega
 obtain⟨y0,y1⟩:=dH g0;have HG:=ay (iq g0 g1);clear g0 g1
 go_upto_region 2 with (go_at_call 21;refine(HCK.out w1 hal).mono ?_;rintro e w2 ⟨rfl,hb2⟩)
 clear y0 y1;have fV:=aB w2 (.cells #[.int .i64 (EA f0),.int .i64 (JA f0)] 71);have g3:=aZ w2 (.cells #[.int .i64 (EA f0),.int .i64 (JA f0)] 71);change Code.wp _ _ _ _ (w2.alloc (.cells #[.int .i64 (EA f0),.int .i64 (JA f0)] 71));have hb3:=hb2.trans (fV.mono hb2.size)
 have QT:w2.heap.size≠w.heap.size+1:=by have:=hb2.size;omega
 generalize w2.alloc _=w3 at *;have rA:=hal.trans (hb3.mono hz1);have gp3:=(hb3.block _ hn0).trans HG.out.1;have Yt:=(hb3.block _ hl1).trans HG.out.2;obtain⟨⟨q0,q1⟩,-⟩:=dF g3;clear HCK fV
 cases f0 with
 | some x =>
  have hx:(x.1 != 0)=true:=bne_iff_ne.2 (JB.out x rfl);simp only[EA,JA] at q0 q1 g3;have HE:Hid (R=some x):=ay (by rw[Rx.out]);obtain⟨⟨r0,r1⟩,rz0,rz1⟩:=dF Yt;have hP:=wF Yt (.int .i64 x.1) (.int .i64 x.2);have Rz:=wE rA (by omega:w.heap.size<=w.heap.size+1) (.int .i64 x.1) (.int .i64 x.2);have HP:=ay hP;have HB:=ay Rz;clear hP Rz Yt gp3 g3 Rx HRI JB;obtain⟨xe,xa⟩:=x;simp only at q0 q1 hx HP HB;go_wp2;change bodyPost _ _ _ _ _ (J9 w3 (w.heap.size+1) (.int .i64 xe) (.int .i64 xa));generalize J9 w3 _ _ _=w4 at *;obtain⟨⟨d0,d1⟩,-⟩:=dF HP.out;exact o9 (v:=.agg #[.int .i64 xe,.int .i64 xa]) (by simp[results,Tryz.results25,go_sem,d0,d1]) rfl ⟨by rw[HE.out];rfl,HB.out⟩
 | none =>
  have HE:Hid (R=ql none p.defs):=ay (by rw[Rx.out]);have HRT:=ay (HRI.out rfl);simp only[EA,JA] at q0 q1 g3;clear Rx HRI JB g3;obtain⟨y0,y1⟩:=dH gp3;have yD:=aB w3 (.cells #[.slice ai p.aG.length ci,.slice ad p.defs.length cd,.slice none 0 0,.int .i64 0,.int .i64 0] 118);have hck:jv ⟨.slice ai p.aG.length ci,.slice ad p.defs.length cd,.slice none 0 0⟩ w3.heap.size none (w3.alloc (.cells #[.slice ai p.aG.length ci,.slice ad p.defs.length cd,.slice none 0 0,.int .i64 0,.int .i64 0] 118)):=aZ w3 _
  obtain⟨C,hC⟩:∃ C:Rj,C=⟨.slice ai p.aG.length ci,.slice ad p.defs.length cd,.slice none 0 0⟩:=⟨_,rfl⟩
  rw[<- hC] at hck;clear hC;have hz3:=rA.size;have hr3:=(bU Yt).1;have Us:=ay (iq gp3 Yt);clear gp3 Yt HG
  go_upto_region 5 with fail
  clear q0 q1 y0 y1;change Code.wp _ _ _ _ (w3.alloc (.cells #[.slice ai p.aG.length ci,.slice ad p.defs.length cd,.slice none 0 0,.int .i64 0,.int .i64 0] 118))
  have akj:w3.heap.size<(w3.alloc (.cells #[.slice ai p.aG.length ci,.slice ad p.defs.length cd,.slice none 0 0,.int .i64 0,.int .i64 0] 118)).heap.size:=by simp
  generalize w3.alloc _=w4 at *;generalize w3.heap.size=cb at *;have gp4:=(yD.block _ (by omega)).trans Us.out.1;have gr4:=(yD.block _ (by omega)).trans Us.out.2;have HG4:=ay (iq gp4 gr4);have ahP:=ay hck;obtain⟨y0,y1⟩:=dH gp4;have uE:=rA.trans (yD.mono hz3);have HD4:Hid (RowK Vu (λb=>b≠cb) w4 (.slice ad p.defs.length cd) p.defs):=ay ((RowK.frame HD.out (bA.of uE)).imp λb hb _=>by omega);obtain⟨ao,cap,hv,_,hform⟩:=HD4.out.form;simp only[Value.slice.injEq] at hv;obtain⟨rfl,-,rfl⟩:=hv;have HF:=ay hform;clear gp4 gr4 hck hform Us;generalize hds:p.defs=ds at *;go_wp2;clear y0 y1;have D7:=uE.size
  go_loopw [26] (λq wr=>∃ k:Nat,k<=ds.length/\q=.int .i64 k/\jv C cb (ql none (ds.take k)) wr/\aR cb w4 wr) (λq _=>ds.length - (intOf q).toNat)
  case atStart=>exact⟨0,mD _,rfl,ahP.out,aR.refl _ _⟩
  case round =>
   obtain⟨k,hk,rfl,hr,hkr⟩:=hrel;have HR:=ay hr;clear hr
   by_cases hlt:k<ds.length
   ·obtain⟨b,off,rfl,hPb,hbl,kK⟩:=HF.out (by omega)
    obtain⟨⟨pv,cv,mv,kv⟩,⟨hP,hC,hE⟩,hc⟩:=kK k hlt;dsimp only at hP hC hE;obtain⟨ap,cp,rfl⟩:=RowK.slice hP;obtain⟨ac,cc,rfl⟩:=RowK.slice hC;obtain⟨am,wn,cm,ae,ce,rfl,rfl⟩:=hE.Xt
    have iU:∀ (j:Nat) (u:Value),w4.cell? ⟨b,off+k * 15+j,none⟩=some u->wr.cell? ⟨b,off+k * 15+j,none⟩=some u:=λj u q=>(AJ (a:=⟨b,off+k * 15+j,none⟩) (hkr.2.2 b hPb hbl)).trans q
    have x0:=iU 0 _ (hc 0 _ rfl);have x1:=iU 1 _ (hc 1 _ rfl);have x2:=iU 2 _ (hc 2 _ rfl);have x3:=iU 3 _ (hc 3 _ rfl);have x4:=iU 4 _ (hc 4 _ rfl);have x5:=iU 5 _ (hc 5 _ rfl);have x6:=iU 6 _ (hc 6 _ rfl);have x7:=iU 7 _ (hc 7 _ rfl);have x8:=iU 8 _ (hc 8 _ rfl);have x9:=iU 9 _ (hc 9 _ rfl);have x10:=iU 10 _ (hc 10 _ rfl);have YT:=iU 11 _ (hc 11 _ rfl);have VA:=iU 12 _ (hc 12 _ rfl);have YU:=iU 13 _ (hc 13 _ rfl);have x14:=iU 14 _ (hc 14 _ rfl);rw[qp] at x0;simp only[dX] at x1 x6 x7
    have hdm:ds[k]∈p.defs:=by rw[hds];exact oQ hlt
    have hcl:=KY.out ds[k] (oQ hlt);have hri:=HRT.out ds[k] (oQ hlt);have hdf:=Dy.out.defs ds[k] hdm;have XF:=ay (QZ none hlt);have JV:=DF (ds.take k) none bT.none;have vI:=ay (λ(W:World) (hW:aR cb w4 W) (hcW:jv C cb (ql none (ds.take k)) W)=>agl _ cb (ql none (ds.take k)) ds[k] ap cp ac cc am wn cm ae ce W hcW JV hdf.mG hcl.1 (iY hdf.body (by omega)) hri hcl.2 (hP.frame hW.2) (hE.frame hW.2));clear kK hc iU hP hC hE hdm hcl hri hdf JV;unfold iG at vI;generalize ds[k]=d at *
    have qF:(k:Int)<(ds.length:Int):=by omega
    go_upto_region 8 with fail
    clear x0 x1 x2 x3 x4 x5 x6 x7 x8 x9 x10 YT VA YU x14;change Code.wp _ _ _ _ (wr.alloc (.cells (iG d ap cp ac cc am wn cm ae ce) 66));have IB:=aB wr (.cells (iG d ap cp ac cc am wn cm ae ce) 66);have g5:=aZ wr (.cells (iG d ap cp ac cc am wn cm ae ce) 66);generalize wr.alloc _=w5 at *;have lu:=hkr.trans (aR.of IB HR.out.lt);have HDE:=ay (vI.out w5 lu (HR.out.below IB));obtain⟨y0,y1,y2,y3,y4,y5,y6,y7,y8,y9,um,uo,uq,y13,VQ⟩:=aY g5;clear vI g5;go_wp2_with (go_at_call 53;refine HDE.out.mono ?_;rintro r w6 ⟨rfl,h6,qY⟩)
    go_roundw
    case rel=>exact⟨k+1,by omega,by go_num,by rw[XF.out];exact h6,lu.trans qY⟩
    case measure=>simp[intOf];omega
   ·obtain rfl:k=ds.length:=by omega
    have qF:decide ((ds.length:Int)<(ds.length:Int))=false:=fu (by omega);have hrr:=HR.out;rw[Fe,<- HE.out] at hrr;obtain⟨⟨q3,q4⟩,-⟩:=hrr.cells;have hgr:=(hkr.2.2 (w.heap.size+1) (by omega) (by omega)).trans HG4.out.2;obtain⟨⟨r0,r1⟩,rz0,rz1⟩:=dF hgr;have hbr:=uE.trans (hkr.1 w.heap.size (by omega));have HP:=ay (wF hgr (.int .i64 (EA R)) (.int .i64 (JA R)));have HB:=ay (wE hbr (by omega:w.heap.size<=w.heap.size+1) (.int .i64 (EA R)) (.int .i64 (JA R)));clear hrr hgr hbr HR HE HG4 ahP HD4 HF;generalize hfe:EA R=fe at *;generalize hfa:JA R=fa at *;have HFF:=ay (iq hfe hfa);clear hfe hfa;go_wp2;change bodyPost _ _ _ _ _ (J9 wr (w.heap.size+1) (.int .i64 fe) (.int .i64 fa));generalize J9 wr _ _ _=w6 at *;obtain⟨⟨d0,d1⟩,-⟩:=dF HP.out;exact o9 (v:=.agg #[.int .i64 fe,.int .i64 fa]) (by simp[results,Tryz.results25,go_sem,d0,d1]) rfl ⟨by rw[HFF.out.1,HFF.out.2],HB.out⟩
def Ki (w w':World):Prop:=∀ (k:Nat) (cs:Array Value) (fr:Nat × Nat),w.heap[k]?=some (.cells cs 3 fr)->w'.heap[k]?=some (.cells cs 3 fr)
theorem Ki.trans {a b c:World}(h:Ki a b)(k:Ki b c):Ki a c:=λn cs fr q=>k n cs fr (h n cs fr q)
theorem Ki.below (h:Below w.heap.size w w'):Ki w w':=λk _cs _fr q=>(h.block k (bU q).1).trans q
theorem Ki.set {cs:Array Value}{T:TypeId}{fr:Nat × Nat}(hb:w.heap[b]?=some (.cells cs T fr))(hT:T≠3)(j:Nat)(u:Value):Ki w (w.setCell ⟨b,j,none⟩ u):=λk ds fr' q=>by
 rw[qo _ _ _ _ (by
  show k≠b;rintro rfl;rw[hb] at q;simp only[Option.some.injEq,Obj.cells.injEq] at q
  exact hT q.2.1)]
 exact q
theorem fA.ki {ks:List Int}(h:fA w v ks)(hk:Ki w w'):fA w' v ks:=by
 obtain⟨ao,cap,hv,hc,hf⟩:=h;refine⟨ao,cap,hv,hc,λh0=>?_⟩;obtain⟨b,off,cs,fr,ha,hb,hj⟩:=hf h0;exact⟨b,off,cs,fr,ha,hk b cs fr hb,hj⟩
theorem acT {B e sz:Nat}{xs:List Value}(h:w.ownsRow B e sz v n xs)(hs:∀ q,v.ownBlock=some q->w'.heap[q]?=w.heap[q]?):w'.ownsRow B e sz v n xs:=by
 refine⟨h.1,?_⟩
 rcases h.2 with hn|⟨g,cap,cur,hv,hg,hh,hr⟩
 ·exact .inl hn
 ·exact .inr ⟨g,cap,cur,hv,hg,(hs g (by rw[hv];rfl)).trans hh,hr⟩
def uI (w:World)(v:Value)(ah:List Tok)(aj:List Nd):Prop :=
 ∃ (tv nv:Value) (l:List (Nd × Value)) (C D:Nat),v=.agg #[tv,nv]/\w.ownsRow C 131 4 tv ah.length (ah.flatMap dW)/\l.map Prod.fst=aj/\w.ownsRow D 129 3 nv aj.length (l.flatMap yJ)/\∀ p∈l,fA w p.2 p.1.aA
theorem uI.set {w:World}{v:Value}{ah:List Tok}{aj:List Nd}(h:uI w v ah aj){b:Nat}{cs:Array Value}{T:TypeId}{fr:Nat × Nat}(hb:w.heap[b]?=some (.cells cs T fr))(h1:T≠131)(h2:T≠129)(h3:T≠3)(j:Nat)(u:Value):uI (w.setCell ⟨b,j,none⟩ u) v ah aj:=by
 obtain⟨tv,nv,l,C,D,e,p1,p2,p3,p4⟩:=h;exact⟨tv,nv,l,C,D,e,iQ (a:=⟨b,j,none⟩) p1 (own_ne p1 hb h1) u,p2,iQ (a:=⟨b,j,none⟩) p3 (own_ne p3 hb h2) u,λp hp=>(p4 p hp).ki (Ki.set hb h3 j u)⟩
theorem uI.later (h:uI w v ah aj)(hb:Below w.heap.size w w'):uI w' v ah aj:=by
 obtain⟨tv,nv,l,C,D,e,p1,p2,p3,p4⟩:=h;exact⟨tv,nv,l,C,D,e,own_below p1 hb,p2,own_below p3 hb,λp hp=>(p4 p hp).ki (Ki.below hb)⟩
theorem uI.at (h:uI w v ah aj):bE w.heap.size w v ah aj:=by
 obtain⟨tv,nv,l,C,D,e,p1,p2,p3,p4⟩:=h
 have hll:l.length=aj.length:=by rw[<- p2,vL]
 refine⟨tv,nv,l,e,Sl.fZ p1,p2,?_,λp hp=>?_⟩
 ·rw[Rec,hll]
  exact Sl.fZ p3
 ·obtain⟨ai,ci,hvi,hci,hfi⟩:=p4 p hp
  refine⟨ai,ci,hvi,hci,by simp,λhp0=>?_⟩;obtain⟨bi,oi,cs,fr,e1,e2,e3⟩:=hfi hp0;refine⟨bi,oi,e1,(bU e2).1,λjj hjj=>?_⟩;rw[bg e2,e3 jj (by simpa using hjj)]
  simp
def acU (ah:List Tok)(aj:List Nd)(w:World)(e:Ending)(w':World):Prop :=
 ∃ v,e=.returned v/\uI w' v ah aj/\Below w.heap.size w w'
def ahQ (C:Nat)(w:World)(nv:Value)(aj:List Nd):Prop :=
 ∃ l:List (Nd × Value),l.map Prod.fst=aj/\w.ownsRow C 129 3 nv aj.length (l.flatMap yJ)/\∀ p∈l,fA w p.2 p.1.aA
theorem acV (R:List Nat)(B bb:Nat)(tv:Value)(ah:List Tok)(aj:List Nd)(used:Nat)(w:World)(hb:BW R B bb tv used aj w)(ht:Rec B w tv 4 dW ah)(h0:0<ah.length)(hn:ah.length<=1000000)(hm:aj.length<=1000000)(hkl:∀ n∈aj,n.aA.length<=1000000) :
  Calls Tryz.prog 97 #[.pointer (some ⟨bb,0,none⟩)] w (acU ah aj w):=by
 have HC:=ay (λW (h:Rec B W tv 4 dW ah)=>Gp B tv ah W h h0 (by omega));obtain⟨h1,nv,l,h2,h3,h4,h5⟩:=hb;have hlt:=(bU h2).1
 obtain⟨ao,cap,rfl,_⟩:∃ ao cap,nv=.slice ao aj.length cap/\True:=by
  rcases h4.2 with ⟨hv,hn0⟩|⟨g,cap,cur,hv,_⟩
  ·exact⟨none,0,by rw[hv,hn0],trivial⟩
  ·exact⟨_,cap,hv,trivial⟩
 have HT:=ay ht;obtain⟨at_,ct,rfl,_,_⟩:=ht.form (λ_=>rfl)
 have c0:w.cell? ⟨bb,0,none⟩=some (.slice at_ ah.length ct):=by rw[bg h2];rfl
 have hal:=aB w (.cells #[.slice none 0 0,.slice none 0 0] 81);have d0:=jy hal c0
 have hBw:B<=w.heap.size:=by omega
 have H4:=ay h4;have H5:=ay h5;clear h4 h5 ht c0;go_enter Tryz.func97,Tryz.ntmps97;go_wp2_with (go_at_call 158;refine(HC.out _ ?c1).mono ?_)
 case c1=>exact HT.out.below (hal.mono hBw)
 rintro e w1 ⟨v',rfl,hown,hb1⟩;obtain⟨g,c5,rfl,hg1,hg2⟩:=hown.form h0;have G0:=(hb1.block w.heap.size (by simp)).trans (aZ w (.cells #[.slice none 0 0,.slice none 0 0] 81));have Gb:=(hb1.block bb (by simp;omega)).trans ((iB w _ bb hlt).trans h2)
 go_upto_region 2 with (fail)
 have hz1:=hb1.size;rw[oU] at hz1;have pV:Below w.heap.size w w1:=hal.trans (hb1.mono (by simp));have T1:=aZ w1 (.cells #[.slice (some ⟨g,0,none⟩) ah.length c5,.slice none 0 0] 81);have hb2:=aB w1 (.cells #[.slice (some ⟨g,0,none⟩) ah.length c5,.slice none 0 0] 81);have Gb2:=(iB w1 (.cells #[.slice (some ⟨g,0,none⟩) ah.length c5,.slice none 0 0] 81) bb (bU Gb).1).trans Gb;generalize w1.alloc _=w2 at T1 hb2 Gb2 |-
 have b1:w2.cell? ⟨bb,1,none⟩=some (.slice ao aj.length cap):=by rw[bg Gb2];rfl
 obtain⟨j0,hj,hy0,hy1,hy2⟩:=info_parts Tryz.OG
 have hll:l.length=aj.length:=by rw[<- h3,vL]
 have hrec:Rec w.heap.size w (.slice ao aj.length cap) 3 yJ l:=by
  have:=Sl.fZ H4.out;rw[Rec,hll];exact this
 obtain⟨ao',jc,hv,_,hnf⟩:=hrec.agw (λp=>OH p) hll;simp only[Value.slice.injEq] at hv;obtain⟨rfl,-,rfl⟩:=hv;have HNF:=ay hnf;have HLL:=ay hll;have H3:=ay h3;clear hnf hrec hll h3;go_wp2;clear b1 d0
 go_loopw [19] (λq wr=>∃ (j:Nat) (nv2:Value),j<=aj.length/\q=.int .i64 j/\bA (λb=>b<w1.heap.size) w2 wr/\wr.heap[w1.heap.size]?=some (.cells #[.slice (some ⟨g,0,none⟩) ah.length c5,nv2] 81 (0,0))/\ahQ (w1.heap.size+1) wr nv2 (aj.take j)/\Ki w2 wr/\Below w.heap.size w wr) (λq _=>aj.length - (intOf q).toNat)
 case atStart=>exact⟨0,.slice none 0 0,mD _,rfl,bA.refl _ _,T1,⟨[],rfl,World.ownsRow_nil _ _ _ _,λp hp=>by cases hp⟩,λ_ _ _ q=>q,pV.trans (hb2.mono pV.size)⟩
 case round =>
  obtain⟨j,nv2,hjn,rfl,fU,hT,hrow,hki,hbl⟩:=hrel;have Fx:=fU.1;have hz2:=hb2.size
  by_cases hlt:j<aj.length
  ·have hjl:j<l.length:=by have:=HLL.out;omega
   obtain⟨b,off,rfl,Vb,hcell⟩:=HNF.out (by omega);have hW2:Below w.heap.size w w2:=pV.trans (hb2.mono pV.size)
   have hcl:=λ(jj:Nat) (u:Value) (hu:(yJ l[j])[jj]?=some u)=>(AJ (a:=⟨b,off+j * 3+jj,none⟩) ((fU.2 b (by have:=pV.size;show b<w1.heap.size;omega) (by have:=pV.size;omega)).trans (hW2.block b Vb))).trans (hcell j jj u hjl hu)
   have hx0:=hcl 0 _ rfl;have hx1:=hcl 1 _ rfl;have hx2:=hcl 2 _ rfl;have hiw:fA wr l[j].2 l[j].1.aA:=((H5.out l[j] (oQ hjl)).1.ki (Ki.below hW2)).ki hki
   have YE:aj[j]=l[j].1:=by have:=H3.out;subst this;simp
   have hkj:=hkl aj[j] (oQ hlt)
   have hsn:aj.take (j+1)=aj.take j++[l[j].1]:=by rw[EF hlt,YE]
   rw[YE] at hkj;generalize l[j]=pr at hx0 hx1 hx2 hiw hkj hsn;obtain⟨⟨kind,tok,ks⟩,kv⟩:=pr;simp only[qp] at hx0 hx1 hx2 hiw hkj hsn;have HS:=ay hsn;have HIW:=ay hiw;obtain⟨ak,ck,rfl⟩:=hiw.slice
   have Md:(j:Int)<(aj.length:Int):=by omega
   clear hcell hcl YE hsn hiw;go_wp2_with (go_at_call 159;refine(F7 _ ks _ (HIW.out.ki (Ki.below (aB wr _))) (by omega)).mono ?_);rintro e w4 ⟨v5,rfl,hkR,hb4⟩;have lu:=(hkR [] (λr hr=>by cases hr)).1;obtain⟨a5,c6,rfl⟩:=lu.slice;have N4:=(hb4.block wr.heap.size (by simp)).trans (aZ wr (.cells #[.int .i64 kind,.int .i64 tok,.slice ak ks.length ck] 129))
   have n2:w4.cell? ⟨wr.heap.size,2,none⟩=some (.slice ak ks.length ck):=by rw[bg N4];rfl
   have nz:∀ jj,w4.frozen? ⟨wr.heap.size,jj,none⟩=false:=by intro jj;simp[World.frozen?,N4]
   clear hkR hx0 hx1 hx2
   go_upto_region 6 with (fail)
   obtain⟨l2,hl2,hown2,hk2⟩:=hrow
   have hlj:(aj.take j).length=j:=by rw[qX];omega
   rw[hlj] at hown2
   obtain⟨a2,c2,rfl,_⟩:∃ a2 c2,nv2=.slice a2 j c2/\True:=by
    rcases hown2.2 with ⟨hv,hn0⟩|⟨g,cap,cur,hv,_⟩
    ·exact⟨none,0,by rw[hv,hn0],trivial⟩
    ·exact⟨_,cap,hv,trivial⟩
   have hne2:some wr.heap.size≠(Value.slice a2 j c2).ownBlock:=λq=>by have:=(hown2.lt _ q.symm).2;omega
   have hlt1:w1.heap.size<wr.heap.size:=(bU hT).1;have Dv:Below wr.heap.size wr w4:=(aB wr _).trans (hb4.mono (by simp));have N5:=kG w4 wr.heap.size 2 _ _ (.slice a5 ks.length c6) N4;have T5:(w4.setCell ⟨wr.heap.size,2,none⟩ (.slice a5 ks.length c6)).heap[w1.heap.size]?=_:=(qo _ _ _ _ (by show w1.heap.size≠wr.heap.size;omega)).trans ((Dv.block _ hlt1).trans hT);have iW:=iQ (a:=⟨wr.heap.size,2,none⟩) (own_below hown2 Dv) hne2 (.slice a5 ks.length c6);have hks:=Ki.set N4 (by decide) 2 (.slice a5 ks.length c6);have ahR:=(hki.trans (Ki.below Dv)).trans hks;have OP:=(Ki.below Dv).trans hks;have ahS:=lu.ki hks;have aeQ:bA (λb=>b<w1.heap.size) w2 (w4.setCell ⟨wr.heap.size,2,none⟩ (.slice a5 ks.length c6)):=(fU.trans (bA.of Dv)).trans (bA.set _ λb hb=>by show b≠wr.heap.size;omega);have hb5:=(hbl.trans (Dv.mono hbl.size)).setCell (p:=⟨wr.heap.size,2,none⟩) hbl.size (.slice a5 ks.length c6)
   have hs5:w4.heap.size<=(w4.setCell ⟨wr.heap.size,2,none⟩ (.slice a5 ks.length c6)).heap.size:=by simp
   have hs4:=Dv.size;clear hown2 hne2 N4 n2 nz hb4 Dv lu hks;generalize w4.setCell _ _=w5 at N5 T5 iW ahR OP ahS aeQ hs5 hb5 |-
   have t1:w5.cell? ⟨w1.heap.size,1,none⟩=some (.slice a2 j c2):=by rw[bg T5];rfl
   have m0:w5.cell? ⟨wr.heap.size,0,none⟩=some (.int .i64 kind):=by rw[bg N5];rfl
   have m1:w5.cell? ⟨wr.heap.size,1,none⟩=some (.int .i64 tok):=by rw[bg N5];rfl
   have m2:w5.cell? ⟨wr.heap.size,2,none⟩=some (.slice a5 ks.length c6):=by rw[bg N5];rfl
   go_wp2_with (at_builtin;refine wpList_append_own _ rfl _ _ 79 rfl (w1.heap.size+1) 129 j0 (.agg #[.int .i64 0,.int .i64 0,.slice none 0 0]) 3 40 Tryz.underlying79 hj hy0 hy1 hy2 rfl (by decide) _ _ _ rfl (iW.alloc _) ⟨w5.heap.size,0,none⟩ 1 1 [.int .i64 kind,.int .i64 tok,.slice a5 ks.length c6] rfl rfl ?e1 ?e2 ?e3 ?e4 ?e5 ?_)
   case e1 =>
    intro j' u hj';exact wS (cs:=#[.int .i64 kind,.int .i64 tok,.slice a5 ks.length c6]) (t:=129) (fr:=(0,0)) (aZ w5 _) j' u (by simpa using hj')
   case e2=>simp[Value.oneCell']
   case e3=>unfold maxLen;omega
   case e4=>omega
   case e5=>simp;omega
   intro v' w6 hown6 oF _;obtain⟨gv,cv,rfl,_,_⟩:=hown6.form (by omega);have Sj:=(bU T5).1;have T6:=jf (iW.alloc _) oF ((iB w5 (.cells #[.int .i64 kind,.int .i64 tok,.slice a5 ks.length c6] 129) w1.heap.size Sj).trans T5) (by decide)
   have k6:Ki w5 w6:=λk cs fr q=>jf (iW.alloc _) oF ((iB w5 (.cells #[.int .i64 kind,.int .i64 tok,.slice a5 ks.length c6] 129) k (bU q).1).trans q) (by decide)
   have a6:bA (λb=>b<w1.heap.size) w2 w6:=(aeQ.trans (bA.of (aB w5 _))).trans (bA.grown oF λb hb q=>by have:=(iW.lt b q.symm).1;omega)
   have s1:w6.cell? ⟨w1.heap.size,1,none⟩=some (.slice a2 j c2):=by rw[bg T6];rfl
   have sz:∀ jj,w6.frozen? ⟨w1.heap.size,jj,none⟩=false:=by intro jj;simp[World.frozen?,T6]
   have hs7:Ki w6 (w6.setCell ⟨w1.heap.size,1,none⟩ (.slice (some ⟨gv,0,none⟩) (j+1) cv)):=Ki.set T6 (by decide) 1 _;have T7:=kG w6 w1.heap.size 1 _ _ (.slice (some ⟨gv,0,none⟩) (j+1) cv) T6;have a7:=a6.trans (bA.set (a:=⟨w1.heap.size,1,none⟩) (.slice (some ⟨gv,0,none⟩) (j+1) cv) λb hb=>by show b≠w1.heap.size;omega);have o7:=iQ (a:=⟨w1.heap.size,1,none⟩) hown6 (λq=>by have:=(hown6.lt _ q.symm).1;simp at this;omega) (.slice (some ⟨gv,0,none⟩) (j+1) cv)
   have ajj:(aj.take (j+1)).length=j+1:=by rw[qX];omega
   have R7:ahQ (w1.heap.size+1) (w6.setCell ⟨w1.heap.size,1,none⟩ (.slice (some ⟨gv,0,none⟩) (j+1) cv)) (.slice (some ⟨gv,0,none⟩) (j+1) cv) (aj.take (j+1)):=by
    refine⟨l2++[(⟨kind,tok,ks⟩,.slice a5 ks.length c6)],by rw[zJ,hl2,HS.out];rfl,?_,λp hp=>?_⟩
    ·rw[ajj,abo]
     exact o7
    ·rcases List.mem_append.1 hp with hp|hp
     ·exact(((hk2 p hp).ki OP).ki k6).ki hs7
     ·rw[DN] at hp
      subst hp;exact(ahS.ki k6).ki hs7
   have ajk:=((ahR.trans k6).trans hs7)
   have ajl:=pV.size;have BI:=((hb5.alloc hb5.size (.cells #[.int .i64 kind,.int .i64 tok,.slice a5 ks.length c6] 129)).grown oF (by have:=hb5.size;simp;omega) (λq hq=>by have:=(iW.lt q hq).1;omega)).setCell (p:=⟨w1.heap.size,1,none⟩) ajl (.slice (some ⟨gv,0,none⟩) (j+1) cv);clear oF hown6 iW t1 m0 m1 m2 o7 hk2 hl2;go_wp2
   go_roundw
   case rel=>exact⟨j+1,_,by omega,by go_num,a7,T7,R7,ajk,BI⟩
   case measure=>simp[intOf];omega
  ·obtain rfl:j=aj.length:=by omega
   rw[Fe] at hrow;obtain⟨l2,hl2,hown2,hk2⟩:=hrow
   obtain⟨a2,c2,rfl,_⟩:∃ a2 c2,nv2=.slice a2 aj.length c2/\True:=by
    rcases hown2.2 with ⟨hv,hn0⟩|⟨g,cap,cur,hv,_⟩
    ·exact⟨none,0,by rw[hv,hn0],trivial⟩
    ·exact⟨_,cap,hv,trivial⟩
   have hl1:=(bU G0).1;have Z:=(fU.2 w.heap.size hl1 (by omega)).trans ((hb2.block w.heap.size hl1).trans G0)
   have s0:wr.cell? ⟨w1.heap.size,0,none⟩=some (.slice (some ⟨g,0,none⟩) ah.length c5):=by rw[bg hT];rfl
   have s1:wr.cell? ⟨w1.heap.size,1,none⟩=some (.slice a2 aj.length c2):=by rw[bg hT];rfl
   have q0:wr.cell? ⟨w.heap.size,0,none⟩=some (.slice none 0 0):=by rw[bg Z];rfl
   have q1:wr.cell? ⟨w.heap.size,1,none⟩=some (.slice none 0 0):=by rw[bg Z];rfl
   have qz:∀ jj,wr.frozen? ⟨w.heap.size,jj,none⟩=false:=by intro jj;simp[World.frozen?,Z]
   have Md:decide ((aj.length:Int)<(aj.length:Int))=false:=fu (by omega)
   have akk:l2.length=aj.length:=by rw[<- hl2,vL]
   have k1:Ki wr (wr.setCell ⟨w.heap.size,0,none⟩ (.slice (some ⟨g,0,none⟩) ah.length c5)):=Ki.set Z (by decide) 0 _;have Z1:=kG wr w.heap.size 0 _ _ (.slice (some ⟨g,0,none⟩) ah.length c5) Z;have k2:=Ki.set Z1 (by decide) 1 (.slice a2 aj.length c2);have hgl:=hown.lt g rfl;simp only[oU] at hgl
   have hP3:((wr.setCell ⟨w.heap.size,0,none⟩ (.slice (some ⟨g,0,none⟩) ah.length c5)).setCell ⟨w.heap.size,1,none⟩ (.slice a2 aj.length c2)).ownsRow _ 131 4 (.slice (some ⟨g,0,none⟩) ah.length c5) ah.length (ah.flatMap dW):=acT hown λq hq=>by
    obtain rfl:g=q:=by simpa [Value.ownBlock] using hq
    rw[qo _ _ _ _ (by show g≠w.heap.size;omega),qo _ _ _ _ (by show g≠w.heap.size;omega)];exact(fU.2 g hgl.2 (by omega)).trans (hb2.block g hgl.2)
   have hn1:=iQ (a:=⟨w.heap.size,0,none⟩) hown2 (λq=>by have:=(hown2.lt _ q.symm).1;simp at this;omega) (.slice (some ⟨g,0,none⟩) ah.length c5);have hN3:=iQ (a:=⟨w.heap.size,1,none⟩) hn1 (λq=>by have:=(hn1.lt _ q.symm).1;simp at this;omega) (.slice a2 aj.length c2);have EO:=(hbl.setCell (p:=⟨w.heap.size,0,none⟩) (bI _) (.slice (some ⟨g,0,none⟩) ah.length c5)).setCell (p:=⟨w.heap.size,1,none⟩) (bI _) (.slice a2 aj.length c2);go_wp2;refine o9 (v:=.agg #[.slice (some ⟨g,0,none⟩) ah.length c5,.slice a2 aj.length c2]) (by simp[results,Tryz.results97,go_sem,q0,q1]) rfl ⟨_,rfl,⟨_,_,l2,_,_,rfl,hP3,hl2,hN3,λp hp=>((hk2 p hp).ki k1).ki k2⟩,EO⟩
mutual
def PE.ahT:PE->Prop
 | .mk op _ _ _ _ _ aA _=>op<100/\acW aA
def acW:List PE->Prop
 | []=>True
 | e :: l=>e.ahT/\acW l
end
def NR (r:adH)(w:World)(e:Ending)(w':World):Prop :=
 Below w.heap.size w w'/\match r with
 | .bad c a=>e=.returned (.tuple #[.agg #[.slice none 0 0,.slice none 0 0],.agg #[.int .i64 c,.int .i64 a]])
 | .good ah aj=>∃ at_ ct an cn,e=.returned (.tuple #[.agg #[.slice at_ ah.length ct,.slice an aj.length cn],.agg #[.int .i64 0,.int .i64 0]])/\uI w' (.agg #[.slice at_ ah.length ct,.slice an aj.length cn]) ah aj
theorem jw (h:w.heap[b]?=some (.cells #[x,y] 71 (0,0))):w.cell? ⟨b,0,none⟩=some x/\w.cell? ⟨b,1,none⟩=some y/\∀ j,w.frozen? ⟨b,j,none⟩=false:=by
 refine⟨?_,?_,λj=>?_⟩
 ·rw[bg h];rfl
 ·rw[bg h];rfl
 ·simp[World.frozen?,h]
theorem qL (h:w.heap[b]?=some (.cells #[x,y] 81 (0,0))):w.cell? ⟨b,0,none⟩=some x/\w.cell? ⟨b,1,none⟩=some y/\∀ j,w.frozen? ⟨b,j,none⟩=false:=by
 refine⟨?_,?_,λj=>?_⟩
 ·rw[bg h];rfl
 ·rw[bg h];rfl
 ·simp[World.frozen?,h]
theorem Rm (s:ByteArray)(d:Nat)(fv:Value)(w:World)(hd1:1<=d)(hd2:d<=200)(hs:s.size<=1099511627776)(c a:Nat)(hl:bV s.data.toList=.error (c,a))(hc:c≠0) :
  Calls Tryz.prog 57 #[.string s,.int .i64 d,fv] w (NR (.bad c a) w):=by
 have HL:Hid (∀ W,Calls Tryz.prog 69 #[.string s] W λe w'=>e=.returned (.tuple #[.slice none 0 0,.agg #[.int .i64 c,.int .i64 a]])/\Below W.heap.size W w'):=ay λW=>(Mg s W hs).mono λe w' h=>by
  unfold U6 at h;rw[hl] at h;exact⟨h.2,h.1⟩
 have hc0:((c:Int) == 0)=false:=by simp;omega
 have hal:=(aB w (.cells #[.slice none 0 0,.slice none 0 0] 81)).alloc (by simp) (.cells #[.int .i64 0,.int .i64 0] 71);have e1:=(iB (w.alloc (.cells #[.slice none 0 0,.slice none 0 0] 81)) (.cells #[.int .i64 0,.int .i64 0] 71) w.heap.size (by simp)).trans (aZ w (.cells #[.slice none 0 0,.slice none 0 0] 81));have e2:=aZ (w.alloc (.cells #[.slice none 0 0,.slice none 0 0] 81)) (.cells #[.int .i64 0,.int .i64 0] 71);rw[oU] at e2
 have ahU:¬ ((d:Int)<1):=by omega
 have ahV:¬ ((200:Int)<(d:Int)):=by omega
 clear hl;go_enter Tryz.func57,Tryz.ntmps57
 go_upto_region 5 with (go_at_call 69;refine(HL.out _).mono ?_;rintro e w3 ⟨rfl,hb3⟩;have hz3:=hb3.size)
 rw[oU,oU] at hz3;have G6:=(iB w3 (.cells #[.int .i64 c,.int .i64 a] 71) w.heap.size (by omega)).trans ((hb3.block w.heap.size (by simp;omega)).trans e1);have G7:=(iB w3 (.cells #[.int .i64 c,.int .i64 a] 71) (w.heap.size+1) (by omega)).trans ((hb3.block (w.heap.size+1) (by simp)).trans e2);have hb4:=(hal.trans (hb3.mono (by simp;omega))).alloc (by omega) (.cells #[.int .i64 c,.int .i64 a] 71);have N9:=aZ w3 (.cells #[.int .i64 c,.int .i64 a] 71);clear hb3 e1 e2 hal HL;generalize hx:w3.heap.size=xb at N9 |-;generalize w3.alloc _=w4 at G6 G7 hb4 N9 |-;obtain⟨q0,q1,qz⟩:=qL G6;obtain⟨p0,p1,pz⟩:=jw G7;obtain⟨f0,f1,fz⟩:=jw N9
 go_region
 go_wp2;refine o9 (v:=.tuple #[.agg #[.slice none 0 0,.slice none 0 0],.agg #[.int .i64 c,.int .i64 a]]) (by simp[results,Tryz.results57,go_sem,q0,q1,p0,p1]) rfl ⟨?_,rfl⟩;exact((((hb4.setCell (by simp) _).setCell (by simp) _).setCell (by simp) _).setCell (by simp) _).drew
