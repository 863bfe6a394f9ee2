/- Walks and plain laws, without a condition. -/
import Derived.Test.YtmleecdnkmoohaaGreatDoorK18
set_option maxHeartbeats 16000000
set_option maxRecDepth 100000
set_option linter.unusedVariables false
set_option linter.unusedSimpArgs false
namespace Go.Proofs.YtmleecdnkmoohaaGreatDoor
open Go.RowKit Go
variable{w w':World}{cb:Nat}{C:IU}{f:Fl}{l:List (Int × rY)}
def He (p:ZP)(nm md:aH):Option ZD:=if md=[] then p.defs.find? (λd=>decide (d.res.name=nm)) else none
theorem WL (p:ZP)(nm md:aH):(if md=[] then aS p.defs nm else none)=(He p nm md).map λd=>(d.params.map ZF.base,d.res.base):=by
 unfold He aS
 split<;>rfl
def abx (P:Nat->Prop)(o:Option ZD)(w:World)(e:Ending)(w':World):Prop:=Below w.heap.size w w'/\match o with
 | none=>e=.returned (.tuple #[.agg #[.string ⟨#[]⟩,.slice none 0 0,.int .i64 0,.slice none 0 0],.bool false])
 | some d=>∃ a c ac cc,e=.returned (.tuple #[.agg #[.string ⟨d.res.name.toArray⟩,.slice a d.params.length c,.int .i64 d.res.base,.slice ac d.res.aC.length cc],.bool true])/\RowK Dj (λb=>(P b/\b<w.heap.size)\/w.heap.size<=b) w' (.slice a d.params.length c) d.params
theorem zC {b:Nat}{c0 c1 c2 c3:Value}(h:w.heap[b]?=some (.cells #[c0,c1,c2,c3] 115 (0,0))):(w.cell? ⟨b,0,none⟩=some c0/\w.cell? ⟨b,1,none⟩=some c1/\w.cell? ⟨b,2,none⟩=some c2/\w.cell? ⟨b,3,none⟩=some c3)/\(w.frozen? ⟨b,0,none⟩=false/\w.frozen? ⟨b,1,none⟩=false/\w.frozen? ⟨b,2,none⟩=false/\w.frozen? ⟨b,3,none⟩=false):=mF h
theorem SB (P:Nat->Prop)(p:ZP)(pi:Value)(ad:Option Addr)(cd:Nat)(nm md:aH)(ng ys:Bool)(mv kv:Value)(a_:Int)(w:World)(hpi:∃ a n c,pi=.slice a n c)(hfit:p.qF)(hkv:∃ a n c,kv=.slice a n c)(hmv:∃ a n c,mv=.slice a n c)(hD:RowK PS P w (.slice ad p.defs.length cd) p.defs) :
  Calls Tryz.prog 62 #[.agg #[pi,.slice ad p.defs.length cd],.slice none 0 0,.agg (aR 24 ⟨nm.toArray⟩ ⟨md.toArray⟩ ng mv ys kv a_)] w (abx P (He p nm md) w):=by
 obtain⟨ai,ni,ci,rfl⟩:=hpi;obtain⟨ae,ne,ce,rfl⟩:=hkv;obtain⟨am,wn,cm,rfl⟩:=hmv;have hal:=((aA w (.cells #[.slice ai ni ci,.slice ad p.defs.length cd] 26)).alloc (by simp) (.cells (aR 24 ⟨nm.toArray⟩ ⟨md.toArray⟩ ng (.slice am wn cm) ys (.slice ae ne ce) a_) 60)).alloc (by simp;omega) (.cells #[.string ⟨#[]⟩,.slice none 0 0,.int .i64 0,.slice none 0 0] 115);have g0:(((w.alloc (.cells #[.slice ai ni ci,.slice ad p.defs.length cd] 26)).alloc (.cells (aR 24 ⟨nm.toArray⟩ ⟨md.toArray⟩ ng (.slice am wn cm) ys (.slice ae ne ce) a_) 60)).alloc (.cells #[.string ⟨#[]⟩,.slice none 0 0,.int .i64 0,.slice none 0 0] 115)).heap[w.heap.size]?=some (.cells #[.slice ai ni ci,.slice ad p.defs.length cd] 26 (0,0)):=(gZ _ _ _ (by simp;omega)).trans ((gZ _ _ _ (by simp)).trans (aX w _));have g1:(((w.alloc (.cells #[.slice ai ni ci,.slice ad p.defs.length cd] 26)).alloc (.cells (aR 24 ⟨nm.toArray⟩ ⟨md.toArray⟩ ng (.slice am wn cm) ys (.slice ae ne ce) a_) 60)).alloc (.cells #[.string ⟨#[]⟩,.slice none 0 0,.int .i64 0,.slice none 0 0] 115)).heap[w.heap.size+1]?=some (.cells (aR 24 ⟨nm.toArray⟩ ⟨md.toArray⟩ ng (.slice am wn cm) ys (.slice ae ne ce) a_) 60 (0,0)):=(gZ _ _ _ (by simp)).trans (by have:=aX (w.alloc (.cells #[.slice ai ni ci,.slice ad p.defs.length cd] 26)) (.cells (aR 24 ⟨nm.toArray⟩ ⟨md.toArray⟩ ng (.slice am wn cm) ys (.slice ae ne ce) a_) 60);rwa [nG] at this)
 have g2:(((w.alloc (.cells #[.slice ai ni ci,.slice ad p.defs.length cd] 26)).alloc (.cells (aR 24 ⟨nm.toArray⟩ ⟨md.toArray⟩ ng (.slice am wn cm) ys (.slice ae ne ce) a_) 60)).alloc (.cells #[.string ⟨#[]⟩,.slice none 0 0,.int .i64 0,.slice none 0 0] 115)).heap[w.heap.size+2]?=some (.cells #[.string ⟨#[]⟩,.slice none 0 0,.int .i64 0,.slice none 0 0] 115 (0,0)):=by have:=aX ((w.alloc (.cells #[.slice ai ni ci,.slice ad p.defs.length cd] 26)).alloc (.cells (aR 24 ⟨nm.toArray⟩ ⟨md.toArray⟩ ng (.slice am wn cm) ys (.slice ae ne ce) a_) 60)) (.cells #[.string ⟨#[]⟩,.slice none 0 0,.int .i64 0,.slice none 0 0] 115);rwa [nG,nG] at this
 have HD:=ay hD;have rZ:=ay hfit;have hdn:=hfit.few
 obtain⟨O,hO⟩:∃ O,O=He p nm md:=⟨_,rfl⟩
 rw[<- hO];have HO:=ay hO;clear hD hfit hO;go_enter Tryz.func62,Tryz.ntmps62
 go_upto_region 1 with fail
 change Code.wp _ _ _ _ (((w.alloc _).alloc _).alloc (.cells #[.string ⟨#[]⟩,.slice none 0 0,.int .i64 0,.slice none 0 0] 115));generalize ((w.alloc _).alloc _).alloc (.cells #[.string ⟨#[]⟩,.slice none 0 0,.int .i64 0,.slice none 0 0] 115)=w1 at *;have hz1:=hal.size;have hl2:=(bP g2).1;have hl1:=(bP g1).1;obtain⟨y0,y1⟩:=cB g0;obtain⟨z0,z1,z2,z3,z4,z5,z6,z7⟩:=aI g1;have HG:=ay (gy g1 g2);clear g0 g1 g2;have V3:=ay (λ(W:World) (hW:Below w1.heap.size w1 W)=>(gy ((hW.block _ hl2).trans HG.out.2) (hal.trans (hW.mono hz1))))
 cases hmd:md.isEmpty with
 | false =>
  have hm0:md≠[]:=λq=>by rw[q] at hmd;cases hmd
  have HOn:Hid (O=none):=ay (by rw[HO.out,He,aU hm0]);have HF:=ay (JQ (λ_=>True) none 0 [] md nm w1 (RowK.nil _ _ _) (by simp));clear hm0;go_wp2_with (go_at_call 101;refine HF.out.mono ?_;rintro e w2 ⟨rfl,hb2⟩;obtain⟨hRr,kQ⟩:=V3.out w2 hb2;obtain⟨⟨c0,c1,c2,c3⟩,f0,f1,f2,f3⟩:=mF hRr);change bodyPost _ _ _ _ _ (qA w2 (w.heap.size+2) (.string ⟨#[]⟩) (.slice none 0 0) (.int .i64 0) (.slice none 0 0));have hP:=iM hRr (.string ⟨#[]⟩) (.slice none 0 0) (.int .i64 0) (.slice none 0 0);have H8:=fZ kQ (by omega:w.heap.size<=w.heap.size+2) (.string ⟨#[]⟩) (.slice none 0 0) (.int .i64 0) (.slice none 0 0);generalize qA w2 _ _ _ _ _=wz at *;obtain⟨⟨d0,d1,d2,d3⟩,-⟩:=mF hP;exact nI (v:=.tuple #[.agg #[.string ⟨#[]⟩,.slice none 0 0,.int .i64 0,.slice none 0 0],.bool false]) (by simp[results,Tryz.results62,go_sem,d0,d1,d2,d3]) rfl ⟨H8,by rw[HOn.out]⟩
 | true =>
  have HOm:Hid (O=p.defs.find? λd=>decide (d.res.name=nm)):=ay (by rw[HO.out,He,bR (List.isEmpty_iff.1 hmd)]);obtain⟨ao,cap,hv,_,hform⟩:=HD.out.form;simp only[Value.slice.injEq] at hv;obtain⟨rfl,-,rfl⟩:=hv;have HF:=ay hform;have HFD:=ay (λk (hk:k<p.defs.length)=>rZ.out.defs _ (nH hk));clear hform HD HO rZ;generalize p.defs=ds at *;go_wp2
  go_loopw [30] (λq wr=>∃ k:Nat,k<=ds.length/\q=.int .i64 k/\(ds.take k).find? (λd=>decide (d.res.name=nm))=none/\Below w1.heap.size w1 wr) (λq _=>ds.length - (intOf q).toNat)
  case atStart=>exact⟨0,kJ _,rfl,by rw[List.take_zero];rfl,bQ _ _⟩
  case round =>
   obtain⟨k,hk,rfl,hno,hbl⟩:=hrel;have Zt:=ay hno;clear hno;have DY:=hbl.size;have hb0:=hal.trans (hbl.mono hz1)
   by_cases hlt:k<ds.length
   ·obtain⟨b,off,rfl,hPb,hbw,iw⟩:=HF.out (by omega)
    obtain⟨⟨pv,cv,mg,kv⟩,⟨h5,h7,h8⟩,hc⟩:=iw k hlt;dsimp only at h5 h7 h8;obtain⟨ap,cp,rfl⟩:=RowK.slice h5;obtain⟨ac,cc,rfl⟩:=RowK.slice h7;obtain⟨Ef,wn',Eh,PN,PO,rfl,rfl⟩:=l7.PK h8
    have dI:∀ (j:Nat) (u:Value),w.cell? ⟨b,off+k * 15+j,none⟩=some u->wr.cell? ⟨b,off+k * 15+j,none⟩=some u:=λj u h=>(hb0.cell (p:=⟨b,off+k * 15+j,none⟩) hbw).trans h
    have x0:=dI 0 _ (hc 0 _ rfl);have x1:=dI 1 _ (hc 1 _ rfl);have x2:=dI 2 _ (hc 2 _ rfl);have x3:=dI 3 _ (hc 3 _ rfl);have x4:=dI 4 _ (hc 4 _ rfl);have x5:=dI 5 _ (hc 5 _ rfl);have x6:=dI 6 _ (hc 6 _ rfl);have x7:=dI 7 _ (hc 7 _ rfl);have x8:=dI 8 _ (hc 8 _ rfl);have x9:=dI 9 _ (hc 9 _ rfl);have x10:=dI 10 _ (hc 10 _ rfl);have Xj:=dI 11 _ (hc 11 _ rfl);have Xk:=dI 12 _ (hc 12 _ rfl);have Xl:=dI 13 _ (hc 13 _ rfl);have Zu:=dI 14 _ (hc 14 _ rfl);rw[nZ] at x0;simp only[fC] at x1 x6 x7;have hfd:=HFD.out k hlt
    have htk:(ds.take (k+1)).find? (λd=>decide (d.res.name=nm))=if ds[k].res.name=nm then some ds[k] else none:=by
     rw[zF hlt,List.find?_append,Zt.out,Option.none_or,List.find?_cons,List.find?_nil]
     by_cases q:ds[k].res.name=nm
     ·rw[bR q];simp[q]
     ·rw[aU q];simp[q]
    have hall:ds[k].res.name=nm->ds.find? (λd=>decide (d.res.name=nm))=some ds[k]:=λq=>by
     have e:ds.find? (λd=>decide (d.res.name=nm))=(ds.take (k+1)++ds.drop (k+1)).find? (λd=>decide (d.res.name=nm)):=by rw[List.take_append_drop]
     rw[e,List.find?_append,htk,bR q]
     rfl
    have AP:=ay htk;have mI:=ay hall;have aij:=ay hfd;have H57:=ay (gy h5 h7);clear iw h5 h7 h8 hc dI hfd htk hall;generalize ds[k]=d at *;have qh:=aA wr (.cells (gN d ap cp ac cc Ef wn' Eh PN PO) 62);have gd:=aX wr (.cells (gN d ap cp ac cc Ef wn' Eh PN PO) 62)
    have nK:(k:Int)<(ds.length:Int):=by omega
    go_upto_region 8 with fail
    change Code.wp _ _ _ _ (wr.alloc (.cells (gN d ap cp ac cc Ef wn' Eh PN PO) 62));clear x0 x1 x2 x3 x4 x5 x6 x7 x8 x9 x10 Xj Xk Xl Zu y0 y1 z0 z1 z2 z3 z4 z5 z6 z7;generalize wr.alloc (.cells (gN d ap cp ac cc Ef wn' Eh PN PO) 62)=w4 at *;have hb4:=hbl.trans (qh.mono DY);have qo:=hal.trans (hb4.mono hz1);obtain⟨u0,u1,u2,u3,u4,u5,u6,u7,u8,u9,u10,u11,u12,u13,u14⟩:=aV gd;obtain⟨z0,z1,-⟩:=aI ((hb4.block _ hl1).trans HG.out.1)
    have hcmp:(d.res.name == nm)=decide (d.res.name=nm):=by by_cases q:d.res.name=nm<;>simp[q]
    clear gd qh
    by_cases hq:d.res.name=nm
    ·have HOs:Hid (O=some d):=ay (by rw[HOm.out];exact mI.out hq)
     rw[jV hq] at hcmp;have HS:=ay (J4 (λb=>P b/\b<w.heap.size) d ap cp ac cc Ef wn' Eh PN PO w4 aij.out ((RowK.imp H57.out.1 (λb hb hl=>gy hb hl)).frame (aW.of qo)) ((RowK.imp H57.out.2 (λb hb hl=>gy hb hl)).frame (aW.of qo)));unfold LM gN at HS;clear mI AP hq;go_wp2_with (go_at_call 39;refine HS.out.mono ?_;rintro e w5 ⟨a6,c6,a7,c7,rfl,hsg,hb5⟩;have agT:=hb4.trans (hb5.mono hb4.size);obtain⟨hRr,XT⟩:=V3.out w5 agT;obtain⟨⟨c0,c1,c2,c3⟩,f0,f1,f2,f3⟩:=mF hRr);have hsz5:=XT.size;have ajt:=agT.size;have hA:aW (λb=>(P b/\b<w.heap.size)\/w4.heap.size<=b) w5 (qA w5 (w.heap.size+2) (.string ⟨d.res.name.toArray⟩) (.slice a6 d.params.length c6) (.int .i64 d.res.base) (.slice a7 d.res.aC.length c7)):=xg _ _ _ _ (λk hk=>by have:=hb4.size;omega);have hrw:=(hsg.1.imp (Q:=λb=>(P b/\b<w.heap.size)\/w4.heap.size<=b) (λb hb _=>hb.imp (λq=>q.1) id)).frame hA;have HRW:=ay hrw;clear hsg hrw;change bodyPost _ _ _ _ _ (qA w5 (w.heap.size+2) (.string ⟨d.res.name.toArray⟩) (.slice a6 d.params.length c6) (.int .i64 d.res.base) (.slice a7 d.res.aC.length c7));have hP:=iM hRr (.string ⟨d.res.name.toArray⟩) (.slice a6 d.params.length c6) (.int .i64 d.res.base) (.slice a7 d.res.aC.length c7);have H8:=fZ XT (by omega:w.heap.size<=w.heap.size+2) (.string ⟨d.res.name.toArray⟩) (.slice a6 d.params.length c6) (.int .i64 d.res.base) (.slice a7 d.res.aC.length c7);generalize qA w5 _ _ _ _ _=wz at *;obtain⟨⟨d0,d1,d2,d3⟩,-⟩:=mF hP;exact nI (v:=.tuple #[.agg #[.string ⟨d.res.name.toArray⟩,.slice a6 d.params.length c6,.int .i64 d.res.base,.slice a7 d.res.aC.length c7],.bool true]) (by simp[results,Tryz.results62,go_sem,d0,d1,d2,d3]) rfl ⟨H8,by rw[HOs.out];exact⟨a6,c6,a7,c7,rfl,RowK.imp HRW.out λb hb _=>hb.imp id (λq=>by have:=qo.size;omega)⟩⟩
    ·rw[dX hq] at hcmp
     have aik:=ay (AP.out.trans (aU hq));clear mI AP hq;go_wp2
     go_roundw
     case rel=>exact⟨k+1,by omega,by go_num,aik.out,hb4⟩
     case measure=>simp[intOf];omega
   ·obtain rfl:k=ds.length:=by omega
    have nK:decide ((ds.length:Int)<(ds.length:Int))=false:=dX (by omega);have HOn:Hid (O=none):=ay (by have:=Zt.out;rw[zG] at this;rw[HOm.out,this]);obtain⟨hRr,GL⟩:=V3.out wr hbl;obtain⟨⟨c0,c1,c2,c3⟩,f0,f1,f2,f3⟩:=mF hRr;clear Zt;go_wp2;change bodyPost _ _ _ _ _ (qA wr (w.heap.size+2) (.string ⟨#[]⟩) (.slice none 0 0) (.int .i64 0) (.slice none 0 0));have hP:=iM hRr (.string ⟨#[]⟩) (.slice none 0 0) (.int .i64 0) (.slice none 0 0);have H8:=fZ GL (by omega:w.heap.size<=w.heap.size+2) (.string ⟨#[]⟩) (.slice none 0 0) (.int .i64 0) (.slice none 0 0);generalize qA wr _ _ _ _ _=wz at *;obtain⟨⟨d0,d1,d2,d3⟩,-⟩:=mF hP;exact nI (v:=.tuple #[.agg #[.string ⟨#[]⟩,.slice none 0 0,.int .i64 0,.slice none 0 0],.bool false]) (by simp[results,Tryz.results62,go_sem,d0,d1,d2,d3]) rfl ⟨H8,by rw[HOn.out]⟩
def KM (p:ZP)(C:IU)(cb:Nat)(w:World):Prop:=∃ ai ci ad cd,C=⟨.slice ai p.aD.length ci,.slice ad p.defs.length cd,.slice none 0 0⟩/\RowK PS (λb=>b≠cb) w (.slice ad p.defs.length cd) p.defs/\p.qF
theorem KM.keep {p:ZP}(h:KM p C cb w)(ha:aW (λb=>b≠cb) w w'):KM p C cb w':=by
 obtain⟨ai,ci,ad,cd,h1,h2,h3⟩:=h;exact⟨ai,ci,ad,cd,h1,h2.frame ha,h3⟩
def lF (p:ZP)(x:PZ):Prop:=∀ (C:IU) (cb B mb n:Nat) (g:dM) (res:Int) (f:Fl) (am:Option Addr) (wn cm:Nat) (ae:Option Addr) (ce:Nat) (w:World),gu C cb f w->KM p C cb w->bq f->jM B mb g n w->n+x.size<=500000->l7 YA (λb=>b≠cb) w (.slice am wn cm) (.slice ae x.aB.length ce) x ->
 Calls Tryz.prog 51 #[.pointer (some ⟨cb,0,none⟩),.agg (aR x.op ⟨x.name.toArray⟩ ⟨x.module.toArray⟩ (decide (x.num<0)) (.slice am wn cm) x.yes (.slice ae x.aB.length ce) x.at_),.pointer (some ⟨mb,0,none⟩),.int .i64 res] w (LW C cb (x.ty (aS p.defs) g res f) w)
theorem jM.ck {B mb n:Nat}{g:dM}(h:jM B mb g n w)(hc:gu C cb f w)(ha:aW (λb=>b≠cb) w w'):jM B mb g n w':=h.alk hc (by decide) (by decide) ha
theorem aO.drew (lb:Nat)(w:World):aO lb w w.drew:=⟨λB _=>(bQ B w).drew,⟨bD _,λb _ _=>rfl⟩⟩
theorem qj (a b want:Int)(h:bq f):bq (lg f a b want):=h.or (by split;exact bq.none;exact bq.some (by decide))
def IV (k:rY):Prop:=∀ g res f,bq f->bq (k g res f).2
theorem rM (g:dM)(res want:Int):∀ {l:List (Int × rY)} {f:Fl},(∀ k∈l,IV k.2)->bq f->bq (jv g res want f l)
 | [],_,_,h=>h
 | k :: l,f,hl,h=>by rw[jv];exact rM g res want (λx hx=>hl x (Dy _ hx)) (qj _ _ _ (hl k Cu g res f h))
theorem vk (h:∀ k∈l,IV k.2)(i:Nat):IV (Cm l i).2:=by
 unfold Cm;rw[Kr]
 cases q:l[i]? with
 | none=>exact λg res f hf=>hf
 | some k=>exact h k (List.mem_of_getElem? q)
theorem Ke (g:dM)(res:Int){k m:Int × rY}(h1:IV k.2)(h2:IV m.2)(hf:bq f):bq (uY g res f k m).2:=qj _ _ _ (h2 g res _ (h1 g res f hf))
theorem Co (g:dM)(res:Int):∀ {l:List (Int × rY)} {bs:List Int} {f:Fl},(∀ k∈l,IV k.2)->bq f->bq (lD g res f l bs)
 | [],_,_,_,h=>by unfold lD;exact h
 | k :: l,[],f,hl,h=>by unfold lD;exact h
 | k :: l,b :: bs,f,hl,h=>by rw[lD];exact Co g res (λx hx=>hl x (Dy _ hx)) (qj _ _ _ (hl k Cu g res f h))
theorem ada (dG:dS)(op:Int)(nm md:aH)(h:∀ k∈l,IV k.2):IV (aa3 dG op nm md l):=by
 intro g res f hf
 cases f with
 | some x=>exact hf
 | none =>
  have k0:=vk h 0 g res none hf;show bq (LU dG op nm md l g res).2;unfold LU
  split
  ·exact hf
  split
  ·exact hf
  split
  ·unfold Am;split;exact bq.none;exact bq.some (by decide)
  split
  ·exact hf
  split
  ·exact rM g res 1 h hf
  split
  ·exact rM g res 1 h hf
  split
  ·exact Ke g res (vk h 0) (vk h 1) hf
  split
  ·exact rM g res 2 h hf
  split
  ·unfold sV
   split
   ·exact bq.some (by decide)
   ·split
    ·exact Co g res h hf
    ·exact bq.some (by decide)
  split
  ·exact vk h 1 _ res _ k0
  ·unfold agS
   split
   ·exact Ke g res (vk h 1) (vk h 2) (qj _ _ _ k0)
   ·exact vk h 1 g res _ (qj _ _ _ k0)
mutual
theorem PZ.xu (dG:dS):∀ e:PZ,IV (e.ty dG)
 | .mk op nm md num yes aB a=>by rw[PZ.ty];exact ada dG op nm md (Cq dG aB)
theorem Cq (dG:dS):∀ (l:List PZ),∀ k∈aa4 dG l,IV k.2
 | [],k,h=>by cases h
 | e :: l,k,h=>by
  rcases nY.1 h with q|q
  ·rw[q];exact PZ.xu dG e
  ·exact Cq dG l k q
end
theorem aeW (p:ZP)(x:PZ)(Ow:∀ k∈x.aB,lF p k)(C:IU)(cb B mb n:Nat)(g:dM)(res want:Int)(f:Fl)(am:Option Addr)(wn cm:Nat)(ae:Option Addr)(ce:Nat)(w:World)(h:gu C cb f w)(hkm:KM p C cb w)(hf:bq f)(hg:jM B mb g n w)(hn:n+x.size<=500000)(hZ:l7 YA (λb=>b≠cb) w (.slice am wn cm) (.slice ae x.aB.length ce) x) :
  Calls Tryz.prog 90 #[.pointer (some ⟨cb,0,none⟩),.agg (aR x.op ⟨x.name.toArray⟩ ⟨x.module.toArray⟩ (decide (x.num<0)) (.slice am wn cm) x.yes (.slice ae x.aB.length ce) x.at_),.pointer (some ⟨mb,0,none⟩),.int .i64 res,.int .i64 want] w (Uj C cb (jv g res want f (x.aB.map λe=>(e.at_,e.ty (aS p.defs)))) w):=by
 have hal:=aA w (.cells (aR x.op ⟨x.name.toArray⟩ ⟨x.module.toArray⟩ (decide (x.num<0)) (.slice am wn cm) x.yes (.slice ae x.aB.length ce) x.at_) 60);have g0:=aX w (.cells (aR x.op ⟨x.name.toArray⟩ ⟨x.module.toArray⟩ (decide (x.num<0)) (.slice am wn cm) x.yes (.slice ae x.aB.length ce) x.at_) 60);obtain⟨_,PN,PO,hv,_,hform⟩:=hZ.form;simp only[Value.slice.injEq] at hv;obtain⟨rfl,-,rfl⟩:=hv;have h1:=h.below hal;have hk1:=aO.of hal h.lt;have hks:=x.Aw
 have hcap:=λi (hi:i<x.aB.length)=>wS hi
 have hkl:=uU x.aB;have HF:=ay hform;have HSZ:=ay hcap;have IH:=ay Ow;have H0:=ay (gy h hg);have Hy:=ay hkm;have Ay:=ay hf;rw[hks] at hn;clear hform hcap Ow h hg hZ hf hks hkm;generalize x.aB=ks at *;generalize x.op=op at *;generalize x.name=nm at *;generalize x.module=md at *;generalize decide (x.num<0)=ng at *;generalize x.yes=ys at *;generalize x.at_=a_ at *;go_enter Tryz.func90,Tryz.ntmps90
 go_upto_region 1 with fail
 change Code.wp _ _ _ _ (w.alloc _);generalize w.alloc _=w1 at *;obtain⟨-,-,-,-,-,-,y6,-⟩:=aI g0;have H1:=ay h1;clear g0 h1;go_wp2
 go_loopw [15] (λq wr=>∃ k:Nat,k<=ks.length/\q=.int .i64 k/\gu C cb (jv g res want f ((ks.take k).map λe=>(e.at_,e.ty (aS p.defs)))) wr/\aO cb w1 wr) (λq _=>ks.length - (intOf q).toNat)
 case atStart=>exact⟨0,kJ _,rfl,H1.out,aO.refl _ _⟩
 case round =>
  obtain⟨k,hk,rfl,hr,hkr⟩:=hrel;have Cc:=hk1.trans hkr;have HR:=ay hr;clear hr
  by_cases hlt:k<ks.length
  ·obtain⟨b,off,rfl,hPb,hbw,iw⟩:=HF.out (by omega)
   obtain⟨m,kv,hE,hc⟩:=iw k hlt;obtain⟨jY,jZ,j3,kC,kD,rfl,rfl⟩:=hE.PK
   have dI:∀ (j:Nat) (u:Value),w.cell? ⟨b,off+k * 8+j,none⟩=some u->wr.cell? ⟨b,off+k * 8+j,none⟩=some u:=λj u q=>(yK (a:=⟨b,off+k * 8+j,none⟩) (Cc.2.2 b hPb hbw)).trans q
   have x0:=dI 0 _ (hc 0 _ rfl);have x1:=dI 1 _ (hc 1 _ rfl);have x2:=dI 2 _ (hc 2 _ rfl);have x3:=dI 3 _ (hc 3 _ rfl);have x4:=dI 4 _ (hc 4 _ rfl);have x5:=dI 5 _ (hc 5 _ rfl);have x6:=dI 6 _ (hc 6 _ rfl);have x7:=dI 7 _ (hc 7 _ rfl);rw[nZ] at x0;simp only[fC] at x1 x2;have hsz:=HSZ.out k hlt;have AP:=ay (GR (aS p.defs) g res want f hlt);have V6:=ay (IH.out _ (nH hlt));have HEE:=ay (hE.frame Cc.2);have BI:bq (jv g res want f ((ks.take k).map λe=>(e.at_,e.ty (aS p.defs)))):=rM g res want (by rw[<- um];exact Cq (aS p.defs) _) Ay.out;clear iw hE hc dI;generalize ks[k]=x at *;generalize jv g res want f ((ks.take k).map λe=>(e.at_,e.ty (aS p.defs)))=fk at *
   have nK:(k:Int)<(ks.length:Int):=by omega
   go_upto_region 4 with fail
   change Code.wp _ _ _ _ (wr.alloc (.cells (aR x.op ⟨x.name.toArray⟩ ⟨x.module.toArray⟩ (decide (x.num<0)) (.slice jY jZ j3) x.yes (.slice kC x.aB.length kD) x.at_) 60));have dD:=aA wr (.cells (aR x.op ⟨x.name.toArray⟩ ⟨x.module.toArray⟩ (decide (x.num<0)) (.slice jY jZ j3) x.yes (.slice kC x.aB.length kD) x.at_) 60);have gk:=aX wr (.cells (aR x.op ⟨x.name.toArray⟩ ⟨x.module.toArray⟩ (decide (x.num<0)) (.slice jY jZ j3) x.yes (.slice kC x.aB.length kD) x.at_) 60);clear x0 x1 x2 x3 x4 x5 x6 x7 y6;generalize wr.alloc _=wy at *;have hcl:cb<wr.heap.size:=HR.out.lt;have hky:=aO.of dD hcl;have hlk:=(bP gk).1
   have hne:wr.heap.size≠cb:=by omega
   have HX:Hid (∀ W,aW (λb=>b≠cb) wy W->gu C cb fk W->Calls Tryz.prog 51 #[.pointer (some ⟨cb,0,none⟩),.agg #[.int .i64 x.op,.string ⟨x.name.toArray⟩,.string ⟨x.module.toArray⟩,.bool (decide (x.num<0)),.slice jY jZ j3,.bool x.yes,.slice kC x.aB.length kD,.int .i64 x.at_],.pointer (some ⟨mb,0,none⟩),.int .i64 res] W (LW C cb (x.ty (aS p.defs) g res fk) W)) :=
    ay λW hW hc=>V6.out C cb B mb n g res fk jY jZ j3 kC kD W hc (Hy.out.keep (Cc.2.trans (hky.2.trans hW))) BI (H0.out.2.ck H0.out.1 (Cc.2.trans (hky.2.trans hW))) (by omega) (HEE.out.frame (hky.2.trans hW))
   have vv:=PZ.xu (aS p.defs) x g res fk BI
   obtain⟨v,hv⟩:∃ v,v=x.ty (aS p.defs) g res fk:=⟨_,rfl⟩
   rw[<- hv] at HX vv
   have WM:Hid (∀ W,gu C cb v.2 W->Calls Tryz.prog 71 #[.pointer (some ⟨cb,0,none⟩),.agg #[.int .i64 x.op,.string ⟨x.name.toArray⟩,.string ⟨x.module.toArray⟩,.bool (decide (x.num<0)),.slice jY jZ j3,.bool x.yes,.slice kC x.aB.length kD,.int .i64 x.at_],.int .i64 v.1,.int .i64 want] W (Uj C cb (lg v.2 x.at_ v.1 want) W)):=ay λW hc=>vg C cb v.2 _ _ _ _ _ _ _ _ _ _ W hc vv
   rw[<- hv] at AP
   have HS:Hid (∀ W,aW (λb=>b≠cb) wy W->(W.cell? ⟨wr.heap.size,0,none⟩=some (.int .i64 x.op)/\W.cell? ⟨wr.heap.size,1,none⟩=some (.string ⟨x.name.toArray⟩)/\W.cell? ⟨wr.heap.size,2,none⟩=some (.string ⟨x.module.toArray⟩)/\W.cell? ⟨wr.heap.size,3,none⟩=some (.bool (decide (x.num<0)))/\W.cell? ⟨wr.heap.size,4,none⟩=some (.slice jY jZ j3)/\W.cell? ⟨wr.heap.size,5,none⟩=some (.bool x.yes)/\W.cell? ⟨wr.heap.size,6,none⟩=some (.slice kC x.aB.length kD)/\W.cell? ⟨wr.heap.size,7,none⟩=some (.int .i64 x.at_))):=ay λW hW=>aI ((hW.2 wr.heap.size hne hlk).trans gk)
   have p3:=HS.out wy (aW.refl _ _);have hcy:=HR.out.below dD;have HCY:=ay hcy;have HVV:Hid ((x.ty (aS p.defs) g res fk)=v):=ay hv.symm;have HRK:Hid (aO cb w1 wy):=ay (hkr.trans hky);clear hv gk hcy vv dD hkr hky Cc
   go_region_held3 (λW=>W.cell? ⟨wr.heap.size,0,none⟩=some (.int .i64 x.op)/\W.cell? ⟨wr.heap.size,1,none⟩=some (.string ⟨x.name.toArray⟩)/\W.cell? ⟨wr.heap.size,2,none⟩=some (.string ⟨x.module.toArray⟩)/\W.cell? ⟨wr.heap.size,3,none⟩=some (.bool (decide (x.num<0)))/\W.cell? ⟨wr.heap.size,4,none⟩=some (.slice jY jZ j3)/\W.cell? ⟨wr.heap.size,5,none⟩=some (.bool x.yes)/\W.cell? ⟨wr.heap.size,6,none⟩=some (.slice kC x.aB.length kD)/\W.cell? ⟨wr.heap.size,7,none⟩=some (.int .i64 x.at_))
    (first|(with_reducible exact p3)|(with_reducible exact p4)|(with_reducible exact p5)|(go_keep;done))
    (first
     | (go_at_call 71;refine(WM.out _ h6).mono ?_;rintro r w7 ⟨rfl,h7,tK⟩;have p5:=HS.out w7 (mR.2.trans tK.2))
     | (go_at_call 51;refine(HX.out wy.drew (aW.refl _ _) HCY.out).mono ?_;rintro r w6 ⟨rfl,h6,mR⟩;have p4:=HS.out w6 mR.2))
   all_goals
    go_wp2_with fail
    go_roundw
    case rel=>exact⟨k+1,by omega,by go_num,by rw[AP.out];exact h7,HRK.out.trans (((aO.drew cb wy).trans mR).trans tK)⟩
    case measure=>simp[intOf];omega
  ·obtain rfl:k=ks.length:=by omega
   have nK:decide ((ks.length:Int)<(ks.length:Int))=false:=dX (by omega);go_wp2
   go_end0
   refine⟨rfl,?_,Cc⟩;have:=HR.out;rw[zG] at this;exact this
theorem Kg (p:ZP)(ks:List PZ)(Ow:∀ k∈ks,lF p k)(C:IU)(cb B mb n:Nat)(g:dM)(res:Int)(f:Fl)(ae:Option Addr)(ce:Nat)(w:World)(h:gu C cb f w)(hkm:KM p C cb w)(hf:bq f)(hg:jM B mb g n w)(hn:∀ k∈ks,n+k.size<=500000)(hl:ks.length<=1000000)(hZ:RowK (ZK YA) (λb=>b≠cb) w (.slice ae ks.length ce) ks) :
  Calls Tryz.prog 70 #[.pointer (some ⟨cb,0,none⟩),.slice ae ks.length ce,.pointer (some ⟨mb,0,none⟩),.int .i64 res] w (Uj C cb (GU (aS p.defs) g res f ks) w):=by
 unfold GU;obtain⟨PN,PO,hv,_,hform⟩:=hZ.form;simp only[Value.slice.injEq] at hv;obtain⟨rfl,-,rfl⟩:=hv;have HF:=ay hform;have HSZ:=ay (λk (hk:k<ks.length)=>hn _ (nH hk));have IH:=ay Ow;have H0:=ay (gy h hg);have H1:=ay h;have Hy:=ay hkm;have Ay:=ay hf;have hk1:=aO.refl cb w
 obtain⟨w1,hw1⟩:∃ w1,w1=w:=⟨_,rfl⟩
 rw[<- hw1] at H1;rw[show aO cb w w=aO cb w w1 by rw[hw1]] at hk1;clear hform Ow h hg hZ hf hkm hn;show Calls Tryz.prog 70 #[.pointer (some ⟨cb,0,none⟩),.slice ae ks.length ce,.pointer (some ⟨mb,0,none⟩),.int .i64 res] w _;have hww:Calls Tryz.prog 70 #[.pointer (some ⟨cb,0,none⟩),.slice ae ks.length ce,.pointer (some ⟨mb,0,none⟩),.int .i64 res] w1 (Uj C cb (jv g res 2 f (ks.map λe=>(e.at_,e.ty (aS p.defs)))) w):=?_
 ·rw[hw1] at hww;exact hww
 clear hw1;go_enter Tryz.func70,Tryz.ntmps70;go_wp2
 go_loopw [12] (λq wr=>∃ k:Nat,k<=ks.length/\q=.int .i64 k/\gu C cb (jv g res 2 f ((ks.take k).map λe=>(e.at_,e.ty (aS p.defs)))) wr/\aO cb w1 wr) (λq _=>ks.length - (intOf q).toNat)
 case atStart=>exact⟨0,kJ _,rfl,H1.out,aO.refl _ _⟩
 case round =>
  obtain⟨k,hk,rfl,hr,hkr⟩:=hrel;have Cc:=hk1.trans hkr;have HR:=ay hr;clear hr
  by_cases hlt:k<ks.length
  ·obtain⟨b,off,rfl,hPb,hbw,iw⟩:=HF.out (by omega)
   obtain⟨⟨m,kv⟩,hE,hc⟩:=iw k hlt
   replace hE:l7 YA (λb=>b≠cb) w m kv ks[k]:=hE
   obtain⟨jY,jZ,j3,kC,kD,rfl,rfl⟩:=hE.PK
   have dI:∀ (j:Nat) (u:Value),w.cell? ⟨b,off+k * 8+j,none⟩=some u->wr.cell? ⟨b,off+k * 8+j,none⟩=some u:=λj u q=>(yK (a:=⟨b,off+k * 8+j,none⟩) (Cc.2.2 b hPb hbw)).trans q
   have x0:=dI 0 _ (hc 0 _ rfl);have x1:=dI 1 _ (hc 1 _ rfl);have x2:=dI 2 _ (hc 2 _ rfl);have x3:=dI 3 _ (hc 3 _ rfl);have x4:=dI 4 _ (hc 4 _ rfl);have x5:=dI 5 _ (hc 5 _ rfl);have x6:=dI 6 _ (hc 6 _ rfl);have x7:=dI 7 _ (hc 7 _ rfl);rw[nZ] at x0;simp only[fC] at x1 x2;have hsz:=HSZ.out k hlt;have AP:=ay (GR (aS p.defs) g res 2 f hlt);have V6:=ay (IH.out _ (nH hlt));have HEE:=ay (hE.frame Cc.2);have BI:bq (jv g res 2 f ((ks.take k).map λe=>(e.at_,e.ty (aS p.defs)))):=rM g res 2 (by rw[<- um];exact Cq (aS p.defs) _) Ay.out;clear iw hE hc dI;generalize ks[k]=x at *;generalize jv g res 2 f ((ks.take k).map λe=>(e.at_,e.ty (aS p.defs)))=fk at *
   have nK:(k:Int)<(ks.length:Int):=by omega
   go_upto_region 3 with fail
   change Code.wp _ _ _ _ (wr.alloc (.cells (aR x.op ⟨x.name.toArray⟩ ⟨x.module.toArray⟩ (decide (x.num<0)) (.slice jY jZ j3) x.yes (.slice kC x.aB.length kD) x.at_) 60));have dD:=aA wr (.cells (aR x.op ⟨x.name.toArray⟩ ⟨x.module.toArray⟩ (decide (x.num<0)) (.slice jY jZ j3) x.yes (.slice kC x.aB.length kD) x.at_) 60);have gk:=aX wr (.cells (aR x.op ⟨x.name.toArray⟩ ⟨x.module.toArray⟩ (decide (x.num<0)) (.slice jY jZ j3) x.yes (.slice kC x.aB.length kD) x.at_) 60);clear x0 x1 x2 x3 x4 x5 x6 x7;generalize wr.alloc _=wy at *;have hcl:cb<wr.heap.size:=HR.out.lt;have hky:=aO.of dD hcl;have hlk:=(bP gk).1
   have hne:wr.heap.size≠cb:=by omega
   have HX:Hid (∀ W,aW (λb=>b≠cb) wy W->gu C cb fk W->Calls Tryz.prog 51 #[.pointer (some ⟨cb,0,none⟩),.agg #[.int .i64 x.op,.string ⟨x.name.toArray⟩,.string ⟨x.module.toArray⟩,.bool (decide (x.num<0)),.slice jY jZ j3,.bool x.yes,.slice kC x.aB.length kD,.int .i64 x.at_],.pointer (some ⟨mb,0,none⟩),.int .i64 res] W (LW C cb (x.ty (aS p.defs) g res fk) W)) :=
    ay λW hW hc=>V6.out C cb B mb n g res fk jY jZ j3 kC kD W hc (Hy.out.keep (Cc.2.trans (hky.2.trans hW))) BI (H0.out.2.ck H0.out.1 (Cc.2.trans (hky.2.trans hW))) (by omega) (HEE.out.frame (hky.2.trans hW))
   have vv:=PZ.xu (aS p.defs) x g res fk BI
   obtain⟨v,hv⟩:∃ v,v=x.ty (aS p.defs) g res fk:=⟨_,rfl⟩
   rw[<- hv] at HX vv
   have WM:Hid (∀ W,gu C cb v.2 W->Calls Tryz.prog 71 #[.pointer (some ⟨cb,0,none⟩),.agg #[.int .i64 x.op,.string ⟨x.name.toArray⟩,.string ⟨x.module.toArray⟩,.bool (decide (x.num<0)),.slice jY jZ j3,.bool x.yes,.slice kC x.aB.length kD,.int .i64 x.at_],.int .i64 v.1,.int .i64 2] W (Uj C cb (lg v.2 x.at_ v.1 2) W)):=ay λW hc=>vg C cb v.2 _ _ _ _ _ _ _ _ _ _ W hc vv
   rw[<- hv] at AP
   have HS:Hid (∀ W,aW (λb=>b≠cb) wy W->(W.cell? ⟨wr.heap.size,0,none⟩=some (.int .i64 x.op)/\W.cell? ⟨wr.heap.size,1,none⟩=some (.string ⟨x.name.toArray⟩)/\W.cell? ⟨wr.heap.size,2,none⟩=some (.string ⟨x.module.toArray⟩)/\W.cell? ⟨wr.heap.size,3,none⟩=some (.bool (decide (x.num<0)))/\W.cell? ⟨wr.heap.size,4,none⟩=some (.slice jY jZ j3)/\W.cell? ⟨wr.heap.size,5,none⟩=some (.bool x.yes)/\W.cell? ⟨wr.heap.size,6,none⟩=some (.slice kC x.aB.length kD)/\W.cell? ⟨wr.heap.size,7,none⟩=some (.int .i64 x.at_))):=ay λW hW=>aI ((hW.2 wr.heap.size hne hlk).trans gk)
   have p3:=HS.out wy (aW.refl _ _);have hcy:=HR.out.below dD;have HCY:=ay hcy;have HVV:Hid ((x.ty (aS p.defs) g res fk)=v):=ay hv.symm;have HRK:Hid (aO cb w1 wy):=ay (hkr.trans hky);clear hv gk hcy vv dD hkr hky Cc
   go_region_held3 (λW=>W.cell? ⟨wr.heap.size,0,none⟩=some (.int .i64 x.op)/\W.cell? ⟨wr.heap.size,1,none⟩=some (.string ⟨x.name.toArray⟩)/\W.cell? ⟨wr.heap.size,2,none⟩=some (.string ⟨x.module.toArray⟩)/\W.cell? ⟨wr.heap.size,3,none⟩=some (.bool (decide (x.num<0)))/\W.cell? ⟨wr.heap.size,4,none⟩=some (.slice jY jZ j3)/\W.cell? ⟨wr.heap.size,5,none⟩=some (.bool x.yes)/\W.cell? ⟨wr.heap.size,6,none⟩=some (.slice kC x.aB.length kD)/\W.cell? ⟨wr.heap.size,7,none⟩=some (.int .i64 x.at_))
    (first|(with_reducible exact p3)|(with_reducible exact p4)|(with_reducible exact p5)|(go_keep;done))
    (first
     | (go_at_call 71;refine(WM.out _ h6).mono ?_;rintro r w7 ⟨rfl,h7,tK⟩;have p5:=HS.out w7 (mR.2.trans tK.2))
     | (go_at_call 51;refine(HX.out wy.drew (aW.refl _ _) HCY.out).mono ?_;rintro r w6 ⟨rfl,h6,mR⟩;have p4:=HS.out w6 mR.2))
   all_goals
    go_wp2_with fail
    go_roundw
    case rel=>exact⟨k+1,by omega,by go_num,by rw[AP.out];exact h7,HRK.out.trans (((aO.drew cb wy).trans mR).trans tK)⟩
    case measure=>simp[intOf];omega
  ·obtain rfl:k=ks.length:=by omega
   have nK:decide ((ks.length:Int)<(ks.length:Int))=false:=dX (by omega);go_wp2
   go_end0
   refine⟨rfl,?_,Cc⟩;have:=HR.out;rw[zG] at this;exact this
theorem Pn (p:ZP)(x y:PZ)(IX:lF p x)(IY:lF p y)(C:IU)(cb B mb n:Nat)(g:dM)(res:Int)(f:Fl)(qH:Option Addr)(qI qJ:Nat)(zI:Option Addr)(zJ:Nat)(jY:Option Addr)(jZ j3:Nat)(kC:Option Addr)(kD:Nat)(w:World)(h:gu C cb f w)(hkm:KM p C cb w)(hf:bq f)(hg:jM B mb g n w)(hx:n+x.size<=500000)(hy:n+y.size<=500000)(hX:l7 YA (λb=>b≠cb) w (.slice qH qI qJ) (.slice zI x.aB.length zJ) x)(hY:l7 YA (λb=>b≠cb) w (.slice jY jZ j3) (.slice kC y.aB.length kD) y) :
  Calls Tryz.prog 91 #[.pointer (some ⟨cb,0,none⟩),.agg (aR x.op ⟨x.name.toArray⟩ ⟨x.module.toArray⟩ (decide (x.num<0)) (.slice qH qI qJ) x.yes (.slice zI x.aB.length zJ) x.at_),.agg (aR y.op ⟨y.name.toArray⟩ ⟨y.module.toArray⟩ (decide (y.num<0)) (.slice jY jZ j3) y.yes (.slice kC y.aB.length kD) y.at_),.pointer (some ⟨mb,0,none⟩),.int .i64 res] w (LW C cb (uY g res f (x.at_,x.ty (aS p.defs)) (y.at_,y.ty (aS p.defs))) w):=by
 have hal:=(aA w (.cells (aR x.op ⟨x.name.toArray⟩ ⟨x.module.toArray⟩ (decide (x.num<0)) (.slice qH qI qJ) x.yes (.slice zI x.aB.length zJ) x.at_) 60)).alloc (by simp) (.cells (aR y.op ⟨y.name.toArray⟩ ⟨y.module.toArray⟩ (decide (y.num<0)) (.slice jY jZ j3) y.yes (.slice kC y.aB.length kD) y.at_) 60);have g1:=(gZ (w.alloc (.cells (aR x.op ⟨x.name.toArray⟩ ⟨x.module.toArray⟩ (decide (x.num<0)) (.slice qH qI qJ) x.yes (.slice zI x.aB.length zJ) x.at_) 60)) (.cells (aR y.op ⟨y.name.toArray⟩ ⟨y.module.toArray⟩ (decide (y.num<0)) (.slice jY jZ j3) y.yes (.slice kC y.aB.length kD) y.at_) 60) w.heap.size (by simp)).trans (aX w (.cells (aR x.op ⟨x.name.toArray⟩ ⟨x.module.toArray⟩ (decide (x.num<0)) (.slice qH qI qJ) x.yes (.slice zI x.aB.length zJ) x.at_) 60));have g2:=aX (w.alloc (.cells (aR x.op ⟨x.name.toArray⟩ ⟨x.module.toArray⟩ (decide (x.num<0)) (.slice qH qI qJ) x.yes (.slice zI x.aB.length zJ) x.at_) 60)) (.cells (aR y.op ⟨y.name.toArray⟩ ⟨y.module.toArray⟩ (decide (y.num<0)) (.slice jY jZ j3) y.yes (.slice kC y.aB.length kD) y.at_) 60);rw[nG] at g2;have hcl:=h.lt;have hk1:=aO.of hal hcl;have h1:=h.below hal
 have HX:Hid (∀ W,aW (λb=>b≠cb) w W->gu C cb f W->Calls Tryz.prog 51 #[.pointer (some ⟨cb,0,none⟩),.agg #[.int .i64 x.op,.string ⟨x.name.toArray⟩,.string ⟨x.module.toArray⟩,.bool (decide (x.num<0)),.slice qH qI qJ,.bool x.yes,.slice zI x.aB.length zJ,.int .i64 x.at_],.pointer (some ⟨mb,0,none⟩),.int .i64 res] W (LW C cb (x.ty (aS p.defs) g res f) W)) :=
  ay λW hW hc=>IX C cb B mb n g res f qH qI qJ zI zJ W hc (hkm.keep hW) hf (hg.ck h hW) hx (hX.frame hW)
 have aeX:=PZ.xu (aS p.defs) x g res f hf;unfold uY;simp only
 obtain⟨u,hu⟩:∃ u,u=x.ty (aS p.defs) g res f:=⟨_,rfl⟩
 rw[<- hu] at HX aeX |-
 have HY:Hid (∀ W,aW (λb=>b≠cb) w W->gu C cb u.2 W->Calls Tryz.prog 51 #[.pointer (some ⟨cb,0,none⟩),.agg #[.int .i64 y.op,.string ⟨y.name.toArray⟩,.string ⟨y.module.toArray⟩,.bool (decide (y.num<0)),.slice jY jZ j3,.bool y.yes,.slice kC y.aB.length kD,.int .i64 y.at_],.pointer (some ⟨mb,0,none⟩),.int .i64 res] W (LW C cb (y.ty (aS p.defs) g res u.2) W)) :=
  ay λW hW hc=>IY C cb B mb n g res u.2 jY jZ j3 kC kD W hc (hkm.keep hW) aeX (hg.ck h hW) hy (hY.frame hW)
 have agU:=PZ.xu (aS p.defs) y g res u.2 aeX
 obtain⟨v,hv⟩:∃ v,v=y.ty (aS p.defs) g res u.2:=⟨_,rfl⟩
 rw[<- hv] at HY agU |-
 have WM:Hid (∀ W,gu C cb v.2 W->Calls Tryz.prog 71 #[.pointer (some ⟨cb,0,none⟩),.agg #[.int .i64 y.op,.string ⟨y.name.toArray⟩,.string ⟨y.module.toArray⟩,.bool (decide (y.num<0)),.slice jY jZ j3,.bool y.yes,.slice kC y.aB.length kD,.int .i64 y.at_],.int .i64 v.1,.int .i64 u.1] W (Uj C cb (lg v.2 y.at_ v.1 u.1) W)):=ay λW hc=>vg C cb v.2 _ _ _ _ _ _ _ _ _ _ W hc agU
 clear hv hu IX IY h hg hX hY hkm;go_enter Tryz.func91,Tryz.ntmps91
 go_upto_region 1 with fail
 change Code.wp _ _ _ _ ((w.alloc _).alloc (.cells (aR y.op ⟨y.name.toArray⟩ ⟨y.module.toArray⟩ (decide (y.num<0)) (.slice jY jZ j3) y.yes (.slice kC y.aB.length kD) y.at_) 60));generalize (w.alloc _).alloc (.cells (aR y.op ⟨y.name.toArray⟩ ⟨y.module.toArray⟩ (decide (y.num<0)) (.slice jY jZ j3) y.yes (.slice kC y.aB.length kD) y.at_) 60)=w1 at *;have hl2:=(bP g2).1
 have hne:w.heap.size+1≠cb:=by omega
 obtain⟨y0,y1,y2,y3,y4,y5,y6,y7⟩:=aI g1
 have HS:Hid (∀ W,aW (λb=>b≠cb) w1 W->(W.cell? ⟨w.heap.size+1,0,none⟩=some (.int .i64 y.op)/\W.cell? ⟨w.heap.size+1,1,none⟩=some (.string ⟨y.name.toArray⟩)/\W.cell? ⟨w.heap.size+1,2,none⟩=some (.string ⟨y.module.toArray⟩)/\W.cell? ⟨w.heap.size+1,3,none⟩=some (.bool (decide (y.num<0)))/\W.cell? ⟨w.heap.size+1,4,none⟩=some (.slice jY jZ j3)/\W.cell? ⟨w.heap.size+1,5,none⟩=some (.bool y.yes)/\W.cell? ⟨w.heap.size+1,6,none⟩=some (.slice kC y.aB.length kD)/\W.cell? ⟨w.heap.size+1,7,none⟩=some (.int .i64 y.at_))):=ay λW hW=>aI ((hW.2 (w.heap.size+1) hne hl2).trans g2)
 have H1:=ay h1;clear g1 g2 h1
 go_upto_region 2 with (go_at_call 51;refine(HX.out w1 hk1.2 H1.out).mono ?_;rintro r w2 ⟨rfl,h2,hk2⟩)
 clear y0 y1 y2 y3 y4 y5 y6 y7;have p3:=HS.out w2 hk2.2;have H2:=ay h2;clear h2
 go_region_held3 (λW=>W.cell? ⟨w.heap.size+1,0,none⟩=some (.int .i64 y.op)/\W.cell? ⟨w.heap.size+1,1,none⟩=some (.string ⟨y.name.toArray⟩)/\W.cell? ⟨w.heap.size+1,2,none⟩=some (.string ⟨y.module.toArray⟩)/\W.cell? ⟨w.heap.size+1,3,none⟩=some (.bool (decide (y.num<0)))/\W.cell? ⟨w.heap.size+1,4,none⟩=some (.slice jY jZ j3)/\W.cell? ⟨w.heap.size+1,5,none⟩=some (.bool y.yes)/\W.cell? ⟨w.heap.size+1,6,none⟩=some (.slice kC y.aB.length kD)/\W.cell? ⟨w.heap.size+1,7,none⟩=some (.int .i64 y.at_))
  (first|(with_reducible exact p3)|(with_reducible exact p4)|(with_reducible exact p5)|(go_keep;done))
  (first
   | (go_at_call 71;refine(WM.out _ h6).mono ?_;rintro r w7 ⟨rfl,h7,tK⟩;have p5:=HS.out w7 (hk2.2.trans (mR.2.trans tK.2)))
   | (go_at_call 51;refine(HY.out w2.drew (hk1.2.trans hk2.2) H2.out).mono ?_;rintro r w6 ⟨rfl,h6,mR⟩;have p4:=HS.out w6 (hk2.2.trans mR.2)))
 all_goals
  go_wp2_with fail;go_ret;exact⟨rfl,h7,((hk1.trans hk2).trans ((aO.drew cb w2).trans mR)).trans tK⟩
theorem abx.form {P:Nat->Prop}{o:Option ZD}{e:Ending}(h:abx P o w e w'):∃ (s0:Value) (a:Option Addr) (nn c:Nat) (bb:Int) (s3:Value),e=.returned (.tuple #[.agg #[s0,.slice a nn c,.int .i64 bb,s3],.bool o.isSome])/\(s0.oneCell'=true/\s3.oneCell'=true)/\Below w.heap.size w w'/\∀ d,o=some d->nn=d.params.length/\bb=d.res.base/\RowK Dj (λb=>(P b/\b<w.heap.size)\/w.heap.size<=b) w' (.slice a nn c) d.params:=by
 obtain⟨hb,h⟩:=h
 cases o with
 | none=>exact⟨_,_,_,_,_,_,h,⟨rfl,rfl⟩,hb,λd q=>by cases q⟩
 | some d =>
  obtain⟨a,c,ac,cc,h1,h2⟩:=h;exact⟨_,_,_,_,_,_,h1,⟨rfl,rfl⟩,hb,λd' q=>by cases q;exact⟨rfl,rfl,h2⟩⟩
theorem aby (w:World)(o:Obj):w.heap.size<(w.alloc o).heap.size:=by simp
theorem WO {pi pd fs:Value}(h:gu ⟨pi,pd,fs⟩ cb f w):w.cell? ⟨cb,0,none⟩=some pi/\w.cell? ⟨cb,1,none⟩=some pd/\w.cell? ⟨cb,2,none⟩=some fs:=by
 refine⟨?_,?_,?_⟩<;>(rw[aZ h];rfl)
theorem adb (p:ZP)(num a_:Int)(nm md:aH)(ys:Bool)(ks:List PZ)(Ow:∀ k∈ks,lF p k)(C:IU)(cb B mb n:Nat)(g:dM)(res:Int)(am:Option Addr)(wn cm:Nat)(ae:Option Addr)(ce:Nat)(w:World)(h:gu C cb none w)(hkm:KM p C cb w)(hg:jM B mb g n w)(hn:n+(ou ks+1)<=500000)(hZ:l7 YA (λb=>b≠cb) w (.slice am wn cm) (.slice ae ks.length ce) (.mk 24 nm md num ys ks a_)) :
  Calls Tryz.prog 92 #[.pointer (some ⟨cb,0,none⟩),.agg (aR 24 ⟨nm.toArray⟩ ⟨md.toArray⟩ (decide (num<0)) (.slice am wn cm) ys (.slice ae ks.length ce) a_),.pointer (some ⟨mb,0,none⟩),.int .i64 res] w (LW C cb (sV (aS p.defs) nm md (ks.map λe=>(e.at_,e.ty (aS p.defs))) g res) w):=by
 generalize decide (num<0)=ng;have hal:=aA w (.cells (aR 24 ⟨nm.toArray⟩ ⟨md.toArray⟩ ng (.slice am wn cm) ys (.slice ae ks.length ce) a_) 60);have g0:=aX w (.cells (aR 24 ⟨nm.toArray⟩ ⟨md.toArray⟩ ng (.slice am wn cm) ys (.slice ae ks.length ce) a_) 60);have hcl:=h.lt;have h1:=h.below hal;have hk1:=aO.of hal hcl;obtain⟨_,PN,PO,hv,_,hform⟩:=hZ.form;simp only[Value.slice.injEq] at hv;obtain⟨rfl,-,rfl⟩:=hv;have hf2:0<ks.length->∃ b off,ae=some ⟨b,off,none⟩/\b≠cb/\b<w.heap.size/\∀ i,(hi:i<ks.length)->∃ m k,l7 YA (λb=>b≠cb) w m k ks[i]/\∀ j u,(YA.cells ks[i] m k)[j]?=some u->w.cell? ⟨b,off+i * 8+j,none⟩=some u:=hform;have HF:=ay hf2;have Hy:=ay hkm;have H0:=ay (gy h hg);have IH:=ay Ow
 have hcap:=λi (hi:i<ks.length)=>wS hi
 have HSZ:=ay hcap;have hkl:=uU ks;obtain⟨ai,ci,ad,cd,hC,hD,hfit⟩:=hkm
 obtain⟨O,hO⟩:∃ O,O=He p nm md:=⟨_,rfl⟩
 have HO:=ay hO;have Hf:=WL p nm md;rw[<- hO] at Hf;have agV:=ay Hf;have HDD:=ay (gy hfit hD);clear hform hf2 Ow hcap h hg hZ hO Hf hfit hD
 obtain⟨R,hR⟩:∃ R,R=sV (aS p.defs) nm md (ks.map λe=>(e.at_,e.ty (aS p.defs))) g res:=⟨_,rfl⟩
 rw[<- hR];have HR:=ay hR;clear hR;go_enter Tryz.func92,Tryz.ntmps92
 go_upto_region 1 with fail
 change Code.wp _ _ _ _ (w.alloc _);generalize w.alloc _=w1 at *;have hz1:=hal.size;have hl1:=(bP g0).1
 have hcw:cb<w1.heap.size:=by omega
 have hne:w.heap.size≠cb:=by omega
 have H1:=ay h1;have HG:=ay g0;clear h1 g0
 have HCE:Hid (∀ W,Below w1.heap.size w1 W->Calls Tryz.prog 62 #[.agg #[.slice ai p.aD.length ci,.slice ad p.defs.length cd],.slice none 0 0,.agg #[.int .i64 24,.string ⟨nm.toArray⟩,.string ⟨md.toArray⟩,.bool ng,.slice am wn cm,.bool ys,.slice ae ks.length ce,.int .i64 a_]] W (abx (λb=>b≠cb/\b<w1.heap.size) O W)):=ay λW hW=>by
  rw[HO.out];exact SB _ p _ ad cd nm md ng ys _ _ a_ W ⟨_,_,_,rfl⟩ HDD.out.1 ⟨_,_,_,rfl⟩ ⟨_,_,_,rfl⟩ (((RowK.frame HDD.out.2 hk1.2).imp (λb hb hl=>gy hb hl)).frame (aW.of hW))
 have HS:Hid (∀ W,Below w1.heap.size w1 W->(W.cell? ⟨cb,0,none⟩=some (.slice ai p.aD.length ci)/\W.cell? ⟨cb,1,none⟩=some (.slice ad p.defs.length cd)/\W.cell? ⟨cb,2,none⟩=some (.slice none 0 0)/\W.cell? ⟨w.heap.size,0,none⟩=some (.int .i64 24)/\W.cell? ⟨w.heap.size,1,none⟩=some (.string ⟨nm.toArray⟩)/\W.cell? ⟨w.heap.size,2,none⟩=some (.string ⟨md.toArray⟩)/\W.cell? ⟨w.heap.size,3,none⟩=some (.bool ng)/\W.cell? ⟨w.heap.size,4,none⟩=some (.slice am wn cm)/\W.cell? ⟨w.heap.size,5,none⟩=some (.bool ys)/\W.cell? ⟨w.heap.size,6,none⟩=some (.slice ae ks.length ce)/\W.cell? ⟨w.heap.size,7,none⟩=some (.int .i64 a_))):=ay λW hW=>by
  have q:=H1.out.below hW;rw[hC] at q;obtain⟨q0,q1,q2⟩:=WO q;exact⟨q0,q1,q2,aI ((hW.block _ hl1).trans HG.out)⟩
 clear HDD HO
 go_cut [9,10] (λv q wc=>∃ (Y:Nat) (s0:Value) (a:Option Addr) (nn c:Nat) (bb:Int) (s3:Value) (ok:Bool),ok=O.isSome/\v=.pointer (some ⟨Y,0,none⟩)/\q=.bool ok/\wc.heap[Y]?=some (.cells #[s0,.slice a nn c,.int .i64 bb,s3] 115 (0,0))/\w1.heap.size<=Y/\Below w1.heap.size w1 wc/\∀ d,O=some d->nn=d.params.length/\bb=d.res.base/\RowK Dj (λb=>b≠cb/\b≠Y) wc (.slice a nn c) d.params)
 case first =>
  have p3:=HS.out w1 (bQ _ _)
  go_region_held3 (λW=>W.cell? ⟨cb,0,none⟩=some (.slice ai p.aD.length ci)/\W.cell? ⟨cb,1,none⟩=some (.slice ad p.defs.length cd)/\W.cell? ⟨cb,2,none⟩=some (.slice none 0 0)/\W.cell? ⟨w.heap.size,0,none⟩=some (.int .i64 24)/\W.cell? ⟨w.heap.size,1,none⟩=some (.string ⟨nm.toArray⟩)/\W.cell? ⟨w.heap.size,2,none⟩=some (.string ⟨md.toArray⟩)/\W.cell? ⟨w.heap.size,3,none⟩=some (.bool ng)/\W.cell? ⟨w.heap.size,4,none⟩=some (.slice am wn cm)/\W.cell? ⟨w.heap.size,5,none⟩=some (.bool ys)/\W.cell? ⟨w.heap.size,6,none⟩=some (.slice ae ks.length ce)/\W.cell? ⟨w.heap.size,7,none⟩=some (.int .i64 a_))
   (first|(with_reducible exact p3)|(with_reducible exact p4)|(go_keep;done)|(refine HS.out _ ?_;(repeat' first|exact hq2|(refine Below.setCell ?_ ?_ _)|(refine Below.alloc ?_ ?_ _)|omega|(dsimp only;omega)|(simp only[nG,World.size_setCell];omega));done))
   (first|(go_at_call 62;refine Calls.mono (HCE.out _ (by first|exact(bQ _ _).drew|exact((bQ _ _).alloc (bD _) _).drew)) ?_;rintro e w2 hh;obtain⟨s0,a,nn,c,bb,s3,rfl,⟨o0,o3⟩,hb2,hrow⟩:=abx.form hh;clear hh;have hq2:Below w1.heap.size w1 w2:=(by first|exact(bQ _ _).drew.trans hb2|exact((bQ w1.heap.size w1).alloc (bD _) (.cells #[.string ⟨#[]⟩,.slice none 0 0,.int .i64 0,.slice none 0 0] 115)).drew.trans (hb2.mono (Nat.le_of_lt (aby w1 _))));have p4:=HS.out w2 hq2;have zq:=hq2.size;have t0:=λa m W=>run_store Tryz.prog W a s0 m o0;have t3:=λa m W=>run_store Tryz.prog W a s3 m o3;(try (have hT:=(hb2.block w1.heap.size (aby w1 _)).trans (aX w1 (.cells #[.string ⟨#[]⟩,.slice none 0 0,.int .i64 0,.slice none 0 0] 115));have q:=mF hT;obtain⟨⟨e0,e1,e2,e3⟩,e4,e5,e6,e7⟩:=q))))
  all_goals
   clear p3 p4 t0 t3;go_wp2_with fail
   go_meet
  ·refine⟨w2.heap.size,s0,a,nn,c,bb,s3,_,rfl,rfl,rfl,aX w2 _,zq,hq2.alloc zq _,λd hd=>?_⟩
   obtain⟨r1,r2,r3⟩:=hrow d hd;refine⟨r1,r2,(RowK.frame (r3.imp (Q:=λb=>b≠cb/\b≠w2.heap.size) (λb hb hl=>?_)) (aW.of (aA w2 _)))⟩
   rcases hb with q|q
   ·exact⟨q.1.1,by omega⟩
   ·have q:w1.heap.size<=b:=q
    exact⟨by omega,by omega⟩
  ·refine⟨w1.heap.size,s0,a,nn,c,bb,s3,_,rfl,rfl,rfl,iM hT s0 (.slice a nn c) (.int .i64 bb) s3,bD _,fZ hq2 (bD _) s0 (.slice a nn c) (.int .i64 bb) s3,λd hd=>?_⟩
   obtain⟨r1,r2,r3⟩:=hrow d hd;refine⟨r1,r2,(RowK.frame (r3.imp (Q:=λb=>b≠cb/\b≠w1.heap.size) (λb hb hl=>?_)) (xg s0 (.slice a nn c) (.int .i64 bb) s3 (λk hk=>hk.2)))⟩
   rcases hb with q|q
   ·exact⟨q.1.1,by omega⟩
   ·have q:(w1.alloc (.cells #[.string ⟨#[]⟩,.slice none 0 0,.int .i64 0,.slice none 0 0] 115)).heap.size<=b:=q
    rw[nG] at q;exact⟨by omega,by omega⟩
 case rest =>
  obtain⟨Y,s0,a,nn,c,bb,s3,ok,hok,rfl,rfl,hY,hYw,hqc,hrow⟩:=hcut
  obtain⟨w2,rfl⟩:∃ w2:World,w2=wc:=⟨_,rfl⟩
  have hk2:=hk1.trans (aO.of hqc hcw);have hYl:=(bP hY).1;have hY2:=(zC hY).1;obtain⟨c0,c1,c2,c3⟩:=hY2;obtain⟨y0,y1,y2,y3,y4,y5,y6,y7⟩:=aI ((hqc.block _ hl1).trans HG.out);have h2:=H1.out.below hqc;have HFM:=ay (Uk C cb none w2 h2 bq.none);have H2:=ay h2;have HY:=ay hY;clear h2 hY c0 c3 y0 y1 y2 y3 y4 y5 y7
  cases O with
  | none =>
   obtain rfl:ok=false:=hok;have Z9:Hid (R=(0,some (10,0))):=ay (by rw[HR.out,sV,agV.out];rfl);clear HCE HS HF;go_wp2_with (go_at_call 48;refine HFM.out.mono ?_;rintro r w3 ⟨rfl,h3,eP⟩);go_ret;exact⟨by rw[Z9.out];rfl,by rw[Z9.out];exact h3,hk2.trans eP⟩
  | some d =>
   obtain rfl:ok=true:=hok;obtain⟨e1,e2,hrw⟩:=hrow d rfl;clear hrow;subst e1 e2
   have abz:sV (aS p.defs) nm md (ks.map λe=>(e.at_,e.ty (aS p.defs))) g res=if (d.params.map ZF.base).length=(ks.map λe=>(e.at_,e.ty (aS p.defs))).length then (d.res.base,lD g res none (ks.map λe=>(e.at_,e.ty (aS p.defs))) (d.params.map ZF.base)) else (0,some (10,0)):=by rw[sV,agV.out];rfl
   rw[oC,oC] at abz;have HR2:=ay (HR.out.trans abz);clear abz HR HCE HS
   by_cases hnp:d.params.length=ks.length
   ·have HR3:Hid (R=(d.res.base,lD g res none (ks.map λe=>(e.at_,e.ty (aS p.defs))) (d.params.map ZF.base))):=ay (by rw[HR2.out,bR hnp])
    rw[hnp] at c1 hrw;have hyy:=HY.out;rw[hnp] at hyy;have HYY:=ay hyy;clear hyy HY;obtain⟨ao,cap,hv2,_,abA⟩:=hrw.form;simp only[Value.slice.injEq] at hv2;obtain⟨rfl,-,rfl⟩:=hv2;have HSL:=ay abA
    have hbl:(d.params.map ZF.base).length=ks.length:=by rw[oC];exact hnp
    have agW:Y≠cb:=by omega
    have aju:((ks.length:Int) != (ks.length:Int))=false:=by simp
    clear hrw abA HR2;go_wp2;clear c1 c2 y6
    go_loopw [11,12,42] (λ_ _ q wr=>∃ k:Nat,k<=ks.length/\q=.int .i64 k/\gu C cb (lD g res none ((ks.take k).map λe=>(e.at_,e.ty (aS p.defs))) ((d.params.map ZF.base).take k)) wr/\aO cb w2 wr) (λ_ _ q _=>ks.length - (intOf q).toNat)
    case atStart=>exact⟨0,kJ _,rfl,H2.out,aO.refl _ _⟩
    case round =>
     obtain⟨k,hk,rfl,hr,hkr⟩:=hrel;have Cc:=hk2.trans hkr;have HRR:=ay hr;clear hr;have hYr:=(hkr.2.2 Y agW hYl).trans HYY.out
     by_cases hlt:k<ks.length
     ·obtain⟨b,off,rfl,hPb,hbw,iw⟩:=HF.out (by omega)
      obtain⟨m,kv,hE,hc⟩:=iw k hlt;obtain⟨jY,jZ,j3,kC,kD,rfl,rfl⟩:=hE.PK;obtain⟨sb,so,rfl,⟨hs1,hs2⟩,hsl,adD⟩:=HSL.out (by omega);obtain⟨_,_,hsc⟩:=adD k (by omega)
      have dI:∀ (j:Nat) (u:Value),w.cell? ⟨b,off+k * 8+j,none⟩=some u->wr.cell? ⟨b,off+k * 8+j,none⟩=some u:=λj u q=>(yK (a:=⟨b,off+k * 8+j,none⟩) (Cc.2.2 b hPb hbw)).trans q
      have x0:=dI 0 _ (hc 0 _ rfl);have x1:=dI 1 _ (hc 1 _ rfl);have x2:=dI 2 _ (hc 2 _ rfl);have x3:=dI 3 _ (hc 3 _ rfl);have x4:=dI 4 _ (hc 4 _ rfl);have x5:=dI 5 _ (hc 5 _ rfl);have x6:=dI 6 _ (hc 6 _ rfl);have x7:=dI 7 _ (hc 7 _ rfl);rw[nZ] at x0;simp only[fC] at x1 x2;have hs0:=hsc 1 _ rfl;have hsz:=HSZ.out k hlt;have hbk:(d.params.map ZF.base)[k]'(by omega)=(d.params[k]'(by omega)).base:=List.getElem_map _;have AP:=ay (OY (aS p.defs) g res none hlt hbl);rw[hbk] at AP;have V6:=ay (IH.out _ (nH hlt));have HEE:=ay (hE.frame Cc.2);have BI:bq (lD g res none ((ks.take k).map λe=>(e.at_,e.ty (aS p.defs))) ((d.params.map ZF.base).take k)):=Co g res (by rw[<- um];exact Cq (aS p.defs) _) bq.none;clear iw hE hc dI adD hsc hbk;generalize (d.params[k]'(by omega)).base=bk at *;generalize ks[k]=x at *;generalize lD g res none ((ks.take k).map λe=>(e.at_,e.ty (aS p.defs))) ((d.params.map ZF.base).take k)=fk at *
      have nK:(k:Int)<(ks.length:Int):=by omega
      have z6:=(aI ((hkr.2.2 w.heap.size hne (by have:=hqc.size;omega)).trans ((hqc.block _ hl1).trans HG.out))).2.2.2.2.2.2.1
      go_upto_region 8 with fail
      change Code.wp _ _ _ _ (wr.alloc (.cells (aR x.op ⟨x.name.toArray⟩ ⟨x.module.toArray⟩ (decide (x.num<0)) (.slice jY jZ j3) x.yes (.slice kC x.aB.length kD) x.at_) 60));have dD:=aA wr (.cells (aR x.op ⟨x.name.toArray⟩ ⟨x.module.toArray⟩ (decide (x.num<0)) (.slice jY jZ j3) x.yes (.slice kC x.aB.length kD) x.at_) 60);have gk:=aX wr (.cells (aR x.op ⟨x.name.toArray⟩ ⟨x.module.toArray⟩ (decide (x.num<0)) (.slice jY jZ j3) x.yes (.slice kC x.aB.length kD) x.at_) 60);clear x0 x1 x2 x3 x4 x5 x6 x7 z6;generalize wr.alloc _=wy at *;have acZ:cb<wr.heap.size:=HRR.out.lt;have hky:=aO.of dD acZ;have hlk:=(bP gk).1
      have ail:wr.heap.size≠cb:=by omega
      have ajv:=hkr.2.1
      have HX:Hid (∀ W,aW (λb=>b≠cb) wy W->gu C cb fk W->Calls Tryz.prog 51 #[.pointer (some ⟨cb,0,none⟩),.agg #[.int .i64 x.op,.string ⟨x.name.toArray⟩,.string ⟨x.module.toArray⟩,.bool (decide (x.num<0)),.slice jY jZ j3,.bool x.yes,.slice kC x.aB.length kD,.int .i64 x.at_],.pointer (some ⟨mb,0,none⟩),.int .i64 res] W (LW C cb (x.ty (aS p.defs) g res fk) W)) :=
       ay λW hW hc=>V6.out C cb B mb n g res fk jY jZ j3 kC kD W hc (Hy.out.keep (Cc.2.trans (hky.2.trans hW))) BI (H0.out.2.ck H0.out.1 (Cc.2.trans (hky.2.trans hW))) (by omega) (HEE.out.frame (hky.2.trans hW))
      have vv:=PZ.xu (aS p.defs) x g res fk BI
      obtain⟨v,hv⟩:∃ v,v=x.ty (aS p.defs) g res fk:=⟨_,rfl⟩
      rw[<- hv] at HX vv
      have WM:Hid (∀ W,gu C cb v.2 W->Calls Tryz.prog 71 #[.pointer (some ⟨cb,0,none⟩),.agg #[.int .i64 x.op,.string ⟨x.name.toArray⟩,.string ⟨x.module.toArray⟩,.bool (decide (x.num<0)),.slice jY jZ j3,.bool x.yes,.slice kC x.aB.length kD,.int .i64 x.at_],.int .i64 v.1,.int .i64 bk] W (Uj C cb (lg v.2 x.at_ v.1 bk) W)):=ay λW hc=>vg C cb v.2 _ _ _ _ _ _ _ _ _ _ W hc vv
      rw[<- hv] at AP
      have HS2:Hid (∀ W,aW (λb=>b≠cb) wy W->(W.cell? ⟨wr.heap.size,0,none⟩=some (.int .i64 x.op)/\W.cell? ⟨wr.heap.size,1,none⟩=some (.string ⟨x.name.toArray⟩)/\W.cell? ⟨wr.heap.size,2,none⟩=some (.string ⟨x.module.toArray⟩)/\W.cell? ⟨wr.heap.size,3,none⟩=some (.bool (decide (x.num<0)))/\W.cell? ⟨wr.heap.size,4,none⟩=some (.slice jY jZ j3)/\W.cell? ⟨wr.heap.size,5,none⟩=some (.bool x.yes)/\W.cell? ⟨wr.heap.size,6,none⟩=some (.slice kC x.aB.length kD)/\W.cell? ⟨wr.heap.size,7,none⟩=some (.int .i64 x.at_)/\W.cell? ⟨Y,1,none⟩=some (.slice (some ⟨sb,so,none⟩) ks.length c)/\W.cell? ⟨sb,so+k * 3+1,none⟩=some (.int .i64 bk))):=ay λW hW=>by
       obtain⟨q0,q1,q2,q3,q4,q5,q6,q7⟩:=aI ((hW.2 wr.heap.size ail hlk).trans gk);refine⟨q0,q1,q2,q3,q4,q5,q6,q7,(zC ((hW.2 Y agW (by omega)).trans ((dD.block Y (by omega)).trans hYr))).1.2.1,?_⟩;exact(yK (a:=⟨sb,so+k * 3+1,none⟩) ((hW.2 sb hs1 (by omega)).trans ((dD.block sb (by omega)).trans (hkr.2.2 sb hs1 hsl)))).trans hs0
      have p3:=HS2.out wy (aW.refl _ _);have HCY:=ay (HRR.out.below dD);have HRK:Hid (aO cb w2 wy):=ay (hkr.trans hky);clear hv gk vv dD hky hs0
      go_region_held3 (λW=>W.cell? ⟨wr.heap.size,0,none⟩=some (.int .i64 x.op)/\W.cell? ⟨wr.heap.size,1,none⟩=some (.string ⟨x.name.toArray⟩)/\W.cell? ⟨wr.heap.size,2,none⟩=some (.string ⟨x.module.toArray⟩)/\W.cell? ⟨wr.heap.size,3,none⟩=some (.bool (decide (x.num<0)))/\W.cell? ⟨wr.heap.size,4,none⟩=some (.slice jY jZ j3)/\W.cell? ⟨wr.heap.size,5,none⟩=some (.bool x.yes)/\W.cell? ⟨wr.heap.size,6,none⟩=some (.slice kC x.aB.length kD)/\W.cell? ⟨wr.heap.size,7,none⟩=some (.int .i64 x.at_)/\W.cell? ⟨Y,1,none⟩=some (.slice (some ⟨sb,so,none⟩) ks.length c)/\W.cell? ⟨sb,so+k * 3+1,none⟩=some (.int .i64 bk))
       (first|(with_reducible exact p3)|(with_reducible exact p4)|(with_reducible exact p5)|(go_keep;done))
       (first
        | (go_at_call 71;refine(WM.out _ h6).mono ?_;rintro r w7 ⟨rfl,h7,tK⟩;have p5:=HS2.out w7 (((aO.drew cb wy).trans mR).trans tK).2)
        | (go_at_call 51;refine(HX.out wy.drew (aO.drew cb wy).2 HCY.out).mono ?_;rintro r w6 ⟨rfl,h6,mR⟩;have p4:=HS2.out w6 ((aO.drew cb wy).trans mR).2))
      all_goals
       go_wp2_with fail
       go_roundw
       case rel=>exact⟨k+1,by omega,by go_num,by rw[AP.out];exact h7,HRK.out.trans (((aO.drew cb wy).trans mR).trans tK)⟩
       case measure=>simp[intOf];omega
     ·obtain rfl:k=ks.length:=by omega
      have nK:decide ((ks.length:Int)<(ks.length:Int))=false:=dX (by omega);have hq:=HRR.out;rw[zG,Ba (Nat.le_of_eq hbl)] at hq;obtain⟨-,-,c2,-⟩:=(zC hYr).1;have HQ:=ay hq;clear hq hYr;go_wp2;go_ret;exact⟨by rw[HR3.out];rfl,by rw[HR3.out];exact HQ.out,Cc⟩
   ·have Z9:Hid (R=(0,some (10,0))):=ay (by rw[HR2.out,aU hnp])
    have hnI:((d.params.length:Int) != (ks.length:Int))=true:=bne_iff_ne.2 (by omega);clear HF hrw;go_wp2_with (go_at_call 48;refine HFM.out.mono ?_;rintro r w3 ⟨rfl,h3,eP⟩);go_ret;exact⟨by rw[Z9.out];rfl,by rw[Z9.out];exact h3,hk2.trans eP⟩
mutual
def PZ.shape:PZ->Bool
 | .mk op _ _ _ _ aB _=>(decide (1<=op) && (decide (op<=24) && countB op aB.length)) && sN aB
def sN:List PZ->Bool
 | []=>true
 | e :: l=>e.shape && sN l
end
theorem Du:∀ {l:List PZ},sN l=true->∀ e∈l,e.shape=true
 | [],_,e,he=>by cases he
 | x :: l,h,e,he=>by
  rw[sN,uw] at h
  rcases nY.1 he with q|q
  ·rw[q];exact h.1
  ·exact Du h.2 e q
theorem PZ.WQ {e:PZ}(h:e.shape=true):(1<=e.op/\e.op<=24/\countB e.op e.aB.length=true)/\∀ k∈e.aB,k.shape=true:=by
 cases e;rw[PZ.shape] at h;simp only[uw,AZ] at h;exact⟨⟨h.1.1,h.1.2.1,h.1.2.2⟩,Du h.2⟩
mutual
theorem Dv {fm:Bool}:∀ x:PZ,x.right fm=true->x.shape=true
 | .mk op nm md num yes aB a,h=>by
  rw[PZ.right,uw] at h;have h1:=h.1;unfold MQ at h1;simp only[uw,AZ] at h1;obtain⟨⟨⟨⟨⟨q1,q2⟩,-⟩,-⟩,-⟩,q4⟩:=h1;rw[PZ.shape];simp only[uw,AZ];exact⟨⟨q1,q2,q4⟩,AU aB h.2⟩
theorem AU {fm:Bool}:∀ l:List PZ,kG fm l=true->sN l=true
 | [],_=>rfl
 | e :: l,h=>by
  rw[kG,uw] at h;rw[sN,Dv e h.1,AU l h.2]
  rfl
end
