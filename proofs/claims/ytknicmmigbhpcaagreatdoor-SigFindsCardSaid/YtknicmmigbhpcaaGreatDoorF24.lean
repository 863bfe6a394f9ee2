/- Walks and plain laws: ReadW9, ReadW10, ReadW11. -/
import Derived.Test.YtknicmmigbhpcaaGreatDoorF23
set_option maxHeartbeats 16000000
set_option maxRecDepth 100000
set_option linter.unusedVariables false
set_option linter.unusedSimpArgs false
namespace Go.Proofs.YtknicmmigbhpcaaGreatDoor
open Go.RowKit Go
theorem tL {w:World}{b:Nat}{c0 c1 c2 c3 c4 c5 c6 c7:Value}{T:TypeId}(h:w.heap[b]?=some (.cells #[c0,c1,c2,c3,c4,c5,c6,c7] T (0,0))) :
  w.cell? ⟨b,1,none⟩=some c1∧w.cell? ⟨b,2,none⟩=some c2∧∀ j,w.frozen? ⟨b,j,none⟩=false :=
 ⟨by rw[Lib.cell_of_heap h];rfl,by rw[Lib.cell_of_heap h];rfl,by intro j;simp[World.frozen?,h]⟩
theorem F6 (q:Bool)(nm md:List UInt8)(iJ:List PE)(B:Nat)(tv nv:Value)(toks:List Tok)(nodes:List Nd)(i:Nat)(ks:List Int)(w:World)(h:aP B w (.agg #[tv,nv]) toks nodes)(hB:B≤w.heap.size)(hn:nodes[i]?=some ⟨13,-1,ks⟩)
  (k0 u0:Nat) (hq0:ks[0]?=some (k0:Int)) (hl0:nodes[k0]?=some ⟨19,(u0:Nat),[]⟩) (jv:Tok) (acK:toks[u0]?=some jv)
  (k1 u1:Nat) (hq1:ks[1]?=some (k1:Int)) (hl1:nodes[k1]?=some ⟨19,(u1:Nat),[]⟩) (tk1:Tok) (VT:toks[u1]?=some tk1) (htx:tk1.text=if q=true then [46] else [40])
  (k2 u2:Nat) (hq2:q=true→ks[2]?=some (k2:Int)) (hl2:q=true→nodes[k2]?=some ⟨19,(u2:Nat),[]⟩) (tk2:Tok) (acL:q=true→toks[u2]?=some tk2)
  (hqq:(q=true∧nm=tk2.text∧md=jv.text)∨(q=false∧nm=jv.text∧md=[]))
  (hM:∀ (op at_:Nat) (W:World),aP B W (.agg #[tv,nv]) toks nodes→B≤W.heap.size→Calls Tryz.prog 180 #[.agg #[tv,nv],.int .i64 op,.int .i64 at_,.int .i64 i] W (EPost XA (.mk op [] [] 0 [] false iJ at_) W)) :
  Calls Tryz.prog 179 #[.agg #[tv,nv],.int .i64 i] w (EPost XA (.mk 24 nm md 0 [] false iJ jv.place) w):=by
 have HQ:=ah hqq;have HM:=ah hM;obtain⟨hu0,aai⟩:=mR acK;obtain⟨hu1,KP⟩:=mR VT;obtain⟨hp0,V4⟩:=mR hq0;obtain⟨hp1,hp1'⟩:=mR hq1;have HK:=ah (fun W hT hW=>jC B tv nv toks nodes k0 u0 W hT hW hl0 hu0);rw[aai] at HK;unfold mV bY at HK;have HX:=ah (fun W hT hW=>uw B tv nv toks nodes k1 u1 W hT hW hl1 hu1);rw[KP,htx] at HX;unfold bY at HX
 have HY:Hid (q=true→∀ W,aP B W (.agg #[tv,nv]) toks nodes→B≤W.heap.size→Calls Tryz.prog 110 #[.agg #[tv,nv],.int .i64 k2] W fun e w'=>e=.returned (.string ⟨tk2.text.toArray⟩)∧Below W.heap.size W w'):=ah (fun hq W hT hW=>by
  obtain⟨hu2,acM⟩:=mR (acL hq);have:=uw B tv nv toks nodes k2 u2 W hT hW (hl2 hq) hu2;rw[acM] at this
  exact this)
 obtain⟨hi,hni⟩:=mR hn;have HT:=ah h;obtain⟨a1,c1,_,_,e⟩:=h.slices;obtain⟨b,off,cap,kv,rfl,hb,x0,x1,x2,hkv⟩:=h.node hi
 obtain⟨rfl,-⟩:tv=.slice a1 toks.length c1∧_:=by simpa using e
 rw[hni] at hkv;simp only at hkv;obtain⟨ak,ck,rfl,_,uT⟩:=hkv.form;obtain⟨bk,ok,rfl,hbk,hkc⟩:=uT (by omega);have hz:=hkc 0 hp0;rw[V4,Nat.add_zero] at hz;have hz1:=hkc 1 hp1;rw[hp1'] at hz1
 have hz2:q=true→w.cell? ⟨bk,ok+2,none⟩=some (.int .i64 k2)∧2<ks.length:=fun hq=>by
  obtain⟨hp2,adV⟩:=mR (hq2 hq);have:=hkc 2 hp2;rw[adV] at this;exact⟨this,hp2⟩
 have HZ1:=ah hz1;have HZ2:=ah hz2;clear e hkv uT hkc hn hni x0 x1 acK aai VT KP hq0 hq1 V4 hp1' hl0 hl1 hM htx hq2 hl2 acL hz1 hz2 hqq;have bq:=((Below.refl w.heap.size w).alloc (Nat.le_refl _) (.cells #[.slice a1 toks.length c1,.slice (some ⟨b,off,none⟩) nodes.length cap] 132)).alloc (by simp) (.cells #[.int .i64 0,.string ⟨#[]⟩,.string ⟨#[]⟩,.bool false,.slice none 0 0,.bool false,.slice none 0 0,.int .i64 0] 46);have X2:=cell_later bq x2;have Z2:=cell_later bq hz;have g0:=(Lib.alloc_old _ (.cells #[.int .i64 0,.string ⟨#[]⟩,.string ⟨#[]⟩,.bool false,.slice none 0 0,.bool false,.slice none 0 0,.int .i64 0] 46) w.heap.size (by simp)).trans (heap_alloc_new w (.cells #[.slice a1 toks.length c1,.slice (some ⟨b,off,none⟩) nodes.length cap] 132));have g1:=heap_alloc_new (w.alloc (.cells #[.slice a1 toks.length c1,.slice (some ⟨b,off,none⟩) nodes.length cap] 132)) (.cells #[.int .i64 0,.string ⟨#[]⟩,.string ⟨#[]⟩,.bool false,.slice none 0 0,.bool false,.slice none 0 0,.int .i64 0] 46);rw[World.size_alloc] at g1
 have hiI:(i:Int)<(nodes.length:Int):=by omega
 have adW:(0:Int)<(ks.length:Int):=by omega
 have aa3:(1:Int)<(ks.length:Int):=by omega
 have Po:=HT.out;clear h x2 hz;go_enter Tryz.func179,Tryz.ntmps179
 go_upto_region 2 with (fail)
 generalize (w.alloc _).alloc _=w2 at g0 g1 bq X2 Z2 ⊢
 have r0:w2.cell? ⟨w.heap.size,0,none⟩=some (.slice a1 toks.length c1):=by rw[Lib.cell_of_heap g0];rfl
 have r1:w2.cell? ⟨w.heap.size,1,none⟩=some (.slice (some ⟨b,off,none⟩) nodes.length cap):=by rw[Lib.cell_of_heap g0];rfl
 have VU:=ah (fun W (hb:Below w2.heap.size w2 W)=>(HK.out W (Po.below ((bq.trans (hb.mono bq.size)).mono hB)) (by have:=bq.size;have:=hb.size;omega)).mono (R':=fun e w'=>e=.returned (.agg #[.int .i64 jv.kind,.string ⟨jv.lead.toArray⟩,.string ⟨jv.text.toArray⟩,.int .i64 jv.place])∧Below w2.heap.size w2 w'∧Below W.heap.size W w') fun e w' h=>⟨h.1,hb.trans (h.2.mono hb.size),h.2⟩);have hlt2:w.heap.size+1<w2.heap.size:=(bG g1).1
 go_cut [6] (fun p wc=>∃ X:Nat,p=.pointer (some ⟨X,0,none⟩)∧wc.heap[X]?=some (.cells #[.int .i64 jv.kind,.string ⟨jv.lead.toArray⟩,.string ⟨jv.text.toArray⟩,.int .i64 jv.place] 136 (0,0))∧wc.heap[w.heap.size]?=some (.cells #[.slice a1 toks.length c1,.slice (some ⟨b,off,none⟩) nodes.length cap] 132 (0,0))∧wc.heap[w.heap.size+1]?=some (.cells #[.int .i64 0,.string ⟨#[]⟩,.string ⟨#[]⟩,.bool false,.slice none 0 0,.bool false,.slice none 0 0,.int .i64 0] 46 (0,0))∧Below w.heap.size w wc∧w.heap.size+1<X)
 case first =>
  go_region_held3 (fun w'=>w'.cell? ⟨w.heap.size,0,none⟩=some (.slice a1 toks.length c1)∧w'.cell? ⟨w.heap.size,1,none⟩=some (.slice (some ⟨b,off,none⟩) nodes.length cap)∧w'.cell? ⟨bk,ok,none⟩=some (.int .i64 k0))
   (first|go_keep|exact p3|exact⟨(bD w3 w2.heap.size _ _ _ _ (by omega)).trans p3.1,(bD w3 w2.heap.size _ _ _ _ (by omega)).trans p3.2.1,(bD w3 w2.heap.size _ _ _ _ (by omega)).trans p3.2.2⟩)
   (first|(go_at_call 67;refine(VU.out _ ?_).mono ?_;(first|exact(Below.refl _ _).drew|exact((Below.refl _ _).alloc (Nat.le_refl _) _).drew);rintro e w3 ⟨rfl,hq3,hb3⟩;have p3:=And.intro (cell_later hq3 r0) (And.intro (cell_later hq3 r1) (cell_later hq3 Z2));try (have Dg:=(hb3.block w2.heap.size (by simp)).trans (heap_alloc_new w2 (.cells #[.int .i64 0,.string ⟨#[]⟩,.string ⟨#[]⟩,.int .i64 0] 136));obtain⟨VW,VX,VY,VZ,V3⟩:=l7 Dg)))
  ·have CP:Below w.heap.size w w3:=bq.trans (hq3.mono bq.size)
   have q0:=(hq3.block w.heap.size (by omega)).trans g0;have q1:=(hq3.block (w.heap.size+1) (by omega)).trans g1;have hz3:=hq3.size;clear r0 r1 X2 Z2 p3;go_wp2_with fail
   go_meet
   exact⟨w3.heap.size,rfl,heap_alloc_new _ _,(Lib.alloc_old w3 _ w.heap.size (by omega)).trans q0,(Lib.alloc_old w3 _ (w.heap.size+1) (by omega)).trans q1,CP.alloc CP.size _,by omega⟩
  ·have CP:Below w.heap.size w w3:=bq.trans (hq3.mono bq.size)
   have q0:=(hq3.block w.heap.size (by omega)).trans g0;have q1:=(hq3.block (w.heap.size+1) (by omega)).trans g1;obtain⟨S3,So,_⟩:=vK Dg (.int .i64 jv.kind) (.string ⟨jv.lead.toArray⟩) (.string ⟨jv.text.toArray⟩) (.int .i64 jv.place)
   have hle:w.heap.size≤w2.heap.size:=by omega
   clear r0 r1 X2 Z2 p3 VW VX VY VZ V3;go_wp2_with fail
   go_meet
   exact⟨w2.heap.size,rfl,S3,(So w.heap.size (by omega)).trans q0,(So (w.heap.size+1) (by omega)).trans q1,(((CP.setCell hle _).setCell hle _).setCell hle _).setCell hle _,hlt2⟩
 case rest =>
  obtain⟨X,rfl,hX,G0,G1,NT,hXlt⟩:=hcut
  obtain⟨wy,rfl⟩:∃ wy:World,wy=wc:=⟨_,rfl⟩
  have aa5:=NT.size;have hXs:=(bG hX).1;clear g0 g1 bq X2 Z2 r0 r1 HK VU hlt2
  have f2:wy.cell? ⟨X,2,none⟩=some (.string ⟨jv.text.toArray⟩):=by rw[Lib.cell_of_heap hX];rfl
  have f3:wy.cell? ⟨X,3,none⟩=some (.int .i64 jv.place):=by rw[Lib.cell_of_heap hX];rfl
  have r0:wy.cell? ⟨w.heap.size,0,none⟩=some (.slice a1 toks.length c1):=by rw[Lib.cell_of_heap G0];rfl
  have r1:wy.cell? ⟨w.heap.size,1,none⟩=some (.slice (some ⟨b,off,none⟩) nodes.length cap):=by rw[Lib.cell_of_heap G0];rfl
  have HM':=ah ((HM.out 24 jv.place wy (Po.below (NT.mono hB)) (by omega)).mono fun _ _ h=>h.m);go_wp2_with (go_at_call 180;refine HM'.out.mono ?_);rintro e w8 ⟨am,wn,cm,ae,ce,rfl,hxe,jr⟩;have hz8:=jr.size;have D0:=(jr.block w.heap.size (by omega)).trans G0;have D1:=(jr.block (w.heap.size+1) (by omega)).trans G1;have DX:=(jr.block X hXs).trans hX;have acN:=NT.trans (jr.mono aa5);clear r0 r1 f2 f3 G0 G1 hX
  have f2:w8.cell? ⟨X,2,none⟩=some (.string ⟨jv.text.toArray⟩):=by rw[Lib.cell_of_heap DX];rfl
  have f2':∀ o,(w8.alloc o).cell? ⟨X,2,none⟩=some (.string ⟨jv.text.toArray⟩):=fun o=>Lib.cell?_alloc_some o f2
  go_upto_region 5 with (fail)
  have tN:=acN.alloc acN.size (.cells #[.int .i64 24,.string ⟨jv.text.toArray⟩,.string ⟨#[]⟩,.bool false,.slice am wn cm,.bool false,.slice ae iJ.length ce,.int .i64 jv.place] 46);have N9:=heap_alloc_new w8 (.cells #[.int .i64 24,.string ⟨jv.text.toArray⟩,.string ⟨#[]⟩,.bool false,.slice am wn cm,.bool false,.slice ae iJ.length ce,.int .i64 jv.place] 46);have D0:=(Lib.alloc_old w8 (.cells #[.int .i64 24,.string ⟨jv.text.toArray⟩,.string ⟨#[]⟩,.bool false,.slice am wn cm,.bool false,.slice ae iJ.length ce,.int .i64 jv.place] 46) _ (bG D0).1).trans D0;have D1:=(Lib.alloc_old w8 (.cells #[.int .i64 24,.string ⟨jv.text.toArray⟩,.string ⟨#[]⟩,.bool false,.slice am wn cm,.bool false,.slice ae iJ.length ce,.int .i64 jv.place] 46) _ (bG D1).1).trans D1;have DX:=(Lib.alloc_old w8 (.cells #[.int .i64 24,.string ⟨jv.text.toArray⟩,.string ⟨#[]⟩,.bool false,.slice am wn cm,.bool false,.slice ae iJ.length ce,.int .i64 jv.place] 46) _ (bG DX).1).trans DX;have NS:kI XA (fun b=>wy.heap.size≤b∧b<w8.heap.size) (w8.alloc (.cells #[.int .i64 24,.string ⟨jv.text.toArray⟩,.string ⟨#[]⟩,.bool false,.slice am wn cm,.bool false,.slice ae iJ.length ce,.int .i64 jv.place] 46)) (.slice am wn cm) (.slice ae iJ.length ce) (.mk 24 [] [] 0 [] false iJ jv.place):=(hxe.imp (fun b hb hlt=>(⟨hb,hlt⟩:wy.heap.size≤b∧b<w8.heap.size))).frame ⟨by simp,fun b _ hb=>Lib.alloc_old _ _ _ hb⟩
  have hs9:(w8.alloc (.cells #[.int .i64 24,.string ⟨jv.text.toArray⟩,.string ⟨#[]⟩,.bool false,.slice am wn cm,.bool false,.slice ae iJ.length ce,.int .i64 jv.place] 46)).heap.size=w8.heap.size+1:=by simp
  clear f2 f2' hxe jr;generalize w8.alloc _=w9 at D0 D1 DX N9 tN NS hs9 ⊢;have k1c:=cell_later tN HZ1.out
  have r0:w9.cell? ⟨w.heap.size,0,none⟩=some (.slice a1 toks.length c1):=by rw[Lib.cell_of_heap D0];rfl
  have r1:w9.cell? ⟨w.heap.size,1,none⟩=some (.slice (some ⟨b,off,none⟩) nodes.length cap):=by rw[Lib.cell_of_heap D0];rfl
  have Tp:=HX.out w9.drew (Po.below ((tN.mono hB).drew)) (show B≤w9.heap.size by omega)
  go_still_tail 4,(by kernel_rfl)
  change wpList _ _ _ _ _ w9.drew;clear HX
  rcases HQ.out with ⟨hq1,rfl,rfl⟩|⟨hq1,rfl,rfl⟩
  ·have HY':=HY.out hq1
   obtain⟨hz2,hp2⟩:=HZ2.out hq1;subst hq1;have XH:=ah (show Calls Tryz.prog 110 #[.agg #[.slice a1 toks.length c1,.slice (some ⟨b,off,none⟩) nodes.length cap],.int .i64 k1] w9.drew fun e w'=>e=.returned (.string ⟨#[46]⟩)∧Below w9.drew.heap.size w9.drew w' from Tp);have HY2:=ah HY';have HZ3:=ah hz2
   have afs:(2:Int)<(ks.length:Int):=by omega
   clear Tp HY' hz2 HY HZ2 HQ;go_wp2_with (go_at_call 110;refine XH.out.mono ?_);rintro e jR ⟨rfl,oL⟩;have aa6:w9.heap.size≤jR.heap.size:=oL.size;have lG:Below w9.heap.size w9 jR:=(Below.refl w9.heap.size w9).drew.trans oL;have E0:=(lG.block w.heap.size (bG D0).1).trans D0;have E1:=(lG.block (w.heap.size+1) (bG D1).1).trans D1;have EX:=(lG.block X (bG DX).1).trans DX;have E9:=(lG.block w8.heap.size (by omega)).trans N9;have F7:=tN.trans (lG.mono tN.size);have Ij:=NS.frame (aQ.of lG);have k2c:=cell_later F7 HZ3.out;clear r0 r1 k1c D0 D1 DX N9 oL lG NS
   have r0:jR.cell? ⟨w.heap.size,0,none⟩=some (.slice a1 toks.length c1):=by rw[Lib.cell_of_heap E0];rfl
   have r1:jR.cell? ⟨w.heap.size,1,none⟩=some (.slice (some ⟨b,off,none⟩) nodes.length cap):=by rw[Lib.cell_of_heap E0];rfl
   have f2:jR.cell? ⟨X,2,none⟩=some (.string ⟨jv.text.toArray⟩):=by rw[Lib.cell_of_heap EX];rfl
   have HY3:=ah (HY2.out jR.drew (Po.below ((F7.mono hB).drew)) (show B≤jR.heap.size by omega));obtain⟨e1,e2,ez⟩:=tL E9;have hA:Below w8.heap.size jR jR.drew:=(Below.refl _ _).drew;have hB':Below w8.heap.size jR (jR.drew.setCell ⟨w8.heap.size,2,none⟩ (.string ⟨jv.text.toArray⟩)):=hA.setCell (Nat.le_refl _) _;have E9B:(jR.drew.setCell ⟨w8.heap.size,2,none⟩ (.string ⟨jv.text.toArray⟩)).heap[w8.heap.size]?=some (.cells #[.int .i64 24,.string ⟨jv.text.toArray⟩,.string ⟨jv.text.toArray⟩,.bool false,.slice am wn cm,.bool false,.slice ae iJ.length ce,.int .i64 jv.place] 46 (0,0)):=heap_setCell_same jR.drew w8.heap.size 2 _ _ (.string ⟨jv.text.toArray⟩) E9
   have YX:w.heap.size≤w8.heap.size:=by omega
   have adX:w8.heap.size<jR.heap.size:=by omega
   have HY4:=ah (fun W (hb:Below w8.heap.size jR W) (hs:jR.heap.size≤W.heap.size)=>(HY2.out W (Po.below ((F7.trans (hb.mono YX)).mono hB)) (by omega)).mono (R':=fun e w'=>e=.returned (.string ⟨tk2.text.toArray⟩)∧Below w8.heap.size jR w'∧Below W.heap.size W w') fun e w' h=>⟨h.1,hb.trans (h.2.mono (by omega)),h.2⟩);have p0:=And.intro f2 (And.intro r0 (And.intro r1 k2c))
   go_upto_region 6 with (fail)
   go_cut [] (fun wx=>wx.heap[w8.heap.size]?=some (.cells #[.int .i64 24,.string ⟨tk2.text.toArray⟩,.string ⟨jv.text.toArray⟩,.bool false,.slice am wn cm,.bool false,.slice ae iJ.length ce,.int .i64 jv.place] 46 (0,0))∧wx.heap[w.heap.size+1]?=some (.cells #[.int .i64 0,.string ⟨#[]⟩,.string ⟨#[]⟩,.bool false,.slice none 0 0,.bool false,.slice none 0 0,.int .i64 0] 46 (0,0))∧kI XA (fun b=>wy.heap.size≤b∧b<w8.heap.size) wx (.slice am wn cm) (.slice ae iJ.length ce) (.mk 24 [] [] 0 [] false iJ jv.place)∧Below w.heap.size w wx)
   case first =>
    go_region_held3 (fun w'=>w'.cell? ⟨X,2,none⟩=some (.string ⟨jv.text.toArray⟩)∧w'.cell? ⟨w.heap.size,0,none⟩=some (.slice a1 toks.length c1)∧w'.cell? ⟨w.heap.size,1,none⟩=some (.slice (some ⟨b,off,none⟩) nodes.length cap)∧w'.cell? ⟨bk,ok+2,none⟩=some (.int .i64 k2))
     (first|go_keep|exact p6|exact⟨(dP jR.drew w8.heap.size _ _ (by omega)).trans p0.1,(dP jR.drew w8.heap.size _ _ (by omega)).trans p0.2.1,(dP jR.drew w8.heap.size _ _ (by omega)).trans p0.2.2.1,(dP jR.drew w8.heap.size _ _ (by omega)).trans p0.2.2.2⟩|exact⟨(dP sN w8.heap.size _ _ (by omega)).trans p6.1,(dP sN w8.heap.size _ _ (by omega)).trans p6.2.1,(dP sN w8.heap.size _ _ (by omega)).trans p6.2.2.1,(dP sN w8.heap.size _ _ (by omega)).trans p6.2.2.2⟩|exact⟨(dP (sN.setCell ⟨w8.heap.size,2,none⟩ (.string ⟨jv.text.toArray⟩)) w8.heap.size _ _ (by omega)).trans ((dP sN w8.heap.size _ _ (by omega)).trans p6.1),(dP (sN.setCell ⟨w8.heap.size,2,none⟩ (.string ⟨jv.text.toArray⟩)) w8.heap.size _ _ (by omega)).trans ((dP sN w8.heap.size _ _ (by omega)).trans p6.2.1),(dP (sN.setCell ⟨w8.heap.size,2,none⟩ (.string ⟨jv.text.toArray⟩)) w8.heap.size _ _ (by omega)).trans ((dP sN w8.heap.size _ _ (by omega)).trans p6.2.2.1),(dP (sN.setCell ⟨w8.heap.size,2,none⟩ (.string ⟨jv.text.toArray⟩)) w8.heap.size _ _ (by omega)).trans ((dP sN w8.heap.size _ _ (by omega)).trans p6.2.2.2)⟩)
     (first
      | (go_at_call 110;(with_reducible refine(HY4.out jR.drew hA (Nat.le_refl _)).mono ?_);rintro e sN ⟨rfl,hq11,aa7⟩;have p6:=And.intro ((hq11.cell (p:=⟨X,2,none⟩) (show X<w8.heap.size by omega)).trans p0.1) (And.intro ((hq11.cell (p:=⟨w.heap.size,0,none⟩) (show w.heap.size<w8.heap.size by omega)).trans p0.2.1) (And.intro ((hq11.cell (p:=⟨w.heap.size,1,none⟩) (show w.heap.size<w8.heap.size by omega)).trans p0.2.2.1) ((hq11.cell (p:=⟨bk,ok+2,none⟩) (show bk<w8.heap.size by omega)).trans p0.2.2.2)));have E11:=(aa7.block w8.heap.size adX).trans E9;obtain⟨x1,x2,xz⟩:=tL E11)
      | (go_at_call 110;(with_reducible refine(HY4.out (jR.drew.setCell ⟨w8.heap.size,2,none⟩ (.string ⟨jv.text.toArray⟩)) hB' (by simp)).mono ?_);rintro e sN ⟨rfl,hq11,aa7⟩;have p6:=And.intro ((hq11.cell (p:=⟨X,2,none⟩) (show X<w8.heap.size by omega)).trans p0.1) (And.intro ((hq11.cell (p:=⟨w.heap.size,0,none⟩) (show w.heap.size<w8.heap.size by omega)).trans p0.2.1) (And.intro ((hq11.cell (p:=⟨w.heap.size,1,none⟩) (show w.heap.size<w8.heap.size by omega)).trans p0.2.2.1) ((hq11.cell (p:=⟨bk,ok+2,none⟩) (show bk<w8.heap.size by omega)).trans p0.2.2.2)));have E11:=(aa7.block w8.heap.size (by simp;omega)).trans E9B;obtain⟨x1,x2,xz⟩:=tL E11))
    have h1:=heap_setCell_same sN w8.heap.size 2 _ _ (.string ⟨jv.text.toArray⟩) E11;have h2:=heap_setCell_same _ w8.heap.size 1 _ _ (.string ⟨tk2.text.toArray⟩) h1
    have h3:((sN.setCell ⟨w8.heap.size,2,none⟩ (.string ⟨jv.text.toArray⟩)).setCell ⟨w8.heap.size,1,none⟩ (.string ⟨tk2.text.toArray⟩)).heap[w.heap.size+1]?=some (.cells #[.int .i64 0,.string ⟨#[]⟩,.string ⟨#[]⟩,.bool false,.slice none 0 0,.bool false,.slice none 0 0,.int .i64 0] 46 (0,0)):=by
     rw[heap_setCell_other _ _ _ _ (by show w.heap.size+1≠w8.heap.size;omega),heap_setCell_other _ _ _ _ (by show w.heap.size+1≠w8.heap.size;omega),hq11.block (w.heap.size+1) (by omega)];exact E1
    have h4:=((Ij.frame (aQ.sI hq11 fun b hb=>by omega)).frame (aQ.set (a:=⟨w8.heap.size,2,none⟩) (.string ⟨jv.text.toArray⟩) fun b hb=>by show b≠w8.heap.size;omega)).frame (aQ.set (a:=⟨w8.heap.size,1,none⟩) (.string ⟨tk2.text.toArray⟩) fun b hb=>by show b≠w8.heap.size;omega);have h5:=((F7.trans (hq11.mono YX)).setCell (p:=⟨w8.heap.size,2,none⟩) YX (.string ⟨jv.text.toArray⟩)).setCell (p:=⟨w8.heap.size,1,none⟩) YX (.string ⟨tk2.text.toArray⟩);go_wp2_with fail
    go_meet
    exact⟨h2,h3,h4,h5⟩
   case rest =>
    obtain⟨F9,F1,adY,acO⟩:=hcut;clear r0 r1 f2 k2c p0 e1 e2 ez E9 E1 E0 EX E9B hA hB' HY4 HY2 HY3 Ij
    have b0:wc.cell? ⟨w8.heap.size,0,none⟩=some (.int .i64 24):=by rw[Lib.cell_of_heap F9];rfl
    have b1:wc.cell? ⟨w8.heap.size,1,none⟩=some (.string ⟨tk2.text.toArray⟩):=by rw[Lib.cell_of_heap F9];rfl
    have b2:wc.cell? ⟨w8.heap.size,2,none⟩=some (.string ⟨jv.text.toArray⟩):=by rw[Lib.cell_of_heap F9];rfl
    have b3:wc.cell? ⟨w8.heap.size,3,none⟩=some (.bool false):=by rw[Lib.cell_of_heap F9];rfl
    have b4:wc.cell? ⟨w8.heap.size,4,none⟩=some (.slice am wn cm):=by rw[Lib.cell_of_heap F9];rfl
    have b5:wc.cell? ⟨w8.heap.size,5,none⟩=some (.bool false):=by rw[Lib.cell_of_heap F9];rfl
    have b6:wc.cell? ⟨w8.heap.size,6,none⟩=some (.slice ae iJ.length ce):=by rw[Lib.cell_of_heap F9];rfl
    have b7:wc.cell? ⟨w8.heap.size,7,none⟩=some (.int .i64 jv.place):=by rw[Lib.cell_of_heap F9];rfl
    have d0:wc.cell? ⟨w.heap.size+1,0,none⟩=some (.int .i64 0):=by rw[Lib.cell_of_heap F1];rfl
    have d1:wc.cell? ⟨w.heap.size+1,1,none⟩=some (.string ⟨#[]⟩):=by rw[Lib.cell_of_heap F1];rfl
    have d2:wc.cell? ⟨w.heap.size+1,2,none⟩=some (.string ⟨#[]⟩):=by rw[Lib.cell_of_heap F1];rfl
    have d3:wc.cell? ⟨w.heap.size+1,3,none⟩=some (.bool false):=by rw[Lib.cell_of_heap F1];rfl
    have d4:wc.cell? ⟨w.heap.size+1,4,none⟩=some (.slice none 0 0):=by rw[Lib.cell_of_heap F1];rfl
    have d5:wc.cell? ⟨w.heap.size+1,5,none⟩=some (.bool false):=by rw[Lib.cell_of_heap F1];rfl
    have d6:wc.cell? ⟨w.heap.size+1,6,none⟩=some (.slice none 0 0):=by rw[Lib.cell_of_heap F1];rfl
    have d7:wc.cell? ⟨w.heap.size+1,7,none⟩=some (.int .i64 0):=by rw[Lib.cell_of_heap F1];rfl
    have dz:∀ j,wc.frozen? ⟨w.heap.size+1,j,none⟩=false:=by intro j;simp[World.frozen?,F1]
    go_wp2
    have hE:kI XA (fun b=>w.heap.size≤b) (QS wc (w.heap.size+1) (.int .i64 24) (.string ⟨tk2.text.toArray⟩) (.string ⟨jv.text.toArray⟩) (.bool false) (.slice am wn cm) (.bool false) (.slice ae iJ.length ce) (.int .i64 jv.place)) (.slice am wn cm) (.slice ae iJ.length ce) (.mk 24 tk2.text jv.text 0 [] false iJ jv.place) :=
     ((adY.frame (sP _ _ (w.heap.size+1) _ _ _ _ _ _ _ _ fun k hk=>by omega)).imp fun b hb _=>by omega).rename
    refine bodyPost_ret (v:=.agg #[.int .i64 24,.string ⟨tk2.text.toArray⟩,.string ⟨jv.text.toArray⟩,.bool false,.slice am wn cm,.bool false,.slice ae iJ.length ce,.int .i64 jv.place]) (by simp[results,Tryz.results179,go_sem,d0,d1,d2,d3,d4,d5,d6,d7]) rfl ?_;exact⟨_,_,rfl,hE,iX acO (by omega) _ _ _ _ _ _ _ _⟩
  ·subst hq1
   have XH:=ah (show Calls Tryz.prog 110 #[.agg #[.slice a1 toks.length c1,.slice (some ⟨b,off,none⟩) nodes.length cap],.int .i64 k1] w9.drew fun e w'=>e=.returned (.string ⟨#[40]⟩)∧Below w9.drew.heap.size w9.drew w' from Tp);clear Tp HY HZ2 HQ;go_wp2_with (go_at_call 110;refine XH.out.mono ?_);rintro e jR ⟨rfl,oL⟩;have aa6:w9.heap.size≤jR.heap.size:=oL.size;have lG:Below w9.heap.size w9 jR:=(Below.refl w9.heap.size w9).drew.trans oL;have E1:=(lG.block (w.heap.size+1) (bG D1).1).trans D1;have E9:=(lG.block w8.heap.size (by omega)).trans N9;have F7:=tN.trans (lG.mono tN.size);have Ij:=NS.frame (aQ.of lG);clear r0 r1 k1c D0 D1 DX N9 oL lG NS
   have b0:jR.cell? ⟨w8.heap.size,0,none⟩=some (.int .i64 24):=by rw[Lib.cell_of_heap E9];rfl
   have b1:jR.cell? ⟨w8.heap.size,1,none⟩=some (.string ⟨jv.text.toArray⟩):=by rw[Lib.cell_of_heap E9];rfl
   have b2:jR.cell? ⟨w8.heap.size,2,none⟩=some (.string ⟨#[]⟩):=by rw[Lib.cell_of_heap E9];rfl
   have b3:jR.cell? ⟨w8.heap.size,3,none⟩=some (.bool false):=by rw[Lib.cell_of_heap E9];rfl
   have b4:jR.cell? ⟨w8.heap.size,4,none⟩=some (.slice am wn cm):=by rw[Lib.cell_of_heap E9];rfl
   have b5:jR.cell? ⟨w8.heap.size,5,none⟩=some (.bool false):=by rw[Lib.cell_of_heap E9];rfl
   have b6:jR.cell? ⟨w8.heap.size,6,none⟩=some (.slice ae iJ.length ce):=by rw[Lib.cell_of_heap E9];rfl
   have b7:jR.cell? ⟨w8.heap.size,7,none⟩=some (.int .i64 jv.place):=by rw[Lib.cell_of_heap E9];rfl
   have d0:jR.cell? ⟨w.heap.size+1,0,none⟩=some (.int .i64 0):=by rw[Lib.cell_of_heap E1];rfl
   have d1:jR.cell? ⟨w.heap.size+1,1,none⟩=some (.string ⟨#[]⟩):=by rw[Lib.cell_of_heap E1];rfl
   have d2:jR.cell? ⟨w.heap.size+1,2,none⟩=some (.string ⟨#[]⟩):=by rw[Lib.cell_of_heap E1];rfl
   have d3:jR.cell? ⟨w.heap.size+1,3,none⟩=some (.bool false):=by rw[Lib.cell_of_heap E1];rfl
   have d4:jR.cell? ⟨w.heap.size+1,4,none⟩=some (.slice none 0 0):=by rw[Lib.cell_of_heap E1];rfl
   have d5:jR.cell? ⟨w.heap.size+1,5,none⟩=some (.bool false):=by rw[Lib.cell_of_heap E1];rfl
   have d6:jR.cell? ⟨w.heap.size+1,6,none⟩=some (.slice none 0 0):=by rw[Lib.cell_of_heap E1];rfl
   have d7:jR.cell? ⟨w.heap.size+1,7,none⟩=some (.int .i64 0):=by rw[Lib.cell_of_heap E1];rfl
   have dz:∀ j,jR.frozen? ⟨w.heap.size+1,j,none⟩=false:=by intro j;simp[World.frozen?,E1]
   go_wp2
   have hE:kI XA (fun b=>w.heap.size≤b) (QS jR (w.heap.size+1) (.int .i64 24) (.string ⟨jv.text.toArray⟩) (.string ⟨#[]⟩) (.bool false) (.slice am wn cm) (.bool false) (.slice ae iJ.length ce) (.int .i64 jv.place)) (.slice am wn cm) (.slice ae iJ.length ce) (.mk 24 jv.text [] 0 [] false iJ jv.place) :=
    ((Ij.frame (sP _ _ (w.heap.size+1) _ _ _ _ _ _ _ _ fun k hk=>by omega)).imp fun b hb _=>by omega).rename
   refine bodyPost_ret (v:=.agg #[.int .i64 24,.string ⟨jv.text.toArray⟩,.string ⟨#[]⟩,.bool false,.slice am wn cm,.bool false,.slice ae iJ.length ce,.int .i64 jv.place]) (by simp[results,Tryz.results179,go_sem,d0,d1,d2,d3,d4,d5,d6,d7]) rfl ?_;exact⟨_,_,rfl,hE,iX F7 (by omega) _ _ _ _ _ _ _ _⟩
def oM:Option CE→PT
 | none=>.leaf
 | some e=>e.pt
def gI:List (Option CE)→Nat→List (CE × Nat)
 | [],_=>[]
 | none :: l,u=>gI l (u+1)
 | some e :: l,u=>(e,u) :: gI l (u+e.pt.lv)
theorem zo {nodes:List Nd}{n:Int}{u:Nat}{t:PT}(h:lM nodes n u t):0≤n∧n<(nodes.length:Int):=by
 cases t with
 | leaf=>rw[lM] at h;have:=(mR h.2).1;omega
 | node k l=>rw[lM] at h;obtain⟨ks,h0,h1,_⟩:=h;have:=(mR h1).1;omega
theorem Py {nodes:List Nd}:∀ {l:List PT} {ks:List Int} {u:Nat},dV nodes ks u l→∀ k∈ks,0≤k∧k<(nodes.length:Int)
 | [],ks,u,h=>by rw[dV] at h;subst h;intro k hk;cases hk
 | t :: l,ks,u,h=>by
  rw[dV] at h;obtain⟨k,ks',rfl,h1,h2⟩:=h;intro x hx
  rcases List.mem_cons.1 hx with rfl|hx
  ·exact zo h1
  ·exact Py h2 x hx
theorem tO {nodes:List Nd}:∀ (its:List (Option CE)) (ks:List Int) (u:Nat),dV nodes ks u (its.map oM) →
  (fG nodes ks).length=(gI its u).length∧∀ (j:Nat) (h1:j<(fG nodes ks).length) (h2:j<(gI its u).length),lM nodes (fG nodes ks)[j] (gI its u)[j].2 (gI its u)[j].1.pt
 | [],ks,u,h=>by
  simp only[List.map_nil,dV] at h;subst h;exact⟨rfl,fun j h1=>absurd h1 (by simp[fG])⟩
 | none :: its,ks,u,h=>by
  simp only[List.map_cons,dV,oM] at h;obtain⟨k,ks',rfl,h1,h2⟩:=h;rw[PT.lv] at h2;have ih:=tO its ks' (u+1) h2;simp only[Mk h1,gI];exact ih
 | some e :: its,ks,u,h=>by
  simp only[List.map_cons,dV,oM] at h;obtain⟨k,ks',rfl,h1,h2⟩:=h;have ih:=tO its ks' _ h2;simp only[Ml h1,gI];refine⟨by simp[ih.1],fun j h3 h4=>?_⟩
  cases j with
  | zero=>exact h1
  | succ j=>exact ih.2 j (by simpa using h3) (by simpa using h4)
theorem CE.aa8 (e:CE):0<e.pt.lv:=by
 cases e with
 | call q l=>rw[CE.pt,PT.lv,gZ];simp[bB,PT.lv]
 | num=>simp[CE.pt,PT.lv,bB]
 | truth=>simp[CE.pt,PT.lv,bB]
 | res=>simp[CE.pt,PT.lv,bB]
 | Jj=>simp[CE.pt,PT.lv,bB]
 | group e=>simp[CE.pt,PT.lv,bB];omega
 | un e=>simp[CE.pt,PT.lv,bB];omega
 | bin a b=>simp[CE.pt,PT.lv,bB];omega
 | iff a b c=>simp[CE.pt,PT.lv,bB];omega
 | pF a b=>simp[CE.pt,PT.lv,bB];omega
 | pG a b=>simp[CE.pt,PT.lv,bB];omega
theorem zq:∀ (its:List (Option CE)),its.length≤bB (its.map oM)
 | []=>Nat.le_refl _
 | none :: its=>by have:=zq its;simp only[List.map_cons,bB,oM,PT.lv,dX];omega
 | some e :: its=>by have:=zq its;have:=e.aa8;simp only[List.map_cons,bB,oM,dX];omega
structure Dh where
 B:Nat
 tv:Value
 nv:Value
 toks:List Tok
 nodes:List Nd
 cl:Bool
structure Dh.ok (E:Dh):Prop where
 len:E.toks.length≤1000000
 nums:∀ u,u<E.toks.length→gu E.toks u=3→∀ W,Calls Tryz.prog 181 #[.string ⟨(aI E.toks u).toArray⟩] W (Uw (iG (aI E.toks u)) W)
def Dh.At (E:Dh)(W:World):Prop:=aP E.B W (.agg #[E.tv,E.nv]) E.toks E.nodes∧E.B≤W.heap.size
def Dh.reads (E:Dh)(e:CE)(u:Nat):Prop:=∀ (i:Nat) (W:World),lM E.nodes i u e.pt→E.At W→Calls Tryz.prog 113 #[.agg #[E.tv,E.nv],.int .i64 i] W (EPost XA (e.pe E.toks u) W)
theorem j5 (E:Dh)(its:List (Option CE))(ks:List Int)(u i:Nat)(k:Int)(hn:E.nodes[i]?=some ⟨k,-1,ks⟩)(hr:dV E.nodes ks u (its.map oM))(hlen:ks.length≤1000000000)(hsub:∀ p∈gI its u,E.reads p.1 p.2)
  (op at_:Nat) (W:World) (hT:aP E.B W (.agg #[E.tv,E.nv]) E.toks E.nodes) (hB:E.B≤W.heap.size) :
  Calls Tryz.prog 180 #[.agg #[E.tv,E.nv],.int .i64 op,.int .i64 at_,.int .i64 i] W (EPost XA (.mk op [] [] 0 [] false ((gI its u).map fun p=>p.1.pe E.toks p.2) at_) W):=by
 obtain⟨hi,hni⟩:=mR hn;obtain⟨p1,p2⟩:=tO its ks u hr;refine QN E.B E.tv E.nv E.toks E.nodes i op at_ W hT hB hi (by rw[hni];exact Py hr) (by rw[hni];exact hlen) _ (by rw[hni];simp[p1]) ?_;rw[hni];intro j h1 h2 W' hT' hB'
 have h3:j<(gI its u).length:=by simpa using h1
 have hrep:=p2 j h2 h3;have hx:=hsub _ (List.getElem_mem h3);have hk:=zo hrep;simp only[List.getElem_map]
 obtain⟨m,hm⟩:∃ m:Nat,(fG E.nodes ks)[j]=(m:Int):=⟨((fG E.nodes ks)[j]).toNat,by omega⟩
 rw[hm] at hrep ⊢;exact hx m W' hrep ⟨hT',hB'⟩
theorem iO {toks:List Tok}{u:Nat}(h:u<toks.length):toks[u]?=some (bL toks u):=by
 rw[bL,Nat.min_eq_left (by omega),List.getD_eq_getElem?_getD,List.getElem?_eq_getElem h,Option.getD_some]
theorem bE {nodes:List Nd}{ks:List Int}{u:Nat}{l:List PT}(h:dV nodes ks u (.leaf :: l)):∃ (k:Nat) (ks':List Int),ks=(k:Int) :: ks'∧nodes[k]?=some ⟨19,(u:Nat),[]⟩∧dV nodes ks' (u+1) l:=by
 rw[dV] at h;obtain⟨k,ks',rfl,h1,h2⟩:=h;obtain⟨i,rfl,hi⟩:=h1.Mv;exact⟨i,ks',rfl,hi,h2⟩
theorem Di {nodes:List Nd}{ks:List Int}{u:Nat}{t:PT}{l:List PT}(h:dV nodes ks u (t :: l)):∃ (k:Nat) (ks':List Int),ks=(k:Int) :: ks'∧lM nodes k u t∧dV nodes ks' (u+t.lv) l:=by
 rw[dV] at h;obtain⟨k,ks',rfl,h1,h2⟩:=h;have:=zo h1;exact⟨k.toNat,ks',by rw[Int.toNat_of_nonneg this.1],by rw[Int.toNat_of_nonneg this.1];exact h1,h2⟩
def gV:List CE→List (Option CE)
 | []=>[]
 | e :: l=>some e :: (match l with | []=>[]|_ :: _=>none :: gV l)
theorem tQ (e f:CE)(l:List CE):gV (e :: f :: l)=some e :: none :: gV (f :: l):=by
 conv=>lhs;rw[gV]
theorem ow:∀ l:List CE,(gV l).map oM=dS l
 | []=>by simp[gV,dS]
 | [e]=>by simp[gV,dS,oM]
 | e :: f :: l=>by
  rw[tQ,lJ,List.map_cons,List.map_cons,ow (f :: l)]
  rfl
theorem zu (toks:List Tok):∀ (l:List CE) (u:Nat),(gI (gV l++[none]) u).map (fun p=>p.1.pe toks p.2)=iq toks u l
 | [],u=>by simp[gV,gI,iq]
 | [e],u=>by simp[gV,gI,iq]
 | e :: f :: l,u=>by
  rw[tQ,List.cons_append,List.cons_append,gI,gI,List.map_cons,zu toks (f :: l)]
  conv=>rhs;rw[iq]
theorem Il {E:Dh}:∀ (l:List CE) (u:Nat),mU E.toks E.cl u l→u+bB (dS l)≤E.toks.length→(∀ e∈l,∀ v,e.ok E.toks E.cl v→v+e.pt.lv≤E.toks.length→E.reads e v)→∀ p∈gI (gV l++[none]) u,E.reads p.1 p.2
 | [],u,_,_,_,p,hp=>by simp[gV,gI] at hp
 | [e],u,ho,hl,hr,p,hp=>by
  rw[mU] at ho;rw[qQ] at hl;simp only[bB] at hl
  have h:p=(e,u):=by simpa [gV,gI] using hp
  subst h;exact hr e List.mem_cons_self u ho.1 (by omega)
 | e :: f :: l,u,ho,hl,hr,p,hp=>by
  rw[mU] at ho;rw[lJ] at hl;simp only[bB,PT.lv] at hl;rw[tQ,List.cons_append,List.cons_append,gI,gI] at hp
  rcases List.mem_cons.1 hp with rfl|hp
  ·exact hr e List.mem_cons_self u ho.1 (by omega)
  ·exact Il (f :: l) _ ho.2 (by omega) (fun x hx=>hr x (List.mem_cons_of_mem _ hx)) p hp
theorem dM {nodes:List Nd}{i:Nat}{u k:Nat}{l:List PT}(h:lM nodes i u (.node k l)):∃ ks,nodes[i]?=some ⟨(k:Nat),-1,ks⟩∧dV nodes ks u l:=by
 rw[lM] at h;obtain⟨ks,_,h1,h2⟩:=h;rw[Int.toNat_natCast] at h1;exact⟨ks,h1,h2⟩
theorem oC {E:Dh}(hE:E.ok){ks:List Int}{u:Nat}{its:List (Option CE)}(h:dV E.nodes ks u (its.map oM))(hl:bB (its.map oM)≤E.toks.length):ks.length≤1000000000:=by
 have h1:=(wP h).1;have h2:=zq its;have h3:=hE.len;rw[List.length_map] at h1;omega
theorem eD (E:Dh){i k0 u:Nat}{kd:Int}{ks:List Int}{W:World}{x:PE}(hAt:E.At W)(hn:E.nodes[i]?=some ⟨kd,-1,(k0:Int) :: ks⟩)(h0:E.nodes[k0]?=some ⟨19,(u:Nat),[]⟩)(hu:u<E.toks.length)(hx:ou E.B E.tv E.nv E.toks E.nodes i ((k0:Int) :: ks) (bL E.toks u) kd x) :
  Calls Tryz.prog 113 #[.agg #[E.tv,E.nv],.int .i64 i] W (EPost XA x W) :=
 F3 E.B E.tv E.nv E.toks E.nodes i kd _ W hAt.1 hAt.2 hn k0 rfl _ _ h0 (.inl ⟨u,rfl,iO hu⟩) x hx
theorem V5 {B:Nat}{tv nv:Value}{toks:List Tok}{nodes:List Nd}{k u:Nat}{W:World}(hT:aP B W (.agg #[tv,nv]) toks nodes)(hB:B≤W.heap.size)(h:nodes[k]?=some ⟨19,(u:Nat),[]⟩)(hu:u<toks.length) :
  Calls Tryz.prog 110 #[.agg #[tv,nv],.int .i64 k] W fun e w'=>e=.returned (.string ⟨(aI toks u).toArray⟩)∧Below W.heap.size W w':=by
 have h1:=uw B tv nv toks nodes k u W hT hB h hu;have e:=iO hu;rw[List.getElem?_eq_getElem hu] at e;rw[Option.some.inj e] at h1;exact h1
theorem dF (E:Dh)(hE:E.ok):∀ (n:Nat) (e:CE) (u:Nat),SizeOf.sizeOf e<n→e.ok E.toks E.cl u→u+e.pt.lv≤E.toks.length→E.reads e u
 | 0,e,u,h,_,_=>absurd h (by omega)
 | n+1,.num,u,_,ho,hl=>by
  intro i W hrep hAt;rw[CE.ok] at ho;rw[CE.pt] at hrep hl;simp only[PT.lv,bB] at hl;obtain⟨ks,hn,hr⟩:=dM hrep;obtain⟨k0,ks',rfl,h0,_⟩:=bE hr;rw[CE.pe];exact eD E hAt hn h0 (by omega) (.num _ _ (hE.nums u (by omega) ho))
 | n+1,.truth,u,_,ho,hl=>by
  intro i W hrep hAt;rw[CE.ok] at ho;rw[CE.pt] at hrep hl;simp only[PT.lv,bB] at hl;obtain⟨ks,hn,hr⟩:=dM hrep;obtain⟨k0,ks',rfl,h0,_⟩:=bE hr;rw[CE.pe]
  rcases ho with ho|ho
  ·rw[decide_eq_true ho]
   exact eD E hAt hn h0 (by omega) (.tru ho)
  ·rw[decide_eq_false (by rw[ho];decide)]
   exact eD E hAt hn h0 (by omega) (.fls ho)
 | n+1,.res,u,_,ho,hl=>by
  intro i W hrep hAt;rw[CE.pt] at hrep hl;simp only[PT.lv,bB] at hl;obtain⟨ks,hn,hr⟩:=dM hrep;obtain⟨k0,ks',rfl,h0,_⟩:=bE hr;rw[CE.pe];exact eD E hAt hn h0 (by omega) .res
 | n+1,.Jj,u,_,ho,hl=>by
  intro i W hrep hAt;rw[CE.pt] at hrep hl;simp only[PT.lv,bB] at hl;obtain⟨ks,hn,hr⟩:=dM hrep;obtain⟨k0,ks',rfl,h0,_⟩:=bE hr;rw[CE.pe];exact eD E hAt hn h0 (by omega) .Jj
 | n+1,.group e,u,hs,ho,hl=>by
  intro i W hrep hAt;rw[CE.ok] at ho;rw[CE.pt] at hrep hl;simp only[PT.lv,bB] at hl;simp only[CE.group.sizeOf_spec] at hs;obtain⟨ks,hn,hr⟩:=dM hrep;obtain⟨k0,ks',rfl,h0,hr⟩:=bE hr;obtain⟨k1,ks',rfl,h1,_⟩:=Di hr;rw[CE.pe];exact eD E hAt hn h0 (by omega) (.group k1 _ rfl (fun W hT hB=>dF E hE n e (u+1) (by omega) ho.2 (by omega) k1 W h1 ⟨hT,hB⟩))
 | n+1,.un e,u,hs,ho,hl=>by
  intro i W hrep hAt;rw[CE.ok] at ho;rw[CE.pt] at hrep hl;simp only[PT.lv,bB] at hl;simp only[CE.un.sizeOf_spec] at hs;obtain⟨ks,hn,hr⟩:=dM hrep
  have hM:=j5 E [none,some e] ks u i _ hn hr (oC hE (its:=[none,some e]) hr (by simp only[List.map_cons,List.map_nil,oM,bB,PT.lv];omega)) (fun p hp=>by
   have h:p=(e,u+1):=by simpa [gI] using hp
   subst h
   exact dF E hE n e (u+1) (by omega) ho.2 (by omega))
  obtain⟨k0,ks',rfl,h0,_⟩:=bE hr;rw[CE.pe]
  rcases ho.1 with h|h
  ·rw[if_pos h]
   exact eD E hAt hn h0 (by omega) (.not _ h fun op at_ W hT hB=>hM op at_ W hT hB)
  ·rw[if_neg (by rw[h];decide)]
   exact eD E hAt hn h0 (by omega) (.neg _ h fun op at_ W hT hB=>hM op at_ W hT hB)
 | n+1,.bin a b,u,hs,ho,hl=>by
  intro i W hrep hAt;rw[CE.ok] at ho;rw[CE.pt] at hrep hl;simp only[PT.lv,bB] at hl;simp only[CE.bin.sizeOf_spec] at hs;obtain⟨ks,hn,hr⟩:=dM hrep
  have hM:=j5 E [some a,none,some b] ks u i _ hn hr (oC hE (its:=[some a,none,some b]) hr (by simp only[List.map_cons,List.map_nil,oM,bB,PT.lv];omega)) (fun p hp=>by
   have h:p=(a,u)∨p=(b,u+a.pt.lv+1):=by simpa [gI] using hp
   rcases h with rfl|rfl
   ·exact dF E hE n a u (by omega) ho.2.1 (by omega)
   ·exact dF E hE n b _ (by omega) ho.2.2 (by omega))
  obtain⟨k0,ks',rfl,h0,hr⟩:=Di hr;obtain⟨k1,ks',rfl,h1,_⟩:=bE hr;obtain⟨c,la,ea,c1,c2⟩:=a.node;rw[ea] at h0;obtain⟨ksa,hna,_⟩:=dM h0;rw[CE.pe];refine F3 E.B E.tv E.nv E.toks E.nodes i _ _ W hAt.1 hAt.2 hn k0 rfl _ _ hna (.inr ⟨by simp only;omega,rfl⟩) _ (.bin _ fun W' hT hB=>?_);exact KO _ E.B E.tv E.nv E.toks E.nodes i _ W' hT hB hn k1 (u+a.pt.lv) rfl h1 _ (iO (by omega)) ho.1 hM
 | n+1,.iff a b c,u,hs,ho,hl=>by
  intro i W hrep hAt;rw[CE.ok] at ho;rw[CE.pt] at hrep hl;simp only[PT.lv,bB] at hl;simp only[CE.iff.sizeOf_spec] at hs;obtain⟨ks,hn,hr⟩:=dM hrep
  have hM:=j5 E [none,some a,none,some b,none,some c] ks u i _ hn hr (oC hE (its:=[none,some a,none,some b,none,some c]) hr (by simp only[List.map_cons,List.map_nil,oM,bB,PT.lv];omega)) (fun p hp=>by
   have h:p=(a,u+1)∨p=(b,u+1+a.pt.lv+1)∨p=(c,u+1+a.pt.lv+1+b.pt.lv+1):=by simpa [gI] using hp
   rcases h with rfl|rfl|rfl
   ·exact dF E hE n a _ (by omega) ho.2.1 (by omega)
   ·exact dF E hE n b _ (by omega) ho.2.2.1 (by omega)
   ·exact dF E hE n c _ (by omega) ho.2.2.2 (by omega))
  obtain⟨k0,ks',rfl,h0,_⟩:=bE hr;rw[CE.pe];exact eD E hAt hn h0 (by omega) (.iff _ fun op at_ W hT hB=>hM op at_ W hT hB)
 | n+1,.pF a b,u,hs,ho,hl=>by
  intro i W hrep hAt;rw[CE.ok] at ho;rw[CE.pt] at hrep hl;simp only[PT.lv,bB] at hl;simp only[CE.pF.sizeOf_spec] at hs;obtain⟨ks,hn,hr⟩:=dM hrep
  have hM:=j5 E [none,none,none,some a,none,some b] ks u i _ hn hr (oC hE (its:=[none,none,none,some a,none,some b]) hr (by simp only[List.map_cons,List.map_nil,oM,bB,PT.lv];omega)) (fun p hp=>by
   have h:p=(a,u+3)∨p=(b,u+3+a.pt.lv+1):=by simpa [gI] using hp
   rcases h with rfl|rfl
   ·exact dF E hE n a _ (by omega) ho.2.2.1 (by omega)
   ·exact dF E hE n b _ (by omega) ho.2.2.2 (by omega))
  obtain⟨k0,ks',rfl,h0,hr⟩:=bE hr;obtain⟨k1,ks',rfl,h1,_⟩:=bE hr;rw[CE.pe];exact eD E hAt hn h0 (by omega) (.pF _ k1 _ (fun op at_ W hT hB=>hM op at_ W hT hB) rfl fun W hT hB=>V5 hT hB h1 (by omega))
 | n+1,.pG a b,u,hs,ho,hl=>by
  intro i W hrep hAt;rw[CE.ok] at ho;rw[CE.pt] at hrep hl;simp only[PT.lv,bB] at hl;simp only[CE.pG.sizeOf_spec] at hs;obtain⟨ks,hn,hr⟩:=dM hrep
  have hM:=j5 E [none,some a,none,some b] ks u i _ hn hr (oC hE (its:=[none,some a,none,some b]) hr (by simp only[List.map_cons,List.map_nil,oM,bB,PT.lv];omega)) (fun p hp=>by
   have h:p=(a,u+1)∨p=(b,u+1+a.pt.lv+1):=by simpa [gI] using hp
   rcases h with rfl|rfl
   ·exact dF E hE n a _ (by omega) ho.2.1 (by omega)
   ·exact dF E hE n b _ (by omega) ho.2.2 (by omega))
  obtain⟨k0,ks',rfl,h0,_⟩:=bE hr;rw[CE.pe];exact eD E hAt hn h0 (by omega) (.pG _ fun op at_ W hT hB=>hM op at_ W hT hB)
 | n+1,.call q l,u,hs,ho,hl=>by
  intro i W hrep hAt;rw[CE.ok] at ho;rw[CE.pt] at hrep hl;simp only[CE.call.sizeOf_spec] at hs
  have hsz:∀ e∈l,∀ v,e.ok E.toks E.cl v→v+e.pt.lv≤E.toks.length→E.reads e v:=fun e he v h1 h2 =>
   dF E hE n e v (by have:=List.sizeOf_lt_of_mem he;omega) h1 h2
  obtain⟨ks,hn,hr⟩:=dM hrep
  cases q with
  | true =>
   simp only[if_true] at hr hl ho;simp only[PT.lv,gZ,bB] at hl
   have hr':dV E.nodes ks u (([none,none,none,none]++(gV l++[none])).map oM):=by
    rw[List.map_append,List.map_append,ow]
    simpa [oM] using hr
   have hM:=j5 E ([none,none,none,none]++(gV l++[none])) ks u i _ hn hr' (oC hE hr' (by rw[List.map_append,List.map_append,ow];simp only[List.map_cons,List.map_nil,oM,gZ,bB,PT.lv];omega)) (fun p hp=>by
    simp only[List.cons_append,List.nil_append,gI] at hp
    exact Il l (u+4) ho.2.2.2.2.2 (by omega) hsz p hp)
   simp only[List.cons_append,List.nil_append,gI] at hM;rw[zu] at hM;obtain⟨k0,ks',rfl,h0,hr⟩:=bE hr;obtain⟨k1,ks',rfl,h1,hr⟩:=bE hr;obtain⟨k2,ks',rfl,h2,hr⟩:=bE hr;rw[CE.pe,if_pos rfl];refine eD E hAt hn h0 (by omega) (.call _ fun W' hT hB=>?_);exact F6 true _ _ _ E.B E.tv E.nv E.toks E.nodes i _ W' hT hB hn k0 u rfl h0 _ (iO (by omega)) k1 (u+1) rfl h1 _ (iO (by omega)) ho.2.2.2.1 k2 (u+2) (fun _=>rfl) (fun _=>h2) _ (fun _=>iO (by omega)) (.inl ⟨rfl,rfl,rfl⟩) hM
  | false =>
   simp only[Bool.false_eq_true,if_false] at hr hl ho;simp only[PT.lv,gZ,bB] at hl
   have hr':dV E.nodes ks u (([none,none]++(gV l++[none])).map oM):=by
    rw[List.map_append,List.map_append,ow]
    simpa [oM] using hr
   have hM:=j5 E ([none,none]++(gV l++[none])) ks u i _ hn hr' (oC hE hr' (by rw[List.map_append,List.map_append,ow];simp only[List.map_cons,List.map_nil,oM,gZ,bB,PT.lv];omega)) (fun p hp=>by
    simp only[List.cons_append,List.nil_append,gI] at hp
    exact Il l (u+2) ho.2.2.2.2 (by omega) hsz p hp)
   simp only[List.cons_append,List.nil_append,gI] at hM;rw[zu] at hM;obtain⟨k0,ks',rfl,h0,hr⟩:=bE hr;obtain⟨k1,ks',rfl,h1,hr⟩:=bE hr;rw[CE.pe,if_neg (by decide)];refine eD E hAt hn h0 (by omega) (.call _ fun W' hT hB=>?_);exact F6 false _ _ _ E.B E.tv E.nv E.toks E.nodes i _ W' hT hB hn k0 u rfl h0 _ (iO (by omega)) k1 (u+1) rfl h1 _ (iO (by omega)) ho.2.2.2.1 0 0 (fun q=>by cases q) (fun q=>by cases q) (bL E.toks u) (fun q=>by cases q) (.inr ⟨rfl,rfl,rfl⟩) hM
end Go.Proofs.YtknicmmigbhpcaaGreatDoor
