/- Walks and plain laws: ReadW9, ReadW10, ReadW11. -/
import Derived.Test.YtknicmmigbhpcaaGreatDoorB23
set_option maxHeartbeats 16000000
set_option maxRecDepth 100000
set_option linter.unusedVariables false
set_option linter.unusedSimpArgs false
namespace Go.Proofs.YtknicmmigbhpcaaGreatDoor
open Go.RowKit Go
theorem tQ {w:World}{b:Nat}{c0 c1 c2 c3 c4 c5 c6 c7:Value}{T:TypeId}(h:w.heap[b]?=some (.cells #[c0,c1,c2,c3,c4,c5,c6,c7] T (0,0))) :
  w.cell? ⟨b,1,none⟩=some c1∧w.cell? ⟨b,2,none⟩=some c2∧∀ j,w.frozen? ⟨b,j,none⟩=false :=
 ⟨by rw[Lib.cell_of_heap h];rfl,by rw[Lib.cell_of_heap h];rfl,by intro j;simp[World.frozen?,h]⟩
theorem Gi (q:Bool)(nm md:List UInt8)(iP:List PE)(B:Nat)(tv nv:Value)(toks:List Tok)(nodes:List Nd)(i:Nat)(ks:List Int)(w:World)(h:aN B w (.agg #[tv,nv]) toks nodes)(hB:B≤w.heap.size)(hn:nodes[i]?=some ⟨13,-1,ks⟩)
  (k0 u0:Nat) (hq0:ks[0]?=some (k0:Int)) (hl0:nodes[k0]?=some ⟨19,(u0:Nat),[]⟩) (jy:Tok) (acP:toks[u0]?=some jy)
  (k1 u1:Nat) (hq1:ks[1]?=some (k1:Int)) (hl1:nodes[k1]?=some ⟨19,(u1:Nat),[]⟩) (tk1:Tok) (V7:toks[u1]?=some tk1) (htx:tk1.text=if q=true then [46] else [40])
  (k2 u2:Nat) (hq2:q=true→ks[2]?=some (k2:Int)) (hl2:q=true→nodes[k2]?=some ⟨19,(u2:Nat),[]⟩) (tk2:Tok) (acQ:q=true→toks[u2]?=some tk2)
  (hqq:(q=true∧nm=tk2.text∧md=jy.text)∨(q=false∧nm=jy.text∧md=[]))
  (hM:∀ (op at_:Nat) (W:World),aN B W (.agg #[tv,nv]) toks nodes→B≤W.heap.size→Calls Tryz.prog 180 #[.agg #[tv,nv],.int .i64 op,.int .i64 at_,.int .i64 i] W (EPost XA (.mk op [] [] 0 [] false iP at_) W)) :
  Calls Tryz.prog 179 #[.agg #[tv,nv],.int .i64 i] w (EPost XA (.mk 24 nm md 0 [] false iP jy.place) w):=by
 have HQ:=ah hqq;have HM:=ah hM;obtain⟨hu0,aal⟩:=mR acP;obtain⟨hu1,KV⟩:=mR V7;obtain⟨hp0,Wn⟩:=mR hq0;obtain⟨hp1,hp1'⟩:=mR hq1;have HK:=ah (fun W hT hW=>jD B tv nv toks nodes k0 u0 W hT hW hl0 hu0);rw[aal] at HK;unfold mW dh at HK;have HX:=ah (fun W hT hW=>uq B tv nv toks nodes k1 u1 W hT hW hl1 hu1);rw[KV,htx] at HX;unfold dh at HX
 have HY:Hid (q=true→∀ W,aN B W (.agg #[tv,nv]) toks nodes→B≤W.heap.size→Calls Tryz.prog 110 #[.agg #[tv,nv],.int .i64 k2] W fun e w'=>e=.returned (.string ⟨tk2.text.toArray⟩)∧Below W.heap.size W w'):=ah (fun hq W hT hW=>by
  obtain⟨hu2,acR⟩:=mR (acQ hq);have:=uq B tv nv toks nodes k2 u2 W hT hW (hl2 hq) hu2;rw[acR] at this
  exact this)
 obtain⟨hi,hni⟩:=mR hn;have HT:=ah h;obtain⟨a1,c1,_,_,e⟩:=h.slices;obtain⟨b,off,cap,kv,rfl,hb,x0,x1,x2,hkv⟩:=h.node hi
 obtain⟨rfl,-⟩:tv=.slice a1 toks.length c1∧_:=by simpa using e
 rw[hni] at hkv;simp only at hkv;obtain⟨ak,ck,rfl,_,uX⟩:=hkv.form;obtain⟨bk,ok,rfl,hbk,hkc⟩:=uX (by omega);have hz:=hkc 0 hp0;rw[Wn,Nat.add_zero] at hz;have hz1:=hkc 1 hp1;rw[hp1'] at hz1
 have hz2:q=true→w.cell? ⟨bk,ok+2,none⟩=some (.int .i64 k2)∧2<ks.length:=fun hq=>by
  obtain⟨hp2,ad2⟩:=mR (hq2 hq);have:=hkc 2 hp2;rw[ad2] at this;exact⟨this,hp2⟩
 have HZ1:=ah hz1;have HZ2:=ah hz2;clear e hkv uX hkc hn hni x0 x1 acP aal V7 KV hq0 hq1 Wn hp1' hl0 hl1 hM htx hq2 hl2 acQ hz1 hz2 hqq;have bC:=((Below.refl w.heap.size w).alloc (Nat.le_refl _) (.cells #[.slice a1 toks.length c1,.slice (some ⟨b,off,none⟩) nodes.length cap] 132)).alloc (by simp) (.cells #[.int .i64 0,.string ⟨#[]⟩,.string ⟨#[]⟩,.bool false,.slice none 0 0,.bool false,.slice none 0 0,.int .i64 0] 46);have X2:=cell_later bC x2;have Z2:=cell_later bC hz;have g0:=(Lib.alloc_old _ (.cells #[.int .i64 0,.string ⟨#[]⟩,.string ⟨#[]⟩,.bool false,.slice none 0 0,.bool false,.slice none 0 0,.int .i64 0] 46) w.heap.size (by simp)).trans (heap_alloc_new w (.cells #[.slice a1 toks.length c1,.slice (some ⟨b,off,none⟩) nodes.length cap] 132));have g1:=heap_alloc_new (w.alloc (.cells #[.slice a1 toks.length c1,.slice (some ⟨b,off,none⟩) nodes.length cap] 132)) (.cells #[.int .i64 0,.string ⟨#[]⟩,.string ⟨#[]⟩,.bool false,.slice none 0 0,.bool false,.slice none 0 0,.int .i64 0] 46);rw[World.size_alloc] at g1
 have hiI:(i:Int)<(nodes.length:Int):=by omega
 have ad3:(0:Int)<(ks.length:Int):=by omega
 have aa5:(1:Int)<(ks.length:Int):=by omega
 have PI:=HT.out;clear h x2 hz;go_enter Tryz.func179,Tryz.ntmps179
 go_upto_region 2 with (fail)
 generalize (w.alloc _).alloc _=w2 at g0 g1 bC X2 Z2 ⊢
 have r0:w2.cell? ⟨w.heap.size,0,none⟩=some (.slice a1 toks.length c1):=by rw[Lib.cell_of_heap g0];rfl
 have r1:w2.cell? ⟨w.heap.size,1,none⟩=some (.slice (some ⟨b,off,none⟩) nodes.length cap):=by rw[Lib.cell_of_heap g0];rfl
 have V8:=ah (fun W (hb:Below w2.heap.size w2 W)=>(HK.out W (PI.below ((bC.trans (hb.mono bC.size)).mono hB)) (by have:=bC.size;have:=hb.size;omega)).mono (R':=fun e w'=>e=.returned (.agg #[.int .i64 jy.kind,.string ⟨jy.lead.toArray⟩,.string ⟨jy.text.toArray⟩,.int .i64 jy.place])∧Below w2.heap.size w2 w'∧Below W.heap.size W w') fun e w' h=>⟨h.1,hb.trans (h.2.mono hb.size),h.2⟩);have hlt2:w.heap.size+1<w2.heap.size:=(bG g1).1
 go_cut [6] (fun p wc=>∃ X:Nat,p=.pointer (some ⟨X,0,none⟩)∧wc.heap[X]?=some (.cells #[.int .i64 jy.kind,.string ⟨jy.lead.toArray⟩,.string ⟨jy.text.toArray⟩,.int .i64 jy.place] 136 (0,0))∧wc.heap[w.heap.size]?=some (.cells #[.slice a1 toks.length c1,.slice (some ⟨b,off,none⟩) nodes.length cap] 132 (0,0))∧wc.heap[w.heap.size+1]?=some (.cells #[.int .i64 0,.string ⟨#[]⟩,.string ⟨#[]⟩,.bool false,.slice none 0 0,.bool false,.slice none 0 0,.int .i64 0] 46 (0,0))∧Below w.heap.size w wc∧w.heap.size+1<X)
 case first =>
  go_region_held3 (fun w'=>w'.cell? ⟨w.heap.size,0,none⟩=some (.slice a1 toks.length c1)∧w'.cell? ⟨w.heap.size,1,none⟩=some (.slice (some ⟨b,off,none⟩) nodes.length cap)∧w'.cell? ⟨bk,ok,none⟩=some (.int .i64 k0))
   (first|go_keep|exact p3|exact⟨(bD w3 w2.heap.size _ _ _ _ (by omega)).trans p3.1,(bD w3 w2.heap.size _ _ _ _ (by omega)).trans p3.2.1,(bD w3 w2.heap.size _ _ _ _ (by omega)).trans p3.2.2⟩)
   (first|(go_at_call 67;refine(V8.out _ ?_).mono ?_;(first|exact(Below.refl _ _).drew|exact((Below.refl _ _).alloc (Nat.le_refl _) _).drew);rintro e w3 ⟨rfl,hq3,hb3⟩;have p3:=And.intro (cell_later hq3 r0) (And.intro (cell_later hq3 r1) (cell_later hq3 Z2));try (have Dk:=(hb3.block w2.heap.size (by simp)).trans (heap_alloc_new w2 (.cells #[.int .i64 0,.string ⟨#[]⟩,.string ⟨#[]⟩,.int .i64 0] 136));obtain⟨V9,Wh,Wi,Wj,Wm⟩:=l7 Dk)))
  ·have CW:Below w.heap.size w w3:=bC.trans (hq3.mono bC.size)
   have q0:=(hq3.block w.heap.size (by omega)).trans g0;have q1:=(hq3.block (w.heap.size+1) (by omega)).trans g1;have hz3:=hq3.size;clear r0 r1 X2 Z2 p3;go_wp2_with fail
   go_meet
   exact⟨w3.heap.size,rfl,heap_alloc_new _ _,(Lib.alloc_old w3 _ w.heap.size (by omega)).trans q0,(Lib.alloc_old w3 _ (w.heap.size+1) (by omega)).trans q1,CW.alloc CW.size _,by omega⟩
  ·have CW:Below w.heap.size w w3:=bC.trans (hq3.mono bC.size)
   have q0:=(hq3.block w.heap.size (by omega)).trans g0;have q1:=(hq3.block (w.heap.size+1) (by omega)).trans g1;obtain⟨S3,So,_⟩:=vM Dk (.int .i64 jy.kind) (.string ⟨jy.lead.toArray⟩) (.string ⟨jy.text.toArray⟩) (.int .i64 jy.place)
   have hle:w.heap.size≤w2.heap.size:=by omega
   clear r0 r1 X2 Z2 p3 V9 Wh Wi Wj Wm;go_wp2_with fail
   go_meet
   exact⟨w2.heap.size,rfl,S3,(So w.heap.size (by omega)).trans q0,(So (w.heap.size+1) (by omega)).trans q1,(((CW.setCell hle _).setCell hle _).setCell hle _).setCell hle _,hlt2⟩
 case rest =>
  obtain⟨X,rfl,hX,G0,G1,Ob,hXlt⟩:=hcut
  obtain⟨wy,rfl⟩:∃ wy:World,wy=wc:=⟨_,rfl⟩
  have aa7:=Ob.size;have hXs:=(bG hX).1;clear g0 g1 bC X2 Z2 r0 r1 HK V8 hlt2
  have f2:wy.cell? ⟨X,2,none⟩=some (.string ⟨jy.text.toArray⟩):=by rw[Lib.cell_of_heap hX];rfl
  have f3:wy.cell? ⟨X,3,none⟩=some (.int .i64 jy.place):=by rw[Lib.cell_of_heap hX];rfl
  have r0:wy.cell? ⟨w.heap.size,0,none⟩=some (.slice a1 toks.length c1):=by rw[Lib.cell_of_heap G0];rfl
  have r1:wy.cell? ⟨w.heap.size,1,none⟩=some (.slice (some ⟨b,off,none⟩) nodes.length cap):=by rw[Lib.cell_of_heap G0];rfl
  have HM':=ah ((HM.out 24 jy.place wy (PI.below (Ob.mono hB)) (by omega)).mono fun _ _ h=>h.m);go_wp2_with (go_at_call 180;refine HM'.out.mono ?_);rintro e w8 ⟨am,wn,cm,ae,ce,rfl,hxe,jq⟩;have hz8:=jq.size;have D0:=(jq.block w.heap.size (by omega)).trans G0;have D1:=(jq.block (w.heap.size+1) (by omega)).trans G1;have DX:=(jq.block X hXs).trans hX;have acS:=Ob.trans (jq.mono aa7);clear r0 r1 f2 f3 G0 G1 hX
  have f2:w8.cell? ⟨X,2,none⟩=some (.string ⟨jy.text.toArray⟩):=by rw[Lib.cell_of_heap DX];rfl
  have f2':∀ o,(w8.alloc o).cell? ⟨X,2,none⟩=some (.string ⟨jy.text.toArray⟩):=fun o=>Lib.cell?_alloc_some o f2
  go_upto_region 5 with (fail)
  have r9:=acS.alloc acS.size (.cells #[.int .i64 24,.string ⟨jy.text.toArray⟩,.string ⟨#[]⟩,.bool false,.slice am wn cm,.bool false,.slice ae iP.length ce,.int .i64 jy.place] 46);have N9:=heap_alloc_new w8 (.cells #[.int .i64 24,.string ⟨jy.text.toArray⟩,.string ⟨#[]⟩,.bool false,.slice am wn cm,.bool false,.slice ae iP.length ce,.int .i64 jy.place] 46);have D0:=(Lib.alloc_old w8 (.cells #[.int .i64 24,.string ⟨jy.text.toArray⟩,.string ⟨#[]⟩,.bool false,.slice am wn cm,.bool false,.slice ae iP.length ce,.int .i64 jy.place] 46) _ (bG D0).1).trans D0;have D1:=(Lib.alloc_old w8 (.cells #[.int .i64 24,.string ⟨jy.text.toArray⟩,.string ⟨#[]⟩,.bool false,.slice am wn cm,.bool false,.slice ae iP.length ce,.int .i64 jy.place] 46) _ (bG D1).1).trans D1;have DX:=(Lib.alloc_old w8 (.cells #[.int .i64 24,.string ⟨jy.text.toArray⟩,.string ⟨#[]⟩,.bool false,.slice am wn cm,.bool false,.slice ae iP.length ce,.int .i64 jy.place] 46) _ (bG DX).1).trans DX;have TF:kJ XA (fun b=>wy.heap.size≤b∧b<w8.heap.size) (w8.alloc (.cells #[.int .i64 24,.string ⟨jy.text.toArray⟩,.string ⟨#[]⟩,.bool false,.slice am wn cm,.bool false,.slice ae iP.length ce,.int .i64 jy.place] 46)) (.slice am wn cm) (.slice ae iP.length ce) (.mk 24 [] [] 0 [] false iP jy.place):=(hxe.imp (fun b hb hlt=>(⟨hb,hlt⟩:wy.heap.size≤b∧b<w8.heap.size))).frame ⟨by simp,fun b _ hb=>Lib.alloc_old _ _ _ hb⟩
  have hs9:(w8.alloc (.cells #[.int .i64 24,.string ⟨jy.text.toArray⟩,.string ⟨#[]⟩,.bool false,.slice am wn cm,.bool false,.slice ae iP.length ce,.int .i64 jy.place] 46)).heap.size=w8.heap.size+1:=by simp
  clear f2 f2' hxe jq;generalize w8.alloc _=w9 at D0 D1 DX N9 r9 TF hs9 ⊢;have k1c:=cell_later r9 HZ1.out
  have r0:w9.cell? ⟨w.heap.size,0,none⟩=some (.slice a1 toks.length c1):=by rw[Lib.cell_of_heap D0];rfl
  have r1:w9.cell? ⟨w.heap.size,1,none⟩=some (.slice (some ⟨b,off,none⟩) nodes.length cap):=by rw[Lib.cell_of_heap D0];rfl
  have TG:=HX.out w9.drew (PI.below ((r9.mono hB).drew)) (show B≤w9.heap.size by omega)
  go_still_tail 4,(by kernel_rfl)
  change wpList _ _ _ _ _ w9.drew;clear HX
  rcases HQ.out with ⟨hq1,rfl,rfl⟩|⟨hq1,rfl,rfl⟩
  ·have HY':=HY.out hq1
   obtain⟨hz2,hp2⟩:=HZ2.out hq1;subst hq1;have XQ:=ah (show Calls Tryz.prog 110 #[.agg #[.slice a1 toks.length c1,.slice (some ⟨b,off,none⟩) nodes.length cap],.int .i64 k1] w9.drew fun e w'=>e=.returned (.string ⟨#[46]⟩)∧Below w9.drew.heap.size w9.drew w' from TG);have HY2:=ah HY';have HZ3:=ah hz2
   have afB:(2:Int)<(ks.length:Int):=by omega
   clear TG HY' hz2 HY HZ2 HQ;go_wp2_with (go_at_call 110;refine XQ.out.mono ?_);rintro e jT ⟨rfl,oL⟩;have aa8:w9.heap.size≤jT.heap.size:=oL.size;have lG:Below w9.heap.size w9 jT:=(Below.refl w9.heap.size w9).drew.trans oL;have E0:=(lG.block w.heap.size (bG D0).1).trans D0;have E1:=(lG.block (w.heap.size+1) (bG D1).1).trans D1;have EX:=(lG.block X (bG DX).1).trans DX;have E9:=(lG.block w8.heap.size (by omega)).trans N9;have Gj:=r9.trans (lG.mono r9.size);have Iy:=TF.frame (aQ.of lG);have k2c:=cell_later Gj HZ3.out;clear r0 r1 k1c D0 D1 DX N9 oL lG TF
   have r0:jT.cell? ⟨w.heap.size,0,none⟩=some (.slice a1 toks.length c1):=by rw[Lib.cell_of_heap E0];rfl
   have r1:jT.cell? ⟨w.heap.size,1,none⟩=some (.slice (some ⟨b,off,none⟩) nodes.length cap):=by rw[Lib.cell_of_heap E0];rfl
   have f2:jT.cell? ⟨X,2,none⟩=some (.string ⟨jy.text.toArray⟩):=by rw[Lib.cell_of_heap EX];rfl
   have HY3:=ah (HY2.out jT.drew (PI.below ((Gj.mono hB).drew)) (show B≤jT.heap.size by omega));obtain⟨e1,e2,ez⟩:=tQ E9;have hA:Below w8.heap.size jT jT.drew:=(Below.refl _ _).drew;have hB':Below w8.heap.size jT (jT.drew.setCell ⟨w8.heap.size,2,none⟩ (.string ⟨jy.text.toArray⟩)):=hA.setCell (Nat.le_refl _) _;have E9B:(jT.drew.setCell ⟨w8.heap.size,2,none⟩ (.string ⟨jy.text.toArray⟩)).heap[w8.heap.size]?=some (.cells #[.int .i64 24,.string ⟨jy.text.toArray⟩,.string ⟨jy.text.toArray⟩,.bool false,.slice am wn cm,.bool false,.slice ae iP.length ce,.int .i64 jy.place] 46 (0,0)):=heap_setCell_same jT.drew w8.heap.size 2 _ _ (.string ⟨jy.text.toArray⟩) E9
   have Zd:w.heap.size≤w8.heap.size:=by omega
   have ad4:w8.heap.size<jT.heap.size:=by omega
   have HY4:=ah (fun W (hb:Below w8.heap.size jT W) (hs:jT.heap.size≤W.heap.size)=>(HY2.out W (PI.below ((Gj.trans (hb.mono Zd)).mono hB)) (by omega)).mono (R':=fun e w'=>e=.returned (.string ⟨tk2.text.toArray⟩)∧Below w8.heap.size jT w'∧Below W.heap.size W w') fun e w' h=>⟨h.1,hb.trans (h.2.mono (by omega)),h.2⟩);have p0:=And.intro f2 (And.intro r0 (And.intro r1 k2c))
   go_upto_region 6 with (fail)
   go_cut [] (fun wx=>wx.heap[w8.heap.size]?=some (.cells #[.int .i64 24,.string ⟨tk2.text.toArray⟩,.string ⟨jy.text.toArray⟩,.bool false,.slice am wn cm,.bool false,.slice ae iP.length ce,.int .i64 jy.place] 46 (0,0))∧wx.heap[w.heap.size+1]?=some (.cells #[.int .i64 0,.string ⟨#[]⟩,.string ⟨#[]⟩,.bool false,.slice none 0 0,.bool false,.slice none 0 0,.int .i64 0] 46 (0,0))∧kJ XA (fun b=>wy.heap.size≤b∧b<w8.heap.size) wx (.slice am wn cm) (.slice ae iP.length ce) (.mk 24 [] [] 0 [] false iP jy.place)∧Below w.heap.size w wx)
   case first =>
    go_region_held3 (fun w'=>w'.cell? ⟨X,2,none⟩=some (.string ⟨jy.text.toArray⟩)∧w'.cell? ⟨w.heap.size,0,none⟩=some (.slice a1 toks.length c1)∧w'.cell? ⟨w.heap.size,1,none⟩=some (.slice (some ⟨b,off,none⟩) nodes.length cap)∧w'.cell? ⟨bk,ok+2,none⟩=some (.int .i64 k2))
     (first|go_keep|exact p6|exact⟨(dP jT.drew w8.heap.size _ _ (by omega)).trans p0.1,(dP jT.drew w8.heap.size _ _ (by omega)).trans p0.2.1,(dP jT.drew w8.heap.size _ _ (by omega)).trans p0.2.2.1,(dP jT.drew w8.heap.size _ _ (by omega)).trans p0.2.2.2⟩|exact⟨(dP sW w8.heap.size _ _ (by omega)).trans p6.1,(dP sW w8.heap.size _ _ (by omega)).trans p6.2.1,(dP sW w8.heap.size _ _ (by omega)).trans p6.2.2.1,(dP sW w8.heap.size _ _ (by omega)).trans p6.2.2.2⟩|exact⟨(dP (sW.setCell ⟨w8.heap.size,2,none⟩ (.string ⟨jy.text.toArray⟩)) w8.heap.size _ _ (by omega)).trans ((dP sW w8.heap.size _ _ (by omega)).trans p6.1),(dP (sW.setCell ⟨w8.heap.size,2,none⟩ (.string ⟨jy.text.toArray⟩)) w8.heap.size _ _ (by omega)).trans ((dP sW w8.heap.size _ _ (by omega)).trans p6.2.1),(dP (sW.setCell ⟨w8.heap.size,2,none⟩ (.string ⟨jy.text.toArray⟩)) w8.heap.size _ _ (by omega)).trans ((dP sW w8.heap.size _ _ (by omega)).trans p6.2.2.1),(dP (sW.setCell ⟨w8.heap.size,2,none⟩ (.string ⟨jy.text.toArray⟩)) w8.heap.size _ _ (by omega)).trans ((dP sW w8.heap.size _ _ (by omega)).trans p6.2.2.2)⟩)
     (first
      | (go_at_call 110;(with_reducible refine(HY4.out jT.drew hA (Nat.le_refl _)).mono ?_);rintro e sW ⟨rfl,hq11,aa9⟩;have p6:=And.intro ((hq11.cell (p:=⟨X,2,none⟩) (show X<w8.heap.size by omega)).trans p0.1) (And.intro ((hq11.cell (p:=⟨w.heap.size,0,none⟩) (show w.heap.size<w8.heap.size by omega)).trans p0.2.1) (And.intro ((hq11.cell (p:=⟨w.heap.size,1,none⟩) (show w.heap.size<w8.heap.size by omega)).trans p0.2.2.1) ((hq11.cell (p:=⟨bk,ok+2,none⟩) (show bk<w8.heap.size by omega)).trans p0.2.2.2)));have E11:=(aa9.block w8.heap.size ad4).trans E9;obtain⟨x1,x2,xz⟩:=tQ E11)
      | (go_at_call 110;(with_reducible refine(HY4.out (jT.drew.setCell ⟨w8.heap.size,2,none⟩ (.string ⟨jy.text.toArray⟩)) hB' (by simp)).mono ?_);rintro e sW ⟨rfl,hq11,aa9⟩;have p6:=And.intro ((hq11.cell (p:=⟨X,2,none⟩) (show X<w8.heap.size by omega)).trans p0.1) (And.intro ((hq11.cell (p:=⟨w.heap.size,0,none⟩) (show w.heap.size<w8.heap.size by omega)).trans p0.2.1) (And.intro ((hq11.cell (p:=⟨w.heap.size,1,none⟩) (show w.heap.size<w8.heap.size by omega)).trans p0.2.2.1) ((hq11.cell (p:=⟨bk,ok+2,none⟩) (show bk<w8.heap.size by omega)).trans p0.2.2.2)));have E11:=(aa9.block w8.heap.size (by simp;omega)).trans E9B;obtain⟨x1,x2,xz⟩:=tQ E11))
    have h1:=heap_setCell_same sW w8.heap.size 2 _ _ (.string ⟨jy.text.toArray⟩) E11;have h2:=heap_setCell_same _ w8.heap.size 1 _ _ (.string ⟨tk2.text.toArray⟩) h1
    have h3:((sW.setCell ⟨w8.heap.size,2,none⟩ (.string ⟨jy.text.toArray⟩)).setCell ⟨w8.heap.size,1,none⟩ (.string ⟨tk2.text.toArray⟩)).heap[w.heap.size+1]?=some (.cells #[.int .i64 0,.string ⟨#[]⟩,.string ⟨#[]⟩,.bool false,.slice none 0 0,.bool false,.slice none 0 0,.int .i64 0] 46 (0,0)):=by
     rw[heap_setCell_other _ _ _ _ (by show w.heap.size+1≠w8.heap.size;omega),heap_setCell_other _ _ _ _ (by show w.heap.size+1≠w8.heap.size;omega),hq11.block (w.heap.size+1) (by omega)];exact E1
    have h4:=((Iy.frame (aQ.sQ hq11 fun b hb=>by omega)).frame (aQ.set (a:=⟨w8.heap.size,2,none⟩) (.string ⟨jy.text.toArray⟩) fun b hb=>by show b≠w8.heap.size;omega)).frame (aQ.set (a:=⟨w8.heap.size,1,none⟩) (.string ⟨tk2.text.toArray⟩) fun b hb=>by show b≠w8.heap.size;omega);have h5:=((Gj.trans (hq11.mono Zd)).setCell (p:=⟨w8.heap.size,2,none⟩) Zd (.string ⟨jy.text.toArray⟩)).setCell (p:=⟨w8.heap.size,1,none⟩) Zd (.string ⟨tk2.text.toArray⟩);go_wp2_with fail
    go_meet
    exact⟨h2,h3,h4,h5⟩
   case rest =>
    obtain⟨F9,F1,ad5,acT⟩:=hcut;clear r0 r1 f2 k2c p0 e1 e2 ez E9 E1 E0 EX E9B hA hB' HY4 HY2 HY3 Iy
    have b0:wc.cell? ⟨w8.heap.size,0,none⟩=some (.int .i64 24):=by rw[Lib.cell_of_heap F9];rfl
    have b1:wc.cell? ⟨w8.heap.size,1,none⟩=some (.string ⟨tk2.text.toArray⟩):=by rw[Lib.cell_of_heap F9];rfl
    have b2:wc.cell? ⟨w8.heap.size,2,none⟩=some (.string ⟨jy.text.toArray⟩):=by rw[Lib.cell_of_heap F9];rfl
    have b3:wc.cell? ⟨w8.heap.size,3,none⟩=some (.bool false):=by rw[Lib.cell_of_heap F9];rfl
    have b4:wc.cell? ⟨w8.heap.size,4,none⟩=some (.slice am wn cm):=by rw[Lib.cell_of_heap F9];rfl
    have b5:wc.cell? ⟨w8.heap.size,5,none⟩=some (.bool false):=by rw[Lib.cell_of_heap F9];rfl
    have b6:wc.cell? ⟨w8.heap.size,6,none⟩=some (.slice ae iP.length ce):=by rw[Lib.cell_of_heap F9];rfl
    have b7:wc.cell? ⟨w8.heap.size,7,none⟩=some (.int .i64 jy.place):=by rw[Lib.cell_of_heap F9];rfl
    have d0:wc.cell? ⟨w.heap.size+1,0,none⟩=some (.int .i64 0):=by rw[Lib.cell_of_heap F1];rfl
    have d1:wc.cell? ⟨w.heap.size+1,1,none⟩=some (.string ⟨#[]⟩):=by rw[Lib.cell_of_heap F1];rfl
    have d2:wc.cell? ⟨w.heap.size+1,2,none⟩=some (.string ⟨#[]⟩):=by rw[Lib.cell_of_heap F1];rfl
    have d3:wc.cell? ⟨w.heap.size+1,3,none⟩=some (.bool false):=by rw[Lib.cell_of_heap F1];rfl
    have d4:wc.cell? ⟨w.heap.size+1,4,none⟩=some (.slice none 0 0):=by rw[Lib.cell_of_heap F1];rfl
    have d5:wc.cell? ⟨w.heap.size+1,5,none⟩=some (.bool false):=by rw[Lib.cell_of_heap F1];rfl
    have d6:wc.cell? ⟨w.heap.size+1,6,none⟩=some (.slice none 0 0):=by rw[Lib.cell_of_heap F1];rfl
    have d7:wc.cell? ⟨w.heap.size+1,7,none⟩=some (.int .i64 0):=by rw[Lib.cell_of_heap F1];rfl
    have dz:∀ j,wc.frozen? ⟨w.heap.size+1,j,none⟩=false:=by intro j;simp[World.frozen?,F1]
    go_wp2
    have hE:kJ XA (fun b=>w.heap.size≤b) (Rb wc (w.heap.size+1) (.int .i64 24) (.string ⟨tk2.text.toArray⟩) (.string ⟨jy.text.toArray⟩) (.bool false) (.slice am wn cm) (.bool false) (.slice ae iP.length ce) (.int .i64 jy.place)) (.slice am wn cm) (.slice ae iP.length ce) (.mk 24 tk2.text jy.text 0 [] false iP jy.place) :=
     ((ad5.frame (tq _ _ (w.heap.size+1) _ _ _ _ _ _ _ _ fun k hk=>by omega)).imp fun b hb _=>by omega).rename
    refine bodyPost_ret (v:=.agg #[.int .i64 24,.string ⟨tk2.text.toArray⟩,.string ⟨jy.text.toArray⟩,.bool false,.slice am wn cm,.bool false,.slice ae iP.length ce,.int .i64 jy.place]) (by simp[results,Tryz.results179,go_sem,d0,d1,d2,d3,d4,d5,d6,d7]) rfl ?_;exact⟨_,_,rfl,hE,jc acT (by omega) _ _ _ _ _ _ _ _⟩
  ·subst hq1
   have XQ:=ah (show Calls Tryz.prog 110 #[.agg #[.slice a1 toks.length c1,.slice (some ⟨b,off,none⟩) nodes.length cap],.int .i64 k1] w9.drew fun e w'=>e=.returned (.string ⟨#[40]⟩)∧Below w9.drew.heap.size w9.drew w' from TG);clear TG HY HZ2 HQ;go_wp2_with (go_at_call 110;refine XQ.out.mono ?_);rintro e jT ⟨rfl,oL⟩;have aa8:w9.heap.size≤jT.heap.size:=oL.size;have lG:Below w9.heap.size w9 jT:=(Below.refl w9.heap.size w9).drew.trans oL;have E1:=(lG.block (w.heap.size+1) (bG D1).1).trans D1;have E9:=(lG.block w8.heap.size (by omega)).trans N9;have Gj:=r9.trans (lG.mono r9.size);have Iy:=TF.frame (aQ.of lG);clear r0 r1 k1c D0 D1 DX N9 oL lG TF
   have b0:jT.cell? ⟨w8.heap.size,0,none⟩=some (.int .i64 24):=by rw[Lib.cell_of_heap E9];rfl
   have b1:jT.cell? ⟨w8.heap.size,1,none⟩=some (.string ⟨jy.text.toArray⟩):=by rw[Lib.cell_of_heap E9];rfl
   have b2:jT.cell? ⟨w8.heap.size,2,none⟩=some (.string ⟨#[]⟩):=by rw[Lib.cell_of_heap E9];rfl
   have b3:jT.cell? ⟨w8.heap.size,3,none⟩=some (.bool false):=by rw[Lib.cell_of_heap E9];rfl
   have b4:jT.cell? ⟨w8.heap.size,4,none⟩=some (.slice am wn cm):=by rw[Lib.cell_of_heap E9];rfl
   have b5:jT.cell? ⟨w8.heap.size,5,none⟩=some (.bool false):=by rw[Lib.cell_of_heap E9];rfl
   have b6:jT.cell? ⟨w8.heap.size,6,none⟩=some (.slice ae iP.length ce):=by rw[Lib.cell_of_heap E9];rfl
   have b7:jT.cell? ⟨w8.heap.size,7,none⟩=some (.int .i64 jy.place):=by rw[Lib.cell_of_heap E9];rfl
   have d0:jT.cell? ⟨w.heap.size+1,0,none⟩=some (.int .i64 0):=by rw[Lib.cell_of_heap E1];rfl
   have d1:jT.cell? ⟨w.heap.size+1,1,none⟩=some (.string ⟨#[]⟩):=by rw[Lib.cell_of_heap E1];rfl
   have d2:jT.cell? ⟨w.heap.size+1,2,none⟩=some (.string ⟨#[]⟩):=by rw[Lib.cell_of_heap E1];rfl
   have d3:jT.cell? ⟨w.heap.size+1,3,none⟩=some (.bool false):=by rw[Lib.cell_of_heap E1];rfl
   have d4:jT.cell? ⟨w.heap.size+1,4,none⟩=some (.slice none 0 0):=by rw[Lib.cell_of_heap E1];rfl
   have d5:jT.cell? ⟨w.heap.size+1,5,none⟩=some (.bool false):=by rw[Lib.cell_of_heap E1];rfl
   have d6:jT.cell? ⟨w.heap.size+1,6,none⟩=some (.slice none 0 0):=by rw[Lib.cell_of_heap E1];rfl
   have d7:jT.cell? ⟨w.heap.size+1,7,none⟩=some (.int .i64 0):=by rw[Lib.cell_of_heap E1];rfl
   have dz:∀ j,jT.frozen? ⟨w.heap.size+1,j,none⟩=false:=by intro j;simp[World.frozen?,E1]
   go_wp2
   have hE:kJ XA (fun b=>w.heap.size≤b) (Rb jT (w.heap.size+1) (.int .i64 24) (.string ⟨jy.text.toArray⟩) (.string ⟨#[]⟩) (.bool false) (.slice am wn cm) (.bool false) (.slice ae iP.length ce) (.int .i64 jy.place)) (.slice am wn cm) (.slice ae iP.length ce) (.mk 24 jy.text [] 0 [] false iP jy.place) :=
    ((Iy.frame (tq _ _ (w.heap.size+1) _ _ _ _ _ _ _ _ fun k hk=>by omega)).imp fun b hb _=>by omega).rename
   refine bodyPost_ret (v:=.agg #[.int .i64 24,.string ⟨jy.text.toArray⟩,.string ⟨#[]⟩,.bool false,.slice am wn cm,.bool false,.slice ae iP.length ce,.int .i64 jy.place]) (by simp[results,Tryz.results179,go_sem,d0,d1,d2,d3,d4,d5,d6,d7]) rfl ?_;exact⟨_,_,rfl,hE,jc Gj (by omega) _ _ _ _ _ _ _ _⟩
def oM:Option CE→PT
 | none=>.leaf
 | some e=>e.pt
def gJ:List (Option CE)→Nat→List (CE × Nat)
 | [],_=>[]
 | none :: l,u=>gJ l (u+1)
 | some e :: l,u=>(e,u) :: gJ l (u+e.pt.lv)
theorem zx {nodes:List Nd}{n:Int}{u:Nat}{t:PT}(h:lM nodes n u t):0≤n∧n<(nodes.length:Int):=by
 cases t with
 | leaf=>rw[lM] at h;have:=(mR h.2).1;omega
 | node k l=>rw[lM] at h;obtain⟨ks,h0,h1,_⟩:=h;have:=(mR h1).1;omega
theorem PV {nodes:List Nd}:∀ {l:List PT} {ks:List Int} {u:Nat},dW nodes ks u l→∀ k∈ks,0≤k∧k<(nodes.length:Int)
 | [],ks,u,h=>by rw[dW] at h;subst h;intro k hk;cases hk
 | t :: l,ks,u,h=>by
  rw[dW] at h;obtain⟨k,ks',rfl,h1,h2⟩:=h;intro x hx
  rcases List.mem_cons.1 hx with rfl|hx
  ·exact zx h1
  ·exact PV h2 x hx
theorem tT {nodes:List Nd}:∀ (its:List (Option CE)) (ks:List Int) (u:Nat),dW nodes ks u (its.map oM) →
  (fG nodes ks).length=(gJ its u).length∧∀ (j:Nat) (h1:j<(fG nodes ks).length) (h2:j<(gJ its u).length),lM nodes (fG nodes ks)[j] (gJ its u)[j].2 (gJ its u)[j].1.pt
 | [],ks,u,h=>by
  simp only[List.map_nil,dW] at h;subst h;exact⟨rfl,fun j h1=>absurd h1 (by simp[fG])⟩
 | none :: its,ks,u,h=>by
  simp only[List.map_cons,dW,oM] at h;obtain⟨k,ks',rfl,h1,h2⟩:=h;rw[PT.lv] at h2;have ih:=tT its ks' (u+1) h2;simp only[Ml h1,gJ];exact ih
 | some e :: its,ks,u,h=>by
  simp only[List.map_cons,dW,oM] at h;obtain⟨k,ks',rfl,h1,h2⟩:=h;have ih:=tT its ks' _ h2;simp only[Mq h1,gJ];refine⟨by simp[ih.1],fun j h3 h4=>?_⟩
  cases j with
  | zero=>exact h1
  | succ j=>exact ih.2 j (by simpa using h3) (by simpa using h4)
theorem CE.abb (e:CE):0<e.pt.lv:=by
 cases e with
 | call q l=>rw[CE.pt,PT.lv,iw];simp[bB,PT.lv]
 | num=>simp[CE.pt,PT.lv,bB]
 | truth=>simp[CE.pt,PT.lv,bB]
 | res=>simp[CE.pt,PT.lv,bB]
 | Jh=>simp[CE.pt,PT.lv,bB]
 | group e=>simp[CE.pt,PT.lv,bB];omega
 | un e=>simp[CE.pt,PT.lv,bB];omega
 | bin a b=>simp[CE.pt,PT.lv,bB];omega
 | iff a b c=>simp[CE.pt,PT.lv,bB];omega
 | pG a b=>simp[CE.pt,PT.lv,bB];omega
 | pI a b=>simp[CE.pt,PT.lv,bB];omega
theorem zy:∀ (its:List (Option CE)),its.length≤bB (its.map oM)
 | []=>Nat.le_refl _
 | none :: its=>by have:=zy its;simp only[List.map_cons,bB,oM,PT.lv,eG];omega
 | some e :: its=>by have:=zy its;have:=e.abb;simp only[List.map_cons,bB,oM,eG];omega
structure Dl where
 B:Nat
 tv:Value
 nv:Value
 toks:List Tok
 nodes:List Nd
 cl:Bool
structure Dl.ok (E:Dl):Prop where
 len:E.toks.length≤1000000
 nums:∀ u,u<E.toks.length→fZ E.toks u=3→∀ W,Calls Tryz.prog 181 #[.string ⟨(aI E.toks u).toArray⟩] W (UL (iJ (aI E.toks u)) W)
def Dl.At (E:Dl)(W:World):Prop:=aN E.B W (.agg #[E.tv,E.nv]) E.toks E.nodes∧E.B≤W.heap.size
def Dl.reads (E:Dl)(e:CE)(u:Nat):Prop:=∀ (i:Nat) (W:World),lM E.nodes i u e.pt→E.At W→Calls Tryz.prog 113 #[.agg #[E.tv,E.nv],.int .i64 i] W (EPost XA (e.pe E.toks u) W)
theorem ko (E:Dl)(its:List (Option CE))(ks:List Int)(u i:Nat)(k:Int)(hn:E.nodes[i]?=some ⟨k,-1,ks⟩)(hr:dW E.nodes ks u (its.map oM))(hlen:ks.length≤1000000000)(hsub:∀ p∈gJ its u,E.reads p.1 p.2)
  (op at_:Nat) (W:World) (hT:aN E.B W (.agg #[E.tv,E.nv]) E.toks E.nodes) (hB:E.B≤W.heap.size) :
  Calls Tryz.prog 180 #[.agg #[E.tv,E.nv],.int .i64 op,.int .i64 at_,.int .i64 i] W (EPost XA (.mk op [] [] 0 [] false ((gJ its u).map fun p=>p.1.pe E.toks p.2) at_) W):=by
 obtain⟨hi,hni⟩:=mR hn;obtain⟨p1,p2⟩:=tT its ks u hr;refine Q9 E.B E.tv E.nv E.toks E.nodes i op at_ W hT hB hi (by rw[hni];exact PV hr) (by rw[hni];exact hlen) _ (by rw[hni];simp[p1]) ?_;rw[hni];intro j h1 h2 W' hT' hB'
 have h3:j<(gJ its u).length:=by simpa using h1
 have hrep:=p2 j h2 h3;have hx:=hsub _ (List.getElem_mem h3);have hk:=zx hrep;simp only[List.getElem_map]
 obtain⟨m,hm⟩:∃ m:Nat,(fG E.nodes ks)[j]=(m:Int):=⟨((fG E.nodes ks)[j]).toNat,by omega⟩
 rw[hm] at hrep ⊢;exact hx m W' hrep ⟨hT',hB'⟩
theorem iV {toks:List Tok}{u:Nat}(h:u<toks.length):toks[u]?=some (bP toks u):=by
 rw[bP,Nat.min_eq_left (by omega),List.getD_eq_getElem?_getD,List.getElem?_eq_getElem h,Option.getD_some]
theorem bE {nodes:List Nd}{ks:List Int}{u:Nat}{l:List PT}(h:dW nodes ks u (.leaf :: l)):∃ (k:Nat) (ks':List Int),ks=(k:Int) :: ks'∧nodes[k]?=some ⟨19,(u:Nat),[]⟩∧dW nodes ks' (u+1) l:=by
 rw[dW] at h;obtain⟨k,ks',rfl,h1,h2⟩:=h;obtain⟨i,rfl,hi⟩:=h1.MK;exact⟨i,ks',rfl,hi,h2⟩
theorem Dm {nodes:List Nd}{ks:List Int}{u:Nat}{t:PT}{l:List PT}(h:dW nodes ks u (t :: l)):∃ (k:Nat) (ks':List Int),ks=(k:Int) :: ks'∧lM nodes k u t∧dW nodes ks' (u+t.lv) l:=by
 rw[dW] at h;obtain⟨k,ks',rfl,h1,h2⟩:=h;have:=zx h1;exact⟨k.toNat,ks',by rw[Int.toNat_of_nonneg this.1],by rw[Int.toNat_of_nonneg this.1];exact h1,h2⟩
def gY:List CE→List (Option CE)
 | []=>[]
 | e :: l=>some e :: (match l with | []=>[]|_ :: _=>none :: gY l)
theorem tV (e f:CE)(l:List CE):gY (e :: f :: l)=some e :: none :: gY (f :: l):=by
 conv=>lhs;rw[gY]
theorem ou:∀ l:List CE,(gY l).map oM=dS l
 | []=>by simp[gY,dS]
 | [e]=>by simp[gY,dS,oM]
 | e :: f :: l=>by
  rw[tV,lK,List.map_cons,List.map_cons,ou (f :: l)]
  rfl
theorem zA (toks:List Tok):∀ (l:List CE) (u:Nat),(gJ (gY l++[none]) u).map (fun p=>p.1.pe toks p.2)=iy toks u l
 | [],u=>by simp[gY,gJ,iy]
 | [e],u=>by simp[gY,gJ,iy]
 | e :: f :: l,u=>by
  rw[tV,List.cons_append,List.cons_append,gJ,gJ,List.map_cons,zA toks (f :: l)]
  conv=>rhs;rw[iy]
theorem IB {E:Dl}:∀ (l:List CE) (u:Nat),mV E.toks E.cl u l→u+bB (dS l)≤E.toks.length→(∀ e∈l,∀ v,e.ok E.toks E.cl v→v+e.pt.lv≤E.toks.length→E.reads e v)→∀ p∈gJ (gY l++[none]) u,E.reads p.1 p.2
 | [],u,_,_,_,p,hp=>by simp[gY,gJ] at hp
 | [e],u,ho,hl,hr,p,hp=>by
  rw[mV] at ho;rw[qR] at hl;simp only[bB] at hl
  have h:p=(e,u):=by simpa [gY,gJ] using hp
  subst h;exact hr e List.mem_cons_self u ho.1 (by omega)
 | e :: f :: l,u,ho,hl,hr,p,hp=>by
  rw[mV] at ho;rw[lK] at hl;simp only[bB,PT.lv] at hl;rw[tV,List.cons_append,List.cons_append,gJ,gJ] at hp
  rcases List.mem_cons.1 hp with rfl|hp
  ·exact hr e List.mem_cons_self u ho.1 (by omega)
  ·exact IB (f :: l) _ ho.2 (by omega) (fun x hx=>hr x (List.mem_cons_of_mem _ hx)) p hp
theorem dN {nodes:List Nd}{i:Nat}{u k:Nat}{l:List PT}(h:lM nodes i u (.node k l)):∃ ks,nodes[i]?=some ⟨(k:Nat),-1,ks⟩∧dW nodes ks u l:=by
 rw[lM] at h;obtain⟨ks,_,h1,h2⟩:=h;rw[Int.toNat_natCast] at h1;exact⟨ks,h1,h2⟩
theorem ow {E:Dl}(hE:E.ok){ks:List Int}{u:Nat}{its:List (Option CE)}(h:dW E.nodes ks u (its.map oM))(hl:bB (its.map oM)≤E.toks.length):ks.length≤1000000000:=by
 have h1:=(wO h).1;have h2:=zy its;have h3:=hE.len;rw[List.length_map] at h1;omega
theorem eF (E:Dl){i k0 u:Nat}{kd:Int}{ks:List Int}{W:World}{x:PE}(hAt:E.At W)(hn:E.nodes[i]?=some ⟨kd,-1,(k0:Int) :: ks⟩)(h0:E.nodes[k0]?=some ⟨19,(u:Nat),[]⟩)(hu:u<E.toks.length)(hx:oq E.B E.tv E.nv E.toks E.nodes i ((k0:Int) :: ks) (bP E.toks u) kd x) :
  Calls Tryz.prog 113 #[.agg #[E.tv,E.nv],.int .i64 i] W (EPost XA x W) :=
 Gh E.B E.tv E.nv E.toks E.nodes i kd _ W hAt.1 hAt.2 hn k0 rfl _ _ h0 (.inl ⟨u,rfl,iV hu⟩) x hx
theorem Wo {B:Nat}{tv nv:Value}{toks:List Tok}{nodes:List Nd}{k u:Nat}{W:World}(hT:aN B W (.agg #[tv,nv]) toks nodes)(hB:B≤W.heap.size)(h:nodes[k]?=some ⟨19,(u:Nat),[]⟩)(hu:u<toks.length) :
  Calls Tryz.prog 110 #[.agg #[tv,nv],.int .i64 k] W fun e w'=>e=.returned (.string ⟨(aI toks u).toArray⟩)∧Below W.heap.size W w':=by
 have h1:=uq B tv nv toks nodes k u W hT hB h hu;have e:=iV hu;rw[List.getElem?_eq_getElem hu] at e;rw[Option.some.inj e] at h1;exact h1
theorem dG (E:Dl)(hE:E.ok):∀ (n:Nat) (e:CE) (u:Nat),SizeOf.sizeOf e<n→e.ok E.toks E.cl u→u+e.pt.lv≤E.toks.length→E.reads e u
 | 0,e,u,h,_,_=>absurd h (by omega)
 | n+1,.num,u,_,ho,hl=>by
  intro i W hrep hAt;rw[CE.ok] at ho;rw[CE.pt] at hrep hl;simp only[PT.lv,bB] at hl;obtain⟨ks,hn,hr⟩:=dN hrep;obtain⟨k0,ks',rfl,h0,_⟩:=bE hr;rw[CE.pe];exact eF E hAt hn h0 (by omega) (.num _ _ (hE.nums u (by omega) ho))
 | n+1,.truth,u,_,ho,hl=>by
  intro i W hrep hAt;rw[CE.ok] at ho;rw[CE.pt] at hrep hl;simp only[PT.lv,bB] at hl;obtain⟨ks,hn,hr⟩:=dN hrep;obtain⟨k0,ks',rfl,h0,_⟩:=bE hr;rw[CE.pe]
  rcases ho with ho|ho
  ·rw[decide_eq_true ho]
   exact eF E hAt hn h0 (by omega) (.tru ho)
  ·rw[decide_eq_false (by rw[ho];decide)]
   exact eF E hAt hn h0 (by omega) (.fls ho)
 | n+1,.res,u,_,ho,hl=>by
  intro i W hrep hAt;rw[CE.pt] at hrep hl;simp only[PT.lv,bB] at hl;obtain⟨ks,hn,hr⟩:=dN hrep;obtain⟨k0,ks',rfl,h0,_⟩:=bE hr;rw[CE.pe];exact eF E hAt hn h0 (by omega) .res
 | n+1,.Jh,u,_,ho,hl=>by
  intro i W hrep hAt;rw[CE.pt] at hrep hl;simp only[PT.lv,bB] at hl;obtain⟨ks,hn,hr⟩:=dN hrep;obtain⟨k0,ks',rfl,h0,_⟩:=bE hr;rw[CE.pe];exact eF E hAt hn h0 (by omega) .Jh
 | n+1,.group e,u,hs,ho,hl=>by
  intro i W hrep hAt;rw[CE.ok] at ho;rw[CE.pt] at hrep hl;simp only[PT.lv,bB] at hl;simp only[CE.group.sizeOf_spec] at hs;obtain⟨ks,hn,hr⟩:=dN hrep;obtain⟨k0,ks',rfl,h0,hr⟩:=bE hr;obtain⟨k1,ks',rfl,h1,_⟩:=Dm hr;rw[CE.pe];exact eF E hAt hn h0 (by omega) (.group k1 _ rfl (fun W hT hB=>dG E hE n e (u+1) (by omega) ho.2 (by omega) k1 W h1 ⟨hT,hB⟩))
 | n+1,.un e,u,hs,ho,hl=>by
  intro i W hrep hAt;rw[CE.ok] at ho;rw[CE.pt] at hrep hl;simp only[PT.lv,bB] at hl;simp only[CE.un.sizeOf_spec] at hs;obtain⟨ks,hn,hr⟩:=dN hrep
  have hM:=ko E [none,some e] ks u i _ hn hr (ow hE (its:=[none,some e]) hr (by simp only[List.map_cons,List.map_nil,oM,bB,PT.lv];omega)) (fun p hp=>by
   have h:p=(e,u+1):=by simpa [gJ] using hp
   subst h
   exact dG E hE n e (u+1) (by omega) ho.2 (by omega))
  obtain⟨k0,ks',rfl,h0,_⟩:=bE hr;rw[CE.pe]
  rcases ho.1 with h|h
  ·rw[if_pos h]
   exact eF E hAt hn h0 (by omega) (.not _ h fun op at_ W hT hB=>hM op at_ W hT hB)
  ·rw[if_neg (by rw[h];decide)]
   exact eF E hAt hn h0 (by omega) (.neg _ h fun op at_ W hT hB=>hM op at_ W hT hB)
 | n+1,.bin a b,u,hs,ho,hl=>by
  intro i W hrep hAt;rw[CE.ok] at ho;rw[CE.pt] at hrep hl;simp only[PT.lv,bB] at hl;simp only[CE.bin.sizeOf_spec] at hs;obtain⟨ks,hn,hr⟩:=dN hrep
  have hM:=ko E [some a,none,some b] ks u i _ hn hr (ow hE (its:=[some a,none,some b]) hr (by simp only[List.map_cons,List.map_nil,oM,bB,PT.lv];omega)) (fun p hp=>by
   have h:p=(a,u)∨p=(b,u+a.pt.lv+1):=by simpa [gJ] using hp
   rcases h with rfl|rfl
   ·exact dG E hE n a u (by omega) ho.2.1 (by omega)
   ·exact dG E hE n b _ (by omega) ho.2.2 (by omega))
  obtain⟨k0,ks',rfl,h0,hr⟩:=Dm hr;obtain⟨k1,ks',rfl,h1,_⟩:=bE hr;obtain⟨c,la,ea,c1,c2⟩:=a.node;rw[ea] at h0;obtain⟨ksa,hna,_⟩:=dN h0;rw[CE.pe];refine Gh E.B E.tv E.nv E.toks E.nodes i _ _ W hAt.1 hAt.2 hn k0 rfl _ _ hna (.inr ⟨by simp only;omega,rfl⟩) _ (.bin _ fun W' hT hB=>?_);exact KU _ E.B E.tv E.nv E.toks E.nodes i _ W' hT hB hn k1 (u+a.pt.lv) rfl h1 _ (iV (by omega)) ho.1 hM
 | n+1,.iff a b c,u,hs,ho,hl=>by
  intro i W hrep hAt;rw[CE.ok] at ho;rw[CE.pt] at hrep hl;simp only[PT.lv,bB] at hl;simp only[CE.iff.sizeOf_spec] at hs;obtain⟨ks,hn,hr⟩:=dN hrep
  have hM:=ko E [none,some a,none,some b,none,some c] ks u i _ hn hr (ow hE (its:=[none,some a,none,some b,none,some c]) hr (by simp only[List.map_cons,List.map_nil,oM,bB,PT.lv];omega)) (fun p hp=>by
   have h:p=(a,u+1)∨p=(b,u+1+a.pt.lv+1)∨p=(c,u+1+a.pt.lv+1+b.pt.lv+1):=by simpa [gJ] using hp
   rcases h with rfl|rfl|rfl
   ·exact dG E hE n a _ (by omega) ho.2.1 (by omega)
   ·exact dG E hE n b _ (by omega) ho.2.2.1 (by omega)
   ·exact dG E hE n c _ (by omega) ho.2.2.2 (by omega))
  obtain⟨k0,ks',rfl,h0,_⟩:=bE hr;rw[CE.pe];exact eF E hAt hn h0 (by omega) (.iff _ fun op at_ W hT hB=>hM op at_ W hT hB)
 | n+1,.pG a b,u,hs,ho,hl=>by
  intro i W hrep hAt;rw[CE.ok] at ho;rw[CE.pt] at hrep hl;simp only[PT.lv,bB] at hl;simp only[CE.pG.sizeOf_spec] at hs;obtain⟨ks,hn,hr⟩:=dN hrep
  have hM:=ko E [none,none,none,some a,none,some b] ks u i _ hn hr (ow hE (its:=[none,none,none,some a,none,some b]) hr (by simp only[List.map_cons,List.map_nil,oM,bB,PT.lv];omega)) (fun p hp=>by
   have h:p=(a,u+3)∨p=(b,u+3+a.pt.lv+1):=by simpa [gJ] using hp
   rcases h with rfl|rfl
   ·exact dG E hE n a _ (by omega) ho.2.2.1 (by omega)
   ·exact dG E hE n b _ (by omega) ho.2.2.2 (by omega))
  obtain⟨k0,ks',rfl,h0,hr⟩:=bE hr;obtain⟨k1,ks',rfl,h1,_⟩:=bE hr;rw[CE.pe];exact eF E hAt hn h0 (by omega) (.pG _ k1 _ (fun op at_ W hT hB=>hM op at_ W hT hB) rfl fun W hT hB=>Wo hT hB h1 (by omega))
 | n+1,.pI a b,u,hs,ho,hl=>by
  intro i W hrep hAt;rw[CE.ok] at ho;rw[CE.pt] at hrep hl;simp only[PT.lv,bB] at hl;simp only[CE.pI.sizeOf_spec] at hs;obtain⟨ks,hn,hr⟩:=dN hrep
  have hM:=ko E [none,some a,none,some b] ks u i _ hn hr (ow hE (its:=[none,some a,none,some b]) hr (by simp only[List.map_cons,List.map_nil,oM,bB,PT.lv];omega)) (fun p hp=>by
   have h:p=(a,u+1)∨p=(b,u+1+a.pt.lv+1):=by simpa [gJ] using hp
   rcases h with rfl|rfl
   ·exact dG E hE n a _ (by omega) ho.2.1 (by omega)
   ·exact dG E hE n b _ (by omega) ho.2.2 (by omega))
  obtain⟨k0,ks',rfl,h0,_⟩:=bE hr;rw[CE.pe];exact eF E hAt hn h0 (by omega) (.pI _ fun op at_ W hT hB=>hM op at_ W hT hB)
 | n+1,.call q l,u,hs,ho,hl=>by
  intro i W hrep hAt;rw[CE.ok] at ho;rw[CE.pt] at hrep hl;simp only[CE.call.sizeOf_spec] at hs
  have hsz:∀ e∈l,∀ v,e.ok E.toks E.cl v→v+e.pt.lv≤E.toks.length→E.reads e v:=fun e he v h1 h2 =>
   dG E hE n e v (by have:=List.sizeOf_lt_of_mem he;omega) h1 h2
  obtain⟨ks,hn,hr⟩:=dN hrep
  cases q with
  | true =>
   simp only[if_true] at hr hl ho;simp only[PT.lv,iw,bB] at hl
   have hr':dW E.nodes ks u (([none,none,none,none]++(gY l++[none])).map oM):=by
    rw[List.map_append,List.map_append,ou]
    simpa [oM] using hr
   have hM:=ko E ([none,none,none,none]++(gY l++[none])) ks u i _ hn hr' (ow hE hr' (by rw[List.map_append,List.map_append,ou];simp only[List.map_cons,List.map_nil,oM,iw,bB,PT.lv];omega)) (fun p hp=>by
    simp only[List.cons_append,List.nil_append,gJ] at hp
    exact IB l (u+4) ho.2.2.2.2.2 (by omega) hsz p hp)
   simp only[List.cons_append,List.nil_append,gJ] at hM;rw[zA] at hM;obtain⟨k0,ks',rfl,h0,hr⟩:=bE hr;obtain⟨k1,ks',rfl,h1,hr⟩:=bE hr;obtain⟨k2,ks',rfl,h2,hr⟩:=bE hr;rw[CE.pe,if_pos rfl];refine eF E hAt hn h0 (by omega) (.call _ fun W' hT hB=>?_);exact Gi true _ _ _ E.B E.tv E.nv E.toks E.nodes i _ W' hT hB hn k0 u rfl h0 _ (iV (by omega)) k1 (u+1) rfl h1 _ (iV (by omega)) ho.2.2.2.1 k2 (u+2) (fun _=>rfl) (fun _=>h2) _ (fun _=>iV (by omega)) (.inl ⟨rfl,rfl,rfl⟩) hM
  | false =>
   simp only[Bool.false_eq_true,if_false] at hr hl ho;simp only[PT.lv,iw,bB] at hl
   have hr':dW E.nodes ks u (([none,none]++(gY l++[none])).map oM):=by
    rw[List.map_append,List.map_append,ou]
    simpa [oM] using hr
   have hM:=ko E ([none,none]++(gY l++[none])) ks u i _ hn hr' (ow hE hr' (by rw[List.map_append,List.map_append,ou];simp only[List.map_cons,List.map_nil,oM,iw,bB,PT.lv];omega)) (fun p hp=>by
    simp only[List.cons_append,List.nil_append,gJ] at hp
    exact IB l (u+2) ho.2.2.2.2 (by omega) hsz p hp)
   simp only[List.cons_append,List.nil_append,gJ] at hM;rw[zA] at hM;obtain⟨k0,ks',rfl,h0,hr⟩:=bE hr;obtain⟨k1,ks',rfl,h1,hr⟩:=bE hr;rw[CE.pe,if_neg (by decide)];refine eF E hAt hn h0 (by omega) (.call _ fun W' hT hB=>?_);exact Gi false _ _ _ E.B E.tv E.nv E.toks E.nodes i _ W' hT hB hn k0 u rfl h0 _ (iV (by omega)) k1 (u+1) rfl h1 _ (iV (by omega)) ho.2.2.2.1 0 0 (fun q=>by cases q) (fun q=>by cases q) (bP E.toks u) (fun q=>by cases q) (.inr ⟨rfl,rfl,rfl⟩) hM
end Go.Proofs.YtknicmmigbhpcaaGreatDoor
