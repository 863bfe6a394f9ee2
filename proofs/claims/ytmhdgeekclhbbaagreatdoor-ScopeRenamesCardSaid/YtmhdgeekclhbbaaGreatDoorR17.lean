/- Walks and plain laws: ReadW7, ReadW9, ReadW10, ReadW11, RTypedW. -/
import Derived.Test.YtmhdgeekclhbbaaGreatDoorR16
set_option maxHeartbeats 16000000
set_option maxRecDepth 100000
set_option linter.unusedVariables false
set_option linter.unusedSimpArgs false
namespace Go.Proofs.YtmhdgeekclhbbaaGreatDoor
open Go.RowKit Go
def Zn:Array Value:=(qD.map fun x=>Value.string ⟨x.toArray⟩).toArray
def uX (k:Nat):ByteArray:=⟨(qD.getD k []).toArray⟩
theorem KT (w:World):Calls Tryz.prog 235 #[] w fun e w'=>e=.returned (.agg Zn)∧Below w.heap.size w w':=by
 go_enter Tryz.func235,Tryz.ntmps235
 apply wp_seq_k
 intro K0 hK0;have HK:=ay hK0;clear hK0;go_wp2
 apply HK.out
 apply wp_seq_k
 intro K1 hK1
 apply wp_region_lit
 refine wpList_buildTo rfl 276 _ rfl (some 1) rfl Zn (by kernel_rfl) ?_;refine wpList_store_rowTo rfl 276 _ _ rfl rfl w.heap.size Zn rfl rfl 276 _ (aY _ _) (by kernel_rfl) (by decide) (by kernel_rfl) ?_;rw[World.setRow_alloc_new]
 apply wpList_nil
 apply hK1
 go_wp2;refine bodyPost_ret (v:=.agg Zn) (results_cell_row rfl _ _ w.heap.size 276 _ (0,0) _ rfl (aY _ _) Tryz.underlying276 rfl (by kernel_rfl)) rfl ⟨rfl,(bI _ _).alloc (bD _) _⟩
theorem V3:∀ k:Nat,k<14→∀ w:World,(Instr.index 276 (.agg Zn) (.int .i64 k)).run Tryz.prog w=.ok (.string (uX k)) w
 | 0,_=>fun _=>by kernel_rfl
 | 1,_=>fun _=>by kernel_rfl
 | 2,_=>fun _=>by kernel_rfl
 | 3,_=>fun _=>by kernel_rfl
 | 4,_=>fun _=>by kernel_rfl
 | 5,_=>fun _=>by kernel_rfl
 | 6,_=>fun _=>by kernel_rfl
 | 7,_=>fun _=>by kernel_rfl
 | 8,_=>fun _=>by kernel_rfl
 | 9,_=>fun _=>by kernel_rfl
 | 10,_=>fun _=>by kernel_rfl
 | 11,_=>fun _=>by kernel_rfl
 | 12,_=>fun _=>by kernel_rfl
 | 13,_=>fun _=>by kernel_rfl
 | n+14,h=>absurd h (by omega)
theorem V4:∀ j,j<14→∀ k,k<14→qD.getD j []=qD.getD k []→j=k:=by decide
theorem FR (k:Nat):(uX k).toList=qD.getD k []:=by rw[Go.ByteArray.toList_eq];rfl
theorem adz (j k:Nat)(hj:j<14)(hk:k<14)(h:j≠k):((uX j).toList == (uX k).toList)=false:=by
 rw[← Bool.not_eq_true,beq_iff_eq,FR,FR]
 exact fun q=>h (V4 j hj k hk q)
theorem Zo (k:Nat):((uX k).toList == (uX k).toList)=true:=by rw[beq_iff_eq]
theorem abX {x:List UInt8}(h:x∈qD):qD.idxOf x<14∧(ByteArray.mk x.toArray)=uX (qD.idxOf x):=by
 have h1:qD.idxOf x<14:=List.idxOf_lt_length_of_mem h;refine⟨h1,?_⟩;unfold uX
 have h2:qD.getD (qD.idxOf x) []=x:=by
  rw[List.getD_eq_getElem?_getD,yV (List.idxOf_lt_length_of_mem h),Option.getD_some,List.getElem_idxOf]
 rw[h2]
theorem bX (w:World)(b:Nat)(v0 v1 v2 v3:Value){k j:Nat}(h:k≠b):((((w.setCell ⟨b,0,none⟩ v0).setCell ⟨b,1,none⟩ v1).setCell ⟨b,2,none⟩ v2).setCell ⟨b,3,none⟩ v3).cell? ⟨k,j,none⟩=w.cell? ⟨k,j,none⟩:=by
 refine World.cell?_of_block (a:=⟨k,j,none⟩) ?_;show ((((w.setCell ⟨b,0,none⟩ v0).setCell ⟨b,1,none⟩ v1).setCell ⟨b,2,none⟩ v2).setCell ⟨b,3,none⟩ v3).heap[k]?=w.heap[k]?;rw[heap_setCell_other _ _ _ _ h,heap_setCell_other _ _ _ _ h,heap_setCell_other _ _ _ _ h,heap_setCell_other _ _ _ _ h]
theorem oI {w:World}{b:Nat}(h:w.heap[b]?=some (.cells #[.int .i64 0,.string ⟨#[]⟩,.string ⟨#[]⟩,.int .i64 0] 131 (0,0))) :
  w.cell? ⟨b,0,none⟩=some (.int .i64 0)∧w.cell? ⟨b,1,none⟩=some (.string ⟨#[]⟩)∧w.cell? ⟨b,2,none⟩=some (.string ⟨#[]⟩)∧w.cell? ⟨b,3,none⟩=some (.int .i64 0)∧∀ j,w.frozen? ⟨b,j,none⟩=false :=
 ⟨by rw[aV h];rfl,by rw[aV h];rfl,by rw[aV h];rfl,by rw[aV h];rfl,by intro j;simp[World.frozen?,h]⟩
theorem OI (jw:List PE)(B:Nat)(tv nv:Value)(ah:List Tok)(aj:List Nd)(i:Nat)(ks:List Int)(w:World)(h:aZ B w (.agg #[tv,nv]) ah aj)(hB:B≤w.heap.size)(hn:aj[i]?=some ⟨10,-1,ks⟩)
  (k1 u1:Nat) (hq1:ks[1]?=some (k1:Int)) (hl1:aj[k1]?=some ⟨19,(u1:Nat),[]⟩) (tk1:Tok) (Zp:ah[u1]?=some tk1) (htx:tk1.text∈qD)
  (hM:∀ (op at_:Nat) (W:World),aZ B W (.agg #[tv,nv]) ah aj→B≤W.heap.size→Calls Tryz.prog 175 #[.agg #[tv,nv],.int .i64 op,.int .i64 at_,.int .i64 i] W (EPost XA (.mk op [] [] 0 [] false jw at_) W)) :
  Calls Tryz.prog 173 #[.agg #[tv,nv],.int .i64 i] w (EPost XA (.mk (7+qD.idxOf tk1.text) [] [] 0 [] false jw tk1.place) w):=by
 have HM:=ay hM;obtain⟨afg,hmt⟩:=abX htx;obtain⟨hu1,OJ⟩:=pJ Zp;obtain⟨hp1,hp2⟩:=pJ hq1;have HK:=ay (fun W hT hW=>kF B tv nv ah aj k1 u1 W hT hW hl1 hu1);rw[OJ] at HK;unfold pQ dJ at HK;rw[hmt] at HK;generalize qD.idxOf tk1.text=m at afg HK ⊢
 obtain⟨N,hN⟩:∃ N,7+m=N:=⟨_,rfl⟩
 rw[hN];have HN:=ay hN;clear hN;obtain⟨hi,hni⟩:=pJ hn;have HT:=ay h;obtain⟨a1,c1,_,_,e⟩:=h.slices;obtain⟨b,off,cap,kv,rfl,hb,x0,x1,x2,hkv⟩:=h.node hi
 obtain⟨rfl,-⟩:tv=.slice a1 ah.length c1∧_:=by simpa using e
 rw[hni] at hkv;simp only at hkv;obtain⟨ak,ck,rfl,_,xS⟩:=hkv.form;obtain⟨bk,ok,rfl,hbk,hkc⟩:=xS (by omega);have hz:=hkc 1 hp1;rw[hp2] at hz;clear e hkv xS hkc hn hni x0 x1 Zp OJ hq1 hp2 hl1 hM htx hmt;have cB:=((bI w.heap.size w).alloc (bD _) (.cells #[.slice a1 ah.length c1,.slice (some ⟨b,off,none⟩) aj.length cap] 126)).alloc (by simp) (.cells #[.int .i64 0,.string ⟨#[]⟩,.string ⟨#[]⟩,.bool false,.slice none 0 0,.bool false,.slice none 0 0,.int .i64 0] 64);have X2:=iW cB x2;have Z2:=iW cB hz;have g0:=(gY _ (.cells #[.int .i64 0,.string ⟨#[]⟩,.string ⟨#[]⟩,.bool false,.slice none 0 0,.bool false,.slice none 0 0,.int .i64 0] 64) w.heap.size (by simp)).trans (aY w (.cells #[.slice a1 ah.length c1,.slice (some ⟨b,off,none⟩) aj.length cap] 126));have g1:=aY (w.alloc (.cells #[.slice a1 ah.length c1,.slice (some ⟨b,off,none⟩) aj.length cap] 126)) (.cells #[.int .i64 0,.string ⟨#[]⟩,.string ⟨#[]⟩,.bool false,.slice none 0 0,.bool false,.slice none 0 0,.int .i64 0] 64);rw[oP] at g1
 have hiI:(i:Int)<(aj.length:Int):=by omega
 have ady:(1:Int)<(ks.length:Int):=by omega
 have YE:=HT.out;clear h x2 hz;go_enter Tryz.func173,Tryz.ntmps173
 go_upto_region 1 with (fail)
 generalize (w.alloc _).alloc _=w2 at g0 g1 cB X2 Z2 ⊢
 have r0:w2.cell? ⟨w.heap.size,0,none⟩=some (.slice a1 ah.length c1):=by rw[aV g0];rfl
 have r1:w2.cell? ⟨w.heap.size,1,none⟩=some (.slice (some ⟨b,off,none⟩) aj.length cap):=by rw[aV g0];rfl
 have Zq:=ay (fun W (hb:Below w2.heap.size w2 W)=>(HK.out W (YE.below ((cB.trans (hb.mono cB.size)).mono hB)) (by have:=cB.size;have:=hb.size;omega)).mono (R':=fun e w'=>e=.returned (.agg #[.int .i64 tk1.kind,.string ⟨tk1.lead.toArray⟩,.string (uX m),.int .i64 tk1.place])∧Below w2.heap.size w2 w'∧Below W.heap.size W w') fun e w' h=>⟨h.1,hb.trans (h.2.mono hb.size),h.2⟩);have hlt2:w.heap.size+1<w2.heap.size:=(bS g1).1
 go_cut [5] (fun p wc=>∃ X:Nat,p=.pointer (some ⟨X,0,none⟩)∧wc.heap[X]?=some (.cells #[.int .i64 tk1.kind,.string ⟨tk1.lead.toArray⟩,.string (uX m),.int .i64 tk1.place] 131 (0,0))∧wc.heap[w.heap.size]?=some (.cells #[.slice a1 ah.length c1,.slice (some ⟨b,off,none⟩) aj.length cap] 126 (0,0))∧wc.heap[w.heap.size+1]?=some (.cells #[.int .i64 0,.string ⟨#[]⟩,.string ⟨#[]⟩,.bool false,.slice none 0 0,.bool false,.slice none 0 0,.int .i64 0] 64 (0,0))∧Below w.heap.size w wc)
 case first =>
  go_region_held3 (fun w'=>w'.cell? ⟨w.heap.size,0,none⟩=some (.slice a1 ah.length c1)∧w'.cell? ⟨w.heap.size,1,none⟩=some (.slice (some ⟨b,off,none⟩) aj.length cap)∧w'.cell? ⟨b,off+i * 3+2,none⟩=some (.slice (some ⟨bk,ok,none⟩) ks.length ck)∧w'.cell? ⟨bk,ok+1,none⟩=some (.int .i64 k1))
   (first|go_keep|exact p3|exact⟨(bX w3 w2.heap.size _ _ _ _ (by omega)).trans p3.1,(bX w3 w2.heap.size _ _ _ _ (by omega)).trans p3.2.1,(bX w3 w2.heap.size _ _ _ _ (by omega)).trans p3.2.2.1,(bX w3 w2.heap.size _ _ _ _ (by omega)).trans p3.2.2.2⟩)
   (first|(go_at_call 61;refine(Zq.out _ ?_).mono ?_;(first|exact(bI _ _).drew|exact((bI _ _).alloc (bD _) _).drew);rintro e w3 ⟨rfl,hq3,hb3⟩;have p3:=And.intro (iW hq3 r0) (And.intro (iW hq3 r1) (And.intro (iW hq3 X2) (iW hq3 Z2)));try (have FT:=(hb3.block w2.heap.size (by simp)).trans (aY w2 (.cells #[.int .i64 0,.string ⟨#[]⟩,.string ⟨#[]⟩,.int .i64 0] 131));obtain⟨Zr,Zt,Zu,Zv,Zw⟩:=oI FT)))
  ·have zD:Below w.heap.size w w3:=cB.trans (hq3.mono cB.size)
   have q0:=(hq3.block w.heap.size (by omega)).trans g0;have q1:=(hq3.block (w.heap.size+1) (by omega)).trans g1;have hz3:=hq3.size;clear r0 r1 X2 Z2 p3;go_wp2_with fail
   go_meet
   exact⟨w3.heap.size,rfl,aY _ _,(gY w3 _ w.heap.size (by omega)).trans q0,(gY w3 _ (w.heap.size+1) (by omega)).trans q1,zD.alloc zD.size _⟩
  ·have zD:Below w.heap.size w w3:=cB.trans (hq3.mono cB.size)
   have q0:=(hq3.block w.heap.size (by omega)).trans g0;have q1:=(hq3.block (w.heap.size+1) (by omega)).trans g1;obtain⟨S3,So,_⟩:=yH FT (.int .i64 tk1.kind) (.string ⟨tk1.lead.toArray⟩) (.string (uX m)) (.int .i64 tk1.place)
   have hle:w.heap.size≤w2.heap.size:=by omega
   clear r0 r1 X2 Z2 p3 Zr Zt Zu Zv Zw;go_wp2_with fail
   go_meet
   exact⟨w2.heap.size,rfl,S3,(So w.heap.size (by omega)).trans q0,(So (w.heap.size+1) (by omega)).trans q1,(((zD.setCell hle _).setCell hle _).setCell hle _).setCell hle _⟩
 case rest =>
  obtain⟨X,rfl,hX,G0,G1,RP⟩:=hcut;have adA:=RP.size;clear g0 g1 cB X2 Z2 r0 r1 HK Zq hlt2;go_wp2_with (go_at_call 235;refine(KT _).mono ?_;rintro e w5 ⟨rfl,hb5⟩);have SH:=hb5.size;have Y:=(hb5.block X (bS hX).1).trans hX;have Y0:=(hb5.block w.heap.size (bS G0).1).trans G0;have Y1:=(hb5.block (w.heap.size+1) (bS G1).1).trans G1;have OL:=RP.trans (hb5.mono adA);have ahL:w.heap.size+1<w5.heap.size:=(bS Y1).1;have HM':=ay ((HM.out N tk1.place w5 (YE.below (OL.mono hB)) (by omega)).mono fun _ _ h=>h.m);clear hX G0 G1 hb5 RP
  have f2:w5.cell? ⟨X,2,none⟩=some (.string (uX m)):=by rw[aV Y];rfl
  have f3:w5.cell? ⟨X,3,none⟩=some (.int .i64 tk1.place):=by rw[aV Y];rfl
  have r0:w5.cell? ⟨w.heap.size,0,none⟩=some (.slice a1 ah.length c1):=by rw[aV Y0];rfl
  have r1:w5.cell? ⟨w.heap.size,1,none⟩=some (.slice (some ⟨b,off,none⟩) aj.length cap):=by rw[aV Y0];rfl
  go_loop [20] (fun q=>∃ k:Nat,k≤m∧q=.int .i64 k) (fun q=>14 - (intOf q).toNat)
  case atStart=>exact⟨0,lI _,rfl⟩
  case round =>
   obtain⟨k,hk,rfl⟩:=hrel
   have pR:(k:Int)<14:=by omega
   have hx:=V3 k (by omega)
   by_cases hkm:k=m
   ·subst hkm
    have he:=Zo k
    have hop:(7:Int)+(k:Int)=(N:Int):=by have:=HN.out;omega
    go_wp2_with (go_at_call 175;refine HM'.out.mono ?_);rintro e w8 ⟨am,wn,cm,ae,ce,rfl,hxe,mU⟩;have D1:=(mU.block (w.heap.size+1) (by omega)).trans Y1;clear r0 r1 f2 f3 Y Y0 Y1 hop
    have d0:w8.cell? ⟨w.heap.size+1,0,none⟩=some (.int .i64 0):=by rw[aV D1];rfl
    have d1:w8.cell? ⟨w.heap.size+1,1,none⟩=some (.string ⟨#[]⟩):=by rw[aV D1];rfl
    have d2:w8.cell? ⟨w.heap.size+1,2,none⟩=some (.string ⟨#[]⟩):=by rw[aV D1];rfl
    have d3:w8.cell? ⟨w.heap.size+1,3,none⟩=some (.bool false):=by rw[aV D1];rfl
    have d4:w8.cell? ⟨w.heap.size+1,4,none⟩=some (.slice none 0 0):=by rw[aV D1];rfl
    have d5:w8.cell? ⟨w.heap.size+1,5,none⟩=some (.bool false):=by rw[aV D1];rfl
    have d6:w8.cell? ⟨w.heap.size+1,6,none⟩=some (.slice none 0 0):=by rw[aV D1];rfl
    have d7:w8.cell? ⟨w.heap.size+1,7,none⟩=some (.int .i64 0):=by rw[aV D1];rfl
    have dz:∀ j,w8.frozen? ⟨w.heap.size+1,j,none⟩=false:=by intro j;simp[World.frozen?,D1]
    go_wp2;obtain⟨hE,C8⟩:=EPost.store (w0:=w) (b:=w.heap.size+1) hxe mU OL (by omega) (by omega) (.int .i64 N) (.string ⟨#[]⟩) (.string ⟨#[]⟩) (.bool false) (.slice am wn cm) (.bool false) (.slice ae jw.length ce) (.int .i64 tk1.place);refine bodyPost_ret (v:=.agg #[.int .i64 N,.string ⟨#[]⟩,.string ⟨#[]⟩,.bool false,.slice am wn cm,.bool false,.slice ae jw.length ce,.int .i64 tk1.place]) (by simp[results,Tryz.results173,go_sem,d0,d1,d2,d3,d4,d5,d6,d7]) rfl ?_;exact⟨_,_,rfl,hE,C8⟩
   ·have he:=adz k m (by omega) afg hkm
    go_wp2
    go_round
    case rel=>exact⟨k+1,by omega,by go_num⟩
    case measure=>simp[intOf];omega
theorem wF {w:World}{b:Nat}{c0 c1 c2 c3 c4 c5 c6 c7:Value}{T:TypeId}(h:w.heap[b]?=some (.cells #[c0,c1,c2,c3,c4,c5,c6,c7] T (0,0))) :
  w.cell? ⟨b,1,none⟩=some c1∧w.cell? ⟨b,2,none⟩=some c2∧∀ j,w.frozen? ⟨b,j,none⟩=false :=
 ⟨by rw[aV h];rfl,by rw[aV h];rfl,by intro j;simp[World.frozen?,h]⟩
theorem Jp (q:Bool)(nm md:List UInt8)(jw:List PE)(B:Nat)(tv nv:Value)(ah:List Tok)(aj:List Nd)(i:Nat)(ks:List Int)(w:World)(h:aZ B w (.agg #[tv,nv]) ah aj)(hB:B≤w.heap.size)(hn:aj[i]?=some ⟨13,-1,ks⟩)
  (k0 u0:Nat) (hq0:ks[0]?=some (k0:Int)) (hl0:aj[k0]?=some ⟨19,(u0:Nat),[]⟩) (ko:Tok) (afh:ah[u0]?=some ko)
  (k1 u1:Nat) (hq1:ks[1]?=some (k1:Int)) (hl1:aj[k1]?=some ⟨19,(u1:Nat),[]⟩) (tk1:Tok) (Zp:ah[u1]?=some tk1) (htx:tk1.text=if q=true then [46] else [40])
  (k2 u2:Nat) (hq2:q=true→ks[2]?=some (k2:Int)) (hl2:q=true→aj[k2]?=some ⟨19,(u2:Nat),[]⟩) (tk2:Tok) (afi:q=true→ah[u2]?=some tk2)
  (hqq:(q=true∧nm=tk2.text∧md=ko.text)∨(q=false∧nm=ko.text∧md=[]))
  (hM:∀ (op at_:Nat) (W:World),aZ B W (.agg #[tv,nv]) ah aj→B≤W.heap.size→Calls Tryz.prog 175 #[.agg #[tv,nv],.int .i64 op,.int .i64 at_,.int .i64 i] W (EPost XA (.mk op [] [] 0 [] false jw at_) W)) :
  Calls Tryz.prog 174 #[.agg #[tv,nv],.int .i64 i] w (EPost XA (.mk 24 nm md 0 [] false jw ko.place) w):=by
 have HQ:=ay hqq;have HM:=ay hM;obtain⟨hu0,acy⟩:=pJ afh;obtain⟨hu1,OJ⟩:=pJ Zp;obtain⟨hp0,Zx⟩:=pJ hq0;obtain⟨hp1,hp1'⟩:=pJ hq1;have HK:=ay (fun W hT hW=>kF B tv nv ah aj k0 u0 W hT hW hl0 hu0);rw[acy] at HK;unfold pQ dJ at HK;have HX:=ay (fun W hT hW=>wS B tv nv ah aj k1 u1 W hT hW hl1 hu1);rw[OJ,htx] at HX;unfold dJ at HX
 have HY:Hid (q=true→∀ W,aZ B W (.agg #[tv,nv]) ah aj→B≤W.heap.size→Calls Tryz.prog 105 #[.agg #[tv,nv],.int .i64 k2] W fun e w'=>e=.returned (.string ⟨tk2.text.toArray⟩)∧Below W.heap.size W w'):=ay (fun hq W hT hW=>by
  obtain⟨hu2,afj⟩:=pJ (afi hq);have:=wS B tv nv ah aj k2 u2 W hT hW (hl2 hq) hu2;rw[afj] at this
  exact this)
 obtain⟨hi,hni⟩:=pJ hn;have HT:=ay h;obtain⟨a1,c1,_,_,e⟩:=h.slices;obtain⟨b,off,cap,kv,rfl,hb,x0,x1,x2,hkv⟩:=h.node hi
 obtain⟨rfl,-⟩:tv=.slice a1 ah.length c1∧_:=by simpa using e
 rw[hni] at hkv;simp only at hkv;obtain⟨ak,ck,rfl,_,xS⟩:=hkv.form;obtain⟨bk,ok,rfl,hbk,hkc⟩:=xS (by omega);have hz:=hkc 0 hp0;rw[Zx,Nat.add_zero] at hz;have hz1:=hkc 1 hp1;rw[hp1'] at hz1
 have hz2:q=true→w.cell? ⟨bk,ok+2,none⟩=some (.int .i64 k2)∧2<ks.length:=fun hq=>by
  obtain⟨hp2,agu⟩:=pJ (hq2 hq);have:=hkc 2 hp2;rw[agu] at this;exact⟨this,hp2⟩
 have HZ1:=ay hz1;have HZ2:=ay hz2;clear e hkv xS hkc hn hni x0 x1 afh acy Zp OJ hq0 hq1 Zx hp1' hl0 hl1 hM htx hq2 hl2 afi hz1 hz2 hqq;have cB:=((bI w.heap.size w).alloc (bD _) (.cells #[.slice a1 ah.length c1,.slice (some ⟨b,off,none⟩) aj.length cap] 126)).alloc (by simp) (.cells #[.int .i64 0,.string ⟨#[]⟩,.string ⟨#[]⟩,.bool false,.slice none 0 0,.bool false,.slice none 0 0,.int .i64 0] 64);have X2:=iW cB x2;have Z2:=iW cB hz;have g0:=(gY _ (.cells #[.int .i64 0,.string ⟨#[]⟩,.string ⟨#[]⟩,.bool false,.slice none 0 0,.bool false,.slice none 0 0,.int .i64 0] 64) w.heap.size (by simp)).trans (aY w (.cells #[.slice a1 ah.length c1,.slice (some ⟨b,off,none⟩) aj.length cap] 126));have g1:=aY (w.alloc (.cells #[.slice a1 ah.length c1,.slice (some ⟨b,off,none⟩) aj.length cap] 126)) (.cells #[.int .i64 0,.string ⟨#[]⟩,.string ⟨#[]⟩,.bool false,.slice none 0 0,.bool false,.slice none 0 0,.int .i64 0] 64);rw[oP] at g1
 have hiI:(i:Int)<(aj.length:Int):=by omega
 have agv:(0:Int)<(ks.length:Int):=by omega
 have ady:(1:Int)<(ks.length:Int):=by omega
 have YE:=HT.out;clear h x2 hz;go_enter Tryz.func174,Tryz.ntmps174
 go_upto_region 2 with (fail)
 generalize (w.alloc _).alloc _=w2 at g0 g1 cB X2 Z2 ⊢
 have r0:w2.cell? ⟨w.heap.size,0,none⟩=some (.slice a1 ah.length c1):=by rw[aV g0];rfl
 have r1:w2.cell? ⟨w.heap.size,1,none⟩=some (.slice (some ⟨b,off,none⟩) aj.length cap):=by rw[aV g0];rfl
 have Zq:=ay (fun W (hb:Below w2.heap.size w2 W)=>(HK.out W (YE.below ((cB.trans (hb.mono cB.size)).mono hB)) (by have:=cB.size;have:=hb.size;omega)).mono (R':=fun e w'=>e=.returned (.agg #[.int .i64 ko.kind,.string ⟨ko.lead.toArray⟩,.string ⟨ko.text.toArray⟩,.int .i64 ko.place])∧Below w2.heap.size w2 w'∧Below W.heap.size W w') fun e w' h=>⟨h.1,hb.trans (h.2.mono hb.size),h.2⟩);have hlt2:w.heap.size+1<w2.heap.size:=(bS g1).1
 go_cut [6] (fun p wc=>∃ X:Nat,p=.pointer (some ⟨X,0,none⟩)∧wc.heap[X]?=some (.cells #[.int .i64 ko.kind,.string ⟨ko.lead.toArray⟩,.string ⟨ko.text.toArray⟩,.int .i64 ko.place] 131 (0,0))∧wc.heap[w.heap.size]?=some (.cells #[.slice a1 ah.length c1,.slice (some ⟨b,off,none⟩) aj.length cap] 126 (0,0))∧wc.heap[w.heap.size+1]?=some (.cells #[.int .i64 0,.string ⟨#[]⟩,.string ⟨#[]⟩,.bool false,.slice none 0 0,.bool false,.slice none 0 0,.int .i64 0] 64 (0,0))∧Below w.heap.size w wc∧w.heap.size+1<X)
 case first =>
  go_region_held3 (fun w'=>w'.cell? ⟨w.heap.size,0,none⟩=some (.slice a1 ah.length c1)∧w'.cell? ⟨w.heap.size,1,none⟩=some (.slice (some ⟨b,off,none⟩) aj.length cap)∧w'.cell? ⟨bk,ok,none⟩=some (.int .i64 k0))
   (first|go_keep|exact p3|exact⟨(bX w3 w2.heap.size _ _ _ _ (by omega)).trans p3.1,(bX w3 w2.heap.size _ _ _ _ (by omega)).trans p3.2.1,(bX w3 w2.heap.size _ _ _ _ (by omega)).trans p3.2.2⟩)
   (first|(go_at_call 61;refine(Zq.out _ ?_).mono ?_;(first|exact(bI _ _).drew|exact((bI _ _).alloc (bD _) _).drew);rintro e w3 ⟨rfl,hq3,hb3⟩;have p3:=And.intro (iW hq3 r0) (And.intro (iW hq3 r1) (iW hq3 Z2));try (have FT:=(hb3.block w2.heap.size (by simp)).trans (aY w2 (.cells #[.int .i64 0,.string ⟨#[]⟩,.string ⟨#[]⟩,.int .i64 0] 131));obtain⟨Zr,Zt,Zu,Zv,Zw⟩:=oI FT)))
  ·have zD:Below w.heap.size w w3:=cB.trans (hq3.mono cB.size)
   have q0:=(hq3.block w.heap.size (by omega)).trans g0;have q1:=(hq3.block (w.heap.size+1) (by omega)).trans g1;have hz3:=hq3.size;clear r0 r1 X2 Z2 p3;go_wp2_with fail
   go_meet
   exact⟨w3.heap.size,rfl,aY _ _,(gY w3 _ w.heap.size (by omega)).trans q0,(gY w3 _ (w.heap.size+1) (by omega)).trans q1,zD.alloc zD.size _,by omega⟩
  ·have zD:Below w.heap.size w w3:=cB.trans (hq3.mono cB.size)
   have q0:=(hq3.block w.heap.size (by omega)).trans g0;have q1:=(hq3.block (w.heap.size+1) (by omega)).trans g1;obtain⟨S3,So,_⟩:=yH FT (.int .i64 ko.kind) (.string ⟨ko.lead.toArray⟩) (.string ⟨ko.text.toArray⟩) (.int .i64 ko.place)
   have hle:w.heap.size≤w2.heap.size:=by omega
   clear r0 r1 X2 Z2 p3 Zr Zt Zu Zv Zw;go_wp2_with fail
   go_meet
   exact⟨w2.heap.size,rfl,S3,(So w.heap.size (by omega)).trans q0,(So (w.heap.size+1) (by omega)).trans q1,(((zD.setCell hle _).setCell hle _).setCell hle _).setCell hle _,hlt2⟩
 case rest =>
  obtain⟨X,rfl,hX,G0,G1,RP,hXlt⟩:=hcut
  obtain⟨wy,rfl⟩:∃ wy:World,wy=wc:=⟨_,rfl⟩
  have adA:=RP.size;have hXs:=(bS hX).1;clear g0 g1 cB X2 Z2 r0 r1 HK Zq hlt2
  have f2:wy.cell? ⟨X,2,none⟩=some (.string ⟨ko.text.toArray⟩):=by rw[aV hX];rfl
  have f3:wy.cell? ⟨X,3,none⟩=some (.int .i64 ko.place):=by rw[aV hX];rfl
  have r0:wy.cell? ⟨w.heap.size,0,none⟩=some (.slice a1 ah.length c1):=by rw[aV G0];rfl
  have r1:wy.cell? ⟨w.heap.size,1,none⟩=some (.slice (some ⟨b,off,none⟩) aj.length cap):=by rw[aV G0];rfl
  have HM':=ay ((HM.out 24 ko.place wy (YE.below (RP.mono hB)) (by omega)).mono fun _ _ h=>h.m);go_wp2_with (go_at_call 175;refine HM'.out.mono ?_);rintro e w8 ⟨am,wn,cm,ae,ce,rfl,hxe,mU⟩;have hz8:=mU.size;have D0:=(mU.block w.heap.size (by omega)).trans G0;have D1:=(mU.block (w.heap.size+1) (by omega)).trans G1;have DX:=(mU.block X hXs).trans hX;have afk:=RP.trans (mU.mono adA);clear r0 r1 f2 f3 G0 G1 hX
  have f2:w8.cell? ⟨X,2,none⟩=some (.string ⟨ko.text.toArray⟩):=by rw[aV DX];rfl
  have f2':∀ o,(w8.alloc o).cell? ⟨X,2,none⟩=some (.string ⟨ko.text.toArray⟩):=fun o=>Lib.cell?_alloc_some o f2
  go_upto_region 5 with (fail)
  have vk:=afk.alloc afk.size (.cells #[.int .i64 24,.string ⟨ko.text.toArray⟩,.string ⟨#[]⟩,.bool false,.slice am wn cm,.bool false,.slice ae jw.length ce,.int .i64 ko.place] 64);have N9:=aY w8 (.cells #[.int .i64 24,.string ⟨ko.text.toArray⟩,.string ⟨#[]⟩,.bool false,.slice am wn cm,.bool false,.slice ae jw.length ce,.int .i64 ko.place] 64);have D0:=(gY w8 (.cells #[.int .i64 24,.string ⟨ko.text.toArray⟩,.string ⟨#[]⟩,.bool false,.slice am wn cm,.bool false,.slice ae jw.length ce,.int .i64 ko.place] 64) _ (bS D0).1).trans D0;have D1:=(gY w8 (.cells #[.int .i64 24,.string ⟨ko.text.toArray⟩,.string ⟨#[]⟩,.bool false,.slice am wn cm,.bool false,.slice ae jw.length ce,.int .i64 ko.place] 64) _ (bS D1).1).trans D1;have DX:=(gY w8 (.cells #[.int .i64 24,.string ⟨ko.text.toArray⟩,.string ⟨#[]⟩,.bool false,.slice am wn cm,.bool false,.slice ae jw.length ce,.int .i64 ko.place] 64) _ (bS DX).1).trans DX;have WY:oZ XA (fun b=>wy.heap.size≤b∧b<w8.heap.size) (w8.alloc (.cells #[.int .i64 24,.string ⟨ko.text.toArray⟩,.string ⟨#[]⟩,.bool false,.slice am wn cm,.bool false,.slice ae jw.length ce,.int .i64 ko.place] 64)) (.slice am wn cm) (.slice ae jw.length ce) (.mk 24 [] [] 0 [] false jw ko.place):=(hxe.imp (fun b hb hlt=>(⟨hb,hlt⟩:wy.heap.size≤b∧b<w8.heap.size))).frame ⟨by simp,fun b _ hb=>gY _ _ _ hb⟩
  have hs9:(w8.alloc (.cells #[.int .i64 24,.string ⟨ko.text.toArray⟩,.string ⟨#[]⟩,.bool false,.slice am wn cm,.bool false,.slice ae jw.length ce,.int .i64 ko.place] 64)).heap.size=w8.heap.size+1:=by simp
  clear f2 f2' hxe mU;generalize w8.alloc _=w9 at D0 D1 DX N9 vk WY hs9 ⊢;have k1c:=iW vk HZ1.out
  have r0:w9.cell? ⟨w.heap.size,0,none⟩=some (.slice a1 ah.length c1):=by rw[aV D0];rfl
  have r1:w9.cell? ⟨w.heap.size,1,none⟩=some (.slice (some ⟨b,off,none⟩) aj.length cap):=by rw[aV D0];rfl
  have WZ:=HX.out w9.drew (YE.below ((vk.mono hB).drew)) (show B≤w9.heap.size by omega)
  go_still_tail 4,(by kernel_rfl)
  change wpList _ _ _ _ _ w9.drew;clear HX
  rcases HQ.out with ⟨hq1,rfl,rfl⟩|⟨hq1,rfl,rfl⟩
  ·have HY':=HY.out hq1
   obtain⟨hz2,hp2⟩:=HZ2.out hq1;subst hq1;have Tk:=ay (show Calls Tryz.prog 105 #[.agg #[.slice a1 ah.length c1,.slice (some ⟨b,off,none⟩) aj.length cap],.int .i64 k1] w9.drew fun e w'=>e=.returned (.string ⟨#[46]⟩)∧Below w9.drew.heap.size w9.drew w' from WZ);have HY2:=ay HY';have HZ3:=ay hz2
   have ahM:(2:Int)<(ks.length:Int):=by omega
   clear WZ HY' hz2 HY HZ2 HQ;go_wp2_with (go_at_call 105;refine Tk.out.mono ?_);rintro e mH ⟨rfl,BH⟩;have adB:w9.heap.size≤mH.heap.size:=BH.size;have nX:Below w9.heap.size w9 mH:=(bI w9.heap.size w9).drew.trans BH;have E0:=(nX.block w.heap.size (bS D0).1).trans D0;have E1:=(nX.block (w.heap.size+1) (bS D1).1).trans D1;have EX:=(nX.block X (bS DX).1).trans DX;have E9:=(nX.block w8.heap.size (by omega)).trans N9;have Jq:=vk.trans (nX.mono vk.size);have KS:=WY.frame (aW.of nX);have k2c:=iW Jq HZ3.out;clear r0 r1 k1c D0 D1 DX N9 BH nX WY
   have r0:mH.cell? ⟨w.heap.size,0,none⟩=some (.slice a1 ah.length c1):=by rw[aV E0];rfl
   have r1:mH.cell? ⟨w.heap.size,1,none⟩=some (.slice (some ⟨b,off,none⟩) aj.length cap):=by rw[aV E0];rfl
   have f2:mH.cell? ⟨X,2,none⟩=some (.string ⟨ko.text.toArray⟩):=by rw[aV EX];rfl
   have HY3:=ay (HY2.out mH.drew (YE.below ((Jq.mono hB).drew)) (show B≤mH.heap.size by omega));obtain⟨e1,e2,ez⟩:=wF E9;have hA:Below w8.heap.size mH mH.drew:=(bI _ _).drew;have hB':Below w8.heap.size mH (mH.drew.setCell ⟨w8.heap.size,2,none⟩ (.string ⟨ko.text.toArray⟩)):=hA.setCell (bD _) _;have E9B:(mH.drew.setCell ⟨w8.heap.size,2,none⟩ (.string ⟨ko.text.toArray⟩)).heap[w8.heap.size]?=some (.cells #[.int .i64 24,.string ⟨ko.text.toArray⟩,.string ⟨ko.text.toArray⟩,.bool false,.slice am wn cm,.bool false,.slice ae jw.length ce,.int .i64 ko.place] 64 (0,0)):=heap_setCell_same mH.drew w8.heap.size 2 _ _ (.string ⟨ko.text.toArray⟩) E9
   have abY:w.heap.size≤w8.heap.size:=by omega
   have agw:w8.heap.size<mH.heap.size:=by omega
   have HY4:=ay (fun W (hb:Below w8.heap.size mH W) (hs:mH.heap.size≤W.heap.size)=>(HY2.out W (YE.below ((Jq.trans (hb.mono abY)).mono hB)) (by omega)).mono (R':=fun e w'=>e=.returned (.string ⟨tk2.text.toArray⟩)∧Below w8.heap.size mH w'∧Below W.heap.size W w') fun e w' h=>⟨h.1,hb.trans (h.2.mono (by omega)),h.2⟩);have p0:=And.intro f2 (And.intro r0 (And.intro r1 k2c))
   go_upto_region 6 with (fail)
   go_cut [] (fun wx=>wx.heap[w8.heap.size]?=some (.cells #[.int .i64 24,.string ⟨tk2.text.toArray⟩,.string ⟨ko.text.toArray⟩,.bool false,.slice am wn cm,.bool false,.slice ae jw.length ce,.int .i64 ko.place] 64 (0,0))∧wx.heap[w.heap.size+1]?=some (.cells #[.int .i64 0,.string ⟨#[]⟩,.string ⟨#[]⟩,.bool false,.slice none 0 0,.bool false,.slice none 0 0,.int .i64 0] 64 (0,0))∧oZ XA (fun b=>wy.heap.size≤b∧b<w8.heap.size) wx (.slice am wn cm) (.slice ae jw.length ce) (.mk 24 [] [] 0 [] false jw ko.place)∧Below w.heap.size w wx)
   case first =>
    go_region_held3 (fun w'=>w'.cell? ⟨X,2,none⟩=some (.string ⟨ko.text.toArray⟩)∧w'.cell? ⟨w.heap.size,0,none⟩=some (.slice a1 ah.length c1)∧w'.cell? ⟨w.heap.size,1,none⟩=some (.slice (some ⟨b,off,none⟩) aj.length cap)∧w'.cell? ⟨bk,ok+2,none⟩=some (.int .i64 k2))
     (first|go_keep|exact p6|exact⟨(fB mH.drew w8.heap.size _ _ (by omega)).trans p0.1,(fB mH.drew w8.heap.size _ _ (by omega)).trans p0.2.1,(fB mH.drew w8.heap.size _ _ (by omega)).trans p0.2.2.1,(fB mH.drew w8.heap.size _ _ (by omega)).trans p0.2.2.2⟩|exact⟨(fB vU w8.heap.size _ _ (by omega)).trans p6.1,(fB vU w8.heap.size _ _ (by omega)).trans p6.2.1,(fB vU w8.heap.size _ _ (by omega)).trans p6.2.2.1,(fB vU w8.heap.size _ _ (by omega)).trans p6.2.2.2⟩|exact⟨(fB (vU.setCell ⟨w8.heap.size,2,none⟩ (.string ⟨ko.text.toArray⟩)) w8.heap.size _ _ (by omega)).trans ((fB vU w8.heap.size _ _ (by omega)).trans p6.1),(fB (vU.setCell ⟨w8.heap.size,2,none⟩ (.string ⟨ko.text.toArray⟩)) w8.heap.size _ _ (by omega)).trans ((fB vU w8.heap.size _ _ (by omega)).trans p6.2.1),(fB (vU.setCell ⟨w8.heap.size,2,none⟩ (.string ⟨ko.text.toArray⟩)) w8.heap.size _ _ (by omega)).trans ((fB vU w8.heap.size _ _ (by omega)).trans p6.2.2.1),(fB (vU.setCell ⟨w8.heap.size,2,none⟩ (.string ⟨ko.text.toArray⟩)) w8.heap.size _ _ (by omega)).trans ((fB vU w8.heap.size _ _ (by omega)).trans p6.2.2.2)⟩)
     (first
      | (go_at_call 105;(with_reducible refine(HY4.out mH.drew hA (bD _)).mono ?_);rintro e vU ⟨rfl,hq11,adC⟩;have p6:=And.intro ((hq11.cell (p:=⟨X,2,none⟩) (show X<w8.heap.size by omega)).trans p0.1) (And.intro ((hq11.cell (p:=⟨w.heap.size,0,none⟩) (show w.heap.size<w8.heap.size by omega)).trans p0.2.1) (And.intro ((hq11.cell (p:=⟨w.heap.size,1,none⟩) (show w.heap.size<w8.heap.size by omega)).trans p0.2.2.1) ((hq11.cell (p:=⟨bk,ok+2,none⟩) (show bk<w8.heap.size by omega)).trans p0.2.2.2)));have E11:=(adC.block w8.heap.size agw).trans E9;obtain⟨x1,x2,xz⟩:=wF E11)
      | (go_at_call 105;(with_reducible refine(HY4.out (mH.drew.setCell ⟨w8.heap.size,2,none⟩ (.string ⟨ko.text.toArray⟩)) hB' (by simp)).mono ?_);rintro e vU ⟨rfl,hq11,adC⟩;have p6:=And.intro ((hq11.cell (p:=⟨X,2,none⟩) (show X<w8.heap.size by omega)).trans p0.1) (And.intro ((hq11.cell (p:=⟨w.heap.size,0,none⟩) (show w.heap.size<w8.heap.size by omega)).trans p0.2.1) (And.intro ((hq11.cell (p:=⟨w.heap.size,1,none⟩) (show w.heap.size<w8.heap.size by omega)).trans p0.2.2.1) ((hq11.cell (p:=⟨bk,ok+2,none⟩) (show bk<w8.heap.size by omega)).trans p0.2.2.2)));have E11:=(adC.block w8.heap.size (by simp;omega)).trans E9B;obtain⟨x1,x2,xz⟩:=wF E11))
    have h1:=heap_setCell_same vU w8.heap.size 2 _ _ (.string ⟨ko.text.toArray⟩) E11;have h2:=heap_setCell_same _ w8.heap.size 1 _ _ (.string ⟨tk2.text.toArray⟩) h1
    have h3:((vU.setCell ⟨w8.heap.size,2,none⟩ (.string ⟨ko.text.toArray⟩)).setCell ⟨w8.heap.size,1,none⟩ (.string ⟨tk2.text.toArray⟩)).heap[w.heap.size+1]?=some (.cells #[.int .i64 0,.string ⟨#[]⟩,.string ⟨#[]⟩,.bool false,.slice none 0 0,.bool false,.slice none 0 0,.int .i64 0] 64 (0,0)):=by
     rw[heap_setCell_other _ _ _ _ (by show w.heap.size+1≠w8.heap.size;omega),heap_setCell_other _ _ _ _ (by show w.heap.size+1≠w8.heap.size;omega),hq11.block (w.heap.size+1) (by omega)];exact E1
    have h4:=((KS.frame (aW.ru hq11 fun b hb=>by omega)).frame (aW.set (a:=⟨w8.heap.size,2,none⟩) (.string ⟨ko.text.toArray⟩) fun b hb=>by show b≠w8.heap.size;omega)).frame (aW.set (a:=⟨w8.heap.size,1,none⟩) (.string ⟨tk2.text.toArray⟩) fun b hb=>by show b≠w8.heap.size;omega);have h5:=((Jq.trans (hq11.mono abY)).setCell (p:=⟨w8.heap.size,2,none⟩) abY (.string ⟨ko.text.toArray⟩)).setCell (p:=⟨w8.heap.size,1,none⟩) abY (.string ⟨tk2.text.toArray⟩);go_wp2_with fail
    go_meet
    exact⟨h2,h3,h4,h5⟩
   case rest =>
    obtain⟨F9,F1,agx,afl⟩:=hcut;clear r0 r1 f2 k2c p0 e1 e2 ez E9 E1 E0 EX E9B hA hB' HY4 HY2 HY3 KS
    have b0:wc.cell? ⟨w8.heap.size,0,none⟩=some (.int .i64 24):=by rw[aV F9];rfl
    have b1:wc.cell? ⟨w8.heap.size,1,none⟩=some (.string ⟨tk2.text.toArray⟩):=by rw[aV F9];rfl
    have b2:wc.cell? ⟨w8.heap.size,2,none⟩=some (.string ⟨ko.text.toArray⟩):=by rw[aV F9];rfl
    have b3:wc.cell? ⟨w8.heap.size,3,none⟩=some (.bool false):=by rw[aV F9];rfl
    have b4:wc.cell? ⟨w8.heap.size,4,none⟩=some (.slice am wn cm):=by rw[aV F9];rfl
    have b5:wc.cell? ⟨w8.heap.size,5,none⟩=some (.bool false):=by rw[aV F9];rfl
    have b6:wc.cell? ⟨w8.heap.size,6,none⟩=some (.slice ae jw.length ce):=by rw[aV F9];rfl
    have b7:wc.cell? ⟨w8.heap.size,7,none⟩=some (.int .i64 ko.place):=by rw[aV F9];rfl
    have d0:wc.cell? ⟨w.heap.size+1,0,none⟩=some (.int .i64 0):=by rw[aV F1];rfl
    have d1:wc.cell? ⟨w.heap.size+1,1,none⟩=some (.string ⟨#[]⟩):=by rw[aV F1];rfl
    have d2:wc.cell? ⟨w.heap.size+1,2,none⟩=some (.string ⟨#[]⟩):=by rw[aV F1];rfl
    have d3:wc.cell? ⟨w.heap.size+1,3,none⟩=some (.bool false):=by rw[aV F1];rfl
    have d4:wc.cell? ⟨w.heap.size+1,4,none⟩=some (.slice none 0 0):=by rw[aV F1];rfl
    have d5:wc.cell? ⟨w.heap.size+1,5,none⟩=some (.bool false):=by rw[aV F1];rfl
    have d6:wc.cell? ⟨w.heap.size+1,6,none⟩=some (.slice none 0 0):=by rw[aV F1];rfl
    have d7:wc.cell? ⟨w.heap.size+1,7,none⟩=some (.int .i64 0):=by rw[aV F1];rfl
    have dz:∀ j,wc.frozen? ⟨w.heap.size+1,j,none⟩=false:=by intro j;simp[World.frozen?,F1]
    go_wp2
    have hE:oZ XA (fun b=>w.heap.size≤b) (UZ wc (w.heap.size+1) (.int .i64 24) (.string ⟨tk2.text.toArray⟩) (.string ⟨ko.text.toArray⟩) (.bool false) (.slice am wn cm) (.bool false) (.slice ae jw.length ce) (.int .i64 ko.place)) (.slice am wn cm) (.slice ae jw.length ce) (.mk 24 tk2.text ko.text 0 [] false jw ko.place) :=
     ((agx.frame (vW _ _ (w.heap.size+1) _ _ _ _ _ _ _ _ fun k hk=>by omega)).imp fun b hb _=>by omega).rename
    refine bodyPost_ret (v:=.agg #[.int .i64 24,.string ⟨tk2.text.toArray⟩,.string ⟨ko.text.toArray⟩,.bool false,.slice am wn cm,.bool false,.slice ae jw.length ce,.int .i64 ko.place]) (by simp[results,Tryz.results174,go_sem,d0,d1,d2,d3,d4,d5,d6,d7]) rfl ?_;exact⟨_,_,rfl,hE,jI afl (by omega) _ _ _ _ _ _ _ _⟩
  ·subst hq1
   have Tk:=ay (show Calls Tryz.prog 105 #[.agg #[.slice a1 ah.length c1,.slice (some ⟨b,off,none⟩) aj.length cap],.int .i64 k1] w9.drew fun e w'=>e=.returned (.string ⟨#[40]⟩)∧Below w9.drew.heap.size w9.drew w' from WZ);clear WZ HY HZ2 HQ;go_wp2_with (go_at_call 105;refine Tk.out.mono ?_);rintro e mH ⟨rfl,BH⟩;have adB:w9.heap.size≤mH.heap.size:=BH.size;have nX:Below w9.heap.size w9 mH:=(bI w9.heap.size w9).drew.trans BH;have E1:=(nX.block (w.heap.size+1) (bS D1).1).trans D1;have E9:=(nX.block w8.heap.size (by omega)).trans N9;have Jq:=vk.trans (nX.mono vk.size);have KS:=WY.frame (aW.of nX);clear r0 r1 k1c D0 D1 DX N9 BH nX WY
   have b0:mH.cell? ⟨w8.heap.size,0,none⟩=some (.int .i64 24):=by rw[aV E9];rfl
   have b1:mH.cell? ⟨w8.heap.size,1,none⟩=some (.string ⟨ko.text.toArray⟩):=by rw[aV E9];rfl
   have b2:mH.cell? ⟨w8.heap.size,2,none⟩=some (.string ⟨#[]⟩):=by rw[aV E9];rfl
   have b3:mH.cell? ⟨w8.heap.size,3,none⟩=some (.bool false):=by rw[aV E9];rfl
   have b4:mH.cell? ⟨w8.heap.size,4,none⟩=some (.slice am wn cm):=by rw[aV E9];rfl
   have b5:mH.cell? ⟨w8.heap.size,5,none⟩=some (.bool false):=by rw[aV E9];rfl
   have b6:mH.cell? ⟨w8.heap.size,6,none⟩=some (.slice ae jw.length ce):=by rw[aV E9];rfl
   have b7:mH.cell? ⟨w8.heap.size,7,none⟩=some (.int .i64 ko.place):=by rw[aV E9];rfl
   have d0:mH.cell? ⟨w.heap.size+1,0,none⟩=some (.int .i64 0):=by rw[aV E1];rfl
   have d1:mH.cell? ⟨w.heap.size+1,1,none⟩=some (.string ⟨#[]⟩):=by rw[aV E1];rfl
   have d2:mH.cell? ⟨w.heap.size+1,2,none⟩=some (.string ⟨#[]⟩):=by rw[aV E1];rfl
   have d3:mH.cell? ⟨w.heap.size+1,3,none⟩=some (.bool false):=by rw[aV E1];rfl
   have d4:mH.cell? ⟨w.heap.size+1,4,none⟩=some (.slice none 0 0):=by rw[aV E1];rfl
   have d5:mH.cell? ⟨w.heap.size+1,5,none⟩=some (.bool false):=by rw[aV E1];rfl
   have d6:mH.cell? ⟨w.heap.size+1,6,none⟩=some (.slice none 0 0):=by rw[aV E1];rfl
   have d7:mH.cell? ⟨w.heap.size+1,7,none⟩=some (.int .i64 0):=by rw[aV E1];rfl
   have dz:∀ j,mH.frozen? ⟨w.heap.size+1,j,none⟩=false:=by intro j;simp[World.frozen?,E1]
   go_wp2
   have hE:oZ XA (fun b=>w.heap.size≤b) (UZ mH (w.heap.size+1) (.int .i64 24) (.string ⟨ko.text.toArray⟩) (.string ⟨#[]⟩) (.bool false) (.slice am wn cm) (.bool false) (.slice ae jw.length ce) (.int .i64 ko.place)) (.slice am wn cm) (.slice ae jw.length ce) (.mk 24 ko.text [] 0 [] false jw ko.place) :=
    ((KS.frame (vW _ _ (w.heap.size+1) _ _ _ _ _ _ _ _ fun k hk=>by omega)).imp fun b hb _=>by omega).rename
   refine bodyPost_ret (v:=.agg #[.int .i64 24,.string ⟨ko.text.toArray⟩,.string ⟨#[]⟩,.bool false,.slice am wn cm,.bool false,.slice ae jw.length ce,.int .i64 ko.place]) (by simp[results,Tryz.results174,go_sem,d0,d1,d2,d3,d4,d5,d6,d7]) rfl ?_;exact⟨_,_,rfl,hE,jI Jq (by omega) _ _ _ _ _ _ _ _⟩
def rJ:Option CE→PT
 | none=>.leaf
 | some e=>e.pt
def iF:List (Option CE)→Nat→List (CE × Nat)
 | [],_=>[]
 | none :: l,u=>iF l (u+1)
 | some e :: l,u=>(e,u) :: iF l (u+e.pt.lv)
theorem BI {aj:List Nd}{n:Int}{u:Nat}{t:PT}(h:oo aj n u t):0≤n∧n<(aj.length:Int):=by
 cases t with
 | leaf=>rw[oo] at h;have:=(pJ h.2).1;omega
 | node k l=>rw[oo] at h;obtain⟨ks,h0,h1,_⟩:=h;have:=(pJ h1).1;omega
theorem TJ {aj:List Nd}:∀ {l:List PT} {ks:List Int} {u:Nat},fJ aj ks u l→∀ k∈ks,0≤k∧k<(aj.length:Int)
 | [],ks,u,h=>by rw[fJ] at h;subst h;intro k hk;cases hk
 | t :: l,ks,u,h=>by
  rw[fJ] at h;obtain⟨k,ks',rfl,h1,h2⟩:=h;intro x hx
  rcases List.mem_cons.1 hx with rfl|hx
  ·exact BI h1
  ·exact TJ h2 x hx
theorem wG {aj:List Nd}:∀ (its:List (Option CE)) (ks:List Int) (u:Nat),fJ aj ks u (its.map rJ) →
  (gJ aj ks).length=(iF its u).length∧∀ (j:Nat) (h1:j<(gJ aj ks).length) (h2:j<(iF its u).length),oo aj (gJ aj ks)[j] (iF its u)[j].2 (iF its u)[j].1.pt
 | [],ks,u,h=>by
  simp only[List.map_nil,fJ] at h;subst h;exact⟨rfl,fun j h1=>absurd h1 (by simp[gJ])⟩
 | none :: its,ks,u,h=>by
  simp only[List.map_cons,fJ,rJ] at h;obtain⟨k,ks',rfl,h1,h2⟩:=h;rw[PT.lv] at h2;have ih:=wG its ks' (u+1) h2;simp only[PV h1,iF];exact ih
 | some e :: its,ks,u,h=>by
  simp only[List.map_cons,fJ,rJ] at h;obtain⟨k,ks',rfl,h1,h2⟩:=h;have ih:=wG its ks' _ h2;simp only[PX h1,iF];refine⟨by simp[ih.1],fun j h3 h4=>?_⟩
  cases j with
  | zero=>exact h1
  | succ j=>exact ih.2 j (by simpa using h3) (by simpa using h4)
theorem CE.adD (e:CE):0<e.pt.lv:=by
 cases e with
 | call q l=>rw[CE.pt,PT.lv,iY];simp[bU,PT.lv]
 | num=>simp[CE.pt,PT.lv,bU]
 | truth=>simp[CE.pt,PT.lv,bU]
 | res=>simp[CE.pt,PT.lv,bU]
 | PO=>simp[CE.pt,PT.lv,bU]
 | group e=>simp[CE.pt,PT.lv,bU];omega
 | un e=>simp[CE.pt,PT.lv,bU];omega
 | bin a b=>simp[CE.pt,PT.lv,bU];omega
 | iff a b c=>simp[CE.pt,PT.lv,bU];omega
 | sO a b=>simp[CE.pt,PT.lv,bU];omega
 | sP a b=>simp[CE.pt,PT.lv,bU];omega
theorem BJ:∀ (its:List (Option CE)),its.length≤bU (its.map rJ)
 | []=>bD _
 | none :: its=>by have:=BJ its;simp only[List.map_cons,bU,rJ,PT.lv,dR];omega
 | some e :: its=>by have:=BJ its;have:=e.adD;simp only[List.map_cons,bU,rJ,dR];omega
structure FU where
 B:Nat
 tv:Value
 nv:Value
 ah:List Tok
 aj:List Nd
 cl:Bool
structure FU.ok (E:FU):Prop where
 len:E.ah.length≤1000000
 nums:∀ u,u<E.ah.length→iq E.ah u=3→∀ W,Calls Tryz.prog 176 #[.string ⟨(aN E.ah u).toArray⟩] W (Yb (jo (aN E.ah u)) W)
def FU.At (E:FU)(W:World):Prop:=aZ E.B W (.agg #[E.tv,E.nv]) E.ah E.aj∧E.B≤W.heap.size
def FU.reads (E:FU)(e:CE)(u:Nat):Prop:=∀ (i:Nat) (W:World),oo E.aj i u e.pt→E.At W→Calls Tryz.prog 108 #[.agg #[E.tv,E.nv],.int .i64 i] W (EPost XA (e.pe E.ah u) W)
theorem mD (E:FU)(its:List (Option CE))(ks:List Int)(u i:Nat)(k:Int)(hn:E.aj[i]?=some ⟨k,-1,ks⟩)(hr:fJ E.aj ks u (its.map rJ))(hlen:ks.length≤1000000000)(hsub:∀ p∈iF its u,E.reads p.1 p.2)
  (op at_:Nat) (W:World) (hT:aZ E.B W (.agg #[E.tv,E.nv]) E.ah E.aj) (hB:E.B≤W.heap.size) :
  Calls Tryz.prog 175 #[.agg #[E.tv,E.nv],.int .i64 op,.int .i64 at_,.int .i64 i] W (EPost XA (.mk op [] [] 0 [] false ((iF its u).map fun p=>p.1.pe E.ah p.2) at_) W):=by
 obtain⟨hi,hni⟩:=pJ hn;obtain⟨p1,p2⟩:=wG its ks u hr;refine UW E.B E.tv E.nv E.ah E.aj i op at_ W hT hB hi (by rw[hni];exact TJ hr) (by rw[hni];exact hlen) _ (by rw[hni];simp[p1]) ?_;rw[hni];intro j h1 h2 W' hT' hB'
 have h3:j<(iF its u).length:=by simpa using h1
 have hrep:=p2 j h2 h3;have hx:=hsub _ (mX h3);have hk:=BI hrep;simp only[List.getElem_map]
 obtain⟨m,hm⟩:∃ m:Nat,(gJ E.aj ks)[j]=(m:Int):=⟨((gJ E.aj ks)[j]).toNat,by omega⟩
 rw[hm] at hrep ⊢;exact hx m W' hrep ⟨hT',hB'⟩
theorem jC {ah:List Tok}{u:Nat}(h:u<ah.length):ah[u]?=some (dh ah u):=by
 rw[dh,Nat.min_eq_left (by omega),List.getD_eq_getElem?_getD,yV h,Option.getD_some]
theorem bY {aj:List Nd}{ks:List Int}{u:Nat}{l:List PT}(h:fJ aj ks u (.leaf :: l)):∃ (k:Nat) (ks':List Int),ks=(k:Int) :: ks'∧aj[k]?=some ⟨19,(u:Nat),[]⟩∧fJ aj ks' (u+1) l:=by
 rw[fJ] at h;obtain⟨k,ks',rfl,h1,h2⟩:=h;obtain⟨i,rfl,hi⟩:=h1.Qp;exact⟨i,ks',rfl,hi,h2⟩
theorem FV {aj:List Nd}{ks:List Int}{u:Nat}{t:PT}{l:List PT}(h:fJ aj ks u (t :: l)):∃ (k:Nat) (ks':List Int),ks=(k:Int) :: ks'∧oo aj k u t∧fJ aj ks' (u+t.lv) l:=by
 rw[fJ] at h;obtain⟨k,ks',rfl,h1,h2⟩:=h;have:=BI h1;exact⟨k.toNat,ks',by rw[Int.toNat_of_nonneg this.1],by rw[Int.toNat_of_nonneg this.1];exact h1,h2⟩
def iU:List CE→List (Option CE)
 | []=>[]
 | e :: l=>some e :: (match l with | []=>[]|_ :: _=>none :: iU l)
theorem wH (e f:CE)(l:List CE):iU (e :: f :: l)=some e :: none :: iU (f :: l):=by
 conv=>lhs;rw[iU]
theorem qX:∀ l:List CE,(iU l).map rJ=fG l
 | []=>by simp[iU,fG]
 | [e]=>by simp[iU,fG,rJ]
 | e :: f :: l=>by
  rw[wH,om,List.map_cons,List.map_cons,qX (f :: l)]
  rfl
theorem BK (ah:List Tok):∀ (l:List CE) (u:Nat),(iF (iU l++[none]) u).map (fun p=>p.1.pe ah p.2)=jV ah u l
 | [],u=>by simp[iU,iF,jV]
 | [e],u=>by simp[iU,iF,jV]
 | e :: f :: l,u=>by
  rw[wH,jN,jN,iF,iF,List.map_cons,BK ah (f :: l)]
  conv=>rhs;rw[jV]
theorem KU {E:FU}:∀ (l:List CE) (u:Nat),pO E.ah E.cl u l→u+bU (fG l)≤E.ah.length→(∀ e∈l,∀ v,e.ok E.ah E.cl v→v+e.pt.lv≤E.ah.length→E.reads e v)→∀ p∈iF (iU l++[none]) u,E.reads p.1 p.2
 | [],u,_,_,_,p,hp=>by simp[iU,iF] at hp
 | [e],u,ho,hl,hr,p,hp=>by
  rw[pO] at ho;rw[uw] at hl;simp only[bU] at hl
  have h:p=(e,u):=by simpa [iU,iF] using hp
  subst h;exact hr e vB u ho.1 (by omega)
 | e :: f :: l,u,ho,hl,hr,p,hp=>by
  rw[pO] at ho;rw[om] at hl;simp only[bU,PT.lv] at hl;rw[wH,jN,jN,iF,iF] at hp
  rcases List.mem_cons.1 hp with rfl|hp
  ·exact hr e vB u ho.1 (by omega)
  ·exact KU (f :: l) _ ho.2 (by omega) (fun x hx=>hr x (wM _ hx)) p hp
theorem fu {aj:List Nd}{i:Nat}{u k:Nat}{l:List PT}(h:oo aj i u (.node k l)):∃ ks,aj[i]?=some ⟨(k:Nat),-1,ks⟩∧fJ aj ks u l:=by
 rw[oo] at h;obtain⟨ks,_,h1,h2⟩:=h;rw[Int.toNat_natCast] at h1;exact⟨ks,h1,h2⟩
theorem qY {E:FU}(hE:E.ok){ks:List Int}{u:Nat}{its:List (Option CE)}(h:fJ E.aj ks u (its.map rJ))(hl:bU (its.map rJ)≤E.ah.length):ks.length≤1000000000:=by
 have h1:=(zh h).1;have h2:=BJ its;have h3:=hE.len;rw[List.length_map] at h1;omega
theorem fP (E:FU){i k0 u:Nat}{kd:Int}{ks:List Int}{W:World}{x:PE}(hAt:E.At W)(hn:E.aj[i]?=some ⟨kd,-1,(k0:Int) :: ks⟩)(h0:E.aj[k0]?=some ⟨19,(u:Nat),[]⟩)(hu:u<E.ah.length)(hx:qW E.B E.tv E.nv E.ah E.aj i ((k0:Int) :: ks) (dh E.ah u) kd x) :
  Calls Tryz.prog 108 #[.agg #[E.tv,E.nv],.int .i64 i] W (EPost XA x W) :=
 Jo E.B E.tv E.nv E.ah E.aj i kd _ W hAt.1 hAt.2 hn k0 rfl _ _ h0 (.inl ⟨u,rfl,jC hu⟩) x hx
theorem Zy {B:Nat}{tv nv:Value}{ah:List Tok}{aj:List Nd}{k u:Nat}{W:World}(hT:aZ B W (.agg #[tv,nv]) ah aj)(hB:B≤W.heap.size)(h:aj[k]?=some ⟨19,(u:Nat),[]⟩)(hu:u<ah.length) :
  Calls Tryz.prog 105 #[.agg #[tv,nv],.int .i64 k] W fun e w'=>e=.returned (.string ⟨(aN ah u).toArray⟩)∧Below W.heap.size W w':=by
 have h1:=wS B tv nv ah aj k u W hT hB h hu;have e:=jC hu;rw[yV hu] at e;rw[kR e] at h1;exact h1
theorem eG (E:FU)(hE:E.ok):∀ (n:Nat) (e:CE) (u:Nat),SizeOf.sizeOf e<n→e.ok E.ah E.cl u→u+e.pt.lv≤E.ah.length→E.reads e u
 | 0,e,u,h,_,_=>absurd h (by omega)
 | n+1,.num,u,_,ho,hl=>by
  intro i W hrep hAt;rw[CE.ok] at ho;rw[CE.pt] at hrep hl;simp only[PT.lv,bU] at hl;obtain⟨ks,hn,hr⟩:=fu hrep;obtain⟨k0,ks',rfl,h0,_⟩:=bY hr;rw[CE.pe];exact fP E hAt hn h0 (by omega) (.num _ _ (hE.nums u (by omega) ho))
 | n+1,.truth,u,_,ho,hl=>by
  intro i W hrep hAt;rw[CE.ok] at ho;rw[CE.pt] at hrep hl;simp only[PT.lv,bU] at hl;obtain⟨ks,hn,hr⟩:=fu hrep;obtain⟨k0,ks',rfl,h0,_⟩:=bY hr;rw[CE.pe]
  rcases ho with ho|ho
  ·rw[iX ho]
   exact fP E hAt hn h0 (by omega) (.tru ho)
  ·rw[dA (by rw[ho];decide)]
   exact fP E hAt hn h0 (by omega) (.fls ho)
 | n+1,.res,u,_,ho,hl=>by
  intro i W hrep hAt;rw[CE.pt] at hrep hl;simp only[PT.lv,bU] at hl;obtain⟨ks,hn,hr⟩:=fu hrep;obtain⟨k0,ks',rfl,h0,_⟩:=bY hr;rw[CE.pe];exact fP E hAt hn h0 (by omega) .res
 | n+1,.PO,u,_,ho,hl=>by
  intro i W hrep hAt;rw[CE.pt] at hrep hl;simp only[PT.lv,bU] at hl;obtain⟨ks,hn,hr⟩:=fu hrep;obtain⟨k0,ks',rfl,h0,_⟩:=bY hr;rw[CE.pe];exact fP E hAt hn h0 (by omega) .PO
 | n+1,.group e,u,hs,ho,hl=>by
  intro i W hrep hAt;rw[CE.ok] at ho;rw[CE.pt] at hrep hl;simp only[PT.lv,bU] at hl;simp only[CE.group.sizeOf_spec] at hs;obtain⟨ks,hn,hr⟩:=fu hrep;obtain⟨k0,ks',rfl,h0,hr⟩:=bY hr;obtain⟨k1,ks',rfl,h1,_⟩:=FV hr;rw[CE.pe];exact fP E hAt hn h0 (by omega) (.group k1 _ rfl (fun W hT hB=>eG E hE n e (u+1) (by omega) ho.2 (by omega) k1 W h1 ⟨hT,hB⟩))
 | n+1,.un e,u,hs,ho,hl=>by
  intro i W hrep hAt;rw[CE.ok] at ho;rw[CE.pt] at hrep hl;simp only[PT.lv,bU] at hl;simp only[CE.un.sizeOf_spec] at hs;obtain⟨ks,hn,hr⟩:=fu hrep
  have hM:=mD E [none,some e] ks u i _ hn hr (qY hE (its:=[none,some e]) hr (by simp only[List.map_cons,List.map_nil,rJ,bU,PT.lv];omega)) (fun p hp=>by
   have h:p=(e,u+1):=by simpa [iF] using hp
   subst h
   exact eG E hE n e (u+1) (by omega) ho.2 (by omega))
  obtain⟨k0,ks',rfl,h0,_⟩:=bY hr;rw[CE.pe]
  rcases ho.1 with h|h
  ·rw[if_pos h]
   exact fP E hAt hn h0 (by omega) (.not _ h fun op at_ W hT hB=>hM op at_ W hT hB)
  ·rw[if_neg (by rw[h];decide)]
   exact fP E hAt hn h0 (by omega) (.neg _ h fun op at_ W hT hB=>hM op at_ W hT hB)
 | n+1,.bin a b,u,hs,ho,hl=>by
  intro i W hrep hAt;rw[CE.ok] at ho;rw[CE.pt] at hrep hl;simp only[PT.lv,bU] at hl;simp only[CE.bin.sizeOf_spec] at hs;obtain⟨ks,hn,hr⟩:=fu hrep
  have hM:=mD E [some a,none,some b] ks u i _ hn hr (qY hE (its:=[some a,none,some b]) hr (by simp only[List.map_cons,List.map_nil,rJ,bU,PT.lv];omega)) (fun p hp=>by
   have h:p=(a,u)∨p=(b,u+a.pt.lv+1):=by simpa [iF] using hp
   rcases h with rfl|rfl
   ·exact eG E hE n a u (by omega) ho.2.1 (by omega)
   ·exact eG E hE n b _ (by omega) ho.2.2 (by omega))
  obtain⟨k0,ks',rfl,h0,hr⟩:=FV hr;obtain⟨k1,ks',rfl,h1,_⟩:=bY hr;obtain⟨c,la,ea,c1,c2⟩:=a.node;rw[ea] at h0;obtain⟨ksa,hna,_⟩:=fu h0;rw[CE.pe];refine Jo E.B E.tv E.nv E.ah E.aj i _ _ W hAt.1 hAt.2 hn k0 rfl _ _ hna (.inr ⟨by simp only;omega,rfl⟩) _ (.bin _ fun W' hT hB=>?_);exact OI _ E.B E.tv E.nv E.ah E.aj i _ W' hT hB hn k1 (u+a.pt.lv) rfl h1 _ (jC (by omega)) ho.1 hM
 | n+1,.iff a b c,u,hs,ho,hl=>by
  intro i W hrep hAt;rw[CE.ok] at ho;rw[CE.pt] at hrep hl;simp only[PT.lv,bU] at hl;simp only[CE.iff.sizeOf_spec] at hs;obtain⟨ks,hn,hr⟩:=fu hrep
  have hM:=mD E [none,some a,none,some b,none,some c] ks u i _ hn hr (qY hE (its:=[none,some a,none,some b,none,some c]) hr (by simp only[List.map_cons,List.map_nil,rJ,bU,PT.lv];omega)) (fun p hp=>by
   have h:p=(a,u+1)∨p=(b,u+1+a.pt.lv+1)∨p=(c,u+1+a.pt.lv+1+b.pt.lv+1):=by simpa [iF] using hp
   rcases h with rfl|rfl|rfl
   ·exact eG E hE n a _ (by omega) ho.2.1 (by omega)
   ·exact eG E hE n b _ (by omega) ho.2.2.1 (by omega)
   ·exact eG E hE n c _ (by omega) ho.2.2.2 (by omega))
  obtain⟨k0,ks',rfl,h0,_⟩:=bY hr;rw[CE.pe];exact fP E hAt hn h0 (by omega) (.iff _ fun op at_ W hT hB=>hM op at_ W hT hB)
 | n+1,.sO a b,u,hs,ho,hl=>by
  intro i W hrep hAt;rw[CE.ok] at ho;rw[CE.pt] at hrep hl;simp only[PT.lv,bU] at hl;simp only[CE.sO.sizeOf_spec] at hs;obtain⟨ks,hn,hr⟩:=fu hrep
  have hM:=mD E [none,none,none,some a,none,some b] ks u i _ hn hr (qY hE (its:=[none,none,none,some a,none,some b]) hr (by simp only[List.map_cons,List.map_nil,rJ,bU,PT.lv];omega)) (fun p hp=>by
   have h:p=(a,u+3)∨p=(b,u+3+a.pt.lv+1):=by simpa [iF] using hp
   rcases h with rfl|rfl
   ·exact eG E hE n a _ (by omega) ho.2.2.1 (by omega)
   ·exact eG E hE n b _ (by omega) ho.2.2.2 (by omega))
  obtain⟨k0,ks',rfl,h0,hr⟩:=bY hr;obtain⟨k1,ks',rfl,h1,_⟩:=bY hr;rw[CE.pe];exact fP E hAt hn h0 (by omega) (.sO _ k1 _ (fun op at_ W hT hB=>hM op at_ W hT hB) rfl fun W hT hB=>Zy hT hB h1 (by omega))
 | n+1,.sP a b,u,hs,ho,hl=>by
  intro i W hrep hAt;rw[CE.ok] at ho;rw[CE.pt] at hrep hl;simp only[PT.lv,bU] at hl;simp only[CE.sP.sizeOf_spec] at hs;obtain⟨ks,hn,hr⟩:=fu hrep
  have hM:=mD E [none,some a,none,some b] ks u i _ hn hr (qY hE (its:=[none,some a,none,some b]) hr (by simp only[List.map_cons,List.map_nil,rJ,bU,PT.lv];omega)) (fun p hp=>by
   have h:p=(a,u+1)∨p=(b,u+1+a.pt.lv+1):=by simpa [iF] using hp
   rcases h with rfl|rfl
   ·exact eG E hE n a _ (by omega) ho.2.1 (by omega)
   ·exact eG E hE n b _ (by omega) ho.2.2 (by omega))
  obtain⟨k0,ks',rfl,h0,_⟩:=bY hr;rw[CE.pe];exact fP E hAt hn h0 (by omega) (.sP _ fun op at_ W hT hB=>hM op at_ W hT hB)
 | n+1,.call q l,u,hs,ho,hl=>by
  intro i W hrep hAt;rw[CE.ok] at ho;rw[CE.pt] at hrep hl;simp only[CE.call.sizeOf_spec] at hs
  have hsz:∀ e∈l,∀ v,e.ok E.ah E.cl v→v+e.pt.lv≤E.ah.length→E.reads e v:=fun e he v h1 h2 =>
   eG E hE n e v (by have:=List.sizeOf_lt_of_mem he;omega) h1 h2
  obtain⟨ks,hn,hr⟩:=fu hrep
  cases q with
  | true =>
   simp only[if_true] at hr hl ho;simp only[PT.lv,iY,bU] at hl
   have hr':fJ E.aj ks u (([none,none,none,none]++(iU l++[none])).map rJ):=by
    rw[List.map_append,List.map_append,qX]
    simpa [rJ] using hr
   have hM:=mD E ([none,none,none,none]++(iU l++[none])) ks u i _ hn hr' (qY hE hr' (by rw[List.map_append,List.map_append,qX];simp only[List.map_cons,List.map_nil,rJ,iY,bU,PT.lv];omega)) (fun p hp=>by
    simp only[jN,qc,iF] at hp
    exact KU l (u+4) ho.2.2.2.2.2 (by omega) hsz p hp)
   simp only[jN,qc,iF] at hM;rw[BK] at hM;obtain⟨k0,ks',rfl,h0,hr⟩:=bY hr;obtain⟨k1,ks',rfl,h1,hr⟩:=bY hr;obtain⟨k2,ks',rfl,h2,hr⟩:=bY hr;rw[CE.pe,if_pos rfl];refine fP E hAt hn h0 (by omega) (.call _ fun W' hT hB=>?_);exact Jp true _ _ _ E.B E.tv E.nv E.ah E.aj i _ W' hT hB hn k0 u rfl h0 _ (jC (by omega)) k1 (u+1) rfl h1 _ (jC (by omega)) ho.2.2.2.1 k2 (u+2) (fun _=>rfl) (fun _=>h2) _ (fun _=>jC (by omega)) (.inl ⟨rfl,rfl,rfl⟩) hM
  | false =>
   simp only[Bool.false_eq_true,if_false] at hr hl ho;simp only[PT.lv,iY,bU] at hl
   have hr':fJ E.aj ks u (([none,none]++(iU l++[none])).map rJ):=by
    rw[List.map_append,List.map_append,qX]
    simpa [rJ] using hr
   have hM:=mD E ([none,none]++(iU l++[none])) ks u i _ hn hr' (qY hE hr' (by rw[List.map_append,List.map_append,qX];simp only[List.map_cons,List.map_nil,rJ,iY,bU,PT.lv];omega)) (fun p hp=>by
    simp only[jN,qc,iF] at hp
    exact KU l (u+2) ho.2.2.2.2 (by omega) hsz p hp)
   simp only[jN,qc,iF] at hM;rw[BK] at hM;obtain⟨k0,ks',rfl,h0,hr⟩:=bY hr;obtain⟨k1,ks',rfl,h1,hr⟩:=bY hr;rw[CE.pe,if_neg (by decide)];refine fP E hAt hn h0 (by omega) (.call _ fun W' hT hB=>?_);exact Jp false _ _ _ E.B E.tv E.nv E.ah E.aj i _ W' hT hB hn k0 u rfl h0 _ (jC (by omega)) k1 (u+1) rfl h1 _ (jC (by omega)) ho.2.2.2.1 0 0 (fun q=>by cases q) (fun q=>by cases q) (dh E.ah u) (fun q=>by cases q) (.inr ⟨rfl,rfl,rfl⟩) hM
def dV:Nat→List It→List (It × Nat)
 | _,[]=>[]
 | u,i :: l=>(i,u) :: dV (u+i.pt.lv) l
theorem tY:∀ (l:List It) (u:Nat),(dV u l).length=l.length
 | [],_=>rfl
 | i :: l,u=>by rw[dV,dR,dR,tY l]
theorem Ai {aj:List Nd}:∀ (l:List It) (ks:List Int) (u:Nat),fJ aj ks u (l.map It.pt)→ks.length=l.length∧∀ j,(h1:j<ks.length)→(h2:j<(dV u l).length)→oo aj ks[j] (dV u l)[j].2 (dV u l)[j].1.pt
 | [],ks,u,h=>by
  simp only[List.map_nil,fJ] at h;subst h;exact⟨rfl,fun j h1=>absurd h1 (by simp)⟩
 | i :: l,ks,u,h=>by
  simp only[List.map_cons,fJ] at h;obtain⟨k,ks',rfl,h1,h2⟩:=h;obtain⟨h3,h4⟩:=Ai l ks' _ h2;refine⟨by simp[h3],fun j q1 q2=>?_⟩
  cases j with
  | zero=>exact h1
  | succ j=>exact h4 j (by simpa using q1) (by simpa [dV] using q2)
theorem tZ:∀ (l:List It) (u:Nat) (p:It × Nat),p∈dV u l→p.2+p.1.pt.lv≤u+bU (l.map It.pt)
 | [],u,p,h=>by cases h
 | i :: l,u,p,h=>by
  rw[dV,List.mem_cons] at h;rw[List.map_cons,bU]
  rcases h with rfl|h
  ·simp only;omega
  ·have:=tZ l _ p h
   omega
theorem FW (ah:List Tok):∀ (l:List It) (u:Nat) (a:Zl) (j:Nat) (h:j<(dV u l).length),nN ah u (l.take (j+1)) a=(dV u l)[j].1.step ah (dV u l)[j].2 (nN ah u (l.take j) a)
 | [],u,a,j,h=>absurd h (by simp[dV])
 | i :: l,u,a,0,h=>by simp[nN,dV]
 | i :: l,u,a,j+1,h=>by
  have:=FW ah l (u+i.pt.lv) (i.step ah u a) j (by simpa [dV] using h);simp only[List.take_succ_cons,nN,this,dV,List.getElem_cons_succ]
def PT.kd:PT→Int | .leaf=>19 | .node c _=>(c:Int)
theorem OM {aj:List Nd}{k:Int}{v:Nat}{t:PT}(h:oo aj k v t):∃ (m:Nat) (x:Nd),k=m∧aj[m]?=some x∧x.kind=t.kd:=by
 cases t with
 | leaf =>
  rw[oo] at h;exact⟨k.toNat,_,by omega,h.2,rfl⟩
 | node c l =>
  rw[oo] at h;obtain⟨ks,h0,h1,_⟩:=h;exact⟨k.toNat,_,by omega,h1,rfl⟩
def It.plain:It→Bool
 | .base=>false
 | .cl _=>false
 | _=>true
theorem It.RQ (i:It)(h:i.plain=true):i.pt.kd≠5∧i.pt.kd≠6:=by
 cases i with
 | leaf=>exact⟨by decide,by decide⟩
 | par t=>exact⟨show ((4:Nat):Int)≠5 by decide,show ((4:Nat):Int)≠6 by decide⟩
 | expr e =>
  obtain⟨c,la,ea,c1,c2⟩:=e.node;simp only[It.pt,ea,PT.kd];omega
 | base=>cases h
 | cl e=>cases h
theorem It.RS {ah:List Tok}{u:Nat}{i:It}(h:i.plain=true)(a:Zl):i.step ah u a=a:=by
 cases i<;>first|rfl|cases h
def KV (a:Zl)(w:World)(e:Ending)(w':World):Prop:=∃ ao cap,e=.returned (.tuple #[.int .i64 a.base,.slice ao a.aC.length cap,.int .i64 a.bare])∧RowK (EK XA) (fun b=>w.heap.size≤b) w' (.slice ao a.aC.length cap) a.aC∧Below w.heap.size w w'
theorem row_one {x:PE}{m k:Value}{P:Nat→Prop}{w:World}{T:TypeId}(h:oZ XA P w m k x)(hP:P w.heap.size):RowK (EK XA) P (w.alloc (.cells #[.int .i64 x.op,.string ⟨x.name.toArray⟩,.string ⟨x.module.toArray⟩,.bool (decide (x.num<0)),m,.bool x.yes,k,.int .i64 x.at_] T)) (.slice (some ⟨w.heap.size,0,none⟩) 1 1) [x]:=by
 have hnw:=aY w (.cells #[.int .i64 x.op,.string ⟨x.name.toArray⟩,.string ⟨x.module.toArray⟩,.bool (decide (x.num<0)),m,.bool x.yes,k,.int .i64 x.at_] T);refine⟨[(x,(m,k))],rfl,⟨some ⟨w.heap.size,0,none⟩,1,rfl,bD _,(EK XA).NQ _,fun _=>⟨w.heap.size,0,rfl,hP,by simp,fun i hi=>?_⟩⟩,fun p hp=>?_⟩
 ·have hc:(EK XA).flat [(x,(m,k))]=[.int .i64 x.op,.string ⟨x.name.toArray⟩,.string ⟨x.module.toArray⟩,.bool (decide (x.num<0)),m,.bool x.yes,k,.int .i64 x.at_]:=rfl
  rw[aV hnw,Nat.zero_add];simp only[hc];simp only[hc,dR,gX] at hi;have h':i<(#[Value.int .i64 x.op,.string ⟨x.name.toArray⟩,.string ⟨x.module.toArray⟩,.bool (decide (x.num<0)),m,.bool x.yes,k,.int .i64 x.at_]:Array Value).size:=hi;rw[Array.getElem?_eq_getElem h']
  simp
 ·rw[List.mem_singleton] at hp
  subst hp;exact oZ.frame (aW.of (aB w _)) h
theorem uN {w:World}{b:Nat}{c0 c1 c2 c3:Value}(h:w.heap[b]?=some (.cells #[c0,c1,c2,c3] 131 (0,0))):w.cell? ⟨b,2,none⟩=some c2∧w.cell? ⟨b,3,none⟩=some c3:=by
 refine⟨?_,?_⟩<;>(rw[aV h];rfl)
theorem lH {w:World}{b:Nat}{x y:Value}(h:w.heap[b]?=some (.cells #[x,y] 126 (0,0))):w.cell? ⟨b,0,none⟩=some x∧w.cell? ⟨b,1,none⟩=some y:=by
 refine⟨?_,?_⟩<;>(rw[aV h];rfl)
theorem FX (B:Nat)(tv nv:Value)(ah:List Tok)(aj:List Nd)(i kd:Nat)(ks:List Int)(u:Nat)(its:List It)(w:World)(h:aZ B w (.agg #[tv,nv]) ah aj)(hB:B≤w.heap.size)(hn:aj[i]?=some ⟨(kd:Nat),-1,ks⟩)(hr:fJ aj ks u (its.map It.pt))(hu:u+bU (its.map It.pt)≤ah.length)(hks:ks.length≤1000000)
  (hpl:∀ v,dS ah v+(aN ah v).length≤1099511627776) (hbs:∀ v,(It.base,v)∈dV u its→aN ah v∈[QH,zO])
  (hE:∀ e v,(It.cl e,v)∈dV u its→∀ (k:Nat) (W:World),oo aj k (v+1) e.pt→aZ B W (.agg #[tv,nv]) ah aj→B≤W.heap.size→Calls Tryz.prog 108 #[.agg #[tv,nv],.int .i64 k] W (EPost XA (e.pe ah (v+1)) W)) :
  Calls Tryz.prog 106 #[.agg #[tv,nv],.int .i64 i] w (KV (nN ah u its ⟨0,[],-1⟩) w):=by
 have HE:=ay hE;have HBS:=ay hbs;have TK:=ay hpl;obtain⟨hlk,hrp⟩:=Ai its ks u hr;have HRP:=ay hrp;have HLK:Hid (ks.length=(dV u its).length):=ay (by rw[tY];exact hlk);have HU:=ay hu;have HT:=ay h;obtain⟨hi,hni⟩:=pJ hn;obtain⟨a1,c1,_,_,e⟩:=h.slices;obtain⟨b,off,cap,kv,rfl,hb,_,_,x2,hkv⟩:=h.node hi
 obtain⟨rfl,-⟩:tv=.slice a1 ah.length c1∧_:=by simpa using e
 rw[hni] at hkv;simp only at hkv;obtain⟨ak,ck,rfl,_,hf⟩:=hkv.form;have HF:=ay hf;have hal:=(bI w.heap.size w).alloc (bD _) (.cells #[.slice a1 ah.length c1,.slice (some ⟨b,off,none⟩) aj.length cap] 126);have x2':=iW hal x2;have hnr:=aY w (.cells #[.slice a1 ah.length c1,.slice (some ⟨b,off,none⟩) aj.length cap] 126);obtain⟨r0,r1⟩:=lH hnr
 have i1:(i:Int)<(aj.length:Int):=by omega
 clear hf h e hkv x2 hn hni hlk hrp hr hu hE hbs hpl;go_enter Tryz.func106,Tryz.ntmps106;go_wp2;generalize w.alloc _=w1 at hnr hal r0 r1 x2' ⊢;have hsz1:=hal.size
 go_loopw [4,5,6,18] (fun bv cv xv q wr=>∃ (j:Nat) (ao:Option Addr) (cc:Nat),j≤ks.length∧q=.int .i64 j∧bv=.int .i64 (nN ah u (its.take j) ⟨0,[],-1⟩).base∧cv=.slice ao (nN ah u (its.take j) ⟨0,[],-1⟩).aC.length cc∧xv=.int .i64 (nN ah u (its.take j) ⟨0,[],-1⟩).bare ∧
  RowK (EK XA) (fun b=>w.heap.size≤b) wr (.slice ao (nN ah u (its.take j) ⟨0,[],-1⟩).aC.length cc) (nN ah u (its.take j) ⟨0,[],-1⟩).aC∧Below w.heap.size w wr∧wr.heap[w.heap.size]?=some (.cells #[.slice a1 ah.length c1,.slice (some ⟨b,off,none⟩) aj.length cap] 126 (0,0))) (fun _ _ _ q _=>ks.length - (intOf q).toNat)
 case atStart=>exact⟨0,none,0,lI _,rfl,rfl,rfl,rfl,RowK.nil _ _ _,hal,hnr⟩
 case round =>
  obtain⟨j,ao,cc,hj,rfl,rfl,rfl,rfl,hrow,hbl,hrr⟩:=hrel;have hz:=hbl.size;have hlt:=(bS hrr).1
  by_cases hjl:j<ks.length
  ·obtain⟨bk,ok,rfl,hbk,hcell⟩:=HF.out (by omega)
   have hx:=(hbl.cell (p:=⟨bk,ok+j,none⟩) (by show bk<_;omega)).trans (hcell j hjl)
   have hjp:j<(dV u its).length:=by have:=HLK.out;omega
   have hrep:=HRP.out j hjl hjp;have hst:=FW ah its u ⟨0,[],-1⟩ j hjp;have hmem:=mX hjp;have hend:=tZ its u _ hmem;have hu:=HU.out
   have JZ:(j:Int)<(ks.length:Int):=by omega
   generalize (dV u its)[j]=it at hrep hst hmem hend;obtain⟨it,v⟩:=it;simp only at hrep hst hend;generalize ks[j]=q at hx hrep;obtain⟨m,x,rfl,hnx,hkx⟩:=OM hrep;obtain⟨hm,V5⟩:=pJ hnx;obtain⟨b',off',jE,kv',e',_,y0,_,y2,hky⟩:=HT.out.node hm
   obtain⟨⟨rfl,rfl⟩,rfl⟩:(b=b'∧off=off')∧cap=jE:=by simpa using e'
   rw[V5] at y0 hky;have y0':=(hbl.cell (p:=⟨b,off+m * 3,none⟩) (by show b<_;omega)).trans y0
   have hmI:(m:Int)<(aj.length:Int):=by omega
   obtain⟨r0',r1'⟩:=lH hrr;clear y0 e' hcell r0 r1 x2' hnr i1;generalize nN ah u (its.take j) ⟨0,[],-1⟩=a at hrow hst ⊢;have HST:=ay hst;clear hst
   cases hpn:it.plain with
   | true =>
    obtain⟨k5,k6⟩:=it.RQ hpn;rw[← hkx] at k5 k6;generalize x.kind=kx at y0' k5 k6
    have t5:(kx == 5)=false:=by rw[← Bool.not_eq_true,beq_iff_eq];exact k5
    have t6:(kx == 6)=false:=by rw[← Bool.not_eq_true,beq_iff_eq];exact k6
    have HSP:=ay (It.RS (ah:=ah) (u:=v) hpn a);clear hpn k5 k6 hkx hrep hmem hend;go_wp2
    go_roundw
    case rel =>
     have e1:=HST.out;rw[HSP.out] at e1;refine⟨j+1,ao,cc,by omega,by go_num,?_⟩;rw[e1];exact⟨rfl,rfl,rfl,hrow,hbl,hrr⟩
    case measure=>simp[intOf];omega
   | false =>
    cases it with
    | leaf=>cases hpn
    | par t=>cases hpn
    | expr e=>cases hpn
    | base =>
     obtain⟨ks2,hn2,hr2⟩:=fu (show oo aj m v (.node 5 [.leaf]) from hrep)
     obtain rfl:x=⟨(5:Nat),-1,ks2⟩:=by rw[hnx] at hn2;exact kR hn2
     obtain⟨k0,ks',rfl,hl0,hr3⟩:=bY hr2;rw[fJ] at hr3;subst hr3
     have hv:v<ah.length:=by simp only[It.pt,PT.lv,bU] at hend;omega
     have hbt:=HBS.out v hmem;have hpv:=TK.out v
     have hK:=fun W hT hW=>kF B (.slice a1 ah.length c1) (.slice (some ⟨b,off,none⟩) aj.length cap) ah aj k0 v W hT hW hl0 hv
     have htk:ah[v]=dh ah v:=by have:=jC hv;rw[yV hv] at this;exact kR this
     rw[htk] at hK;unfold pQ dJ at hK;have Ht:=HST.out;unfold It.step at Ht;unfold aN dS at Ht hpv;unfold aN at hbt;generalize dh ah v=t at hK Ht hbt hpv;obtain⟨tk,tl,tt,tp⟩:=t;simp only at hK Ht hbt hpv y0' hky;have HS2:=ay Ht;obtain⟨ak2,ck2,rfl,_,xS⟩:=hky.form;obtain⟨b2,o2,rfl,hb2,hkc⟩:=xS (by simp);have z0:=(hbl.cell (p:=⟨b2,o2+0,none⟩) (by show b2<_;omega)).trans (hkc 0 (by simp));have y2':=(hbl.cell (p:=⟨b,off+m * 3+2,none⟩) (by show b<_;omega)).trans y2;simp only[Nat.add_zero,List.getElem_cons_zero,dR,gX,Nat.zero_add] at z0 y2';have HK:=ay (fun W (hb:Below wr.heap.size wr W)=>(hK W (HT.out.below ((hbl.trans (hb.mono hz)).mono hB)) (by have:=hb.size;omega)).mono (R':=fun e w'=>e=.returned (.agg #[.int .i64 tk,.string ⟨tl.toArray⟩,.string ⟨tt.toArray⟩,.int .i64 tp])∧Below wr.heap.size wr w'∧Below W.heap.size W w') fun e w' h=>⟨h.1,hb.trans (h.2.mono hb.size),h.2⟩);clear hK Ht HST hpn hkx hrep hmem hend hn2 hr2 hl0 hky xS hkc y2 htk hnx V5
     go_upto_region 7 with fail
     go_cut [9] (fun p wc=>∃ X:Nat,p=.pointer (some ⟨X,0,none⟩)∧wc.heap[X]?=some (.cells #[.int .i64 tk,.string ⟨tl.toArray⟩,.string ⟨tt.toArray⟩,.int .i64 tp] 131 (0,0))∧Below wr.heap.size wr wc)
     case first =>
      go_region_held3 (fun w'=>w'.cell? ⟨w.heap.size,0,none⟩=some (.slice a1 ah.length c1)∧w'.cell? ⟨w.heap.size,1,none⟩=some (.slice (some ⟨b,off,none⟩) aj.length cap)∧w'.cell? ⟨b,off+m * 3+2,none⟩=some (.slice (some ⟨b2,o2,none⟩) 1 ck2)∧w'.cell? ⟨b2,o2,none⟩=some (.int .i64 k0))
       (first|go_keep|exact p3|exact⟨(bX w3 wr.heap.size _ _ _ _ (by omega)).trans p3.1,(bX w3 wr.heap.size _ _ _ _ (by omega)).trans p3.2.1,(bX w3 wr.heap.size _ _ _ _ (by omega)).trans p3.2.2.1,(bX w3 wr.heap.size _ _ _ _ (by omega)).trans p3.2.2.2⟩)
       (first|(go_at_call 61;refine(HK.out _ ?_).mono ?_;(first|exact(bI _ _).drew|exact((bI _ _).alloc (bD _) _).drew);rintro e w3 ⟨rfl,hq3,hb3⟩;have p3:=And.intro (iW hq3 r0') (And.intro (iW hq3 r1') (And.intro (iW hq3 y2') (iW hq3 z0)));try (have FT:=(hb3.block wr.heap.size (by simp)).trans (aY wr (.cells #[.int .i64 0,.string ⟨#[]⟩,.string ⟨#[]⟩,.int .i64 0] 131));obtain⟨Zr,Zt,Zu,Zv,Zw⟩:=oI FT)))
      ·clear r0' r1' y2' z0 p3
       go_wp2_with fail
       go_meet
       exact⟨w3.heap.size,rfl,aY _ _,hq3.alloc hq3.size _⟩
      ·obtain⟨S3,So,_⟩:=yH FT (.int .i64 tk) (.string ⟨tl.toArray⟩) (.string ⟨tt.toArray⟩) (.int .i64 tp)
       clear r0' r1' y2' z0 p3 Zr Zt Zu Zv Zw;go_wp2_with fail
       go_meet
       exact⟨wr.heap.size,rfl,S3,(((hq3.setCell (bD _) _).setCell (bD _) _).setCell (bD _) _).setCell (bD _) _⟩
     case rest =>
      obtain⟨X,rfl,hX,hbc⟩:=hcut;have UJ:=(hbc.block w.heap.size hlt).trans hrr;have hrow2:=hrow.frame (aW.of hbc);have Hu:=hbl.trans (hbc.mono hz);obtain⟨f2,f3⟩:=uN hX;clear r0' r1' y2' z0 HK hX hbc;simp only[List.mem_cons,List.not_mem_nil,or_false] at hbt
      rcases hbt with rfl|rfl
      ·simp only[QH,dR,gX] at hpv f2
       go_wp2
       go_roundw
       case rel =>
        have e1:=HS2.out;rw[if_neg (by decide)] at e1;refine⟨j+1,ao,cc,by omega,by go_num,?_⟩;rw[e1];exact⟨rfl,rfl,by simp[QH],hrow2,Hu,UJ⟩
       case measure=>simp[intOf];omega
      ·simp only[zO,dR,gX] at hpv f2
       go_wp2
       go_roundw
       case rel =>
        have e1:=HS2.out;rw[if_pos rfl] at e1;refine⟨j+1,ao,cc,by omega,by go_num,?_⟩;rw[e1];exact⟨rfl,rfl,by simp[zO],hrow2,Hu,UJ⟩
       case measure=>simp[intOf];omega
    | cl e =>
     obtain⟨ks2,hn2,hr2⟩:=fu (show oo aj m v (.node 6 [.leaf,e.pt,.leaf]) from hrep)
     obtain rfl:x=⟨(6:Nat),-1,ks2⟩:=by rw[hnx] at hn2;exact kR hn2
     obtain⟨k0,ks3,rfl,_,hr3⟩:=bY hr2;obtain⟨k1,ks4,rfl,hl1,hr4⟩:=FV hr3;obtain⟨k2,ks5,rfl,_,hr5⟩:=bY hr4;rw[fJ] at hr5;subst hr5;have Ht:nN ah u (its.take (j+1)) ⟨0,[],-1⟩=⟨a.base,[e.pe ah (v+1)],-1⟩:=HST.out
     have hX:=fun W (hb:Below wr.heap.size wr W)=>(HE.out e v hmem k1 W hl1 (HT.out.below ((hbl.trans (hb.mono hz)).mono hB)) (by have:=hb.size;omega)).mono fun _ _ h=>h.s
     generalize e.pe ah (v+1)=xe at Ht hX;have HX:=ay hX;have HS2:=ay Ht;simp only at y0' hky;obtain⟨ak2,ck2,rfl,_,xS⟩:=hky.form;obtain⟨b2,o2,rfl,hb2,hkc⟩:=xS (by simp);have z1:=(hbl.cell (p:=⟨b2,o2+1,none⟩) (by show b2<_;omega)).trans (hkc 1 (by simp));have y2':=(hbl.cell (p:=⟨b,off+m * 3+2,none⟩) (by show b<_;omega)).trans y2;simp only[List.getElem_cons_zero,List.getElem_cons_succ,dR,gX,Nat.zero_add] at z1 y2';clear hX Ht HST hpn hkx hrep hmem hend hn2 hr2 hr3 hr4 hl1 hky xS hkc y2 hnx V5
     go_upto_region 13 with fail
     go_region_held3 (fun w'=>w'.cell? ⟨w.heap.size,0,none⟩=some (.slice a1 ah.length c1)∧w'.cell? ⟨w.heap.size,1,none⟩=some (.slice (some ⟨b,off,none⟩) aj.length cap)∧w'.cell? ⟨b,off+m * 3+2,none⟩=some (.slice (some ⟨b2,o2,none⟩) 3 ck2)∧w'.cell? ⟨b2,o2+1,none⟩=some (.int .i64 k1))
      (first|go_keep|exact p3)
      (first|(go_at_call 108;refine(HX.out _ ((bI _ _).drew)).mono ?_;rintro e w3 ⟨am,wn,cm,ae,ce,rfl,hxe,hb3⟩;have hq3:Below wr.heap.size wr w3:=(bI wr.heap.size wr).drew.trans hb3;have p3:=And.intro (iW hq3 r0') (And.intro (iW hq3 r1') (And.intro (iW hq3 y2') (iW hq3 z1)))))
     have hw3:=hq3.size;have hone:=row_one (P:=fun b=>w.heap.size≤b) (w:=w3) (T:=64) (hxe.imp (fun b hb _=>by have:wr.drew.heap.size=wr.heap.size:=rfl;omega)) (by omega);have hbb:=hq3.alloc hq3.size (.cells #[.int .i64 xe.op,.string ⟨xe.name.toArray⟩,.string ⟨xe.module.toArray⟩,.bool (decide (xe.num<0)),.slice am wn cm,.bool xe.yes,.slice ae xe.aA.length ce,.int .i64 xe.at_] 64);have UJ:=(hbb.block w.heap.size hlt).trans hrr;have Hu:=hbl.trans (hbb.mono hz);clear r0' r1' y2' z1 p3 HX hxe hb3 hq3 hbb;go_wp2
     go_roundw
     case rel =>
      have e1:=HS2.out;refine⟨j+1,some ⟨w3.heap.size,0,none⟩,1,by omega,by go_num,?_⟩;rw[e1];exact⟨rfl,rfl,rfl,hone,Hu,UJ⟩
     case measure=>simp[intOf];omega
  ·have:j=ks.length:=by omega
   subst this;have hti:its.take ks.length=its:=Au (by have:=HLK.out;rw[tY] at this;omega);rw[hti] at hrow ⊢;have JZ:decide ((ks.length:Int)<(ks.length:Int))=false:=dA (by omega);generalize hta:nN ah u its ⟨0,[],-1⟩=a at hrow ⊢;have HTA:=ay hta;clear hta;go_wp2;refine bodyPost_ret (v:=.tuple #[.int .i64 a.base,.slice ao a.aC.length cc,.int .i64 a.bare]) (by simp[results,Tryz.results106,go_sem]) rfl ?_;rw[HTA.out];exact⟨ao,cc,rfl,hrow,hbl⟩
