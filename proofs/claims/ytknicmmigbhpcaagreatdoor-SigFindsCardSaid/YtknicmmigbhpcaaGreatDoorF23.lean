/- Walks and plain laws: ReadX, ReadW7. -/
import Derived.Test.YtknicmmigbhpcaaGreatDoorF12
set_option maxHeartbeats 16000000
set_option maxRecDepth 100000
set_option linter.unusedVariables false
set_option linter.unusedSimpArgs false
namespace Go.Proofs.YtknicmmigbhpcaaGreatDoor
open Go.RowKit Go
theorem Dc {w:World}{b:Nat}{c0 c1:Value}{T:TypeId}(h:w.heap[b]?=some (.cells #[c0,c1] T (0,0))):w.cell? ⟨b,0,none⟩=some c0∧w.cell? ⟨b,1,none⟩=some c1:=by
 constructor<;>(rw[Lib.cell_of_heap h];rfl)
theorem cells3 {w:World}{b:Nat}{c0 c1 c2:Value}{T:TypeId}(h:w.heap[b]?=some (.cells #[c0,c1,c2] T (0,0))):w.cell? ⟨b,0,none⟩=some c0∧w.cell? ⟨b,1,none⟩=some c1∧w.cell? ⟨b,2,none⟩=some c2:=by
 refine⟨?_,?_,?_⟩<;>(rw[Lib.cell_of_heap h];rfl)
theorem NR {w:World}{b:Nat}{c0 c1 c2 c3:Value}{T:TypeId}(h:w.heap[b]?=some (.cells #[c0,c1,c2,c3] T (0,0))):w.cell? ⟨b,0,none⟩=some c0∧w.cell? ⟨b,1,none⟩=some c1∧w.cell? ⟨b,2,none⟩=some c2∧w.cell? ⟨b,3,none⟩=some c3∧∀ j,w.frozen? ⟨b,j,none⟩=false:=by
 refine⟨?_,?_,?_,?_,fun j=>by simp[World.frozen?,h]⟩<;>(rw[Lib.cell_of_heap h];rfl)
theorem j3 {w:World}{b:Nat}{c0 c1 c2 c3 c4 c5 c6 c7:Value}{T:TypeId}(h:w.heap[b]?=some (.cells #[c0,c1,c2,c3,c4,c5,c6,c7] T (0,0))):(w.cell? ⟨b,0,none⟩=some c0∧w.cell? ⟨b,1,none⟩=some c1∧w.cell? ⟨b,2,none⟩=some c2∧w.cell? ⟨b,3,none⟩=some c3)∧(w.cell? ⟨b,4,none⟩=some c4∧w.cell? ⟨b,5,none⟩=some c5∧w.cell? ⟨b,6,none⟩=some c6∧w.cell? ⟨b,7,none⟩=some c7)∧∀ j,w.frozen? ⟨b,j,none⟩=false:=by
 refine⟨⟨?_,?_,?_,?_⟩,⟨?_,?_,?_,?_⟩,fun j=>by simp[World.frozen?,h]⟩<;>(rw[Lib.cell_of_heap h];rfl)
structure j4 (w:World) (c0 c1 c2 c3:Array Value) (t0 t1 t2 t3:TypeId) (W:World):Prop where
 s0:W.heap[w.heap.size]?=some (.cells c0 t0 (0,0))
 s1:W.heap[w.heap.size+1]?=some (.cells c1 t1 (0,0))
 s2:W.heap[w.heap.size+1+1]?=some (.cells c2 t2 (0,0))
 s3:W.heap[w.heap.size+1+1+1]?=some (.cells c3 t3 (0,0))
 al:Below w.heap.size w W
section
variable {w W W':World} {c0 c1 c2 c3:Array Value} {t0 t1 t2 t3:TypeId}
theorem j4.of (h:(((w.alloc (.cells c0 t0)).alloc (.cells c1 t1)).alloc (.cells c2 t2)).alloc (.cells c3 t3)=W):j4 w c0 c1 c2 c3 t0 t1 t2 t3 W:=by
 subst h
 have ho:=fun (W:World) (o:Obj) (k:Nat) (hk:k<W.heap.size)=>Lib.alloc_old W o k hk
 have g1:=heap_alloc_new (w.alloc (.cells c0 t0)) (.cells c1 t1);have g2:=heap_alloc_new ((w.alloc (.cells c0 t0)).alloc (.cells c1 t1)) (.cells c2 t2);have g3:=heap_alloc_new (((w.alloc (.cells c0 t0)).alloc (.cells c1 t1)).alloc (.cells c2 t2)) (.cells c3 t3);rw[World.size_alloc] at g1;rw[World.size_alloc,World.size_alloc] at g2;rw[World.size_alloc,World.size_alloc,World.size_alloc] at g3;refine⟨?_,?_,?_,g3,((((Below.refl w.heap.size w).alloc (Nat.le_refl _) _).alloc (by simp) _).alloc (by simp<;>omega) _).alloc (by simp<;>omega) _⟩
 ·exact(ho _ _ _ (by simp<;>omega)).trans ((ho _ _ _ (by simp<;>omega)).trans ((ho _ _ _ (by simp)).trans (heap_alloc_new w (.cells c0 t0))))
 ·exact(ho _ _ _ (by simp<;>omega)).trans ((ho _ _ _ (by simp)).trans g1)
 ·exact(ho _ _ _ (by simp)).trans g2
theorem j4.drewN (h:j4 w c0 c1 c2 c3 t0 t1 t2 t3 W)(n:Nat):j4 w c0 c1 c2 c3 t0 t1 t2 t3 (W.drewN n):=⟨h.s0,h.s1,h.s2,h.s3,below_drewN h.al n⟩
theorem j4.drew (h:j4 w c0 c1 c2 c3 t0 t1 t2 t3 W):j4 w c0 c1 c2 c3 t0 t1 t2 t3 W.drew:=⟨h.s0,h.s1,h.s2,h.s3,h.al.drew⟩
theorem j4.size (h:j4 w c0 c1 c2 c3 t0 t1 t2 t3 W):w.heap.size+1+1+1<W.heap.size:=(bG h.s3).1
theorem j4.later (h:j4 w c0 c1 c2 c3 t0 t1 t2 t3 W)(hb:Below W.heap.size W W'):j4 w c0 c1 c2 c3 t0 t1 t2 t3 W':=by
 have:=h.size;exact⟨(hb.block _ (by omega)).trans h.s0,(hb.block _ (by omega)).trans h.s1,(hb.block _ (by omega)).trans h.s2,(hb.block _ (by omega)).trans h.s3,h.al.trans (hb.mono h.al.size)⟩
end
def Rd (f B:Nat)(tv nv:Value)(toks:List Tok)(nodes:List Nd)(k:Nat)(x:PE):Prop:=∀ W:World,aP B W (.agg #[tv,nv]) toks nodes→B≤W.heap.size→Calls Tryz.prog f #[.agg #[tv,nv],.int .i64 k] W (EPost XA x W)
def RdM (B:Nat)(tv nv:Value)(toks:List Tok)(nodes:List Nd)(i:Nat)(iJ:List PE):Prop:=∀ (op at_:Nat) (W:World),aP B W (.agg #[tv,nv]) toks nodes→B≤W.heap.size→Calls Tryz.prog 180 #[.agg #[tv,nv],.int .i64 op,.int .i64 at_,.int .i64 i] W (EPost XA (.mk op [] [] 0 [] false iJ at_) W)
inductive ou (B:Nat) (tv nv:Value) (toks:List Tok) (nodes:List Nd) (i:Nat) (ks:List Int) (t:Tok):Int→PE→Prop
 | group (k1:Nat) (x:PE):ks[1]?=some (k1:Int)→Rd 113 B tv nv toks nodes k1 x→ou B tv nv toks nodes i ks t 12 x
 | bin (x:PE):Rd 178 B tv nv toks nodes i x→ou B tv nv toks nodes i ks t 10 x
 | call (x:PE):Rd 179 B tv nv toks nodes i x→ou B tv nv toks nodes i ks t 13 x
 | not (iJ:List PE):t.text=[110,111,116]→RdM B tv nv toks nodes i iJ→ou B tv nv toks nodes i ks t 11 (.mk 6 [] [] 0 [] false iJ t.place)
 | neg (iJ:List PE):t.text=[45]→RdM B tv nv toks nodes i iJ→ou B tv nv toks nodes i ks t 11 (.mk 5 [] [] 0 [] false iJ t.place)
 | iff (iJ:List PE):RdM B tv nv toks nodes i iJ→ou B tv nv toks nodes i ks t 8 (.mk 21 [] [] 0 [] false iJ t.place)
 | pG (iJ:List PE):RdM B tv nv toks nodes i iJ→ou B tv nv toks nodes i ks t 9 (.mk 23 [] [] 0 [] false iJ t.place)
 | pF (iJ:List PE) (k1:Nat) (tx:List UInt8):RdM B tv nv toks nodes i iJ→ks[1]?=some (k1:Int)→(∀ W:World,aP B W (.agg #[tv,nv]) toks nodes→B≤W.heap.size→Calls Tryz.prog 110 #[.agg #[tv,nv],.int .i64 k1] W fun e w'=>e=.returned (.string ⟨tx.toArray⟩)∧Below W.heap.size W w')→ou B tv nv toks nodes i ks t 7 (.mk 22 tx [] 0 [] false iJ t.place)
 | num (n:Nat) (txt:List UInt8):(∀ W:World,Calls Tryz.prog 181 #[.string ⟨t.text.toArray⟩] W (Uw n W))→ou B tv nv toks nodes i ks t 15 (.mk 1 [] [] (n:Nat) txt false [] t.place)
 | tru:t.text=[116,114,117,101]→ou B tv nv toks nodes i ks t 16 (.mk 2 [] [] 0 [] true [] t.place)
 | fls:t.text=[102,97,108,115,101]→ou B tv nv toks nodes i ks t 16 (.mk 2 [] [] 0 [] false [] t.place)
 | res:ou B tv nv toks nodes i ks t 17 (.mk 4 [] [] 0 [] false [] t.place)
 | Jj:ou B tv nv toks nodes i ks t 14 (.mk 3 t.text [] 0 [] false [] t.place)
theorem F3 (B:Nat)(tv nv:Value)(toks:List Tok)(nodes:List Nd)(i:Nat)(kd:Int)(ks:List Int)(w:World)(h:aP B w (.agg #[tv,nv]) toks nodes)(hB:B≤w.heap.size)(hn:nodes[i]?=some ⟨kd,-1,ks⟩)(k0:Nat)(hk0:ks[0]?=some (k0:Int))(t:Tok)(xn:Nd)(hl0:nodes[k0]?=some xn)
  (ht:(∃ u:Nat,xn=⟨19,(u:Nat),[]⟩∧toks[u]?=some t)∨(xn.kind≠19∧t=⟨0,[],[],0⟩)) (x:PE) (hx:ou B tv nv toks nodes i ks t kd x) :
  Calls Tryz.prog 113 #[.agg #[tv,nv],.int .i64 i] w (EPost XA x w):=by
 obtain⟨hi,hni⟩:=mR hn;obtain⟨hk1,hk2⟩:=mR hk0;obtain⟨hi0,acF⟩:=mR hl0;have HT:=ah h;obtain⟨a1,c1,_,_,e⟩:=h.slices;obtain⟨b,off,cap,kv,rfl,hb,x0,x1,x2,hkv⟩:=h.node hi;obtain⟨b',off',cap',kv',e',hb',y0,_,_,_⟩:=h.node hi0
 obtain⟨⟨rfl,rfl⟩,rfl⟩:(b=b'∧off=off')∧cap=cap':=by simpa using e'
 obtain⟨rfl,-⟩:tv=.slice a1 toks.length c1∧_:=by simpa using e
 rw[hni] at x0 x1 hkv;rw[acF] at y0;simp only at x0 x1 hkv;obtain⟨ak,ck,rfl,_,uT⟩:=hkv.form;obtain⟨bk,ok,rfl,hbk,hkc⟩:=uT (by omega);have hz:=hkc 0 hk1;rw[hk2,Nat.add_zero] at hz;have Tm:=ah hkc;have HL0:=ah hl0;have HX:=ah hx;have LU:=ah ht;generalize hkk:xn.kind=kk at y0;have HKK:=ah hkk;have bq:=((Below.refl w.heap.size w).alloc (Nat.le_refl _) (.cells #[.slice a1 toks.length c1,.slice (some ⟨b,off,none⟩) nodes.length cap] 132)).alloc (by simp) (.cells #[.int .i64 0,.string ⟨#[]⟩,.string ⟨#[]⟩,.bool false,.slice none 0 0,.bool false,.slice none 0 0,.int .i64 0] 46);have X0:=cell_later bq x0;have X1:=cell_later bq x1;have X2:=cell_later bq x2
 have hiI:(i:Int)<(nodes.length:Int):=by omega
 have afp:(k0:Int)<(nodes.length:Int):=by omega
 have hkl:(0:Int)<(ks.length:Int):=by omega
 have afq:0<ks.length:=by omega
 clear e e' hkv uT hkc hn hni acF hl0 hk0 hk2 h hx ht hkk bq x0 x1 x2;go_enter Tryz.func113,Tryz.ntmps113;go_wp2;generalize hw4:(((w.alloc _).alloc _).alloc _).alloc _=w4;have S:=j4.of hw4;obtain⟨r0,r1⟩:=Dc S.s0;obtain⟨n0,n1,n2⟩:=cells3 S.s2;have z4:=cell_later S.al hz;have y4:=cell_later S.al y0;clear hw4 X0 X1 X2
 go_quiet (fail)
 go_upto_if 27 with fail
 have S5:=S.drewN nq;clear r0 r1 n0 n1 n2 z4 y4 S;generalize w4.drewN nq=w5 at S5 ⊢;obtain⟨r0,r1⟩:=Dc S5.s0;obtain⟨n0,n1,n2⟩:=cells3 S5.s2
 go_cut [] (fun wc=>j4 w #[.slice a1 toks.length c1,.slice (some ⟨b,off,none⟩) nodes.length cap] #[.int .i64 0,.string ⟨#[]⟩,.string ⟨#[]⟩,.bool false,.slice none 0 0,.bool false,.slice none 0 0,.int .i64 0] #[.int .i64 kd,.int .i64 (-1),.slice (some ⟨bk,ok,none⟩) ks.length ck] #[.int .i64 t.kind,.string ⟨t.lead.toArray⟩,.string ⟨t.text.toArray⟩,.int .i64 t.place] 132 46 134 136 wc)
 case first =>
  rcases LU.out with ⟨u,hxn,hut⟩|⟨hne,rfl⟩
  ·have hkk:=HKK.out
   rw[hxn] at hkk;obtain rfl:kk=19:=hkk.symm;have hl0:=HL0.out;rw[hxn] at hl0;have z5:=cell_later S5.al hz;obtain⟨hu,acG⟩:=mR hut
   have hK:=(jC B _ _ toks nodes k0 u w5.drew (HT.out.below ((S5.al.mono hB).drew)) (by have:=S5.al.size;show B≤w5.heap.size;omega) hl0 hu)
   rw[acG] at hK;unfold mV bY at hK;have HK:=ah hK;clear hK hut acG hkk hxn hl0 hz y0;go_wp2
   go_still_tail 5,(by kernel_rfl)
   change wpList _ _ _ _ _ w5.drew;go_wp2_with (go_at_call 67;refine HK.out.mono ?_);rintro e w6 ⟨rfl,hb6⟩;have S6:=S5.drew.later hb6;obtain⟨t0,t1,t2,t3,tz⟩:=NR S6.s3;obtain⟨S3,So,Sz⟩:=vK S6.s3 (.int .i64 t.kind) (.string ⟨t.lead.toArray⟩) (.string ⟨t.text.toArray⟩) (.int .i64 t.place);clear z5 r0 r1 n0 n1 n2;go_wp2
   go_meet
   exact⟨(So _ (by omega)).trans S6.s0,(So _ (by omega)).trans S6.s1,(So _ (by omega)).trans S6.s2,S3,(((S6.al.setCell (by show _≤w.heap.size+1+1+1;omega) _).setCell (by show _≤w.heap.size+1+1+1;omega) _).setCell (by show _≤w.heap.size+1+1+1;omega) _).setCell (by show _≤w.heap.size+1+1+1;omega) _⟩
  ·have acv:(kk == 19)=false:=by rw[← HKK.out,← Bool.not_eq_true,beq_iff_eq];exact hne
   clear hz y0;go_wp2
   go_meet
   exact S5
 case rest =>
  have S:=hcut
  obtain⟨w7,rfl⟩:∃ w7:World,w7=wc:=⟨_,rfl⟩
  clear hcut S5 r0 r1 n0 n1 n2 hz y0 LU HKK HL0;obtain⟨r0,r1⟩:=Dc S.s0;obtain⟨n0,n1,n2⟩:=cells3 S.s2;have hs:=S.size;have VP:=HT.out.below (S.al.mono hB);have Z8:=Nat.le_trans hB S.al.size;have hx:=HX.out;clear HX;obtain⟨f0,f1,f2,f3,fz⟩:=NR S.s3
  cases hx with
  | group k1 _ h1 hF =>
   obtain⟨hp1,hp2⟩:=mR h1;have z1:=cell_later S.al (Tm.out 1 hp1);rw[hp2] at z1
   have aa3:(1:Int)<(ks.length:Int):=by omega
   have RN:=ah ((hF w7.drew (HT.out.below ((S.al.mono hB).drew)) Z8).mono fun _ _ h=>h.s);clear hF h1 hp2;go_wp2
   go_still_tail 5,(by kernel_rfl)
   change wpList _ _ _ _ _ w7.drew;go_wp2_with (go_at_call 113;refine RN.out.mono ?_);rintro e w8 ⟨am,wn,cm,ae,ce,rfl,hxe,jr⟩;have D1:=(jr.block (w.heap.size+1) (show w.heap.size+1<w7.heap.size by omega)).trans S.s1;clear r0 r1 n0 n1 n2 f0 f1 f2 f3;obtain⟨⟨d0,d1,d2,d3⟩,⟨d4,d5,d6,d7⟩,dz⟩:=j3 D1;go_wp2;refine bodyPost_ret (v:=.agg #[.int .i64 x.op,.string ⟨x.name.toArray⟩,.string ⟨x.module.toArray⟩,.bool (decide (x.num<0)),.slice am wn cm,.bool x.yes,.slice ae x.kids.length ce,.int .i64 x.at_]) (by simp[results,Tryz.results113,go_sem,d0,d1,d2,d3,d4,d5,d6,d7]) rfl ⟨_,_,rfl,(EPost.store (w0:=w) (b:=w.heap.size+1) hxe jr S.al.drew (by omega) (by have:=S.al.size;first|omega|(show w.heap.size+1<w7.heap.size;omega)) _ _ _ _ _ _ _ _).1,(EPost.store (w0:=w) (b:=w.heap.size+1) hxe jr S.al.drew (by omega) (by have:=S.al.size;first|omega|(show w.heap.size+1<w7.heap.size;omega)) _ _ _ _ _ _ _ _).2⟩
  | bin _ hF =>
   have RN:=ah ((hF w7 VP Z8).mono fun _ _ h=>h.s);clear hF;go_wp2_with (go_at_call 178;refine RN.out.mono ?_);rintro e w8 ⟨am,wn,cm,ae,ce,rfl,hxe,jr⟩;have D1:=(jr.block (w.heap.size+1) (show w.heap.size+1<w7.heap.size by omega)).trans S.s1;clear r0 r1 n0 n1 n2 f0 f1 f2 f3;obtain⟨⟨d0,d1,d2,d3⟩,⟨d4,d5,d6,d7⟩,dz⟩:=j3 D1;go_wp2;refine bodyPost_ret (v:=.agg #[.int .i64 x.op,.string ⟨x.name.toArray⟩,.string ⟨x.module.toArray⟩,.bool (decide (x.num<0)),.slice am wn cm,.bool x.yes,.slice ae x.kids.length ce,.int .i64 x.at_]) (by simp[results,Tryz.results113,go_sem,d0,d1,d2,d3,d4,d5,d6,d7]) rfl ⟨_,_,rfl,(EPost.store (w0:=w) (b:=w.heap.size+1) hxe jr S.al (by omega) (by have:=S.al.size;first|omega|(show w.heap.size+1<w7.heap.size;omega)) _ _ _ _ _ _ _ _).1,(EPost.store (w0:=w) (b:=w.heap.size+1) hxe jr S.al (by omega) (by have:=S.al.size;first|omega|(show w.heap.size+1<w7.heap.size;omega)) _ _ _ _ _ _ _ _).2⟩
  | call _ hF =>
   have RN:=ah ((hF w7 VP Z8).mono fun _ _ h=>h.s);clear hF;go_wp2_with (go_at_call 179;refine RN.out.mono ?_);rintro e w8 ⟨am,wn,cm,ae,ce,rfl,hxe,jr⟩;have D1:=(jr.block (w.heap.size+1) (show w.heap.size+1<w7.heap.size by omega)).trans S.s1;clear r0 r1 n0 n1 n2 f0 f1 f2 f3;obtain⟨⟨d0,d1,d2,d3⟩,⟨d4,d5,d6,d7⟩,dz⟩:=j3 D1;go_wp2;refine bodyPost_ret (v:=.agg #[.int .i64 x.op,.string ⟨x.name.toArray⟩,.string ⟨x.module.toArray⟩,.bool (decide (x.num<0)),.slice am wn cm,.bool x.yes,.slice ae x.kids.length ce,.int .i64 x.at_]) (by simp[results,Tryz.results113,go_sem,d0,d1,d2,d3,d4,d5,d6,d7]) rfl ⟨_,_,rfl,(EPost.store (w0:=w) (b:=w.heap.size+1) hxe jr S.al (by omega) (by have:=S.al.size;first|omega|(show w.heap.size+1<w7.heap.size;omega)) _ _ _ _ _ _ _ _).1,(EPost.store (w0:=w) (b:=w.heap.size+1) hxe jr S.al (by omega) (by have:=S.al.size;first|omega|(show w.heap.size+1<w7.heap.size;omega)) _ _ _ _ _ _ _ _).2⟩
  | not iJ htx hM =>
   have RN:=ah ((hM 6 t.place w7 VP Z8).mono fun _ _ h=>h.m);rw[htx] at f2;clear htx;clear hM;go_wp2_with (go_at_call 180;refine RN.out.mono ?_);rintro e w8 ⟨am,wn,cm,ae,ce,rfl,hxe,jr⟩;have D1:=(jr.block (w.heap.size+1) (show w.heap.size+1<w7.heap.size by omega)).trans S.s1;clear r0 r1 n0 n1 n2 f0 f1 f2 f3;obtain⟨⟨d0,d1,d2,d3⟩,⟨d4,d5,d6,d7⟩,dz⟩:=j3 D1;go_wp2;refine bodyPost_ret (v:=.agg #[.int .i64 6,.string ⟨#[]⟩,.string ⟨#[]⟩,.bool false,.slice am wn cm,.bool false,.slice ae iJ.length ce,.int .i64 t.place]) (by simp[results,Tryz.results113,go_sem,d0,d1,d2,d3,d4,d5,d6,d7]) rfl ⟨_,_,rfl,(EPost.store (w0:=w) (b:=w.heap.size+1) hxe jr S.al (by omega) (by have:=S.al.size;first|omega|(show w.heap.size+1<w7.heap.size;omega)) _ _ _ _ _ _ _ _).1,(EPost.store (w0:=w) (b:=w.heap.size+1) hxe jr S.al (by omega) (by have:=S.al.size;first|omega|(show w.heap.size+1<w7.heap.size;omega)) _ _ _ _ _ _ _ _).2⟩
  | neg iJ htx hM =>
   have RN:=ah ((hM 5 t.place w7 VP Z8).mono fun _ _ h=>h.m);rw[htx] at f2;clear htx;clear hM;go_wp2_with (go_at_call 180;refine RN.out.mono ?_);rintro e w8 ⟨am,wn,cm,ae,ce,rfl,hxe,jr⟩;have D1:=(jr.block (w.heap.size+1) (show w.heap.size+1<w7.heap.size by omega)).trans S.s1;clear r0 r1 n0 n1 n2 f0 f1 f2 f3;obtain⟨⟨d0,d1,d2,d3⟩,⟨d4,d5,d6,d7⟩,dz⟩:=j3 D1;go_wp2;refine bodyPost_ret (v:=.agg #[.int .i64 5,.string ⟨#[]⟩,.string ⟨#[]⟩,.bool false,.slice am wn cm,.bool false,.slice ae iJ.length ce,.int .i64 t.place]) (by simp[results,Tryz.results113,go_sem,d0,d1,d2,d3,d4,d5,d6,d7]) rfl ⟨_,_,rfl,(EPost.store (w0:=w) (b:=w.heap.size+1) hxe jr S.al (by omega) (by have:=S.al.size;first|omega|(show w.heap.size+1<w7.heap.size;omega)) _ _ _ _ _ _ _ _).1,(EPost.store (w0:=w) (b:=w.heap.size+1) hxe jr S.al (by omega) (by have:=S.al.size;first|omega|(show w.heap.size+1<w7.heap.size;omega)) _ _ _ _ _ _ _ _).2⟩
  | iff iJ hM =>
   have RN:=ah ((hM 21 t.place w7 VP Z8).mono fun _ _ h=>h.m);clear hM;go_wp2_with (go_at_call 180;refine RN.out.mono ?_);rintro e w8 ⟨am,wn,cm,ae,ce,rfl,hxe,jr⟩;have D1:=(jr.block (w.heap.size+1) (show w.heap.size+1<w7.heap.size by omega)).trans S.s1;clear r0 r1 n0 n1 n2 f0 f1 f2 f3;obtain⟨⟨d0,d1,d2,d3⟩,⟨d4,d5,d6,d7⟩,dz⟩:=j3 D1;go_wp2;refine bodyPost_ret (v:=.agg #[.int .i64 21,.string ⟨#[]⟩,.string ⟨#[]⟩,.bool false,.slice am wn cm,.bool false,.slice ae iJ.length ce,.int .i64 t.place]) (by simp[results,Tryz.results113,go_sem,d0,d1,d2,d3,d4,d5,d6,d7]) rfl ⟨_,_,rfl,(EPost.store (w0:=w) (b:=w.heap.size+1) hxe jr S.al (by omega) (by have:=S.al.size;first|omega|(show w.heap.size+1<w7.heap.size;omega)) _ _ _ _ _ _ _ _).1,(EPost.store (w0:=w) (b:=w.heap.size+1) hxe jr S.al (by omega) (by have:=S.al.size;first|omega|(show w.heap.size+1<w7.heap.size;omega)) _ _ _ _ _ _ _ _).2⟩
  | pG iJ hM =>
   have RN:=ah ((hM 23 t.place w7 VP Z8).mono fun _ _ h=>h.m);clear hM;go_wp2_with (go_at_call 180;refine RN.out.mono ?_);rintro e w8 ⟨am,wn,cm,ae,ce,rfl,hxe,jr⟩;have D1:=(jr.block (w.heap.size+1) (show w.heap.size+1<w7.heap.size by omega)).trans S.s1;clear r0 r1 n0 n1 n2 f0 f1 f2 f3;obtain⟨⟨d0,d1,d2,d3⟩,⟨d4,d5,d6,d7⟩,dz⟩:=j3 D1;go_wp2;refine bodyPost_ret (v:=.agg #[.int .i64 23,.string ⟨#[]⟩,.string ⟨#[]⟩,.bool false,.slice am wn cm,.bool false,.slice ae iJ.length ce,.int .i64 t.place]) (by simp[results,Tryz.results113,go_sem,d0,d1,d2,d3,d4,d5,d6,d7]) rfl ⟨_,_,rfl,(EPost.store (w0:=w) (b:=w.heap.size+1) hxe jr S.al (by omega) (by have:=S.al.size;first|omega|(show w.heap.size+1<w7.heap.size;omega)) _ _ _ _ _ _ _ _).1,(EPost.store (w0:=w) (b:=w.heap.size+1) hxe jr S.al (by omega) (by have:=S.al.size;first|omega|(show w.heap.size+1<w7.heap.size;omega)) _ _ _ _ _ _ _ _).2⟩
  | pF iJ k1 tx hM h1 hX =>
   obtain⟨hp1,hp2⟩:=mR h1;have acH:=Tm.out 1 hp1;rw[hp2] at acH;have HM':=ah ((hM 22 t.place w7 VP Z8).mono fun _ _ h=>h.m);have HXX:=ah hX;clear hM h1 hp2 hX;go_wp2_with (go_at_call 180;refine HM'.out.mono ?_);rintro e w8 ⟨am,wn,cm,ae,ce,rfl,hxe,jr⟩;have S8:=S.later jr;have hz8:=jr.size;clear r0 r1 n0 n1 n2 f0 f1 f2 f3 fz
   go_upto_region 22 with (fail)
   have ha9:=aj w8 (.cells #[.int .i64 22,.string ⟨#[]⟩,.string ⟨#[]⟩,.bool false,.slice am wn cm,.bool false,.slice ae iJ.length ce,.int .i64 t.place] 46);have N9:=heap_alloc_new w8 (.cells #[.int .i64 22,.string ⟨#[]⟩,.string ⟨#[]⟩,.bool false,.slice am wn cm,.bool false,.slice ae iJ.length ce,.int .i64 t.place] 46);have NS:=(hxe.imp (fun b hb hlt=>(⟨hb,hlt⟩:w7.heap.size≤b∧b<w8.heap.size))).frame (w':=w8.alloc (.cells #[.int .i64 22,.string ⟨#[]⟩,.string ⟨#[]⟩,.bool false,.slice am wn cm,.bool false,.slice ae iJ.length ce,.int .i64 t.place] 46)) ⟨by simp,fun b _ hb=>Lib.alloc_old _ _ _ hb⟩
   have hs9:(w8.alloc (.cells #[.int .i64 22,.string ⟨#[]⟩,.string ⟨#[]⟩,.bool false,.slice am wn cm,.bool false,.slice ae iJ.length ce,.int .i64 t.place] 46)).heap.size=w8.heap.size+1:=by simp
   have S9:=S8.later ha9;clear ha9;generalize w8.alloc _=w9 at N9 NS hs9 S9 ⊢;have k1c:=cell_later S9.al acH;obtain⟨r0,r1⟩:=Dc S9.s0;obtain⟨n0,n1,n2⟩:=cells3 S9.s2
   have aa3:(1:Int)<(ks.length:Int):=by omega
   have Tp:=ah (HXX.out w9.drew (HT.out.below ((S9.al.mono hB).drew)) (show B≤w9.heap.size by have:=S9.al.size;omega))
   go_still_tail 5,(by kernel_rfl)
   change wpList _ _ _ _ _ w9.drew;go_wp2_with (go_at_call 110;refine Tp.out.mono ?_);rintro e jR ⟨rfl,oL⟩;have lG:Below w9.heap.size w9 jR:=(Below.refl w9.heap.size w9).drew.trans oL;have S10:=S9.later lG;have E9:=(lG.block w8.heap.size (by omega)).trans N9;obtain⟨⟨_,e0,_,_⟩,_,ez⟩:=j3 E9;have Ij:=NS.frame (aQ.of lG);clear r0 r1 n0 n1 n2 k1c N9 oL lG NS;have E9':=heap_setCell_same jR w8.heap.size 1 _ _ (.string ⟨tx.toArray⟩) E9;have E1':=(heap_setCell_other jR ⟨w8.heap.size,1,none⟩ (w.heap.size+1) (.string ⟨tx.toArray⟩) (by show w.heap.size+1≠w8.heap.size;omega)).trans S10.s1;have Z9:=S10.al.setCell (p:=⟨w8.heap.size,1,none⟩) (by show w.heap.size≤w8.heap.size;omega) (.string ⟨tx.toArray⟩);have acI:=Ij.frame (aQ.set (a:=⟨w8.heap.size,1,none⟩) (.string ⟨tx.toArray⟩) fun b hb=>by show b≠w8.heap.size;omega)
   go_upto_region 23 with (fail)
   generalize jR.setCell _ _=sN at E9' E1' Z9 acI ⊢;obtain⟨⟨b0,b1,b2,b3⟩,⟨b4,b5,b6,b7⟩,_⟩:=j3 (show sN.heap[w8.heap.size]?=some (.cells #[.int .i64 22,.string ⟨tx.toArray⟩,.string ⟨#[]⟩,.bool false,.slice am wn cm,.bool false,.slice ae iJ.length ce,.int .i64 t.place] 46 (0,0)) from E9');obtain⟨⟨d0,d1,d2,d3⟩,⟨d4,d5,d6,d7⟩,dz⟩:=j3 E1';clear e0 ez E9;go_wp2;refine bodyPost_ret (v:=.agg #[.int .i64 22,.string ⟨tx.toArray⟩,.string ⟨#[]⟩,.bool false,.slice am wn cm,.bool false,.slice ae iJ.length ce,.int .i64 t.place]) (by simp[results,Tryz.results113,go_sem,d0,d1,d2,d3,d4,d5,d6,d7]) rfl ⟨.slice am wn cm,.slice ae iJ.length ce,rfl,?_,iX Z9 (by omega) _ _ _ _ _ _ _ _⟩
   have hq:=(acI.frame (sP _ _ (w.heap.size+1) (.int .i64 22) (.string ⟨tx.toArray⟩) (.string ⟨#[]⟩) (.bool false) (.slice am wn cm) (.bool false) (.slice ae iJ.length ce) (.int .i64 t.place) fun k hk=>by omega)).imp (Q:=fun b=>w.heap.size≤b) fun b hb _=>by omega
   rw[kI] at hq ⊢;exact hq
  | num n txt hZ =>
   have HZ:=ah (hZ w7);clear hZ;go_wp2_with (go_at_call 181;refine HZ.out.mono ?_);rintro e w8 ⟨am,wn,cm,rfl,Ap,jr⟩;have S8:=S.later jr;clear r0 r1 n0 n1 n2 f0 f1 f2 f3 fz
   go_upto_region 26 with (fail)
   have ha9:=aj w8 (.cells #[.bool false,.slice am wn cm] 44);have N9:=heap_alloc_new w8 (.cells #[.bool false,.slice am wn cm] 44);have hn9:=XA.frame (P:=fun b=>w7.heap.size≤b) (w:=w8) (w':=w8.alloc (.cells #[.bool false,.slice am wn cm] 44)) (n:=(n:Nat)) (m:=.slice am wn cm) Ap ⟨by simp,fun b _ hb=>Lib.alloc_old _ _ _ hb⟩;have S9:=S8.later ha9;clear ha9;generalize w8.alloc _=w9 at N9 hn9 S9 ⊢;obtain⟨_,_,_,f3,_⟩:=NR S9.s3;obtain⟨b0,b1⟩:=Dc N9;obtain⟨⟨d0,d1,d2,d3⟩,⟨d4,d5,d6,d7⟩,dz⟩:=j3 S9.s1;go_wp2;refine bodyPost_ret (v:=.agg #[.int .i64 1,.string ⟨#[]⟩,.string ⟨#[]⟩,.bool false,.slice am wn cm,.bool false,.slice none 0 0,.int .i64 t.place]) (by simp[results,Tryz.results113,go_sem,d0,d1,d2,d3,d4,d5,d6,d7]) rfl ⟨.slice am wn cm,.slice none 0 0,aaP _ _ _ _ _,?_,iX S9.al (by omega) _ _ _ _ _ _ _ _⟩;rw[kI];exact⟨XA.imp (XA.frame hn9 (sP _ _ (w.heap.size+1) (.int .i64 1) (.string ⟨#[]⟩) (.string ⟨#[]⟩) (.bool false) (.slice am wn cm) (.bool false) (.slice none 0 0) (.int .i64 t.place) fun k hk=>by omega)) (fun b hb _=>by omega),[],lS.nil _ _ _,by rw[fJ]⟩
  | tru htx =>
   rw[htx] at f2;clear htx;obtain⟨⟨d0,d1,d2,d3⟩,⟨d4,d5,d6,d7⟩,dz⟩:=j3 S.s1;go_wp2;refine bodyPost_ret (v:=.agg #[.int .i64 2,.string ⟨#[]⟩,.string ⟨#[]⟩,.bool false,.slice none 0 0,.bool true,.slice none 0 0,.int .i64 t.place]) (by simp[results,Tryz.results113,go_sem,d0,d1,d2,d3,d4,d5,d6,d7]) rfl ⟨.slice none 0 0,.slice none 0 0,rfl,?_,iX S.al (by omega) _ _ _ _ _ _ _ _⟩;rw[kI];exact⟨kN.zero _ _,[],lS.nil _ _ _,by rw[fJ]⟩
  | fls htx =>
   rw[htx] at f2;clear htx;obtain⟨⟨d0,d1,d2,d3⟩,⟨d4,d5,d6,d7⟩,dz⟩:=j3 S.s1;go_wp2;refine bodyPost_ret (v:=.agg #[.int .i64 2,.string ⟨#[]⟩,.string ⟨#[]⟩,.bool false,.slice none 0 0,.bool false,.slice none 0 0,.int .i64 t.place]) (by simp[results,Tryz.results113,go_sem,d0,d1,d2,d3,d4,d5,d6,d7]) rfl ⟨.slice none 0 0,.slice none 0 0,rfl,?_,iX S.al (by omega) _ _ _ _ _ _ _ _⟩;rw[kI];exact⟨kN.zero _ _,[],lS.nil _ _ _,by rw[fJ]⟩
  | res =>
   obtain⟨⟨d0,d1,d2,d3⟩,⟨d4,d5,d6,d7⟩,dz⟩:=j3 S.s1;go_wp2;refine bodyPost_ret (v:=.agg #[.int .i64 4,.string ⟨#[]⟩,.string ⟨#[]⟩,.bool false,.slice none 0 0,.bool false,.slice none 0 0,.int .i64 t.place]) (by simp[results,Tryz.results113,go_sem,d0,d1,d2,d3,d4,d5,d6,d7]) rfl ⟨.slice none 0 0,.slice none 0 0,rfl,?_,iX S.al (by omega) _ _ _ _ _ _ _ _⟩;rw[kI];exact⟨kN.zero _ _,[],lS.nil _ _ _,by rw[fJ]⟩
  | Jj =>
   obtain⟨⟨d0,d1,d2,d3⟩,⟨d4,d5,d6,d7⟩,dz⟩:=j3 S.s1;go_wp2;refine bodyPost_ret (v:=.agg #[.int .i64 3,.string ⟨t.text.toArray⟩,.string ⟨#[]⟩,.bool false,.slice none 0 0,.bool false,.slice none 0 0,.int .i64 t.place]) (by simp[results,Tryz.results113,go_sem,d0,d1,d2,d3,d4,d5,d6,d7]) rfl ⟨.slice none 0 0,.slice none 0 0,rfl,?_,iX S.al (by omega) _ _ _ _ _ _ _ _⟩;rw[kI];exact⟨kN.zero _ _,[],lS.nil _ _ _,by rw[fJ]⟩
def VQ:Array Value:=(nS.map fun x=>Value.string ⟨x.toArray⟩).toArray
def rR (k:Nat):ByteArray:=⟨(nS.getD k []).toArray⟩
theorem Ik (w:World):Calls Tryz.prog 239 #[] w fun e w'=>e=.returned (.agg VQ)∧Below w.heap.size w w':=by
 go_enter Tryz.func239,Tryz.ntmps239
 apply wp_seq_k
 intro K0 hK0;have HK:=ah hK0;clear hK0;go_wp2
 apply HK.out
 apply wp_seq_k
 intro K1 hK1
 apply wp_region_lit
 refine wpList_buildTo rfl 280 _ rfl (some 1) rfl VQ (by kernel_rfl) ?_;refine wpList_store_rowTo rfl 280 _ _ rfl rfl w.heap.size VQ rfl rfl 280 _ (heap_alloc_new _ _) (by kernel_rfl) (by decide) (by kernel_rfl) ?_;rw[World.setRow_alloc_new]
 apply wpList_nil
 apply hK1
 go_wp2;refine bodyPost_ret (v:=.agg VQ) (results_cell_row rfl _ _ w.heap.size 280 _ (0,0) _ rfl (heap_alloc_new _ _) Tryz.underlying280 rfl (by kernel_rfl)) rfl ⟨rfl,(Below.refl _ _).alloc (Nat.le_refl _) _⟩
theorem RO:∀ k:Nat,k<14→∀ w:World,(Instr.index 280 (.agg VQ) (.int .i64 k)).run Tryz.prog w=.ok (.string (rR k)) w
 | 0,_=>fun _=>by kernel_rfl
 | 1,_=>fun _=>by kernel_rfl
 | 2,_=>fun _=>by kernel_rfl
 | 3,_=>fun _=>by kernel_rfl
 | 4,_=>fun _=>by kernel_rfl
 | 5,_=>fun _=>by kernel_rfl
 | 6,_=>fun _=>by kernel_rfl
 | 7,_=>fun _=>by kernel_rfl
 | 8,_=>fun _=>by kernel_rfl
 | 9,_=>fun _=>by kernel_rfl
 | 10,_=>fun _=>by kernel_rfl
 | 11,_=>fun _=>by kernel_rfl
 | 12,_=>fun _=>by kernel_rfl
 | 13,_=>fun _=>by kernel_rfl
 | n+14,h=>absurd h (by omega)
theorem RP:∀ j,j<14→∀ k,k<14→nS.getD j []=nS.getD k []→j=k:=by decide
theorem Df (k:Nat):(rR k).toList=nS.getD k []:=by rw[Go.ByteArray.toList_eq];rfl
theorem aa4 (j k:Nat)(hj:j<14)(hk:k<14)(h:j≠k):((rR j).toList == (rR k).toList)=false:=by
 rw[← Bool.not_eq_true,beq_iff_eq,Df,Df]
 exact fun q=>h (RP j hj k hk q)
theorem VR (k:Nat):((rR k).toList == (rR k).toList)=true:=by rw[beq_iff_eq]
theorem YW {x:List UInt8}(h:x∈nS):nS.idxOf x<14∧(ByteArray.mk x.toArray)=rR (nS.idxOf x):=by
 have h1:nS.idxOf x<14:=List.idxOf_lt_length_of_mem h;refine⟨h1,?_⟩;unfold rR
 have h2:nS.getD (nS.idxOf x) []=x:=by
  rw[List.getD_eq_getElem?_getD,List.getElem?_eq_getElem (List.idxOf_lt_length_of_mem h),Option.getD_some,List.getElem_idxOf]
 rw[h2]
theorem bD (w:World)(b:Nat)(v0 v1 v2 v3:Value){k j:Nat}(h:k≠b):((((w.setCell ⟨b,0,none⟩ v0).setCell ⟨b,1,none⟩ v1).setCell ⟨b,2,none⟩ v2).setCell ⟨b,3,none⟩ v3).cell? ⟨k,j,none⟩=w.cell? ⟨k,j,none⟩:=by
 refine World.cell?_of_block (a:=⟨k,j,none⟩) ?_;show ((((w.setCell ⟨b,0,none⟩ v0).setCell ⟨b,1,none⟩ v1).setCell ⟨b,2,none⟩ v2).setCell ⟨b,3,none⟩ v3).heap[k]?=w.heap[k]?;rw[heap_setCell_other _ _ _ _ h,heap_setCell_other _ _ _ _ h,heap_setCell_other _ _ _ _ h,heap_setCell_other _ _ _ _ h]
theorem l7 {w:World}{b:Nat}(h:w.heap[b]?=some (.cells #[.int .i64 0,.string ⟨#[]⟩,.string ⟨#[]⟩,.int .i64 0] 136 (0,0))) :
  w.cell? ⟨b,0,none⟩=some (.int .i64 0)∧w.cell? ⟨b,1,none⟩=some (.string ⟨#[]⟩)∧w.cell? ⟨b,2,none⟩=some (.string ⟨#[]⟩)∧w.cell? ⟨b,3,none⟩=some (.int .i64 0)∧∀ j,w.frozen? ⟨b,j,none⟩=false :=
 ⟨by rw[Lib.cell_of_heap h];rfl,by rw[Lib.cell_of_heap h];rfl,by rw[Lib.cell_of_heap h];rfl,by rw[Lib.cell_of_heap h];rfl,by intro j;simp[World.frozen?,h]⟩
theorem KO (iJ:List PE)(B:Nat)(tv nv:Value)(toks:List Tok)(nodes:List Nd)(i:Nat)(ks:List Int)(w:World)(h:aP B w (.agg #[tv,nv]) toks nodes)(hB:B≤w.heap.size)(hn:nodes[i]?=some ⟨10,-1,ks⟩)
  (k1 u1:Nat) (hq1:ks[1]?=some (k1:Int)) (hl1:nodes[k1]?=some ⟨19,(u1:Nat),[]⟩) (tk1:Tok) (VT:toks[u1]?=some tk1) (htx:tk1.text∈nS)
  (hM:∀ (op at_:Nat) (W:World),aP B W (.agg #[tv,nv]) toks nodes→B≤W.heap.size→Calls Tryz.prog 180 #[.agg #[tv,nv],.int .i64 op,.int .i64 at_,.int .i64 i] W (EPost XA (.mk op [] [] 0 [] false iJ at_) W)) :
  Calls Tryz.prog 178 #[.agg #[tv,nv],.int .i64 i] w (EPost XA (.mk (7+nS.idxOf tk1.text) [] [] 0 [] false iJ tk1.place) w):=by
 have HM:=ah hM;obtain⟨acJ,hmt⟩:=YW htx;obtain⟨hu1,KP⟩:=mR VT;obtain⟨hp1,hp2⟩:=mR hq1;have HK:=ah (fun W hT hW=>jC B tv nv toks nodes k1 u1 W hT hW hl1 hu1);rw[KP] at HK;unfold mV bY at HK;rw[hmt] at HK;generalize nS.idxOf tk1.text=m at acJ HK ⊢
 obtain⟨N,hN⟩:∃ N,7+m=N:=⟨_,rfl⟩
 rw[hN];have HN:=ah hN;clear hN;obtain⟨hi,hni⟩:=mR hn;have HT:=ah h;obtain⟨a1,c1,_,_,e⟩:=h.slices;obtain⟨b,off,cap,kv,rfl,hb,x0,x1,x2,hkv⟩:=h.node hi
 obtain⟨rfl,-⟩:tv=.slice a1 toks.length c1∧_:=by simpa using e
 rw[hni] at hkv;simp only at hkv;obtain⟨ak,ck,rfl,_,uT⟩:=hkv.form;obtain⟨bk,ok,rfl,hbk,hkc⟩:=uT (by omega);have hz:=hkc 1 hp1;rw[hp2] at hz;clear e hkv uT hkc hn hni x0 x1 VT KP hq1 hp2 hl1 hM htx hmt;have bq:=((Below.refl w.heap.size w).alloc (Nat.le_refl _) (.cells #[.slice a1 toks.length c1,.slice (some ⟨b,off,none⟩) nodes.length cap] 132)).alloc (by simp) (.cells #[.int .i64 0,.string ⟨#[]⟩,.string ⟨#[]⟩,.bool false,.slice none 0 0,.bool false,.slice none 0 0,.int .i64 0] 46);have X2:=cell_later bq x2;have Z2:=cell_later bq hz;have g0:=(Lib.alloc_old _ (.cells #[.int .i64 0,.string ⟨#[]⟩,.string ⟨#[]⟩,.bool false,.slice none 0 0,.bool false,.slice none 0 0,.int .i64 0] 46) w.heap.size (by simp)).trans (heap_alloc_new w (.cells #[.slice a1 toks.length c1,.slice (some ⟨b,off,none⟩) nodes.length cap] 132));have g1:=heap_alloc_new (w.alloc (.cells #[.slice a1 toks.length c1,.slice (some ⟨b,off,none⟩) nodes.length cap] 132)) (.cells #[.int .i64 0,.string ⟨#[]⟩,.string ⟨#[]⟩,.bool false,.slice none 0 0,.bool false,.slice none 0 0,.int .i64 0] 46);rw[World.size_alloc] at g1
 have hiI:(i:Int)<(nodes.length:Int):=by omega
 have aa3:(1:Int)<(ks.length:Int):=by omega
 have Po:=HT.out;clear h x2 hz;go_enter Tryz.func178,Tryz.ntmps178
 go_upto_region 1 with (fail)
 generalize (w.alloc _).alloc _=w2 at g0 g1 bq X2 Z2 ⊢
 have r0:w2.cell? ⟨w.heap.size,0,none⟩=some (.slice a1 toks.length c1):=by rw[Lib.cell_of_heap g0];rfl
 have r1:w2.cell? ⟨w.heap.size,1,none⟩=some (.slice (some ⟨b,off,none⟩) nodes.length cap):=by rw[Lib.cell_of_heap g0];rfl
 have VU:=ah (fun W (hb:Below w2.heap.size w2 W)=>(HK.out W (Po.below ((bq.trans (hb.mono bq.size)).mono hB)) (by have:=bq.size;have:=hb.size;omega)).mono (R':=fun e w'=>e=.returned (.agg #[.int .i64 tk1.kind,.string ⟨tk1.lead.toArray⟩,.string (rR m),.int .i64 tk1.place])∧Below w2.heap.size w2 w'∧Below W.heap.size W w') fun e w' h=>⟨h.1,hb.trans (h.2.mono hb.size),h.2⟩);have hlt2:w.heap.size+1<w2.heap.size:=(bG g1).1
 go_cut [5] (fun p wc=>∃ X:Nat,p=.pointer (some ⟨X,0,none⟩)∧wc.heap[X]?=some (.cells #[.int .i64 tk1.kind,.string ⟨tk1.lead.toArray⟩,.string (rR m),.int .i64 tk1.place] 136 (0,0))∧wc.heap[w.heap.size]?=some (.cells #[.slice a1 toks.length c1,.slice (some ⟨b,off,none⟩) nodes.length cap] 132 (0,0))∧wc.heap[w.heap.size+1]?=some (.cells #[.int .i64 0,.string ⟨#[]⟩,.string ⟨#[]⟩,.bool false,.slice none 0 0,.bool false,.slice none 0 0,.int .i64 0] 46 (0,0))∧Below w.heap.size w wc)
 case first =>
  go_region_held3 (fun w'=>w'.cell? ⟨w.heap.size,0,none⟩=some (.slice a1 toks.length c1)∧w'.cell? ⟨w.heap.size,1,none⟩=some (.slice (some ⟨b,off,none⟩) nodes.length cap)∧w'.cell? ⟨b,off+i * 3+2,none⟩=some (.slice (some ⟨bk,ok,none⟩) ks.length ck)∧w'.cell? ⟨bk,ok+1,none⟩=some (.int .i64 k1))
   (first|go_keep|exact p3|exact⟨(bD w3 w2.heap.size _ _ _ _ (by omega)).trans p3.1,(bD w3 w2.heap.size _ _ _ _ (by omega)).trans p3.2.1,(bD w3 w2.heap.size _ _ _ _ (by omega)).trans p3.2.2.1,(bD w3 w2.heap.size _ _ _ _ (by omega)).trans p3.2.2.2⟩)
   (first|(go_at_call 67;refine(VU.out _ ?_).mono ?_;(first|exact(Below.refl _ _).drew|exact((Below.refl _ _).alloc (Nat.le_refl _) _).drew);rintro e w3 ⟨rfl,hq3,hb3⟩;have p3:=And.intro (cell_later hq3 r0) (And.intro (cell_later hq3 r1) (And.intro (cell_later hq3 X2) (cell_later hq3 Z2)));try (have Dg:=(hb3.block w2.heap.size (by simp)).trans (heap_alloc_new w2 (.cells #[.int .i64 0,.string ⟨#[]⟩,.string ⟨#[]⟩,.int .i64 0] 136));obtain⟨VW,VX,VY,VZ,V3⟩:=l7 Dg)))
  ·have CP:Below w.heap.size w w3:=bq.trans (hq3.mono bq.size)
   have q0:=(hq3.block w.heap.size (by omega)).trans g0;have q1:=(hq3.block (w.heap.size+1) (by omega)).trans g1;have hz3:=hq3.size;clear r0 r1 X2 Z2 p3;go_wp2_with fail
   go_meet
   exact⟨w3.heap.size,rfl,heap_alloc_new _ _,(Lib.alloc_old w3 _ w.heap.size (by omega)).trans q0,(Lib.alloc_old w3 _ (w.heap.size+1) (by omega)).trans q1,CP.alloc CP.size _⟩
  ·have CP:Below w.heap.size w w3:=bq.trans (hq3.mono bq.size)
   have q0:=(hq3.block w.heap.size (by omega)).trans g0;have q1:=(hq3.block (w.heap.size+1) (by omega)).trans g1;obtain⟨S3,So,_⟩:=vK Dg (.int .i64 tk1.kind) (.string ⟨tk1.lead.toArray⟩) (.string (rR m)) (.int .i64 tk1.place)
   have hle:w.heap.size≤w2.heap.size:=by omega
   clear r0 r1 X2 Z2 p3 VW VX VY VZ V3;go_wp2_with fail
   go_meet
   exact⟨w2.heap.size,rfl,S3,(So w.heap.size (by omega)).trans q0,(So (w.heap.size+1) (by omega)).trans q1,(((CP.setCell hle _).setCell hle _).setCell hle _).setCell hle _⟩
 case rest =>
  obtain⟨X,rfl,hX,G0,G1,NT⟩:=hcut;have aa5:=NT.size;clear g0 g1 bq X2 Z2 r0 r1 HK VU hlt2;go_wp2_with (go_at_call 239;refine(Ik _).mono ?_;rintro e w5 ⟨rfl,hb5⟩);have Mr:=hb5.size;have Y:=(hb5.block X (bG hX).1).trans hX;have Y0:=(hb5.block w.heap.size (bG G0).1).trans G0;have Y1:=(hb5.block (w.heap.size+1) (bG G1).1).trans G1;have KQ:=NT.trans (hb5.mono aa5);have afr:w.heap.size+1<w5.heap.size:=(bG Y1).1;have HM':=ah ((HM.out N tk1.place w5 (Po.below (KQ.mono hB)) (by omega)).mono fun _ _ h=>h.m);clear hX G0 G1 hb5 NT
  have f2:w5.cell? ⟨X,2,none⟩=some (.string (rR m)):=by rw[Lib.cell_of_heap Y];rfl
  have f3:w5.cell? ⟨X,3,none⟩=some (.int .i64 tk1.place):=by rw[Lib.cell_of_heap Y];rfl
  have r0:w5.cell? ⟨w.heap.size,0,none⟩=some (.slice a1 toks.length c1):=by rw[Lib.cell_of_heap Y0];rfl
  have r1:w5.cell? ⟨w.heap.size,1,none⟩=some (.slice (some ⟨b,off,none⟩) nodes.length cap):=by rw[Lib.cell_of_heap Y0];rfl
  go_loop [20] (fun q=>∃ k:Nat,k≤m∧q=.int .i64 k) (fun q=>14 - (intOf q).toNat)
  case atStart=>exact⟨0,Nat.zero_le _,rfl⟩
  case round =>
   obtain⟨k,hk,rfl⟩:=hrel
   have nJ:(k:Int)<14:=by omega
   have hx:=RO k (by omega)
   by_cases hkm:k=m
   ·subst hkm
    have he:=VR k
    have hop:(7:Int)+(k:Int)=(N:Int):=by have:=HN.out;omega
    go_wp2_with (go_at_call 180;refine HM'.out.mono ?_);rintro e w8 ⟨am,wn,cm,ae,ce,rfl,hxe,jr⟩;have D1:=(jr.block (w.heap.size+1) (by omega)).trans Y1;clear r0 r1 f2 f3 Y Y0 Y1 hop
    have d0:w8.cell? ⟨w.heap.size+1,0,none⟩=some (.int .i64 0):=by rw[Lib.cell_of_heap D1];rfl
    have d1:w8.cell? ⟨w.heap.size+1,1,none⟩=some (.string ⟨#[]⟩):=by rw[Lib.cell_of_heap D1];rfl
    have d2:w8.cell? ⟨w.heap.size+1,2,none⟩=some (.string ⟨#[]⟩):=by rw[Lib.cell_of_heap D1];rfl
    have d3:w8.cell? ⟨w.heap.size+1,3,none⟩=some (.bool false):=by rw[Lib.cell_of_heap D1];rfl
    have d4:w8.cell? ⟨w.heap.size+1,4,none⟩=some (.slice none 0 0):=by rw[Lib.cell_of_heap D1];rfl
    have d5:w8.cell? ⟨w.heap.size+1,5,none⟩=some (.bool false):=by rw[Lib.cell_of_heap D1];rfl
    have d6:w8.cell? ⟨w.heap.size+1,6,none⟩=some (.slice none 0 0):=by rw[Lib.cell_of_heap D1];rfl
    have d7:w8.cell? ⟨w.heap.size+1,7,none⟩=some (.int .i64 0):=by rw[Lib.cell_of_heap D1];rfl
    have dz:∀ j,w8.frozen? ⟨w.heap.size+1,j,none⟩=false:=by intro j;simp[World.frozen?,D1]
    go_wp2;obtain⟨hE,Cz⟩:=EPost.store (w0:=w) (b:=w.heap.size+1) hxe jr KQ (by omega) (by omega) (.int .i64 N) (.string ⟨#[]⟩) (.string ⟨#[]⟩) (.bool false) (.slice am wn cm) (.bool false) (.slice ae iJ.length ce) (.int .i64 tk1.place);refine bodyPost_ret (v:=.agg #[.int .i64 N,.string ⟨#[]⟩,.string ⟨#[]⟩,.bool false,.slice am wn cm,.bool false,.slice ae iJ.length ce,.int .i64 tk1.place]) (by simp[results,Tryz.results178,go_sem,d0,d1,d2,d3,d4,d5,d6,d7]) rfl ?_;exact⟨_,_,rfl,hE,Cz⟩
   ·have he:=aa4 k m (by omega) acJ hkm
    go_wp2
    go_round
    case rel=>exact⟨k+1,by omega,by go_num⟩
    case measure=>simp[intOf];omega
end Go.Proofs.YtknicmmigbhpcaaGreatDoor
