/- Walks and plain laws: ReadX, ReadW7. -/
import Derived.Test.YtknicmmigbhpcaaGreatDoorF14
set_option maxHeartbeats 16000000
set_option maxRecDepth 100000
set_option linter.unusedVariables false
set_option linter.unusedSimpArgs false
namespace Go.Proofs.YtknicmmigbhpcaaGreatDoor
open Go.RowKit Go
theorem D7 {w:World}{b:Nat}{c0 c1:Value}{T:TypeId}(h:w.heap[b]?=some (.cells #[c0,c1] T (0,0))):w.cell? ⟨b,0,none⟩=some c0∧w.cell? ⟨b,1,none⟩=some c1:=by
 constructor<;>(rw[Lib.cell_of_heap h];rfl)
theorem cells3 {w:World}{b:Nat}{c0 c1 c2:Value}{T:TypeId}(h:w.heap[b]?=some (.cells #[c0,c1,c2] T (0,0))):w.cell? ⟨b,0,none⟩=some c0∧w.cell? ⟨b,1,none⟩=some c1∧w.cell? ⟨b,2,none⟩=some c2:=by
 refine⟨?_,?_,?_⟩<;>(rw[Lib.cell_of_heap h];rfl)
theorem P6 {w:World}{b:Nat}{c0 c1 c2 c3:Value}{T:TypeId}(h:w.heap[b]?=some (.cells #[c0,c1,c2,c3] T (0,0))):w.cell? ⟨b,0,none⟩=some c0∧w.cell? ⟨b,1,none⟩=some c1∧w.cell? ⟨b,2,none⟩=some c2∧w.cell? ⟨b,3,none⟩=some c3∧∀ j,w.frozen? ⟨b,j,none⟩=false:=by
 refine⟨?_,?_,?_,?_,fun j=>by simp[World.frozen?,h]⟩<;>(rw[Lib.cell_of_heap h];rfl)
theorem kQ {w:World}{b:Nat}{c0 c1 c2 c3 c4 c5 c6 c7:Value}{T:TypeId}(h:w.heap[b]?=some (.cells #[c0,c1,c2,c3,c4,c5,c6,c7] T (0,0))):(w.cell? ⟨b,0,none⟩=some c0∧w.cell? ⟨b,1,none⟩=some c1∧w.cell? ⟨b,2,none⟩=some c2∧w.cell? ⟨b,3,none⟩=some c3)∧(w.cell? ⟨b,4,none⟩=some c4∧w.cell? ⟨b,5,none⟩=some c5∧w.cell? ⟨b,6,none⟩=some c6∧w.cell? ⟨b,7,none⟩=some c7)∧∀ j,w.frozen? ⟨b,j,none⟩=false:=by
 refine⟨⟨?_,?_,?_,?_⟩,⟨?_,?_,?_,?_⟩,fun j=>by simp[World.frozen?,h]⟩<;>(rw[Lib.cell_of_heap h];rfl)
structure kR (w:World) (c0 c1 c2 c3:Array Value) (t0 t1 t2 t3:TypeId) (W:World):Prop where
 s0:W.heap[w.heap.size]?=some (.cells c0 t0 (0,0))
 s1:W.heap[w.heap.size+1]?=some (.cells c1 t1 (0,0))
 s2:W.heap[w.heap.size+1+1]?=some (.cells c2 t2 (0,0))
 s3:W.heap[w.heap.size+1+1+1]?=some (.cells c3 t3 (0,0))
 al:Below w.heap.size w W
section
variable {w W W':World} {c0 c1 c2 c3:Array Value} {t0 t1 t2 t3:TypeId}
theorem kR.of (h:(((w.alloc (.cells c0 t0)).alloc (.cells c1 t1)).alloc (.cells c2 t2)).alloc (.cells c3 t3)=W):kR w c0 c1 c2 c3 t0 t1 t2 t3 W:=by
 subst h
 have ho:=fun (W:World) (o:Obj) (k:Nat) (hk:k<W.heap.size)=>Lib.alloc_old W o k hk
 have g1:=heap_alloc_new (w.alloc (.cells c0 t0)) (.cells c1 t1);have g2:=heap_alloc_new ((w.alloc (.cells c0 t0)).alloc (.cells c1 t1)) (.cells c2 t2);have g3:=heap_alloc_new (((w.alloc (.cells c0 t0)).alloc (.cells c1 t1)).alloc (.cells c2 t2)) (.cells c3 t3);rw[World.size_alloc] at g1;rw[World.size_alloc,World.size_alloc] at g2;rw[World.size_alloc,World.size_alloc,World.size_alloc] at g3;refine⟨?_,?_,?_,g3,((((Below.refl w.heap.size w).alloc (Nat.le_refl _) _).alloc (by simp) _).alloc (by simp<;>omega) _).alloc (by simp<;>omega) _⟩
 ·exact(ho _ _ _ (by simp<;>omega)).trans ((ho _ _ _ (by simp<;>omega)).trans ((ho _ _ _ (by simp)).trans (heap_alloc_new w (.cells c0 t0))))
 ·exact(ho _ _ _ (by simp<;>omega)).trans ((ho _ _ _ (by simp)).trans g1)
 ·exact(ho _ _ _ (by simp)).trans g2
theorem kR.drewN (h:kR w c0 c1 c2 c3 t0 t1 t2 t3 W)(n:Nat):kR w c0 c1 c2 c3 t0 t1 t2 t3 (W.drewN n):=⟨h.s0,h.s1,h.s2,h.s3,below_drewN h.al n⟩
theorem kR.drew (h:kR w c0 c1 c2 c3 t0 t1 t2 t3 W):kR w c0 c1 c2 c3 t0 t1 t2 t3 W.drew:=⟨h.s0,h.s1,h.s2,h.s3,h.al.drew⟩
theorem kR.size (h:kR w c0 c1 c2 c3 t0 t1 t2 t3 W):w.heap.size+1+1+1<W.heap.size:=(bQ h.s3).1
theorem kR.later (h:kR w c0 c1 c2 c3 t0 t1 t2 t3 W)(hb:Below W.heap.size W W'):kR w c0 c1 c2 c3 t0 t1 t2 t3 W':=by
 have:=h.size;exact⟨(hb.block _ (by omega)).trans h.s0,(hb.block _ (by omega)).trans h.s1,(hb.block _ (by omega)).trans h.s2,(hb.block _ (by omega)).trans h.s3,h.al.trans (hb.mono h.al.size)⟩
end
def Rd (f B:Nat)(tv nv:Value)(toks:List Tok)(nodes:List Nd)(k:Nat)(x:PE):Prop:=∀ W:World,aO B W (.agg #[tv,nv]) toks nodes→B≤W.heap.size→Calls Tryz.prog f #[.agg #[tv,nv],.int .i64 k] W (EPost XA x W)
def RdM (B:Nat)(tv nv:Value)(toks:List Tok)(nodes:List Nd)(i:Nat)(iV:List PE):Prop:=∀ (op at_:Nat) (W:World),aO B W (.agg #[tv,nv]) toks nodes→B≤W.heap.size→Calls Tryz.prog 180 #[.agg #[tv,nv],.int .i64 op,.int .i64 at_,.int .i64 i] W (EPost XA (.mk op [] [] 0 [] false iV at_) W)
inductive pF (B:Nat) (tv nv:Value) (toks:List Tok) (nodes:List Nd) (i:Nat) (ks:List Int) (t:Tok):Int→PE→Prop
 | group (k1:Nat) (x:PE):ks[1]?=some (k1:Int)→Rd 113 B tv nv toks nodes k1 x→pF B tv nv toks nodes i ks t 12 x
 | bin (x:PE):Rd 178 B tv nv toks nodes i x→pF B tv nv toks nodes i ks t 10 x
 | call (x:PE):Rd 179 B tv nv toks nodes i x→pF B tv nv toks nodes i ks t 13 x
 | not (iV:List PE):t.text=[110,111,116]→RdM B tv nv toks nodes i iV→pF B tv nv toks nodes i ks t 11 (.mk 6 [] [] 0 [] false iV t.place)
 | neg (iV:List PE):t.text=[45]→RdM B tv nv toks nodes i iV→pF B tv nv toks nodes i ks t 11 (.mk 5 [] [] 0 [] false iV t.place)
 | iff (iV:List PE):RdM B tv nv toks nodes i iV→pF B tv nv toks nodes i ks t 8 (.mk 21 [] [] 0 [] false iV t.place)
 | qI (iV:List PE):RdM B tv nv toks nodes i iV→pF B tv nv toks nodes i ks t 9 (.mk 23 [] [] 0 [] false iV t.place)
 | qH (iV:List PE) (k1:Nat) (tx:List UInt8):RdM B tv nv toks nodes i iV→ks[1]?=some (k1:Int)→(∀ W:World,aO B W (.agg #[tv,nv]) toks nodes→B≤W.heap.size→Calls Tryz.prog 110 #[.agg #[tv,nv],.int .i64 k1] W fun e w'=>e=.returned (.string ⟨tx.toArray⟩)∧Below W.heap.size W w')→pF B tv nv toks nodes i ks t 7 (.mk 22 tx [] 0 [] false iV t.place)
 | num (n:Nat) (txt:List UInt8):(∀ W:World,Calls Tryz.prog 181 #[.string ⟨t.text.toArray⟩] W (VY n W))→pF B tv nv toks nodes i ks t 15 (.mk 1 [] [] (n:Nat) txt false [] t.place)
 | tru:t.text=[116,114,117,101]→pF B tv nv toks nodes i ks t 16 (.mk 2 [] [] 0 [] true [] t.place)
 | fls:t.text=[102,97,108,115,101]→pF B tv nv toks nodes i ks t 16 (.mk 2 [] [] 0 [] false [] t.place)
 | res:pF B tv nv toks nodes i ks t 17 (.mk 4 [] [] 0 [] false [] t.place)
 | Nw:pF B tv nv toks nodes i ks t 14 (.mk 3 t.text [] 0 [] false [] t.place)
theorem GH (B:Nat)(tv nv:Value)(toks:List Tok)(nodes:List Nd)(i:Nat)(kd:Int)(ks:List Int)(w:World)(h:aO B w (.agg #[tv,nv]) toks nodes)(hB:B≤w.heap.size)(hn:nodes[i]?=some ⟨kd,-1,ks⟩)(k0:Nat)(hk0:ks[0]?=some (k0:Int))(t:Tok)(xn:Nd)(hl0:nodes[k0]?=some xn)
  (ht:(∃ u:Nat,xn=⟨19,(u:Nat),[]⟩∧toks[u]?=some t)∨(xn.kind≠19∧t=⟨0,[],[],0⟩)) (x:PE) (hx:pF B tv nv toks nodes i ks t kd x) :
  Calls Tryz.prog 113 #[.agg #[tv,nv],.int .i64 i] w (EPost XA x w):=by
 obtain⟨hi,hni⟩:=nY hn;obtain⟨hk1,hk2⟩:=nY hk0;obtain⟨hi0,adp⟩:=nY hl0;have HT:=ah h;obtain⟨a1,c1,_,_,e⟩:=h.slices;obtain⟨b,off,cap,kv,rfl,hb,x0,x1,x2,hkv⟩:=h.node hi;obtain⟨b',off',cap',kv',e',hb',y0,_,_,_⟩:=h.node hi0
 obtain⟨⟨rfl,rfl⟩,rfl⟩:(b=b'∧off=off')∧cap=cap':=by simpa using e'
 obtain⟨rfl,-⟩:tv=.slice a1 toks.length c1∧_:=by simpa using e
 rw[hni] at x0 x1 hkv;rw[adp] at y0;simp only at x0 x1 hkv;obtain⟨ak,ck,rfl,_,vU⟩:=hkv.form;obtain⟨bk,ok,rfl,hbk,hkc⟩:=vU (by omega);have hz:=hkc 0 hk1;rw[hk2,Nat.add_zero] at hz;have UN:=ah hkc;have HL0:=ah hl0;have HX:=ah hx;have QV:=ah ht;generalize hkk:xn.kind=kk at y0;have HKK:=ah hkk;have bO:=((Below.refl w.heap.size w).alloc (Nat.le_refl _) (.cells #[.slice a1 toks.length c1,.slice (some ⟨b,off,none⟩) nodes.length cap] 132)).alloc (by simp) (.cells #[.int .i64 0,.string ⟨#[]⟩,.string ⟨#[]⟩,.bool false,.slice none 0 0,.bool false,.slice none 0 0,.int .i64 0] 46);have X0:=cell_later bO x0;have X1:=cell_later bO x1;have X2:=cell_later bO x2
 have hiI:(i:Int)<(nodes.length:Int):=by omega
 have af0:(k0:Int)<(nodes.length:Int):=by omega
 have hkl:(0:Int)<(ks.length:Int):=by omega
 have af2:0<ks.length:=by omega
 clear e e' hkv vU hkc hn hni adp hl0 hk0 hk2 h hx ht hkk bO x0 x1 x2;go_enter Tryz.func113,Tryz.ntmps113;go_wp2;generalize hw4:(((w.alloc _).alloc _).alloc _).alloc _=w4;have S:=kR.of hw4;obtain⟨r0,r1⟩:=D7 S.s0;obtain⟨n0,n1,n2⟩:=cells3 S.s2;have z4:=cell_later S.al hz;have y4:=cell_later S.al y0;clear hw4 X0 X1 X2
 go_quiet (fail)
 go_upto_if 27 with fail
 have S5:=S.drewN nq;clear r0 r1 n0 n1 n2 z4 y4 S;generalize w4.drewN nq=w5 at S5 ⊢;obtain⟨r0,r1⟩:=D7 S5.s0;obtain⟨n0,n1,n2⟩:=cells3 S5.s2
 go_cut [] (fun wc=>kR w #[.slice a1 toks.length c1,.slice (some ⟨b,off,none⟩) nodes.length cap] #[.int .i64 0,.string ⟨#[]⟩,.string ⟨#[]⟩,.bool false,.slice none 0 0,.bool false,.slice none 0 0,.int .i64 0] #[.int .i64 kd,.int .i64 (-1),.slice (some ⟨bk,ok,none⟩) ks.length ck] #[.int .i64 t.kind,.string ⟨t.lead.toArray⟩,.string ⟨t.text.toArray⟩,.int .i64 t.place] 132 46 134 136 wc)
 case first =>
  rcases QV.out with ⟨u,hxn,hut⟩|⟨hne,rfl⟩
  ·have hkk:=HKK.out
   rw[hxn] at hkk;obtain rfl:kk=19:=hkk.symm;have hl0:=HL0.out;rw[hxn] at hl0;have z5:=cell_later S5.al hz;obtain⟨hu,adq⟩:=nY hut
   have hK:=(jN B _ _ toks nodes k0 u w5.drew (HT.out.below ((S5.al.mono hB).drew)) (by have:=S5.al.size;show B≤w5.heap.size;omega) hl0 hu)
   rw[adq] at hK;unfold nT dM at hK;have HK:=ah hK;clear hK hut adq hkk hxn hl0 hz y0;go_wp2
   go_still_tail 5,(by kernel_rfl)
   change wpList _ _ _ _ _ w5.drew;go_wp2_with (go_at_call 67;refine HK.out.mono ?_);rintro e w6 ⟨rfl,hb6⟩;have S6:=S5.drew.later hb6;obtain⟨t0,t1,t2,t3,tz⟩:=P6 S6.s3;obtain⟨S3,So,Sz⟩:=wM S6.s3 (.int .i64 t.kind) (.string ⟨t.lead.toArray⟩) (.string ⟨t.text.toArray⟩) (.int .i64 t.place);clear z5 r0 r1 n0 n1 n2;go_wp2
   go_meet
   exact⟨(So _ (by omega)).trans S6.s0,(So _ (by omega)).trans S6.s1,(So _ (by omega)).trans S6.s2,S3,(((S6.al.setCell (by show _≤w.heap.size+1+1+1;omega) _).setCell (by show _≤w.heap.size+1+1+1;omega) _).setCell (by show _≤w.heap.size+1+1+1;omega) _).setCell (by show _≤w.heap.size+1+1+1;omega) _⟩
  ·have acY:(kk == 19)=false:=by rw[← HKK.out,← Bool.not_eq_true,beq_iff_eq];exact hne
   clear hz y0;go_wp2
   go_meet
   exact S5
 case rest =>
  have S:=hcut
  obtain⟨w7,rfl⟩:∃ w7:World,w7=wc:=⟨_,rfl⟩
  clear hcut S5 r0 r1 n0 n1 n2 hz y0 QV HKK HL0;obtain⟨r0,r1⟩:=D7 S.s0;obtain⟨n0,n1,n2⟩:=cells3 S.s2;have hs:=S.size;have Xk:=HT.out.below (S.al.mono hB);have hB7:=Nat.le_trans hB S.al.size;have hx:=HX.out;clear HX;obtain⟨f0,f1,f2,f3,fz⟩:=P6 S.s3
  cases hx with
  | group k1 _ h1 hF =>
   obtain⟨hp1,hp2⟩:=nY h1;have z1:=cell_later S.al (UN.out 1 hp1);rw[hp2] at z1
   have abK:(1:Int)<(ks.length:Int):=by omega
   have Ua:=ah ((hF w7.drew (HT.out.below ((S.al.mono hB).drew)) hB7).mono fun _ _ h=>h.s);clear hF h1 hp2;go_wp2
   go_still_tail 5,(by kernel_rfl)
   change wpList _ _ _ _ _ w7.drew;go_wp2_with (go_at_call 113;refine Ua.out.mono ?_);rintro e w8 ⟨am,wn,cm,ae,ce,rfl,hxe,j3⟩;have D1:=(j3.block (w.heap.size+1) (show w.heap.size+1<w7.heap.size by omega)).trans S.s1;clear r0 r1 n0 n1 n2 f0 f1 f2 f3;obtain⟨⟨d0,d1,d2,d3⟩,⟨d4,d5,d6,d7⟩,dz⟩:=kQ D1;go_wp2;refine bodyPost_ret (v:=.agg #[.int .i64 x.op,.string ⟨x.name.toArray⟩,.string ⟨x.module.toArray⟩,.bool (decide (x.num<0)),.slice am wn cm,.bool x.yes,.slice ae x.kids.length ce,.int .i64 x.at_]) (by simp[results,Tryz.results113,go_sem,d0,d1,d2,d3,d4,d5,d6,d7]) rfl ⟨_,_,rfl,(EPost.store (w0:=w) (b:=w.heap.size+1) hxe j3 S.al.drew (by omega) (by have:=S.al.size;first|omega|(show w.heap.size+1<w7.heap.size;omega)) _ _ _ _ _ _ _ _).1,(EPost.store (w0:=w) (b:=w.heap.size+1) hxe j3 S.al.drew (by omega) (by have:=S.al.size;first|omega|(show w.heap.size+1<w7.heap.size;omega)) _ _ _ _ _ _ _ _).2⟩
  | bin _ hF =>
   have Ua:=ah ((hF w7 Xk hB7).mono fun _ _ h=>h.s);clear hF;go_wp2_with (go_at_call 178;refine Ua.out.mono ?_);rintro e w8 ⟨am,wn,cm,ae,ce,rfl,hxe,j3⟩;have D1:=(j3.block (w.heap.size+1) (show w.heap.size+1<w7.heap.size by omega)).trans S.s1;clear r0 r1 n0 n1 n2 f0 f1 f2 f3;obtain⟨⟨d0,d1,d2,d3⟩,⟨d4,d5,d6,d7⟩,dz⟩:=kQ D1;go_wp2;refine bodyPost_ret (v:=.agg #[.int .i64 x.op,.string ⟨x.name.toArray⟩,.string ⟨x.module.toArray⟩,.bool (decide (x.num<0)),.slice am wn cm,.bool x.yes,.slice ae x.kids.length ce,.int .i64 x.at_]) (by simp[results,Tryz.results113,go_sem,d0,d1,d2,d3,d4,d5,d6,d7]) rfl ⟨_,_,rfl,(EPost.store (w0:=w) (b:=w.heap.size+1) hxe j3 S.al (by omega) (by have:=S.al.size;first|omega|(show w.heap.size+1<w7.heap.size;omega)) _ _ _ _ _ _ _ _).1,(EPost.store (w0:=w) (b:=w.heap.size+1) hxe j3 S.al (by omega) (by have:=S.al.size;first|omega|(show w.heap.size+1<w7.heap.size;omega)) _ _ _ _ _ _ _ _).2⟩
  | call _ hF =>
   have Ua:=ah ((hF w7 Xk hB7).mono fun _ _ h=>h.s);clear hF;go_wp2_with (go_at_call 179;refine Ua.out.mono ?_);rintro e w8 ⟨am,wn,cm,ae,ce,rfl,hxe,j3⟩;have D1:=(j3.block (w.heap.size+1) (show w.heap.size+1<w7.heap.size by omega)).trans S.s1;clear r0 r1 n0 n1 n2 f0 f1 f2 f3;obtain⟨⟨d0,d1,d2,d3⟩,⟨d4,d5,d6,d7⟩,dz⟩:=kQ D1;go_wp2;refine bodyPost_ret (v:=.agg #[.int .i64 x.op,.string ⟨x.name.toArray⟩,.string ⟨x.module.toArray⟩,.bool (decide (x.num<0)),.slice am wn cm,.bool x.yes,.slice ae x.kids.length ce,.int .i64 x.at_]) (by simp[results,Tryz.results113,go_sem,d0,d1,d2,d3,d4,d5,d6,d7]) rfl ⟨_,_,rfl,(EPost.store (w0:=w) (b:=w.heap.size+1) hxe j3 S.al (by omega) (by have:=S.al.size;first|omega|(show w.heap.size+1<w7.heap.size;omega)) _ _ _ _ _ _ _ _).1,(EPost.store (w0:=w) (b:=w.heap.size+1) hxe j3 S.al (by omega) (by have:=S.al.size;first|omega|(show w.heap.size+1<w7.heap.size;omega)) _ _ _ _ _ _ _ _).2⟩
  | not iV htx hM =>
   have Ua:=ah ((hM 6 t.place w7 Xk hB7).mono fun _ _ h=>h.m);rw[htx] at f2;clear htx;clear hM;go_wp2_with (go_at_call 180;refine Ua.out.mono ?_);rintro e w8 ⟨am,wn,cm,ae,ce,rfl,hxe,j3⟩;have D1:=(j3.block (w.heap.size+1) (show w.heap.size+1<w7.heap.size by omega)).trans S.s1;clear r0 r1 n0 n1 n2 f0 f1 f2 f3;obtain⟨⟨d0,d1,d2,d3⟩,⟨d4,d5,d6,d7⟩,dz⟩:=kQ D1;go_wp2;refine bodyPost_ret (v:=.agg #[.int .i64 6,.string ⟨#[]⟩,.string ⟨#[]⟩,.bool false,.slice am wn cm,.bool false,.slice ae iV.length ce,.int .i64 t.place]) (by simp[results,Tryz.results113,go_sem,d0,d1,d2,d3,d4,d5,d6,d7]) rfl ⟨_,_,rfl,(EPost.store (w0:=w) (b:=w.heap.size+1) hxe j3 S.al (by omega) (by have:=S.al.size;first|omega|(show w.heap.size+1<w7.heap.size;omega)) _ _ _ _ _ _ _ _).1,(EPost.store (w0:=w) (b:=w.heap.size+1) hxe j3 S.al (by omega) (by have:=S.al.size;first|omega|(show w.heap.size+1<w7.heap.size;omega)) _ _ _ _ _ _ _ _).2⟩
  | neg iV htx hM =>
   have Ua:=ah ((hM 5 t.place w7 Xk hB7).mono fun _ _ h=>h.m);rw[htx] at f2;clear htx;clear hM;go_wp2_with (go_at_call 180;refine Ua.out.mono ?_);rintro e w8 ⟨am,wn,cm,ae,ce,rfl,hxe,j3⟩;have D1:=(j3.block (w.heap.size+1) (show w.heap.size+1<w7.heap.size by omega)).trans S.s1;clear r0 r1 n0 n1 n2 f0 f1 f2 f3;obtain⟨⟨d0,d1,d2,d3⟩,⟨d4,d5,d6,d7⟩,dz⟩:=kQ D1;go_wp2;refine bodyPost_ret (v:=.agg #[.int .i64 5,.string ⟨#[]⟩,.string ⟨#[]⟩,.bool false,.slice am wn cm,.bool false,.slice ae iV.length ce,.int .i64 t.place]) (by simp[results,Tryz.results113,go_sem,d0,d1,d2,d3,d4,d5,d6,d7]) rfl ⟨_,_,rfl,(EPost.store (w0:=w) (b:=w.heap.size+1) hxe j3 S.al (by omega) (by have:=S.al.size;first|omega|(show w.heap.size+1<w7.heap.size;omega)) _ _ _ _ _ _ _ _).1,(EPost.store (w0:=w) (b:=w.heap.size+1) hxe j3 S.al (by omega) (by have:=S.al.size;first|omega|(show w.heap.size+1<w7.heap.size;omega)) _ _ _ _ _ _ _ _).2⟩
  | iff iV hM =>
   have Ua:=ah ((hM 21 t.place w7 Xk hB7).mono fun _ _ h=>h.m);clear hM;go_wp2_with (go_at_call 180;refine Ua.out.mono ?_);rintro e w8 ⟨am,wn,cm,ae,ce,rfl,hxe,j3⟩;have D1:=(j3.block (w.heap.size+1) (show w.heap.size+1<w7.heap.size by omega)).trans S.s1;clear r0 r1 n0 n1 n2 f0 f1 f2 f3;obtain⟨⟨d0,d1,d2,d3⟩,⟨d4,d5,d6,d7⟩,dz⟩:=kQ D1;go_wp2;refine bodyPost_ret (v:=.agg #[.int .i64 21,.string ⟨#[]⟩,.string ⟨#[]⟩,.bool false,.slice am wn cm,.bool false,.slice ae iV.length ce,.int .i64 t.place]) (by simp[results,Tryz.results113,go_sem,d0,d1,d2,d3,d4,d5,d6,d7]) rfl ⟨_,_,rfl,(EPost.store (w0:=w) (b:=w.heap.size+1) hxe j3 S.al (by omega) (by have:=S.al.size;first|omega|(show w.heap.size+1<w7.heap.size;omega)) _ _ _ _ _ _ _ _).1,(EPost.store (w0:=w) (b:=w.heap.size+1) hxe j3 S.al (by omega) (by have:=S.al.size;first|omega|(show w.heap.size+1<w7.heap.size;omega)) _ _ _ _ _ _ _ _).2⟩
  | qI iV hM =>
   have Ua:=ah ((hM 23 t.place w7 Xk hB7).mono fun _ _ h=>h.m);clear hM;go_wp2_with (go_at_call 180;refine Ua.out.mono ?_);rintro e w8 ⟨am,wn,cm,ae,ce,rfl,hxe,j3⟩;have D1:=(j3.block (w.heap.size+1) (show w.heap.size+1<w7.heap.size by omega)).trans S.s1;clear r0 r1 n0 n1 n2 f0 f1 f2 f3;obtain⟨⟨d0,d1,d2,d3⟩,⟨d4,d5,d6,d7⟩,dz⟩:=kQ D1;go_wp2;refine bodyPost_ret (v:=.agg #[.int .i64 23,.string ⟨#[]⟩,.string ⟨#[]⟩,.bool false,.slice am wn cm,.bool false,.slice ae iV.length ce,.int .i64 t.place]) (by simp[results,Tryz.results113,go_sem,d0,d1,d2,d3,d4,d5,d6,d7]) rfl ⟨_,_,rfl,(EPost.store (w0:=w) (b:=w.heap.size+1) hxe j3 S.al (by omega) (by have:=S.al.size;first|omega|(show w.heap.size+1<w7.heap.size;omega)) _ _ _ _ _ _ _ _).1,(EPost.store (w0:=w) (b:=w.heap.size+1) hxe j3 S.al (by omega) (by have:=S.al.size;first|omega|(show w.heap.size+1<w7.heap.size;omega)) _ _ _ _ _ _ _ _).2⟩
  | qH iV k1 tx hM h1 hX =>
   obtain⟨hp1,hp2⟩:=nY h1;have adr:=UN.out 1 hp1;rw[hp2] at adr;have HM':=ah ((hM 22 t.place w7 Xk hB7).mono fun _ _ h=>h.m);have HXX:=ah hX;clear hM h1 hp2 hX;go_wp2_with (go_at_call 180;refine HM'.out.mono ?_);rintro e w8 ⟨am,wn,cm,ae,ce,rfl,hxe,j3⟩;have S8:=S.later j3;have hz8:=j3.size;clear r0 r1 n0 n1 n2 f0 f1 f2 f3 fz
   go_upto_region 22 with (fail)
   have ha9:=aj w8 (.cells #[.int .i64 22,.string ⟨#[]⟩,.string ⟨#[]⟩,.bool false,.slice am wn cm,.bool false,.slice ae iV.length ce,.int .i64 t.place] 46);have N9:=heap_alloc_new w8 (.cells #[.int .i64 22,.string ⟨#[]⟩,.string ⟨#[]⟩,.bool false,.slice am wn cm,.bool false,.slice ae iV.length ce,.int .i64 t.place] 46);have UQ:=(hxe.imp (fun b hb hlt=>(⟨hb,hlt⟩:w7.heap.size≤b∧b<w8.heap.size))).frame (w':=w8.alloc (.cells #[.int .i64 22,.string ⟨#[]⟩,.string ⟨#[]⟩,.bool false,.slice am wn cm,.bool false,.slice ae iV.length ce,.int .i64 t.place] 46)) ⟨by simp,fun b _ hb=>Lib.alloc_old _ _ _ hb⟩
   have hs9:(w8.alloc (.cells #[.int .i64 22,.string ⟨#[]⟩,.string ⟨#[]⟩,.bool false,.slice am wn cm,.bool false,.slice ae iV.length ce,.int .i64 t.place] 46)).heap.size=w8.heap.size+1:=by simp
   have S9:=S8.later ha9;clear ha9;generalize w8.alloc _=w9 at N9 UQ hs9 S9 ⊢;have k1c:=cell_later S9.al adr;obtain⟨r0,r1⟩:=D7 S9.s0;obtain⟨n0,n1,n2⟩:=cells3 S9.s2
   have abK:(1:Int)<(ks.length:Int):=by omega
   have UR:=ah (HXX.out w9.drew (HT.out.below ((S9.al.mono hB).drew)) (show B≤w9.heap.size by have:=S9.al.size;omega))
   go_still_tail 5,(by kernel_rfl)
   change wpList _ _ _ _ _ w9.drew;go_wp2_with (go_at_call 110;refine UR.out.mono ?_);rintro e kW ⟨rfl,zU⟩;have mD:Below w9.heap.size w9 kW:=(Below.refl w9.heap.size w9).drew.trans zU;have S10:=S9.later mD;have E9:=(mD.block w8.heap.size (by omega)).trans N9;obtain⟨⟨_,e0,_,_⟩,_,ez⟩:=kQ E9;have Jd:=UQ.frame (aT.of mD);clear r0 r1 n0 n1 n2 k1c N9 zU mD UQ;have E9':=heap_setCell_same kW w8.heap.size 1 _ _ (.string ⟨tx.toArray⟩) E9;have E1':=(heap_setCell_other kW ⟨w8.heap.size,1,none⟩ (w.heap.size+1) (.string ⟨tx.toArray⟩) (by show w.heap.size+1≠w8.heap.size;omega)).trans S10.s1;have aaI:=S10.al.setCell (p:=⟨w8.heap.size,1,none⟩) (by show w.heap.size≤w8.heap.size;omega) (.string ⟨tx.toArray⟩);have ads:=Jd.frame (aT.set (a:=⟨w8.heap.size,1,none⟩) (.string ⟨tx.toArray⟩) fun b hb=>by show b≠w8.heap.size;omega)
   go_upto_region 23 with (fail)
   generalize kW.setCell _ _=um at E9' E1' aaI ads ⊢;obtain⟨⟨b0,b1,b2,b3⟩,⟨b4,b5,b6,b7⟩,_⟩:=kQ (show um.heap[w8.heap.size]?=some (.cells #[.int .i64 22,.string ⟨tx.toArray⟩,.string ⟨#[]⟩,.bool false,.slice am wn cm,.bool false,.slice ae iV.length ce,.int .i64 t.place] 46 (0,0)) from E9');obtain⟨⟨d0,d1,d2,d3⟩,⟨d4,d5,d6,d7⟩,dz⟩:=kQ E1';clear e0 ez E9;go_wp2;refine bodyPost_ret (v:=.agg #[.int .i64 22,.string ⟨tx.toArray⟩,.string ⟨#[]⟩,.bool false,.slice am wn cm,.bool false,.slice ae iV.length ce,.int .i64 t.place]) (by simp[results,Tryz.results113,go_sem,d0,d1,d2,d3,d4,d5,d6,d7]) rfl ⟨.slice am wn cm,.slice ae iV.length ce,rfl,?_,jh aaI (by omega) _ _ _ _ _ _ _ _⟩
   have hq:=(ads.frame (uq _ _ (w.heap.size+1) (.int .i64 22) (.string ⟨tx.toArray⟩) (.string ⟨#[]⟩) (.bool false) (.slice am wn cm) (.bool false) (.slice ae iV.length ce) (.int .i64 t.place) fun k hk=>by omega)).imp (Q:=fun b=>w.heap.size≤b) fun b hb _=>by omega
   rw[nH] at hq ⊢;exact hq
  | num n txt hZ =>
   have HZ:=ah (hZ w7);clear hZ;go_wp2_with (go_at_call 181;refine HZ.out.mono ?_);rintro e w8 ⟨am,wn,cm,rfl,EW,j3⟩;have S8:=S.later j3;clear r0 r1 n0 n1 n2 f0 f1 f2 f3 fz
   go_upto_region 26 with (fail)
   have ha9:=aj w8 (.cells #[.bool false,.slice am wn cm] 44);have N9:=heap_alloc_new w8 (.cells #[.bool false,.slice am wn cm] 44);have hn9:=XA.frame (P:=fun b=>w7.heap.size≤b) (w:=w8) (w':=w8.alloc (.cells #[.bool false,.slice am wn cm] 44)) (n:=(n:Nat)) (m:=.slice am wn cm) EW ⟨by simp,fun b _ hb=>Lib.alloc_old _ _ _ hb⟩;have S9:=S8.later ha9;clear ha9;generalize w8.alloc _=w9 at N9 hn9 S9 ⊢;obtain⟨_,_,_,f3,_⟩:=P6 S9.s3;obtain⟨b0,b1⟩:=D7 N9;obtain⟨⟨d0,d1,d2,d3⟩,⟨d4,d5,d6,d7⟩,dz⟩:=kQ S9.s1;go_wp2;refine bodyPost_ret (v:=.agg #[.int .i64 1,.string ⟨#[]⟩,.string ⟨#[]⟩,.bool false,.slice am wn cm,.bool false,.slice none 0 0,.int .i64 t.place]) (by simp[results,Tryz.results113,go_sem,d0,d1,d2,d3,d4,d5,d6,d7]) rfl ⟨.slice am wn cm,.slice none 0 0,abm _ _ _ _ _,?_,jh S9.al (by omega) _ _ _ _ _ _ _ _⟩;rw[nH];exact⟨XA.imp (XA.frame hn9 (uq _ _ (w.heap.size+1) (.int .i64 1) (.string ⟨#[]⟩) (.string ⟨#[]⟩) (.bool false) (.slice am wn cm) (.bool false) (.slice none 0 0) (.int .i64 t.place) fun k hk=>by omega)) (fun b hb _=>by omega),[],mo.nil _ _ _,by rw[iB]⟩
  | tru htx =>
   rw[htx] at f2;clear htx;obtain⟨⟨d0,d1,d2,d3⟩,⟨d4,d5,d6,d7⟩,dz⟩:=kQ S.s1;go_wp2;refine bodyPost_ret (v:=.agg #[.int .i64 2,.string ⟨#[]⟩,.string ⟨#[]⟩,.bool false,.slice none 0 0,.bool true,.slice none 0 0,.int .i64 t.place]) (by simp[results,Tryz.results113,go_sem,d0,d1,d2,d3,d4,d5,d6,d7]) rfl ⟨.slice none 0 0,.slice none 0 0,rfl,?_,jh S.al (by omega) _ _ _ _ _ _ _ _⟩;rw[nH];exact⟨lM.zero _ _,[],mo.nil _ _ _,by rw[iB]⟩
  | fls htx =>
   rw[htx] at f2;clear htx;obtain⟨⟨d0,d1,d2,d3⟩,⟨d4,d5,d6,d7⟩,dz⟩:=kQ S.s1;go_wp2;refine bodyPost_ret (v:=.agg #[.int .i64 2,.string ⟨#[]⟩,.string ⟨#[]⟩,.bool false,.slice none 0 0,.bool false,.slice none 0 0,.int .i64 t.place]) (by simp[results,Tryz.results113,go_sem,d0,d1,d2,d3,d4,d5,d6,d7]) rfl ⟨.slice none 0 0,.slice none 0 0,rfl,?_,jh S.al (by omega) _ _ _ _ _ _ _ _⟩;rw[nH];exact⟨lM.zero _ _,[],mo.nil _ _ _,by rw[iB]⟩
  | res =>
   obtain⟨⟨d0,d1,d2,d3⟩,⟨d4,d5,d6,d7⟩,dz⟩:=kQ S.s1;go_wp2;refine bodyPost_ret (v:=.agg #[.int .i64 4,.string ⟨#[]⟩,.string ⟨#[]⟩,.bool false,.slice none 0 0,.bool false,.slice none 0 0,.int .i64 t.place]) (by simp[results,Tryz.results113,go_sem,d0,d1,d2,d3,d4,d5,d6,d7]) rfl ⟨.slice none 0 0,.slice none 0 0,rfl,?_,jh S.al (by omega) _ _ _ _ _ _ _ _⟩;rw[nH];exact⟨lM.zero _ _,[],mo.nil _ _ _,by rw[iB]⟩
  | Nw =>
   obtain⟨⟨d0,d1,d2,d3⟩,⟨d4,d5,d6,d7⟩,dz⟩:=kQ S.s1;go_wp2;refine bodyPost_ret (v:=.agg #[.int .i64 3,.string ⟨t.text.toArray⟩,.string ⟨#[]⟩,.bool false,.slice none 0 0,.bool false,.slice none 0 0,.int .i64 t.place]) (by simp[results,Tryz.results113,go_sem,d0,d1,d2,d3,d4,d5,d6,d7]) rfl ⟨.slice none 0 0,.slice none 0 0,rfl,?_,jh S.al (by omega) _ _ _ _ _ _ _ _⟩;rw[nH];exact⟨lM.zero _ _,[],mo.nil _ _ _,by rw[iB]⟩
def Xv:Array Value:=(oK.map fun x=>Value.string ⟨x.toArray⟩).toArray
def sS (k:Nat):ByteArray:=⟨(oK.getD k []).toArray⟩
theorem Je (w:World):Calls Tryz.prog 239 #[] w fun e w'=>e=.returned (.agg Xv)∧Below w.heap.size w w':=by
 go_enter Tryz.func239,Tryz.ntmps239
 apply wp_seq_k
 intro K0 hK0;have HK:=ah hK0;clear hK0;go_wp2
 apply HK.out
 apply wp_seq_k
 intro K1 hK1
 apply wp_region_lit
 refine wpList_buildTo rfl 280 _ rfl (some 1) rfl Xv (by kernel_rfl) ?_;refine wpList_store_rowTo rfl 280 _ _ rfl rfl w.heap.size Xv rfl rfl 280 _ (heap_alloc_new _ _) (by kernel_rfl) (by decide) (by kernel_rfl) ?_;rw[World.setRow_alloc_new]
 apply wpList_nil
 apply hK1
 go_wp2;refine bodyPost_ret (v:=.agg Xv) (results_cell_row rfl _ _ w.heap.size 280 _ (0,0) _ rfl (heap_alloc_new _ _) Tryz.underlying280 rfl (by kernel_rfl)) rfl ⟨rfl,(Below.refl _ _).alloc (Nat.le_refl _) _⟩
theorem Ub:∀ k:Nat,k<14→∀ w:World,(Instr.index 280 (.agg Xv) (.int .i64 k)).run Tryz.prog w=.ok (.string (sS k)) w
 | 0,_=>fun _=>by kernel_rfl
 | 1,_=>fun _=>by kernel_rfl
 | 2,_=>fun _=>by kernel_rfl
 | 3,_=>fun _=>by kernel_rfl
 | 4,_=>fun _=>by kernel_rfl
 | 5,_=>fun _=>by kernel_rfl
 | 6,_=>fun _=>by kernel_rfl
 | 7,_=>fun _=>by kernel_rfl
 | 8,_=>fun _=>by kernel_rfl
 | 9,_=>fun _=>by kernel_rfl
 | 10,_=>fun _=>by kernel_rfl
 | 11,_=>fun _=>by kernel_rfl
 | 12,_=>fun _=>by kernel_rfl
 | 13,_=>fun _=>by kernel_rfl
 | n+14,h=>absurd h (by omega)
theorem Uc:∀ j,j<14→∀ k,k<14→oK.getD j []=oK.getD k []→j=k:=by decide
theorem D8 (k:Nat):(sS k).toList=oK.getD k []:=by rw[Go.ByteArray.toList_eq];rfl
theorem abL (j k:Nat)(hj:j<14)(hk:k<14)(h:j≠k):((sS j).toList == (sS k).toList)=false:=by
 rw[← Bool.not_eq_true,beq_iff_eq,D8,D8]
 exact fun q=>h (Uc j hj k hk q)
theorem Xw (k:Nat):((sS k).toList == (sS k).toList)=true:=by rw[beq_iff_eq]
theorem aak {x:List UInt8}(h:x∈oK):oK.idxOf x<14∧(ByteArray.mk x.toArray)=sS (oK.idxOf x):=by
 have h1:oK.idxOf x<14:=List.idxOf_lt_length_of_mem h;refine⟨h1,?_⟩;unfold sS
 have h2:oK.getD (oK.idxOf x) []=x:=by
  rw[List.getD_eq_getElem?_getD,List.getElem?_eq_getElem (List.idxOf_lt_length_of_mem h),Option.getD_some,List.getElem_idxOf]
 rw[h2]
theorem bM (w:World)(b:Nat)(v0 v1 v2 v3:Value){k j:Nat}(h:k≠b):((((w.setCell ⟨b,0,none⟩ v0).setCell ⟨b,1,none⟩ v1).setCell ⟨b,2,none⟩ v2).setCell ⟨b,3,none⟩ v3).cell? ⟨k,j,none⟩=w.cell? ⟨k,j,none⟩:=by
 refine World.cell?_of_block (a:=⟨k,j,none⟩) ?_;show ((((w.setCell ⟨b,0,none⟩ v0).setCell ⟨b,1,none⟩ v1).setCell ⟨b,2,none⟩ v2).setCell ⟨b,3,none⟩ v3).heap[k]?=w.heap[k]?;rw[heap_setCell_other _ _ _ _ h,heap_setCell_other _ _ _ _ h,heap_setCell_other _ _ _ _ h,heap_setCell_other _ _ _ _ h]
theorem mW {w:World}{b:Nat}(h:w.heap[b]?=some (.cells #[.int .i64 0,.string ⟨#[]⟩,.string ⟨#[]⟩,.int .i64 0] 136 (0,0))) :
  w.cell? ⟨b,0,none⟩=some (.int .i64 0)∧w.cell? ⟨b,1,none⟩=some (.string ⟨#[]⟩)∧w.cell? ⟨b,2,none⟩=some (.string ⟨#[]⟩)∧w.cell? ⟨b,3,none⟩=some (.int .i64 0)∧∀ j,w.frozen? ⟨b,j,none⟩=false :=
 ⟨by rw[Lib.cell_of_heap h];rfl,by rw[Lib.cell_of_heap h];rfl,by rw[Lib.cell_of_heap h];rfl,by rw[Lib.cell_of_heap h];rfl,by intro j;simp[World.frozen?,h]⟩
theorem MH (iV:List PE)(B:Nat)(tv nv:Value)(toks:List Tok)(nodes:List Nd)(i:Nat)(ks:List Int)(w:World)(h:aO B w (.agg #[tv,nv]) toks nodes)(hB:B≤w.heap.size)(hn:nodes[i]?=some ⟨10,-1,ks⟩)
  (k1 u1:Nat) (hq1:ks[1]?=some (k1:Int)) (hl1:nodes[k1]?=some ⟨19,(u1:Nat),[]⟩) (tk1:Tok) (Xx:toks[u1]?=some tk1) (htx:tk1.text∈oK)
  (hM:∀ (op at_:Nat) (W:World),aO B W (.agg #[tv,nv]) toks nodes→B≤W.heap.size→Calls Tryz.prog 180 #[.agg #[tv,nv],.int .i64 op,.int .i64 at_,.int .i64 i] W (EPost XA (.mk op [] [] 0 [] false iV at_) W)) :
  Calls Tryz.prog 178 #[.agg #[tv,nv],.int .i64 i] w (EPost XA (.mk (7+oK.idxOf tk1.text) [] [] 0 [] false iV tk1.place) w):=by
 have HM:=ah hM;obtain⟨adt,hmt⟩:=aak htx;obtain⟨hu1,MI⟩:=nY Xx;obtain⟨hp1,hp2⟩:=nY hq1;have HK:=ah (fun W hT hW=>jN B tv nv toks nodes k1 u1 W hT hW hl1 hu1);rw[MI] at HK;unfold nT dM at HK;rw[hmt] at HK;generalize oK.idxOf tk1.text=m at adt HK ⊢
 obtain⟨N,hN⟩:∃ N,7+m=N:=⟨_,rfl⟩
 rw[hN];have HN:=ah hN;clear hN;obtain⟨hi,hni⟩:=nY hn;have HT:=ah h;obtain⟨a1,c1,_,_,e⟩:=h.slices;obtain⟨b,off,cap,kv,rfl,hb,x0,x1,x2,hkv⟩:=h.node hi
 obtain⟨rfl,-⟩:tv=.slice a1 toks.length c1∧_:=by simpa using e
 rw[hni] at hkv;simp only at hkv;obtain⟨ak,ck,rfl,_,vU⟩:=hkv.form;obtain⟨bk,ok,rfl,hbk,hkc⟩:=vU (by omega);have hz:=hkc 1 hp1;rw[hp2] at hz;clear e hkv vU hkc hn hni x0 x1 Xx MI hq1 hp2 hl1 hM htx hmt;have bO:=((Below.refl w.heap.size w).alloc (Nat.le_refl _) (.cells #[.slice a1 toks.length c1,.slice (some ⟨b,off,none⟩) nodes.length cap] 132)).alloc (by simp) (.cells #[.int .i64 0,.string ⟨#[]⟩,.string ⟨#[]⟩,.bool false,.slice none 0 0,.bool false,.slice none 0 0,.int .i64 0] 46);have X2:=cell_later bO x2;have Z2:=cell_later bO hz;have g0:=(Lib.alloc_old _ (.cells #[.int .i64 0,.string ⟨#[]⟩,.string ⟨#[]⟩,.bool false,.slice none 0 0,.bool false,.slice none 0 0,.int .i64 0] 46) w.heap.size (by simp)).trans (heap_alloc_new w (.cells #[.slice a1 toks.length c1,.slice (some ⟨b,off,none⟩) nodes.length cap] 132));have g1:=heap_alloc_new (w.alloc (.cells #[.slice a1 toks.length c1,.slice (some ⟨b,off,none⟩) nodes.length cap] 132)) (.cells #[.int .i64 0,.string ⟨#[]⟩,.string ⟨#[]⟩,.bool false,.slice none 0 0,.bool false,.slice none 0 0,.int .i64 0] 46);rw[World.size_alloc] at g1
 have hiI:(i:Int)<(nodes.length:Int):=by omega
 have abK:(1:Int)<(ks.length:Int):=by omega
 have WC:=HT.out;clear h x2 hz;go_enter Tryz.func178,Tryz.ntmps178
 go_upto_region 1 with (fail)
 generalize (w.alloc _).alloc _=w2 at g0 g1 bO X2 Z2 ⊢
 have r0:w2.cell? ⟨w.heap.size,0,none⟩=some (.slice a1 toks.length c1):=by rw[Lib.cell_of_heap g0];rfl
 have r1:w2.cell? ⟨w.heap.size,1,none⟩=some (.slice (some ⟨b,off,none⟩) nodes.length cap):=by rw[Lib.cell_of_heap g0];rfl
 have Xy:=ah (fun W (hb:Below w2.heap.size w2 W)=>(HK.out W (WC.below ((bO.trans (hb.mono bO.size)).mono hB)) (by have:=bO.size;have:=hb.size;omega)).mono (R':=fun e w'=>e=.returned (.agg #[.int .i64 tk1.kind,.string ⟨tk1.lead.toArray⟩,.string (sS m),.int .i64 tk1.place])∧Below w2.heap.size w2 w'∧Below W.heap.size W w') fun e w' h=>⟨h.1,hb.trans (h.2.mono hb.size),h.2⟩);have hlt2:w.heap.size+1<w2.heap.size:=(bQ g1).1
 go_cut [5] (fun p wc=>∃ X:Nat,p=.pointer (some ⟨X,0,none⟩)∧wc.heap[X]?=some (.cells #[.int .i64 tk1.kind,.string ⟨tk1.lead.toArray⟩,.string (sS m),.int .i64 tk1.place] 136 (0,0))∧wc.heap[w.heap.size]?=some (.cells #[.slice a1 toks.length c1,.slice (some ⟨b,off,none⟩) nodes.length cap] 132 (0,0))∧wc.heap[w.heap.size+1]?=some (.cells #[.int .i64 0,.string ⟨#[]⟩,.string ⟨#[]⟩,.bool false,.slice none 0 0,.bool false,.slice none 0 0,.int .i64 0] 46 (0,0))∧Below w.heap.size w wc)
 case first =>
  go_region_held3 (fun w'=>w'.cell? ⟨w.heap.size,0,none⟩=some (.slice a1 toks.length c1)∧w'.cell? ⟨w.heap.size,1,none⟩=some (.slice (some ⟨b,off,none⟩) nodes.length cap)∧w'.cell? ⟨b,off+i * 3+2,none⟩=some (.slice (some ⟨bk,ok,none⟩) ks.length ck)∧w'.cell? ⟨bk,ok+1,none⟩=some (.int .i64 k1))
   (first|go_keep|exact p3|exact⟨(bM w3 w2.heap.size _ _ _ _ (by omega)).trans p3.1,(bM w3 w2.heap.size _ _ _ _ (by omega)).trans p3.2.1,(bM w3 w2.heap.size _ _ _ _ (by omega)).trans p3.2.2.1,(bM w3 w2.heap.size _ _ _ _ (by omega)).trans p3.2.2.2⟩)
   (first|(go_at_call 67;refine(Xy.out _ ?_).mono ?_;(first|exact(Below.refl _ _).drew|exact((Below.refl _ _).alloc (Nat.le_refl _) _).drew);rintro e w3 ⟨rfl,hq3,hb3⟩;have p3:=And.intro (cell_later hq3 r0) (And.intro (cell_later hq3 r1) (And.intro (cell_later hq3 X2) (cell_later hq3 Z2)));try (have D9:=(hb3.block w2.heap.size (by simp)).trans (heap_alloc_new w2 (.cells #[.int .i64 0,.string ⟨#[]⟩,.string ⟨#[]⟩,.int .i64 0] 136));obtain⟨Xz,XB,XC,XE,XF⟩:=mW D9)))
  ·have xS:Below w.heap.size w w3:=bO.trans (hq3.mono bO.size)
   have q0:=(hq3.block w.heap.size (by omega)).trans g0;have q1:=(hq3.block (w.heap.size+1) (by omega)).trans g1;have hz3:=hq3.size;clear r0 r1 X2 Z2 p3;go_wp2_with fail
   go_meet
   exact⟨w3.heap.size,rfl,heap_alloc_new _ _,(Lib.alloc_old w3 _ w.heap.size (by omega)).trans q0,(Lib.alloc_old w3 _ (w.heap.size+1) (by omega)).trans q1,xS.alloc xS.size _⟩
  ·have xS:Below w.heap.size w w3:=bO.trans (hq3.mono bO.size)
   have q0:=(hq3.block w.heap.size (by omega)).trans g0;have q1:=(hq3.block (w.heap.size+1) (by omega)).trans g1;obtain⟨S3,So,_⟩:=wM D9 (.int .i64 tk1.kind) (.string ⟨tk1.lead.toArray⟩) (.string (sS m)) (.int .i64 tk1.place)
   have hle:w.heap.size≤w2.heap.size:=by omega
   clear r0 r1 X2 Z2 p3 Xz XB XC XE XF;go_wp2_with fail
   go_meet
   exact⟨w2.heap.size,rfl,S3,(So w.heap.size (by omega)).trans q0,(So (w.heap.size+1) (by omega)).trans q1,(((xS.setCell hle _).setCell hle _).setCell hle _).setCell hle _⟩
 case rest =>
  obtain⟨X,rfl,hX,G0,G1,P7⟩:=hcut;have abM:=P7.size;clear g0 g1 bO X2 Z2 r0 r1 HK Xy hlt2;go_wp2_with (go_at_call 239;refine(Je _).mono ?_;rintro e w5 ⟨rfl,hb5⟩);have Qz:=hb5.size;have Y:=(hb5.block X (bQ hX).1).trans hX;have Y0:=(hb5.block w.heap.size (bQ G0).1).trans G0;have Y1:=(hb5.block (w.heap.size+1) (bQ G1).1).trans G1;have MJ:=P7.trans (hb5.mono abM);have af3:w.heap.size+1<w5.heap.size:=(bQ Y1).1;have HM':=ah ((HM.out N tk1.place w5 (WC.below (MJ.mono hB)) (by omega)).mono fun _ _ h=>h.m);clear hX G0 G1 hb5 P7
  have f2:w5.cell? ⟨X,2,none⟩=some (.string (sS m)):=by rw[Lib.cell_of_heap Y];rfl
  have f3:w5.cell? ⟨X,3,none⟩=some (.int .i64 tk1.place):=by rw[Lib.cell_of_heap Y];rfl
  have r0:w5.cell? ⟨w.heap.size,0,none⟩=some (.slice a1 toks.length c1):=by rw[Lib.cell_of_heap Y0];rfl
  have r1:w5.cell? ⟨w.heap.size,1,none⟩=some (.slice (some ⟨b,off,none⟩) nodes.length cap):=by rw[Lib.cell_of_heap Y0];rfl
  go_loop [20] (fun q=>∃ k:Nat,k≤m∧q=.int .i64 k) (fun q=>14 - (intOf q).toNat)
  case atStart=>exact⟨0,Nat.zero_le _,rfl⟩
  case round =>
   obtain⟨k,hk,rfl⟩:=hrel
   have pQ:(k:Int)<14:=by omega
   have hx:=Ub k (by omega)
   by_cases hkm:k=m
   ·subst hkm
    have he:=Xw k
    have hop:(7:Int)+(k:Int)=(N:Int):=by have:=HN.out;omega
    go_wp2_with (go_at_call 180;refine HM'.out.mono ?_);rintro e w8 ⟨am,wn,cm,ae,ce,rfl,hxe,j3⟩;have D1:=(j3.block (w.heap.size+1) (by omega)).trans Y1;clear r0 r1 f2 f3 Y Y0 Y1 hop
    have d0:w8.cell? ⟨w.heap.size+1,0,none⟩=some (.int .i64 0):=by rw[Lib.cell_of_heap D1];rfl
    have d1:w8.cell? ⟨w.heap.size+1,1,none⟩=some (.string ⟨#[]⟩):=by rw[Lib.cell_of_heap D1];rfl
    have d2:w8.cell? ⟨w.heap.size+1,2,none⟩=some (.string ⟨#[]⟩):=by rw[Lib.cell_of_heap D1];rfl
    have d3:w8.cell? ⟨w.heap.size+1,3,none⟩=some (.bool false):=by rw[Lib.cell_of_heap D1];rfl
    have d4:w8.cell? ⟨w.heap.size+1,4,none⟩=some (.slice none 0 0):=by rw[Lib.cell_of_heap D1];rfl
    have d5:w8.cell? ⟨w.heap.size+1,5,none⟩=some (.bool false):=by rw[Lib.cell_of_heap D1];rfl
    have d6:w8.cell? ⟨w.heap.size+1,6,none⟩=some (.slice none 0 0):=by rw[Lib.cell_of_heap D1];rfl
    have d7:w8.cell? ⟨w.heap.size+1,7,none⟩=some (.int .i64 0):=by rw[Lib.cell_of_heap D1];rfl
    have dz:∀ j,w8.frozen? ⟨w.heap.size+1,j,none⟩=false:=by intro j;simp[World.frozen?,D1]
    go_wp2;obtain⟨hE,yR⟩:=EPost.store (w0:=w) (b:=w.heap.size+1) hxe j3 MJ (by omega) (by omega) (.int .i64 N) (.string ⟨#[]⟩) (.string ⟨#[]⟩) (.bool false) (.slice am wn cm) (.bool false) (.slice ae iV.length ce) (.int .i64 tk1.place);refine bodyPost_ret (v:=.agg #[.int .i64 N,.string ⟨#[]⟩,.string ⟨#[]⟩,.bool false,.slice am wn cm,.bool false,.slice ae iV.length ce,.int .i64 tk1.place]) (by simp[results,Tryz.results178,go_sem,d0,d1,d2,d3,d4,d5,d6,d7]) rfl ?_;exact⟨_,_,rfl,hE,yR⟩
   ·have he:=abL k m (by omega) adt hkm
    go_wp2
    go_round
    case rel=>exact⟨k+1,by omega,by go_num⟩
    case measure=>simp[intOf];omega
end Go.Proofs.YtknicmmigbhpcaaGreatDoor
