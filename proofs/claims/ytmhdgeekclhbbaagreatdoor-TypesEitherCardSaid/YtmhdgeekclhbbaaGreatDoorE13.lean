/- Walks and plain laws, without a condition. -/
import Derived.Test.YtmhdgeekclhbbaaGreatDoorE09
set_option maxHeartbeats 16000000
set_option maxRecDepth 100000
set_option linter.unusedVariables false
set_option linter.unusedSimpArgs false
namespace Go.Proofs.YtmhdgeekclhbbaaGreatDoor
open Go.RowKit Go
variable{c0 c1 c2 c3 c4 c5 c6 c7:Value}{b u:Nat}{w:World}{t:PT}{aj:List Nd}{l:List PT}{ks:List Int}
theorem Iw {T:TypeId}(h:w.heap[b]?=some (.cells #[c0,c1] T (0,0))):w.cell? ⟨b,0,none⟩=some c0/\w.cell? ⟨b,1,none⟩=some c1:=by
 constructor<;>(rw[bg h];rfl)
theorem cells3 {T:TypeId}(h:w.heap[b]?=some (.cells #[c0,c1,c2] T (0,0))):w.cell? ⟨b,0,none⟩=some c0/\w.cell? ⟨b,1,none⟩=some c1/\w.cell? ⟨b,2,none⟩=some c2:=by
 refine⟨?_,?_,?_⟩<;>(rw[bg h];rfl)
theorem Uc {T:TypeId}(h:w.heap[b]?=some (.cells #[c0,c1,c2,c3] T (0,0))):w.cell? ⟨b,0,none⟩=some c0/\w.cell? ⟨b,1,none⟩=some c1/\w.cell? ⟨b,2,none⟩=some c2/\w.cell? ⟨b,3,none⟩=some c3/\∀ j,w.frozen? ⟨b,j,none⟩=false:=by
 refine⟨?_,?_,?_,?_,λj=>by simp[World.frozen?,h]⟩<;>(rw[bg h];rfl)
theorem nH {T:TypeId}(h:w.heap[b]?=some (.cells #[c0,c1,c2,c3,c4,c5,c6,c7] T (0,0))):(w.cell? ⟨b,0,none⟩=some c0/\w.cell? ⟨b,1,none⟩=some c1/\w.cell? ⟨b,2,none⟩=some c2/\w.cell? ⟨b,3,none⟩=some c3)/\(w.cell? ⟨b,4,none⟩=some c4/\w.cell? ⟨b,5,none⟩=some c5/\w.cell? ⟨b,6,none⟩=some c6/\w.cell? ⟨b,7,none⟩=some c7)/\∀ j,w.frozen? ⟨b,j,none⟩=false:=by
 refine⟨⟨?_,?_,?_,?_⟩,⟨?_,?_,?_,?_⟩,λj=>by simp[World.frozen?,h]⟩<;>(rw[bg h];rfl)
structure nI (w:World) (c0 c1 c2 c3:Array Value) (t0 t1 t2 t3:TypeId) (W:World):Prop where
 s0:W.heap[w.heap.size]?=some (.cells c0 t0 (0,0))
 s1:W.heap[w.heap.size+1]?=some (.cells c1 t1 (0,0))
 s2:W.heap[w.heap.size+1+1]?=some (.cells c2 t2 (0,0))
 s3:W.heap[w.heap.size+1+1+1]?=some (.cells c3 t3 (0,0))
 al:Below w.heap.size w W
section
variable {w W W':World} {c0 c1 c2 c3:Array Value} {t0 t1 t2 t3:TypeId}
theorem nI.of (h:(((w.alloc (.cells c0 t0)).alloc (.cells c1 t1)).alloc (.cells c2 t2)).alloc (.cells c3 t3)=W):nI w c0 c1 c2 c3 t0 t1 t2 t3 W:=by
 subst h
 have ho:=λ(W:World) (o:Obj) (k:Nat) (hk:k<W.heap.size)=>iB W o k hk
 have g1:=aZ (w.alloc (.cells c0 t0)) (.cells c1 t1);have g2:=aZ ((w.alloc (.cells c0 t0)).alloc (.cells c1 t1)) (.cells c2 t2);have g3:=aZ (((w.alloc (.cells c0 t0)).alloc (.cells c1 t1)).alloc (.cells c2 t2)) (.cells c3 t3);rw[oU] at g1;rw[oU,oU] at g2;rw[oU,oU,oU] at g3;refine⟨?_,?_,?_,g3,((((bY w.heap.size w).alloc (bI _) _).alloc (by simp) _).alloc (by simp<;>omega) _).alloc (by simp<;>omega) _⟩
 ·exact(ho _ _ _ (by simp<;>omega)).trans ((ho _ _ _ (by simp<;>omega)).trans ((ho _ _ _ (by simp)).trans (aZ w (.cells c0 t0))))
 ·exact(ho _ _ _ (by simp<;>omega)).trans ((ho _ _ _ (by simp)).trans g1)
 ·exact(ho _ _ _ (by simp)).trans g2
theorem nI.drewN (h:nI w c0 c1 c2 c3 t0 t1 t2 t3 W)(n:Nat):nI w c0 c1 c2 c3 t0 t1 t2 t3 (W.drewN n):=⟨h.s0,h.s1,h.s2,h.s3,below_drewN h.al n⟩
theorem nI.drew (h:nI w c0 c1 c2 c3 t0 t1 t2 t3 W):nI w c0 c1 c2 c3 t0 t1 t2 t3 W.drew:=⟨h.s0,h.s1,h.s2,h.s3,h.al.drew⟩
theorem nI.size (h:nI w c0 c1 c2 c3 t0 t1 t2 t3 W):w.heap.size+1+1+1<W.heap.size:=(bU h.s3).1
theorem nI.later (h:nI w c0 c1 c2 c3 t0 t1 t2 t3 W)(hb:Below W.heap.size W W'):nI w c0 c1 c2 c3 t0 t1 t2 t3 W':=by
 have:=h.size;exact⟨(hb.block _ (by omega)).trans h.s0,(hb.block _ (by omega)).trans h.s1,(hb.block _ (by omega)).trans h.s2,(hb.block _ (by omega)).trans h.s3,h.al.trans (hb.mono h.al.size)⟩
end
def Rd (f B:Nat)(tv nv:Value)(ah:List Tok)(aj:List Nd)(k:Nat)(x:PE):Prop:=∀ W:World,bE B W (.agg #[tv,nv]) ah aj->B<=W.heap.size->Calls Tryz.prog f #[.agg #[tv,nv],.int .i64 k] W (EPost XA x W)
def RdM (B:Nat)(tv nv:Value)(ah:List Tok)(aj:List Nd)(i:Nat)(jU:List PE):Prop:=∀ (op at_:Nat) (W:World),bE B W (.agg #[tv,nv]) ah aj->B<=W.heap.size->Calls Tryz.prog 175 #[.agg #[tv,nv],.int .i64 op,.int .i64 at_,.int .i64 i] W (EPost XA (.mk op [] [] 0 [] false jU at_) W)
inductive sM (B:Nat) (tv nv:Value) (ah:List Tok) (aj:List Nd) (i:Nat) (ks:List Int) (t:Tok):Int->PE->Prop
 | group (k1:Nat) (x:PE):ks[1]?=some (k1:Int)->Rd 108 B tv nv ah aj k1 x->sM B tv nv ah aj i ks t 12 x
 | bin (x:PE):Rd 173 B tv nv ah aj i x->sM B tv nv ah aj i ks t 10 x
 | call (x:PE):Rd 174 B tv nv ah aj i x->sM B tv nv ah aj i ks t 13 x
 | not (jU:List PE):t.text=[110,111,116]->RdM B tv nv ah aj i jU->sM B tv nv ah aj i ks t 11 (.mk 6 [] [] 0 [] false jU t.place)
 | neg (jU:List PE):t.text=[45]->RdM B tv nv ah aj i jU->sM B tv nv ah aj i ks t 11 (.mk 5 [] [] 0 [] false jU t.place)
 | iff (jU:List PE):RdM B tv nv ah aj i jU->sM B tv nv ah aj i ks t 8 (.mk 21 [] [] 0 [] false jU t.place)
 | tq (jU:List PE):RdM B tv nv ah aj i jU->sM B tv nv ah aj i ks t 9 (.mk 23 [] [] 0 [] false jU t.place)
 | sZ (jU:List PE) (k1:Nat) (tx:aH):RdM B tv nv ah aj i jU->ks[1]?=some (k1:Int)->(∀ W:World,bE B W (.agg #[tv,nv]) ah aj->B<=W.heap.size->Calls Tryz.prog 105 #[.agg #[tv,nv],.int .i64 k1] W λe w'=>e=.returned (.string ⟨tx.toArray⟩)/\Below W.heap.size W w')->sM B tv nv ah aj i ks t 7 (.mk 22 tx [] 0 [] false jU t.place)
 | num (n:Nat) (txt:aH):(∀ W:World,Calls Tryz.prog 176 #[.string ⟨t.text.toArray⟩] W (abw n W))->sM B tv nv ah aj i ks t 15 (.mk 1 [] [] (n:Nat) txt false [] t.place)
 | tru:t.text=[116,114,117,101]->sM B tv nv ah aj i ks t 16 (.mk 2 [] [] 0 [] true [] t.place)
 | fls:t.text=[102,97,108,115,101]->sM B tv nv ah aj i ks t 16 (.mk 2 [] [] 0 [] false [] t.place)
 | res:sM B tv nv ah aj i ks t 17 (.mk 4 [] [] 0 [] false [] t.place)
 | Cr:sM B tv nv ah aj i ks t 14 (.mk 3 t.text [] 0 [] false [] t.place)
theorem Lp (B:Nat)(tv nv:Value)(ah:List Tok)(aj:List Nd)(i:Nat)(kd:Int)(ks:List Int)(w:World)(h:bE B w (.agg #[tv,nv]) ah aj)(hB:B<=w.heap.size)(hn:aj[i]?=some ⟨kd,-1,ks⟩)(k0:Nat)(hk0:ks[0]?=some (k0:Int))(t:Tok)(xn:Nd)(hl0:aj[k0]?=some xn)
  (ht:(∃ u:Nat,xn=⟨19,(u:Nat),[]⟩/\ah[u]?=some t)\/(xn.kind≠19/\t=⟨0,[],[],0⟩)) (x:PE) (hx:sM B tv nv ah aj i ks t kd x) :
  Calls Tryz.prog 108 #[.agg #[tv,nv],.int .i64 i] w (EPost XA x w):=by
 obtain⟨hi,hni⟩:=qm hn;obtain⟨hk1,hk2⟩:=qm hk0;obtain⟨hi0,ahh⟩:=qm hl0;have HT:=ay h;obtain⟨a1,c1,_,_,e⟩:=h.slices;obtain⟨b,off,cap,kv,rfl,hb,x0,x1,x2,hkv⟩:=h.node hi;obtain⟨b',off',jc,kv',e',hb',y0,_,_,_⟩:=h.node hi0
 obtain⟨⟨rfl,rfl⟩,rfl⟩:(b=b'/\off=off')/\cap=jc:=by simpa using e'
 obtain⟨rfl,-⟩:tv=.slice a1 ah.length c1/\_:=by simpa using e
 rw[hni] at x0 x1 hkv;rw[ahh] at y0;simp only at x0 x1 hkv;obtain⟨ak,ck,rfl,_,zu⟩:=hkv.form;obtain⟨bk,ok,rfl,hbk,hkc⟩:=zu (by omega);have hz:=hkc 0 hk1;rw[hk2,qp] at hz;have YQ:=ay hkc;have HL0:=ay hl0;have HX:=ay hx;have Vd:=ay ht;generalize hkk:xn.kind=kk at y0;have HKK:=ay hkk;have dD:=((bY w.heap.size w).alloc (bI _) (.cells #[.slice a1 ah.length c1,.slice (some ⟨b,off,none⟩) aj.length cap] 126)).alloc (by simp) (.cells #[.int .i64 0,.string ⟨#[]⟩,.string ⟨#[]⟩,.bool false,.slice none 0 0,.bool false,.slice none 0 0,.int .i64 0] 64);have X0:=jy dD x0;have X1:=jy dD x1;have X2:=jy dD x2
 have hiI:(i:Int)<(aj.length:Int):=by omega
 have aj1:(k0:Int)<(aj.length:Int):=by omega
 have hkl:(0:Int)<(ks.length:Int):=by omega
 have aj2:0<ks.length:=by omega
 clear e e' hkv zu hkc hn hni ahh hl0 hk0 hk2 h hx ht hkk dD x0 x1 x2;go_enter Tryz.func108,Tryz.ntmps108;go_wp2;generalize hw4:(((w.alloc _).alloc _).alloc _).alloc _=w4;have S:=nI.of hw4;obtain⟨r0,r1⟩:=Iw S.s0;obtain⟨n0,n1,n2⟩:=cells3 S.s2;have z4:=jy S.al hz;have y4:=jy S.al y0;clear hw4 X0 X1 X2
 go_quiet (fail)
 go_upto_if 27 with fail
 have S5:=S.drewN nq;clear r0 r1 n0 n1 n2 z4 y4 S;generalize w4.drewN nq=w5 at S5 |-;obtain⟨r0,r1⟩:=Iw S5.s0;obtain⟨n0,n1,n2⟩:=cells3 S5.s2
 go_cut [] (λwc=>nI w #[.slice a1 ah.length c1,.slice (some ⟨b,off,none⟩) aj.length cap] #[.int .i64 0,.string ⟨#[]⟩,.string ⟨#[]⟩,.bool false,.slice none 0 0,.bool false,.slice none 0 0,.int .i64 0] #[.int .i64 kd,.int .i64 (-1),.slice (some ⟨bk,ok,none⟩) ks.length ck] #[.int .i64 t.kind,.string ⟨t.lead.toArray⟩,.string ⟨t.text.toArray⟩,.int .i64 t.place] 126 64 129 131 wc)
 case first =>
  rcases Vd.out with ⟨u,hxn,hut⟩|⟨hne,rfl⟩
  ·have hkk:=HKK.out
   rw[hxn] at hkk;obtain rfl:kk=19:=hkk.symm;have hl0:=HL0.out;rw[hxn] at hl0;have z5:=jy S5.al hz;obtain⟨hu,ahi⟩:=qm hut
   have hK:=(lJ B _ _ ah aj k0 u w5.drew (HT.out.below ((S5.al.mono hB).drew)) (by have:=S5.al.size;show B<=w5.heap.size;omega) hl0 hu)
   rw[ahi] at hK;unfold qN dX at hK;have HK:=ay hK;clear hK hut ahi hkk hxn hl0 hz y0;go_wp2
   go_still_tail 5,(by kernel_rfl)
   change wpList _ _ _ _ _ w5.drew;go_wp2_with (go_at_call 61;refine HK.out.mono ?_);rintro e w6 ⟨rfl,hb6⟩;have S6:=S5.drew.later hb6;obtain⟨t0,t1,t2,t3,tz⟩:=Uc S6.s3;obtain⟨S3,So,Sz⟩:=Af S6.s3 (.int .i64 t.kind) (.string ⟨t.lead.toArray⟩) (.string ⟨t.text.toArray⟩) (.int .i64 t.place);clear z5 r0 r1 n0 n1 n2;go_wp2
   go_meet
   exact⟨(So _ (by omega)).trans S6.s0,(So _ (by omega)).trans S6.s1,(So _ (by omega)).trans S6.s2,S3,(((S6.al.setCell (by show _<=w.heap.size+1+1+1;omega) _).setCell (by show _<=w.heap.size+1+1+1;omega) _).setCell (by show _<=w.heap.size+1+1+1;omega) _).setCell (by show _<=w.heap.size+1+1+1;omega) _⟩
  ·have agY:(kk == 19)=false:=by rw[<- HKK.out,<- wT,beq_iff_eq];exact hne
   clear hz y0;go_wp2
   go_meet
   exact S5
 case rest =>
  have S:=hcut
  obtain⟨w7,rfl⟩:∃ w7:World,w7=wc:=⟨_,rfl⟩
  clear hcut S5 r0 r1 n0 n1 n2 hz y0 Vd HKK HL0;obtain⟨r0,r1⟩:=Iw S.s0;obtain⟨n0,n1,n2⟩:=cells3 S.s2;have hs:=S.size;have hT7:=HT.out.below (S.al.mono hB);have hB7:=iY hB S.al.size;have hx:=HX.out;clear HX;obtain⟨f0,f1,f2,f3,fz⟩:=Uc S.s3
  cases hx with
  | group k1 _ h1 hF =>
   obtain⟨hp1,hp2⟩:=qm h1;have z1:=jy S.al (YQ.out 1 hp1);rw[hp2] at z1
   have afA:(1:Int)<(ks.length:Int):=by omega
   have XU:=ay ((hF w7.drew (HT.out.below ((S.al.mono hB).drew)) hB7).mono λ_ _ h=>h.s);clear hF h1 hp2;go_wp2
   go_still_tail 5,(by kernel_rfl)
   change wpList _ _ _ _ _ w7.drew;go_wp2_with (go_at_call 108;refine XU.out.mono ?_);rintro e w8 ⟨am,wn,cm,ae,ce,rfl,hxe,lF⟩;have D1:=(lF.block (w.heap.size+1) (show w.heap.size+1<w7.heap.size by omega)).trans S.s1;clear r0 r1 n0 n1 n2 f0 f1 f2 f3;obtain⟨⟨d0,d1,d2,d3⟩,⟨d4,d5,d6,d7⟩,dz⟩:=nH D1;go_wp2;refine o9 (v:=.agg #[.int .i64 x.op,.string ⟨x.name.toArray⟩,.string ⟨x.module.toArray⟩,.bool (decide (x.num<0)),.slice am wn cm,.bool x.yes,.slice ae x.aA.length ce,.int .i64 x.at_]) (by simp[results,Tryz.results108,go_sem,d0,d1,d2,d3,d4,d5,d6,d7]) rfl ⟨_,_,rfl,(EPost.store (w0:=w) (b:=w.heap.size+1) hxe lF S.al.drew (by omega) (by have:=S.al.size;first|omega|(show w.heap.size+1<w7.heap.size;omega)) _ _ _ _ _ _ _ _).1,(EPost.store (w0:=w) (b:=w.heap.size+1) hxe lF S.al.drew (by omega) (by have:=S.al.size;first|omega|(show w.heap.size+1<w7.heap.size;omega)) _ _ _ _ _ _ _ _).2⟩
  | bin _ hF =>
   have XU:=ay ((hF w7 hT7 hB7).mono λ_ _ h=>h.s);clear hF;go_wp2_with (go_at_call 173;refine XU.out.mono ?_);rintro e w8 ⟨am,wn,cm,ae,ce,rfl,hxe,lF⟩;have D1:=(lF.block (w.heap.size+1) (show w.heap.size+1<w7.heap.size by omega)).trans S.s1;clear r0 r1 n0 n1 n2 f0 f1 f2 f3;obtain⟨⟨d0,d1,d2,d3⟩,⟨d4,d5,d6,d7⟩,dz⟩:=nH D1;go_wp2;refine o9 (v:=.agg #[.int .i64 x.op,.string ⟨x.name.toArray⟩,.string ⟨x.module.toArray⟩,.bool (decide (x.num<0)),.slice am wn cm,.bool x.yes,.slice ae x.aA.length ce,.int .i64 x.at_]) (by simp[results,Tryz.results108,go_sem,d0,d1,d2,d3,d4,d5,d6,d7]) rfl ⟨_,_,rfl,(EPost.store (w0:=w) (b:=w.heap.size+1) hxe lF S.al (by omega) (by have:=S.al.size;first|omega|(show w.heap.size+1<w7.heap.size;omega)) _ _ _ _ _ _ _ _).1,(EPost.store (w0:=w) (b:=w.heap.size+1) hxe lF S.al (by omega) (by have:=S.al.size;first|omega|(show w.heap.size+1<w7.heap.size;omega)) _ _ _ _ _ _ _ _).2⟩
  | call _ hF =>
   have XU:=ay ((hF w7 hT7 hB7).mono λ_ _ h=>h.s);clear hF;go_wp2_with (go_at_call 174;refine XU.out.mono ?_);rintro e w8 ⟨am,wn,cm,ae,ce,rfl,hxe,lF⟩;have D1:=(lF.block (w.heap.size+1) (show w.heap.size+1<w7.heap.size by omega)).trans S.s1;clear r0 r1 n0 n1 n2 f0 f1 f2 f3;obtain⟨⟨d0,d1,d2,d3⟩,⟨d4,d5,d6,d7⟩,dz⟩:=nH D1;go_wp2;refine o9 (v:=.agg #[.int .i64 x.op,.string ⟨x.name.toArray⟩,.string ⟨x.module.toArray⟩,.bool (decide (x.num<0)),.slice am wn cm,.bool x.yes,.slice ae x.aA.length ce,.int .i64 x.at_]) (by simp[results,Tryz.results108,go_sem,d0,d1,d2,d3,d4,d5,d6,d7]) rfl ⟨_,_,rfl,(EPost.store (w0:=w) (b:=w.heap.size+1) hxe lF S.al (by omega) (by have:=S.al.size;first|omega|(show w.heap.size+1<w7.heap.size;omega)) _ _ _ _ _ _ _ _).1,(EPost.store (w0:=w) (b:=w.heap.size+1) hxe lF S.al (by omega) (by have:=S.al.size;first|omega|(show w.heap.size+1<w7.heap.size;omega)) _ _ _ _ _ _ _ _).2⟩
  | not jU htx hM =>
   have XU:=ay ((hM 6 t.place w7 hT7 hB7).mono λ_ _ h=>h.m);rw[htx] at f2;clear htx;clear hM;go_wp2_with (go_at_call 175;refine XU.out.mono ?_);rintro e w8 ⟨am,wn,cm,ae,ce,rfl,hxe,lF⟩;have D1:=(lF.block (w.heap.size+1) (show w.heap.size+1<w7.heap.size by omega)).trans S.s1;clear r0 r1 n0 n1 n2 f0 f1 f2 f3;obtain⟨⟨d0,d1,d2,d3⟩,⟨d4,d5,d6,d7⟩,dz⟩:=nH D1;go_wp2;refine o9 (v:=.agg #[.int .i64 6,.string ⟨#[]⟩,.string ⟨#[]⟩,.bool false,.slice am wn cm,.bool false,.slice ae jU.length ce,.int .i64 t.place]) (by simp[results,Tryz.results108,go_sem,d0,d1,d2,d3,d4,d5,d6,d7]) rfl ⟨_,_,rfl,(EPost.store (w0:=w) (b:=w.heap.size+1) hxe lF S.al (by omega) (by have:=S.al.size;first|omega|(show w.heap.size+1<w7.heap.size;omega)) _ _ _ _ _ _ _ _).1,(EPost.store (w0:=w) (b:=w.heap.size+1) hxe lF S.al (by omega) (by have:=S.al.size;first|omega|(show w.heap.size+1<w7.heap.size;omega)) _ _ _ _ _ _ _ _).2⟩
  | neg jU htx hM =>
   have XU:=ay ((hM 5 t.place w7 hT7 hB7).mono λ_ _ h=>h.m);rw[htx] at f2;clear htx;clear hM;go_wp2_with (go_at_call 175;refine XU.out.mono ?_);rintro e w8 ⟨am,wn,cm,ae,ce,rfl,hxe,lF⟩;have D1:=(lF.block (w.heap.size+1) (show w.heap.size+1<w7.heap.size by omega)).trans S.s1;clear r0 r1 n0 n1 n2 f0 f1 f2 f3;obtain⟨⟨d0,d1,d2,d3⟩,⟨d4,d5,d6,d7⟩,dz⟩:=nH D1;go_wp2;refine o9 (v:=.agg #[.int .i64 5,.string ⟨#[]⟩,.string ⟨#[]⟩,.bool false,.slice am wn cm,.bool false,.slice ae jU.length ce,.int .i64 t.place]) (by simp[results,Tryz.results108,go_sem,d0,d1,d2,d3,d4,d5,d6,d7]) rfl ⟨_,_,rfl,(EPost.store (w0:=w) (b:=w.heap.size+1) hxe lF S.al (by omega) (by have:=S.al.size;first|omega|(show w.heap.size+1<w7.heap.size;omega)) _ _ _ _ _ _ _ _).1,(EPost.store (w0:=w) (b:=w.heap.size+1) hxe lF S.al (by omega) (by have:=S.al.size;first|omega|(show w.heap.size+1<w7.heap.size;omega)) _ _ _ _ _ _ _ _).2⟩
  | iff jU hM =>
   have XU:=ay ((hM 21 t.place w7 hT7 hB7).mono λ_ _ h=>h.m);clear hM;go_wp2_with (go_at_call 175;refine XU.out.mono ?_);rintro e w8 ⟨am,wn,cm,ae,ce,rfl,hxe,lF⟩;have D1:=(lF.block (w.heap.size+1) (show w.heap.size+1<w7.heap.size by omega)).trans S.s1;clear r0 r1 n0 n1 n2 f0 f1 f2 f3;obtain⟨⟨d0,d1,d2,d3⟩,⟨d4,d5,d6,d7⟩,dz⟩:=nH D1;go_wp2;refine o9 (v:=.agg #[.int .i64 21,.string ⟨#[]⟩,.string ⟨#[]⟩,.bool false,.slice am wn cm,.bool false,.slice ae jU.length ce,.int .i64 t.place]) (by simp[results,Tryz.results108,go_sem,d0,d1,d2,d3,d4,d5,d6,d7]) rfl ⟨_,_,rfl,(EPost.store (w0:=w) (b:=w.heap.size+1) hxe lF S.al (by omega) (by have:=S.al.size;first|omega|(show w.heap.size+1<w7.heap.size;omega)) _ _ _ _ _ _ _ _).1,(EPost.store (w0:=w) (b:=w.heap.size+1) hxe lF S.al (by omega) (by have:=S.al.size;first|omega|(show w.heap.size+1<w7.heap.size;omega)) _ _ _ _ _ _ _ _).2⟩
  | tq jU hM =>
   have XU:=ay ((hM 23 t.place w7 hT7 hB7).mono λ_ _ h=>h.m);clear hM;go_wp2_with (go_at_call 175;refine XU.out.mono ?_);rintro e w8 ⟨am,wn,cm,ae,ce,rfl,hxe,lF⟩;have D1:=(lF.block (w.heap.size+1) (show w.heap.size+1<w7.heap.size by omega)).trans S.s1;clear r0 r1 n0 n1 n2 f0 f1 f2 f3;obtain⟨⟨d0,d1,d2,d3⟩,⟨d4,d5,d6,d7⟩,dz⟩:=nH D1;go_wp2;refine o9 (v:=.agg #[.int .i64 23,.string ⟨#[]⟩,.string ⟨#[]⟩,.bool false,.slice am wn cm,.bool false,.slice ae jU.length ce,.int .i64 t.place]) (by simp[results,Tryz.results108,go_sem,d0,d1,d2,d3,d4,d5,d6,d7]) rfl ⟨_,_,rfl,(EPost.store (w0:=w) (b:=w.heap.size+1) hxe lF S.al (by omega) (by have:=S.al.size;first|omega|(show w.heap.size+1<w7.heap.size;omega)) _ _ _ _ _ _ _ _).1,(EPost.store (w0:=w) (b:=w.heap.size+1) hxe lF S.al (by omega) (by have:=S.al.size;first|omega|(show w.heap.size+1<w7.heap.size;omega)) _ _ _ _ _ _ _ _).2⟩
  | sZ jU k1 tx hM h1 hX =>
   obtain⟨hp1,hp2⟩:=qm h1;have ahj:=YQ.out 1 hp1;rw[hp2] at ahj;have HM':=ay ((hM 22 t.place w7 hT7 hB7).mono λ_ _ h=>h.m);have HXX:=ay hX;clear hM h1 hp2 hX;go_wp2_with (go_at_call 175;refine HM'.out.mono ?_);rintro e w8 ⟨am,wn,cm,ae,ce,rfl,hxe,lF⟩;have S8:=S.later lF;have hz8:=lF.size;clear r0 r1 n0 n1 n2 f0 f1 f2 f3 fz
   go_upto_region 22 with (fail)
   have ha9:=aB w8 (.cells #[.int .i64 22,.string ⟨#[]⟩,.string ⟨#[]⟩,.bool false,.slice am wn cm,.bool false,.slice ae jU.length ce,.int .i64 t.place] 64);have N9:=aZ w8 (.cells #[.int .i64 22,.string ⟨#[]⟩,.string ⟨#[]⟩,.bool false,.slice am wn cm,.bool false,.slice ae jU.length ce,.int .i64 t.place] 64);have YR:=(hxe.imp (λb hb hlt=>(⟨hb,hlt⟩:w7.heap.size<=b/\b<w8.heap.size))).frame (w':=w8.alloc (.cells #[.int .i64 22,.string ⟨#[]⟩,.string ⟨#[]⟩,.bool false,.slice am wn cm,.bool false,.slice ae jU.length ce,.int .i64 t.place] 64)) ⟨by simp,λb _ hb=>iB _ _ _ hb⟩
   have hs9:(w8.alloc (.cells #[.int .i64 22,.string ⟨#[]⟩,.string ⟨#[]⟩,.bool false,.slice am wn cm,.bool false,.slice ae jU.length ce,.int .i64 t.place] 64)).heap.size=w8.heap.size+1:=by simp
   have S9:=S8.later ha9;clear ha9;generalize w8.alloc _=w9 at N9 YR hs9 S9 |-;have k1c:=jy S9.al ahj;obtain⟨r0,r1⟩:=Iw S9.s0;obtain⟨n0,n1,n2⟩:=cells3 S9.s2
   have afA:(1:Int)<(ks.length:Int):=by omega
   have YS:=ay (HXX.out w9.drew (HT.out.below ((S9.al.mono hB).drew)) (show B<=w9.heap.size by have:=S9.al.size;omega))
   go_still_tail 5,(by kernel_rfl)
   change wpList _ _ _ _ _ w9.drew;go_wp2_with (go_at_call 105;refine YS.out.mono ?_);rintro e nP ⟨rfl,Dj⟩;have pF:Below w9.heap.size w9 nP:=(bY w9.heap.size w9).drew.trans Dj;have S10:=S9.later pF;have E9:=(pF.block w8.heap.size (by omega)).trans N9;obtain⟨⟨_,e0,_,_⟩,_,ez⟩:=nH E9;have Nh:=YR.frame (bA.of pF);clear r0 r1 n0 n1 n2 k1c N9 Dj pF YR;have E9':=kG nP w8.heap.size 1 _ _ (.string ⟨tx.toArray⟩) E9;have E1':=(qo nP ⟨w8.heap.size,1,none⟩ (w.heap.size+1) (.string ⟨tx.toArray⟩) (by show w.heap.size+1≠w8.heap.size;omega)).trans S10.s1;have aeE:=S10.al.setCell (p:=⟨w8.heap.size,1,none⟩) (by show w.heap.size<=w8.heap.size;omega) (.string ⟨tx.toArray⟩);have ahk:=Nh.frame (bA.set (a:=⟨w8.heap.size,1,none⟩) (.string ⟨tx.toArray⟩) λb hb=>by show b≠w8.heap.size;omega)
   go_upto_region 23 with (fail)
   generalize nP.setCell _ _=xJ at E9' E1' aeE ahk |-;obtain⟨⟨b0,b1,b2,b3⟩,⟨b4,b5,b6,b7⟩,_⟩:=nH (show xJ.heap[w8.heap.size]?=some (.cells #[.int .i64 22,.string ⟨tx.toArray⟩,.string ⟨#[]⟩,.bool false,.slice am wn cm,.bool false,.slice ae jU.length ce,.int .i64 t.place] 64 (0,0)) from E9');obtain⟨⟨d0,d1,d2,d3⟩,⟨d4,d5,d6,d7⟩,dz⟩:=nH E1';clear e0 ez E9;go_wp2;refine o9 (v:=.agg #[.int .i64 22,.string ⟨tx.toArray⟩,.string ⟨#[]⟩,.bool false,.slice am wn cm,.bool false,.slice ae jU.length ce,.int .i64 t.place]) (by simp[results,Tryz.results108,go_sem,d0,d1,d2,d3,d4,d5,d6,d7]) rfl ⟨.slice am wn cm,.slice ae jU.length ce,rfl,?_,ku aeE (by omega) _ _ _ _ _ _ _ _⟩
   have hq:=(ahk.frame (xX _ _ (w.heap.size+1) (.int .i64 22) (.string ⟨tx.toArray⟩) (.string ⟨#[]⟩) (.bool false) (.slice am wn cm) (.bool false) (.slice ae jU.length ce) (.int .i64 t.place) λk hk=>by omega)).imp (Q:=λb=>w.heap.size<=b) λb hb _=>by omega
   rw[qC] at hq |-;exact hq
  | num n txt hZ =>
   have HZ:=ay (hZ w7);clear hZ;go_wp2_with (go_at_call 176;refine HZ.out.mono ?_);rintro e w8 ⟨am,wn,cm,rfl,JR,lF⟩;have S8:=S.later lF;clear r0 r1 n0 n1 n2 f0 f1 f2 f3 fz
   go_upto_region 26 with (fail)
   have ha9:=aB w8 (.cells #[.bool false,.slice am wn cm] 62);have N9:=aZ w8 (.cells #[.bool false,.slice am wn cm] 62);have hn9:=XA.frame (P:=λb=>w7.heap.size<=b) (w:=w8) (w':=w8.alloc (.cells #[.bool false,.slice am wn cm] 62)) (n:=(n:Nat)) (m:=.slice am wn cm) JR ⟨by simp,λb _ hb=>iB _ _ _ hb⟩;have S9:=S8.later ha9;clear ha9;generalize w8.alloc _=w9 at N9 hn9 S9 |-;obtain⟨_,_,_,f3,_⟩:=Uc S9.s3;obtain⟨b0,b1⟩:=Iw N9;obtain⟨⟨d0,d1,d2,d3⟩,⟨d4,d5,d6,d7⟩,dz⟩:=nH S9.s1;go_wp2;refine o9 (v:=.agg #[.int .i64 1,.string ⟨#[]⟩,.string ⟨#[]⟩,.bool false,.slice am wn cm,.bool false,.slice none 0 0,.int .i64 t.place]) (by simp[results,Tryz.results108,go_sem,d0,d1,d2,d3,d4,d5,d6,d7]) rfl ⟨.slice am wn cm,.slice none 0 0,afr _ _ _ _ _,?_,ku S9.al (by omega) _ _ _ _ _ _ _ _⟩;rw[qC];exact⟨XA.imp (XA.frame hn9 (xX _ _ (w.heap.size+1) (.int .i64 1) (.string ⟨#[]⟩) (.string ⟨#[]⟩) (.bool false) (.slice am wn cm) (.bool false) (.slice none 0 0) (.int .i64 t.place) λk hk=>by omega)) (λb hb _=>by omega),[],pO.nil _ _ _,by rw[jl]⟩
  | tru htx =>
   rw[htx] at f2;clear htx;obtain⟨⟨d0,d1,d2,d3⟩,⟨d4,d5,d6,d7⟩,dz⟩:=nH S.s1;go_wp2;refine o9 (v:=.agg #[.int .i64 2,.string ⟨#[]⟩,.string ⟨#[]⟩,.bool false,.slice none 0 0,.bool true,.slice none 0 0,.int .i64 t.place]) (by simp[results,Tryz.results108,go_sem,d0,d1,d2,d3,d4,d5,d6,d7]) rfl ⟨.slice none 0 0,.slice none 0 0,rfl,?_,ku S.al (by omega) _ _ _ _ _ _ _ _⟩;rw[qC];exact⟨ow.zero _ _,[],pO.nil _ _ _,by rw[jl]⟩
  | fls htx =>
   rw[htx] at f2;clear htx;obtain⟨⟨d0,d1,d2,d3⟩,⟨d4,d5,d6,d7⟩,dz⟩:=nH S.s1;go_wp2;refine o9 (v:=.agg #[.int .i64 2,.string ⟨#[]⟩,.string ⟨#[]⟩,.bool false,.slice none 0 0,.bool false,.slice none 0 0,.int .i64 t.place]) (by simp[results,Tryz.results108,go_sem,d0,d1,d2,d3,d4,d5,d6,d7]) rfl ⟨.slice none 0 0,.slice none 0 0,rfl,?_,ku S.al (by omega) _ _ _ _ _ _ _ _⟩;rw[qC];exact⟨ow.zero _ _,[],pO.nil _ _ _,by rw[jl]⟩
  | res =>
   obtain⟨⟨d0,d1,d2,d3⟩,⟨d4,d5,d6,d7⟩,dz⟩:=nH S.s1;go_wp2;refine o9 (v:=.agg #[.int .i64 4,.string ⟨#[]⟩,.string ⟨#[]⟩,.bool false,.slice none 0 0,.bool false,.slice none 0 0,.int .i64 t.place]) (by simp[results,Tryz.results108,go_sem,d0,d1,d2,d3,d4,d5,d6,d7]) rfl ⟨.slice none 0 0,.slice none 0 0,rfl,?_,ku S.al (by omega) _ _ _ _ _ _ _ _⟩;rw[qC];exact⟨ow.zero _ _,[],pO.nil _ _ _,by rw[jl]⟩
  | Cr =>
   obtain⟨⟨d0,d1,d2,d3⟩,⟨d4,d5,d6,d7⟩,dz⟩:=nH S.s1;go_wp2;refine o9 (v:=.agg #[.int .i64 3,.string ⟨t.text.toArray⟩,.string ⟨#[]⟩,.bool false,.slice none 0 0,.bool false,.slice none 0 0,.int .i64 t.place]) (by simp[results,Tryz.results108,go_sem,d0,d1,d2,d3,d4,d5,d6,d7]) rfl ⟨.slice none 0 0,.slice none 0 0,rfl,?_,ku S.al (by omega) _ _ _ _ _ _ _ _⟩;rw[qC];exact⟨ow.zero _ _,[],pO.nil _ _ _,by rw[jl]⟩
def ab2:Array Value:=(rV.map λx=>Value.string ⟨x.toArray⟩).toArray
def wR (k:Nat):ByteArray:=⟨(rV.getD k []).toArray⟩
theorem Ni (w:World):Calls Tryz.prog 235 #[] w λe w'=>e=.returned (.agg ab2)/\Below w.heap.size w w':=by
 go_enter Tryz.func235,Tryz.ntmps235
 apply wp_seq_k
 intro K0 hK0;have HK:=ay hK0;clear hK0;go_wp2
 apply HK.out
 apply wp_seq_k
 intro K1 hK1
 apply wp_region_lit
 refine wpList_buildTo rfl 276 _ rfl (some 1) rfl ab2 (by kernel_rfl) ?_;refine wpList_store_rowTo rfl 276 _ _ rfl rfl w.heap.size ab2 rfl rfl 276 _ (aZ _ _) (by kernel_rfl) (by decide) (by kernel_rfl) ?_;rw[World.setRow_alloc_new]
 apply wpList_nil
 apply hK1
 go_wp2;refine o9 (v:=.agg ab2) (results_cell_row rfl _ _ w.heap.size 276 _ (0,0) _ rfl (aZ _ _) Tryz.underlying276 rfl (by kernel_rfl)) rfl ⟨rfl,(bY _ _).alloc (bI _) _⟩
theorem XV:∀ k:Nat,k<14->∀ w:World,(Instr.index 276 (.agg ab2) (.int .i64 k)).run Tryz.prog w=.ok (.string (wR k)) w
 | 0,_=>λ_=>by kernel_rfl
 | 1,_=>λ_=>by kernel_rfl
 | 2,_=>λ_=>by kernel_rfl
 | 3,_=>λ_=>by kernel_rfl
 | 4,_=>λ_=>by kernel_rfl
 | 5,_=>λ_=>by kernel_rfl
 | 6,_=>λ_=>by kernel_rfl
 | 7,_=>λ_=>by kernel_rfl
 | 8,_=>λ_=>by kernel_rfl
 | 9,_=>λ_=>by kernel_rfl
 | 10,_=>λ_=>by kernel_rfl
 | 11,_=>λ_=>by kernel_rfl
 | 12,_=>λ_=>by kernel_rfl
 | 13,_=>λ_=>by kernel_rfl
 | n+14,h=>absurd h (by omega)
theorem XW:∀ j,j<14->∀ k,k<14->rV.getD j []=rV.getD k []->j=k:=by decide
theorem Iy (k:Nat):(wR k).toList=rV.getD k []:=by rw[Go.ByteArray.toList_eq];rfl
theorem afB (j k:Nat)(hj:j<14)(hk:k<14)(h:j≠k):((wR j).toList == (wR k).toList)=false:=by
 rw[<- wT,beq_iff_eq,Iy,Iy]
 exact λq=>h (XW j hj k hk q)
theorem ab3 (k:Nat):((wR k).toList == (wR k).toList)=true:=by rw[beq_iff_eq]
theorem adY {x:aH}(h:x∈rV):rV.idxOf x<14/\(ByteArray.mk x.toArray)=wR (rV.idxOf x):=by
 have h1:rV.idxOf x<14:=List.idxOf_lt_length_of_mem h;refine⟨h1,?_⟩;unfold wR
 have h2:rV.getD (rV.idxOf x) []=x:=by
  rw[Fb,AB (List.idxOf_lt_length_of_mem h),Option.getD_some,List.getElem_idxOf]
 rw[h2]
theorem dw (w:World)(b:Nat)(v0 v1 v2 v3:Value){k j:Nat}(h:k≠b):((((w.setCell ⟨b,0,none⟩ v0).setCell ⟨b,1,none⟩ v1).setCell ⟨b,2,none⟩ v2).setCell ⟨b,3,none⟩ v3).cell? ⟨k,j,none⟩=w.cell? ⟨k,j,none⟩:=by
 refine AJ (a:=⟨k,j,none⟩) ?_;show ((((w.setCell ⟨b,0,none⟩ v0).setCell ⟨b,1,none⟩ v1).setCell ⟨b,2,none⟩ v2).setCell ⟨b,3,none⟩ v3).heap[k]?=w.heap[k]?;rw[qo _ _ _ _ h,qo _ _ _ _ h,qo _ _ _ _ h,qo _ _ _ _ h]
theorem qd (h:w.heap[b]?=some (.cells #[.int .i64 0,.string ⟨#[]⟩,.string ⟨#[]⟩,.int .i64 0] 131 (0,0))) :
  w.cell? ⟨b,0,none⟩=some (.int .i64 0)/\w.cell? ⟨b,1,none⟩=some (.string ⟨#[]⟩)/\w.cell? ⟨b,2,none⟩=some (.string ⟨#[]⟩)/\w.cell? ⟨b,3,none⟩=some (.int .i64 0)/\∀ j,w.frozen? ⟨b,j,none⟩=false :=
 ⟨by rw[bg h];rfl,by rw[bg h];rfl,by rw[bg h];rfl,by rw[bg h];rfl,by intro j;simp[World.frozen?,h]⟩
theorem Qw (jU:List PE)(B:Nat)(tv nv:Value)(ah:List Tok)(aj:List Nd)(i:Nat)(ks:List Int)(w:World)(h:bE B w (.agg #[tv,nv]) ah aj)(hB:B<=w.heap.size)(hn:aj[i]?=some ⟨10,-1,ks⟩)
  (k1 u1:Nat) (hq1:ks[1]?=some (k1:Int)) (hl1:aj[k1]?=some ⟨19,(u1:Nat),[]⟩) (tk1:Tok) (ab4:ah[u1]?=some tk1) (htx:tk1.text∈rV)
  (hM:∀ (op at_:Nat) (W:World),bE B W (.agg #[tv,nv]) ah aj->B<=W.heap.size->Calls Tryz.prog 175 #[.agg #[tv,nv],.int .i64 op,.int .i64 at_,.int .i64 i] W (EPost XA (.mk op [] [] 0 [] false jU at_) W)) :
  Calls Tryz.prog 173 #[.agg #[tv,nv],.int .i64 i] w (EPost XA (.mk (7+rV.idxOf tk1.text) [] [] 0 [] false jU tk1.place) w):=by
 have HM:=ay hM;obtain⟨ahl,hmt⟩:=adY htx;obtain⟨hu1,Qx⟩:=qm ab4;obtain⟨hp1,hp2⟩:=qm hq1;have HK:=ay (λW hT hW=>lJ B tv nv ah aj k1 u1 W hT hW hl1 hu1);rw[Qx] at HK;unfold qN dX at HK;rw[hmt] at HK;generalize rV.idxOf tk1.text=m at ahl HK |-
 obtain⟨N,hN⟩:∃ N,7+m=N:=⟨_,rfl⟩
 rw[hN];have HN:=ay hN;clear hN;obtain⟨hi,hni⟩:=qm hn;have HT:=ay h;obtain⟨a1,c1,_,_,e⟩:=h.slices;obtain⟨b,off,cap,kv,rfl,hb,x0,x1,x2,hkv⟩:=h.node hi
 obtain⟨rfl,-⟩:tv=.slice a1 ah.length c1/\_:=by simpa using e
 rw[hni] at hkv;simp only at hkv;obtain⟨ak,ck,rfl,_,zu⟩:=hkv.form;obtain⟨bk,ok,rfl,hbk,hkc⟩:=zu (by omega);have hz:=hkc 1 hp1;rw[hp2] at hz;clear e hkv zu hkc hn hni x0 x1 ab4 Qx hq1 hp2 hl1 hM htx hmt;have dD:=((bY w.heap.size w).alloc (bI _) (.cells #[.slice a1 ah.length c1,.slice (some ⟨b,off,none⟩) aj.length cap] 126)).alloc (by simp) (.cells #[.int .i64 0,.string ⟨#[]⟩,.string ⟨#[]⟩,.bool false,.slice none 0 0,.bool false,.slice none 0 0,.int .i64 0] 64);have X2:=jy dD x2;have Z2:=jy dD hz;have g0:=(iB _ (.cells #[.int .i64 0,.string ⟨#[]⟩,.string ⟨#[]⟩,.bool false,.slice none 0 0,.bool false,.slice none 0 0,.int .i64 0] 64) w.heap.size (by simp)).trans (aZ w (.cells #[.slice a1 ah.length c1,.slice (some ⟨b,off,none⟩) aj.length cap] 126));have g1:=aZ (w.alloc (.cells #[.slice a1 ah.length c1,.slice (some ⟨b,off,none⟩) aj.length cap] 126)) (.cells #[.int .i64 0,.string ⟨#[]⟩,.string ⟨#[]⟩,.bool false,.slice none 0 0,.bool false,.slice none 0 0,.int .i64 0] 64);rw[oU] at g1
 have hiI:(i:Int)<(aj.length:Int):=by omega
 have afA:(1:Int)<(ks.length:Int):=by omega
 have hCT:=HT.out;clear h x2 hz;go_enter Tryz.func173,Tryz.ntmps173
 go_upto_region 1 with (fail)
 generalize (w.alloc _).alloc _=w2 at g0 g1 dD X2 Z2 |-
 have r0:w2.cell? ⟨w.heap.size,0,none⟩=some (.slice a1 ah.length c1):=by rw[bg g0];rfl
 have r1:w2.cell? ⟨w.heap.size,1,none⟩=some (.slice (some ⟨b,off,none⟩) aj.length cap):=by rw[bg g0];rfl
 have HK':=ay (λW (hb:Below w2.heap.size w2 W)=>(HK.out W (hCT.below ((dD.trans (hb.mono dD.size)).mono hB)) (by have:=dD.size;have:=hb.size;omega)).mono (R':=λe w'=>e=.returned (.agg #[.int .i64 tk1.kind,.string ⟨tk1.lead.toArray⟩,.string (wR m),.int .i64 tk1.place])/\Below w2.heap.size w2 w'/\Below W.heap.size W w') λe w' h=>⟨h.1,hb.trans (h.2.mono hb.size),h.2⟩);have hlt2:w.heap.size+1<w2.heap.size:=(bU g1).1
 go_cut [5] (λp wc=>∃ X:Nat,p=.pointer (some ⟨X,0,none⟩)/\wc.heap[X]?=some (.cells #[.int .i64 tk1.kind,.string ⟨tk1.lead.toArray⟩,.string (wR m),.int .i64 tk1.place] 131 (0,0))/\wc.heap[w.heap.size]?=some (.cells #[.slice a1 ah.length c1,.slice (some ⟨b,off,none⟩) aj.length cap] 126 (0,0))/\wc.heap[w.heap.size+1]?=some (.cells #[.int .i64 0,.string ⟨#[]⟩,.string ⟨#[]⟩,.bool false,.slice none 0 0,.bool false,.slice none 0 0,.int .i64 0] 64 (0,0))/\Below w.heap.size w wc)
 case first =>
  go_region_held3 (λw'=>w'.cell? ⟨w.heap.size,0,none⟩=some (.slice a1 ah.length c1)/\w'.cell? ⟨w.heap.size,1,none⟩=some (.slice (some ⟨b,off,none⟩) aj.length cap)/\w'.cell? ⟨b,off+i * 3+2,none⟩=some (.slice (some ⟨bk,ok,none⟩) ks.length ck)/\w'.cell? ⟨bk,ok+1,none⟩=some (.int .i64 k1))
   (first|go_keep|exact p3|exact⟨(dw w3 w2.heap.size _ _ _ _ (by omega)).trans p3.1,(dw w3 w2.heap.size _ _ _ _ (by omega)).trans p3.2.1,(dw w3 w2.heap.size _ _ _ _ (by omega)).trans p3.2.2.1,(dw w3 w2.heap.size _ _ _ _ (by omega)).trans p3.2.2.2⟩)
   (first|(go_at_call 61;refine(HK'.out _ ?_).mono ?_;(first|exact(bY _ _).drew|exact((bY _ _).alloc (bI _) _).drew);rintro e w3 ⟨rfl,hq3,hb3⟩;have p3:=iq (jy hq3 r0) (iq (jy hq3 r1) (iq (jy hq3 X2) (jy hq3 Z2)));try (have Iz:=(hb3.block w2.heap.size (by simp)).trans (aZ w2 (.cells #[.int .i64 0,.string ⟨#[]⟩,.string ⟨#[]⟩,.int .i64 0] 131));obtain⟨tz0,tz1,tz2,tz3,tz4⟩:=qd Iz)))
  ·have Gv:Below w.heap.size w w3:=dD.trans (hq3.mono dD.size)
   have q0:=(hq3.block w.heap.size (by omega)).trans g0;have q1:=(hq3.block (w.heap.size+1) (by omega)).trans g1;have hz3:=hq3.size;clear r0 r1 X2 Z2 p3;go_wp2_with fail
   go_meet
   exact⟨w3.heap.size,rfl,aZ _ _,(iB w3 _ w.heap.size (by omega)).trans q0,(iB w3 _ (w.heap.size+1) (by omega)).trans q1,Gv.alloc Gv.size _⟩
  ·have Gv:Below w.heap.size w w3:=dD.trans (hq3.mono dD.size)
   have q0:=(hq3.block w.heap.size (by omega)).trans g0;have q1:=(hq3.block (w.heap.size+1) (by omega)).trans g1;obtain⟨S3,So,_⟩:=Af Iz (.int .i64 tk1.kind) (.string ⟨tk1.lead.toArray⟩) (.string (wR m)) (.int .i64 tk1.place)
   have hle:w.heap.size<=w2.heap.size:=by omega
   clear r0 r1 X2 Z2 p3 tz0 tz1 tz2 tz3 tz4;go_wp2_with fail
   go_meet
   exact⟨w2.heap.size,rfl,S3,(So w.heap.size (by omega)).trans q0,(So (w.heap.size+1) (by omega)).trans q1,(((Gv.setCell hle _).setCell hle _).setCell hle _).setCell hle _⟩
 case rest =>
  obtain⟨X,rfl,hX,G0,G1,Ud⟩:=hcut;have afC:=Ud.size;clear g0 g1 dD X2 Z2 r0 r1 HK HK' hlt2;go_wp2_with (go_at_call 235;refine(Ni _).mono ?_;rintro e w5 ⟨rfl,hb5⟩);have U8:=hb5.size;have Y:=(hb5.block X (bU hX).1).trans hX;have Y0:=(hb5.block w.heap.size (bU G0).1).trans G0;have Y1:=(hb5.block (w.heap.size+1) (bU G1).1).trans G1;have IB:=Ud.trans (hb5.mono afC);have aj3:w.heap.size+1<w5.heap.size:=(bU Y1).1;have HM':=ay ((HM.out N tk1.place w5 (hCT.below (IB.mono hB)) (by omega)).mono λ_ _ h=>h.m);clear hX G0 G1 hb5 Ud
  have f2:w5.cell? ⟨X,2,none⟩=some (.string (wR m)):=by rw[bg Y];rfl
  have f3:w5.cell? ⟨X,3,none⟩=some (.int .i64 tk1.place):=by rw[bg Y];rfl
  have r0:w5.cell? ⟨w.heap.size,0,none⟩=some (.slice a1 ah.length c1):=by rw[bg Y0];rfl
  have r1:w5.cell? ⟨w.heap.size,1,none⟩=some (.slice (some ⟨b,off,none⟩) aj.length cap):=by rw[bg Y0];rfl
  go_loop [20] (λq=>∃ k:Nat,k<=m/\q=.int .i64 k) (λq=>14 - (intOf q).toNat)
  case atStart=>exact⟨0,mD _,rfl⟩
  case round =>
   obtain⟨k,hk,rfl⟩:=hrel
   have qF:(k:Int)<14:=by omega
   have hx:=XV k (by omega)
   by_cases hkm:k=m
   ·subst hkm
    have he:=ab3 k
    have hop:(7:Int)+(k:Int)=(N:Int):=by have:=HN.out;omega
    go_wp2_with (go_at_call 175;refine HM'.out.mono ?_);rintro e w8 ⟨am,wn,cm,ae,ce,rfl,hxe,lF⟩;have D1:=(lF.block (w.heap.size+1) (by omega)).trans Y1;clear r0 r1 f2 f3 Y Y0 Y1 hop
    have d0:w8.cell? ⟨w.heap.size+1,0,none⟩=some (.int .i64 0):=by rw[bg D1];rfl
    have d1:w8.cell? ⟨w.heap.size+1,1,none⟩=some (.string ⟨#[]⟩):=by rw[bg D1];rfl
    have d2:w8.cell? ⟨w.heap.size+1,2,none⟩=some (.string ⟨#[]⟩):=by rw[bg D1];rfl
    have d3:w8.cell? ⟨w.heap.size+1,3,none⟩=some (.bool false):=by rw[bg D1];rfl
    have d4:w8.cell? ⟨w.heap.size+1,4,none⟩=some (.slice none 0 0):=by rw[bg D1];rfl
    have d5:w8.cell? ⟨w.heap.size+1,5,none⟩=some (.bool false):=by rw[bg D1];rfl
    have d6:w8.cell? ⟨w.heap.size+1,6,none⟩=some (.slice none 0 0):=by rw[bg D1];rfl
    have d7:w8.cell? ⟨w.heap.size+1,7,none⟩=some (.int .i64 0):=by rw[bg D1];rfl
    have dz:∀ j,w8.frozen? ⟨w.heap.size+1,j,none⟩=false:=by intro j;simp[World.frozen?,D1]
    go_wp2;obtain⟨hE,EO⟩:=EPost.store (w0:=w) (b:=w.heap.size+1) hxe lF IB (by omega) (by omega) (.int .i64 N) (.string ⟨#[]⟩) (.string ⟨#[]⟩) (.bool false) (.slice am wn cm) (.bool false) (.slice ae jU.length ce) (.int .i64 tk1.place);refine o9 (v:=.agg #[.int .i64 N,.string ⟨#[]⟩,.string ⟨#[]⟩,.bool false,.slice am wn cm,.bool false,.slice ae jU.length ce,.int .i64 tk1.place]) (by simp[results,Tryz.results173,go_sem,d0,d1,d2,d3,d4,d5,d6,d7]) rfl ?_;exact⟨_,_,rfl,hE,EO⟩
   ·have he:=afB k m (by omega) ahl hkm
    go_wp2
    go_round
    case rel=>exact⟨k+1,by omega,by go_num⟩
    case measure=>simp[intOf];omega
theorem yc {T:TypeId}(h:w.heap[b]?=some (.cells #[c0,c1,c2,c3,c4,c5,c6,c7] T (0,0))) :
  w.cell? ⟨b,1,none⟩=some c1/\w.cell? ⟨b,2,none⟩=some c2/\∀ j,w.frozen? ⟨b,j,none⟩=false :=
 ⟨by rw[bg h];rfl,by rw[bg h];rfl,by intro j;simp[World.frozen?,h]⟩
theorem Lr (q:Bool)(nm md:aH)(jU:List PE)(B:Nat)(tv nv:Value)(ah:List Tok)(aj:List Nd)(i:Nat)(ks:List Int)(w:World)(h:bE B w (.agg #[tv,nv]) ah aj)(hB:B<=w.heap.size)(hn:aj[i]?=some ⟨13,-1,ks⟩)
  (k0 u0:Nat) (hq0:ks[0]?=some (k0:Int)) (hl0:aj[k0]?=some ⟨19,(u0:Nat),[]⟩) (lG:Tok) (ahm:ah[u0]?=some lG)
  (k1 u1:Nat) (hq1:ks[1]?=some (k1:Int)) (hl1:aj[k1]?=some ⟨19,(u1:Nat),[]⟩) (tk1:Tok) (ab4:ah[u1]?=some tk1) (htx:tk1.text=if q=true then [46] else [40])
  (k2 u2:Nat) (hq2:q=true->ks[2]?=some (k2:Int)) (hl2:q=true->aj[k2]?=some ⟨19,(u2:Nat),[]⟩) (tk2:Tok) (ahn:q=true->ah[u2]?=some tk2)
  (hqq:(q=true/\nm=tk2.text/\md=lG.text)\/(q=false/\nm=lG.text/\md=[]))
  (hM:∀ (op at_:Nat) (W:World),bE B W (.agg #[tv,nv]) ah aj->B<=W.heap.size->Calls Tryz.prog 175 #[.agg #[tv,nv],.int .i64 op,.int .i64 at_,.int .i64 i] W (EPost XA (.mk op [] [] 0 [] false jU at_) W)) :
  Calls Tryz.prog 174 #[.agg #[tv,nv],.int .i64 i] w (EPost XA (.mk 24 nm md 0 [] false jU lG.place) w):=by
 have HQ:=ay hqq;have HM:=ay hM;obtain⟨hu0,aeF⟩:=qm ahm;obtain⟨hu1,Qx⟩:=qm ab4;obtain⟨hp0,ab5⟩:=qm hq0;obtain⟨hp1,hp1'⟩:=qm hq1;have HK:=ay (λW hT hW=>lJ B tv nv ah aj k0 u0 W hT hW hl0 hu0);rw[aeF] at HK;unfold qN dX at HK;have HX:=ay (λW hT hW=>yH B tv nv ah aj k1 u1 W hT hW hl1 hu1);rw[Qx,htx] at HX;unfold dX at HX
 have HY:Hid (q=true->∀ W,bE B W (.agg #[tv,nv]) ah aj->B<=W.heap.size->Calls Tryz.prog 105 #[.agg #[tv,nv],.int .i64 k2] W λe w'=>e=.returned (.string ⟨tk2.text.toArray⟩)/\Below W.heap.size W w'):=ay (λhq W hT hW=>by
  obtain⟨hu2,aho⟩:=qm (ahn hq);have:=yH B tv nv ah aj k2 u2 W hT hW (hl2 hq) hu2;rw[aho] at this
  exact this)
 obtain⟨hi,hni⟩:=qm hn;have HT:=ay h;obtain⟨a1,c1,_,_,e⟩:=h.slices;obtain⟨b,off,cap,kv,rfl,hb,x0,x1,x2,hkv⟩:=h.node hi
 obtain⟨rfl,-⟩:tv=.slice a1 ah.length c1/\_:=by simpa using e
 rw[hni] at hkv;simp only at hkv;obtain⟨ak,ck,rfl,_,zu⟩:=hkv.form;obtain⟨bk,ok,rfl,hbk,hkc⟩:=zu (by omega);have hz:=hkc 0 hp0;rw[ab5,qp] at hz;have hz1:=hkc 1 hp1;rw[hp1'] at hz1
 have hz2:q=true->w.cell? ⟨bk,ok+2,none⟩=some (.int .i64 k2)/\2<ks.length:=λhq=>by
  obtain⟨hp2,aiA⟩:=qm (hq2 hq);have:=hkc 2 hp2;rw[aiA] at this;exact⟨this,hp2⟩
 have HZ1:=ay hz1;have HZ2:=ay hz2;clear e hkv zu hkc hn hni x0 x1 ahm aeF ab4 Qx hq0 hq1 ab5 hp1' hl0 hl1 hM htx hq2 hl2 ahn hz1 hz2 hqq;have dD:=((bY w.heap.size w).alloc (bI _) (.cells #[.slice a1 ah.length c1,.slice (some ⟨b,off,none⟩) aj.length cap] 126)).alloc (by simp) (.cells #[.int .i64 0,.string ⟨#[]⟩,.string ⟨#[]⟩,.bool false,.slice none 0 0,.bool false,.slice none 0 0,.int .i64 0] 64);have X2:=jy dD x2;have Z2:=jy dD hz;have g0:=(iB _ (.cells #[.int .i64 0,.string ⟨#[]⟩,.string ⟨#[]⟩,.bool false,.slice none 0 0,.bool false,.slice none 0 0,.int .i64 0] 64) w.heap.size (by simp)).trans (aZ w (.cells #[.slice a1 ah.length c1,.slice (some ⟨b,off,none⟩) aj.length cap] 126));have g1:=aZ (w.alloc (.cells #[.slice a1 ah.length c1,.slice (some ⟨b,off,none⟩) aj.length cap] 126)) (.cells #[.int .i64 0,.string ⟨#[]⟩,.string ⟨#[]⟩,.bool false,.slice none 0 0,.bool false,.slice none 0 0,.int .i64 0] 64);rw[oU] at g1
 have hiI:(i:Int)<(aj.length:Int):=by omega
 have aiB:(0:Int)<(ks.length:Int):=by omega
 have afA:(1:Int)<(ks.length:Int):=by omega
 have hCT:=HT.out;clear h x2 hz;go_enter Tryz.func174,Tryz.ntmps174
 go_upto_region 2 with (fail)
 generalize (w.alloc _).alloc _=w2 at g0 g1 dD X2 Z2 |-
 have r0:w2.cell? ⟨w.heap.size,0,none⟩=some (.slice a1 ah.length c1):=by rw[bg g0];rfl
 have r1:w2.cell? ⟨w.heap.size,1,none⟩=some (.slice (some ⟨b,off,none⟩) aj.length cap):=by rw[bg g0];rfl
 have HK':=ay (λW (hb:Below w2.heap.size w2 W)=>(HK.out W (hCT.below ((dD.trans (hb.mono dD.size)).mono hB)) (by have:=dD.size;have:=hb.size;omega)).mono (R':=λe w'=>e=.returned (.agg #[.int .i64 lG.kind,.string ⟨lG.lead.toArray⟩,.string ⟨lG.text.toArray⟩,.int .i64 lG.place])/\Below w2.heap.size w2 w'/\Below W.heap.size W w') λe w' h=>⟨h.1,hb.trans (h.2.mono hb.size),h.2⟩);have hlt2:w.heap.size+1<w2.heap.size:=(bU g1).1
 go_cut [6] (λp wc=>∃ X:Nat,p=.pointer (some ⟨X,0,none⟩)/\wc.heap[X]?=some (.cells #[.int .i64 lG.kind,.string ⟨lG.lead.toArray⟩,.string ⟨lG.text.toArray⟩,.int .i64 lG.place] 131 (0,0))/\wc.heap[w.heap.size]?=some (.cells #[.slice a1 ah.length c1,.slice (some ⟨b,off,none⟩) aj.length cap] 126 (0,0))/\wc.heap[w.heap.size+1]?=some (.cells #[.int .i64 0,.string ⟨#[]⟩,.string ⟨#[]⟩,.bool false,.slice none 0 0,.bool false,.slice none 0 0,.int .i64 0] 64 (0,0))/\Below w.heap.size w wc/\w.heap.size+1<X)
 case first =>
  go_region_held3 (λw'=>w'.cell? ⟨w.heap.size,0,none⟩=some (.slice a1 ah.length c1)/\w'.cell? ⟨w.heap.size,1,none⟩=some (.slice (some ⟨b,off,none⟩) aj.length cap)/\w'.cell? ⟨bk,ok,none⟩=some (.int .i64 k0))
   (first|go_keep|exact p3|exact⟨(dw w3 w2.heap.size _ _ _ _ (by omega)).trans p3.1,(dw w3 w2.heap.size _ _ _ _ (by omega)).trans p3.2.1,(dw w3 w2.heap.size _ _ _ _ (by omega)).trans p3.2.2⟩)
   (first|(go_at_call 61;refine(HK'.out _ ?_).mono ?_;(first|exact(bY _ _).drew|exact((bY _ _).alloc (bI _) _).drew);rintro e w3 ⟨rfl,hq3,hb3⟩;have p3:=iq (jy hq3 r0) (iq (jy hq3 r1) (jy hq3 Z2));try (have Iz:=(hb3.block w2.heap.size (by simp)).trans (aZ w2 (.cells #[.int .i64 0,.string ⟨#[]⟩,.string ⟨#[]⟩,.int .i64 0] 131));obtain⟨tz0,tz1,tz2,tz3,tz4⟩:=qd Iz)))
  ·have Gv:Below w.heap.size w w3:=dD.trans (hq3.mono dD.size)
   have q0:=(hq3.block w.heap.size (by omega)).trans g0;have q1:=(hq3.block (w.heap.size+1) (by omega)).trans g1;have hz3:=hq3.size;clear r0 r1 X2 Z2 p3;go_wp2_with fail
   go_meet
   exact⟨w3.heap.size,rfl,aZ _ _,(iB w3 _ w.heap.size (by omega)).trans q0,(iB w3 _ (w.heap.size+1) (by omega)).trans q1,Gv.alloc Gv.size _,by omega⟩
  ·have Gv:Below w.heap.size w w3:=dD.trans (hq3.mono dD.size)
   have q0:=(hq3.block w.heap.size (by omega)).trans g0;have q1:=(hq3.block (w.heap.size+1) (by omega)).trans g1;obtain⟨S3,So,_⟩:=Af Iz (.int .i64 lG.kind) (.string ⟨lG.lead.toArray⟩) (.string ⟨lG.text.toArray⟩) (.int .i64 lG.place)
   have hle:w.heap.size<=w2.heap.size:=by omega
   clear r0 r1 X2 Z2 p3 tz0 tz1 tz2 tz3 tz4;go_wp2_with fail
   go_meet
   exact⟨w2.heap.size,rfl,S3,(So w.heap.size (by omega)).trans q0,(So (w.heap.size+1) (by omega)).trans q1,(((Gv.setCell hle _).setCell hle _).setCell hle _).setCell hle _,hlt2⟩
 case rest =>
  obtain⟨X,rfl,hX,G0,G1,Ud,hXlt⟩:=hcut
  obtain⟨wy,rfl⟩:∃ wy:World,wy=wc:=⟨_,rfl⟩
  have afC:=Ud.size;have hXs:=(bU hX).1;clear g0 g1 dD X2 Z2 r0 r1 HK HK' hlt2
  have f2:wy.cell? ⟨X,2,none⟩=some (.string ⟨lG.text.toArray⟩):=by rw[bg hX];rfl
  have f3:wy.cell? ⟨X,3,none⟩=some (.int .i64 lG.place):=by rw[bg hX];rfl
  have r0:wy.cell? ⟨w.heap.size,0,none⟩=some (.slice a1 ah.length c1):=by rw[bg G0];rfl
  have r1:wy.cell? ⟨w.heap.size,1,none⟩=some (.slice (some ⟨b,off,none⟩) aj.length cap):=by rw[bg G0];rfl
  have HM':=ay ((HM.out 24 lG.place wy (hCT.below (Ud.mono hB)) (by omega)).mono λ_ _ h=>h.m);go_wp2_with (go_at_call 175;refine HM'.out.mono ?_);rintro e w8 ⟨am,wn,cm,ae,ce,rfl,hxe,lF⟩;have hz8:=lF.size;have D0:=(lF.block w.heap.size (by omega)).trans G0;have D1:=(lF.block (w.heap.size+1) (by omega)).trans G1;have DX:=(lF.block X hXs).trans hX;have ahp:=Ud.trans (lF.mono afC);clear r0 r1 f2 f3 G0 G1 hX
  have f2:w8.cell? ⟨X,2,none⟩=some (.string ⟨lG.text.toArray⟩):=by rw[bg DX];rfl
  have f2':∀ o,(w8.alloc o).cell? ⟨X,2,none⟩=some (.string ⟨lG.text.toArray⟩):=λo=>Lib.cell?_alloc_some o f2
  go_upto_region 5 with (fail)
  have wY:=ahp.alloc ahp.size (.cells #[.int .i64 24,.string ⟨lG.text.toArray⟩,.string ⟨#[]⟩,.bool false,.slice am wn cm,.bool false,.slice ae jU.length ce,.int .i64 lG.place] 64);have N9:=aZ w8 (.cells #[.int .i64 24,.string ⟨lG.text.toArray⟩,.string ⟨#[]⟩,.bool false,.slice am wn cm,.bool false,.slice ae jU.length ce,.int .i64 lG.place] 64);have D0:=(iB w8 (.cells #[.int .i64 24,.string ⟨lG.text.toArray⟩,.string ⟨#[]⟩,.bool false,.slice am wn cm,.bool false,.slice ae jU.length ce,.int .i64 lG.place] 64) _ (bU D0).1).trans D0;have D1:=(iB w8 (.cells #[.int .i64 24,.string ⟨lG.text.toArray⟩,.string ⟨#[]⟩,.bool false,.slice am wn cm,.bool false,.slice ae jU.length ce,.int .i64 lG.place] 64) _ (bU D1).1).trans D1;have DX:=(iB w8 (.cells #[.int .i64 24,.string ⟨lG.text.toArray⟩,.string ⟨#[]⟩,.bool false,.slice am wn cm,.bool false,.slice ae jU.length ce,.int .i64 lG.place] 64) _ (bU DX).1).trans DX;have YR:qC XA (λb=>wy.heap.size<=b/\b<w8.heap.size) (w8.alloc (.cells #[.int .i64 24,.string ⟨lG.text.toArray⟩,.string ⟨#[]⟩,.bool false,.slice am wn cm,.bool false,.slice ae jU.length ce,.int .i64 lG.place] 64)) (.slice am wn cm) (.slice ae jU.length ce) (.mk 24 [] [] 0 [] false jU lG.place):=(hxe.imp (λb hb hlt=>(⟨hb,hlt⟩:wy.heap.size<=b/\b<w8.heap.size))).frame ⟨by simp,λb _ hb=>iB _ _ _ hb⟩
  have hs9:(w8.alloc (.cells #[.int .i64 24,.string ⟨lG.text.toArray⟩,.string ⟨#[]⟩,.bool false,.slice am wn cm,.bool false,.slice ae jU.length ce,.int .i64 lG.place] 64)).heap.size=w8.heap.size+1:=by simp
  clear f2 f2' hxe lF;generalize w8.alloc _=w9 at D0 D1 DX N9 wY YR hs9 |-;have k1c:=jy wY HZ1.out
  have r0:w9.cell? ⟨w.heap.size,0,none⟩=some (.slice a1 ah.length c1):=by rw[bg D0];rfl
  have r1:w9.cell? ⟨w.heap.size,1,none⟩=some (.slice (some ⟨b,off,none⟩) aj.length cap):=by rw[bg D0];rfl
  have YS:=HX.out w9.drew (hCT.below ((wY.mono hB).drew)) (show B<=w9.heap.size by omega)
  go_still_tail 4,(by kernel_rfl)
  change wpList _ _ _ _ _ w9.drew;clear HX
  rcases HQ.out with ⟨hq1,rfl,rfl⟩|⟨hq1,rfl,rfl⟩
  ·have HY':=HY.out hq1
   obtain⟨hz2,hp2⟩:=HZ2.out hq1;subst hq1;have Lc:=ay (show Calls Tryz.prog 105 #[.agg #[.slice a1 ah.length c1,.slice (some ⟨b,off,none⟩) aj.length cap],.int .i64 k1] w9.drew λe w'=>e=.returned (.string ⟨#[46]⟩)/\Below w9.drew.heap.size w9.drew w' from YS);have HY2:=ay HY';have HZ3:=ay hz2
   have aj4:(2:Int)<(ks.length:Int):=by omega
   clear YS HY' hz2 HY HZ2 HQ;go_wp2_with (go_at_call 105;refine Lc.out.mono ?_);rintro e nP ⟨rfl,Dj⟩;have afD:w9.heap.size<=nP.heap.size:=Dj.size;have pF:Below w9.heap.size w9 nP:=(bY w9.heap.size w9).drew.trans Dj;have E0:=(pF.block w.heap.size (bU D0).1).trans D0;have E1:=(pF.block (w.heap.size+1) (bU D1).1).trans D1;have EX:=(pF.block X (bU DX).1).trans DX;have E9:=(pF.block w8.heap.size (by omega)).trans N9;have Ls:=wY.trans (pF.mono wY.size);have Nh:=YR.frame (bA.of pF);have k2c:=jy Ls HZ3.out;clear r0 r1 k1c D0 D1 DX N9 Dj pF YR
   have r0:nP.cell? ⟨w.heap.size,0,none⟩=some (.slice a1 ah.length c1):=by rw[bg E0];rfl
   have r1:nP.cell? ⟨w.heap.size,1,none⟩=some (.slice (some ⟨b,off,none⟩) aj.length cap):=by rw[bg E0];rfl
   have f2:nP.cell? ⟨X,2,none⟩=some (.string ⟨lG.text.toArray⟩):=by rw[bg EX];rfl
   have HY3:=ay (HY2.out nP.drew (hCT.below ((Ls.mono hB).drew)) (show B<=nP.heap.size by omega));obtain⟨e1,e2,ez⟩:=yc E9;have hA:Below w8.heap.size nP nP.drew:=(bY _ _).drew;have hB':Below w8.heap.size nP (nP.drew.setCell ⟨w8.heap.size,2,none⟩ (.string ⟨lG.text.toArray⟩)):=hA.setCell (bI _) _;have E9B:(nP.drew.setCell ⟨w8.heap.size,2,none⟩ (.string ⟨lG.text.toArray⟩)).heap[w8.heap.size]?=some (.cells #[.int .i64 24,.string ⟨lG.text.toArray⟩,.string ⟨lG.text.toArray⟩,.bool false,.slice am wn cm,.bool false,.slice ae jU.length ce,.int .i64 lG.place] 64 (0,0)):=kG nP.drew w8.heap.size 2 _ _ (.string ⟨lG.text.toArray⟩) E9
   have adZ:w.heap.size<=w8.heap.size:=by omega
   have aiC:w8.heap.size<nP.heap.size:=by omega
   have HY4:=ay (λW (hb:Below w8.heap.size nP W) (hs:nP.heap.size<=W.heap.size)=>(HY2.out W (hCT.below ((Ls.trans (hb.mono adZ)).mono hB)) (by omega)).mono (R':=λe w'=>e=.returned (.string ⟨tk2.text.toArray⟩)/\Below w8.heap.size nP w'/\Below W.heap.size W w') λe w' h=>⟨h.1,hb.trans (h.2.mono (by omega)),h.2⟩);have p0:=iq f2 (iq r0 (iq r1 k2c))
   go_upto_region 6 with (fail)
   go_cut [] (λwx=>wx.heap[w8.heap.size]?=some (.cells #[.int .i64 24,.string ⟨tk2.text.toArray⟩,.string ⟨lG.text.toArray⟩,.bool false,.slice am wn cm,.bool false,.slice ae jU.length ce,.int .i64 lG.place] 64 (0,0))/\wx.heap[w.heap.size+1]?=some (.cells #[.int .i64 0,.string ⟨#[]⟩,.string ⟨#[]⟩,.bool false,.slice none 0 0,.bool false,.slice none 0 0,.int .i64 0] 64 (0,0))/\qC XA (λb=>wy.heap.size<=b/\b<w8.heap.size) wx (.slice am wn cm) (.slice ae jU.length ce) (.mk 24 [] [] 0 [] false jU lG.place)/\Below w.heap.size w wx)
   case first =>
    go_region_held3 (λw'=>w'.cell? ⟨X,2,none⟩=some (.string ⟨lG.text.toArray⟩)/\w'.cell? ⟨w.heap.size,0,none⟩=some (.slice a1 ah.length c1)/\w'.cell? ⟨w.heap.size,1,none⟩=some (.slice (some ⟨b,off,none⟩) aj.length cap)/\w'.cell? ⟨bk,ok+2,none⟩=some (.int .i64 k2))
     (first|go_keep|exact p6|exact⟨(fI nP.drew w8.heap.size _ _ (by omega)).trans p0.1,(fI nP.drew w8.heap.size _ _ (by omega)).trans p0.2.1,(fI nP.drew w8.heap.size _ _ (by omega)).trans p0.2.2.1,(fI nP.drew w8.heap.size _ _ (by omega)).trans p0.2.2.2⟩|exact⟨(fI xJ w8.heap.size _ _ (by omega)).trans p6.1,(fI xJ w8.heap.size _ _ (by omega)).trans p6.2.1,(fI xJ w8.heap.size _ _ (by omega)).trans p6.2.2.1,(fI xJ w8.heap.size _ _ (by omega)).trans p6.2.2.2⟩|exact⟨(fI (xJ.setCell ⟨w8.heap.size,2,none⟩ (.string ⟨lG.text.toArray⟩)) w8.heap.size _ _ (by omega)).trans ((fI xJ w8.heap.size _ _ (by omega)).trans p6.1),(fI (xJ.setCell ⟨w8.heap.size,2,none⟩ (.string ⟨lG.text.toArray⟩)) w8.heap.size _ _ (by omega)).trans ((fI xJ w8.heap.size _ _ (by omega)).trans p6.2.1),(fI (xJ.setCell ⟨w8.heap.size,2,none⟩ (.string ⟨lG.text.toArray⟩)) w8.heap.size _ _ (by omega)).trans ((fI xJ w8.heap.size _ _ (by omega)).trans p6.2.2.1),(fI (xJ.setCell ⟨w8.heap.size,2,none⟩ (.string ⟨lG.text.toArray⟩)) w8.heap.size _ _ (by omega)).trans ((fI xJ w8.heap.size _ _ (by omega)).trans p6.2.2.2)⟩)
     (first
      | (go_at_call 105;(with_reducible refine(HY4.out nP.drew hA (bI _)).mono ?_);rintro e xJ ⟨rfl,hq11,afE⟩;have p6:=iq ((hq11.cell (p:=⟨X,2,none⟩) (show X<w8.heap.size by omega)).trans p0.1) (iq ((hq11.cell (p:=⟨w.heap.size,0,none⟩) (show w.heap.size<w8.heap.size by omega)).trans p0.2.1) (iq ((hq11.cell (p:=⟨w.heap.size,1,none⟩) (show w.heap.size<w8.heap.size by omega)).trans p0.2.2.1) ((hq11.cell (p:=⟨bk,ok+2,none⟩) (show bk<w8.heap.size by omega)).trans p0.2.2.2)));have E11:=(afE.block w8.heap.size aiC).trans E9;obtain⟨x1,x2,xz⟩:=yc E11)
      | (go_at_call 105;(with_reducible refine(HY4.out (nP.drew.setCell ⟨w8.heap.size,2,none⟩ (.string ⟨lG.text.toArray⟩)) hB' (by simp)).mono ?_);rintro e xJ ⟨rfl,hq11,afE⟩;have p6:=iq ((hq11.cell (p:=⟨X,2,none⟩) (show X<w8.heap.size by omega)).trans p0.1) (iq ((hq11.cell (p:=⟨w.heap.size,0,none⟩) (show w.heap.size<w8.heap.size by omega)).trans p0.2.1) (iq ((hq11.cell (p:=⟨w.heap.size,1,none⟩) (show w.heap.size<w8.heap.size by omega)).trans p0.2.2.1) ((hq11.cell (p:=⟨bk,ok+2,none⟩) (show bk<w8.heap.size by omega)).trans p0.2.2.2)));have E11:=(afE.block w8.heap.size (by simp;omega)).trans E9B;obtain⟨x1,x2,xz⟩:=yc E11))
    have h1:=kG xJ w8.heap.size 2 _ _ (.string ⟨lG.text.toArray⟩) E11;have h2:=kG _ w8.heap.size 1 _ _ (.string ⟨tk2.text.toArray⟩) h1
    have h3:((xJ.setCell ⟨w8.heap.size,2,none⟩ (.string ⟨lG.text.toArray⟩)).setCell ⟨w8.heap.size,1,none⟩ (.string ⟨tk2.text.toArray⟩)).heap[w.heap.size+1]?=some (.cells #[.int .i64 0,.string ⟨#[]⟩,.string ⟨#[]⟩,.bool false,.slice none 0 0,.bool false,.slice none 0 0,.int .i64 0] 64 (0,0)):=by
     rw[qo _ _ _ _ (by show w.heap.size+1≠w8.heap.size;omega),qo _ _ _ _ (by show w.heap.size+1≠w8.heap.size;omega),hq11.block (w.heap.size+1) (by omega)];exact E1
    have h4:=((Nh.frame (bA.uD hq11 λb hb=>by omega)).frame (bA.set (a:=⟨w8.heap.size,2,none⟩) (.string ⟨lG.text.toArray⟩) λb hb=>by show b≠w8.heap.size;omega)).frame (bA.set (a:=⟨w8.heap.size,1,none⟩) (.string ⟨tk2.text.toArray⟩) λb hb=>by show b≠w8.heap.size;omega);have h5:=((Ls.trans (hq11.mono adZ)).setCell (p:=⟨w8.heap.size,2,none⟩) adZ (.string ⟨lG.text.toArray⟩)).setCell (p:=⟨w8.heap.size,1,none⟩) adZ (.string ⟨tk2.text.toArray⟩);go_wp2_with fail
    go_meet
    exact⟨h2,h3,h4,h5⟩
   case rest =>
    obtain⟨F9,F1,aiD,ahq⟩:=hcut;clear r0 r1 f2 k2c p0 e1 e2 ez E9 E1 E0 EX E9B hA hB' HY4 HY2 HY3 Nh
    have b0:wc.cell? ⟨w8.heap.size,0,none⟩=some (.int .i64 24):=by rw[bg F9];rfl
    have b1:wc.cell? ⟨w8.heap.size,1,none⟩=some (.string ⟨tk2.text.toArray⟩):=by rw[bg F9];rfl
    have b2:wc.cell? ⟨w8.heap.size,2,none⟩=some (.string ⟨lG.text.toArray⟩):=by rw[bg F9];rfl
    have b3:wc.cell? ⟨w8.heap.size,3,none⟩=some (.bool false):=by rw[bg F9];rfl
    have b4:wc.cell? ⟨w8.heap.size,4,none⟩=some (.slice am wn cm):=by rw[bg F9];rfl
    have b5:wc.cell? ⟨w8.heap.size,5,none⟩=some (.bool false):=by rw[bg F9];rfl
    have b6:wc.cell? ⟨w8.heap.size,6,none⟩=some (.slice ae jU.length ce):=by rw[bg F9];rfl
    have b7:wc.cell? ⟨w8.heap.size,7,none⟩=some (.int .i64 lG.place):=by rw[bg F9];rfl
    have d0:wc.cell? ⟨w.heap.size+1,0,none⟩=some (.int .i64 0):=by rw[bg F1];rfl
    have d1:wc.cell? ⟨w.heap.size+1,1,none⟩=some (.string ⟨#[]⟩):=by rw[bg F1];rfl
    have d2:wc.cell? ⟨w.heap.size+1,2,none⟩=some (.string ⟨#[]⟩):=by rw[bg F1];rfl
    have d3:wc.cell? ⟨w.heap.size+1,3,none⟩=some (.bool false):=by rw[bg F1];rfl
    have d4:wc.cell? ⟨w.heap.size+1,4,none⟩=some (.slice none 0 0):=by rw[bg F1];rfl
    have d5:wc.cell? ⟨w.heap.size+1,5,none⟩=some (.bool false):=by rw[bg F1];rfl
    have d6:wc.cell? ⟨w.heap.size+1,6,none⟩=some (.slice none 0 0):=by rw[bg F1];rfl
    have d7:wc.cell? ⟨w.heap.size+1,7,none⟩=some (.int .i64 0):=by rw[bg F1];rfl
    have dz:∀ j,wc.frozen? ⟨w.heap.size+1,j,none⟩=false:=by intro j;simp[World.frozen?,F1]
    go_wp2
    have hE:qC XA (λb=>w.heap.size<=b) (Xm wc (w.heap.size+1) (.int .i64 24) (.string ⟨tk2.text.toArray⟩) (.string ⟨lG.text.toArray⟩) (.bool false) (.slice am wn cm) (.bool false) (.slice ae jU.length ce) (.int .i64 lG.place)) (.slice am wn cm) (.slice ae jU.length ce) (.mk 24 tk2.text lG.text 0 [] false jU lG.place) :=
     ((aiD.frame (xX _ _ (w.heap.size+1) _ _ _ _ _ _ _ _ λk hk=>by omega)).imp λb hb _=>by omega).rename
    refine o9 (v:=.agg #[.int .i64 24,.string ⟨tk2.text.toArray⟩,.string ⟨lG.text.toArray⟩,.bool false,.slice am wn cm,.bool false,.slice ae jU.length ce,.int .i64 lG.place]) (by simp[results,Tryz.results174,go_sem,d0,d1,d2,d3,d4,d5,d6,d7]) rfl ?_;exact⟨_,_,rfl,hE,ku ahq (by omega) _ _ _ _ _ _ _ _⟩
  ·subst hq1
   have Lc:=ay (show Calls Tryz.prog 105 #[.agg #[.slice a1 ah.length c1,.slice (some ⟨b,off,none⟩) aj.length cap],.int .i64 k1] w9.drew λe w'=>e=.returned (.string ⟨#[40]⟩)/\Below w9.drew.heap.size w9.drew w' from YS);clear YS HY HZ2 HQ;go_wp2_with (go_at_call 105;refine Lc.out.mono ?_);rintro e nP ⟨rfl,Dj⟩;have afD:w9.heap.size<=nP.heap.size:=Dj.size;have pF:Below w9.heap.size w9 nP:=(bY w9.heap.size w9).drew.trans Dj;have E1:=(pF.block (w.heap.size+1) (bU D1).1).trans D1;have E9:=(pF.block w8.heap.size (by omega)).trans N9;have Ls:=wY.trans (pF.mono wY.size);have Nh:=YR.frame (bA.of pF);clear r0 r1 k1c D0 D1 DX N9 Dj pF YR
   have b0:nP.cell? ⟨w8.heap.size,0,none⟩=some (.int .i64 24):=by rw[bg E9];rfl
   have b1:nP.cell? ⟨w8.heap.size,1,none⟩=some (.string ⟨lG.text.toArray⟩):=by rw[bg E9];rfl
   have b2:nP.cell? ⟨w8.heap.size,2,none⟩=some (.string ⟨#[]⟩):=by rw[bg E9];rfl
   have b3:nP.cell? ⟨w8.heap.size,3,none⟩=some (.bool false):=by rw[bg E9];rfl
   have b4:nP.cell? ⟨w8.heap.size,4,none⟩=some (.slice am wn cm):=by rw[bg E9];rfl
   have b5:nP.cell? ⟨w8.heap.size,5,none⟩=some (.bool false):=by rw[bg E9];rfl
   have b6:nP.cell? ⟨w8.heap.size,6,none⟩=some (.slice ae jU.length ce):=by rw[bg E9];rfl
   have b7:nP.cell? ⟨w8.heap.size,7,none⟩=some (.int .i64 lG.place):=by rw[bg E9];rfl
   have d0:nP.cell? ⟨w.heap.size+1,0,none⟩=some (.int .i64 0):=by rw[bg E1];rfl
   have d1:nP.cell? ⟨w.heap.size+1,1,none⟩=some (.string ⟨#[]⟩):=by rw[bg E1];rfl
   have d2:nP.cell? ⟨w.heap.size+1,2,none⟩=some (.string ⟨#[]⟩):=by rw[bg E1];rfl
   have d3:nP.cell? ⟨w.heap.size+1,3,none⟩=some (.bool false):=by rw[bg E1];rfl
   have d4:nP.cell? ⟨w.heap.size+1,4,none⟩=some (.slice none 0 0):=by rw[bg E1];rfl
   have d5:nP.cell? ⟨w.heap.size+1,5,none⟩=some (.bool false):=by rw[bg E1];rfl
   have d6:nP.cell? ⟨w.heap.size+1,6,none⟩=some (.slice none 0 0):=by rw[bg E1];rfl
   have d7:nP.cell? ⟨w.heap.size+1,7,none⟩=some (.int .i64 0):=by rw[bg E1];rfl
   have dz:∀ j,nP.frozen? ⟨w.heap.size+1,j,none⟩=false:=by intro j;simp[World.frozen?,E1]
   go_wp2
   have hE:qC XA (λb=>w.heap.size<=b) (Xm nP (w.heap.size+1) (.int .i64 24) (.string ⟨lG.text.toArray⟩) (.string ⟨#[]⟩) (.bool false) (.slice am wn cm) (.bool false) (.slice ae jU.length ce) (.int .i64 lG.place)) (.slice am wn cm) (.slice ae jU.length ce) (.mk 24 lG.text [] 0 [] false jU lG.place) :=
    ((Nh.frame (xX _ _ (w.heap.size+1) _ _ _ _ _ _ _ _ λk hk=>by omega)).imp λb hb _=>by omega).rename
   refine o9 (v:=.agg #[.int .i64 24,.string ⟨lG.text.toArray⟩,.string ⟨#[]⟩,.bool false,.slice am wn cm,.bool false,.slice ae jU.length ce,.int .i64 lG.place]) (by simp[results,Tryz.results174,go_sem,d0,d1,d2,d3,d4,d5,d6,d7]) rfl ?_;exact⟨_,_,rfl,hE,ku Ls (by omega) _ _ _ _ _ _ _ _⟩
def tF:Option CE->PT
 | none=>.leaf
 | some e=>e.pt
def iX:List (Option CE)->Nat->List (CE × Nat)
 | [],_=>[]
 | none :: l,u=>iX l (u+1)
 | some e :: l,u=>(e,u) :: iX l (u+e.pt.lv)
theorem Dk {n:Int}(h:pK aj n u t):0<=n/\n<(aj.length:Int):=by
 cases t with
 | leaf=>rw[pK] at h;have:=(qm h.2).1;omega
 | node k l=>rw[pK] at h;obtain⟨ks,h0,h1,_⟩:=h;have:=(qm h1).1;omega
theorem Vy {aj:List Nd}:∀ {l:List PT} {ks:List Int} {u:Nat},fT aj ks u l->∀ k∈ks,0<=k/\k<(aj.length:Int)
 | [],ks,u,h=>by rw[fT] at h;subst h;intro k hk;cases hk
 | t :: l,ks,u,h=>by
  rw[fT] at h;obtain⟨k,ks',rfl,h1,h2⟩:=h;intro x hx
  rcases oo.1 hx with rfl|hx
  ·exact Dk h1
  ·exact Vy h2 x hx
theorem yg {aj:List Nd}:∀ (its:List (Option CE)) (ks:List Int) (u:Nat),fT aj ks u (its.map tF) ->
  (gY aj ks).length=(iX its u).length/\∀ (j:Nat) (h1:j<(gY aj ks).length) (h2:j<(iX its u).length),pK aj (gY aj ks)[j] (iX its u)[j].2 (iX its u)[j].1.pt
 | [],ks,u,h=>by
  simp only[List.map_nil,fT] at h;subst h;exact⟨rfl,λj h1=>absurd h1 (by simp[gY])⟩
 | none :: its,ks,u,h=>by
  simp only[mE,fT,tF] at h;obtain⟨k,ks',rfl,h1,h2⟩:=h;rw[PT.lv] at h2;have ih:=yg its ks' (u+1) h2;simp only[RJ h1,iX];exact ih
 | some e :: its,ks,u,h=>by
  simp only[mE,fT,tF] at h;obtain⟨k,ks',rfl,h1,h2⟩:=h;have ih:=yg its ks' _ h2;simp only[RL h1,iX];refine⟨by simp[ih.1],λj h3 h4=>?_⟩
  cases j with
  | zero=>exact h1
  | succ j=>exact ih.2 j (by simpa using h3) (by simpa using h4)
theorem CE.afF (e:CE):0<e.pt.lv:=by
 cases e with
 | call q l=>rw[CE.pt,PT.lv,jA];simp[cO,PT.lv]
 | num=>simp[CE.pt,PT.lv,cO]
 | truth=>simp[CE.pt,PT.lv,cO]
 | res=>simp[CE.pt,PT.lv,cO]
 | Cr=>simp[CE.pt,PT.lv,cO]
 | group e=>simp[CE.pt,PT.lv,cO];omega
 | un e=>simp[CE.pt,PT.lv,cO];omega
 | bin a b=>simp[CE.pt,PT.lv,cO];omega
 | iff a b c=>simp[CE.pt,PT.lv,cO];omega
 | sZ a b=>simp[CE.pt,PT.lv,cO];omega
 | tq a b=>simp[CE.pt,PT.lv,cO];omega
theorem Dl:∀ (its:List (Option CE)),its.length<=cO (its.map tF)
 | []=>bI _
 | none :: its=>by have:=Dl its;simp only[mE,cO,tF,PT.lv,dN];omega
 | some e :: its=>by have:=Dl its;have:=e.afF;simp only[mE,cO,tF,dN];omega
structure IC where
 B:Nat
 tv:Value
 nv:Value
 ah:List Tok
 aj:List Nd
 cl:Bool
structure IC.ok (E:IC):Prop where
 len:E.ah.length<=1000000
 nums:∀ u,u<E.ah.length->gq E.ah u=3->∀ W,Calls Tryz.prog 176 #[.string ⟨(aJ E.ah u).toArray⟩] W (abw (jR (aJ E.ah u)) W)
def IC.At (E:IC)(W:World):Prop:=bE E.B W (.agg #[E.tv,E.nv]) E.ah E.aj/\E.B<=W.heap.size
def IC.reads (E:IC)(e:CE)(u:Nat):Prop:=∀ (i:Nat) (W:World),pK E.aj i u e.pt->E.At W->Calls Tryz.prog 108 #[.agg #[E.tv,E.nv],.int .i64 i] W (EPost XA (e.pe E.ah u) W)
theorem nJ (E:IC)(its:List (Option CE))(ks:List Int)(u i:Nat)(k:Int)(hn:E.aj[i]?=some ⟨k,-1,ks⟩)(hr:fT E.aj ks u (its.map tF))(hlen:ks.length<=1000000000)(hsub:∀ p∈iX its u,E.reads p.1 p.2)
  (op at_:Nat) (W:World) (hT:bE E.B W (.agg #[E.tv,E.nv]) E.ah E.aj) (hB:E.B<=W.heap.size) :
  Calls Tryz.prog 175 #[.agg #[E.tv,E.nv],.int .i64 op,.int .i64 at_,.int .i64 i] W (EPost XA (.mk op [] [] 0 [] false ((iX its u).map λp=>p.1.pe E.ah p.2) at_) W):=by
 obtain⟨hi,hni⟩:=qm hn;obtain⟨p1,p2⟩:=yg its ks u hr;refine WR E.B E.tv E.nv E.ah E.aj i op at_ W hT hB hi (by rw[hni];exact Vy hr) (by rw[hni];exact hlen) _ (by rw[hni];simp[p1]) ?_;rw[hni];intro j h1 h2 W' hT' hB'
 have h3:j<(iX its u).length:=by simpa using h1
 have hrep:=p2 j h2 h3;have hx:=hsub _ (oQ h3);have hk:=Dk hrep;simp only[List.getElem_map]
 obtain⟨m,hm⟩:∃ m:Nat,(gY E.aj ks)[j]=(m:Int):=⟨((gY E.aj ks)[j]).toNat,by omega⟩
 rw[hm] at hrep |-;exact hx m W' hrep ⟨hT',hB'⟩
theorem j3 {ah:List Tok}(h:u<ah.length):ah[u]?=some (dh ah u):=by
 rw[dh,Nat.min_eq_left (by omega),Fb,AB h,Option.getD_some]
theorem dx (h:fT aj ks u (.leaf :: l)):∃ (k:Nat) (ks':List Int),ks=(k:Int) :: ks'/\aj[k]?=some ⟨19,(u:Nat),[]⟩/\fT aj ks' (u+1) l:=by
 rw[fT] at h;obtain⟨k,ks',rfl,h1,h2⟩:=h;obtain⟨i,rfl,hi⟩:=h1.RO;exact⟨i,ks',rfl,hi,h2⟩
theorem IE (h:fT aj ks u (t :: l)):∃ (k:Nat) (ks':List Int),ks=(k:Int) :: ks'/\pK aj k u t/\fT aj ks' (u+t.lv) l:=by
 rw[fT] at h;obtain⟨k,ks',rfl,h1,h2⟩:=h;have:=Dk h1;exact⟨k.toNat,ks',by rw[Int.toNat_of_nonneg this.1],by rw[Int.toNat_of_nonneg this.1];exact h1,h2⟩
