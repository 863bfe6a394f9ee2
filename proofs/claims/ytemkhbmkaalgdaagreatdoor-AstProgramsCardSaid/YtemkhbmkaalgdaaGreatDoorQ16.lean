/- Walks and plain laws: ReadX, ReadW7. -/
import Derived.Test.YtemkhbmkaalgdaaGreatDoorQ15
set_option maxHeartbeats 16000000
set_option maxRecDepth 100000
namespace Go.Proofs.YtemkhbmkaalgdaaGreatDoor
open Go.RowKit Go
theorem cells2 {w:World}{b:Nat}{c0 c1:Value}{T:TypeId}(h:w.heap[b]?=some (.cells #[c0,c1] T (0,0))):w.cell? ⟨b,0,none⟩=some c0∧w.cell? ⟨b,1,none⟩=some c1:=by
 constructor <;> (rw [Lib.cell_of_heap h];rfl)
theorem cells3 {w:World}{b:Nat}{c0 c1 c2:Value}{T:TypeId}(h:w.heap[b]?=some (.cells #[c0,c1,c2] T (0,0))):w.cell? ⟨b,0,none⟩=some c0∧w.cell? ⟨b,1,none⟩=some c1∧w.cell? ⟨b,2,none⟩=some c2:=by
 refine ⟨?_,?_,?_⟩ <;> (rw [Lib.cell_of_heap h];rfl)
theorem cells4 {w:World}{b:Nat}{c0 c1 c2 c3:Value}{T:TypeId}(h:w.heap[b]?=some (.cells #[c0,c1,c2,c3] T (0,0))):w.cell? ⟨b,0,none⟩=some c0∧w.cell? ⟨b,1,none⟩=some c1∧w.cell? ⟨b,2,none⟩=some c2∧w.cell? ⟨b,3,none⟩=some c3∧∀ j,w.frozen? ⟨b,j,none⟩=false:=by
 refine ⟨?_,?_,?_,?_,fun j=>by simp [World.frozen?,h]⟩ <;> (rw [Lib.cell_of_heap h];rfl)
theorem cells8 {w:World}{b:Nat}{c0 c1 c2 c3 c4 c5 c6 c7:Value}{T:TypeId}(h:w.heap[b]?=some (.cells #[c0,c1,c2,c3,c4,c5,c6,c7] T (0,0))):(w.cell? ⟨b,0,none⟩=some c0∧w.cell? ⟨b,1,none⟩=some c1∧w.cell? ⟨b,2,none⟩=some c2∧w.cell? ⟨b,3,none⟩=some c3)∧(w.cell? ⟨b,4,none⟩=some c4∧w.cell? ⟨b,5,none⟩=some c5∧w.cell? ⟨b,6,none⟩=some c6∧w.cell? ⟨b,7,none⟩=some c7)∧∀ j,w.frozen? ⟨b,j,none⟩=false:=by
 refine ⟨⟨?_,?_,?_,?_⟩,⟨?_,?_,?_,?_⟩,fun j=>by simp [World.frozen?,h]⟩ <;> (rw [Lib.cell_of_heap h];rfl)
structure Boxes4 (w:World) (c0 c1 c2 c3:Array Value) (t0 t1 t2 t3:TypeId) (W:World):Prop where
 s0:W.heap[w.heap.size]?=some (.cells c0 t0 (0,0))
 s1:W.heap[w.heap.size+1]?=some (.cells c1 t1 (0,0))
 s2:W.heap[w.heap.size+1+1]?=some (.cells c2 t2 (0,0))
 s3:W.heap[w.heap.size+1+1+1]?=some (.cells c3 t3 (0,0))
 al:Below w.heap.size w W
section
variable {w W W':World} {c0 c1 c2 c3:Array Value} {t0 t1 t2 t3:TypeId}
theorem Boxes4.of (h:(((w.alloc (.cells c0 t0)).alloc (.cells c1 t1)).alloc (.cells c2 t2)).alloc (.cells c3 t3)=W):Boxes4 w c0 c1 c2 c3 t0 t1 t2 t3 W:=by
 subst h
 have ho:=fun (W:World) (o:Obj) (k:Nat) (hk:k<W.heap.size)=>Lib.alloc_old W o k hk
 have g1:=heap_alloc_new (w.alloc (.cells c0 t0)) (.cells c1 t1)
 have g2:=heap_alloc_new ((w.alloc (.cells c0 t0)).alloc (.cells c1 t1)) (.cells c2 t2)
 have g3:=heap_alloc_new (((w.alloc (.cells c0 t0)).alloc (.cells c1 t1)).alloc (.cells c2 t2)) (.cells c3 t3)
 rw [World.size_alloc] at g1
 rw [World.size_alloc,World.size_alloc] at g2
 rw [World.size_alloc,World.size_alloc,World.size_alloc] at g3
 refine ⟨?_,?_,?_,g3,((((Below.refl w.heap.size w).alloc (Nat.le_refl _) _).alloc (by simp) _).alloc (by simp <;> omega) _).alloc (by simp <;> omega) _⟩
 ·exact (ho _ _ _ (by simp <;> omega)).trans ((ho _ _ _ (by simp <;> omega)).trans ((ho _ _ _ (by simp)).trans (heap_alloc_new w (.cells c0 t0))))
 ·exact (ho _ _ _ (by simp <;> omega)).trans ((ho _ _ _ (by simp)).trans g1)
 ·exact (ho _ _ _ (by simp)).trans g2
theorem Boxes4.drewN (h:Boxes4 w c0 c1 c2 c3 t0 t1 t2 t3 W)(n:Nat):Boxes4 w c0 c1 c2 c3 t0 t1 t2 t3 (W.drewN n):=⟨h.s0,h.s1,h.s2,h.s3,below_drewN h.al n⟩
theorem Boxes4.drew (h:Boxes4 w c0 c1 c2 c3 t0 t1 t2 t3 W):Boxes4 w c0 c1 c2 c3 t0 t1 t2 t3 W.drew:=⟨h.s0,h.s1,h.s2,h.s3,h.al.drew⟩
theorem Boxes4.size (h:Boxes4 w c0 c1 c2 c3 t0 t1 t2 t3 W):w.heap.size+1+1+1<W.heap.size:=(Array.getElem?_eq_some_iff.1 h.s3).1
theorem Boxes4.later (h:Boxes4 w c0 c1 c2 c3 t0 t1 t2 t3 W)(hb:Below W.heap.size W W'):Boxes4 w c0 c1 c2 c3 t0 t1 t2 t3 W':=by
 have:=h.size
 exact ⟨(hb.block _ (by omega)).trans h.s0,(hb.block _ (by omega)).trans h.s1,(hb.block _ (by omega)).trans h.s2,(hb.block _ (by omega)).trans h.s3,h.al.trans (hb.mono h.al.size)⟩
end
def Rd (f B:Nat)(tv nv:Value)(toks:List Tok)(nodes:List Nd)(k:Nat)(x:PE):Prop:=∀ W:World,TreeAt B W (.agg #[tv,nv]) toks nodes→B≤W.heap.size→Calls Tryz.prog f #[.agg #[tv,nv],.int .i64 k] W (EPost XA x W)
def RdM (B:Nat)(tv nv:Value)(toks:List Tok)(nodes:List Nd)(i:Nat)(pes:List PE):Prop:=∀ (op at_:Nat) (W:World),TreeAt B W (.agg #[tv,nv]) toks nodes→B≤W.heap.size→Calls Tryz.prog 51 #[.agg #[tv,nv],.int .i64 op,.int .i64 at_,.int .i64 i] W (EPost XA (.mk op [] [] 0 [] false pes at_) W)
inductive RNeed (B:Nat) (tv nv:Value) (toks:List Tok) (nodes:List Nd) (i:Nat) (ks:List Int) (t:Tok):Int→PE→Prop
 | group (k1:Nat) (x:PE):ks[1]?=some (k1:Int)→Rd 31 B tv nv toks nodes k1 x→RNeed B tv nv toks nodes i ks t 12 x
 | bin (x:PE):Rd 49 B tv nv toks nodes i x→RNeed B tv nv toks nodes i ks t 10 x
 | call (x:PE):Rd 50 B tv nv toks nodes i x→RNeed B tv nv toks nodes i ks t 13 x
 | not (pes:List PE):t.text=[110,111,116]→RdM B tv nv toks nodes i pes→RNeed B tv nv toks nodes i ks t 11 (.mk 6 [] [] 0 [] false pes t.place)
 | neg (pes:List PE):t.text=[45]→RdM B tv nv toks nodes i pes→RNeed B tv nv toks nodes i ks t 11 (.mk 5 [] [] 0 [] false pes t.place)
 | iff (pes:List PE):RdM B tv nv toks nodes i pes→RNeed B tv nv toks nodes i ks t 8 (.mk 21 [] [] 0 [] false pes t.place)
 | asrt (pes:List PE):RdM B tv nv toks nodes i pes→RNeed B tv nv toks nodes i ks t 9 (.mk 23 [] [] 0 [] false pes t.place)
 | lett (pes:List PE) (k1:Nat) (tx:List UInt8):RdM B tv nv toks nodes i pes→ks[1]?=some (k1:Int)→(∀ W:World,TreeAt B W (.agg #[tv,nv]) toks nodes→B≤W.heap.size→Calls Tryz.prog 46 #[.agg #[tv,nv],.int .i64 k1] W fun e w'=>e=.returned (.string ⟨tx.toArray⟩)∧Below W.heap.size W w')→RNeed B tv nv toks nodes i ks t 7 (.mk 22 tx [] 0 [] false pes t.place)
 | num (n:Nat) (txt:List UInt8):(∀ W:World,Calls Tryz.prog 52 #[.string ⟨t.text.toArray⟩] W (ZPost n W))→RNeed B tv nv toks nodes i ks t 15 (.mk 1 [] [] (n:Nat) txt false [] t.place)
 | tru:t.text=[116,114,117,101]→RNeed B tv nv toks nodes i ks t 16 (.mk 2 [] [] 0 [] true [] t.place)
 | fls:t.text=[102,97,108,115,101]→RNeed B tv nv toks nodes i ks t 16 (.mk 2 [] [] 0 [] false [] t.place)
 | res:RNeed B tv nv toks nodes i ks t 17 (.mk 4 [] [] 0 [] false [] t.place)
 | nam:RNeed B tv nv toks nodes i ks t 14 (.mk 3 t.text [] 0 [] false [] t.place)
theorem rexpr_all (B:Nat)(tv nv:Value)(toks:List Tok)(nodes:List Nd)(i:Nat)(kd:Int)(ks:List Int)(w:World)(h:TreeAt B w (.agg #[tv,nv]) toks nodes)(hB:B≤w.heap.size)(hn:nodes[i]?=some ⟨kd,-1,ks⟩)(k0:Nat)(hk0:ks[0]?=some (k0:Int))(t:Tok)(xn:Nd)(hl0:nodes[k0]?=some xn)
  (ht:(∃ u:Nat,xn=⟨19,(u:Nat),[]⟩∧toks[u]?=some t)∨(xn.kind≠19∧t=⟨0,[],[],0⟩)) (x:PE) (hx:RNeed B tv nv toks nodes i ks t kd x) :
  Calls Tryz.prog 31 #[.agg #[tv,nv],.int .i64 i] w (EPost XA x w):=by
 obtain ⟨hi,hni⟩:=List.getElem?_eq_some_iff.1 hn
 obtain ⟨hk1,hk2⟩:=List.getElem?_eq_some_iff.1 hk0
 obtain ⟨hi0,hni0⟩:=List.getElem?_eq_some_iff.1 hl0
 have HT:=Lib.hid h
 obtain ⟨a1,c1,_,_,e⟩:=h.slices
 obtain ⟨b,off,cap,kv,rfl,hb,x0,x1,x2,hkv⟩:=h.node hi
 obtain ⟨b',off',cap',kv',e',hb',y0,_,_,_⟩:=h.node hi0
 obtain ⟨⟨rfl,rfl⟩,rfl⟩:(b=b'∧off=off')∧cap=cap':=by simpa using e'
 obtain ⟨rfl,-⟩:tv=.slice a1 toks.length c1∧_:=by simpa using e
 rw [hni] at x0 x1 hkv
 rw [hni0] at y0
 simp only at x0 x1 hkv
 obtain ⟨ak,ck,rfl,_,hkf⟩:=hkv.form
 obtain ⟨bk,ok,rfl,hbk,hkc⟩:=hkf (by omega)
 have hz:=hkc 0 hk1
 rw [hk2,Nat.add_zero] at hz
 have HKC:=Lib.hid hkc
 have HL0:=Lib.hid hl0
 have HX:=Lib.hid hx
 have HTT:=Lib.hid ht
 generalize hkk:xn.kind=kk at y0
 have HKK:=Lib.hid hkk
 have hal2:=((Below.refl w.heap.size w).alloc (Nat.le_refl _) (.cells #[.slice a1 toks.length c1,.slice (some ⟨b,off,none⟩) nodes.length cap] 88)).alloc (by simp) (.cells #[.int .i64 0,.string ⟨#[]⟩,.string ⟨#[]⟩,.bool false,.slice none 0 0,.bool false,.slice none 0 0,.int .i64 0] 40)
 have X0:=cell_later hal2 x0
 have X1:=cell_later hal2 x1
 have X2:=cell_later hal2 x2
 have hiI:(i:Int)<(nodes.length:Int):=by omega
 have hk0I:(k0:Int)<(nodes.length:Int):=by omega
 have hkl:(0:Int)<(ks.length:Int):=by omega
 have hklN:0<ks.length:=by omega
 clear e e' hkv hkf hkc hn hni hni0 hl0 hk0 hk2 h hx ht hkk hal2 x0 x1 x2
 go_enter Tryz.func31,Tryz.ntmps31
 go_wp2
 generalize hw4:(((w.alloc _).alloc _).alloc _).alloc _=w4
 have S:=Boxes4.of hw4
 obtain ⟨r0,r1⟩:=cells2 S.s0
 obtain ⟨n0,n1,n2⟩:=cells3 S.s2
 have z4:=cell_later S.al hz
 have y4:=cell_later S.al y0
 clear hw4 X0 X1 X2
 go_quiet (fail)
 go_upto_if 27 with fail
 have S5:=S.drewN nq
 clear r0 r1 n0 n1 n2 z4 y4 S
 generalize w4.drewN nq=w5 at S5 ⊢
 obtain ⟨r0,r1⟩:=cells2 S5.s0
 obtain ⟨n0,n1,n2⟩:=cells3 S5.s2
 go_cut [] (fun wc=>Boxes4 w #[.slice a1 toks.length c1,.slice (some ⟨b,off,none⟩) nodes.length cap] #[.int .i64 0,.string ⟨#[]⟩,.string ⟨#[]⟩,.bool false,.slice none 0 0,.bool false,.slice none 0 0,.int .i64 0] #[.int .i64 kd,.int .i64 (-1),.slice (some ⟨bk,ok,none⟩) ks.length ck] #[.int .i64 t.kind,.string ⟨t.lead.toArray⟩,.string ⟨t.text.toArray⟩,.int .i64 t.place] 88 40 85 83 wc)
 case first =>
  rcases HTT.out with ⟨u,hxn,hut⟩|⟨hne,rfl⟩
  ·have hkk:=HKK.out
   rw [hxn] at hkk
   obtain rfl:kk=19:=hkk.symm
   have hl0:=HL0.out
   rw [hxn] at hl0
   have z5:=cell_later S5.al hz
   obtain ⟨hu,hut'⟩:=List.getElem?_eq_some_iff.1 hut
   have hK:=(rtoken_any B _ _ toks nodes k0 u w5.drew (HT.out.below ((S5.al.mono hB).drew)) (by have:=S5.al.size;show B≤w5.heap.size;omega) hl0 hu)
   rw [hut'] at hK
   unfold tokVal strV at hK
   have HK:=Lib.hid hK
   clear hK hut hut' hkk hxn hl0 hz y0
   go_wp2
   go_still_tail 5,(by kernel_rfl)
   change wpList _ _ _ _ _ w5.drew
   go_wp2_with (go_at_call 29;refine HK.out.mono ?_)
   rintro e w6 ⟨rfl,hb6⟩
   have S6:=S5.drew.later hb6
   obtain ⟨t0,t1,t2,t3,tz⟩:=cells4 S6.s3
   obtain ⟨S3,So,Sz⟩:=store4 S6.s3 (.int .i64 t.kind) (.string ⟨t.lead.toArray⟩) (.string ⟨t.text.toArray⟩) (.int .i64 t.place)
   clear z5 r0 r1 n0 n1 n2
   go_wp2
   go_meet
   exact ⟨(So _ (by omega)).trans S6.s0,(So _ (by omega)).trans S6.s1,(So _ (by omega)).trans S6.s2,S3,(((S6.al.setCell (by show _≤w.heap.size+1+1+1;omega) _).setCell (by show _≤w.heap.size+1+1+1;omega) _).setCell (by show _≤w.heap.size+1+1+1;omega) _).setCell (by show _≤w.heap.size+1+1+1;omega) _⟩
  ·have hk19:(kk == 19)=false:=by rw [← HKK.out,← Bool.not_eq_true,beq_iff_eq];exact hne
   clear hz y0
   go_wp2
   go_meet
   exact S5
 case rest =>
  have S:=hcut
  obtain ⟨w7,rfl⟩:∃ w7:World,w7=wc:=⟨_,rfl⟩
  clear hcut S5 r0 r1 n0 n1 n2 hz y0 HTT HKK HL0
  obtain ⟨r0,r1⟩:=cells2 S.s0
  obtain ⟨n0,n1,n2⟩:=cells3 S.s2
  have hs:=S.size
  have hT7:=HT.out.below (S.al.mono hB)
  have hB7:=Nat.le_trans hB S.al.size
  have hx:=HX.out
  clear HX
  obtain ⟨f0,f1,f2,f3,fz⟩:=cells4 S.s3
  cases hx with
  | group k1 _ h1 hF =>
   obtain ⟨hp1,hp2⟩:=List.getElem?_eq_some_iff.1 h1
   have z1:=cell_later S.al (HKC.out 1 hp1)
   rw [hp2] at z1
   have hp1I:(1:Int)<(ks.length:Int):=by omega
   have HF':=Lib.hid ((hF w7.drew (HT.out.below ((S.al.mono hB).drew)) hB7).mono fun _ _ h=>h.s)
   clear hF h1 hp2
   go_wp2
   go_still_tail 5,(by kernel_rfl)
   change wpList _ _ _ _ _ w7.drew
   go_wp2_with (go_at_call 31;refine HF'.out.mono ?_)
   rintro e w8 ⟨am,wn,cm,ae,ce,rfl,hxe,hb8⟩
   have D1:=(hb8.block (w.heap.size+1) (show w.heap.size+1<w7.heap.size by omega)).trans S.s1
   clear r0 r1 n0 n1 n2 f0 f1 f2 f3
   obtain ⟨⟨d0,d1,d2,d3⟩,⟨d4,d5,d6,d7⟩,dz⟩:=cells8 D1
   go_wp2
   refine bodyPost_ret (v:=.agg #[.int .i64 x.op,.string ⟨x.name.toArray⟩,.string ⟨x.module.toArray⟩,.bool (decide (x.num<0)),.slice am wn cm,.bool x.yes,.slice ae x.kids.length ce,.int .i64 x.at_]) (by simp [results,Tryz.results31,go_sem,d0,d1,d2,d3,d4,d5,d6,d7]) rfl ⟨_,_,rfl,(EPost.store (w0:=w) (b:=w.heap.size+1) hxe hb8 S.al.drew (by omega) (by have:=S.al.size;first|omega|(show w.heap.size+1<w7.heap.size;omega)) _ _ _ _ _ _ _ _).1,(EPost.store (w0:=w) (b:=w.heap.size+1) hxe hb8 S.al.drew (by omega) (by have:=S.al.size;first|omega|(show w.heap.size+1<w7.heap.size;omega)) _ _ _ _ _ _ _ _).2⟩
  | bin _ hF =>
   have HF':=Lib.hid ((hF w7 hT7 hB7).mono fun _ _ h=>h.s)
   clear hF
   go_wp2_with (go_at_call 49;refine HF'.out.mono ?_)
   rintro e w8 ⟨am,wn,cm,ae,ce,rfl,hxe,hb8⟩
   have D1:=(hb8.block (w.heap.size+1) (show w.heap.size+1<w7.heap.size by omega)).trans S.s1
   clear r0 r1 n0 n1 n2 f0 f1 f2 f3
   obtain ⟨⟨d0,d1,d2,d3⟩,⟨d4,d5,d6,d7⟩,dz⟩:=cells8 D1
   go_wp2
   refine bodyPost_ret (v:=.agg #[.int .i64 x.op,.string ⟨x.name.toArray⟩,.string ⟨x.module.toArray⟩,.bool (decide (x.num<0)),.slice am wn cm,.bool x.yes,.slice ae x.kids.length ce,.int .i64 x.at_]) (by simp [results,Tryz.results31,go_sem,d0,d1,d2,d3,d4,d5,d6,d7]) rfl ⟨_,_,rfl,(EPost.store (w0:=w) (b:=w.heap.size+1) hxe hb8 S.al (by omega) (by have:=S.al.size;first|omega|(show w.heap.size+1<w7.heap.size;omega)) _ _ _ _ _ _ _ _).1,(EPost.store (w0:=w) (b:=w.heap.size+1) hxe hb8 S.al (by omega) (by have:=S.al.size;first|omega|(show w.heap.size+1<w7.heap.size;omega)) _ _ _ _ _ _ _ _).2⟩
  | call _ hF =>
   have HF':=Lib.hid ((hF w7 hT7 hB7).mono fun _ _ h=>h.s)
   clear hF
   go_wp2_with (go_at_call 50;refine HF'.out.mono ?_)
   rintro e w8 ⟨am,wn,cm,ae,ce,rfl,hxe,hb8⟩
   have D1:=(hb8.block (w.heap.size+1) (show w.heap.size+1<w7.heap.size by omega)).trans S.s1
   clear r0 r1 n0 n1 n2 f0 f1 f2 f3
   obtain ⟨⟨d0,d1,d2,d3⟩,⟨d4,d5,d6,d7⟩,dz⟩:=cells8 D1
   go_wp2
   refine bodyPost_ret (v:=.agg #[.int .i64 x.op,.string ⟨x.name.toArray⟩,.string ⟨x.module.toArray⟩,.bool (decide (x.num<0)),.slice am wn cm,.bool x.yes,.slice ae x.kids.length ce,.int .i64 x.at_]) (by simp [results,Tryz.results31,go_sem,d0,d1,d2,d3,d4,d5,d6,d7]) rfl ⟨_,_,rfl,(EPost.store (w0:=w) (b:=w.heap.size+1) hxe hb8 S.al (by omega) (by have:=S.al.size;first|omega|(show w.heap.size+1<w7.heap.size;omega)) _ _ _ _ _ _ _ _).1,(EPost.store (w0:=w) (b:=w.heap.size+1) hxe hb8 S.al (by omega) (by have:=S.al.size;first|omega|(show w.heap.size+1<w7.heap.size;omega)) _ _ _ _ _ _ _ _).2⟩
  | not pes htx hM =>
   have HF':=Lib.hid ((hM 6 t.place w7 hT7 hB7).mono fun _ _ h=>h.m)
   rw [htx] at f2
   clear htx
   clear hM
   go_wp2_with (go_at_call 51;refine HF'.out.mono ?_)
   rintro e w8 ⟨am,wn,cm,ae,ce,rfl,hxe,hb8⟩
   have D1:=(hb8.block (w.heap.size+1) (show w.heap.size+1<w7.heap.size by omega)).trans S.s1
   clear r0 r1 n0 n1 n2 f0 f1 f2 f3
   obtain ⟨⟨d0,d1,d2,d3⟩,⟨d4,d5,d6,d7⟩,dz⟩:=cells8 D1
   go_wp2
   refine bodyPost_ret (v:=.agg #[.int .i64 6,.string ⟨#[]⟩,.string ⟨#[]⟩,.bool false,.slice am wn cm,.bool false,.slice ae pes.length ce,.int .i64 t.place]) (by simp [results,Tryz.results31,go_sem,d0,d1,d2,d3,d4,d5,d6,d7]) rfl ⟨_,_,rfl,(EPost.store (w0:=w) (b:=w.heap.size+1) hxe hb8 S.al (by omega) (by have:=S.al.size;first|omega|(show w.heap.size+1<w7.heap.size;omega)) _ _ _ _ _ _ _ _).1,(EPost.store (w0:=w) (b:=w.heap.size+1) hxe hb8 S.al (by omega) (by have:=S.al.size;first|omega|(show w.heap.size+1<w7.heap.size;omega)) _ _ _ _ _ _ _ _).2⟩
  | neg pes htx hM =>
   have HF':=Lib.hid ((hM 5 t.place w7 hT7 hB7).mono fun _ _ h=>h.m)
   rw [htx] at f2
   clear htx
   clear hM
   go_wp2_with (go_at_call 51;refine HF'.out.mono ?_)
   rintro e w8 ⟨am,wn,cm,ae,ce,rfl,hxe,hb8⟩
   have D1:=(hb8.block (w.heap.size+1) (show w.heap.size+1<w7.heap.size by omega)).trans S.s1
   clear r0 r1 n0 n1 n2 f0 f1 f2 f3
   obtain ⟨⟨d0,d1,d2,d3⟩,⟨d4,d5,d6,d7⟩,dz⟩:=cells8 D1
   go_wp2
   refine bodyPost_ret (v:=.agg #[.int .i64 5,.string ⟨#[]⟩,.string ⟨#[]⟩,.bool false,.slice am wn cm,.bool false,.slice ae pes.length ce,.int .i64 t.place]) (by simp [results,Tryz.results31,go_sem,d0,d1,d2,d3,d4,d5,d6,d7]) rfl ⟨_,_,rfl,(EPost.store (w0:=w) (b:=w.heap.size+1) hxe hb8 S.al (by omega) (by have:=S.al.size;first|omega|(show w.heap.size+1<w7.heap.size;omega)) _ _ _ _ _ _ _ _).1,(EPost.store (w0:=w) (b:=w.heap.size+1) hxe hb8 S.al (by omega) (by have:=S.al.size;first|omega|(show w.heap.size+1<w7.heap.size;omega)) _ _ _ _ _ _ _ _).2⟩
  | iff pes hM =>
   have HF':=Lib.hid ((hM 21 t.place w7 hT7 hB7).mono fun _ _ h=>h.m)
   clear hM
   go_wp2_with (go_at_call 51;refine HF'.out.mono ?_)
   rintro e w8 ⟨am,wn,cm,ae,ce,rfl,hxe,hb8⟩
   have D1:=(hb8.block (w.heap.size+1) (show w.heap.size+1<w7.heap.size by omega)).trans S.s1
   clear r0 r1 n0 n1 n2 f0 f1 f2 f3
   obtain ⟨⟨d0,d1,d2,d3⟩,⟨d4,d5,d6,d7⟩,dz⟩:=cells8 D1
   go_wp2
   refine bodyPost_ret (v:=.agg #[.int .i64 21,.string ⟨#[]⟩,.string ⟨#[]⟩,.bool false,.slice am wn cm,.bool false,.slice ae pes.length ce,.int .i64 t.place]) (by simp [results,Tryz.results31,go_sem,d0,d1,d2,d3,d4,d5,d6,d7]) rfl ⟨_,_,rfl,(EPost.store (w0:=w) (b:=w.heap.size+1) hxe hb8 S.al (by omega) (by have:=S.al.size;first|omega|(show w.heap.size+1<w7.heap.size;omega)) _ _ _ _ _ _ _ _).1,(EPost.store (w0:=w) (b:=w.heap.size+1) hxe hb8 S.al (by omega) (by have:=S.al.size;first|omega|(show w.heap.size+1<w7.heap.size;omega)) _ _ _ _ _ _ _ _).2⟩
  | asrt pes hM =>
   have HF':=Lib.hid ((hM 23 t.place w7 hT7 hB7).mono fun _ _ h=>h.m)
   clear hM
   go_wp2_with (go_at_call 51;refine HF'.out.mono ?_)
   rintro e w8 ⟨am,wn,cm,ae,ce,rfl,hxe,hb8⟩
   have D1:=(hb8.block (w.heap.size+1) (show w.heap.size+1<w7.heap.size by omega)).trans S.s1
   clear r0 r1 n0 n1 n2 f0 f1 f2 f3
   obtain ⟨⟨d0,d1,d2,d3⟩,⟨d4,d5,d6,d7⟩,dz⟩:=cells8 D1
   go_wp2
   refine bodyPost_ret (v:=.agg #[.int .i64 23,.string ⟨#[]⟩,.string ⟨#[]⟩,.bool false,.slice am wn cm,.bool false,.slice ae pes.length ce,.int .i64 t.place]) (by simp [results,Tryz.results31,go_sem,d0,d1,d2,d3,d4,d5,d6,d7]) rfl ⟨_,_,rfl,(EPost.store (w0:=w) (b:=w.heap.size+1) hxe hb8 S.al (by omega) (by have:=S.al.size;first|omega|(show w.heap.size+1<w7.heap.size;omega)) _ _ _ _ _ _ _ _).1,(EPost.store (w0:=w) (b:=w.heap.size+1) hxe hb8 S.al (by omega) (by have:=S.al.size;first|omega|(show w.heap.size+1<w7.heap.size;omega)) _ _ _ _ _ _ _ _).2⟩
  | lett pes k1 tx hM h1 hX =>
   obtain ⟨hp1,hp2⟩:=List.getElem?_eq_some_iff.1 h1
   have hk1c:=HKC.out 1 hp1
   rw [hp2] at hk1c
   have HM':=Lib.hid ((hM 22 t.place w7 hT7 hB7).mono fun _ _ h=>h.m)
   have HXX:=Lib.hid hX
   clear hM h1 hp2 hX
   go_wp2_with (go_at_call 51;refine HM'.out.mono ?_)
   rintro e w8 ⟨am,wn,cm,ae,ce,rfl,hxe,hb8⟩
   have S8:=S.later hb8
   have hz8:=hb8.size
   clear r0 r1 n0 n1 n2 f0 f1 f2 f3 fz
   go_upto_region 22 with (fail)
   have ha9:=below_new w8 (.cells #[.int .i64 22,.string ⟨#[]⟩,.string ⟨#[]⟩,.bool false,.slice am wn cm,.bool false,.slice ae pes.length ce,.int .i64 t.place] 40)
   have N9:=heap_alloc_new w8 (.cells #[.int .i64 22,.string ⟨#[]⟩,.string ⟨#[]⟩,.bool false,.slice am wn cm,.bool false,.slice ae pes.length ce,.int .i64 t.place] 40)
   have hx9:=(hxe.imp (fun b hb hlt=>(⟨hb,hlt⟩:w7.heap.size≤b∧b<w8.heap.size))).frame (w':=w8.alloc (.cells #[.int .i64 22,.string ⟨#[]⟩,.string ⟨#[]⟩,.bool false,.slice am wn cm,.bool false,.slice ae pes.length ce,.int .i64 t.place] 40)) ⟨by simp,fun b _ hb=>Lib.alloc_old _ _ _ hb⟩
   have hs9:(w8.alloc (.cells #[.int .i64 22,.string ⟨#[]⟩,.string ⟨#[]⟩,.bool false,.slice am wn cm,.bool false,.slice ae pes.length ce,.int .i64 t.place] 40)).heap.size=w8.heap.size+1:=by simp
   have S9:=S8.later ha9
   clear ha9
   generalize w8.alloc _=w9 at N9 hx9 hs9 S9 ⊢
   have k1c:=cell_later S9.al hk1c
   obtain ⟨r0,r1⟩:=cells2 S9.s0
   obtain ⟨n0,n1,n2⟩:=cells3 S9.s2
   have hp1I:(1:Int)<(ks.length:Int):=by omega
   have HX':=Lib.hid (HXX.out w9.drew (HT.out.below ((S9.al.mono hB).drew)) (show B≤w9.heap.size by have:=S9.al.size;omega))
   go_still_tail 5,(by kernel_rfl)
   change wpList _ _ _ _ _ w9.drew
   go_wp2_with (go_at_call 46;refine HX'.out.mono ?_)
   rintro e w10 ⟨rfl,hb10⟩
   have hb10':Below w9.heap.size w9 w10:=(Below.refl w9.heap.size w9).drew.trans hb10
   have S10:=S9.later hb10'
   have E9:=(hb10'.block w8.heap.size (by omega)).trans N9
   obtain ⟨⟨_,e0,_,_⟩,_,ez⟩:=cells8 E9
   have hx10:=hx9.frame (Alk.of hb10')
   clear r0 r1 n0 n1 n2 k1c N9 hb10 hb10' hx9
   have E9':=heap_setCell_same w10 w8.heap.size 1 _ _ (.string ⟨tx.toArray⟩) E9
   have E1':=(heap_setCell_other w10 ⟨w8.heap.size,1,none⟩ (w.heap.size+1) (.string ⟨tx.toArray⟩) (by show w.heap.size+1≠w8.heap.size;omega)).trans S10.s1
   have hal11:=S10.al.setCell (p:=⟨w8.heap.size,1,none⟩) (by show w.heap.size≤w8.heap.size;omega) (.string ⟨tx.toArray⟩)
   have hx11:=hx10.frame (Alk.set (a:=⟨w8.heap.size,1,none⟩) (.string ⟨tx.toArray⟩) fun b hb=>by show b≠w8.heap.size;omega)
   go_upto_region 23 with (fail)
   generalize w10.setCell _ _=w11 at E9' E1' hal11 hx11 ⊢
   obtain ⟨⟨b0,b1,b2,b3⟩,⟨b4,b5,b6,b7⟩,_⟩:=cells8 (show w11.heap[w8.heap.size]?=some (.cells #[.int .i64 22,.string ⟨tx.toArray⟩,.string ⟨#[]⟩,.bool false,.slice am wn cm,.bool false,.slice ae pes.length ce,.int .i64 t.place] 40 (0,0)) from E9')
   obtain ⟨⟨d0,d1,d2,d3⟩,⟨d4,d5,d6,d7⟩,dz⟩:=cells8 E1'
   clear e0 ez E9
   go_wp2
   refine bodyPost_ret (v:=.agg #[.int .i64 22,.string ⟨tx.toArray⟩,.string ⟨#[]⟩,.bool false,.slice am wn cm,.bool false,.slice ae pes.length ce,.int .i64 t.place]) (by simp [results,Tryz.results31,go_sem,d0,d1,d2,d3,d4,d5,d6,d7]) rfl ⟨.slice am wn cm,.slice ae pes.length ce,rfl,?_,set8_below hal11 (by omega) _ _ _ _ _ _ _ _⟩
   have hq:=(hx11.frame (set8_alk _ _ (w.heap.size+1) (.int .i64 22) (.string ⟨tx.toArray⟩) (.string ⟨#[]⟩) (.bool false) (.slice am wn cm) (.bool false) (.slice ae pes.length ce) (.int .i64 t.place) fun k hk=>by omega)).imp (Q:=fun b=>w.heap.size≤b) fun b hb _=>by omega
   rw [EAt] at hq ⊢
   exact hq
  | num n txt hZ =>
   have HZ:=Lib.hid (hZ w7)
   clear hZ
   go_wp2_with (go_at_call 52;refine HZ.out.mono ?_)
   rintro e w8 ⟨am,wn,cm,rfl,hnum,hb8⟩
   have S8:=S.later hb8
   clear r0 r1 n0 n1 n2 f0 f1 f2 f3 fz
   go_upto_region 26 with (fail)
   have ha9:=below_new w8 (.cells #[.bool false,.slice am wn cm] 37)
   have N9:=heap_alloc_new w8 (.cells #[.bool false,.slice am wn cm] 37)
   have hn9:=XA.frame (P:=fun b=>w7.heap.size≤b) (w:=w8) (w':=w8.alloc (.cells #[.bool false,.slice am wn cm] 37)) (n:=(n:Nat)) (m:=.slice am wn cm) hnum ⟨by simp,fun b _ hb=>Lib.alloc_old _ _ _ hb⟩
   have S9:=S8.later ha9
   clear ha9
   generalize w8.alloc _=w9 at N9 hn9 S9 ⊢
   obtain ⟨_,_,_,f3,_⟩:=cells4 S9.s3
   obtain ⟨b0,b1⟩:=cells2 N9
   obtain ⟨⟨d0,d1,d2,d3⟩,⟨d4,d5,d6,d7⟩,dz⟩:=cells8 S9.s1
   go_wp2
   refine bodyPost_ret (v:=.agg #[.int .i64 1,.string ⟨#[]⟩,.string ⟨#[]⟩,.bool false,.slice am wn cm,.bool false,.slice none 0 0,.int .i64 t.place]) (by simp [results,Tryz.results31,go_sem,d0,d1,d2,d3,d4,d5,d6,d7]) rfl ⟨.slice am wn cm,.slice none 0 0,XA_num _ _ _ _ _,?_,set8_below S9.al (by omega) _ _ _ _ _ _ _ _⟩
   rw [EAt]
   exact ⟨XA.imp (XA.frame hn9 (set8_alk _ _ (w.heap.size+1) (.int .i64 1) (.string ⟨#[]⟩) (.string ⟨#[]⟩) (.bool false) (.slice am wn cm) (.bool false) (.slice none 0 0) (.int .i64 t.place) fun k hk=>by omega)) (fun b hb _=>by omega),[],SlP.nil _ _ _,by rw [EAtL]⟩
  | tru htx =>
   rw [htx] at f2
   clear htx
   obtain ⟨⟨d0,d1,d2,d3⟩,⟨d4,d5,d6,d7⟩,dz⟩:=cells8 S.s1
   go_wp2
   refine bodyPost_ret (v:=.agg #[.int .i64 2,.string ⟨#[]⟩,.string ⟨#[]⟩,.bool false,.slice none 0 0,.bool true,.slice none 0 0,.int .i64 t.place]) (by simp [results,Tryz.results31,go_sem,d0,d1,d2,d3,d4,d5,d6,d7]) rfl ⟨.slice none 0 0,.slice none 0 0,rfl,?_,set8_below S.al (by omega) _ _ _ _ _ _ _ _⟩
   rw [EAt]
   exact ⟨NumAt.zero _ _,[],SlP.nil _ _ _,by rw [EAtL]⟩
  | fls htx =>
   rw [htx] at f2
   clear htx
   obtain ⟨⟨d0,d1,d2,d3⟩,⟨d4,d5,d6,d7⟩,dz⟩:=cells8 S.s1
   go_wp2
   refine bodyPost_ret (v:=.agg #[.int .i64 2,.string ⟨#[]⟩,.string ⟨#[]⟩,.bool false,.slice none 0 0,.bool false,.slice none 0 0,.int .i64 t.place]) (by simp [results,Tryz.results31,go_sem,d0,d1,d2,d3,d4,d5,d6,d7]) rfl ⟨.slice none 0 0,.slice none 0 0,rfl,?_,set8_below S.al (by omega) _ _ _ _ _ _ _ _⟩
   rw [EAt]
   exact ⟨NumAt.zero _ _,[],SlP.nil _ _ _,by rw [EAtL]⟩
  | res =>
   obtain ⟨⟨d0,d1,d2,d3⟩,⟨d4,d5,d6,d7⟩,dz⟩:=cells8 S.s1
   go_wp2
   refine bodyPost_ret (v:=.agg #[.int .i64 4,.string ⟨#[]⟩,.string ⟨#[]⟩,.bool false,.slice none 0 0,.bool false,.slice none 0 0,.int .i64 t.place]) (by simp [results,Tryz.results31,go_sem,d0,d1,d2,d3,d4,d5,d6,d7]) rfl ⟨.slice none 0 0,.slice none 0 0,rfl,?_,set8_below S.al (by omega) _ _ _ _ _ _ _ _⟩
   rw [EAt]
   exact ⟨NumAt.zero _ _,[],SlP.nil _ _ _,by rw [EAtL]⟩
  | nam =>
   obtain ⟨⟨d0,d1,d2,d3⟩,⟨d4,d5,d6,d7⟩,dz⟩:=cells8 S.s1
   go_wp2
   refine bodyPost_ret (v:=.agg #[.int .i64 3,.string ⟨t.text.toArray⟩,.string ⟨#[]⟩,.bool false,.slice none 0 0,.bool false,.slice none 0 0,.int .i64 t.place]) (by simp [results,Tryz.results31,go_sem,d0,d1,d2,d3,d4,d5,d6,d7]) rfl ⟨.slice none 0 0,.slice none 0 0,rfl,?_,set8_below S.al (by omega) _ _ _ _ _ _ _ _⟩
   rw [EAt]
   exact ⟨NumAt.zero _ _,[],SlP.nil _ _ _,by rw [EAtL]⟩
def binV:Array Value:=(binL.map fun x=>Value.string ⟨x.toArray⟩).toArray
def binAt (k:Nat):ByteArray:=⟨(binL.getD k []).toArray⟩
theorem binSigns_any (w:World):Calls Tryz.prog 71 #[] w fun e w'=>e=.returned (.agg binV)∧Below w.heap.size w w':=by
 go_enter Tryz.func71,Tryz.ntmps71
 apply wp_seq_k
 intro K0 hK0
 have HK:=Lib.hid hK0
 clear hK0
 go_wp2
 apply HK.out
 apply wp_seq_k
 intro K1 hK1
 apply wp_region_lit
 refine wpList_buildTo rfl 134 _ rfl (some 1) rfl binV (by kernel_rfl) ?_
 refine wpList_store_rowTo rfl 134 _ _ rfl rfl w.heap.size binV rfl rfl 134 _ (heap_alloc_new _ _) (by kernel_rfl) (by decide) (by kernel_rfl) ?_
 rw [World.setRow_alloc_new]
 apply wpList_nil
 apply hK1
 go_wp2
 refine bodyPost_ret (v:=.agg binV) (results_cell_row rfl _ _ w.heap.size 134 _ (0,0) _ rfl (heap_alloc_new _ _) Tryz.underlying134 rfl (by kernel_rfl)) rfl ⟨rfl,(Below.refl _ _).alloc (Nat.le_refl _) _⟩
theorem bin_index:∀ k:Nat,k<14→∀ w:World,(Instr.index 134 (.agg binV) (.int .i64 k)).run Tryz.prog w=.ok (.string (binAt k)) w
 | 0,_=>fun _=>by kernel_rfl
 | 1,_=>fun _=>by kernel_rfl
 | 2,_=>fun _=>by kernel_rfl
 | 3,_=>fun _=>by kernel_rfl
 | 4,_=>fun _=>by kernel_rfl
 | 5,_=>fun _=>by kernel_rfl
 | 6,_=>fun _=>by kernel_rfl
 | 7,_=>fun _=>by kernel_rfl
 | 8,_=>fun _=>by kernel_rfl
 | 9,_=>fun _=>by kernel_rfl
 | 10,_=>fun _=>by kernel_rfl
 | 11,_=>fun _=>by kernel_rfl
 | 12,_=>fun _=>by kernel_rfl
 | 13,_=>fun _=>by kernel_rfl
 | n+14,h=>absurd h (by omega)
theorem bin_nodup:∀ j,j<14→∀ k,k<14→binL.getD j []=binL.getD k []→j=k:=by decide
theorem binAt_list (k:Nat):(binAt k).toList=binL.getD k []:=by rw [Go.ByteArray.toList_eq];rfl
theorem bin_ne (j k:Nat)(hj:j<14)(hk:k<14)(h:j≠k):((binAt j).toList == (binAt k).toList)=false:=by
 rw [← Bool.not_eq_true,beq_iff_eq,binAt_list,binAt_list]
 exact fun q=>h (bin_nodup j hj k hk q)
theorem bin_same (k:Nat):((binAt k).toList == (binAt k).toList)=true:=by rw [beq_iff_eq]
theorem binL_at {x:List UInt8}(h:x∈binL):binL.idxOf x<14∧(ByteArray.mk x.toArray)=binAt (binL.idxOf x):=by
 have h1:binL.idxOf x<14:=List.idxOf_lt_length_of_mem h
 refine ⟨h1,?_⟩
 unfold binAt
 have h2:binL.getD (binL.idxOf x) []=x:=by
  rw [List.getD_eq_getElem?_getD,List.getElem?_eq_getElem (List.idxOf_lt_length_of_mem h),Option.getD_some,List.getElem_idxOf]
 rw [h2]
theorem set4_cell (w:World)(b:Nat)(v0 v1 v2 v3:Value){k j:Nat}(h:k≠b):((((w.setCell ⟨b,0,none⟩ v0).setCell ⟨b,1,none⟩ v1).setCell ⟨b,2,none⟩ v2).setCell ⟨b,3,none⟩ v3).cell? ⟨k,j,none⟩=w.cell? ⟨k,j,none⟩:=by
 refine World.cell?_of_block (a:=⟨k,j,none⟩) ?_
 show ((((w.setCell ⟨b,0,none⟩ v0).setCell ⟨b,1,none⟩ v1).setCell ⟨b,2,none⟩ v2).setCell ⟨b,3,none⟩ v3).heap[k]?=w.heap[k]?
 rw [heap_setCell_other _ _ _ _ h,heap_setCell_other _ _ _ _ h,heap_setCell_other _ _ _ _ h,heap_setCell_other _ _ _ _ h]
theorem tok0_cells {w:World}{b:Nat}(h:w.heap[b]?=some (.cells #[.int .i64 0,.string ⟨#[]⟩,.string ⟨#[]⟩,.int .i64 0] 83 (0,0))) :
  w.cell? ⟨b,0,none⟩=some (.int .i64 0)∧w.cell? ⟨b,1,none⟩=some (.string ⟨#[]⟩)∧w.cell? ⟨b,2,none⟩=some (.string ⟨#[]⟩)∧w.cell? ⟨b,3,none⟩=some (.int .i64 0)∧∀ j,w.frozen? ⟨b,j,none⟩=false :=
 ⟨by rw [Lib.cell_of_heap h];rfl,by rw [Lib.cell_of_heap h];rfl,by rw [Lib.cell_of_heap h];rfl,by rw [Lib.cell_of_heap h];rfl,by intro j;simp [World.frozen?,h]⟩
theorem rbinary_any (pes:List PE)(B:Nat)(tv nv:Value)(toks:List Tok)(nodes:List Nd)(i:Nat)(ks:List Int)(w:World)(h:TreeAt B w (.agg #[tv,nv]) toks nodes)(hB:B≤w.heap.size)(hn:nodes[i]?=some ⟨10,-1,ks⟩)
  (k1 u1:Nat) (hq1:ks[1]?=some (k1:Int)) (hl1:nodes[k1]?=some ⟨19,(u1:Nat),[]⟩) (tk1:Tok) (hut1:toks[u1]?=some tk1) (htx:tk1.text∈binL)
  (hM:∀ (op at_:Nat) (W:World),TreeAt B W (.agg #[tv,nv]) toks nodes→B≤W.heap.size→Calls Tryz.prog 51 #[.agg #[tv,nv],.int .i64 op,.int .i64 at_,.int .i64 i] W (EPost XA (.mk op [] [] 0 [] false pes at_) W)) :
  Calls Tryz.prog 49 #[.agg #[tv,nv],.int .i64 i] w (EPost XA (.mk (7+binL.idxOf tk1.text) [] [] 0 [] false pes tk1.place) w):=by
 have HM:=Lib.hid hM
 obtain ⟨hm14,hmt⟩:=binL_at htx
 obtain ⟨hu1,hut1'⟩:=List.getElem?_eq_some_iff.1 hut1
 obtain ⟨hp1,hp2⟩:=List.getElem?_eq_some_iff.1 hq1
 have HK:=Lib.hid (fun W hT hW=>rtoken_any B tv nv toks nodes k1 u1 W hT hW hl1 hu1)
 rw [hut1'] at HK
 unfold tokVal strV at HK
 rw [hmt] at HK
 generalize binL.idxOf tk1.text=m at hm14 HK ⊢
 obtain ⟨N,hN⟩:∃ N,7+m=N:=⟨_,rfl⟩
 rw [hN]
 have HN:=Lib.hid hN
 clear hN
 obtain ⟨hi,hni⟩:=List.getElem?_eq_some_iff.1 hn
 have HT:=Lib.hid h
 obtain ⟨a1,c1,_,_,e⟩:=h.slices
 obtain ⟨b,off,cap,kv,rfl,hb,x0,x1,x2,hkv⟩:=h.node hi
 obtain ⟨rfl,-⟩:tv=.slice a1 toks.length c1∧_:=by simpa using e
 rw [hni] at hkv
 simp only at hkv
 obtain ⟨ak,ck,rfl,_,hkf⟩:=hkv.form
 obtain ⟨bk,ok,rfl,hbk,hkc⟩:=hkf (by omega)
 have hz:=hkc 1 hp1
 rw [hp2] at hz
 clear e hkv hkf hkc hn hni x0 x1 hut1 hut1' hq1 hp2 hl1 hM htx hmt
 have hal2:=((Below.refl w.heap.size w).alloc (Nat.le_refl _) (.cells #[.slice a1 toks.length c1,.slice (some ⟨b,off,none⟩) nodes.length cap] 88)).alloc (by simp) (.cells #[.int .i64 0,.string ⟨#[]⟩,.string ⟨#[]⟩,.bool false,.slice none 0 0,.bool false,.slice none 0 0,.int .i64 0] 40)
 have X2:=cell_later hal2 x2
 have Z2:=cell_later hal2 hz
 have g0:=(Lib.alloc_old _ (.cells #[.int .i64 0,.string ⟨#[]⟩,.string ⟨#[]⟩,.bool false,.slice none 0 0,.bool false,.slice none 0 0,.int .i64 0] 40) w.heap.size (by simp)).trans (heap_alloc_new w (.cells #[.slice a1 toks.length c1,.slice (some ⟨b,off,none⟩) nodes.length cap] 88))
 have g1:=heap_alloc_new (w.alloc (.cells #[.slice a1 toks.length c1,.slice (some ⟨b,off,none⟩) nodes.length cap] 88)) (.cells #[.int .i64 0,.string ⟨#[]⟩,.string ⟨#[]⟩,.bool false,.slice none 0 0,.bool false,.slice none 0 0,.int .i64 0] 40)
 rw [World.size_alloc] at g1
 have hiI:(i:Int)<(nodes.length:Int):=by omega
 have hp1I:(1:Int)<(ks.length:Int):=by omega
 have hCT:=HT.out
 clear h x2 hz
 go_enter Tryz.func49,Tryz.ntmps49
 go_upto_region 1 with (fail)
 generalize (w.alloc _).alloc _=w2 at g0 g1 hal2 X2 Z2 ⊢
 have r0:w2.cell? ⟨w.heap.size,0,none⟩=some (.slice a1 toks.length c1):=by rw [Lib.cell_of_heap g0];rfl
 have r1:w2.cell? ⟨w.heap.size,1,none⟩=some (.slice (some ⟨b,off,none⟩) nodes.length cap):=by rw [Lib.cell_of_heap g0];rfl
 have HK':=Lib.hid (fun W (hb:Below w2.heap.size w2 W)=>(HK.out W (hCT.below ((hal2.trans (hb.mono hal2.size)).mono hB)) (by have:=hal2.size;have:=hb.size;omega)).mono (R':=fun e w'=>e=.returned (.agg #[.int .i64 tk1.kind,.string ⟨tk1.lead.toArray⟩,.string (binAt m),.int .i64 tk1.place])∧Below w2.heap.size w2 w'∧Below W.heap.size W w') fun e w' h=>⟨h.1,hb.trans (h.2.mono hb.size),h.2⟩)
 have hlt2:w.heap.size+1<w2.heap.size:=(Array.getElem?_eq_some_iff.1 g1).1
 go_cut [5] (fun p wc=>∃ X:Nat,p=.pointer (some ⟨X,0,none⟩)∧wc.heap[X]?=some (.cells #[.int .i64 tk1.kind,.string ⟨tk1.lead.toArray⟩,.string (binAt m),.int .i64 tk1.place] 83 (0,0))∧wc.heap[w.heap.size]?=some (.cells #[.slice a1 toks.length c1,.slice (some ⟨b,off,none⟩) nodes.length cap] 88 (0,0))∧wc.heap[w.heap.size+1]?=some (.cells #[.int .i64 0,.string ⟨#[]⟩,.string ⟨#[]⟩,.bool false,.slice none 0 0,.bool false,.slice none 0 0,.int .i64 0] 40 (0,0))∧Below w.heap.size w wc)
 case first =>
  go_region_held3 (fun w'=>w'.cell? ⟨w.heap.size,0,none⟩=some (.slice a1 toks.length c1)∧w'.cell? ⟨w.heap.size,1,none⟩=some (.slice (some ⟨b,off,none⟩) nodes.length cap)∧w'.cell? ⟨b,off+i * 3+2,none⟩=some (.slice (some ⟨bk,ok,none⟩) ks.length ck)∧w'.cell? ⟨bk,ok+1,none⟩=some (.int .i64 k1))
   (first|go_keep|exact p3|exact ⟨(set4_cell w3 w2.heap.size _ _ _ _ (by omega)).trans p3.1,(set4_cell w3 w2.heap.size _ _ _ _ (by omega)).trans p3.2.1,(set4_cell w3 w2.heap.size _ _ _ _ (by omega)).trans p3.2.2.1,(set4_cell w3 w2.heap.size _ _ _ _ (by omega)).trans p3.2.2.2⟩)
   (first|(go_at_call 29;refine (HK'.out _ ?_).mono ?_;(first|exact (Below.refl _ _).drew|exact ((Below.refl _ _).alloc (Nat.le_refl _) _).drew);rintro e w3 ⟨rfl,hq3,hb3⟩;have p3:=And.intro (cell_later hq3 r0) (And.intro (cell_later hq3 r1) (And.intro (cell_later hq3 X2) (cell_later hq3 Z2)));try (have hTz:=(hb3.block w2.heap.size (by simp)).trans (heap_alloc_new w2 (.cells #[.int .i64 0,.string ⟨#[]⟩,.string ⟨#[]⟩,.int .i64 0] 83));obtain ⟨tz0,tz1,tz2,tz3,tz4⟩:=tok0_cells hTz)))
  ·have hb3':Below w.heap.size w w3:=hal2.trans (hq3.mono hal2.size)
   have q0:=(hq3.block w.heap.size (by omega)).trans g0
   have q1:=(hq3.block (w.heap.size+1) (by omega)).trans g1
   have hz3:=hq3.size
   clear r0 r1 X2 Z2 p3
   go_wp2_with fail
   go_meet
   exact ⟨w3.heap.size,rfl,heap_alloc_new _ _,(Lib.alloc_old w3 _ w.heap.size (by omega)).trans q0,(Lib.alloc_old w3 _ (w.heap.size+1) (by omega)).trans q1,hb3'.alloc hb3'.size _⟩
  ·have hb3':Below w.heap.size w w3:=hal2.trans (hq3.mono hal2.size)
   have q0:=(hq3.block w.heap.size (by omega)).trans g0
   have q1:=(hq3.block (w.heap.size+1) (by omega)).trans g1
   obtain ⟨S3,So,_⟩:=store4 hTz (.int .i64 tk1.kind) (.string ⟨tk1.lead.toArray⟩) (.string (binAt m)) (.int .i64 tk1.place)
   have hle:w.heap.size≤w2.heap.size:=by omega
   clear r0 r1 X2 Z2 p3 tz0 tz1 tz2 tz3 tz4
   go_wp2_with fail
   go_meet
   exact ⟨w2.heap.size,rfl,S3,(So w.heap.size (by omega)).trans q0,(So (w.heap.size+1) (by omega)).trans q1,(((hb3'.setCell hle _).setCell hle _).setCell hle _).setCell hle _⟩
 case rest =>
  obtain ⟨X,rfl,hX,G0,G1,halw⟩:=hcut
  have hszw:=halw.size
  clear g0 g1 hal2 X2 Z2 r0 r1 HK HK' hlt2
  go_wp2_with (go_at_call 71;refine (binSigns_any _).mono ?_;rintro e w5 ⟨rfl,hb5⟩)
  have hz5:=hb5.size
  have Y:=(hb5.block X (Array.getElem?_eq_some_iff.1 hX).1).trans hX
  have Y0:=(hb5.block w.heap.size (Array.getElem?_eq_some_iff.1 G0).1).trans G0
  have Y1:=(hb5.block (w.heap.size+1) (Array.getElem?_eq_some_iff.1 G1).1).trans G1
  have hal5:=halw.trans (hb5.mono hszw)
  have hlw5:w.heap.size+1<w5.heap.size:=(Array.getElem?_eq_some_iff.1 Y1).1
  have HM':=Lib.hid ((HM.out N tk1.place w5 (hCT.below (hal5.mono hB)) (by omega)).mono fun _ _ h=>h.m)
  clear hX G0 G1 hb5 halw
  have f2:w5.cell? ⟨X,2,none⟩=some (.string (binAt m)):=by rw [Lib.cell_of_heap Y];rfl
  have f3:w5.cell? ⟨X,3,none⟩=some (.int .i64 tk1.place):=by rw [Lib.cell_of_heap Y];rfl
  have r0:w5.cell? ⟨w.heap.size,0,none⟩=some (.slice a1 toks.length c1):=by rw [Lib.cell_of_heap Y0];rfl
  have r1:w5.cell? ⟨w.heap.size,1,none⟩=some (.slice (some ⟨b,off,none⟩) nodes.length cap):=by rw [Lib.cell_of_heap Y0];rfl
  go_loop [20] (fun q=>∃ k:Nat,k≤m∧q=.int .i64 k) (fun q=>14 - (intOf q).toNat)
  case atStart=>exact ⟨0,Nat.zero_le _,rfl⟩
  case round =>
   obtain ⟨k,hk,rfl⟩:=hrel
   have hkI:(k:Int)<14:=by omega
   have hx:=bin_index k (by omega)
   by_cases hkm:k=m
   ·subst hkm
    have he:=bin_same k
    have hop:(7:Int)+(k:Int)=(N:Int):=by have:=HN.out;omega
    go_wp2_with (go_at_call 51;refine HM'.out.mono ?_)
    rintro e w8 ⟨am,wn,cm,ae,ce,rfl,hxe,hb8⟩
    have D1:=(hb8.block (w.heap.size+1) (by omega)).trans Y1
    clear r0 r1 f2 f3 Y Y0 Y1 hop
    have d0:w8.cell? ⟨w.heap.size+1,0,none⟩=some (.int .i64 0):=by rw [Lib.cell_of_heap D1];rfl
    have d1:w8.cell? ⟨w.heap.size+1,1,none⟩=some (.string ⟨#[]⟩):=by rw [Lib.cell_of_heap D1];rfl
    have d2:w8.cell? ⟨w.heap.size+1,2,none⟩=some (.string ⟨#[]⟩):=by rw [Lib.cell_of_heap D1];rfl
    have d3:w8.cell? ⟨w.heap.size+1,3,none⟩=some (.bool false):=by rw [Lib.cell_of_heap D1];rfl
    have d4:w8.cell? ⟨w.heap.size+1,4,none⟩=some (.slice none 0 0):=by rw [Lib.cell_of_heap D1];rfl
    have d5:w8.cell? ⟨w.heap.size+1,5,none⟩=some (.bool false):=by rw [Lib.cell_of_heap D1];rfl
    have d6:w8.cell? ⟨w.heap.size+1,6,none⟩=some (.slice none 0 0):=by rw [Lib.cell_of_heap D1];rfl
    have d7:w8.cell? ⟨w.heap.size+1,7,none⟩=some (.int .i64 0):=by rw [Lib.cell_of_heap D1];rfl
    have dz:∀ j,w8.frozen? ⟨w.heap.size+1,j,none⟩=false:=by intro j;simp [World.frozen?,D1]
    go_wp2
    obtain ⟨hE,hb9⟩:=EPost.store (w0:=w) (b:=w.heap.size+1) hxe hb8 hal5 (by omega) (by omega) (.int .i64 N) (.string ⟨#[]⟩) (.string ⟨#[]⟩) (.bool false) (.slice am wn cm) (.bool false) (.slice ae pes.length ce) (.int .i64 tk1.place)
    refine bodyPost_ret (v:=.agg #[.int .i64 N,.string ⟨#[]⟩,.string ⟨#[]⟩,.bool false,.slice am wn cm,.bool false,.slice ae pes.length ce,.int .i64 tk1.place]) (by simp [results,Tryz.results49,go_sem,d0,d1,d2,d3,d4,d5,d6,d7]) rfl ?_
    exact ⟨_,_,rfl,hE,hb9⟩
   ·have he:=bin_ne k m (by omega) hm14 hkm
    go_wp2
    go_round
    case rel=>exact ⟨k+1,by omega,by go_num⟩
    case measure=>simp [intOf];omega
end Go.Proofs.YtemkhbmkaalgdaaGreatDoor
