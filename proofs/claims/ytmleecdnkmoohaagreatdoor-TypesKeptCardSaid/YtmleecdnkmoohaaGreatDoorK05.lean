/- Walks and plain laws, without a condition. -/
import Derived.Test.YtmleecdnkmoohaaGreatDoorK04
import Derived.Deep.LoopGhost
set_option maxHeartbeats 16000000
set_option maxRecDepth 100000
set_option linter.unusedVariables false
set_option linter.unusedSimpArgs false
namespace Go.Proofs.YtmleecdnkmoohaaGreatDoor
open Go.RowKit
variable{w:World}
theorem Tryz.nQ:(Tryz.prog.info? 3).map (λi=>(i.zero,i.size,i.bytes))=some (some (.int .i64 0),1,8):=by kernel_rfl
theorem M0 (aj:List Nd)(ks:List Int)(k:Int):gX aj (ks++[k])=gX aj ks++if (aj[k.toNat]?.map (·.kind)).getD 19 != 19 then [k] else []:=by
 unfold gX;rw[List.filter_append]
 congr 1
 rw[List.filter_cons,List.filter_nil]
def afJ (ks:List Int)(w:World)(e:Ending)(w':World):Prop:=∃ v,e=.returned v/\oJ (λb=>w.heap.size<=b) w' v 1 ks.length (ks.map (Value.int .i64))/\Below w.heap.size w w'
theorem oJ.ints {P:Nat->Prop}{v:Value}{ks:List Int}(h:oJ P w v 1 ks.length (ks.map (Value.int .i64))):∃ ao cap,v=.slice ao ks.length cap/\ks.length<=cap /\
  (0<ks.length->∃ b off,ao=some ⟨b,off,none⟩/\P b/\b<w.heap.size/\∀ j,(hj:j<ks.length)->w.cell? ⟨b,off+j,none⟩=some (.int .i64 ks[j])):=by
 obtain⟨ao,cap,hv,hn,hl,hc⟩:=h;refine⟨ao,cap,hv,hn,λh0=>?_⟩;obtain⟨b,off,ha,hP,hlt,hcell⟩:=hc h0;exact⟨b,off,ha,hP,hlt,λj hj=>by rw[hcell j (by simpa using hj)];simp⟩
theorem Qv (B:Nat)(tv nv:Value)(ah:List Tok)(aj:List Nd)(i:Nat)(w:World)(h:bJ B w (.agg #[tv,nv]) ah aj)(hB:B<=w.heap.size)(hi:i<aj.length)
  (hk:∀ k∈aj[i].aB,0<=k/\k<(aj.length:Int)) (hl:aj[i].aB.length<=1099511627776) :
  Calls Tryz.prog 218 #[.agg #[tv,nv],.int .i64 i] w (afJ (gX aj aj[i].aB) w):=by
 obtain⟨i0,adP,hz0,hz1,hz2⟩:=info_parts Tryz.nQ;have HT:=ay h;obtain⟨a1,c1,_,_,e⟩:=h.slices;obtain⟨b,off,cap,kv,rfl,hb,_,_,x2,hkv⟩:=h.node hi
 obtain⟨rfl,-⟩:tv=.slice a1 ah.length c1/\_:=by simpa using e
 generalize aj[i].aB=ks at hk hl hkv |-;obtain⟨ak,ck,rfl,_,hf⟩:=hkv.form;have HF:=ay hf;have HK:=ay hk;have hal:=(bQ w.heap.size w).alloc (bD _) (.cells #[.slice a1 ah.length c1,.slice (some ⟨b,off,none⟩) aj.length cap] 154);have x2':=jo hal x2;have hnr:=aX w (.cells #[.slice a1 ah.length c1,.slice (some ⟨b,off,none⟩) aj.length cap] 154)
 have r0:(w.alloc (.cells #[.slice a1 ah.length c1,.slice (some ⟨b,off,none⟩) aj.length cap] 154)).cell? ⟨w.heap.size,1,none⟩=some (.slice (some ⟨b,off,none⟩) aj.length cap):=by rw[aZ hnr];rfl
 have i1:(i:Int)<(aj.length:Int):=by omega
 clear hf hk h e hkv x2;go_enter Tryz.func218,Tryz.ntmps218;go_wp2;generalize w.alloc _=w1 at hnr hal r0 x2' |-;have hsz1:=hal.size
 go_loopw [5,16] (λv k wr=>∃ j:Nat,j<=ks.length/\k=.int .i64 j/\wr.ownsRow w.heap.size 3 1 v (gX aj (ks.take j)).length ((gX aj (ks.take j)).map (Value.int .i64))/\wr.heap[w.heap.size]?=some (.cells #[.slice a1 ah.length c1,.slice (some ⟨b,off,none⟩) aj.length cap] 154 (0,0))/\Below w.heap.size w wr) (λ_ k _=>ks.length - (intOf k).toNat)
 case atStart=>exact⟨0,kJ _,rfl,World.ownsRow_nil _ _ _ _,hnr,hal⟩
 case round =>
  obtain⟨j,hj,rfl,hown,hrr,hbl⟩:=hrel;have hz:=hbl.size;have hlt:=(bP hrr).1
  by_cases hjl:j<ks.length
  ·obtain⟨bk,ok,rfl,hbk,hcell⟩:=HF.out (by omega)
   have hx:=(hbl.cell (p:=⟨bk,ok+j,none⟩) (by show bk<_;omega)).trans (hcell j hjl);have hkj:=HK.out ks[j] (nH hjl);have hsn:=M0 aj (ks.take j) ks[j];rw[<- zF hjl] at hsn
   have Ij:(j:Int)<(ks.length:Int):=by omega
   generalize ks[j]=q at hx hkj hsn
   obtain⟨m,rfl⟩:∃ m:Nat,q=(m:Int):=⟨q.toNat,by omega⟩
   have hm:m<aj.length:=by omega
   obtain⟨b',off',jw,kv',e',_,y0,_,_,_⟩:=HT.out.node hm;simp only[Value.slice.injEq,Option.some.injEq,Addr.mk.injEq,and_true] at e'
   obtain⟨⟨rfl,rfl⟩,rfl⟩:(b=b'/\off=off')/\cap=jw:=by simpa using e'
   have y0':=(hbl.cell (p:=⟨b,off+m * 3,none⟩) (by show b<_;omega)).trans y0
   have hmI:(m:Int)<(aj.length:Int):=by omega
   have r1:wr.cell? ⟨w.heap.size,1,none⟩=some (.slice (some ⟨b,off,none⟩) aj.length cap):=by rw[aZ hrr];rfl
   have hlen:(gX aj (ks.take j)).length<=j:=by
    have:=List.length_filter_le (λk:Int=>(aj[k.toNat]?.map (·.kind)).getD 19 != 19) (ks.take j);rw[pK] at this;show (List.filter _ _).length<=j;omega
   simp only[Int.toNat_natCast,AY hm,Option.map_some,Option.getD_some] at hsn;generalize aj[m].kind=kd at y0' hsn;clear y0 hcell e'
   by_cases hd:kd=19
   ·subst hd
    simp only[bne_self_eq_false,Bool.false_eq_true,if_false,List.append_nil] at hsn;have HS:=ay hsn;clear hsn;go_wp2
    go_roundw
    case rel=>exact⟨j+1,by omega,by go_num,by rw[HS.out];exact hown,hrr,hbl⟩
    case measure=>simp[intOf];omega
   ·have hd1:(kd != 19)=true:=by simp[hd]
    have hd2:(kd == 19)=false:=by simp[hd]
    rw[hd1] at hsn;simp only[if_true] at hsn;have HS:=ay hsn;clear hsn;generalize gX aj (ks.take j)=acc at hown hlen HS;go_wp2_with (at_builtin;refine wpList_append_own _ rfl _ _ 46 rfl w.heap.size 3 i0 (.int .i64 0) 1 8 Tryz.underlying46 adP hz0 hz1 hz2 rfl (by decide) _ _ _ rfl (hown.alloc _) ⟨wr.heap.size,0,none⟩ 1 1 [.int .i64 m] rfl rfl ?c1 ?c2 ?c3 ?c4 ?c5 ?_)
    case c1 =>
     intro j' u hj';have:=vL (cs:=#[.int .i64 (m:Int)]) (t:=3) (fr:=(0,0)) (aX wr _) j' u (by simpa using hj');exact this
    case c2=>simp[Value.oneCell']
    case c3=>unfold maxLen;omega
    case c4=>omega
    case c5=>simp;omega
    intro v' w2 hown2 hgrow2 _;have hb2:Below w.heap.size w w2:=(hbl.alloc hz _).grown hgrow2 (by simp;omega) (λq hq=>by have:=(hown.lt q hq).1;omega);have UZ:=iW (hown.alloc _) hgrow2 ((gZ wr (.cells #[.int .i64 m] 3) _ hlt).trans hrr) (by decide);have H2:=ay hown2;clear hgrow2 hown2 hown;go_wp2
    go_roundw
    case rel=>exact⟨j+1,by omega,by go_num,by rw[HS.out,bY,xZ];exact H2.out,UZ,hb2⟩
    case measure=>simp[intOf];omega
  ·have:j=ks.length:=by omega
   subst this;rw[zG] at hown;have Ij:decide ((ks.length:Int)<(ks.length:Int))=false:=dX (by omega);go_wp2;go_ret;exact⟨_,rfl,oJ.fQ hown (λb hb=>hb),hbl⟩
theorem U6 (E:bG)(hE:E.ok)(g:Nat)(ih:DC E g)(aG:Nat)(st:aK)(r:Int × aK)(w:World)(h:run E.ah E.depth (g+1) (.expr aG) st=some r)(hw:PW E st w)(hn:r.2.aj.length+1<=1099511627776)(adQ:aG<=E.depth+1) :
  Calls Tryz.prog 162 #[.pointer (some ⟨E.pb,0,none⟩),.int .i64 aG] w (eu E r w):=by
 have vQ:=hE.2.2;have HD:=ay (EO E hE aG st w hw)
 have hnd:(bg E.ah E.depth aG st).fE=0->aG<=E.depth:=λq=>by
  unfold bg at q
  split at q
  ·exact(nM (by decide) _ q).elim
  ·omega
 rw[run] at h;generalize bg E.ah E.depth aG st=s at HD h hnd
 by_cases hf:s.fE=0
 ·rw[aU (by simp[hf])] at h
  have X7:=hnd hf;have hok:okB s=true:=jV hf;have HD':Hid (Calls Tryz.prog 211 #[.pointer (some ⟨E.pb,0,none⟩),.int .i64 aG] w (tH E s false w)):=ay (HD.out.mono λe w' ⟨he,hp⟩=>⟨by rw[he,hok];rfl,hp⟩);clear HD hnd hok
  by_cases hcl:s.aC=true
  ·rw[bR hcl] at h
   have HI:=ay (λw' hp=>ih _ _ _ w' h hp hn X7);clear h;go_enter Tryz.func162,Tryz.ntmps162;go_wp2_with (go_at_call 211;refine HD'.out.mono ?_);rintro e w1 ⟨rfl,hp1,hk1⟩;obtain⟨_,_,c2,_,_,_⟩:=hp1.cells;rw[hcl] at c2;clear hcl;go_wp2_with (go_at_call 212;refine(HI.out _ hp1).mono ?_);rintro e w2 ⟨rfl,hp2,hk2⟩;go_wp2;go_ret;exact⟨rfl,hp2,hk1.trans hk2⟩
  ·rw[aU hcl] at h
   have hcl':s.aC=false:=by simpa using hcl
   clear hcl
   have hHI:∀ (t:Task) (st:aK) (r:Int × aK),run E.ah E.depth g t st=some r->r.2.aj.length+1<=1099511627776->yS E t->∀ w,PW E st w->oI E r w t:=λt st r h1 h2 h3 w h4=>ih t st r w h1 h4 h2 h3
   have ex:=bA E.ah E.depth g
   have fin:∀ a b:aK,dR a b->b.aj.length+1<=1099511627776->a.aj.length+1<=1099511627776:=λa b h1 h2=>by have:=h1.2.2.2;omega
   have N1:=ay (λw hp=>wB E hE ⟨#[108,101,116]⟩ s w hp);have N2:=ay (λw hp=>wB E hE ⟨#[105,102]⟩ s w hp);have N3:=ay (λw hp=>wB E hE ⟨#[97,115,115,101,114,116]⟩ s w hp)
   by_cases hl:bF E.ah s [afC]=true
   ·rw[bR hl] at h
    have e1:bF E.ah s [(⟨#[108,101,116]⟩:ByteArray).data.toList]=true:=hl;obtain⟨d,h1,h⟩:=cZ h;obtain⟨f,h2,h⟩:=cZ h
    injection h with h;subst h
    have n6:=fin _ _ (aM _ _ _) hn;have n5:=fin _ _ (ex _ _ _ h2) n6;have n4:=fin _ _ (aN _ _ _) n5;have n3:=fin _ _ (ex _ _ _ h1) n4;have n2:=fin _ _ (aN _ _ _) n3;have n1:=fin _ _ (fF _ _ _) n2;have n0:=fin _ _ (aQ _ _) n1;have C1:=ay (λw hp=>bT E s w hp hE.1 hE.2.1 n0);have C2:=ay (λw hp=>tF E hE 1 (aF E.ah s).2 w hp n1);have C3:=ay (λw hp=>eD E hE ⟨#[61]⟩ (bC E.ah 1 (aF E.ah s).2).2 w hp n2);have C4:=ay (hHI _ _ _ h1 n4 (by show aG+1<=_;omega));have C5:=ay (λw hp=>eD E hE ⟨#[105,110]⟩ d.2 w hp n4);have C6:=ay (hHI _ _ _ h2 n6 (by show aG+1<=_;omega));have C7:=ay (λw hp=>jf E 7 [(aF E.ah s).1,(bC E.ah 1 (aF E.ah s).2).1,(aJ E.ah [[61]] (bC E.ah 1 (aF E.ah s).2).2).1,d.1,(aJ E.ah [Xe] d.2).1,f.1] 6 _ f.2 w hp rfl rfl (by omega) n6);have E1:=ay e1;clear h1 h2 hl e1 n0 n1 n2 n3 n4 n5 n6 hHI ex fin ih hn;go_enter Tryz.func162,Tryz.ntmps162;go_wp2_with (go_at_call 211;refine HD'.out.mono ?_);rintro e w1 ⟨rfl,hp1,hk1⟩;obtain⟨_,_,c2,_,_,_⟩:=hp1.cells;rw[hcl'] at c2;go_wp2_with (go_at_call 155;refine(N1.out w1 hp1).mono ?_);rintro e w2 ⟨rfl,hp2,hk2⟩;rw[E1.out];obtain⟨d0,_,_,_,_,_⟩:=hp2.cells;clear c2;go_wp2_with (go_at_call 157;refine(C1.out w2 hp2).mono ?_);rintro e w3 ⟨rfl,hp3,eP⟩;go_wp2_with (go_at_call 110;refine(C2.out w3 hp3).mono ?_);rintro e w4 ⟨rfl,qO,hk4⟩;go_wp2_with (go_at_call 158;refine(C3.out w4 qO).mono ?_);rintro e w5 ⟨rfl,tJ,iN⟩;go_wp2_with (go_at_call 162;refine(C4.out w5 tJ).mono ?_);rintro e w6 ⟨rfl,EU,mR⟩;go_wp2_with (go_at_call 158;refine(C5.out w6 EU).mono ?_);rintro e w7 ⟨rfl,Ik,tK⟩;go_wp2_with (go_at_call 162;refine(C6.out w7 Ik).mono ?_);rintro e w8 ⟨rfl,Mc,DI⟩;go_wp2_with (go_at_call 109;refine(C7.out w8 Mc).mono ?_);rintro e w9 ⟨rfl,hp9,X8⟩;go_wp2;go_ret;exact⟨rfl,hp9,((((((hk1.trans hk2).trans eP).trans hk4).trans iN).trans mR).trans tK).trans (DI.trans X8)⟩
   ·rw[aU hl] at h
    have e1:bF E.ah s [(⟨#[108,101,116]⟩:ByteArray).data.toList]=false:=eq_false_of_ne_true hl;clear hl
    by_cases hi:bF E.ah s [tIf]=true
    ·rw[bR hi] at h
     have e2:bF E.ah s [(⟨#[105,102]⟩:ByteArray).data.toList]=true:=hi;obtain⟨b,h0,h⟩:=cZ h;obtain⟨d,h1,h⟩:=cZ h;obtain⟨f,h2,h⟩:=cZ h
     injection h with h;subst h
     have n6:=fin _ _ (aM _ _ _) hn;have n5:=fin _ _ (ex _ _ _ h2) n6;have n4:=fin _ _ (aN _ _ _) n5;have n3:=fin _ _ (ex _ _ _ h1) n4;have n2:=fin _ _ (aN _ _ _) n3;have n1:=fin _ _ (ex _ _ _ h0) n2;have n0:=fin _ _ (aQ _ _) n1;have C1:=ay (λw hp=>bT E s w hp hE.1 hE.2.1 n0);have C2:=ay (hHI _ _ _ h0 n2 (by show aG+1<=_;omega));have C3:=ay (λw hp=>eD E hE ⟨#[116,104,101,110]⟩ b.2 w hp n2);have C4:=ay (hHI _ _ _ h1 n4 (by show aG+1<=_;omega));have C5:=ay (λw hp=>eD E hE ⟨#[101,108,115,101]⟩ d.2 w hp n4);have C6:=ay (hHI _ _ _ h2 n6 (by show aG+1<=_;omega));have C7:=ay (λw hp=>jf E 8 [(aF E.ah s).1,b.1,(aJ E.ah [I7] b.2).1,d.1,(aJ E.ah [I8] d.2).1,f.1] 6 _ f.2 w hp rfl rfl (by omega) n6);have E1:=ay e1;have E2:=ay e2;clear h0 h1 h2 hi e1 e2 n0 n1 n2 n3 n4 n5 n6 hHI ex fin ih hn;go_enter Tryz.func162,Tryz.ntmps162;go_wp2_with (go_at_call 211;refine HD'.out.mono ?_);rintro e w1 ⟨rfl,hp1,hk1⟩;obtain⟨_,_,c2,_,_,_⟩:=hp1.cells;rw[hcl'] at c2;go_wp2_with (go_at_call 155;refine(N1.out w1 hp1).mono ?_);rintro e w2 ⟨rfl,hp2,hk2⟩;rw[E1.out];obtain⟨_,_,d2,_,_,_⟩:=hp2.cells;rw[hcl'] at d2;clear c2;go_wp2_with (go_at_call 155;refine(N2.out w2 hp2).mono ?_);rintro e w3 ⟨rfl,hp3,eP⟩;rw[E2.out];obtain⟨d0,_,_,_,_,_⟩:=hp3.cells;clear d2;go_wp2_with (go_at_call 157;refine(C1.out w3 hp3).mono ?_);rintro e w4 ⟨rfl,qO,hk4⟩;go_wp2_with (go_at_call 162;refine(C2.out w4 qO).mono ?_);rintro e w5 ⟨rfl,tJ,iN⟩;go_wp2_with (go_at_call 158;refine(C3.out w5 tJ).mono ?_);rintro e w6 ⟨rfl,EU,mR⟩;go_wp2_with (go_at_call 162;refine(C4.out w6 EU).mono ?_);rintro e w7 ⟨rfl,Ik,tK⟩;go_wp2_with (go_at_call 158;refine(C5.out w7 Ik).mono ?_);rintro e w8 ⟨rfl,Mc,DI⟩;go_wp2_with (go_at_call 162;refine(C6.out w8 Mc).mono ?_);rintro e w9 ⟨rfl,hp9,X8⟩;go_wp2_with (go_at_call 109;refine(C7.out w9 hp9).mono ?_);rintro e mU ⟨rfl,acg,hk10⟩;go_wp2;go_ret
     exact⟨rfl,acg,((((((((hk1.trans hk2).trans eP).trans hk4).trans iN).trans mR).trans tK).trans DI).trans X8).trans hk10⟩
    ·rw[aU hi] at h
     have e2:bF E.ah s [(⟨#[105,102]⟩:ByteArray).data.toList]=false:=eq_false_of_ne_true hi;clear hi
     by_cases ha:bF E.ah s [Tf]=true
     ·rw[bR ha] at h
      have e3:bF E.ah s [(⟨#[97,115,115,101,114,116]⟩:ByteArray).data.toList]=true:=ha;obtain⟨b,h0,h⟩:=cZ h;obtain⟨d,h1,h⟩:=cZ h
      injection h with h;subst h
      have n4:=fin _ _ (aM _ _ _) hn;have n3:=fin _ _ (ex _ _ _ h1) n4;have n2:=fin _ _ (aN _ _ _) n3;have n1:=fin _ _ (ex _ _ _ h0) n2;have n0:=fin _ _ (aQ _ _) n1;have C1:=ay (λw hp=>bT E s w hp hE.1 hE.2.1 n0);have C2:=ay (hHI _ _ _ h0 n2 (by show aG+1<=_;omega));have C3:=ay (λw hp=>eD E hE ⟨#[105,110]⟩ b.2 w hp n2);have C4:=ay (hHI _ _ _ h1 n4 (by show aG+1<=_;omega));have C5:=ay (λw hp=>jf E 9 [(aF E.ah s).1,b.1,(aJ E.ah [Xe] b.2).1,d.1] 4 _ d.2 w hp rfl rfl (by omega) n4);have E1:=ay e1;have E2:=ay e2;have E3:=ay e3;clear h0 h1 ha e1 e2 e3 n0 n1 n2 n3 n4 hHI ex fin ih hn;go_enter Tryz.func162,Tryz.ntmps162;go_wp2_with (go_at_call 211;refine HD'.out.mono ?_);rintro e w1 ⟨rfl,hp1,hk1⟩;obtain⟨_,_,c2,_,_,_⟩:=hp1.cells;rw[hcl'] at c2;go_wp2_with (go_at_call 155;refine(N1.out w1 hp1).mono ?_);rintro e w2 ⟨rfl,hp2,hk2⟩;rw[E1.out];go_wp2_with (go_at_call 155;refine(N2.out w2 hp2).mono ?_);rintro e w3 ⟨rfl,hp3,eP⟩;rw[E2.out];go_wp2_with (go_at_call 155;refine(N3.out w3 hp3).mono ?_);rintro e w4 ⟨rfl,qO,hk4⟩;rw[E3.out];obtain⟨d0,_,_,_,_,_⟩:=qO.cells;clear c2;go_wp2_with (go_at_call 157;refine(C1.out w4 qO).mono ?_);rintro e w5 ⟨rfl,tJ,iN⟩;go_wp2_with (go_at_call 162;refine(C2.out w5 tJ).mono ?_);rintro e w6 ⟨rfl,EU,mR⟩;go_wp2_with (go_at_call 158;refine(C3.out w6 EU).mono ?_);rintro e w7 ⟨rfl,Ik,tK⟩;go_wp2_with (go_at_call 162;refine(C4.out w7 Ik).mono ?_);rintro e w8 ⟨rfl,Mc,DI⟩;go_wp2_with (go_at_call 109;refine(C5.out w8 Mc).mono ?_);rintro e w9 ⟨rfl,hp9,X8⟩;go_wp2;go_ret;exact⟨rfl,hp9,(((((((hk1.trans hk2).trans eP).trans hk4).trans iN).trans mR).trans tK).trans DI).trans X8⟩
     ·rw[aU ha] at h
      have e3:bF E.ah s [(⟨#[97,115,115,101,114,116]⟩:ByteArray).data.toList]=false:=eq_false_of_ne_true ha;have HI:=ay (hHI _ _ _ h hn X7);have E1:=ay e1;have E2:=ay e2;have E3:=ay e3;clear h ha e1 e2 e3 hHI ex fin ih hn;go_enter Tryz.func162,Tryz.ntmps162;go_wp2_with (go_at_call 211;refine HD'.out.mono ?_);rintro e w1 ⟨rfl,hp1,hk1⟩;obtain⟨_,_,c2,_,_,_⟩:=hp1.cells;rw[hcl'] at c2;go_wp2_with (go_at_call 155;refine(N1.out w1 hp1).mono ?_);rintro e w2 ⟨rfl,hp2,hk2⟩;rw[E1.out];go_wp2_with (go_at_call 155;refine(N2.out w2 hp2).mono ?_);rintro e w3 ⟨rfl,hp3,eP⟩;rw[E2.out];go_wp2_with (go_at_call 155;refine(N3.out w3 hp3).mono ?_);rintro e w4 ⟨rfl,qO,hk4⟩;rw[E3.out];go_wp2_with (go_at_call 212;refine(HI.out w4 qO).mono ?_);rintro e w5 ⟨rfl,tJ,iN⟩;go_wp2;go_ret;exact⟨rfl,tJ,(((hk1.trans hk2).trans eP).trans hk4).trans iN⟩
 ·rw[bR hf] at h
  injection h with h
  subst h;have hok:okB s=false:=dX hf;have HD':Hid (Calls Tryz.prog 211 #[.pointer (some ⟨E.pb,0,none⟩),.int .i64 aG] w (tH E s true w)):=ay (HD.out.mono λe w' ⟨he,hp⟩=>⟨by rw[he,hok];rfl,hp⟩);clear HD hnd hok hf;go_enter Tryz.func162,Tryz.ntmps162;go_wp2_with (go_at_call 211;refine HD'.out.mono ?_);rintro e w1 ⟨rfl,hp1,hk1⟩;go_wp2;go_ret;exact⟨rfl,hp1,hk1⟩
theorem kr (E:bG)(st:aK)(hf:st.fE=0)(w:World)(h:PW E st w):Calls Tryz.prog 104 #[.pointer (some ⟨E.pb,0,none⟩)] w (tH E st true w) :=
 (uM E st w h).mono λe w' ⟨he,hw⟩=>by subst hw;exact⟨by rw[he,show okB st=true from jV hf],h,Kp.refl _ _⟩
theorem vF (E:bG)(st:aK)(hf:st.fE≠0)(w:World)(h:PW E st w):Calls Tryz.prog 104 #[.pointer (some ⟨E.pb,0,none⟩)] w (tH E st false w) :=
 (uM E st w h).mono λe w' ⟨he,hw⟩=>by subst hw;exact⟨by rw[he,show okB st=false from dX hf],h,Kp.refl _ _⟩
theorem KN (E:bG)(hE:E.ok)(aG:Nat)(st:aK)(hf:(bg E.ah E.depth aG st).fE=0)(w:World)(h:PW E st w) :
  Calls Tryz.prog 211 #[.pointer (some ⟨E.pb,0,none⟩),.int .i64 aG] w (tH E (bg E.ah E.depth aG st) false w) :=
 (EO E hE aG st w h).mono λe w' ⟨he,hp⟩=>⟨by rw[he,show okB _=true from jV hf];rfl,hp⟩
theorem EW (E:bG)(hE:E.ok)(aG:Nat)(st:aK)(hf:(bg E.ah E.depth aG st).fE≠0)(w:World)(h:PW E st w) :
  Calls Tryz.prog 211 #[.pointer (some ⟨E.pb,0,none⟩),.int .i64 aG] w (tH E (bg E.ah E.depth aG st) true w) :=
 (EO E hE aG st w h).mono λe w' ⟨he,hp⟩=>⟨by rw[he,show okB _=false from dX hf];rfl,hp⟩
theorem Bn (E:bG)(aG:Nat)(st:aK)(hf:(bg E.ah E.depth aG st).fE=0):aG<=E.depth:=by
 unfold bg at hf
 split at hf
 ·exact(nM (by decide) _ hf).elim
 ·omega
theorem aL {a b:aK}(h1:dR a b)(h2:b.aj.length+1<=1099511627776):a.aj.length+1<=1099511627776:=by have:=h1.2.2.2;omega
theorem dY (E:bG)(hE:E.ok)(b:ByteArray)(st:aK)(x:Bool)(hx:bF E.ah st [b.data.toList]=x)(w:World)(h:PW E st w) :
  Calls Tryz.prog 155 #[.pointer (some ⟨E.pb,0,none⟩),.slice (some ⟨w.heap.size,0,none⟩) 1 1] (w.alloc (.cells #[.string b] 9)) (tH E st x w):=by
 subst hx;exact wB E hE b st w h
theorem KO (E:bG)(hE:E.ok)(g:Nat)(ih:DC E g)(aG:Nat)(st:aK)(r:Int × aK)(w:World)(h:run E.ah E.depth (g+1) (.formula aG) st=some r)(hp:PW E st w)(hn:r.2.aj.length+1<=1099511627776)(dJ:aG<=E.depth) :
  Calls Tryz.prog 212 #[.pointer (some ⟨E.pb,0,none⟩),.int .i64 aG] w (eu E r w):=by
 have vQ:=hE.2.2
 have hHI:∀ (t:Task) (st:aK) (r:Int × aK),run E.ah E.depth g t st=some r->r.2.aj.length+1<=1099511627776->yS E t->∀ w,PW E st w->oI E r w t:=λt st r h1 h2 h3 w h4=>ih t st r w h1 h4 h2 h3
 have ex:=bA E.ah E.depth g;rw[run] at h;obtain⟨a,h0,h⟩:=cZ h
 by_cases hf:a.2.fE=0
 ·by_cases hx:bF E.ah a.2 [[61,62]]=true
  ·rw[bR ⟨hf,hx⟩] at h
   by_cases hd:(bg E.ah E.depth (aG+1) (aF E.ah a.2).2).fE=0
   ·rw[aU (by simp[hd])] at h
    obtain⟨b,h1,h⟩:=cZ h
    injection h with h;subst h
    have n4:=aL (aM _ _ _) hn;have n3:=aL (ex _ _ _ h1) n4;have n2:=aL (fT _ _ _ _) n3;have n1:=aL (aQ _ _) n2;have HR:=ay (hHI _ _ _ h0 n1 ⟨by decide,dJ⟩);have HO:=ay (kr E a.2 hf);have HX:=ay (dY E hE ⟨#[61,62]⟩ a.2 true hx);have HL:=ay (λw hp=>bT E a.2 w hp hE.1 hE.2.1 n1);have HD:=ay (KN E hE (aG+1) _ hd);have HF:=ay (hHI _ _ _ h1 n4 (Bn E _ _ hd));have HN:=ay (λw hp=>jf E 10 [a.1,(aF E.ah a.2).1,b.1] 3 _ b.2 w hp rfl rfl (by omega) n4);clear h0 h1 hf hx hd n1 n2 n3 n4 hHI ex ih hn;go_enter Tryz.func212,Tryz.ntmps212;go_wp2_with (go_at_call 265;refine(HR.out w hp).mono ?_);rintro e w1 ⟨rfl,hp1,hk1⟩;go_wp2_with (go_at_call 104;refine(HO.out w1 hp1).mono ?_);rintro e w2 ⟨rfl,hp2,hk2⟩;go_wp2_with (go_at_call 155;refine(HX.out w2 hp2).mono ?_);rintro e w3 ⟨rfl,hp3,eP⟩;obtain⟨d0,_,_,_,_,_⟩:=hp3.cells;go_wp2_with (go_at_call 157;refine(HL.out w3 hp3).mono ?_);rintro e w4 ⟨rfl,qO,hk4⟩;clear d0;go_wp2_with (go_at_call 211;refine(HD.out w4 qO).mono ?_);rintro e w5 ⟨rfl,tJ,iN⟩;go_wp2_with (go_at_call 212;refine(HF.out w5 tJ).mono ?_);rintro e w6 ⟨rfl,EU,mR⟩;go_wp2_with (go_at_call 109;refine(HN.out w6 EU).mono ?_);rintro e w7 ⟨rfl,Ik,tK⟩;go_wp2;go_ret;exact⟨rfl,Ik,(((((hk1.trans hk2).trans eP).trans hk4).trans iN).trans mR).trans tK⟩
   ·rw[bR hd] at h
    injection h with h;subst h
    have n2:=aL (fT _ _ _ _) hn;have n1:=aL (aQ _ _) n2;have HR:=ay (hHI _ _ _ h0 n1 ⟨by decide,dJ⟩);have HO:=ay (kr E a.2 hf);have HX:=ay (dY E hE ⟨#[61,62]⟩ a.2 true hx);have HL:=ay (λw hp=>bT E a.2 w hp hE.1 hE.2.1 n1);have HD:=ay (EW E hE (aG+1) _ hd);clear h0 hf hx hd n1 n2 hHI ex ih hn;go_enter Tryz.func212,Tryz.ntmps212;go_wp2_with (go_at_call 265;refine(HR.out w hp).mono ?_);rintro e w1 ⟨rfl,hp1,hk1⟩;go_wp2_with (go_at_call 104;refine(HO.out w1 hp1).mono ?_);rintro e w2 ⟨rfl,hp2,hk2⟩;go_wp2_with (go_at_call 155;refine(HX.out w2 hp2).mono ?_);rintro e w3 ⟨rfl,hp3,eP⟩;obtain⟨d0,_,_,_,_,_⟩:=hp3.cells;go_wp2_with (go_at_call 157;refine(HL.out w3 hp3).mono ?_);rintro e w4 ⟨rfl,qO,hk4⟩;clear d0;go_wp2_with (go_at_call 211;refine(HD.out w4 qO).mono ?_);rintro e w5 ⟨rfl,tJ,iN⟩;go_wp2;go_ret;exact⟨rfl,tJ,(((hk1.trans hk2).trans eP).trans hk4).trans iN⟩
  ·rw[aU (λq=>hx q.2)] at h
   injection h with h;subst h
   have HR:=ay (hHI _ _ _ h0 hn ⟨by decide,dJ⟩);have HO:=ay (kr E a.2 hf);have HX:=ay (dY E hE ⟨#[61,62]⟩ a.2 false (eq_false_of_ne_true hx));clear h0 hf hx hHI ex ih hn;go_enter Tryz.func212,Tryz.ntmps212;go_wp2_with (go_at_call 265;refine(HR.out w hp).mono ?_);rintro e w1 ⟨rfl,hp1,hk1⟩;go_wp2_with (go_at_call 104;refine(HO.out w1 hp1).mono ?_);rintro e w2 ⟨rfl,hp2,hk2⟩;go_wp2_with (go_at_call 155;refine(HX.out w2 hp2).mono ?_);rintro e w3 ⟨rfl,hp3,eP⟩;go_wp2;go_ret;exact⟨rfl,hp3,(hk1.trans hk2).trans eP⟩
 ·rw[aU (λq=>hf q.1)] at h
  injection h with h;subst h
  have HR:=ay (hHI _ _ _ h0 hn ⟨by decide,dJ⟩);have HO:=ay (vF E a.2 hf);clear h0 hf hHI ex ih hn;go_enter Tryz.func212,Tryz.ntmps212;go_wp2_with (go_at_call 265;refine(HR.out w hp).mono ?_);rintro e w1 ⟨rfl,hp1,hk1⟩;go_wp2_with (go_at_call 104;refine(HO.out w1 hp1).mono ?_);rintro e w2 ⟨rfl,hp2,hk2⟩;go_wp2;go_ret;exact⟨rfl,hp2,hk1.trans hk2⟩
theorem U7 (E:bG)(g:Nat)(ih:DC E g)(l aG:Nat)(st:aK)(r:Int × aK)(w:World)(h:run E.ah E.depth (g+1) (.part l aG) st=some r)(hp:PW E st w)(hn:r.2.aj.length+1<=1099511627776)(dJ:l<=4/\aG<=E.depth) :
  Calls Tryz.prog 293 #[.pointer (some ⟨E.pb,0,none⟩),.int .i64 l,.int .i64 aG] w (eu E r w):=by
 have hHI:∀ (t:Task) (st:aK) (r:Int × aK),run E.ah E.depth g t st=some r->r.2.aj.length+1<=1099511627776->yS E t->∀ w,PW E st w->oI E r w t:=λt st r h1 h2 h3 w h4=>ih t st r w h1 h4 h2 h3
 rw[run] at h;obtain⟨hl,dJ⟩:=dJ
 by_cases h1:l=1
 ·rw[bR h1] at h
  subst h1;have HR:=ay (hHI _ _ _ h hn dJ);clear h hHI ih hn;go_enter Tryz.func293,Tryz.ntmps293;go_wp2_with (go_at_call 303;refine(HR.out w hp).mono ?_);rintro e w1 ⟨rfl,hp1,hk1⟩;go_wp2;go_ret;exact⟨rfl,hp1,hk1⟩
 ·rw[aU h1] at h
  by_cases h4:l=4
  ·rw[bR h4] at h
   subst h4;have HR:=ay (hHI _ _ _ h hn dJ);clear h hHI ih hn h1;go_enter Tryz.func293,Tryz.ntmps293;go_wp2_with (go_at_call 304;refine(HR.out w hp).mono ?_);rintro e w1 ⟨rfl,hp1,hk1⟩;go_wp2;go_ret;exact⟨rfl,hp1,hk1⟩
  ·rw[aU h4] at h
   have HR:=ay (hHI _ _ _ h hn ⟨by omega,dJ⟩);clear h hHI ih hn
   have ahw:l=0\/l=2\/l=3:=by omega
   rcases ahw with rfl|rfl|rfl
   ·clear h1 h4 hl
    go_enter Tryz.func293,Tryz.ntmps293;go_wp2_with (go_at_call 265;refine(HR.out w hp).mono ?_);rintro e w1 ⟨rfl,hp1,hk1⟩;go_wp2;go_ret;exact⟨rfl,hp1,hk1⟩
   ·clear h1 h4 hl
    go_enter Tryz.func293,Tryz.ntmps293;go_wp2_with (go_at_call 265;refine(HR.out w hp).mono ?_);rintro e w1 ⟨rfl,hp1,hk1⟩;go_wp2;go_ret;exact⟨rfl,hp1,hk1⟩
   ·clear h1 h4 hl
    go_enter Tryz.func293,Tryz.ntmps293;go_wp2_with (go_at_call 265;refine(HR.out w hp).mono ?_);rintro e w1 ⟨rfl,hp1,hk1⟩;go_wp2;go_ret;exact⟨rfl,hp1,hk1⟩
theorem U8 (E:bG)(hE:E.ok)(aG:Nat)(st:aK)(b:Int × aK)(w:World)(hp:PW E st w)(n1:st.aj.length+1<=1099511627776)(n4:b.2.aj.length+1<=1099511627776)(dJ:aG<=E.depth)
  (hd:(bg E.ah E.depth (aG+1) (aF E.ah st).2).fE=0)
  (hb:∀ w,PW E (bg E.ah E.depth (aG+1) (aF E.ah st).2) w->Calls Tryz.prog 303 #[.pointer (some ⟨E.pb,0,none⟩),.int .i64 ((aG+1:Nat):Int)] w (eu E b w)) :
  Calls Tryz.prog 310 #[.pointer (some ⟨E.pb,0,none⟩),.int .i64 aG,.func (.func 303) #[.pointer (some ⟨E.pb,0,none⟩)] #[]] w (eu E (bL 11 [(aF E.ah st).1,b.1] b.2) w):=by
 have vQ:=hE.2.2;have HL:=ay (λw hp=>bT E st w hp hE.1 hE.2.1 n1);have HD:=ay (KN E hE (aG+1) _ hd);have HF:=ay hb;have HN:=ay (λw hp=>jf E 11 [(aF E.ah st).1,b.1] 2 _ b.2 w hp rfl rfl (by omega) n4);clear hd hb n1 n4;go_enter Tryz.func310,Tryz.ntmps310;obtain⟨d0,_,_,_,_,_⟩:=hp.cells;go_wp2_with (go_at_call 157;refine(HL.out w hp).mono ?_);rintro e w1 ⟨rfl,hp1,hk1⟩;clear d0;go_wp2_with (go_at_call 211;refine(HD.out w1 hp1).mono ?_);rintro e w2 ⟨rfl,hp2,hk2⟩;go_wp2_with (go_at_call 303;refine(HF.out w2 hp2).mono ?_);rintro e w3 ⟨rfl,hp3,eP⟩;go_wp2_with (go_at_call 109;refine(HN.out w3 hp3).mono ?_);rintro e w4 ⟨rfl,qO,hk4⟩;go_wp2;go_ret;exact⟨rfl,qO,((hk1.trans hk2).trans eP).trans hk4⟩
theorem Qw (E:bG)(hE:E.ok)(aG:Nat)(st:aK)(w:World)(hp:PW E st w)(n1:st.aj.length+1<=1099511627776)(dJ:aG<=E.depth)
  (hd:(bg E.ah E.depth (aG+1) (aF E.ah st).2).fE≠0) :
  Calls Tryz.prog 310 #[.pointer (some ⟨E.pb,0,none⟩),.int .i64 aG,.func (.func 303) #[.pointer (some ⟨E.pb,0,none⟩)] #[]] w (eu E (0,bg E.ah E.depth (aG+1) (aF E.ah st).2) w):=by
 have vQ:=hE.2.2;have HL:=ay (λw hp=>bT E st w hp hE.1 hE.2.1 n1);have HD:=ay (EW E hE (aG+1) _ hd);clear hd n1;go_enter Tryz.func310,Tryz.ntmps310;obtain⟨d0,_,_,_,_,_⟩:=hp.cells;go_wp2_with (go_at_call 157;refine(HL.out w hp).mono ?_);rintro e w1 ⟨rfl,hp1,hk1⟩;clear d0;go_wp2_with (go_at_call 211;refine(HD.out w1 hp1).mono ?_);rintro e w2 ⟨rfl,hp2,hk2⟩;go_wp2;go_ret;exact⟨rfl,hp2,hk1.trans hk2⟩
theorem X9 (E:bG)(hE:E.ok)(g:Nat)(ih:DC E g)(aG:Nat)(st:aK)(r:Int × aK)(w:World)(h:run E.ah E.depth (g+1) (.neg aG) st=some r)(hp:PW E st w)(hn:r.2.aj.length+1<=1099511627776)(dJ:aG<=E.depth) :
  Calls Tryz.prog 303 #[.pointer (some ⟨E.pb,0,none⟩),.int .i64 aG] w (eu E r w):=by
 have vQ:=hE.2.2
 have hHI:∀ (t:Task) (st:aK) (r:Int × aK),run E.ah E.depth g t st=some r->r.2.aj.length+1<=1099511627776->yS E t->∀ w,PW E st w->oI E r w t:=λt st r h1 h2 h3 w h4=>ih t st r w h1 h4 h2 h3
 have ex:=bA E.ah E.depth g;rw[run] at h
 by_cases hf:st.fE=0
 ·by_cases hx:bF E.ah st [ab3]=true
  ·rw[bR ⟨hf,hx⟩] at h
   by_cases hd:(bg E.ah E.depth (aG+1) (aF E.ah st).2).fE=0
   ·rw[aU (by simp[hd])] at h
    obtain⟨b,h1,h⟩:=cZ h
    injection h with h;subst h
    have n4:=aL (aM _ _ _) hn;have n3:=aL (ex _ _ _ h1) n4;have n2:=aL (fT _ _ _ _) n3;have n1:=aL (aQ _ _) n2;have HO:=ay (kr E st hf);have HX:=ay (dY E hE ⟨#[110,111,116]⟩ st true hx);have HU:=ay (λw hp=>U8 E hE aG st b w hp n1 n4 dJ hd (hHI _ _ _ h1 n4 (Bn E _ _ hd)));clear h1 hf hx hd n1 n2 n3 n4 hHI ex ih hn;go_enter Tryz.func303,Tryz.ntmps303;go_wp2_with (go_at_call 104;refine(HO.out w hp).mono ?_);rintro e w1 ⟨rfl,hp1,hk1⟩;go_wp2_with (go_at_call 155;refine(HX.out w1 hp1).mono ?_);rintro e w2 ⟨rfl,hp2,hk2⟩;go_wp2_with (go_at_call 310;refine(HU.out w2 hp2).mono ?_);rintro e w3 ⟨rfl,hp3,eP⟩;go_wp2;go_ret;exact⟨rfl,hp3,(hk1.trans hk2).trans eP⟩
   ·rw[bR hd] at h
    injection h with h;subst h
    have n2:=aL (fT _ _ _ _) hn;have n1:=aL (aQ _ _) n2;have HO:=ay (kr E st hf);have HX:=ay (dY E hE ⟨#[110,111,116]⟩ st true hx);have HU:=ay (λw hp=>Qw E hE aG st w hp n1 dJ hd);clear hf hx hd n1 n2 hHI ex ih hn;go_enter Tryz.func303,Tryz.ntmps303;go_wp2_with (go_at_call 104;refine(HO.out w hp).mono ?_);rintro e w1 ⟨rfl,hp1,hk1⟩;go_wp2_with (go_at_call 155;refine(HX.out w1 hp1).mono ?_);rintro e w2 ⟨rfl,hp2,hk2⟩;go_wp2_with (go_at_call 310;refine(HU.out w2 hp2).mono ?_);rintro e w3 ⟨rfl,hp3,eP⟩;go_wp2;go_ret;exact⟨rfl,hp3,(hk1.trans hk2).trans eP⟩
  ·rw[aU (λq=>hx q.2)] at h
   have HO:=ay (kr E st hf);have HX:=ay (dY E hE ⟨#[110,111,116]⟩ st false (eq_false_of_ne_true hx));have HR:=ay (hHI _ _ _ h hn ⟨by decide,dJ⟩);clear h hf hx hHI ex ih hn;go_enter Tryz.func303,Tryz.ntmps303;go_wp2_with (go_at_call 104;refine(HO.out w hp).mono ?_);rintro e w1 ⟨rfl,hp1,hk1⟩;go_wp2_with (go_at_call 155;refine(HX.out w1 hp1).mono ?_);rintro e w2 ⟨rfl,hp2,hk2⟩;go_wp2_with (go_at_call 265;refine(HR.out w2 hp2).mono ?_);rintro e w3 ⟨rfl,hp3,eP⟩;go_wp2;go_ret;exact⟨rfl,hp3,(hk1.trans hk2).trans eP⟩
 ·rw[aU (λq=>hf q.1)] at h
  have HO:=ay (vF E st hf);have HR:=ay (hHI _ _ _ h hn ⟨by decide,dJ⟩);clear h hf hHI ex ih hn;go_enter Tryz.func303,Tryz.ntmps303;go_wp2_with (go_at_call 104;refine(HO.out w hp).mono ?_);rintro e w1 ⟨rfl,hp1,hk1⟩;go_wp2_with (go_at_call 265;refine(HR.out w1 hp1).mono ?_);rintro e w2 ⟨rfl,hp2,hk2⟩;go_wp2;go_ret;exact⟨rfl,hp2,hk1.trans hk2⟩
theorem KP (E:bG)(hE:E.ok)(aG:Nat)(st:aK)(b:Int × aK)(w:World)(hp:PW E st w)(n1:st.aj.length+1<=1099511627776)(n4:b.2.aj.length+1<=1099511627776)(dJ:aG<=E.depth)
  (hd:(bg E.ah E.depth (aG+1) (aF E.ah st).2).fE=0)
  (hb:∀ w,PW E (bg E.ah E.depth (aG+1) (aF E.ah st).2) w->Calls Tryz.prog 304 #[.pointer (some ⟨E.pb,0,none⟩),.int .i64 ((aG+1:Nat):Int)] w (eu E b w)) :
  Calls Tryz.prog 310 #[.pointer (some ⟨E.pb,0,none⟩),.int .i64 aG,.func (.func 304) #[.pointer (some ⟨E.pb,0,none⟩)] #[]] w (eu E (bL 11 [(aF E.ah st).1,b.1] b.2) w):=by
 have vQ:=hE.2.2;have HL:=ay (λw hp=>bT E st w hp hE.1 hE.2.1 n1);have HD:=ay (KN E hE (aG+1) _ hd);have HF:=ay hb;have HN:=ay (λw hp=>jf E 11 [(aF E.ah st).1,b.1] 2 _ b.2 w hp rfl rfl (by omega) n4);clear hd hb n1 n4;go_enter Tryz.func310,Tryz.ntmps310;obtain⟨d0,_,_,_,_,_⟩:=hp.cells;go_wp2_with (go_at_call 157;refine(HL.out w hp).mono ?_);rintro e w1 ⟨rfl,hp1,hk1⟩;clear d0;go_wp2_with (go_at_call 211;refine(HD.out w1 hp1).mono ?_);rintro e w2 ⟨rfl,hp2,hk2⟩;go_wp2_with (go_at_call 304;refine(HF.out w2 hp2).mono ?_);rintro e w3 ⟨rfl,hp3,eP⟩;go_wp2_with (go_at_call 109;refine(HN.out w3 hp3).mono ?_);rintro e w4 ⟨rfl,qO,hk4⟩;go_wp2;go_ret;exact⟨rfl,qO,((hk1.trans hk2).trans eP).trans hk4⟩
theorem Il (E:bG)(hE:E.ok)(aG:Nat)(st:aK)(w:World)(hp:PW E st w)(n1:st.aj.length+1<=1099511627776)(dJ:aG<=E.depth)
  (hd:(bg E.ah E.depth (aG+1) (aF E.ah st).2).fE≠0) :
  Calls Tryz.prog 310 #[.pointer (some ⟨E.pb,0,none⟩),.int .i64 aG,.func (.func 304) #[.pointer (some ⟨E.pb,0,none⟩)] #[]] w (eu E (0,bg E.ah E.depth (aG+1) (aF E.ah st).2) w):=by
 have vQ:=hE.2.2;have HL:=ay (λw hp=>bT E st w hp hE.1 hE.2.1 n1);have HD:=ay (EW E hE (aG+1) _ hd);clear hd n1;go_enter Tryz.func310,Tryz.ntmps310;obtain⟨d0,_,_,_,_,_⟩:=hp.cells;go_wp2_with (go_at_call 157;refine(HL.out w hp).mono ?_);rintro e w1 ⟨rfl,hp1,hk1⟩;clear d0;go_wp2_with (go_at_call 211;refine(HD.out w1 hp1).mono ?_);rintro e w2 ⟨rfl,hp2,hk2⟩;go_wp2;go_ret;exact⟨rfl,hp2,hk1.trans hk2⟩
theorem M4 (E:bG)(hE:E.ok)(g:Nat)(ih:DC E g)(aG:Nat)(st:aK)(r:Int × aK)(w:World)(h:run E.ah E.depth (g+1) (.factor aG) st=some r)(hp:PW E st w)(hn:r.2.aj.length+1<=1099511627776)(dJ:aG<=E.depth) :
  Calls Tryz.prog 304 #[.pointer (some ⟨E.pb,0,none⟩),.int .i64 aG] w (eu E r w):=by
 have vQ:=hE.2.2
 have hHI:∀ (t:Task) (st:aK) (r:Int × aK),run E.ah E.depth g t st=some r->r.2.aj.length+1<=1099511627776->yS E t->∀ w,PW E st w->oI E r w t:=λt st r h1 h2 h3 w h4=>ih t st r w h1 h4 h2 h3
 have ex:=bA E.ah E.depth g;rw[run] at h
 by_cases hf:st.fE=0
 ·by_cases hx:bF E.ah st [[45]]=true
  ·rw[bR ⟨hf,hx⟩] at h
   by_cases hd:(bg E.ah E.depth (aG+1) (aF E.ah st).2).fE=0
   ·rw[aU (by simp[hd])] at h
    obtain⟨b,h1,h⟩:=cZ h
    injection h with h;subst h
    have n4:=aL (aM _ _ _) hn;have n3:=aL (ex _ _ _ h1) n4;have n2:=aL (fT _ _ _ _) n3;have n1:=aL (aQ _ _) n2;have HO:=ay (kr E st hf);have HX:=ay (dY E hE ⟨#[45]⟩ st true hx);have HU:=ay (λw hp=>KP E hE aG st b w hp n1 n4 dJ hd (hHI _ _ _ h1 n4 (Bn E _ _ hd)));clear h1 hf hx hd n1 n2 n3 n4 hHI ex ih hn;go_enter Tryz.func304,Tryz.ntmps304;go_wp2_with (go_at_call 104;refine(HO.out w hp).mono ?_);rintro e w1 ⟨rfl,hp1,hk1⟩;go_wp2_with (go_at_call 155;refine(HX.out w1 hp1).mono ?_);rintro e w2 ⟨rfl,hp2,hk2⟩;go_wp2_with (go_at_call 310;refine(HU.out w2 hp2).mono ?_);rintro e w3 ⟨rfl,hp3,eP⟩;go_wp2;go_ret;exact⟨rfl,hp3,(hk1.trans hk2).trans eP⟩
   ·rw[bR hd] at h
    injection h with h;subst h
    have n2:=aL (fT _ _ _ _) hn;have n1:=aL (aQ _ _) n2;have HO:=ay (kr E st hf);have HX:=ay (dY E hE ⟨#[45]⟩ st true hx);have HU:=ay (λw hp=>Il E hE aG st w hp n1 dJ hd);clear hf hx hd n1 n2 hHI ex ih hn;go_enter Tryz.func304,Tryz.ntmps304;go_wp2_with (go_at_call 104;refine(HO.out w hp).mono ?_);rintro e w1 ⟨rfl,hp1,hk1⟩;go_wp2_with (go_at_call 155;refine(HX.out w1 hp1).mono ?_);rintro e w2 ⟨rfl,hp2,hk2⟩;go_wp2_with (go_at_call 310;refine(HU.out w2 hp2).mono ?_);rintro e w3 ⟨rfl,hp3,eP⟩;go_wp2;go_ret;exact⟨rfl,hp3,(hk1.trans hk2).trans eP⟩
  ·rw[aU (λq=>hx q.2)] at h
   have HO:=ay (kr E st hf);have HX:=ay (dY E hE ⟨#[45]⟩ st false (eq_false_of_ne_true hx));have HR:=ay (hHI _ _ _ h hn dJ);clear h hf hx hHI ex ih hn;go_enter Tryz.func304,Tryz.ntmps304;go_wp2_with (go_at_call 104;refine(HO.out w hp).mono ?_);rintro e w1 ⟨rfl,hp1,hk1⟩;go_wp2_with (go_at_call 155;refine(HX.out w1 hp1).mono ?_);rintro e w2 ⟨rfl,hp2,hk2⟩;go_wp2_with (go_at_call 311;refine(HR.out w2 hp2).mono ?_);rintro e w3 ⟨rfl,hp3,eP⟩;go_wp2;go_ret;exact⟨rfl,hp3,(hk1.trans hk2).trans eP⟩
 ·rw[aU (λq=>hf q.1)] at h
  have HO:=ay (vF E st hf);have HR:=ay (hHI _ _ _ h hn dJ);clear h hf hHI ex ih hn;go_enter Tryz.func304,Tryz.ntmps304;go_wp2_with (go_at_call 104;refine(HO.out w hp).mono ?_);rintro e w1 ⟨rfl,hp1,hk1⟩;go_wp2_with (go_at_call 311;refine(HR.out w1 hp1).mono ?_);rintro e w2 ⟨rfl,hp2,hk2⟩;go_wp2;go_ret;exact⟨rfl,hp2,hk1.trans hk2⟩
def afK (E:bG)(st:aK)(t:Tok)(w:World)(e:Ending)(w':World):Prop:=e=.returned (.agg #[.int .i64 t.kind,.string ⟨t.lead.toArray⟩,.string ⟨t.text.toArray⟩,.int .i64 t.place])/\PW E st w'/\Kp E.B w w'
theorem ach (E:bG)(hE:E.ok)(st:aK)(w:World)(h:PW E st w) :
  Calls Tryz.prog 164 #[.pointer (some ⟨E.bb,0,none⟩)] w (afK E st (dx E.ah st.used) w) :=
 (zZ E.R E.B E.bb E.tv E.ah st.used st.aj w h.2.1 h.2.2.1 hE.1 h.2.2.2.2.1 hE.2.1).mono λ_e _w' ⟨he,hb⟩=>⟨he,h.later hb,Kp.of hb h.fA⟩
theorem wC (E:bG)(hE:E.ok)(b c:ByteArray)(st:aK)(x:Bool)(hx:bF E.ah st [b.data.toList,c.data.toList]=x)(w:World)(h:PW E st w) :
  Calls Tryz.prog 155 #[.pointer (some ⟨E.pb,0,none⟩),.slice (some ⟨w.heap.size,0,none⟩) 2 2] (w.alloc (.cells #[.string b,.string c] 9)) (tH E st x w):=by
 subst hx;exact X5 E hE b c st w h
def p9 (w:World)(b:Nat)(k:Nat):Prop:=∃ x y q:Value,w.heap[b]?=some (.cells #[.int .i64 k,x,y,q] 159)
theorem p9.kp {B:Nat}{w':World}{b k:Nat}(h:p9 w b k)(hk:Kp B w w'):p9 w' b k:=by
 obtain⟨x,y,q,h⟩:=h;exact⟨x,y,q,hk.2 _ _ _ _ h (by decide) (by decide) (by decide)⟩
theorem p9.cell {w:World}{b k:Nat}(h:p9 w b k):w.cell? ⟨b,0,none⟩=some (.int .i64 k):=by
 obtain⟨x,y,q,h⟩:=h;rw[aZ h];rfl
theorem p9.new (w:World)(k:Nat)(x y q:Value):p9 (w.alloc (.cells #[.int .i64 k,x,y,q] 159)) w.heap.size k:=⟨x,y,q,aX _ _⟩
theorem U9 (E:bG)(hE:E.ok)(g:Nat)(ih:DC E g)(aG:Nat)(st:aK)(r:Int × aK)(w:World)(h:run E.ah E.depth (g+1) (.atom aG) st=some r)(hp:PW E st w)(hn:r.2.aj.length+1<=1099511627776)(dJ:aG<=E.depth) :
  Calls Tryz.prog 311 #[.pointer (some ⟨E.pb,0,none⟩),.int .i64 aG] w (eu E r w):=by
 have vQ:=hE.2.2
 have hHI:∀ (t:Task) (st:aK) (r:Int × aK),run E.ah E.depth g t st=some r->r.2.aj.length+1<=1099511627776->yS E t->∀ w,PW E st w->oI E r w t:=λt st r h1 h2 h3 w h4=>ih t st r w h1 h4 h2 h3
 have ex:=bA E.ah E.depth g;rw[run] at h;have hP:=ach E hE st;generalize dx E.ah st.used=t at hP h;obtain⟨k,x,y,q⟩:=t;simp only at h;have HP:=ay hP;clear hP;have tf:=Jh
 by_cases hf:st.fE≠0
 ·rw[bR hf] at h
  injection h with h;subst h
  have HO:=ay (vF E st hf);clear hf hHI ex ih hn;go_enter Tryz.func311,Tryz.ntmps311;obtain⟨d0,_,_,_,_,_⟩:=hp.cells;go_wp2_with (go_at_call 164;refine(HP.out w hp).mono ?_);rintro e w0 ⟨rfl,hp0,hk0⟩;clear d0;have hT0:=p9.new w0 k (.string ⟨x.toArray⟩) (.string ⟨y.toArray⟩) (.int .i64 q);have yU:=hp0.later (aA w0 (.cells #[.int .i64 k,.string ⟨x.toArray⟩,.string ⟨y.toArray⟩,.int .i64 q] 159));have uN:=hk0.trans (Kp.of (aA w0 (.cells #[.int .i64 k,.string ⟨x.toArray⟩,.string ⟨y.toArray⟩,.int .i64 q] 159)) hp0.fA);go_wp2_with (go_at_call 104;refine(HO.out _ yU).mono ?_);rintro e w1 ⟨rfl,hp1,hk1⟩;go_wp2;go_ret;exact⟨rfl,hp1,uN.trans hk1⟩
 rw[aU hf] at h;have HO:=ay (kr E st (by simpa using hf));clear hf
 by_cases eP:k=3
 ·rw[bR eP] at h
  injection h with h;subst h
  have n2:=aL (aM _ _ _) hn;have n1:=aL (aQ _ _) n2
  have k3:((k:Int) == 3)=true:=by rw[beq_iff_eq];omega
  have HL:=ay (λw hp=>bT E st w hp hE.1 hE.2.1 n1);have HN:=ay (λw hp=>jf E 15 [(aF E.ah st).1] 1 _ (aF E.ah st).2 w hp rfl rfl (by omega) n2);clear n1 n2 eP hHI ex ih hn;go_enter Tryz.func311,Tryz.ntmps311;obtain⟨d0,_,_,_,_,_⟩:=hp.cells;go_wp2_with (go_at_call 164;refine(HP.out w hp).mono ?_);rintro e w0 ⟨rfl,hp0,hk0⟩;clear d0;have hT0:=p9.new w0 k (.string ⟨x.toArray⟩) (.string ⟨y.toArray⟩) (.int .i64 q);have yU:=hp0.later (aA w0 (.cells #[.int .i64 k,.string ⟨x.toArray⟩,.string ⟨y.toArray⟩,.int .i64 q] 159));have uN:=hk0.trans (Kp.of (aA w0 (.cells #[.int .i64 k,.string ⟨x.toArray⟩,.string ⟨y.toArray⟩,.int .i64 q] 159)) hp0.fA);go_wp2_with (go_at_call 104;refine(HO.out _ yU).mono ?_);rintro e w1 ⟨rfl,hp1,hk1⟩;have hT1:=hT0.kp hk1;have t1:=hT1.cell;obtain⟨d0,_,_,_,_,_⟩:=hp1.cells;go_wp2_with (go_at_call 157;refine(HL.out w1 hp1).mono ?_);rintro e w2 ⟨rfl,hp2,hk2⟩;clear d0;go_wp2_with (go_at_call 109;refine(HN.out w2 hp2).mono ?_);rintro e w3 ⟨rfl,hp3,eP⟩;go_wp2;go_ret;exact⟨rfl,hp3,((uN.trans hk1).trans hk2).trans eP⟩
 rw[aU eP] at h
 have k3:((k:Int) == 3)=false:=by rw[<- vM,beq_iff_eq];omega
 clear eP
 by_cases hx1:bF E.ah st [Tg,Ql]=true
 ·rw[bR hx1] at h
  injection h with h;subst h
  have n2:=aL (aM _ _ _) hn;have n1:=aL (aQ _ _) n2;have HX:=ay (wC E hE ⟨#[116,114,117,101]⟩ ⟨#[102,97,108,115,101]⟩ st true hx1);have HL:=ay (λw hp=>bT E st w hp hE.1 hE.2.1 n1);have HN:=ay (λw hp=>jf E 16 [(aF E.ah st).1] 1 _ (aF E.ah st).2 w hp rfl rfl (by omega) n2);clear n1 n2 hx1 hHI ex ih hn;go_enter Tryz.func311,Tryz.ntmps311;obtain⟨d0,_,_,_,_,_⟩:=hp.cells;go_wp2_with (go_at_call 164;refine(HP.out w hp).mono ?_);rintro e w0 ⟨rfl,hp0,hk0⟩;clear d0;have hT0:=p9.new w0 k (.string ⟨x.toArray⟩) (.string ⟨y.toArray⟩) (.int .i64 q);have yU:=hp0.later (aA w0 (.cells #[.int .i64 k,.string ⟨x.toArray⟩,.string ⟨y.toArray⟩,.int .i64 q] 159));have uN:=hk0.trans (Kp.of (aA w0 (.cells #[.int .i64 k,.string ⟨x.toArray⟩,.string ⟨y.toArray⟩,.int .i64 q] 159)) hp0.fA);go_wp2_with (go_at_call 104;refine(HO.out _ yU).mono ?_);rintro e w1 ⟨rfl,hp1,hk1⟩;have hT1:=hT0.kp hk1;have t1:=hT1.cell;go_wp2_with (go_at_call 155;refine(HX.out w1 hp1).mono ?_);rintro e w2 ⟨rfl,hp2,hk2⟩;clear t1;obtain⟨d0,_,_,_,_,_⟩:=hp2.cells;go_wp2_with (go_at_call 157;refine(HL.out w2 hp2).mono ?_);rintro e w3 ⟨rfl,hp3,eP⟩;clear d0;go_wp2_with (go_at_call 109;refine(HN.out w3 hp3).mono ?_);rintro e w4 ⟨rfl,qO,hk4⟩;go_wp2;go_ret;exact⟨rfl,qO,(((uN.trans hk1).trans hk2).trans eP).trans hk4⟩
 rw[aU hx1] at h;have HX:=ay (wC E hE ⟨#[116,114,117,101]⟩ ⟨#[102,97,108,115,101]⟩ st false (eq_false_of_ne_true hx1));clear hx1
 by_cases hx2:st.aC=true/\bF E.ah st [adL]=true
 ·rw[bR hx2] at h
  injection h with h;subst h
  have n2:=aL (aM _ _ _) hn;have n1:=aL (aQ _ _) n2;have hc:=ay hx2.1;have HR:=ay (dY E hE ⟨#[114,101,115]⟩ st true hx2.2);have HL:=ay (λw hp=>bT E st w hp hE.1 hE.2.1 n1);have HN:=ay (λw hp=>jf E 17 [(aF E.ah st).1] 1 _ (aF E.ah st).2 w hp rfl rfl (by omega) n2);clear n1 n2 hx2 hHI ex ih hn;go_enter Tryz.func311,Tryz.ntmps311;obtain⟨d0,_,_,_,_,_⟩:=hp.cells;go_wp2_with (go_at_call 164;refine(HP.out w hp).mono ?_);rintro e w0 ⟨rfl,hp0,hk0⟩;clear d0;have hT0:=p9.new w0 k (.string ⟨x.toArray⟩) (.string ⟨y.toArray⟩) (.int .i64 q);have yU:=hp0.later (aA w0 (.cells #[.int .i64 k,.string ⟨x.toArray⟩,.string ⟨y.toArray⟩,.int .i64 q] 159));have uN:=hk0.trans (Kp.of (aA w0 (.cells #[.int .i64 k,.string ⟨x.toArray⟩,.string ⟨y.toArray⟩,.int .i64 q] 159)) hp0.fA);go_wp2_with (go_at_call 104;refine(HO.out _ yU).mono ?_);rintro e w1 ⟨rfl,hp1,hk1⟩;have hT1:=hT0.kp hk1;have t1:=hT1.cell;go_wp2_with (go_at_call 155;refine(HX.out w1 hp1).mono ?_);rintro e w2 ⟨rfl,hp2,hk2⟩;clear t1;obtain⟨_,_,c2,_,_,_⟩:=hp2.cells;rw[hc.out] at c2;go_wp2_with (go_at_call 155;refine(HR.out w2 hp2).mono ?_);rintro e w3 ⟨rfl,hp3,eP⟩;clear c2;obtain⟨d0,_,_,_,_,_⟩:=hp3.cells;go_wp2_with (go_at_call 157;refine(HL.out w3 hp3).mono ?_);rintro e w4 ⟨rfl,qO,hk4⟩;clear d0;go_wp2_with (go_at_call 109;refine(HN.out w4 qO).mono ?_);rintro e w5 ⟨rfl,tJ,iN⟩;go_wp2;go_ret;exact⟨rfl,tJ,((((uN.trans hk1).trans hk2).trans eP).trans hk4).trans iN⟩
 rw[aU hx2] at h
 have HR:st.aC=true->Hid (∀ w,PW E st w->Calls Tryz.prog 155 #[.pointer (some ⟨E.pb,0,none⟩),.slice (some ⟨w.heap.size,0,none⟩) 1 1] (w.alloc (.cells #[.string ⟨#[114,101,115]⟩] 9)) (tH E st false w)):=λhc=>ay (dY E hE ⟨#[114,101,115]⟩ st false (eq_false_of_ne_true λq=>hx2 ⟨hc,q⟩))
 clear hx2
 by_cases hx3:bF E.ah st [[40]]=true
 ·rw[bR hx3] at h
  obtain⟨b,h1,h⟩:=cZ h
  injection h with h;subst h
  have n4:=aL (aM _ _ _) hn;have n3:=aL (aN _ _ _) n4;have n2:=aL (ex _ _ _ h1) n3;have n1:=aL (aQ _ _) n2;have HY:=ay (dY E hE ⟨#[40]⟩ st true hx3);have HL:=ay (λw hp=>bT E st w hp hE.1 hE.2.1 n1);have HE:=ay (hHI _ _ _ h1 n3 (by show aG+1<=_;omega));have HM:=ay (λw hp=>eD E hE ⟨#[41]⟩ b.2 w hp n3);have HN:=ay (λw hp=>jf E 12 [(aF E.ah st).1,b.1,(aJ E.ah [[41]] b.2).1] 3 _ (aJ E.ah [[41]] b.2).2 w hp rfl rfl (by omega) n4);clear n1 n2 n3 n4 h1 hx3 hHI ex ih hn
  by_cases hcl:st.aC=true
  ·have HR:=HR hcl
   have hc:=ay hcl;clear hcl;go_enter Tryz.func311,Tryz.ntmps311;obtain⟨d0,_,_,_,_,_⟩:=hp.cells;go_wp2_with (go_at_call 164;refine(HP.out w hp).mono ?_);rintro e w0 ⟨rfl,hp0,hk0⟩;clear d0;have hT0:=p9.new w0 k (.string ⟨x.toArray⟩) (.string ⟨y.toArray⟩) (.int .i64 q);have yU:=hp0.later (aA w0 (.cells #[.int .i64 k,.string ⟨x.toArray⟩,.string ⟨y.toArray⟩,.int .i64 q] 159));have uN:=hk0.trans (Kp.of (aA w0 (.cells #[.int .i64 k,.string ⟨x.toArray⟩,.string ⟨y.toArray⟩,.int .i64 q] 159)) hp0.fA);go_wp2_with (go_at_call 104;refine(HO.out _ yU).mono ?_);rintro e w1 ⟨rfl,hp1,hk1⟩;have hT1:=hT0.kp hk1;have t1:=hT1.cell;go_wp2_with (go_at_call 155;refine(HX.out w1 hp1).mono ?_);rintro e w2 ⟨rfl,hp2,hk2⟩;clear t1;obtain⟨_,_,c2,_,_,_⟩:=hp2.cells;rw[hc.out] at c2;go_wp2_with (go_at_call 155;refine(HR.out w2 hp2).mono ?_);rintro e w3 ⟨rfl,hp3,eP⟩;clear c2;go_wp2_with (go_at_call 155;refine(HY.out w3 hp3).mono ?_);rintro e w4 ⟨rfl,qO,hk4⟩;obtain⟨d0,_,_,_,_,_⟩:=qO.cells;go_wp2_with (go_at_call 157;refine(HL.out w4 qO).mono ?_);rintro e w5 ⟨rfl,tJ,iN⟩;clear d0;go_wp2_with (go_at_call 162;refine(HE.out w5 tJ).mono ?_);rintro e w6 ⟨rfl,EU,mR⟩;go_wp2_with (go_at_call 158;refine(HM.out w6 EU).mono ?_);rintro e w7 ⟨rfl,Ik,tK⟩;go_wp2_with (go_at_call 109;refine(HN.out w7 Ik).mono ?_);rintro e w8 ⟨rfl,Mc,DI⟩;go_wp2;go_ret;exact⟨rfl,Mc,(((((((uN.trans hk1).trans hk2).trans eP).trans hk4).trans iN).trans mR).trans tK).trans DI⟩
  ·have hc:=ay (eq_false_of_ne_true hcl)
   clear hcl HR;go_enter Tryz.func311,Tryz.ntmps311;obtain⟨d0,_,_,_,_,_⟩:=hp.cells;go_wp2_with (go_at_call 164;refine(HP.out w hp).mono ?_);rintro e w0 ⟨rfl,hp0,hk0⟩;clear d0;have hT0:=p9.new w0 k (.string ⟨x.toArray⟩) (.string ⟨y.toArray⟩) (.int .i64 q);have yU:=hp0.later (aA w0 (.cells #[.int .i64 k,.string ⟨x.toArray⟩,.string ⟨y.toArray⟩,.int .i64 q] 159));have uN:=hk0.trans (Kp.of (aA w0 (.cells #[.int .i64 k,.string ⟨x.toArray⟩,.string ⟨y.toArray⟩,.int .i64 q] 159)) hp0.fA);go_wp2_with (go_at_call 104;refine(HO.out _ yU).mono ?_);rintro e w1 ⟨rfl,hp1,hk1⟩;have hT1:=hT0.kp hk1;have t1:=hT1.cell;go_wp2_with (go_at_call 155;refine(HX.out w1 hp1).mono ?_);rintro e w2 ⟨rfl,hp2,hk2⟩;clear t1;obtain⟨_,_,c2,_,_,_⟩:=hp2.cells;rw[hc.out] at c2;go_wp2_with (go_at_call 155;refine(HY.out w2 hp2).mono ?_);rintro e w3 ⟨rfl,hp3,eP⟩;clear c2;obtain⟨d0,_,_,_,_,_⟩:=hp3.cells;go_wp2_with (go_at_call 157;refine(HL.out w3 hp3).mono ?_);rintro e w4 ⟨rfl,qO,hk4⟩;clear d0;go_wp2_with (go_at_call 162;refine(HE.out w4 qO).mono ?_);rintro e w5 ⟨rfl,tJ,iN⟩;go_wp2_with (go_at_call 158;refine(HM.out w5 tJ).mono ?_);rintro e w6 ⟨rfl,EU,mR⟩;go_wp2_with (go_at_call 109;refine(HN.out w6 EU).mono ?_);rintro e w7 ⟨rfl,Ik,tK⟩;go_wp2;go_ret;exact⟨rfl,Ik,((((((uN.trans hk1).trans hk2).trans eP).trans hk4).trans iN).trans mR).trans tK⟩
 rw[aU hx3] at h;have HY:=ay (dY E hE ⟨#[40]⟩ st false (eq_false_of_ne_true hx3));clear hx3
 by_cases hk1:k=1
 ·rw[bR hk1] at h
  have k1:((k:Int) == 1)=true:=by rw[beq_iff_eq];omega
  have HN:=ay (hHI _ _ _ h hn dJ);clear h hk1 hHI ex ih hn
  by_cases hcl:st.aC=true
  ·have HR:=HR hcl
   have hc:=ay hcl;clear hcl;go_enter Tryz.func311,Tryz.ntmps311;obtain⟨d0,_,_,_,_,_⟩:=hp.cells;go_wp2_with (go_at_call 164;refine(HP.out w hp).mono ?_);rintro e w0 ⟨rfl,hp0,hk0⟩;clear d0;have hT0:=p9.new w0 k (.string ⟨x.toArray⟩) (.string ⟨y.toArray⟩) (.int .i64 q);have yU:=hp0.later (aA w0 (.cells #[.int .i64 k,.string ⟨x.toArray⟩,.string ⟨y.toArray⟩,.int .i64 q] 159));have uN:=hk0.trans (Kp.of (aA w0 (.cells #[.int .i64 k,.string ⟨x.toArray⟩,.string ⟨y.toArray⟩,.int .i64 q] 159)) hp0.fA);go_wp2_with (go_at_call 104;refine(HO.out _ yU).mono ?_);rintro e w1 ⟨rfl,hp1,hk1⟩;have hT1:=hT0.kp hk1;have t1:=hT1.cell;go_wp2_with (go_at_call 155;refine(HX.out w1 hp1).mono ?_);rintro e w2 ⟨rfl,hp2,hk2⟩;clear t1;have PI:=hT1.kp hk2;obtain⟨_,_,c2,_,_,_⟩:=hp2.cells;rw[hc.out] at c2;go_wp2_with (go_at_call 155;refine(HR.out w2 hp2).mono ?_);rintro e w3 ⟨rfl,hp3,eP⟩;clear c2;have Ya:=PI.kp eP;go_wp2_with (go_at_call 155;refine(HY.out w3 hp3).mono ?_);rintro e w4 ⟨rfl,qO,hk4⟩;have hT4:=Ya.kp hk4;have t4:=hT4.cell;go_wp2_with (go_at_call 316;refine(HN.out w4 qO).mono ?_);rintro e w5 ⟨rfl,tJ,iN⟩;go_wp2;go_ret;exact⟨rfl,tJ,((((uN.trans hk1).trans hk2).trans eP).trans hk4).trans iN⟩
  ·have hc:=ay (eq_false_of_ne_true hcl)
   clear hcl HR;go_enter Tryz.func311,Tryz.ntmps311;obtain⟨d0,_,_,_,_,_⟩:=hp.cells;go_wp2_with (go_at_call 164;refine(HP.out w hp).mono ?_);rintro e w0 ⟨rfl,hp0,hk0⟩;clear d0;have hT0:=p9.new w0 k (.string ⟨x.toArray⟩) (.string ⟨y.toArray⟩) (.int .i64 q);have yU:=hp0.later (aA w0 (.cells #[.int .i64 k,.string ⟨x.toArray⟩,.string ⟨y.toArray⟩,.int .i64 q] 159));have uN:=hk0.trans (Kp.of (aA w0 (.cells #[.int .i64 k,.string ⟨x.toArray⟩,.string ⟨y.toArray⟩,.int .i64 q] 159)) hp0.fA);go_wp2_with (go_at_call 104;refine(HO.out _ yU).mono ?_);rintro e w1 ⟨rfl,hp1,hk1⟩;have hT1:=hT0.kp hk1;have t1:=hT1.cell;go_wp2_with (go_at_call 155;refine(HX.out w1 hp1).mono ?_);rintro e w2 ⟨rfl,hp2,hk2⟩;clear t1;have PI:=hT1.kp hk2;obtain⟨_,_,c2,_,_,_⟩:=hp2.cells;rw[hc.out] at c2;go_wp2_with (go_at_call 155;refine(HY.out w2 hp2).mono ?_);rintro e w3 ⟨rfl,hp3,eP⟩;clear c2;have Ya:=PI.kp eP;have t3:=Ya.cell;go_wp2_with (go_at_call 316;refine(HN.out w3 hp3).mono ?_);rintro e w4 ⟨rfl,qO,hk4⟩;go_wp2;go_ret;exact⟨rfl,qO,(((uN.trans hk1).trans hk2).trans eP).trans hk4⟩
 ·rw[aU hk1] at h
  injection h with h;subst h
  have k1:((k:Int) == 1)=false:=by rw[<- vM,beq_iff_eq];omega
  have HF:=ay (λw hp=>mQ E hE 22 st w hp);clear hk1 hHI ex ih hn
  by_cases hcl:st.aC=true
  ·have HR:=HR hcl
   have hc:=ay hcl;clear hcl;go_enter Tryz.func311,Tryz.ntmps311;obtain⟨d0,_,_,_,_,_⟩:=hp.cells;go_wp2_with (go_at_call 164;refine(HP.out w hp).mono ?_);rintro e w0 ⟨rfl,hp0,hk0⟩;clear d0;have hT0:=p9.new w0 k (.string ⟨x.toArray⟩) (.string ⟨y.toArray⟩) (.int .i64 q);have yU:=hp0.later (aA w0 (.cells #[.int .i64 k,.string ⟨x.toArray⟩,.string ⟨y.toArray⟩,.int .i64 q] 159));have uN:=hk0.trans (Kp.of (aA w0 (.cells #[.int .i64 k,.string ⟨x.toArray⟩,.string ⟨y.toArray⟩,.int .i64 q] 159)) hp0.fA);go_wp2_with (go_at_call 104;refine(HO.out _ yU).mono ?_);rintro e w1 ⟨rfl,hp1,hk1⟩;have hT1:=hT0.kp hk1;have t1:=hT1.cell;go_wp2_with (go_at_call 155;refine(HX.out w1 hp1).mono ?_);rintro e w2 ⟨rfl,hp2,hk2⟩;clear t1;have PI:=hT1.kp hk2;obtain⟨_,_,c2,_,_,_⟩:=hp2.cells;rw[hc.out] at c2;go_wp2_with (go_at_call 155;refine(HR.out w2 hp2).mono ?_);rintro e w3 ⟨rfl,hp3,eP⟩;clear c2;have Ya:=PI.kp eP;go_wp2_with (go_at_call 155;refine(HY.out w3 hp3).mono ?_);rintro e w4 ⟨rfl,qO,hk4⟩;have hT4:=Ya.kp hk4;have t4:=hT4.cell;go_wp2_with (go_at_call 156;refine(HF.out w4 qO).mono ?_);rintro e w5 ⟨rfl,tJ,iN⟩;go_wp2;go_ret;exact⟨rfl,tJ,((((uN.trans hk1).trans hk2).trans eP).trans hk4).trans iN⟩
  ·have hc:=ay (eq_false_of_ne_true hcl)
   clear hcl HR;go_enter Tryz.func311,Tryz.ntmps311;obtain⟨d0,_,_,_,_,_⟩:=hp.cells;go_wp2_with (go_at_call 164;refine(HP.out w hp).mono ?_);rintro e w0 ⟨rfl,hp0,hk0⟩;clear d0;have hT0:=p9.new w0 k (.string ⟨x.toArray⟩) (.string ⟨y.toArray⟩) (.int .i64 q);have yU:=hp0.later (aA w0 (.cells #[.int .i64 k,.string ⟨x.toArray⟩,.string ⟨y.toArray⟩,.int .i64 q] 159));have uN:=hk0.trans (Kp.of (aA w0 (.cells #[.int .i64 k,.string ⟨x.toArray⟩,.string ⟨y.toArray⟩,.int .i64 q] 159)) hp0.fA);go_wp2_with (go_at_call 104;refine(HO.out _ yU).mono ?_);rintro e w1 ⟨rfl,hp1,hk1⟩;have hT1:=hT0.kp hk1;have t1:=hT1.cell;go_wp2_with (go_at_call 155;refine(HX.out w1 hp1).mono ?_);rintro e w2 ⟨rfl,hp2,hk2⟩;clear t1;have PI:=hT1.kp hk2;obtain⟨_,_,c2,_,_,_⟩:=hp2.cells;rw[hc.out] at c2;go_wp2_with (go_at_call 155;refine(HY.out w2 hp2).mono ?_);rintro e w3 ⟨rfl,hp3,eP⟩;clear c2;have Ya:=PI.kp eP;have t3:=Ya.cell;go_wp2_with (go_at_call 156;refine(HF.out w3 hp3).mono ?_);rintro e w4 ⟨rfl,qO,hk4⟩;go_wp2;go_ret;exact⟨rfl,qO,(((uN.trans hk1).trans hk2).trans eP).trans hk4⟩
open Go
variable{st:aK}{R:List Nat}{E:bG}{w':World}{xs:List Value}{v:Value}{base n:Nat}
def afL (l:List aH)(w:World)(e:Ending)(w':World):Prop:=∃ b n,e=.returned (.slice (some ⟨b,0,none⟩) n n)/\mq w' (.slice (some ⟨b,0,none⟩) n n) l/\Below w.heap.size w w'
theorem wD (w:World)(bs:List ByteArray):mq (w.alloc (.cells (bs.map Value.string).toArray 9)) (.slice (some ⟨w.heap.size,0,none⟩) bs.length bs.length) (bs.map (·.data.toList)):=by
 refine⟨w.heap.size,0,bs.length,by simp,by simp,λj hj=>?_⟩;rw[aZ (aX _ _)];simp only[oC] at hj;simp[hj]
theorem yV (l:Nat)(hl:l<=4)(w:World) :
  Calls Tryz.prog 294 #[.int .i64 l] w (afL (Bg l) w):=by
 have hc:l=0\/l=1\/l=2\/l=3\/l=4:=by omega
 rcases hc with rfl|rfl|rfl|rfl|rfl<;>
 ·go_enter Tryz.func294,Tryz.ntmps294
  go_wp2;go_ret
  first
   | exact⟨_,_,rfl,wD w [⟨#[124,124]⟩],aA _ _⟩
   | exact⟨_,_,rfl,wD w [⟨#[38,38]⟩],aA _ _⟩
   | exact⟨_,_,rfl,wD w [⟨#[61]⟩,⟨#[60,62]⟩,⟨#[60]⟩,⟨#[60,61]⟩,⟨#[62]⟩,⟨#[62,61]⟩],aA _ _⟩
   | exact⟨_,_,rfl,wD w [⟨#[43]⟩,⟨#[45]⟩],aA _ _⟩
   | exact⟨_,_,rfl,wD w [⟨#[42]⟩,⟨#[47]⟩,⟨#[37]⟩],aA _ _⟩
def adR (E:bG)(l aG:Nat)(r:Int × aK)(w:World)(g k:Nat)(av:Value)(wr:World):Prop :=
 ∃ (a:Int) (s:aK),av=.int .i64 a/\k<=g/\run E.ah E.depth k (.loop l aG a) s=some r/\PW E s wr/\Kp E.B w wr
theorem Jj (l:Nat):(Bg l).length<=1000:=by
 match l with
 | 0=>decide
 | 1=>decide
 | 2=>decide
 | 3=>decide
 | n+4=>simp[Bg]
theorem Yb (E:bG)(hE:E.ok)(v:Value)(l:List aH)(st:aK)(x:Bool)(hx:bF E.ah st l=x)(hl:l.length<=1000)(w:World)(h:PW E st w)(hv:mq w v l) :
  Calls Tryz.prog 155 #[.pointer (some ⟨E.pb,0,none⟩),v] w (tH E st x w):=by
 subst hx;refine(wu E v l st w h hv hE.1 hE.2.1 hl).mono ?_;rintro e w' ⟨rfl,hb⟩;exact⟨rfl,h.later hb,Kp.of hb h.fA⟩
theorem row_step (E:bG)(hE:E.ok)(g:Nat)(ih:∀ g',g'<=g->DC E g')(l aG:Nat)(st:aK)(r:Int × aK)(w:World)(h:run E.ah E.depth (g+1) (.row l aG) st=some r)(hp:PW E st w)(hn:r.2.aj.length+1<=1099511627776)(dJ:l<=4/\aG<=E.depth) :
  Calls Tryz.prog 265 #[.pointer (some ⟨E.pb,0,none⟩),.int .i64 l,.int .i64 aG] w (eu E r w):=by
 have vQ:=hE.2.2;rw[run] at h;obtain⟨a,h0,h⟩:=cZ h;have n1:=aL (bA E.ah E.depth g _ _ _ h) hn;have HP:=ay (λw hp=>ih g (bD _) _ _ _ w h0 hp n1 dJ);have IH:=ay ih;have H0:=ay h;have HN0:=ay hn;clear h h0 n1 ih hn;obtain⟨hl,dJ⟩:=dJ;go_enter Tryz.func265,Tryz.ntmps265;go_wp2_with (go_at_call 293;refine(HP.out w hp).mono ?_);rintro e w1 ⟨rfl,hp1,hk1⟩;go_wp2
 go_loopg [7] g (λk av wr=>adR E l aG r w g k av wr)
 case atStart=>exact⟨_,_,rfl,bD _,H0.out,hp1,hk1⟩
 case round =>
  obtain⟨a',s,rfl,hle,hr,hps,hks⟩:=hrel
  cases gk with
  | zero=>rw[run] at hr;cases hr
  | succ k =>
   rw[run] at hr
   by_cases hf:s.fE=0
   ·have HO:=ay (kr E s hf)
    by_cases hx:bF E.ah s (Bg l)=true
    ·rw[bR ⟨hf,hx⟩] at hr
     have HX:=ay (λw hp v=>Yb E hE v _ s true hx (Jj l) w hp);obtain⟨b,h1,hr⟩:=cZ hr
     have nb:b.2.aj.length+1<=1099511627776:=by
      by_cases l2:l=2
      ·rw[bR l2] at hr
       injection hr with hr
       subst hr;exact aL (aM _ _ _) HN0.out
      ·rw[aU l2] at hr
       exact aL ((aM _ _ _).trans (bA E.ah E.depth k _ _ _ hr)) HN0.out
     have n2:=aL (bA E.ah E.depth k _ _ _ h1) nb;have n1:=aL (aQ _ _) n2;have HL:=ay (λw hp=>bT E s w hp hE.1 hE.2.1 n1);have HQ:=ay (λw hp=>IH.out k (by omega) _ _ _ w h1 hp nb ⟨hl,dJ⟩);have HN:=ay (λw hp=>jf E 10 [a',(aF E.ah s).1,b.1] 3 _ b.2 w hp rfl rfl (by omega) nb);clear h1 nb n1 n2 hf hx
     by_cases l2:l=2
     ·rw[bR l2] at hr
      injection hr with hr
      have HR:=ay hr
      have k2:((l:Int) == 2)=true:=by rw[beq_iff_eq];omega
      clear hr l2;go_wp2_with (go_at_call 104;refine(HO.out _ hps).mono ?_);rintro e v1 ⟨rfl,Im,Qx⟩;go_wp2_with (go_at_call 294;refine(yV l hl _).mono ?_);rintro e v2 ⟨sb,sn,rfl,hsv,kQ⟩;have Yc:=Im.later kQ;go_wp2_with (go_at_call 155;refine(HX.out _ Yc _ hsv).mono ?_);rintro e v3 ⟨rfl,Qy,Qz⟩;clear hsv;obtain⟨d0,_,_,_,_,_⟩:=Qy.cells;go_wp2_with (go_at_call 157;refine(HL.out _ Qy).mono ?_);rintro e v4 ⟨rfl,adS,Va⟩;clear d0;go_wp2_with (go_at_call 293;refine(HQ.out _ adS).mono ?_);rintro e v5 ⟨rfl,adT,M8⟩;go_wp2_with (go_at_call 109;refine(HN.out _ adT).mono ?_);rintro e v6 ⟨rfl,adU,adV⟩;go_wp2;go_ret;refine⟨?_,?_,((((((hks.trans Qx).trans (Kp.of kQ Im.fA)).trans Qz).trans Va).trans M8).trans adV)⟩
      ·rw[<- HR.out];rfl
      ·rw[<- HR.out];exact adU
     ·rw[aU l2] at hr
      have HR:=ay hr
      have k2:((l:Int) == 2)=false:=by rw[<- vM,beq_iff_eq];omega
      clear hr l2;go_wp2_with (go_at_call 104;refine(HO.out _ hps).mono ?_);rintro e v1 ⟨rfl,Im,Qx⟩;go_wp2_with (go_at_call 294;refine(yV l hl _).mono ?_);rintro e v2 ⟨sb,sn,rfl,hsv,kQ⟩;have Yc:=Im.later kQ;go_wp2_with (go_at_call 155;refine(HX.out _ Yc _ hsv).mono ?_);rintro e v3 ⟨rfl,Qy,Qz⟩;clear hsv;obtain⟨d0,_,_,_,_,_⟩:=Qy.cells;go_wp2_with (go_at_call 157;refine(HL.out _ Qy).mono ?_);rintro e v4 ⟨rfl,adS,Va⟩;clear d0;go_wp2_with (go_at_call 293;refine(HQ.out _ adS).mono ?_);rintro e v5 ⟨rfl,adT,M8⟩;go_wp2_with (go_at_call 109;refine(HN.out _ adT).mono ?_);rintro e v6 ⟨rfl,adU,adV⟩;go_wp2
      go_roundg k
      case measure=>omega
      case rel=>exact⟨_,_,rfl,by omega,HR.out,adU,((((((hks.trans Qx).trans (Kp.of kQ Im.fA)).trans Qz).trans Va).trans M8).trans adV)⟩
    ·rw[aU (λq=>hx q.2)] at hr
     injection hr with hr
     have HX:=ay (λw hp v=>Yb E hE v _ s false (eq_false_of_ne_true hx) (Jj l) w hp);have HR:=ay hr;clear hr hf hx;go_wp2_with (go_at_call 104;refine(HO.out _ hps).mono ?_);rintro e v1 ⟨rfl,Im,Qx⟩;go_wp2_with (go_at_call 294;refine(yV l hl _).mono ?_);rintro e v2 ⟨sb,sn,rfl,hsv,kQ⟩;have Yc:=Im.later kQ;go_wp2_with (go_at_call 155;refine(HX.out _ Yc _ hsv).mono ?_);rintro e v3 ⟨rfl,Qy,Qz⟩;clear hsv;go_wp2;go_ret;refine⟨?_,?_,(((hks.trans Qx).trans (Kp.of kQ Im.fA)).trans Qz)⟩
     ·rw[<- HR.out];rfl
     ·rw[<- HR.out];exact Qy
   ·rw[aU (λq=>hf q.1)] at hr
    injection hr with hr
    have HO:=ay (vF E s hf);have HR:=ay hr;clear hr hf;go_wp2_with (go_at_call 104;refine(HO.out _ hps).mono ?_);rintro e v1 ⟨rfl,Im,Qx⟩;go_wp2;go_ret;refine⟨?_,?_,hks.trans Qx⟩
    ·rw[<- HR.out];rfl
    ·rw[<- HR.out];exact Im
def PR (E:bG)(R:List Nat)(st:aK)(w:World):Prop:=PW { E with R:=R } st w
theorem PR.drop (h:PR E R st w)(hR:∀ r∈E.R,r∈R):PW E st w:=by
 obtain⟨h1,⟨b1,nv,l,b2,b3,b4,b5⟩,h3,h4,h5,h6⟩:=h;exact⟨h1,⟨b1,nv,l,b2,b3,b4,λp hp=>⟨(b5 p hp).1,λb off n cap hv hn hb=>(b5 p hp).2 b off n cap hv hn (hR b hb)⟩⟩,h3,h4,h5,λr hr=>h6 r (hR r hr)⟩
theorem PW.pr (h:PW E st w):PR E E.R st w:=h
def PR0 (E:bG)(R:List Nat)(st:aK)(w:World):Prop :=
 w.heap[E.pb]?=some (.cells #[.pointer (some ⟨E.bb,0,none⟩),.int .i64 E.depth,.bool st.aC,.int .i64 st.fE,.int .i64 st.fAt] 208 (0,0)) /\
  BW R E.B E.bb E.tv st.used st.aj w/\Rec E.B w E.tv 4 dP E.ah/\E.B<=E.pb/\st.used<=E.ah.length
theorem PR.less (h:PR E R st w):PR0 E R st w:=⟨h.1,h.2.1,h.2.2.1,h.2.2.2.1,h.2.2.2.2.1⟩
theorem PR0.full (h:PR0 E R st w)(hR:∀ r∈R,r<w.heap.size):PR E R st w:=⟨h.1,h.2.1,h.2.2.1,h.2.2.2.1,h.2.2.2.2,hR⟩
theorem PR0.more (h:PR0 E R st w)(g:Nat)(hg:w.heap.size<=g):PR0 E (g :: R) st w:=by
 obtain⟨h1,⟨b1,nv,l,b2,b3,b4,b5⟩,h3,h4,h5⟩:=h;refine⟨h1,⟨b1,nv,l,b2,b3,b4,λp hp=>⟨(b5 p hp).1,λb off n cap hv hn q=>?_⟩⟩,h3,h4,h5⟩
 rcases nY.1 q with q|q
 ·obtain⟨ao,jw,hv',_,hf⟩:=(b5 p hp).1
  rw[hv] at hv';simp only[Value.slice.injEq] at hv';obtain⟨ha,hl,_⟩:=hv';obtain⟨b',off',cs,fr,he,hh,_⟩:=hf (by omega);rw[<- ha] at he;simp only[Option.some.injEq,Addr.mk.injEq] at he;have:=(bP hh).1;omega
 ·exact(b5 p hp).2 b off n cap hv hn q
theorem PR.take (h:PR E R st w)(hb:Below w.heap.size w w')(g:Nat)(hg:w.heap.size<=g)(hg':g<w'.heap.size):PR E (g :: R) st w':=by
 obtain⟨h1,h2,h3,h4,h5⟩:=h.less.more g hg;have hB:=PW.fA (E:={ E with R:=R }) h;have hlt:=(bP h1).1;refine⟨?_,h2.later hb,h3.below (hb.mono hB),h4,h5,λr hr=>?_⟩
 ·rw[hb.block E.pb hlt];exact h1
 ·rcases nY.1 hr with rfl|hr
  ·exact hg'
  ·exact xw (h.2.2.2.2.2 r hr) hb.size
theorem PR0.grown {E:bG}{R:List Nat}{st:aK}{w w':World}(h:PR0 E R st w){base n:Nat}{v:Value}{xs:List Value}(ho:w.ownsRow base 3 1 v n xs)(hB:E.B<=base)(hv:∀ b,v.ownBlock=some b->b∈R)(hg:w.grownBy w' v.ownBlock):PR0 E R st w':=by
 obtain⟨h1,⟨b1,nv,l,b2,b3,b4,b5⟩,h3,h4,h5⟩:=h;have hlt:=(bP h1).1;have hbel:Below E.B w w':=(bQ _ _).grown hg (by omega) (λk hk=>by have:=(ho.lt k hk).1;omega);refine⟨iW ho hg h1 (by decide),⟨b1,nv,l,iW ho hg b2 (by decide),b3,⟨b4.1,?_⟩,λp hp=>?_⟩,h3.below hbel,h4,h5⟩
 ·rcases b4.2 with hn|⟨g,cap,cur,hv',hg',hh,hr⟩
  ·exact .inl hn
  ·exact .inr ⟨g,cap,cur,hv',hg',iW ho hg hh (by decide),hr⟩
 ·refine⟨?_,(b5 p hp).2⟩
  obtain⟨ao,cap,hv',hc,hf⟩:=(b5 p hp).1;refine⟨ao,cap,hv',hc,λh0=>?_⟩;obtain⟨b,off,cs,fr,ha,hh,hj⟩:=hf h0;refine⟨b,off,cs,fr,ha,?_,hj⟩;subst ha;rw[hg.block b (bP hh).1]
  ·exact hh
  ·intro q
   have hout:=(b5 p hp).2;rw[hv'] at hout;exact hout b off _ cap rfl h0 (hv b q.symm)
theorem PR.append (h:PR E R st w){H:Nat}{g:Nat}(ho:w.ownsRow base 3 1 v n xs)(hB:E.B<=base)(hv:∀ b,v.ownBlock=some b->b∈R)
  (hg:w.grownBy w' v.ownBlock) (hor:v.ownBlock=some g\/g=H) (hH:w.heap.size=H) (hlt:g<w'.heap.size) :
  ∃ R',(∀ r∈R,r∈R')/\g∈R'/\PR E R' st w':=by
 have hsz:w.heap.size<=w'.heap.size:=((bQ 0 w).grown hg (kJ _) (λk _=>kJ _)).size;have hb6:=h.2.2.2.2.2
 rcases hor with hor|rfl
 ·exact⟨R,λr hr=>hr,hv _ hor,(h.less.grown ho hB hv hg).full λr hr=>xw (hb6 r hr) hsz⟩
 ·refine⟨g :: R,λr hr=>Dy _ hr,Cu,((h.less.more g (by omega)).grown ho hB (λb hb=>Dy _ (hv b hb)) hg).full λr hr=>?_⟩
  rcases nY.1 hr with rfl|hr
  ·exact hlt
  ·exact xw (hb6 r hr) hsz
theorem iH {B:Nat}(h:w.ownsRow base 3 1 v n xs)(hk:Kp B w w'):w'.ownsRow base 3 1 v n xs:=by
 refine⟨h.1,?_⟩
 rcases h.2 with hn|⟨g,cap,cur,hv,hg,hh,hr⟩
 ·exact .inl hn
 ·exact .inr ⟨g,cap,cur,hv,hg,hk.2 _ _ _ _ hh (by decide) (by decide) (by decide),hr⟩
theorem Kp.grown {B base n:Nat}{w0 w w':World}{v:Value}{xs:List Value}(hk:Kp B w0 w)(ho:w.ownsRow base 3 1 v n xs)(hb:w0.heap.size<=base)(hB:B<=w0.heap.size)(hg:w.grownBy w' v.ownBlock):Kp B w0 w':=by
 refine⟨hk.1.grown hg (by have:=hk.size;omega) (λk hkk=>by have:=(ho.lt k hkk).1;omega),λk cs T fr h0 h1 h2 h3=>?_⟩;have hkk:=(bP h0).1;rw[hg.block k (by have:=hk.size;omega) (λq=>by have:=(ho.lt k q.symm).1;omega)];exact hk.2 k cs T fr h0 h1 h2 h3
