/- Walks and plain laws, without a condition. -/
import Derived.Test.YtmleecdnkmoohaaGreatDoorK12
import Derived.Test.YtmleecdnkmoohaaGreatDoorK11
set_option maxHeartbeats 16000000
set_option maxRecDepth 100000
set_option linter.unusedVariables false
set_option linter.unusedSimpArgs false
namespace Go.Proofs.YtmleecdnkmoohaaGreatDoor
open Go.RowKit Go Go.Sort
variable{l:List aH}{w:World}{v:Value}
theorem Tryz.TT:(Tryz.prog.info? 9).map (λi=>(i.zero,i.size,i.bytes))=some (some (.string ⟨#[]⟩),1,16):=by kernel_rfl
def II (B:Nat)(w:World)(v:Value)(l:List aH):Prop:=w.ownsRow B 9 1 v l.length (l.map encStr)
theorem II.slice {B:Nat}{w:World}{v:Value}{l:List aH}(h:II B w v l):∃ ak ck,v=.slice ak l.length ck:=by
 obtain⟨ao,cap,e,_,_⟩:=(fK.owns (P:=λ_=>True) h (λ_ _=>trivial)).slice;exact⟨ao,cap,e⟩
def Ov (w:World)(e:Ending)(w':World):Prop:=∃ v,e=.returned v/\II w.heap.size w' v []/\Below w.heap.size w w'
theorem VZ (n:Nat)(w:World)(hn:n<=4000000):Calls Tryz.prog 150 #[.slice none 0 0,.int .i64 n] w (Ov w):=by
 rcases Nat.eq_zero_or_pos n with h0|h0
 ·subst h0
  go_enter Tryz.func150,Tryz.ntmps150;go_wp2;go_ret;exact⟨_,rfl,World.ownsRow_nil _ _ _ _,bQ _ _⟩
 ·obtain⟨i0,hi,hz0,hz1,hz2⟩:=info_parts Tryz.TT
  have hrz:=Lib.run_append_grow_zeros (P:=Tryz.prog) w 41 3 41 9 i0 _ .i64 .i64 Tryz.underlying41 Tryz.underlying3 hi hz0 none 0 0 [] (run_firstCells_none _ _ _ _ _) n h0 (by omega) (by omega) (by omega) (by rw[hz2];omega) (by rw[hz2];exact growslice_fits (by omega) (by omega));rw[Nat.zero_add] at hrz;have hG1:=grownCap_ge w n 0 9;have hG2:=grownCap_le_maxLen w n 0 9 (by unfold maxLen;omega);generalize grownCap w n 0 9=G at *
  have hown:((w.alloc (.cells (Builtin.zeroCells #[Value.string ⟨#[]⟩] n++Builtin.zeroCells #[Value.string ⟨#[]⟩] (G - n)) 9)).drew).ownsRow w.heap.size 9 1 (.slice (some ⟨w.heap.size,0,none⟩) 0 G) 0 [] :=
   ⟨rfl,.inr ⟨w.heap.size,G,_,rfl,bD _,aX w _,by omega,hG2,by simp[size_zeroCells];omega,by simp⟩⟩
  have hbel:Below w.heap.size w ((w.alloc (.cells (Builtin.zeroCells #[Value.string ⟨#[]⟩] n++Builtin.zeroCells #[Value.string ⟨#[]⟩] (G - n)) 9)).drew):=((bQ _ w).alloc (bD _) _).drew;have HO:=ay hown;have HB:=ay hbel
  have hG3:G<=9223372036854775807:=by unfold maxLen at hG2;omega
  have hnI:(0:Int)<(n:Int):=by omega
  have hn0:¬ ((n:Int)<0):=by omega
  clear hown hbel;go_enter Tryz.func150,Tryz.ntmps150;go_wp2_with (at_builtin;refine Lib.wpList_append_run _ rfl _ _ _ _ rfl _ _ rfl rfl _ _ hrz ?_)
  all_goals (go_ret;exact⟨_,rfl,HO.out,HB.out⟩)
theorem fK.news {P:Nat->Prop}{ad:Addr}{n c:Nat}(h:fK P w (.slice (some ad) n c) l):∀ j u,(l.map encStr)[j]?=some u->w.cell? (ad.add j)=some u:=by
 obtain⟨ao,cap,hv,_,hc⟩:=h.slice;simp only[Value.slice.injEq] at hv;obtain⟨rfl,rfl,rfl⟩:=hv;intro j u hj;rw[List.getElem?_map] at hj;obtain⟨x,hx,rfl⟩:=Option.map_eq_some_iff.1 hj;obtain⟨hjl,rfl⟩:=pE hx;obtain⟨b,off,e,_,_,hcell⟩:=hc (by omega)
 injection e with e
 subst e;rw[Addr.add_lit];exact hcell j hjl
def acI (l:List aH)(w:World)(e:Ending)(w':World):Prop:=∃ v,e=.returned v/\II w.heap.size w' v l/\Below w.heap.size w w'
theorem TU (l:List aH):∀ u∈l.map encStr,u.oneCell'=true:=by
 intro u hu;obtain⟨x,_,rfl⟩:=List.mem_map.1 hu
 rfl
theorem II.app {B:Nat}{a:List aH}(h:w.ownsRow B 9 1 v (l.length+a.length) (l.map encStr++a.map encStr)):II B w v (l++a):=by
 unfold II;rw[bY,xZ];exact h
theorem RN (P:Nat->Prop)(v1 v2:Value)(a b:List aH)(sb:Nat)(w:World)(h1:fK P w v1 a)(h2:fK P w v2 b)(hs:w.heap[sb]?=some (.cells #[v1,v2] 41 (0,0)))(ha:a.length<=1000000)(hb:b.length<=1000000) :
  Calls Tryz.prog 100 #[.slice (some ⟨sb,0,none⟩) 2 2] w (acI (a++b) w):=by
 obtain⟨i0,hi,hz0,hz1,hz2⟩:=info_parts Tryz.TT;obtain⟨a1,c1,rfl,hc1,-⟩:=h1.slice;obtain⟨a2,c2,rfl,hc2,-⟩:=h2.slice;have hsl:=(bP hs).1
 have x0:w.cell? ⟨sb,0,none⟩=some (.slice a1 a.length c1):=by rw[aZ hs];rfl
 have x1:w.cell? ⟨sb,1,none⟩=some (.slice a2 b.length c2):=by rw[aZ hs];rfl
 have HG:Hid (Calls Tryz.prog 150 #[.slice none 0 0,.int .i64 ((a.length:Int)+(b.length:Int))] w (Ov w)):=ay (by
  have:=VZ (a.length+b.length) w (by omega);rw[Int.natCast_add] at this
  exact this)
 have H1:=ay h1;have H2:=ay h2;have HS:=ay hs
 have haI:(a.length:Int)<=1000000:=by omega
 have hbI:(b.length:Int)<=1000000:=by omega
 have hnn:¬ ((a.length:Int)+(b.length:Int)<0):=by omega
 have hn1:¬ ((a.length:Int)<0):=by omega
 clear h1 h2 hs;go_enter Tryz.func100,Tryz.ntmps100;go_wp2
 go_loopw [3,5,11] (λs _ q wr=>wr=w/\((q=.int .i64 0/\s=.int .i64 0)\/(q=.int .i64 1/\s=.int .i64 a.length)\/(q=.int .i64 2/\s=.int .i64 ((a.length:Int)+(b.length:Int))))) (λ_ _ q _=>(2 - intOf q).toNat)
 case atStart=>exact⟨rfl,.inl ⟨rfl,rfl⟩⟩
 case round =>
  obtain⟨rfl,⟨rfl,rfl⟩|⟨rfl,rfl⟩|⟨rfl,rfl⟩⟩:=hrel
  ·clear HG H1 H2 HS
   go_wp2
   go_roundw
   case rel=>exact⟨by trivial,.inr (.inl ⟨rfl,by simp⟩)⟩
   case measure=>simp[intOf]
  ·clear HG H1 H2 HS
   go_wp2
   go_roundw
   case rel=>exact⟨by trivial,.inr (.inr ⟨rfl,rfl⟩)⟩
   case measure=>simp[intOf]
  ·clear x0 x1
   obtain⟨w0,rfl⟩:∃ w0:World,w0=wr:=⟨_,rfl⟩
   go_upto_region 10 with (go_at_call 150;refine HG.out.mono ?_;rintro e w2 ⟨v,rfl,hown,hb2⟩)
   obtain⟨ak0,ck0,rfl⟩:=hown.slice;have HO:=ay hown;have HB2:=ay hb2;clear hown hb2 HG;go_wp2
   go_loopw [6,8,27] (λkv _ q w3=>∃ (ak:Option Addr) (ck:Nat) (l:List aH),kv=.slice ak l.length ck/\II w0.heap.size w3 (.slice ak l.length ck) l/\Below w0.heap.size w0 w3/\((q=.int .i64 0/\l=[])\/(q=.int .i64 1/\l=a)\/(q=.int .i64 2/\l=a++b))) (λ_ _ q _=>(2 - intOf q).toNat)
   case atStart=>exact⟨ak0,ck0,[],rfl,HO.out,HB2.out,.inl ⟨rfl,rfl⟩⟩
   case round =>
    obtain⟨ak,ck,l,rfl,hown,hbl,⟨rfl,rfl⟩|⟨rfl,hla⟩|⟨rfl,rfl⟩⟩:=hrel
    ·-- round 0
     have hsc:wr.cell? ⟨sb,0,none⟩=some (.slice a1 a.length c1):=by rw[aZ ((hbl.block sb hsl).trans HS.out)];rfl
     have ht:=H1.out.below hbl;have DY:=hbl.size
     cases a1 with
     | none =>
      obtain rfl:=ht.2 _ _ rfl
      have hl0:a.length=0:=by
       obtain⟨ao,cap,hv,_,hc⟩:=ht.slice
       rcases Nat.eq_zero_or_pos a.length with q|q
       ·exact q
       ·obtain⟨b,off,e,_⟩:=hc q
        simp only[Value.slice.injEq] at hv;rw[<- hv.1] at e;cases e
      have he:=List.eq_nil_of_length_eq_zero hl0;rw[hl0] at hsc;have HW:=ay hown;have HE:=ay he;clear ht hown he hl0 H1 H2;go_wp2_with (at_builtin;refine wpList_append_own_none rfl _ _ 41 rfl w0.heap.size 9 i0 1 Tryz.underlying41 hi _ ([]:List aH).length _ rfl HW.out rfl ?_)
      go_roundw
      case rel =>
       repeat apply Exists.intro
       exact⟨⟨_,_,_,rfl,HW.out,hbl,.inr (.inl ⟨rfl,HE.out.symm⟩)⟩,rfl⟩
      case measure=>simp[intOf]
     | some ad =>
      have hnews:=ht.news;have HW:=ay hown;clear ht H1 H2;go_wp2_with (at_builtin;refine wpList_append_own _ rfl _ _ 41 rfl w0.heap.size 9 i0 _ 1 16 Tryz.underlying41 hi hz0 hz1 hz2 rfl (by decide) _ ([]:List aH).length _ rfl HW.out ad a.length c1 (a.map encStr) rfl ?q1 hnews (TU _) ?q2 ?q3 DY ?_)
      case q1=>simp
      case q2=>unfold maxLen;first|omega|(simp only[jC];omega)
      case q3=>first|omega|(simp only[jC];omega)
      intro v' w' hown' hgrow hiff;have hb':=hbl.grown hgrow DY (λb q=>(HW.out.lt b q).1);have HO':Hid (II w0.heap.size w' v' a):=ay hown';obtain⟨Le,Lf,rfl⟩:=HO'.out.slice;clear hown' hgrow hiff hown HW hnews;go_wp2
      go_roundw
      case rel =>
       repeat apply Exists.intro
       exact⟨⟨_,_,_,rfl,HO'.out,hb',.inr (.inl ⟨rfl,rfl⟩)⟩,rfl⟩
      case measure=>simp[intOf]
    ·-- round 1
     have ajg:l.length<=1000000:=by rw[hla];exact ha
     have HLA:=ay hla;clear hla
     have hsc:wr.cell? ⟨sb,1,none⟩=some (.slice a2 b.length c2):=by rw[aZ ((hbl.block sb hsl).trans HS.out)];rfl
     have ht:=H2.out.below hbl;have DY:=hbl.size
     cases a2 with
     | none =>
      obtain rfl:=ht.2 _ _ rfl
      have hl0:b.length=0:=by
       obtain⟨ao,cap,hv,_,hc⟩:=ht.slice
       rcases Nat.eq_zero_or_pos b.length with q|q
       ·exact q
       ·obtain⟨b,off,e,_⟩:=hc q
        simp only[Value.slice.injEq] at hv;rw[<- hv.1] at e;cases e
      have he:=List.eq_nil_of_length_eq_zero hl0;rw[hl0] at hsc;have HW:=ay hown;have HE:=ay he;clear ht hown he hl0 H1 H2;go_wp2_with (at_builtin;refine wpList_append_own_none rfl _ _ 41 rfl w0.heap.size 9 i0 1 Tryz.underlying41 hi _ l.length _ rfl HW.out rfl ?_)
      go_roundw
      case rel =>
       repeat apply Exists.intro
       exact⟨⟨_,_,_,rfl,HW.out,hbl,.inr (.inr ⟨rfl,by rw[HE.out,List.append_nil,HLA.out]⟩)⟩,rfl⟩
      case measure=>simp[intOf]
     | some ad =>
      have hnews:=ht.news;have HW:=ay hown;clear ht H1 H2;go_wp2_with (at_builtin;refine wpList_append_own _ rfl _ _ 41 rfl w0.heap.size 9 i0 _ 1 16 Tryz.underlying41 hi hz0 hz1 hz2 rfl (by decide) _ l.length _ rfl HW.out ad b.length c2 (b.map encStr) rfl ?q1 hnews (TU _) ?q2 ?q3 DY ?_)
      case q1=>simp
      case q2=>unfold maxLen;first|omega|(simp only[jC];omega)
      case q3=>first|omega|(simp only[jC];omega)
      intro v' w' hown' hgrow hiff;have hb':=hbl.grown hgrow DY (λb q=>(HW.out.lt b q).1);have HO':=ay (II.app (l:=l) (a:=b) hown');obtain⟨Le,Lf,rfl⟩:=HO'.out.slice;clear hown' hgrow hiff hown HW hnews;go_wp2
      go_roundw
      case rel =>
       repeat apply Exists.intro
       exact⟨⟨_,_,_,rfl,HO'.out,hb',.inr (.inr ⟨rfl,by rw[HLA.out]⟩)⟩,rfl⟩
      case measure=>simp[intOf]
    ·have HW:=ay hown
     clear hown H1 H2;go_wp2;go_ret;exact⟨_,rfl,HW.out,hbl⟩
theorem aem {b:Nat}{u:Value}(h:w.heap[b]?=some (.cells #[v] 120 (0,0))):(w.setCell ⟨b,0,none⟩ u).cell? ⟨b,0,none⟩=some u:=by
 have:=jN w b 0 _ _ u h;rw[aZ this];rfl
theorem Av (P:Nat->Prop)(ao:Option Addr)(c:Nat)(v2:Value)(a b:List aH)(w:World)(h1:fK P w (.slice ao a.length c) a)(h2:fK P w v2 b)(ha:a.length<=500000)(hb:b.length<=500000) :
  Calls Tryz.prog 61 #[.agg #[.slice ao a.length c],v2] w (TP (gD (a++b)) w):=by
 obtain⟨a2,c2,rfl,-,-⟩:=h2.slice;have hal:=(aA w (.cells #[.slice ao a.length c] 120)).alloc (by simp) (.cells #[.slice none 0 0] 120);have hN:=(gZ (w.alloc (.cells #[.slice ao a.length c] 120)) (.cells #[.slice none 0 0] 120) w.heap.size (by simp)).trans (aX w (.cells #[.slice ao a.length c] 120));have hR:=aX (w.alloc (.cells #[.slice ao a.length c] 120)) (.cells #[.slice none 0 0] 120);rw[nG] at hR;have HC:=ay (λW (hW:Below w.heap.size w W)=>RN P (.slice ao a.length c) (.slice a2 b.length c2) a b W.heap.size (W.alloc (.cells #[.slice ao a.length c,.slice a2 b.length c2] 41)) ((h1.below hW).below (aA W _)) ((h2.below hW).below (aA W _)) (aX W _) (by omega) (by omega))
 have hlen:(a++b).length<=1000000:=by rw[bY];omega
 clear h1 h2;go_enter Tryz.func61,Tryz.ntmps61
 go_upto_region 1 with fail
 change Code.wp _ _ _ _ ((w.alloc (.cells #[.slice ao a.length c] 120)).alloc (.cells #[.slice none 0 0] 120));generalize (w.alloc _).alloc _=w1 at hal hN hR |-;have hlR:=(bP hR).1;have c0:=(bN hN).1;have hz1:=hal.size;have Jo:=ay (HC.out w1 hal);clear HC hN;go_wp2_with (first|(go_at_call 100;refine Jo.out.mono ?_;rintro e w2 ⟨v,rfl,hown,hb2⟩;have yu:=(aA w1 (.cells #[.slice ao a.length c,.slice a2 b.length c2] 41)).trans (hb2.mono (by simp));have hz2:=yu.size;have HOF:=ay (aei (λ_=>True) v (a++b) w2 (fK.owns hown (λ_ _=>trivial)) hlen))|(go_at_call 94;refine HOF.out.mono ?_;rintro e w3 ⟨ar,cr,rfl,htx,hb3⟩;have KA:=yu.trans (hb3.mono hz2);have hR3:=(KA.block _ hlR).trans hR;have hfz:=(bN hR3).2;have hc0:=(bN hR3).1));have hs0:=aem (u:=.slice ar (gD (a++b)).length cr) hR3;have hbw:Below w.heap.size w (w3.setCell ⟨w.heap.size+1,0,none⟩ (.slice ar (gD (a++b)).length cr)):=(hal.trans (KA.mono hz1)).setCell (by show w.heap.size<=w.heap.size+1;omega) _
 have aej:fK (λb=>w.heap.size<=b) (w3.setCell ⟨w.heap.size+1,0,none⟩ (.slice ar (gD (a++b)).length cr)) (.slice ar (gD (a++b)).length cr) (gD (a++b)):=(htx.frame (aW.set _ λk hk=>by show k≠w.heap.size+1;omega)).imp λk hk _=>by omega
 exact nI (v:=.agg #[.slice ar (gD (a++b)).length cr]) (by simp[results,Tryz.results61,go_sem,hs0]) rfl ⟨_,_,rfl,aej,hbw⟩
open Go.RowKit Go Go.Sort
variable{f:Fl}{im:Value}{lb b B ce wn cm cc cp:Nat}{w':World}{P:Nat->Prop}{l:ML}{ae am ac ap:Option Addr}{d:ZD}
def DZ (f:Fl):Int:=match f with
 | none=>0
 | some x=>x.1
def F8 (f:Fl):Int:=match f with
 | none=>0
 | some x=>x.2
def bq (f:Fl):Prop:=∀ x,f=some x->x.1≠0
theorem bq.none:bq none:=λ_ h=>by cases h
theorem bq.some {e a:Int}(h:e≠0):bq (some (e,a)):=λx q=>by injection q with q;subst q;exact h
theorem bq.or {g:Fl}(h:bq f)(k:bq g):bq (kY f g):=by cases f<;>assumption
structure PU where
 md:aH
 pi:Value
 pd:Value
 fs:Value
 db:Nat
def acJ (C:PU)(im:Value)(f:Fl):Array Value:=#[.string ⟨C.md.toArray⟩,C.pi,C.pd,C.fs,im,.pointer (some ⟨C.db,0,none⟩),.int .i64 (DZ f),.int .i64 (F8 f)]
def ku (C:PU)(lb:Nat)(im:Value)(f:Fl)(w:World):Prop:=w.heap[lb]?=some (.cells (acJ C im f) 122 (0,0))
theorem ku.cells {C:PU}(h:ku C lb im f w):(w.cell? ⟨lb,0,none⟩=some (.string ⟨C.md.toArray⟩)/\w.cell? ⟨lb,1,none⟩=some C.pi/\w.cell? ⟨lb,2,none⟩=some C.pd/\w.cell? ⟨lb,3,none⟩=some C.fs/\w.cell? ⟨lb,4,none⟩=some im/\w.cell? ⟨lb,5,none⟩=some (.pointer (some ⟨C.db,0,none⟩))/\w.cell? ⟨lb,6,none⟩=some (.int .i64 (DZ f))/\w.cell? ⟨lb,7,none⟩=some (.int .i64 (F8 f)))/\∀ i,w.frozen? ⟨lb,i,none⟩=false:=by
 refine⟨⟨?_,?_,?_,?_,?_,?_,?_,?_⟩,λi=>by rw[ku] at h;simp[World.frozen?,h]⟩
 all_goals (rw[aZ h];rfl)
theorem ku.lt {C:PU}(h:ku C lb im f w):lb<w.heap.size:=(bP h).1
theorem ku.below {C:PU}(h:ku C lb im f w)(hb:Below w.heap.size w w'):ku C lb im f w':=(hb.block lb h.lt).trans h
def aO (lb:Nat)(w w':World):Prop:=(∀ B,B<=lb->Below B w w')/\aW (λb=>b≠lb) w w'
theorem aO.refl (lb:Nat)(w:World):aO lb w w:=⟨λB _=>bQ B w,aW.refl _ _⟩
theorem aO.trans {lb:Nat}{a b c:World}(h:aO lb a b)(k:aO lb b c):aO lb a c:=⟨λB hB=>(h.1 B hB).trans (k.1 B hB),h.2.trans k.2⟩
theorem aO.of {lb:Nat}{w w':World}(h:Below w.heap.size w w')(hl:lb<w.heap.size):aO lb w w':=⟨λB hB=>h.mono (by omega),aW.of h⟩
theorem aO.set {lb:Nat}(w:World)(i:Nat)(v:Value):aO lb w (w.setCell ⟨lb,i,none⟩ v):=⟨λB hB=>(bQ B w).setCell hB v,aW.set v λb hb=>hb⟩
def zy (C:PU)(lb:Nat)(im:Value)(f:Fl)(w:World)(r:Ending)(w':World):Prop:=r=.returned (.tuple #[])/\ku C lb im f w'/\aO lb w w'
theorem oZ (C:PU)(lb:Nat)(im:Value)(f:Fl)(e a:Int)(w:World)(h:ku C lb im f w)(hf:bq f) :
  Calls Tryz.prog 37 #[.pointer (some ⟨lb,0,none⟩),.int .i64 e,.int .i64 a] w (zy C lb im (kY f (some (e,a))) w):=by
 obtain⟨⟨-,-,-,-,-,-,c6,c7⟩,hz⟩:=h.cells;have z6:=hz 6;have z7:=hz 7;have H:=ay h;clear hz h
 cases f with
 | none =>
  simp only[DZ,F8] at c6 c7;have h2:ku C lb im (kY none (some (e,a))) ((w.setCell ⟨lb,6,none⟩ (.int .i64 e)).setCell ⟨lb,7,none⟩ (.int .i64 a)):=jN _ lb 7 _ _ _ (jN w lb 6 _ _ _ H.out);have H2:=ay h2;clear h2;go_enter Tryz.func37,Tryz.ntmps37;go_wp2
  go_end0
  exact⟨rfl,H2.out,(aO.set w 6 _).trans (aO.set _ 7 _)⟩
 | some x =>
  have hx:(x.1 == 0)=false:=by
   have:=hf x rfl
   simpa using this
  simp only[DZ,F8] at c6 c7;generalize x.1=xe at c6 hx
  have hx':¬ xe=0:=by simpa using hx
  clear hx c7;go_enter Tryz.func37,Tryz.ntmps37;go_wp2
  go_end0
  exact⟨rfl,H.out,aO.refl _ _⟩
def TV:RK aH Unit where
 sz:=2
 cells m _:=[.string ⟨m.toArray⟩,.slice none 0 0]
 inn _ _ _ _:=True
 len _ _:=rfl
 frame _ _:=trivial
 imp _ _:=trivial
theorem mG {u:Value}(h:w.heap[b]?=some (.cells #[u,v] 108 (0,0))):w.cell? ⟨b,0,none⟩=some u/\w.cell? ⟨b,1,none⟩=some v:=⟨by rw[aZ h];rfl,by rw[aZ h];rfl⟩
theorem JQ (P:Nat->Prop)(af:Option Addr)(cf:Nat)(ms:List aH)(m n:aH)(w:World)(h:RowK TV P w (.slice af ms.length cf) ms)(hl:ms.length<=1000000) :
  Calls Tryz.prog 101 #[.slice af ms.length cf,.string ⟨m.toArray⟩,.string ⟨n.toArray⟩] w λe w'=>e=.returned (.tuple #[.agg #[.string ⟨#[]⟩,.slice none 0 0,.int .i64 0,.slice none 0 0],.bool false])/\Below w.heap.size w w':=by
 obtain⟨ao',cap,hv,_,hf⟩:=h.form;simp only[Value.slice.injEq] at hv;obtain⟨rfl,-,rfl⟩:=hv;have hal:=aA w (.cells #[.string ⟨#[]⟩,.slice none 0 0,.int .i64 0,.slice none 0 0] 115);have hR:=aX w (.cells #[.string ⟨#[]⟩,.slice none 0 0,.int .i64 0,.slice none 0 0] 115);have HF:=ay hf;clear h hf;go_enter Tryz.func101,Tryz.ntmps101
 go_upto_region 1 with fail
 change Code.wp _ _ _ _ (w.alloc (.cells #[.string ⟨#[]⟩,.slice none 0 0,.int .i64 0,.slice none 0 0] 115))
 have hz:w.heap.size<(w.alloc (.cells #[.string ⟨#[]⟩,.slice none 0 0,.int .i64 0,.slice none 0 0] 115)).heap.size:=by simp
 generalize w.alloc _=w1 at *;have hz1:=hal.size
 have V3:Hid (∀ W,Below w1.heap.size w1 W->W.heap[w.heap.size]?=some (.cells #[.string ⟨#[]⟩,.slice none 0 0,.int .i64 0,.slice none 0 0] 115 (0,0))/\Below w.heap.size w W):=ay λW hW=>⟨(hW.block _ hz).trans hR,hal.trans (hW.mono hz1)⟩
 clear hR;go_wp2
 go_loopw [9,11,14] (λ_ _ q wr=>∃ k:Nat,k<=ms.length/\q=.int .i64 k/\Below w1.heap.size w1 wr) (λ_ _ q _=>ms.length - (intOf q).toNat)
 case atStart=>exact⟨0,kJ _,rfl,bQ _ _⟩
 case round =>
  obtain⟨k,hk,rfl,hbl⟩:=hrel;have DY:=hbl.size
  by_cases hlt:k<ms.length
  ·obtain⟨b,off,rfl,_,hbw,hcell⟩:=HF.out (by omega)
   obtain⟨_,_,hc⟩:=hcell k hlt;have x0:=((hal.trans (hbl.mono hz1)).cell (p:=⟨b,off+k * 2+0,none⟩) hbw).trans (hc 0 _ rfl);have x1:=((hal.trans (hbl.mono hz1)).cell (p:=⟨b,off+k * 2+1,none⟩) hbw).trans (hc 1 _ rfl);rw[nZ] at x0
   have nK:(k:Int)<(ms.length:Int):=by omega
   clear hc hcell;generalize ms[k]=y at *;have cO:=aA wr (.cells #[.string ⟨y.toArray⟩,.slice none 0 0] 108);have hN:=aX wr (.cells #[.string ⟨y.toArray⟩,.slice none 0 0] 108)
   go_upto_region 4 with fail
   change Code.wp _ _ _ _ (wr.alloc (.cells #[.string ⟨y.toArray⟩,.slice none 0 0] 108));clear x0 x1;generalize wr.alloc (.cells #[.string ⟨y.toArray⟩,.slice none 0 0] 108)=w2 at *;have hb2:=hbl.trans (cO.mono DY);obtain⟨y0,y1⟩:=mG hN
   go_upto_if 21 with fail
   cases hym:y == m with
   | false =>
    clear hym;go_wp2
    go_roundw
    case rel=>exact⟨k+1,by omega,by go_num,hb2⟩
    case measure=>simp[intOf];omega
   | true =>
    clear hym;obtain⟨hRr,kQ⟩:=V3.out w2 hb2;obtain⟨⟨c0,c1,c2,c3⟩,f0,f1,f2,f3⟩:=mF hRr;go_wp2
    go_loopw [25] (λq wr=>q=.int .i64 0/\wr=w2) (λq _=>0)
    case atStart=>exact⟨rfl,rfl⟩
    case round =>
     obtain⟨rfl,rfl⟩:=hrel;go_wp2;change bodyPost _ _ _ _ _ (qA wr w.heap.size (.string ⟨#[]⟩) (.slice none 0 0) (.int .i64 0) (.slice none 0 0));have hP:=iM hRr (.string ⟨#[]⟩) (.slice none 0 0) (.int .i64 0) (.slice none 0 0);have H8:=fZ kQ (bD _) (.string ⟨#[]⟩) (.slice none 0 0) (.int .i64 0) (.slice none 0 0);generalize qA wr _ _ _ _ _=w4 at *;obtain⟨⟨d0,d1,d2,d3⟩,-⟩:=mF hP;exact nI (v:=.tuple #[.agg #[.string ⟨#[]⟩,.slice none 0 0,.int .i64 0,.slice none 0 0],.bool false]) (by simp[results,Tryz.results101,go_sem,d0,d1,d2,d3]) rfl ⟨rfl,H8⟩
  ·obtain rfl:k=ms.length:=by omega
   have nK:decide ((ms.length:Int)<(ms.length:Int))=false:=dX (by omega);obtain⟨hRr,hbw⟩:=V3.out wr hbl;obtain⟨⟨c0,c1,c2,c3⟩,f0,f1,f2,f3⟩:=mF hRr;go_wp2;change bodyPost _ _ _ _ _ (qA wr w.heap.size (.string ⟨#[]⟩) (.slice none 0 0) (.int .i64 0) (.slice none 0 0));have hP:=iM hRr (.string ⟨#[]⟩) (.slice none 0 0) (.int .i64 0) (.slice none 0 0);have H8:=fZ hbw (bD _) (.string ⟨#[]⟩) (.slice none 0 0) (.int .i64 0) (.slice none 0 0);generalize qA wr _ _ _ _ _=w4 at *;obtain⟨⟨d0,d1,d2,d3⟩,-⟩:=mF hP;exact nI (v:=.tuple #[.agg #[.string ⟨#[]⟩,.slice none 0 0,.int .i64 0,.slice none 0 0],.bool false]) (by simp[results,Tryz.results101,go_sem,d0,d1,d2,d3]) rfl ⟨rfl,H8⟩
def aen:Option (List Value)->Option Nat->Prop
 | none,none=>True
 | some vs,some n=>∃ s a c b u,vs=[s,.slice a n c,b,u]
 | _,_=>False
structure ScM (E:SE) (C:PU) (lb B:Nat) (im:Value) (w:World):Prop where
 map:∃ mv ml,zx B C.db mv ml w/\ml.length<=1000000/\∀ nm,aen (oh ml nm) (E.arity nm)
 imps:fK (λb=>b≠lb) w im E.imps
 rise:E.imps.Pairwise (· < ·)
 few:E.imps.length<=500000
 faces:∃ ms:List aH,ms.length<=1000000/\RowK TV (λb=>b≠lb) w C.fs ms
 ext:E.ext=λ_ _=>none
theorem acK {e sz n:Nat}{xs:List Value}(h:w.ownsRow B e sz v n xs)(ha:aW P w w')(hP:∀ b,some b=v.ownBlock->P b):w'.ownsRow B e sz v n xs:=by
 obtain⟨hl,h⟩:=h;refine⟨hl,?_⟩
 rcases h with h|⟨g,cap,cur,rfl,hg,hh,hn⟩
 ·exact .inl h
 ·exact .inr ⟨g,cap,cur,rfl,hg,(ha.2 g (hP g rfl) (bP hh).1).trans hh,hn⟩
theorem zx.alk {mb:Nat}(h:zx B mb v l w)(ha:aW P w w')(hm:P mb)(hP:∀ b,some b=v.ownBlock->P b):zx B mb v l w' :=
 ⟨h.wf,(ha.2 mb hm (bP h.box).1).trans h.box,acK h.own ha hP⟩
theorem ScM.keep {E:SE}{C:PU}(h:ScM E C lb B im w)(hl:ku C lb im f w)(ha:aW (λb=>b≠lb) w w'):ScM E C lb B im w':=by
 obtain⟨⟨mv,ml,h1,h2,h3⟩,h4,h5,h6,⟨ms,h7,h8⟩,h9⟩:=h;refine⟨⟨mv,ml,h1.alk ha (λq=>?_) (λb hb q=>?_),h2,h3⟩,h4.frame ha,h5,h6,⟨ms,h7,h8.frame ha⟩,h9⟩
 ·have h0:=h1.box
  rw[q,hl] at h0;simp only[Option.some.injEq,Obj.cells.injEq] at h0;exact absurd h0.2.1 (by decide)
 ·subst q
  exact own_ne h1.own hl (by decide) hb
theorem Zg {x:aH}{k:Nat}(hw:xR k l){ar:Option Nat}(h:aen (oh l x) ar):∃ (s b u:Value) (a:Option Addr) (n c:Nat) (fd:Bool),(∀ W e w',BU l x W e w'->e=.returned (.tuple #[.agg #[s,.slice a n c,b,u],.bool fd])/\Below W.heap.size W w')/\(s.oneCell'=true/\b.oneCell'=true/\u.oneCell'=true)/\∀ kn at_,FZ ar kn at_=if fd=true then (if n=kn then none else some (32,at_)) else some (31,at_):=by
 cases hg:oh l x with
 | none =>
  rw[hg] at h
  cases ar with
  | some n=>exact h.elim
  | none =>
   refine⟨.string ⟨#[]⟩,.int .i64 0,.slice none 0 0,none,0,0,false,λW e w' q=>?_,⟨rfl,rfl,rfl⟩,λkn at_=>rfl⟩;unfold BU at q;rw[hg] at q;exact q
 | some vs =>
  rw[hg] at h
  cases ar with
  | none=>exact h.elim
  | some n =>
   obtain⟨s,a,c,b,u,rfl⟩:=h
   have hone:∀ y∈[s,Value.slice a n c,b,u],y.oneCell'=true:=by
    unfold oh at hg;obtain⟨p,hp,hq⟩:=Option.map_eq_some_iff.1 hg;rw[<- hq];exact hw.one p (List.mem_of_find?_eq_some hp)
   refine⟨s,b,u,a,n,c,true,λW e w' q=>?_,⟨hone s (by simp),hone b (by simp),hone u (by simp)⟩,λkn at_=>rfl⟩;unfold BU at q;rw[hg] at q;exact q
theorem Ga (w:World)(b k:Nat)(v0 v1 v2 v3:Value)(h:k≠b):(qA w b v0 v1 v2 v3).heap[k]?=w.heap[k]? :=
 (qm _ _ _ _ h).trans ((qm _ _ _ _ h).trans ((qm _ _ _ _ h).trans (qm _ _ _ _ h)))
theorem mH (w:World)(b c i:Nat)(v0 v1 v2 v3:Value)(h:c≠b):((((w.setCell ⟨b,0,none⟩ v0).setCell ⟨b,1,none⟩ v1).setCell ⟨b,2,none⟩ v2).setCell ⟨b,3,none⟩ v3).cell? ⟨c,i,none⟩=w.cell? ⟨c,i,none⟩ :=
 yK (a:=⟨c,i,none⟩) ((qm _ _ _ _ h).trans ((qm _ _ _ _ h).trans ((qm _ _ _ _ h).trans (qm _ _ _ _ h))))
theorem V4 (E:SE)(C:PU)(lb B:Nat)(im:Value)(f:Fl)(op:Int)(nm md:aH)(ng ys:Bool)(mv:Value)(ae:Option Addr)(n ce:Nat)(a_:Int)(w:World)(hL:ku C lb im f w)(hM:ScM E C lb B im w)(hf:bq f) :
  Calls Tryz.prog 130 #[.pointer (some ⟨lb,0,none⟩),.agg (aR op ⟨nm.toArray⟩ ⟨md.toArray⟩ ng mv ys (.slice ae n ce) a_)] w (zy C lb im (kY f (JM E nm md n a_)) w):=by
 have hal:=aA w (.cells (aR op ⟨nm.toArray⟩ ⟨md.toArray⟩ ng mv ys (.slice ae n ce) a_) 60);have hN:=aX w (.cells (aR op ⟨nm.toArray⟩ ⟨md.toArray⟩ ng mv ys (.slice ae n ce) a_) 60);have hL1:=hL.below hal;have hM1:=hM.keep hL (aW.of hal);have hk1:=aO.of hal hL.lt;obtain⟨⟨mv',ml,hm1,hm2,hm3⟩,hi1,hi2,hi3,⟨ms,hs1,hs2⟩,hx⟩:=hM1;obtain⟨s,b,u,a,np,c,fd,hget,⟨o1,o2,o3⟩,har⟩:=Zg hm1.wf (hm3 nm);have HG:=ay (λW (hW:Below (w.alloc (.cells (aR op ⟨nm.toArray⟩ ⟨md.toArray⟩ ng mv ys (.slice ae n ce) a_) 60)).heap.size (w.alloc (.cells (aR op ⟨nm.toArray⟩ ⟨md.toArray⟩ ng mv ys (.slice ae n ce) a_) 60)) W)=>(Ot B C.db mv' ml nm W (hm1.below hW) hm2).mono λe w' q=>hget W e w' q);obtain⟨ai,ci,rfl,-,-⟩:=hi1.slice;have HH:=ay (λW (hW:Below (w.alloc (.cells (aR op ⟨nm.toArray⟩ ⟨md.toArray⟩ ng mv ys (.slice ae n ce) a_) 60)).heap.size (w.alloc (.cells (aR op ⟨nm.toArray⟩ ⟨md.toArray⟩ ng mv ys (.slice ae n ce) a_) 60)) W)=>Ar _ ai ci E.imps ⟨md.toArray⟩ W (hi1.below hW) hi2 (by omega));obtain⟨af,cf,hfs⟩:=hs2.slice;have HF:=ay (λW (hW:Below (w.alloc (.cells (aR op ⟨nm.toArray⟩ ⟨md.toArray⟩ ng mv ys (.slice ae n ce) a_) 60)).heap.size (w.alloc (.cells (aR op ⟨nm.toArray⟩ ⟨md.toArray⟩ ng mv ys (.slice ae n ce) a_) 60)) W)=>JQ _ af cf ms md nm W (by rw[<- hfs];exact hs2.frame (aW.of hW)) hs1);have HFS:=ay hfs
 have hcf:∀ q,JM E nm md n q=if md=[] then (if fd=true then (if np=n then none else some (32,q)) else some (31,q)) else if md∈E.imps then some (31,q) else some (33,q):=λq=>by
  unfold JM;rw[har,hx]
  rfl
 rw[hcf]
 obtain⟨R,hR⟩:∃ R,R=kY f (if md=[] then (if fd=true then (if np=n then none else some (32,a_)) else some (31,a_)) else if md∈E.imps then some (31,a_) else some (33,a_)):=⟨_,rfl⟩
 rw[<- hR];have JR:=ay (λW (hW:ku C lb (.slice ai E.imps.length ci) f W) (e:Int)=>oZ C lb (.slice ai E.imps.length ci) f e a_ W hW hf);have hbb:=hL.lt;clear hcf har hx hget hm1 hm2 hm3 hi1 hi2 hi3 hs1 hs2 hM hL hfs hf;generalize E.imps=L at *;have HR:=ay hR;clear hR;simp only at HH;go_enter Tryz.func130,Tryz.ntmps130
 go_upto_region 1 with fail
 change Code.wp _ _ _ _ (w.alloc (.cells (aR op ⟨nm.toArray⟩ ⟨md.toArray⟩ ng mv ys (.slice ae n ce) a_) 60))
 have hz:w.heap.size<(w.alloc (.cells (aR op ⟨nm.toArray⟩ ⟨md.toArray⟩ ng mv ys (.slice ae n ce) a_) 60)).heap.size:=by simp
 generalize w.alloc _=w1 at *;obtain⟨⟨k0,k1',k2,k3,k4,k5,k6,k7⟩,kz⟩:=hL1.cells;obtain⟨y0,y1,y2,y3,y4,y5,y6,y7⟩:=aI hN
 have s1:=λa m W=>run_store Tryz.prog W a s m o1
 have s2:=λa m W=>run_store Tryz.prog W a b m o2
 have s3:=λa m W=>run_store Tryz.prog W a u m o3
 have hn1:lb≠w1.heap.size:=by omega
 have hn2:w.heap.size≠w1.heap.size:=by omega
 have RO:=ay hL1;have HN:=ay hN;clear hL1 hN kz
 go_cut [4,5] (λp q wc=>∃ Y:Nat,p=.pointer (some ⟨Y,0,none⟩)/\q=.bool fd/\wc.heap[Y]?=some (.cells #[s,.slice a np c,b,u] 115 (0,0))/\w1.heap.size<=Y/\Below w1.heap.size w1 wc)
 case first =>
  go_region_held3 (λW=>W.cell? ⟨lb,5,none⟩=some (.pointer (some ⟨C.db,0,none⟩))/\W.cell? ⟨w.heap.size,1,none⟩=some (.string ⟨nm.toArray⟩))
   (first|(with_reducible exact p3)|(with_reducible exact gy ((mH w2 w1.heap.size lb 5 _ _ _ _ hn1).trans p3.1) ((mH w2 w1.heap.size w.heap.size 1 _ _ _ _ hn2).trans p3.2))|(go_keep;done))
   (first|(go_at_call 36;refine(HG.out _ ?_).mono ?_;(first|exact(bQ _ _).drew|exact((bQ _ _).alloc (bD _) _).drew);rintro e w2 ⟨rfl,hb2⟩;have hq2:Below w1.heap.size w1 w2:=(by first|exact(bQ _ _).drew.trans hb2|exact((bQ _ _).alloc (bD _) _).drew.trans (hb2.mono (by simp)));have p3:=gy (jo hq2 k5) (jo hq2 y1);try (have hT:=(hb2.block w1.heap.size (by simp)).trans (aX w1 (.cells #[.string ⟨#[]⟩,.slice none 0 0,.int .i64 0,.slice none 0 0] 115));obtain⟨⟨t0,t1,t2,t3⟩,g0,g1,g2,g3⟩:=mF hT)))
  ·clear s1 s2 s3
   go_wp2_with fail
   go_meet
   exact⟨w2.heap.size,rfl,rfl,aX w2 _,hq2.size,hq2.alloc hq2.size _⟩
  ·clear s1 s2 s3
   go_wp2_with fail
   go_meet
   exact⟨w1.heap.size,rfl,rfl,iM hT s (.slice a np c) b u,bD _,fZ hq2 (bD _) s (.slice a np c) b u⟩
 case rest =>
  obtain⟨Y,rfl,rfl,hY,hYw,hqc⟩:=hcut
  obtain⟨w2,rfl⟩:∃ w2:World,w2=wc:=⟨_,rfl⟩
  clear k0 k1' k2 k3 k4 k5 k6 k7 y0 y1 y2 y3 y4 y5 y6 y7;have hL2:=RO.out.below hqc;have Ol:=(hqc.block _ hz).trans HN.out;have hzc:=hqc.size;have hk2:=hk1.trans (aO.of hqc (by omega));obtain⟨⟨k0,k1',k2,k3,k4,k5,k6,k7⟩,kz⟩:=hL2.cells;obtain⟨y0,y1,y2,y3,y4,y5,y6,y7⟩:=aI Ol;obtain⟨⟨c0,c1,c2,c3⟩,f0,f1,f2,f3⟩:=mF hY;have HL2:=ay hL2;have HY:=ay hY;have hYl:=(bP hY).1;have HNN:=ay Ol;clear hL2 Ol hY kz HN
  go_upto_if 18 with fail
  cases hmd:md.isEmpty with
  | true =>
   have HR1:Hid (R=kY f (if fd=true then (if np=n then none else some (32,a_)) else some (31,a_))):=ay (by rw[HR.out,bR (List.isEmpty_iff.1 hmd)]);clear hmd s1 s2 s3
   cases fd with
   | false =>
    have HFx:=ay (JR.out w2 HL2.out 31);go_wp2_with (go_at_call 37;refine HFx.out.mono ?_;rintro e w3 ⟨rfl,hl3,eP⟩)
    go_end0
    exact⟨rfl,by rw[HR1.out];exact hl3,hk2.trans eP⟩
   | true =>
    by_cases hnp:np=n
    ·subst hnp
     go_wp2
     go_end0
     exact⟨rfl,by have q:=HL2.out;rw[HR1.out];simpa [qg] using q,hk2⟩
    ·have HR2:Hid (R=kY f (some (32,a_))):=ay (by rw[HR1.out,bR rfl,aU hnp])
     have HFx:=ay (JR.out w2 HL2.out 32);go_wp2_with (go_at_call 37;refine HFx.out.mono ?_;rintro e w3 ⟨rfl,hl3,eP⟩)
     go_end0
     exact⟨rfl,by rw[HR2.out];exact hl3,hk2.trans eP⟩
  | false =>
   have hm0:md≠[]:=λq=>by rw[q] at hmd;cases hmd
   have HHx:=ay (λW (hW:Below w2.heap.size w2 W)=>HH.out W (hqc.trans (hW.mono hzc)));have HFx:=ay (λW (hW:Below w2.heap.size w2 W)=>HF.out W (hqc.trans (hW.mono hzc)))
   obtain⟨bb,aeo⟩:∃ bb,decide (md∈L)=bb:=⟨_,rfl⟩
   rw[aeo] at HHx
   have HR1:Hid (R=kY f (if bb=true then some (31,a_) else some (33,a_))):=ay (by
    rw[HR.out,aU hm0,<- aeo]
    by_cases q:md∈L
    ·rw[bR q,bR (jV q)]
    ·rw[aU q,aU (by simpa using q)])
   have HN2:=ay (show w2.heap[w.heap.size]?=some (.cells (aR op ⟨nm.toArray⟩ ⟨md.toArray⟩ ng mv ys (.slice ae n ce) a_) 60 (0,0)) from HNN.out);clear aeo hm0 s1 s2 s3 HR HH HF
   go_upto_region 3 with fail
   go_cut [26] (λv wc=>v=.bool (!bb)/\Below w2.heap.size w2 wc)
   case first =>
    go_region_with (go_at_call 78;refine(HHx.out _ (bQ _ _).drew).mono ?_;rintro e w3 ⟨rfl,hb3⟩)
    all_goals
     go_wp2_with fail
     go_meet
     exact⟨rfl,(bQ _ _).drew.trans hb3⟩
   case rest =>
    obtain⟨rfl,hq3⟩:=hcut
    obtain⟨w3,rfl⟩:∃ w3:World,w3=wc:=⟨_,rfl⟩
    clear k0 k1' k2 k3 k4 k5 k6 k7 y0 y1 y2 y3 y4 y5 y6 y7 c0 c1 c2 c3 f0 f1 f2 f3 HHx;have hL3:=HL2.out.below hq3;have hN3:=(hq3.block _ (by omega)).trans HN2.out;have hY3:=(hq3.block _ hYl).trans HY.out;have hz3:=hq3.size;have eP:=hk2.trans (aO.of hq3 (by omega));obtain⟨⟨k0,k1',k2,k3,k4,k5,k6,k7⟩,kz⟩:=hL3.cells;obtain⟨y0,y1,y2,y3,y4,y5,y6,y7⟩:=aI hN3;obtain⟨⟨c0,c1,c2,c3⟩,f0,f1,f2,f3⟩:=mF hY3;have IJ:=ay hL3;clear kz
    cases bb with
    | false =>
     have HFx:=ay (JR.out w3 IJ.out 33);have HR2:Hid (R=kY f (some (33,a_))):=ay (by have q:=HR1.out;simpa using q);go_wp2_with (go_at_call 37;refine HFx.out.mono ?_;rintro e w4 ⟨rfl,hl4,hk4⟩)
     go_end0
     exact⟨rfl,by rw[HR2.out];exact hl4,eP.trans hk4⟩
    | true =>
     have HR2:Hid (R=kY f (some (31,a_))):=ay (by have q:=HR1.out;simpa using q);rw[HFS.out] at k3;have HN3:=ay hN3;have HY3:=ay hY3;clear HR1 hN3 hY3;have rX:=hal.trans ((hqc.trans (hq3.mono hzc)).mono hal.size);have ahL:w.heap.size<=Y:=jq hal.size hYw
     have aep:Y<w3.heap.size:=by omega
     go_upto_region 5 with fail
     go_cut [5] (λv wc=>v=.bool false/\ku C lb (.slice ai L.length ci) f wc/\wc.heap[w.heap.size]?=some (.cells (aR op ⟨nm.toArray⟩ ⟨md.toArray⟩ ng mv ys (.slice ae n ce) a_) 60 (0,0))/\Below w.heap.size w wc)
     case first =>
      go_region_with (go_at_call 101;refine(HFx.out _ hq3.drew).mono ?_;rintro e w4 ⟨rfl,hb4⟩;have hY4:=(hb4.block Y aep).trans HY3.out;obtain⟨⟨d0,d1,d2,d3⟩,g0,g1,g2,g3⟩:=mF hY4)
      all_goals
       have BZ:Below w3.heap.size w3 w4:=(bQ _ _).drew.trans hb4
       have HE:Hid (ku C lb (.slice ai L.length ci) f (qA w4 Y (.string ⟨#[]⟩) (.slice none 0 0) (.int .i64 0) (.slice none 0 0))/\(qA w4 Y (.string ⟨#[]⟩) (.slice none 0 0) (.int .i64 0) (.slice none 0 0)).heap[w.heap.size]?=some (.cells (aR op ⟨nm.toArray⟩ ⟨md.toArray⟩ ng mv ys (.slice ae n ce) a_) 60 (0,0))/\Below w.heap.size w (qA w4 Y (.string ⟨#[]⟩) (.slice none 0 0) (.int .i64 0) (.slice none 0 0))) :=
        ay ⟨(Ga w4 Y lb _ _ _ _ (by omega)).trans (IJ.out.below BZ),(Ga w4 Y w.heap.size _ _ _ _ (by omega)).trans ((BZ.block _ (by omega)).trans HN3.out),fZ (rX.trans (BZ.mono rX.size)) ahL _ _ _ _⟩
       clear d0 d1 d2 d3 g0 g1 g2 g3 hY4 k0 k1' k2 k3 k4 k5 k6 k7 y0 y1 y2 y3 y4 y5 y6 y7 c0 c1 c2 c3 f0 f1 f2 f3 hb4 BZ;go_wp2_with fail
       go_meet
       exact⟨rfl,HE.out.1,HE.out.2.1,HE.out.2.2⟩
     case rest =>
      obtain⟨rfl,hl4,hN4,hb4⟩:=hcut
      obtain⟨w4,rfl⟩:∃ w4:World,w4=wc:=⟨_,rfl⟩
      clear k0 k1' k2 k3 k4 k5 k6 k7 y0 y1 y2 y3 y4 y5 y6 y7 c0 c1 c2 c3 f0 f1 f2 f3;obtain⟨y0,y1,y2,y3,y4,y5,y6,y7⟩:=aI hN4;have HFy:=ay (JR.out w4 hl4 31);clear hN4 hl4;go_wp2_with (go_at_call 37;refine HFy.out.mono ?_;rintro e w5 ⟨rfl,hl5,iN⟩)
      go_end0
      exact⟨rfl,by rw[HR2.out];exact hl5,(aO.of hb4 hbb).trans iN⟩
def Lu (x:PZ):Prop:=∀ (E:SE) (C:PU) (lb B:Nat) (im:Value) (f:Fl) (am:Option Addr) (wn cm:Nat) (ae:Option Addr) (ce:Nat) (ab:Option Addr) (cb:Nat) (bd:List aH) (res:Bool) (w:World),ku C lb im f w->ScM E C lb B im w->bq f ->
 l7 YA (λb=>b≠lb) w (.slice am wn cm) (.slice ae x.aB.length ce) x->fK (λb=>b≠lb) w (.slice ab bd.length cb) bd->bd.Pairwise (· < ·)->bd.length+x.size<=500000 ->
 Calls Tryz.prog 84 #[.pointer (some ⟨lb,0,none⟩),.agg (aR x.op ⟨x.name.toArray⟩ ⟨x.module.toArray⟩ (decide (x.num<0)) (.slice am wn cm) x.yes (.slice ae x.aB.length ce) x.at_),.agg #[.slice ab bd.length cb],.bool res] w (zy C lb im (kY f (x.gY E bd res)) w)
theorem Ej (w:World)(x:aH):fK (λ_=>True) (w.alloc (.cells #[.string ⟨x.toArray⟩] 9)) (.slice (some ⟨w.heap.size,0,none⟩) 1 1) [x]:=by
 refine⟨⟨_,1,rfl,bD _,rfl,λ_=>⟨w.heap.size,0,rfl,trivial,by simp,λi hi=>?_⟩⟩,λn c q=>by cases q⟩
 obtain rfl:i=0:=by simpa using hi
 rw[aZ (aX w _)]
 rfl
theorem PZ.Aw (e:PZ):e.size=ou e.aB+1:=by cases e;rw[PZ.size];rfl
theorem wS:∀ {l:List PZ} {k:Nat} (h:k<l.length),l[k].size<=ou l
 | [],_,h=>absurd h (by simp)
 | e :: l,0,_=>by rw[ou];exact Nat.le_add_right _ _
 | e :: l,k+1,h=>by
  rw[ou];have:=wS (l:=l) (k:=k) (by simpa using h);simp only[H9];omega
theorem uU:∀ l:List PZ,l.length<=ou l
 | []=>bD _
 | e :: l=>by
  have h1:=uU l;have h2:=e.Aw;rw[fu,ou];omega
theorem rE (E:SE):∀ (op:Int) (nm md:aH) (n:Nat) (a:Int) (bd:List aH) (res:Bool),bq (wP E bd res op nm md n a):=λop nm md n a bd res=>by
 have hA:∀ o,bq (FZ o n a):=λo=>by
  unfold FZ
  split
  ·exact bq.some (by decide)
  ·split
   ·exact bq.none
   ·exact bq.some (by decide)
 unfold wP
 split
 ·exact bq.some (by decide)
 ·split
  ·unfold JM
   split
   ·exact hA _
   ·split
    ·exact hA _
    ·exact bq.some (by decide)
  ·exact bq.none
mutual
theorem PZ.rE (E:SE)(bd:List aH)(res:Bool):∀ e:PZ,bq (e.gY E bd res)
 | .mk op nm md _ _ aB a=>by rw[PZ.gY];exact(Go.Proofs.YtmleecdnkmoohaaGreatDoor.rE E op nm md aB.length a bd res).or (Ca E op nm bd res aB 0)
theorem Ca (E:SE)(op:Int)(nm:aH)(bd:List aH)(res:Bool):∀ (l:List PZ) (i:Nat),bq (iy E op nm bd res i l)
 | [],i=>by rw[iy];exact bq.none
 | e :: l,i=>by rw[iy];exact(PZ.rE E _ res e).or (Ca E op nm bd res l (i+1))
end
theorem RP (x:PZ)(Ow:∀ k∈x.aB,Lu k):Lu x:=by
 intro E C lb B im f am wn cm ae ce ab cb bd res w hL hM hf hZ hT hr hn;have hal:=(aA w (.cells (aR x.op ⟨x.name.toArray⟩ ⟨x.module.toArray⟩ (decide (x.num<0)) (.slice am wn cm) x.yes (.slice ae x.aB.length ce) x.at_) 60)).alloc (by simp) (.cells #[.slice ab bd.length cb] 120);have g0:=(gZ (w.alloc (.cells (aR x.op ⟨x.name.toArray⟩ ⟨x.module.toArray⟩ (decide (x.num<0)) (.slice am wn cm) x.yes (.slice ae x.aB.length ce) x.at_) 60)) (.cells #[.slice ab bd.length cb] 120) w.heap.size (by simp)).trans (aX w (.cells (aR x.op ⟨x.name.toArray⟩ ⟨x.module.toArray⟩ (decide (x.num<0)) (.slice am wn cm) x.yes (.slice ae x.aB.length ce) x.at_) 60));have g1:=aX (w.alloc (.cells (aR x.op ⟨x.name.toArray⟩ ⟨x.module.toArray⟩ (decide (x.num<0)) (.slice am wn cm) x.yes (.slice ae x.aB.length ce) x.at_) 60)) (.cells #[.slice ab bd.length cb] 120);rw[nG] at g1;have hhd:=rE E x.op x.name x.module x.aB.length x.at_ bd res;have hdef:=x.RF E bd res;have hks:=x.Aw;have hkl:=uU x.aB
 have hcap:=λi (hi:i<x.aB.length)=>wS hi
 obtain⟨_,PN,PO,hv,_,hform⟩:=hZ.form;simp only[Value.slice.injEq] at hv;obtain⟨rfl,-,rfl⟩:=hv;have Vj:=hL.lt;have hL1:=hL.below hal;have hM1:=hM.keep hL (aW.of hal);have hT1:=hT.below hal;have HF:=ay hform;have HSZ:=ay hcap;have IH:=ay Ow;have sU:=ay hdef;have HR:=ay hr;have Ay:=ay hf;rw[hks] at hn;clear hL hM hT hZ hr hf hform hcap Ow hdef hks
 obtain⟨R,hR⟩:∃ R,R=x.gY E bd res:=⟨_,rfl⟩
 rw[<- hR] at sU |-;clear hR;generalize hop:x.op=op at *;generalize hnm:x.name=nm at *;generalize hmd:x.module=md at *;generalize hat:x.at_=a_ at *;generalize hkk:x.aB=ks at *;clear hop hnm hmd hat hkk;generalize decide (x.num<0)=ng at *;generalize x.yes=ys at *;have HX:=ay (λW (hW:Below w.heap.size w W)=>hW);go_enter Tryz.func84,Tryz.ntmps84
 go_upto_block 0 with fail
 change Code.wp _ _ _ _ ((w.alloc _).alloc (.cells #[.slice ab bd.length cb] 120));generalize (w.alloc _).alloc (.cells #[.slice ab bd.length cb] 120)=w1 at *;have hz1:=hal.size;have hl1:=(bP g1).1;have hk1:=aO.of hal Vj;obtain⟨y0,y1,y2,y3,y4,y5,y6,y7⟩:=aI g0;obtain⟨r0,rz⟩:=bN g1;have RO:=ay hL1;have Zh:=ay hM1;have HT1:=ay hT1;have HG:=ay (gy g0 g1);clear hL1 hM1 hT1 g0 g1 HX
 obtain⟨A,hA⟩:∃ A,A=(decide (op=3) && !decide (nm∈bd)):=⟨_,rfl⟩
 obtain⟨T,hTT⟩:∃ T,T=decide ((op=3/\nm ∉ bd)\/(op=4/\res=false)):=⟨_,rfl⟩
 have HA:=ay hA;have Me:=ay hTT;clear hA hTT
 obtain⟨f1,hf1⟩:∃ f1,f1=kY f (wP E bd res op nm md ks.length a_):=⟨_,rfl⟩
 have D5:=ay hf1
 have Ox:bq f1:=by rw[hf1];exact Ay.out.or hhd
 have V5:=ay Ox;clear hf1 Ox hhd
 have ajh:lb<w1.heap.size:=by omega
 go_cut [] (λwc=>ku C lb im f1 wc/\aO lb w1 wc)
 case first =>
  go_upto_region 1 with fail
  go_cut [10] (λv wc=>v=.bool A/\Below w1.heap.size w1 wc)
  case first =>
   have HH:=ay (Ar _ ab cb bd ⟨nm.toArray⟩ w1 HT1.out HR.out (by omega));simp only at HH
   obtain⟨m,hm⟩:∃ m,m=decide (nm∈bd):=⟨_,rfl⟩
   rw[<- hm] at HH HA;clear hm
   by_cases h3:op=3
   ·have h3I:((op:Int) == 3)=true:=by simp[h3]
    have HA1:Hid (A=!m):=ay (by rw[HA.out,jV h3];rfl);clear h3 HA;go_wp2_with (go_at_call 78;refine HH.out.mono ?_;rintro e w2 ⟨rfl,hb2⟩)
    go_meet
    exact⟨by rw[HA1.out],hb2⟩
   ·have h3I:((op:Int) == 3)=false:=by simp[h3]
    have HA1:Hid (A=false):=ay (by rw[HA.out,dX h3];rfl);clear h3 HA HH;go_wp2
    go_meet
    exact⟨by rw[HA1.out],bQ _ _⟩
  case rest =>
   obtain⟨rfl,hb2⟩:=hcut
   obtain⟨w2,rfl⟩:∃ w2:World,w2=wc:=⟨_,rfl⟩
   clear y0 y1 y2 y3 y4 y5 y6 y7 r0 rz;have hz2:=hb2.size;have g0:=(hb2.block _ (by omega)).trans HG.out.1;have g1:=(hb2.block _ hl1).trans HG.out.2;have HG2:=ay (gy g0 g1);obtain⟨y0,y1,y2,y3,y4,y5,y6,y7⟩:=aI g0;clear g0 g1
   go_upto_if 10 with fail
   go_cut [10] (λv wc=>v=.bool T/\w2=wc)
   case first =>
    cases A with
    | true =>
     have HT1:Hid (T=true):=ay (by
      have h1:=HA.out;rw[Me.out];simp only[Bool.true_eq,uw,AZ,Bool.not_eq_true',decide_eq_false_iff_not] at h1
      exact jV (.inl h1))
     go_wp2
     go_meet
     exact⟨by rw[HT1.out],rfl⟩
    | false =>
     have HT1:Hid (T=(decide (op=4) && !res)):=ay (by
      have h1:=HA.out;rw[Me.out]
      have h2:¬ (op=3/\nm ∉ bd):=λq=>by rw[jV q.1,dX q.2] at h1;cases h1
      by_cases h4:op=4
      ·cases res<;>simp[h4,h2]
      ·simp[h4,h2])
     clear Me HA
     by_cases h4:op=4
     ·have h4I:((op:Int) == 4)=true:=by simp[h4]
      have HT2:Hid (T=!res):=ay (by rw[HT1.out,jV h4];rfl);clear h4 HT1;go_wp2
      go_meet
      exact⟨by rw[HT2.out],rfl⟩
     ·have h4I:((op:Int) == 4)=false:=by simp[h4]
      have HT2:Hid (T=false):=ay (by rw[HT1.out,dX h4];rfl);clear h4 HT1;go_wp2
      go_meet
      exact⟨by rw[HT2.out],rfl⟩
   case rest =>
    obtain⟨rfl,rfl⟩:=hcut;have hL2:=RO.out.below hb2;have hM2:=Zh.out.keep RO.out (aW.of hb2);have HL2:=ay hL2;have Rt:=ay hM2;clear hL2 hM2
    go_upto_if 10 with fail
    cases T with
    | true =>
     have HE:Hid (f1=kY f (some (31,a_))):=ay (by
      rw[D5.out,wP,bR (PY Me.out.symm)])
     have JR:=ay (oZ C lb im f 31 a_ w2 HL2.out Ay.out);clear Me HA D5;go_wp2_with (go_at_call 37;refine JR.out.mono ?_;rintro e w3 ⟨rfl,hl3,eP⟩)
     go_meet
     exact⟨by rw[HE.out];exact hl3,(aO.of hb2 (by omega)).trans eP⟩
    | false =>
     have hnT:=of_decide_eq_false Me.out.symm
     by_cases h24:op=24
     ·have HE:Hid (f1=kY f (JM E nm md ks.length a_)):=ay (by
       rw[D5.out,wP,aU hnT,bR h24])
      subst h24;have HCA:Hid (Calls _ _ _ w2 _):=ay (V4 E C lb B im f 24 nm md ng ys (.slice am wn cm) ae ks.length ce a_ w2 HL2.out Rt.out Ay.out);unfold aR at HCA;clear Me HA D5 hnT;go_wp2_with (go_at_call 130;refine HCA.out.mono ?_;rintro e w3 ⟨rfl,hl3,eP⟩)
      go_meet
      exact⟨by rw[HE.out];exact hl3,(aO.of hb2 (by omega)).trans eP⟩
     ·have aji:((op:Int) == 24)=false:=by simp[h24]
      have HE:Hid (f1=f):=ay (by
       rw[D5.out,wP,aU hnT,aU h24,qg])
      clear Me HA D5 hnT h24;go_wp2
      go_meet
      exact⟨by rw[HE.out];exact HL2.out,aO.of hb2 (by omega)⟩
 case rest =>
  obtain⟨hl2,hk2⟩:=hcut
  obtain⟨w2,rfl⟩:∃ w2:World,w2=wc:=⟨_,rfl⟩
  clear y0 y1 y2 y3 y4 y5 y6 y7 r0 rz HA Me A T;have hz2:=hk2.2.1;have hM2:=Zh.out.keep RO.out hk2.2;have PI:=HT1.out.frame hk2.2;have g0:=(hk2.2.2 w.heap.size (by omega) (by omega)).trans HG.out.1;have g1:=(hk2.2.2 (w.heap.size+1) (by omega) hl1).trans HG.out.2;have ahM:aW (λb=>b≠lb) w w2:=hk1.2.trans hk2.2;have ahN:=hk1.trans hk2;obtain⟨y0,y1,y2,y3,y4,y5,y6,y7⟩:=aI g0;have Rt:=ay hM2;have HT2:=ay PI;have HG2:=ay (gy g0 g1);have HL2:=ay hl2
  have ajj:w.heap.size+1<w2.heap.size:=by omega
  clear hM2 PI g0 g1 hl2 Zh HT1 RO HG hk1;go_wp2
  go_loopw [8,9,42] (λ_ _ q wr=>∃ k:Nat,k<=ks.length/\q=.int .i64 k/\ku C lb im (kY f1 (iy E op nm bd res 0 (ks.take k))) wr/\aO lb w2 wr) (λ_ _ q _=>ks.length - (intOf q).toNat)
  case atStart=>exact⟨0,kJ _,rfl,by rw[List.take_zero,iy,qg];exact HL2.out,aO.refl _ _⟩
  case round =>
   obtain⟨k,hk,rfl,hlr,hkr⟩:=hrel;clear y0 y1 y2 y3 y4 y5 y6 y7;have DY:=hkr.2.1;have A9:=ay hlr;clear hlr
   by_cases hlt:k<ks.length
   ·obtain⟨b,off,rfl,hPb,hbw,iw⟩:=HF.out (by omega)
    obtain⟨m,kv,hE,hc⟩:=iw k hlt;have har:aW (λb=>b≠lb) w wr:=ahM.trans hkr.2;obtain⟨jY,jZ,j3,kC,kD,rfl,rfl⟩:=hE.PK;have hE':=hE.frame har
    have dI:∀ (j:Nat) (u:Value),w.cell? ⟨b,off+k * 8+j,none⟩=some u->wr.cell? ⟨b,off+k * 8+j,none⟩=some u:=λj u h=>(yK (a:=⟨b,off+k * 8+j,none⟩) (har.2 b hPb hbw)).trans h
    have x0:=dI 0 _ (hc 0 _ rfl);have x1:=dI 1 _ (hc 1 _ rfl);have x2:=dI 2 _ (hc 2 _ rfl);have x3:=dI 3 _ (hc 3 _ rfl);have x4:=dI 4 _ (hc 4 _ rfl);have x5:=dI 5 _ (hc 5 _ rfl);have x6:=dI 6 _ (hc 6 _ rfl);have x7:=dI 7 _ (hc 7 _ rfl);rw[nZ] at x0;simp only[fC] at x1 x2;have hIH:=IH.out _ (nH hlt);have hsz:=HSZ.out k hlt;have hsn:=Ll E op nm bd res hlt;have rO:=ay hsn;have HE:=ay hE';have V6:=ay hIH;clear iw hE hE' hc dI hIH hsn;generalize ks[k]=x at *
    obtain⟨fk,BI⟩:∃ fk,fk=kY f1 (iy E op nm bd res 0 (ks.take k)):=⟨_,rfl⟩
    have Lv:bq fk:=by rw[BI];exact V5.out.or (Ca E op nm bd res _ _)
    have DR:Hid (kY f1 (iy E op nm bd res 0 (ks.take (k+1)))=kY fk (x.gY E (Od op nm bd k) res)):=ay (by rw[rO.out,BI,tX]);rw[<- BI] at A9;have hMr:=Rt.out.keep HL2.out hkr.2
    have HK:Hid (∀ (W:World) (ab':Option Addr) (cb':Nat) (bd':List aH),ku C lb im fk W->aW (λb=>b≠lb) wr W->fK (λb=>b≠lb) W (.slice ab' bd'.length cb') bd'->bd'.Pairwise (· < ·)->bd'.length+x.size<=500000->Calls Tryz.prog 84 #[.pointer (some ⟨lb,0,none⟩),.agg #[.int .i64 x.op,.string ⟨x.name.toArray⟩,.string ⟨x.module.toArray⟩,.bool (decide (x.num<0)),.slice jY jZ j3,.bool x.yes,.slice kC x.aB.length kD,.int .i64 x.at_],.agg #[.slice ab' bd'.length cb'],.bool res] W (zy C lb im (kY fk (x.gY E bd' res)) W)) :=
     ay λW ab' cb' bd' h1 h2 h3 h4 h5=>V6.out E C lb B im fk jY jZ j3 kC kD ab' cb' bd' res W h1 (hMr.keep A9.out h2) Lv (HE.out.frame h2) h3 h4 h5
    have hTr:=HT2.out.frame hkr.2;have gr0:=(hkr.2.2 w.heap.size (by omega) (by omega)).trans HG2.out.1;have gr1:=(hkr.2.2 (w.heap.size+1) (by omega) (by omega)).trans HG2.out.2;have fJ:=aA wr (.cells (aR x.op ⟨x.name.toArray⟩ ⟨x.module.toArray⟩ (decide (x.num<0)) (.slice jY jZ j3) x.yes (.slice kC x.aB.length kD) x.at_) 60);have gk:=aX wr (.cells (aR x.op ⟨x.name.toArray⟩ ⟨x.module.toArray⟩ (decide (x.num<0)) (.slice jY jZ j3) x.yes (.slice kC x.aB.length kD) x.at_) 60)
    have nK:(k:Int)<(ks.length:Int):=by omega
    have HTr:=ay hTr;have Mg:=ay (gy gr0 gr1);have Oy:lb<wr.heap.size:=A9.out.lt;clear BI Lv rO HE V6 hMr hTr gr0 gr1 har
    go_upto_region 9 with fail
    change Code.wp _ _ _ _ (wr.alloc (.cells (aR x.op ⟨x.name.toArray⟩ ⟨x.module.toArray⟩ (decide (x.num<0)) (.slice jY jZ j3) x.yes (.slice kC x.aB.length kD) x.at_) 60));clear x0 x1 x2 x3 x4 x5 x6 x7
    have aer:wr.heap.size<(wr.alloc (.cells (aR x.op ⟨x.name.toArray⟩ ⟨x.module.toArray⟩ (decide (x.num<0)) (.slice jY jZ j3) x.yes (.slice kC x.aB.length kD) x.at_) 60)).heap.size:=by simp
    generalize wr.alloc (.cells (aR x.op ⟨x.name.toArray⟩ ⟨x.module.toArray⟩ (decide (x.num<0)) (.slice jY jZ j3) x.yes (.slice kC x.aB.length kD) x.at_) 60)=w3 at *;have hz3:=fJ.size;have hL3:=A9.out.below fJ;have g0:=(fJ.block _ (by omega)).trans Mg.out.1;have g1:=(fJ.block _ (by omega)).trans Mg.out.2;have eP:=aO.of fJ Oy;have IJ:=ay hL3;have HT3:=ay (HTr.out.below fJ);obtain⟨y0,y1,y2,y3,y4,y5,y6,y7⟩:=aI g0;obtain⟨q0,qz⟩:=bN g1;obtain⟨v0,v1,v2,v3,v4,v5,v6,v7⟩:=aI gk;have Zi:=ay gk;clear hL3 g0 g1 gk Mg A9 HTr
    obtain⟨bb,agl⟩:∃ bb,decide (op=22/\k=1)=bb:=⟨_,rfl⟩
    have HBB:=ay agl;clear agl
    go_cut [53] (λv wc=>v=.bool bb/\w3=wc)
    case first =>
     by_cases h22:op=22
     ·have hh:((op:Int) == 22)=true:=by simp[h22]
      by_cases hk1:k=1
      ·have hbt:Hid (bb=true):=ay (by rw[<- HBB.out];exact jV ⟨h22,hk1⟩)
       subst hk1;clear h22;go_wp2
       go_meet
       exact⟨by rw[hbt.out],rfl⟩
      ·have hbt:Hid (bb=false):=ay (by rw[<- HBB.out];exact dX (λq=>hk1 q.2))
       have hk2:((k:Int) == 1)=false:=by simp;omega
       clear h22;go_wp2
       go_meet
       exact⟨by rw[hbt.out],rfl⟩
     ·have hh:((op:Int) == 22)=false:=by simp[h22]
      have hbt:Hid (bb=false):=ay (by rw[<- HBB.out];exact dX (λq=>h22 q.1));clear h22;go_wp2
      go_meet
      exact⟨by rw[hbt.out],rfl⟩
    case rest =>
     obtain⟨rfl,rfl⟩:=hcut;have HKP:=ay (λ(W:World) (hW:aO lb w3 W)=>(show aO lb w2 W from hkr.trans (eP.trans hW)))
     cases bb with
     | true =>
      have hin:Od op nm bd k=gD (bd++[nm]):=by rw[Od,bR (PY HBB.out)]
      rw[hin] at DR;have hsl:=pR (bd++[nm]);rw[bY,List.length_singleton] at hsl;have HW:=ay (Av (λ_=>True) ab cb (.slice (some ⟨w3.heap.size,0,none⟩) 1 1) bd [nm] (w3.alloc (.cells #[.string ⟨nm.toArray⟩] 9)).drew (((HT3.out.below (aA w3 _)).below (bQ _ _).drew).imp λ_ _ _=>trivial) ((Ej w3 nm).below (bQ _ _).drew) (by omega) (by simp));have hb4:Below w3.heap.size w3 (w3.alloc (.cells #[.string ⟨nm.toArray⟩] 9)).drew:=(aA w3 _).drew;have hsr:=pQ (bd++[nm]);have HSR:=ay hsr;clear hin hsr HBB;generalize gD (bd++[nm])=S at *
      have hn0:w.heap.size<w3.heap.size:=by omega
      have hn1:w.heap.size+1<w3.heap.size:=by omega
      have hne1:wr.heap.size≠lb:=by omega
      have hne2:w.heap.size+1≠lb:=by omega
      have Oz:w.heap.size≠lb:=by omega
      have HS:Hid (∀ W,aW (λb=>b≠lb) w3 W->((W.cell? ⟨wr.heap.size,0,none⟩=some (.int .i64 x.op)/\W.cell? ⟨wr.heap.size,1,none⟩=some (.string ⟨x.name.toArray⟩)/\W.cell? ⟨wr.heap.size,2,none⟩=some (.string ⟨x.module.toArray⟩)/\W.cell? ⟨wr.heap.size,3,none⟩=some (.bool (decide (x.num<0)))/\W.cell? ⟨wr.heap.size,4,none⟩=some (.slice jY jZ j3)/\W.cell? ⟨wr.heap.size,5,none⟩=some (.bool x.yes)/\W.cell? ⟨wr.heap.size,6,none⟩=some (.slice kC x.aB.length kD)/\W.cell? ⟨wr.heap.size,7,none⟩=some (.int .i64 x.at_))/\W.cell? ⟨w.heap.size+1,0,none⟩=some (.slice ab bd.length cb)/\W.cell? ⟨w.heap.size,1,none⟩=some (.string ⟨nm.toArray⟩))):=ay λW hW=>⟨aI ((hW.2 wr.heap.size hne1 aer).trans Zi.out),(yK (a:=⟨w.heap.size+1,0,none⟩) (hW.2 _ hne2 hn1)).trans q0,(yK (a:=⟨w.heap.size,1,none⟩) (hW.2 _ Oz hn0)).trans y1⟩
      go_upto_region 10 with fail
      go_region_held3 (λW=>(W.cell? ⟨wr.heap.size,0,none⟩=some (.int .i64 x.op)/\W.cell? ⟨wr.heap.size,1,none⟩=some (.string ⟨x.name.toArray⟩)/\W.cell? ⟨wr.heap.size,2,none⟩=some (.string ⟨x.module.toArray⟩)/\W.cell? ⟨wr.heap.size,3,none⟩=some (.bool (decide (x.num<0)))/\W.cell? ⟨wr.heap.size,4,none⟩=some (.slice jY jZ j3)/\W.cell? ⟨wr.heap.size,5,none⟩=some (.bool x.yes)/\W.cell? ⟨wr.heap.size,6,none⟩=some (.slice kC x.aB.length kD)/\W.cell? ⟨wr.heap.size,7,none⟩=some (.int .i64 x.at_))/\W.cell? ⟨w.heap.size+1,0,none⟩=some (.slice ab bd.length cb)/\W.cell? ⟨w.heap.size,1,none⟩=some (.string ⟨nm.toArray⟩))
       (first|(with_reducible exact p3)|(go_keep;done))
       (first
        | (go_at_call 61;refine HW.out.mono ?_;rintro e w5 ⟨a5,c5,rfl,ht5,hb5⟩;have Zj:=hb4.trans (hb5.mono (by simp));have HEX:=HK.out w5 a5 c5 S (IJ.out.below Zj) ((aW.of fJ).trans (aW.of Zj)) (ht5.imp λq hq _=>by have:=hb4.size;omega) HSR.out (by omega);have p3:=HS.out w5 (aW.of Zj))
        | (go_at_call 84;refine HEX.mono ?_;rintro e w6 ⟨rfl,Xi,mR⟩;have p3:=HS.out w6 ((aW.of Zj).trans mR.2)))
      all_goals
       clear p3 v0 v1 v2 v3 v4 v5 v6 v7 y0 y1 y2 y3 y4 y5 y6 y7 q0 HS HK;go_wp2_with fail
       go_roundw
       case rel=>exact⟨k+1,by omega,by go_num,by rw[DR.out];exact Xi,HKP.out _ ((aO.of Zj (by omega)).trans mR)⟩
       case measure=>simp[intOf];omega
     | false =>
      have hin:Od op nm bd k=bd:=by rw[Od,aU (of_decide_eq_false HBB.out)]
      rw[hin] at DR;have HEX:=ay (HK.out w3 ab cb bd IJ.out (aW.of fJ) HT3.out HR.out (by omega));clear hin HBB HK;go_wp2_with (go_at_call 84;refine HEX.out.mono ?_;rintro e w4 ⟨rfl,hl4,hk4⟩)
      go_roundw
      case rel=>exact⟨k+1,by omega,by go_num,by rw[DR.out];exact hl4,HKP.out _ hk4⟩
      case measure=>simp[intOf];omega
   ·obtain rfl:k=ks.length:=by omega
    have nK:decide ((ks.length:Int)<(ks.length:Int))=false:=dX (by omega);go_wp2
    go_end0
    refine⟨rfl,?_,ahN.trans hkr⟩;rw[sU.out];have:=A9.out;rw[zG,D5.out,tX] at this;exact this
mutual
theorem Cb:∀ x:PZ,Lu x
 | .mk op nm md num yes aB a=>RP _ (Gc aB)
theorem Gc:∀ l:List PZ,∀ k∈l,Lu k
 | [],k,h=>by cases h
 | e :: l,k,h=>by
  rcases nY.1 h with q|q
  ·rw[q];exact Cb e
  ·exact Gc l k q
end
theorem o8 (E:SE)(bd:List aH)(res:Bool):∀ l:List PZ,bq (cK E bd res l)
 | []=>bq.none
 | e :: l=>(PZ.rE E bd res e).or (o8 E bd res l)
theorem Di (E:SE)(C:PU)(lb B:Nat)(im:Value)(f:Fl)(al:Option Addr)(cl:Nat)(ks:List PZ)(ab:Option Addr)(cb:Nat)(bd:List aH)(res:Bool)(w:World)(hL:ku C lb im f w)(hM:ScM E C lb B im w)(hf:bq f)
  (hK:RowK (ZK YA) (λb=>b≠lb) w (.slice al ks.length cl) ks) (hT:fK (λb=>b≠lb) w (.slice ab bd.length cb) bd) (hr:bd.Pairwise (· < ·)) (hn:∀ e∈ks,bd.length+e.size<=500000) (hkl:ks.length<=1000000) :
  Calls Tryz.prog 83 #[.pointer (some ⟨lb,0,none⟩),.slice al ks.length cl,.agg #[.slice ab bd.length cb],.bool res] w (zy C lb im (kY f (cK E bd res ks)) w):=by
 have hal:=aA w (.cells #[.slice ab bd.length cb] 120);have g1:=aX w (.cells #[.slice ab bd.length cb] 120);obtain⟨PN,PO,hv,_,hform⟩:=hK.form;simp only[Value.slice.injEq] at hv;obtain⟨rfl,-,rfl⟩:=hv;have Vj:=hL.lt;have hL1:=hL.below hal;have hM1:=hM.keep hL (aW.of hal);have hT1:=hT.below hal;have HF:=ay hform;have HSZ:=ay hn;have Ay:=ay hf;have HR:=ay hr;clear hL hM hT hr hf hform hn hK
 obtain⟨R,hR⟩:∃ R,R=kY f (cK E bd res ks):=⟨_,rfl⟩
 rw[<- hR];have sU:=ay hR;clear hR;go_enter Tryz.func83,Tryz.ntmps83
 go_upto_region 1 with fail
 change Code.wp _ _ _ _ (w.alloc (.cells #[.slice ab bd.length cb] 120));generalize w.alloc (.cells #[.slice ab bd.length cb] 120)=w1 at *;have hz1:=hal.size;have hl1:=(bP g1).1;have hk1:=aO.of hal Vj;have RO:=ay hL1;have Zh:=ay hM1;have HT1:=ay hT1;have HG1:=ay g1;have ahO:aW (λb=>b≠lb) w w1:=aW.of hal;clear hL1 hM1 hT1 g1;go_wp2
 go_loopw [9,12] (λ_ q wr=>∃ k:Nat,k<=ks.length/\q=.int .i64 k/\ku C lb im (kY f (cK E bd res (ks.take k))) wr/\aO lb w1 wr) (λ_ q _=>ks.length - (intOf q).toNat)
 case atStart=>exact⟨0,kJ _,rfl,by rw[List.take_zero,cK,qg];exact RO.out,aO.refl _ _⟩
 case round =>
  obtain⟨k,hk,rfl,hlr,hkr⟩:=hrel;have DY:=hkr.2.1;have A9:=ay hlr;clear hlr
  by_cases hlt:k<ks.length
  ·obtain⟨b,off,rfl,hPb,hbw,iw⟩:=HF.out (by omega)
   obtain⟨⟨m,kv⟩,hE,hc⟩:=iw k hlt;have har:aW (λb=>b≠lb) w wr:=ahO.trans hkr.2;obtain⟨jY,jZ,j3,kC,kD,rfl,rfl⟩:=l7.PK hE;have hE':=l7.frame har hE
   have dI:∀ (j:Nat) (u:Value),w.cell? ⟨b,off+k * 8+j,none⟩=some u->wr.cell? ⟨b,off+k * 8+j,none⟩=some u:=λj u h=>(yK (a:=⟨b,off+k * 8+j,none⟩) (har.2 b hPb hbw)).trans h
   have x0:=dI 0 _ (hc 0 _ rfl);have x1:=dI 1 _ (hc 1 _ rfl);have x2:=dI 2 _ (hc 2 _ rfl);have x3:=dI 3 _ (hc 3 _ rfl);have x4:=dI 4 _ (hc 4 _ rfl);have x5:=dI 5 _ (hc 5 _ rfl);have x6:=dI 6 _ (hc 6 _ rfl);have x7:=dI 7 _ (hc 7 _ rfl);rw[nZ] at x0;simp only[fC] at x1 x2;have hsz:=HSZ.out _ (nH hlt);have rO:=ay (IE E bd res hlt);have HE:=ay hE';clear iw hE hE' hc dI;generalize ks[k]=x at *
   obtain⟨fk,BI⟩:∃ fk,fk=kY f (cK E bd res (ks.take k)):=⟨_,rfl⟩
   have Lv:bq fk:=by rw[BI];exact Ay.out.or (o8 E bd res _)
   have DR:Hid (kY f (cK E bd res (ks.take (k+1)))=kY fk (x.gY E bd res)):=ay (by rw[rO.out,BI,tX]);rw[<- BI] at A9;have hMr:=Zh.out.keep RO.out hkr.2
   have HK:Hid (∀ (W:World),ku C lb im fk W->aW (λb=>b≠lb) wr W->fK (λb=>b≠lb) W (.slice ab bd.length cb) bd->Calls Tryz.prog 84 #[.pointer (some ⟨lb,0,none⟩),.agg #[.int .i64 x.op,.string ⟨x.name.toArray⟩,.string ⟨x.module.toArray⟩,.bool (decide (x.num<0)),.slice jY jZ j3,.bool x.yes,.slice kC x.aB.length kD,.int .i64 x.at_],.agg #[.slice ab bd.length cb],.bool res] W (zy C lb im (kY fk (x.gY E bd res)) W)) :=
    ay λW h1 h2 h3=>Cb x E C lb B im fk jY jZ j3 kC kD ab cb bd res W h1 (hMr.keep A9.out h2) Lv (l7.frame h2 HE.out) h3 HR.out hsz
   have hTr:=HT1.out.frame hkr.2;have gr1:=(hkr.2.2 w.heap.size (by omega) hl1).trans HG1.out;have fJ:=aA wr (.cells (aR x.op ⟨x.name.toArray⟩ ⟨x.module.toArray⟩ (decide (x.num<0)) (.slice jY jZ j3) x.yes (.slice kC x.aB.length kD) x.at_) 60);have gk:=aX wr (.cells (aR x.op ⟨x.name.toArray⟩ ⟨x.module.toArray⟩ (decide (x.num<0)) (.slice jY jZ j3) x.yes (.slice kC x.aB.length kD) x.at_) 60)
   have nK:(k:Int)<(ks.length:Int):=by omega
   have Oy:lb<wr.heap.size:=A9.out.lt;have HEX:=ay (HK.out (wr.alloc (.cells (aR x.op ⟨x.name.toArray⟩ ⟨x.module.toArray⟩ (decide (x.num<0)) (.slice jY jZ j3) x.yes (.slice kC x.aB.length kD) x.at_) 60)) (A9.out.below fJ) (aW.of fJ) (hTr.below fJ));have g1:=(fJ.block _ (by omega)).trans gr1;have hkF:=hkr.trans (aO.of fJ Oy);clear BI Lv rO HE hMr hTr gr1 har HK
   go_upto_region 4 with fail
   change Code.wp _ _ _ _ (wr.alloc (.cells (aR x.op ⟨x.name.toArray⟩ ⟨x.module.toArray⟩ (decide (x.num<0)) (.slice jY jZ j3) x.yes (.slice kC x.aB.length kD) x.at_) 60));clear x0 x1 x2 x3 x4 x5 x6 x7;generalize wr.alloc (.cells (aR x.op ⟨x.name.toArray⟩ ⟨x.module.toArray⟩ (decide (x.num<0)) (.slice jY jZ j3) x.yes (.slice kC x.aB.length kD) x.at_) 60)=w3 at *;obtain⟨q0,qz⟩:=bN g1;obtain⟨v0,v1,v2,v3,v4,v5,v6,v7⟩:=aI gk;clear g1 gk A9;go_wp2_with (go_at_call 84;refine HEX.out.mono ?_;rintro e w4 ⟨rfl,hl4,hk4⟩)
   go_roundw
   case rel=>exact⟨k+1,by omega,by go_num,by rw[DR.out];exact hl4,hkF.trans hk4⟩
   case measure=>simp[intOf];omega
  ·obtain rfl:k=ks.length:=by omega
   have nK:decide ((ks.length:Int)<(ks.length:Int))=false:=dX (by omega);go_wp2
   go_end0
   refine⟨rfl,?_,hk1.trans hkr⟩;rw[sU.out];have:=A9.out;rw[zG] at this;exact this
def gN (d:ZD)(ap:Option Addr)(cp:Nat)(ac:Option Addr)(cc:Nat)(am:Option Addr)(wn cm:Nat)(ae:Option Addr)(ce:Nat):Array Value:=#[.bool d.pub,.string ⟨d.res.name.toArray⟩,.slice ap d.params.length cp,.int .i64 d.res.base,.slice ac d.res.aC.length cc,.int .i64 d.body.op,.string ⟨d.body.name.toArray⟩,.string ⟨d.body.module.toArray⟩,.bool (decide (d.body.num<0)),.slice am wn cm,.bool d.body.yes,.slice ae d.body.aB.length ce,.int .i64 d.body.at_,.int .i64 d.res.at_,.int .i64 d.res.bare]
theorem aV (h:w.heap[b]?=some (.cells (gN d ap cp ac cc am wn cm ae ce) 62 (0,0))) :
  w.cell? ⟨b,0,none⟩=some (.bool d.pub)/\w.cell? ⟨b,1,none⟩=some (.string ⟨d.res.name.toArray⟩)/\w.cell? ⟨b,2,none⟩=some (.slice ap d.params.length cp)/\w.cell? ⟨b,3,none⟩=some (.int .i64 d.res.base)/\w.cell? ⟨b,4,none⟩=some (.slice ac d.res.aC.length cc)/\w.cell? ⟨b,5,none⟩=some (.int .i64 d.body.op)/\w.cell? ⟨b,6,none⟩=some (.string ⟨d.body.name.toArray⟩)/\w.cell? ⟨b,7,none⟩=some (.string ⟨d.body.module.toArray⟩)/\w.cell? ⟨b,8,none⟩=some (.bool (decide (d.body.num<0)))/\w.cell? ⟨b,9,none⟩=some (.slice am wn cm)/\w.cell? ⟨b,10,none⟩=some (.bool d.body.yes)/\w.cell? ⟨b,11,none⟩=some (.slice ae d.body.aB.length ce)/\w.cell? ⟨b,12,none⟩=some (.int .i64 d.body.at_)/\w.cell? ⟨b,13,none⟩=some (.int .i64 d.res.at_)/\w.cell? ⟨b,14,none⟩=some (.int .i64 d.res.bare):=by
 refine⟨?_,?_,?_,?_,?_,?_,?_,?_,?_,?_,?_,?_,?_,?_,?_⟩<;>(rw[aZ h];rfl)
structure D6 (d:ZD) (B:Nat) (ap:Option Addr) (cp:Nat) (ac:Option Addr) (cc:Nat) (am:Option Addr) (wn cm:Nat) (ae:Option Addr) (ce:Nat) (w:World):Prop where
 lX:C8 B w ap d.params
 cl:kV B w ac d.res.aC
 body:l7 YA (λk=>k<B) w (.slice am wn cm) (.slice ae d.body.aB.length ce) d.body
 hB:B<=w.heap.size
theorem D6.rV {d:ZD}{B:Nat}{ap:Option Addr}{cp:Nat}{ac:Option Addr}{cc:Nat}{am:Option Addr}{wn cm:Nat}{ae:Option Addr}{ce:Nat}{w W:World}(h:D6 d B ap cp ac cc am wn cm ae ce w)(hW:Below B w W):D6 d B ap cp ac cc am wn cm ae ce W:=⟨h.lX.rV hW,h.cl.rV hW,h.body.frame (aW.rV hW λb hb=>hb),jq h.hB hW.size⟩
theorem D6.below {W:World}(h:D6 d B ap cp ac cc am wn cm ae ce w)(hW:Below w.heap.size w W):D6 d B ap cp ac cc am wn cm ae ce W:=h.rV (hW.mono h.hB)
theorem V7 (d:ZD)(hf:d.fit)(B:Nat)(ap:Option Addr)(cp:Nat)(ac:Option Addr)(cc:Nat)(am:Option Addr)(wn cm:Nat)(ae:Option Addr)(ce:Nat)(w:World)(h:D6 d B ap cp ac cc am wn cm ae ce w) :
  Calls Tryz.prog 121 #[.agg #[.bool d.pub,.string ⟨d.res.name.toArray⟩,.slice ap d.params.length cp,.int .i64 d.res.base,.slice ac d.res.aC.length cc,.int .i64 d.body.op,.string ⟨d.body.name.toArray⟩,.string ⟨d.body.module.toArray⟩,.bool (decide (d.body.num<0)),.slice am wn cm,.bool d.body.yes,.slice ae d.body.aB.length ce,.int .i64 d.body.at_,.int .i64 d.res.at_,.int .i64 d.res.bare]] w λr w'=>r=.returned (.bool d.sound)/\Below w.heap.size w w':=by
 obtain⟨f1,f2,f3,f4⟩:=hf;have hal:=aA w (.cells (gN d ap cp ac cc am wn cm ae ce) 62);have hN:=aX w (.cells (gN d ap cp ac cc am wn cm ae ce) 62);have HP:=ay (λV=>mD ⟨d.res.name.toArray⟩ V (by have:=f3.1;show d.res.name.toArray.size<=_;simp;omega));have HF:=ay (λV (hV:Below w.heap.size w V)=>IC 177 #[] (λx=>!x.right) (enters_of Tryz.func177 (by kernel_rfl) rfl) B ap cp d.params V (h.below hV).lX (h.below hV).hB (by omega) λx hx=>RD x (f2 x hx) B V (h.below hV).hB);have HC:=ay (λV (hV:Below w.heap.size w V)=>CZ d.res.base B ac cc d.res.aC V (h.below hV).cl (h.below hV).hB (by have:=f3.2.1;omega) f3.2.2);have HR:=ay (λV (hV:Below w.heap.size w V)=>zo false _ d.body (Nat.lt_succ_self _) f4 B am wn cm ae ce V (h.below hV).body (h.below hV).hB (by have:=(PZ.uS f4).2.2.2.1;omega));have eN:(ByteArray.mk d.res.name.toArray).data.toList=d.res.name:=rfl;rw[eN] at HP;rw[ZD.sound];have hpl:d.params.length<=1000000:=f1;clear h f1 f2 f3 f4 eN;generalize dw d.res.name=pl at *;generalize (d.params.any λf=>!f.right)=an at *;generalize iL d.res.base d.res.aC=cl at *;generalize d.body.right false=rb at *
 obtain⟨res,hres⟩:∃ b:Bool,b=(pl && (decide (d.params.length<=8) && (!an && (cl && rb)))):=⟨_,rfl⟩
 rw[<- hres];have qB:=ay hres;clear hres;go_enter Tryz.func121,Tryz.ntmps121
 go_upto_region 2 with fail
 change Code.wp _ _ _ _ (w.alloc (.cells (gN d ap cp ac cc am wn cm ae ce) 62));generalize w.alloc _=w0 at hal hN |-;have hl0:=(bP hN).1;have HN:=ay (λV (hV:Below w0.heap.size w0 V)=>aV ((hV.block _ hl0).trans hN));obtain⟨y0,y1,y2,y3,y4,y5,y6,y7,y8,y9,rP,rQ,rR,-⟩:=HN.out w0 (bQ _ _);clear hN
 cases pl with
 | false =>
  have hr:Hid (res=false):=ay (by rw[qB.out];rfl);clear HF HC HR qB;go_wp2_with (go_at_call 77;refine(HP.out _).mono ?_;rintro r w1 ⟨rfl,hb1⟩);go_ret;exact⟨bB hr.out.symm,hal.trans (hb1.mono hal.size)⟩
 | true =>
  by_cases h8:d.params.length<=8
  ·have h8I:(d.params.length:Int)<=8:=by omega
   cases an with
   | true =>
    have hr:Hid (res=false):=ay (by rw[qB.out,jV h8];rfl);clear HC HR qB h8;go_wp2_with (first|(go_at_call 77;refine(HP.out _).mono ?_;rintro r w1 ⟨rfl,hb1⟩;have oM:=hal.trans (hb1.mono hal.size);obtain⟨z0,z1,z2,z3,z4,-⟩:=HN.out w1 hb1)|(go_at_call 179;refine(HF.out _ oM).mono ?_;rintro r w2 ⟨rfl,hb2⟩));go_ret;exact⟨bB hr.out.symm,oM.trans (hb2.mono oM.size)⟩
   | false =>
    cases cl with
    | false =>
     have hr:Hid (res=false):=ay (by rw[qB.out,jV h8];rfl);clear HR qB h8;go_wp2_with (first|(go_at_call 77;refine(HP.out _).mono ?_;rintro r w1 ⟨rfl,hb1⟩;have oM:=hal.trans (hb1.mono hal.size);obtain⟨z0,z1,z2,z3,z4,-⟩:=HN.out w1 hb1)|(go_at_call 179;refine(HF.out _ oM).mono ?_;rintro r w2 ⟨rfl,hb2⟩;have kQ:=oM.trans (hb2.mono oM.size);have yu:=hb1.trans (hb2.mono hb1.size);obtain⟨v0,v1,v2,v3,v4,-⟩:=HN.out w2 yu)|(go_at_call 178;refine(HC.out _ kQ).mono ?_;rintro r w3 ⟨rfl,hb3⟩));go_ret;exact⟨bB hr.out.symm,kQ.trans (hb3.mono kQ.size)⟩
    | true =>
     have hr:Hid (res=rb):=ay (by rw[qB.out,jV h8];rfl);clear qB h8;go_wp2_with (first|(go_at_call 77;refine(HP.out _).mono ?_;rintro r w1 ⟨rfl,hb1⟩;have oM:=hal.trans (hb1.mono hal.size);obtain⟨z0,z1,z2,z3,z4,-⟩:=HN.out w1 hb1)|(go_at_call 179;refine(HF.out _ oM).mono ?_;rintro r w2 ⟨rfl,hb2⟩;have kQ:=oM.trans (hb2.mono oM.size);have yu:=hb1.trans (hb2.mono hb1.size);obtain⟨v0,v1,v2,v3,v4,-⟩:=HN.out w2 yu)|(go_at_call 178;refine(HC.out _ kQ).mono ?_;rintro r w3 ⟨rfl,hb3⟩;have rX:=kQ.trans (hb3.mono kQ.size);have KA:=yu.trans (hb3.mono yu.size);obtain⟨u0,u1,u2,u3,u4,u5,u6,u7,u8,u9,u10,u11,u12,-⟩:=HN.out w3 KA)|(go_at_call 180;refine(HR.out _ rX).mono ?_;rintro r w4 ⟨rfl,hb4⟩));go_ret;exact⟨bB hr.out.symm,rX.trans (hb4.mono rX.size)⟩
  ·have h8I:(8:Int)<(d.params.length:Int):=by omega
   have hr:Hid (res=false):=ay (by rw[qB.out,dX h8];rfl);clear h8 HF HC HR qB;go_wp2_with (go_at_call 77;refine(HP.out _).mono ?_;rintro r w1 ⟨rfl,hb1⟩;have oM:=hal.trans (hb1.mono hal.size);obtain⟨z0,z1,z2,z3,z4,-⟩:=HN.out w1 hb1);go_ret;exact⟨bB hr.out.symm,oM⟩
