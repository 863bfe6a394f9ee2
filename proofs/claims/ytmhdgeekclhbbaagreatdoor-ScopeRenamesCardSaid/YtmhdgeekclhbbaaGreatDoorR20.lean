/- Walks and plain laws: DoneW, DumpL, FormW, ListW, ProgramW1, ProgramW3, ProgramW2. -/
import Derived.Test.YtmhdgeekclhbbaaGreatDoorR10
set_option maxHeartbeats 16000000
set_option maxRecDepth 100000
set_option linter.unusedVariables false
set_option linter.unusedSimpArgs false
namespace Go.Proofs.YtmhdgeekclhbbaaGreatDoor
open Go.RowKit Go
def Ki (w w':World):Prop:=∀ (k:Nat) (cs:Array Value) (fr:Nat × Nat),w.heap[k]?=some (.cells cs 3 fr)→w'.heap[k]?=some (.cells cs 3 fr)
theorem Ki.trans {a b c:World}(h:Ki a b)(k:Ki b c):Ki a c:=fun n cs fr q=>k n cs fr (h n cs fr q)
theorem Ki.below {w w':World}(h:Below w.heap.size w w'):Ki w w':=fun k _cs _fr q=>(h.block k (bS q).1).trans q
theorem Ki.set {w:World}{b:Nat}{cs:Array Value}{T:TypeId}{fr:Nat × Nat}(hb:w.heap[b]?=some (.cells cs T fr))(hT:T≠3)(j:Nat)(u:Value):Ki w (w.setCell ⟨b,j,none⟩ u):=fun k ds fr' q=>by
 rw[heap_setCell_other _ _ _ _ (by
  show k≠b;rintro rfl;rw[hb] at q;simp only[Option.some.injEq,Obj.cells.injEq] at q
  exact hT q.2.1)]
 exact q
theorem eH.ki {w w':World}{v:Value}{ks:List Int}(h:eH w v ks)(hk:Ki w w'):eH w' v ks:=by
 obtain⟨ao,cap,hv,hc,hf⟩:=h;refine⟨ao,cap,hv,hc,fun h0=>?_⟩;obtain⟨b,off,cs,fr,ha,hb,hj⟩:=hf h0;exact⟨b,off,cs,fr,ha,hk b cs fr hb,hj⟩
theorem ZX {w w':World}{B e sz n:Nat}{v:Value}{xs:List Value}(h:w.ownsRow B e sz v n xs)(hs:∀ q,v.ownBlock=some q→w'.heap[q]?=w.heap[q]?):w'.ownsRow B e sz v n xs:=by
 refine⟨h.1,?_⟩
 rcases h.2 with hn|⟨g,cap,cur,hv,hg,hh,hr⟩
 ·exact .inl hn
 ·exact .inr ⟨g,cap,cur,hv,hg,(hs g (by rw[hv];rfl)).trans hh,hr⟩
def sH (w:World)(v:Value)(ah:List Tok)(aj:List Nd):Prop :=
 ∃ (tv nv:Value) (l:List (Nd × Value)) (C D:Nat),v=.agg #[tv,nv]∧w.ownsRow C 131 4 tv ah.length (ah.flatMap bV)∧l.map Prod.fst=aj∧w.ownsRow D 129 3 nv aj.length (l.flatMap wQ)∧∀ p∈l,eH w p.2 p.1.aA
theorem sH.set {w:World}{v:Value}{ah:List Tok}{aj:List Nd}(h:sH w v ah aj){b:Nat}{cs:Array Value}{T:TypeId}{fr:Nat × Nat}(hb:w.heap[b]?=some (.cells cs T fr))(h1:T≠131)(h2:T≠129)(h3:T≠3)(j:Nat)(u:Value):sH (w.setCell ⟨b,j,none⟩ u) v ah aj:=by
 obtain⟨tv,nv,l,C,D,e,p1,p2,p3,p4⟩:=h;exact⟨tv,nv,l,C,D,e,iP (a:=⟨b,j,none⟩) p1 (own_ne p1 hb h1) u,p2,iP (a:=⟨b,j,none⟩) p3 (own_ne p3 hb h2) u,fun p hp=>(p4 p hp).ki (Ki.set hb h3 j u)⟩
theorem sH.later {w w':World}{v:Value}{ah:List Tok}{aj:List Nd}(h:sH w v ah aj)(hb:Below w.heap.size w w'):sH w' v ah aj:=by
 obtain⟨tv,nv,l,C,D,e,p1,p2,p3,p4⟩:=h;exact⟨tv,nv,l,C,D,e,own_below p1 hb,p2,own_below p3 hb,fun p hp=>(p4 p hp).ki (Ki.below hb)⟩
theorem sH.at {w:World}{v:Value}{ah:List Tok}{aj:List Nd}(h:sH w v ah aj):aZ w.heap.size w v ah aj:=by
 obtain⟨tv,nv,l,C,D,e,p1,p2,p3,p4⟩:=h
 have hll:l.length=aj.length:=by rw[← p2,List.length_map]
 refine⟨tv,nv,l,e,Sl.fZ p1,p2,?_,fun p hp=>?_⟩
 ·rw[Rec,hll]
  exact Sl.fZ p3
 ·obtain⟨ai,ci,hvi,hci,hfi⟩:=p4 p hp
  refine⟨ai,ci,hvi,hci,by simp,fun hp0=>?_⟩;obtain⟨bi,oi,cs,fr,e1,e2,e3⟩:=hfi hp0;refine⟨bi,oi,e1,(bS e2).1,fun jj hjj=>?_⟩;rw[aV e2,e3 jj (by simpa using hjj)]
  simp
def ZY (ah:List Tok)(aj:List Nd)(w:World)(e:Ending)(w':World):Prop :=
 ∃ v,e=.returned v∧sH w' v ah aj∧Below w.heap.size w w'
def afu (C:Nat)(w:World)(nv:Value)(aj:List Nd):Prop :=
 ∃ l:List (Nd × Value),l.map Prod.fst=aj∧w.ownsRow C 129 3 nv aj.length (l.flatMap wQ)∧∀ p∈l,eH w p.2 p.1.aA
theorem Z4 (R:List Nat)(B bb:Nat)(tv:Value)(ah:List Tok)(aj:List Nd)(used:Nat)(w:World)(hb:BW R B bb tv used aj w)(ht:Rec B w tv 4 bV ah)(h0:0<ah.length)(hn:ah.length≤1000000)(hm:aj.length≤1000000)(hkl:∀ n∈aj,n.aA.length≤1000000) :
  Calls Tryz.prog 97 #[.pointer (some ⟨bb,0,none⟩)] w (ZY ah aj w):=by
 have HC:=ay (fun W (h:Rec B W tv 4 bV ah)=>Ey B tv ah W h h0 (by omega));obtain⟨h1,nv,l,h2,h3,h4,h5⟩:=hb;have hlt:=(bS h2).1
 obtain⟨ao,cap,rfl,_⟩:∃ ao cap,nv=.slice ao aj.length cap∧True:=by
  rcases h4.2 with ⟨hv,hn0⟩|⟨g,cap,cur,hv,_⟩
  ·exact⟨none,0,by rw[hv,hn0],trivial⟩
  ·exact⟨_,cap,hv,trivial⟩
 have HT:=ay ht;obtain⟨at_,ct,rfl,_,_⟩:=ht.form (fun _=>rfl)
 have c0:w.cell? ⟨bb,0,none⟩=some (.slice at_ ah.length ct):=by rw[aV h2];rfl
 have hal:=aB w (.cells #[.slice none 0 0,.slice none 0 0] 81);have d0:=iW hal c0
 have hBw:B≤w.heap.size:=by omega
 have H4:=ay h4;have H5:=ay h5;clear h4 h5 ht c0;go_enter Tryz.func97,Tryz.ntmps97;go_wp2_with (go_at_call 158;refine(HC.out _ ?c1).mono ?_)
 case c1=>exact HT.out.below (hal.mono hBw)
 rintro e w1 ⟨v',rfl,hown,hb1⟩;obtain⟨g,c5,rfl,hg1,hg2⟩:=hown.form h0;have G0:=(hb1.block w.heap.size (by simp)).trans (aY w (.cells #[.slice none 0 0,.slice none 0 0] 81));have Gb:=(hb1.block bb (by simp;omega)).trans ((gY w _ bb hlt).trans h2)
 go_upto_region 2 with (fail)
 have hz1:=hb1.size;rw[oP] at hz1;have oC:Below w.heap.size w w1:=hal.trans (hb1.mono (by simp));have T1:=aY w1 (.cells #[.slice (some ⟨g,0,none⟩) ah.length c5,.slice none 0 0] 81);have hb2:=aB w1 (.cells #[.slice (some ⟨g,0,none⟩) ah.length c5,.slice none 0 0] 81);have Gb2:=(gY w1 (.cells #[.slice (some ⟨g,0,none⟩) ah.length c5,.slice none 0 0] 81) bb (bS Gb).1).trans Gb;generalize w1.alloc _=w2 at T1 hb2 Gb2 ⊢
 have b1:w2.cell? ⟨bb,1,none⟩=some (.slice ao aj.length cap):=by rw[aV Gb2];rfl
 obtain⟨j0,hj,hy0,hy1,hy2⟩:=info_parts Tryz.Mt
 have hll:l.length=aj.length:=by rw[← h3,List.length_map]
 have hrec:Rec w.heap.size w (.slice ao aj.length cap) 3 wQ l:=by
  have:=Sl.fZ H4.out;rw[Rec,hll];exact this
 obtain⟨ao',jE,hv,_,hnf⟩:=hrec.ad9 (fun p=>Mv p) hll;simp only[Value.slice.injEq] at hv;obtain⟨rfl,-,rfl⟩:=hv;have HNF:=ay hnf;have HLL:=ay hll;have H3:=ay h3;clear hnf hrec hll h3;go_wp2;clear b1 d0
 go_loopw [19] (fun q wr=>∃ (j:Nat) (nv2:Value),j≤aj.length∧q=.int .i64 j∧aW (fun b=>b<w1.heap.size) w2 wr∧wr.heap[w1.heap.size]?=some (.cells #[.slice (some ⟨g,0,none⟩) ah.length c5,nv2] 81 (0,0))∧afu (w1.heap.size+1) wr nv2 (aj.take j)∧Ki w2 wr∧Below w.heap.size w wr) (fun q _=>aj.length - (intOf q).toNat)
 case atStart=>exact⟨0,.slice none 0 0,lI _,rfl,aW.refl _ _,T1,⟨[],rfl,World.ownsRow_nil _ _ _ _,fun p hp=>by cases hp⟩,fun _ _ _ q=>q,oC.trans (hb2.mono oC.size)⟩
 case round =>
  obtain⟨j,nv2,hjn,rfl,fF,hT,hrow,hki,hbl⟩:=hrel;have Fv:=fF.1;have hz2:=hb2.size
  by_cases hlt:j<aj.length
  ·have hjl:j<l.length:=by have:=HLL.out;omega
   obtain⟨b,off,rfl,YD,hcell⟩:=HNF.out (by omega);have hW2:Below w.heap.size w w2:=oC.trans (hb2.mono oC.size)
   have hcl:=fun (jj:Nat) (u:Value) (hu:(wQ l[j])[jj]?=some u)=>(World.cell?_of_block (a:=⟨b,off+j * 3+jj,none⟩) ((fF.2 b (by have:=oC.size;show b<w1.heap.size;omega) (by have:=oC.size;omega)).trans (hW2.block b YD))).trans (hcell j jj u hjl hu)
   have hx0:=hcl 0 _ rfl;have hx1:=hcl 1 _ rfl;have hx2:=hcl 2 _ rfl;have hiw:eH wr l[j].2 l[j].1.aA:=((H5.out l[j] (mX hjl)).1.ki (Ki.below hW2)).ki hki
   have Wv:aj[j]=l[j].1:=by have:=H3.out;subst this;simp
   have hkj:=hkl aj[j] (mX hlt)
   have hsn:aj.take (j+1)=aj.take j++[l[j].1]:=by rw[Dg hlt,Wv]
   rw[Wv] at hkj;generalize l[j]=pr at hx0 hx1 hx2 hiw hkj hsn;obtain⟨⟨kind,tok,ks⟩,kv⟩:=pr;simp only[Nat.add_zero] at hx0 hx1 hx2 hiw hkj hsn;have HS:=ay hsn;have HIW:=ay hiw;obtain⟨ak,ck,rfl⟩:=hiw.slice
   have JZ:(j:Int)<(aj.length:Int):=by omega
   clear hcell hcl Wv hsn hiw;go_wp2_with (go_at_call 159;refine(Eb _ ks _ (HIW.out.ki (Ki.below (aB wr _))) (by omega)).mono ?_);rintro e w4 ⟨v5,rfl,hkR,hb4⟩;have lM:=(hkR [] (fun r hr=>by cases hr)).1;obtain⟨a5,c6,rfl⟩:=lM.slice;have N4:=(hb4.block wr.heap.size (by simp)).trans (aY wr (.cells #[.int .i64 kind,.int .i64 tok,.slice ak ks.length ck] 129))
   have n2:w4.cell? ⟨wr.heap.size,2,none⟩=some (.slice ak ks.length ck):=by rw[aV N4];rfl
   have nz:∀ jj,w4.frozen? ⟨wr.heap.size,jj,none⟩=false:=by intro jj;simp[World.frozen?,N4]
   clear hkR hx0 hx1 hx2
   go_upto_region 6 with (fail)
   obtain⟨l2,hl2,hown2,hk2⟩:=hrow
   have hlj:(aj.take j).length=j:=by rw[qZ];omega
   rw[hlj] at hown2
   obtain⟨a2,c2,rfl,_⟩:∃ a2 c2,nv2=.slice a2 j c2∧True:=by
    rcases hown2.2 with ⟨hv,hn0⟩|⟨g,cap,cur,hv,_⟩
    ·exact⟨none,0,by rw[hv,hn0],trivial⟩
    ·exact⟨_,cap,hv,trivial⟩
   have hne2:some wr.heap.size≠(Value.slice a2 j c2).ownBlock:=fun q=>by have:=(hown2.lt _ q.symm).2;omega
   have hlt1:w1.heap.size<wr.heap.size:=(bS hT).1;have Bz:Below wr.heap.size wr w4:=(aB wr _).trans (hb4.mono (by simp));have N5:=heap_setCell_same w4 wr.heap.size 2 _ _ (.slice a5 ks.length c6) N4;have T5:(w4.setCell ⟨wr.heap.size,2,none⟩ (.slice a5 ks.length c6)).heap[w1.heap.size]?=_:=(heap_setCell_other _ _ _ _ (by show w1.heap.size≠wr.heap.size;omega)).trans ((Bz.block _ hlt1).trans hT);have gq:=iP (a:=⟨wr.heap.size,2,none⟩) (own_below hown2 Bz) hne2 (.slice a5 ks.length c6);have hks:=Ki.set N4 (by decide) 2 (.slice a5 ks.length c6);have afv:=(hki.trans (Ki.below Bz)).trans hks;have Nf:=(Ki.below Bz).trans hks;have afw:=lM.ki hks;have acG:aW (fun b=>b<w1.heap.size) w2 (w4.setCell ⟨wr.heap.size,2,none⟩ (.slice a5 ks.length c6)):=(fF.trans (aW.of Bz)).trans (aW.set _ fun b hb=>by show b≠wr.heap.size;omega);have hb5:=(hbl.trans (Bz.mono hbl.size)).setCell (p:=⟨wr.heap.size,2,none⟩) hbl.size (.slice a5 ks.length c6)
   have hs5:w4.heap.size≤(w4.setCell ⟨wr.heap.size,2,none⟩ (.slice a5 ks.length c6)).heap.size:=by simp
   have hs4:=Bz.size;clear hown2 hne2 N4 n2 nz hb4 Bz lM hks;generalize w4.setCell _ _=w5 at N5 T5 gq afv Nf afw acG hs5 hb5 ⊢
   have t1:w5.cell? ⟨w1.heap.size,1,none⟩=some (.slice a2 j c2):=by rw[aV T5];rfl
   have m0:w5.cell? ⟨wr.heap.size,0,none⟩=some (.int .i64 kind):=by rw[aV N5];rfl
   have m1:w5.cell? ⟨wr.heap.size,1,none⟩=some (.int .i64 tok):=by rw[aV N5];rfl
   have m2:w5.cell? ⟨wr.heap.size,2,none⟩=some (.slice a5 ks.length c6):=by rw[aV N5];rfl
   go_wp2_with (at_builtin;refine wpList_append_own _ rfl _ _ 79 rfl (w1.heap.size+1) 129 j0 (.agg #[.int .i64 0,.int .i64 0,.slice none 0 0]) 3 40 Tryz.underlying79 hj hy0 hy1 hy2 rfl (by decide) _ _ _ rfl (gq.alloc _) ⟨w5.heap.size,0,none⟩ 1 1 [.int .i64 kind,.int .i64 tok,.slice a5 ks.length c6] rfl rfl ?e1 ?e2 ?e3 ?e4 ?e5 ?_)
   case e1 =>
    intro j' u hj';exact vv (cs:=#[.int .i64 kind,.int .i64 tok,.slice a5 ks.length c6]) (t:=129) (fr:=(0,0)) (aY w5 _) j' u (by simpa using hj')
   case e2=>simp[Value.oneCell']
   case e3=>unfold maxLen;omega
   case e4=>omega
   case e5=>simp;omega
   intro v' w6 hown6 nI _;obtain⟨gv,cv,rfl,_,_⟩:=hown6.form (by omega);have JK:=(bS T5).1;have T6:=iI (gq.alloc _) nI ((gY w5 (.cells #[.int .i64 kind,.int .i64 tok,.slice a5 ks.length c6] 129) w1.heap.size JK).trans T5) (by decide)
   have k6:Ki w5 w6:=fun k cs fr q=>iI (gq.alloc _) nI ((gY w5 (.cells #[.int .i64 kind,.int .i64 tok,.slice a5 ks.length c6] 129) k (bS q).1).trans q) (by decide)
   have a6:aW (fun b=>b<w1.heap.size) w2 w6:=(acG.trans (aW.of (aB w5 _))).trans (aW.grown nI fun b hb q=>by have:=(gq.lt b q.symm).1;omega)
   have s1:w6.cell? ⟨w1.heap.size,1,none⟩=some (.slice a2 j c2):=by rw[aV T6];rfl
   have sz:∀ jj,w6.frozen? ⟨w1.heap.size,jj,none⟩=false:=by intro jj;simp[World.frozen?,T6]
   have hs7:Ki w6 (w6.setCell ⟨w1.heap.size,1,none⟩ (.slice (some ⟨gv,0,none⟩) (j+1) cv)):=Ki.set T6 (by decide) 1 _;have T7:=heap_setCell_same w6 w1.heap.size 1 _ _ (.slice (some ⟨gv,0,none⟩) (j+1) cv) T6;have a7:=a6.trans (aW.set (a:=⟨w1.heap.size,1,none⟩) (.slice (some ⟨gv,0,none⟩) (j+1) cv) fun b hb=>by show b≠w1.heap.size;omega);have o7:=iP (a:=⟨w1.heap.size,1,none⟩) hown6 (fun q=>by have:=(hown6.lt _ q.symm).1;simp at this;omega) (.slice (some ⟨gv,0,none⟩) (j+1) cv)
   have agW:(aj.take (j+1)).length=j+1:=by rw[qZ];omega
   have R7:afu (w1.heap.size+1) (w6.setCell ⟨w1.heap.size,1,none⟩ (.slice (some ⟨gv,0,none⟩) (j+1) cv)) (.slice (some ⟨gv,0,none⟩) (j+1) cv) (aj.take (j+1)):=by
    refine⟨l2++[(⟨kind,tok,ks⟩,.slice a5 ks.length c6)],by rw[List.map_append,hl2,HS.out];rfl,?_,fun p hp=>?_⟩
    ·rw[agW,List.flatMap_append]
     exact o7
    ·rcases List.mem_append.1 hp with hp|hp
     ·exact(((hk2 p hp).ki Nf).ki k6).ki hs7
     ·rw[List.mem_singleton] at hp
      subst hp;exact(afw.ki k6).ki hs7
   have agX:=((afv.trans k6).trans hs7)
   have agY:=oC.size;have wR:=((hb5.alloc hb5.size (.cells #[.int .i64 kind,.int .i64 tok,.slice a5 ks.length c6] 129)).grown nI (by have:=hb5.size;simp;omega) (fun q hq=>by have:=(gq.lt q hq).1;omega)).setCell (p:=⟨w1.heap.size,1,none⟩) agY (.slice (some ⟨gv,0,none⟩) (j+1) cv);clear nI hown6 gq t1 m0 m1 m2 o7 hk2 hl2;go_wp2
   go_roundw
   case rel=>exact⟨j+1,_,by omega,by go_num,a7,T7,R7,agX,wR⟩
   case measure=>simp[intOf];omega
  ·obtain rfl:j=aj.length:=by omega
   rw[List.take_length] at hrow;obtain⟨l2,hl2,hown2,hk2⟩:=hrow
   obtain⟨a2,c2,rfl,_⟩:∃ a2 c2,nv2=.slice a2 aj.length c2∧True:=by
    rcases hown2.2 with ⟨hv,hn0⟩|⟨g,cap,cur,hv,_⟩
    ·exact⟨none,0,by rw[hv,hn0],trivial⟩
    ·exact⟨_,cap,hv,trivial⟩
   have hl1:=(bS G0).1;have Z:=(fF.2 w.heap.size hl1 (by omega)).trans ((hb2.block w.heap.size hl1).trans G0)
   have s0:wr.cell? ⟨w1.heap.size,0,none⟩=some (.slice (some ⟨g,0,none⟩) ah.length c5):=by rw[aV hT];rfl
   have s1:wr.cell? ⟨w1.heap.size,1,none⟩=some (.slice a2 aj.length c2):=by rw[aV hT];rfl
   have q0:wr.cell? ⟨w.heap.size,0,none⟩=some (.slice none 0 0):=by rw[aV Z];rfl
   have q1:wr.cell? ⟨w.heap.size,1,none⟩=some (.slice none 0 0):=by rw[aV Z];rfl
   have qz:∀ jj,wr.frozen? ⟨w.heap.size,jj,none⟩=false:=by intro jj;simp[World.frozen?,Z]
   have JZ:decide ((aj.length:Int)<(aj.length:Int))=false:=dA (by omega)
   have ahU:l2.length=aj.length:=by rw[← hl2,List.length_map]
   have k1:Ki wr (wr.setCell ⟨w.heap.size,0,none⟩ (.slice (some ⟨g,0,none⟩) ah.length c5)):=Ki.set Z (by decide) 0 _;have Z1:=heap_setCell_same wr w.heap.size 0 _ _ (.slice (some ⟨g,0,none⟩) ah.length c5) Z;have k2:=Ki.set Z1 (by decide) 1 (.slice a2 aj.length c2);have hgl:=hown.lt g rfl;simp only[oP] at hgl
   have hP3:((wr.setCell ⟨w.heap.size,0,none⟩ (.slice (some ⟨g,0,none⟩) ah.length c5)).setCell ⟨w.heap.size,1,none⟩ (.slice a2 aj.length c2)).ownsRow _ 131 4 (.slice (some ⟨g,0,none⟩) ah.length c5) ah.length (ah.flatMap bV):=ZX hown fun q hq=>by
    obtain rfl:g=q:=by simpa [Value.ownBlock] using hq
    rw[heap_setCell_other _ _ _ _ (by show g≠w.heap.size;omega),heap_setCell_other _ _ _ _ (by show g≠w.heap.size;omega)];exact(fF.2 g hgl.2 (by omega)).trans (hb2.block g hgl.2)
   have hn1:=iP (a:=⟨w.heap.size,0,none⟩) hown2 (fun q=>by have:=(hown2.lt _ q.symm).1;simp at this;omega) (.slice (some ⟨g,0,none⟩) ah.length c5);have Qi:=iP (a:=⟨w.heap.size,1,none⟩) hn1 (fun q=>by have:=(hn1.lt _ q.symm).1;simp at this;omega) (.slice a2 aj.length c2);have C8:=(hbl.setCell (p:=⟨w.heap.size,0,none⟩) (bD _) (.slice (some ⟨g,0,none⟩) ah.length c5)).setCell (p:=⟨w.heap.size,1,none⟩) (bD _) (.slice a2 aj.length c2);go_wp2;refine bodyPost_ret (v:=.agg #[.slice (some ⟨g,0,none⟩) ah.length c5,.slice a2 aj.length c2]) (by simp[results,Tryz.results97,go_sem,q0,q1]) rfl ⟨_,rfl,⟨_,_,l2,_,_,rfl,hP3,hl2,Qi,fun p hp=>((hk2 p hp).ki k1).ki k2⟩,C8⟩
mutual
def PE.afx:PE→Prop
 | .mk op _ _ _ _ _ aA _=>op<100∧Z5 aA
def Z5:List PE→Prop
 | []=>True
 | e :: l=>e.afx∧Z5 l
end
def Ld (r:abz)(w:World)(e:Ending)(w':World):Prop :=
 Below w.heap.size w w'∧match r with
 | .bad c a=>e=.returned (.tuple #[.agg #[.slice none 0 0,.slice none 0 0],.agg #[.int .i64 c,.int .i64 a]])
 | .good ah aj=>∃ at_ ct an cn,e=.returned (.tuple #[.agg #[.slice at_ ah.length ct,.slice an aj.length cn],.agg #[.int .i64 0,.int .i64 0]])∧sH w' (.agg #[.slice at_ ah.length ct,.slice an aj.length cn]) ah aj
theorem iV {w:World}{b:Nat}{x y:Value}(h:w.heap[b]?=some (.cells #[x,y] 71 (0,0))):w.cell? ⟨b,0,none⟩=some x∧w.cell? ⟨b,1,none⟩=some y∧∀ j,w.frozen? ⟨b,j,none⟩=false:=by
 refine⟨?_,?_,fun j=>?_⟩
 ·rw[aV h];rfl
 ·rw[aV h];rfl
 ·simp[World.frozen?,h]
theorem pG {w:World}{b:Nat}{x y:Value}(h:w.heap[b]?=some (.cells #[x,y] 81 (0,0))):w.cell? ⟨b,0,none⟩=some x∧w.cell? ⟨b,1,none⟩=some y∧∀ j,w.frozen? ⟨b,j,none⟩=false:=by
 refine⟨?_,?_,fun j=>?_⟩
 ·rw[aV h];rfl
 ·rw[aV h];rfl
 ·simp[World.frozen?,h]
theorem O4 (s:ByteArray)(d:Nat)(fv:Value)(w:World)(hd1:1≤d)(hd2:d≤200)(hs:s.size≤1099511627776)(c a:Nat)(hl:bO s.data.toList=.error (c,a))(hc:c≠0) :
  Calls Tryz.prog 57 #[.string s,.int .i64 d,fv] w (Ld (.bad c a) w):=by
 have HL:Hid (∀ W,Calls Tryz.prog 69 #[.string s] W fun e w'=>e=.returned (.tuple #[.slice none 0 0,.agg #[.int .i64 c,.int .i64 a]])∧Below W.heap.size W w'):=ay fun W=>(JI s W hs).mono fun e w' h=>by
  unfold SC at h;rw[hl] at h;exact⟨h.2,h.1⟩
 have hc0:((c:Int) == 0)=false:=by simp;omega
 have hal:=(aB w (.cells #[.slice none 0 0,.slice none 0 0] 81)).alloc (by simp) (.cells #[.int .i64 0,.int .i64 0] 71);have e1:=(gY (w.alloc (.cells #[.slice none 0 0,.slice none 0 0] 81)) (.cells #[.int .i64 0,.int .i64 0] 71) w.heap.size (by simp)).trans (aY w (.cells #[.slice none 0 0,.slice none 0 0] 81));have e2:=aY (w.alloc (.cells #[.slice none 0 0,.slice none 0 0] 81)) (.cells #[.int .i64 0,.int .i64 0] 71);rw[oP] at e2
 have afy:¬ ((d:Int)<1):=by omega
 have afz:¬ ((200:Int)<(d:Int)):=by omega
 clear hl;go_enter Tryz.func57,Tryz.ntmps57
 go_upto_region 5 with (go_at_call 69;refine(HL.out _).mono ?_;rintro e w3 ⟨rfl,hb3⟩;have hz3:=hb3.size)
 rw[oP,oP] at hz3;have G6:=(gY w3 (.cells #[.int .i64 c,.int .i64 a] 71) w.heap.size (by omega)).trans ((hb3.block w.heap.size (by simp;omega)).trans e1);have G7:=(gY w3 (.cells #[.int .i64 c,.int .i64 a] 71) (w.heap.size+1) (by omega)).trans ((hb3.block (w.heap.size+1) (by simp)).trans e2);have hb4:=(hal.trans (hb3.mono (by simp;omega))).alloc (by omega) (.cells #[.int .i64 c,.int .i64 a] 71);have N9:=aY w3 (.cells #[.int .i64 c,.int .i64 a] 71);clear hb3 e1 e2 hal HL;generalize hx:w3.heap.size=xb at N9 ⊢;generalize w3.alloc _=w4 at G6 G7 hb4 N9 ⊢;obtain⟨q0,q1,qz⟩:=pG G6;obtain⟨p0,p1,pz⟩:=iV G7;obtain⟨f0,f1,fz⟩:=iV N9
 go_region
 go_wp2;refine bodyPost_ret (v:=.tuple #[.agg #[.slice none 0 0,.slice none 0 0],.agg #[.int .i64 c,.int .i64 a]]) (by simp[results,Tryz.results57,go_sem,q0,q1,p0,p1]) rfl ⟨?_,rfl⟩;exact((((hb4.setCell (by simp) _).setCell (by simp) _).setCell (by simp) _).setCell (by simp) _).drew
def ab7 (E:bG)(one:aJ→Option (Int × aJ))(res:List Int × aJ)(w0:World)(kv nv:Value)(wr:World):Prop :=
 ∃ (r m:Nat) (aA:List Int) (s:aJ) (R:List Nat),nv=.int .i64 (m:Nat)∧m+r=9∧aA.length+2 * r≤16∧bC E.ah one r aA s=some res ∧
  wr.ownsRow w0.heap.size 3 1 kv aA.length (aA.map (Value.int .i64))∧(∀ b,kv.ownBlock=some b→b∈R)∧(∀ r∈E.R,r∈R)∧(aA=[]→kv=.slice none 0 0)∧PR E R s wr∧Kp E.B w0 wr∧s.aC=false
theorem Sb (E:bG)(hE:E.ok)(one:aJ→Option (Int × aJ))(st:aJ)(res:List Int × aJ)(w:World)(h:jP E.ah one st=some res)(hp:PW E st w)(hn:res.2.aj.length+1≤1099511627776)
  (hcl:st.aC=false) (hext:∀ s k,one s=some k→dP s k.2)
  (hone:∀ (R:List Nat) (s:aJ) (k:Int × aJ) (w':World),s.aC=false→one s=some k→PR E R s w'→Kp E.B w w'→k.2.aj.length+1≤1099511627776 →
   Calls Tryz.prog 165 #[.pointer (some ⟨E.pb,0,none⟩)] w' (dZ { E with R:=R } k w')) :
  Calls Tryz.prog 164 #[.pointer (some ⟨E.pb,0,none⟩),.func (.func 165) #[.pointer (some ⟨E.pb,0,none⟩)] #[]] w (XU E res w):=by
 have vg:=hE.2.2;obtain⟨i0,hi,hz0,hz1,hz2⟩:=info_parts Tryz.nG;unfold jP at h
 by_cases hx:bF E.ah st [[41]]=true
 ·rw[if_pos hx] at h
  injection h with h;subst h
  have HX:=ay (dW E hE ⟨#[41]⟩ st true hx);clear hx hone hext;go_enter Tryz.func164,Tryz.ntmps164;go_wp2_with (go_at_call 160;refine(HX.out w hp).mono ?_);rintro e w1 ⟨rfl,hp1,hk1⟩;go_wp2;go_ret;exact⟨_,rfl,⟨none,0,rfl,bD _,fun q=>absurd q (by simp)⟩,fun _=>rfl,hp1,hk1⟩
 ·rw[if_neg hx] at h
  have HX:=ay (dW E hE ⟨#[41]⟩ st false (eq_false_of_ne_true hx));have H0:=ay h;have Ea:=ay hone;have GZ:=ay hext;have HN:=ay hn;have HE:=ay hE;clear hx hone hext h hn;go_enter Tryz.func164,Tryz.ntmps164;go_wp2_with (go_at_call 160;refine(HX.out w hp).mono ?_);rintro e w1 ⟨rfl,hp1,hk1⟩;go_wp2
  go_loopw [5,6] (fun kv nv wr=>ab7 E one res w kv nv wr) (fun _ nv _=>10 - (intOf nv).toNat)
  case atStart=>exact⟨8,1,[],st,E.R,rfl,rfl,by simp,H0.out,World.ownsRow_nil _ _ _ _,fun _ q=>by simp[Value.ownBlock] at q,fun _ q=>q,fun _=>rfl,hp1,hk1,hcl⟩
  case round =>
   obtain⟨r,m,aA,s,R,rfl,hm,hkl,hl,hown,hR,hER,hnil,hps,hks,hsc⟩:=hrel;obtain⟨ao,cap,rfl⟩:=pq hown;have xD:=ay hnil;clear hnil;have hBw:E.B≤w.heap.size:=hp.fq
   by_cases hf:s.fE=0
   ·have HO:=ay (jW { E with R:=R } s hf)
    cases r with
    | zero =>
     obtain rfl:m=9:=by omega
     rw[bC,if_pos hf] at hl
     injection hl with hl
     have HF:=ay (fun w hp=>mF { E with R:=R } HE.out 15 s w hp);have HL:=ay hl;clear hl hf;go_wp2_with (go_at_call 96;refine(HO.out _ hps).mono ?_);rintro e w2 ⟨rfl,hp2,hk2⟩;go_wp2_with (go_at_call 161;refine(HF.out _ hp2).mono ?_);rintro e w3 ⟨rfl,hp3,gM⟩;have jX:=iA (iA hown hk2) gM;go_wp2;go_ret;exact mI jX hER hp3 ((hks.trans hk2).trans gM) HL.out xD.out
    | succ r =>
     rw[bC,if_neg (by simp[hf])] at hl;obtain⟨k,h1,hl⟩:=cK hl;have d8:decide (8<(m:Int))=false:=dA (by omega);have d8':decide (8<m)=false:=dA (by omega)
     have hnk:k.2.aj.length+1≤1099511627776:=by
      split at hl
      ·exact aK ((aO _ _).trans (mZ _ one GZ.out _ _ _ _ hl)) HN.out
      ·injection hl with hl;rw[← hl] at HN;exact HN.out
     have HCK:Hid (k.2.aC=false):=ay (by rw[(GZ.out s k h1).2.2.1];exact hsc);have HK:=ay (fun w' hp hk=>Ea.out R s k w' hsc h1 hp hk hnk);have HL:=ay hl;clear hl h1 hf;go_wp2_with (go_at_call 96;refine(HO.out _ hps).mono ?_);rintro e w2 ⟨rfl,hp2,hk2⟩;go_wp2_with (go_at_call 165;refine(HK.out _ hp2 (hks.trans hk2)).mono ?_);rintro e w3 ⟨rfl,hp3,gM⟩;have Qu:PR E R k.2 w3:=hp3;clear hp3;have jX:=iA (iA hown hk2) gM;have yB:PR E R k.2 (w3.alloc (.cells #[.int .i64 k.1] 3)):=PW.later Qu (aB w3 _);have hnw:=aY w3 (.cells #[.int .i64 k.1] 3);have uH:Kp E.B w (w3.alloc (.cells #[.int .i64 k.1] 3)):=((hks.trans hk2).trans gM).trans (Kp.of (aB w3 _) Qu.fq);have nH:=jX.alloc (.cells #[.int .i64 k.1] 3);have ac2:w.heap.size≤w3.heap.size:=((hks.trans hk2).trans gM).size;go_wp2_with (at_builtin;refine wpList_append_lies _ rfl _ _ 127 rfl w.heap.size 3 i0 (.int .i64 0) 1 8 Tryz.underlying127 hi hz0 hz1 hz2 rfl (by decide) _ _ _ rfl nH ⟨w3.heap.size,0,none⟩ 1 1 [.int .i64 k.1] rfl rfl ?c1 ?c2 ?c3 ?c4 ?c5 ?c6 _ rfl ?_)
     case c1=>exact vv (cs:=#[.int .i64 k.1]) (t:=3) (fr:=(0,0)) hnw
     case c2=>simp[Value.oneCell']
     case c3=>omega
     case c4=>unfold maxLen;omega
     case c5=>omega
     case c6=>simp;omega
     intro g cap4 w4 vJ yD XV XW;obtain⟨R4,hR4,hg4,qo⟩:=yB.append nH hBw hR yD XV (by simp) XW;have hk4:=uH.grown nH (bD _) hBw yD
     have uI:w4.ownsRow w.heap.size 3 1 (.slice (some ⟨g,0,none⟩) (aA.length+1) cap4) (aA.length+1) ((aA++[k.1]).map (Value.int .i64)):=by rw[List.map_append];exact vJ
     have J5:∀ r∈E.R,r∈R4:=fun r hr=>hR4 r (hER r hr)
     clear yB hnw uH nH yD XV XW jX vJ hk2 gM hp2 Qu hown hps hks HO HK HX H0 Ea ac2 hR4
     by_cases JJ:k.2.fE=0
     ·have XY:=ay (jW { E with R:=R4 } k.2 JJ)
      by_cases hx4:bF E.ah k.2 [[44]]=true
      ·have hl:=HL.out
       rw[if_pos ⟨JJ,hx4⟩] at hl;have HX4:=ay (dW { E with R:=R4 } HE.out ⟨#[44]⟩ k.2 true hx4);have HLF:=ay (fun w hp=>bT { E with R:=R4 } k.2 w hp HE.out.1 HE.out.2.1 hnk);have HL2:=ay hl;clear hl HL JJ hx4;go_wp2_with (go_at_call 96;refine(XY.out _ qo).mono ?_);rintro e w5 ⟨rfl,uG,lM⟩;go_wp2_with (go_at_call 160;refine(HX4.out _ uG).mono ?_);rintro e w6 ⟨rfl,En,vw⟩;obtain⟨d0,_,_,_,_,_⟩:=En.cells;go_wp2_with (go_at_call 162;refine(HLF.out _ En).mono ?_);rintro e w7 ⟨rfl,GV,Dk⟩;clear d0;have Qv:PR E R4 (aD E.ah k.2).2 w7:=GV;clear GV;have Ng:=iA (iA (iA uI lM) vw) Dk;have Qw:=((hk4.trans lM).trans vw).trans Dk;have yB:PR E R4 (aD E.ah k.2).2 (w7.alloc (.cells #[.int .i64 (aD E.ah k.2).1] 3)):=PW.later Qv (aB w7 _);have hnw:=aY w7 (.cells #[.int .i64 (aD E.ah k.2).1] 3);have uH:Kp E.B w (w7.alloc (.cells #[.int .i64 (aD E.ah k.2).1] 3)):=Qw.trans (Kp.of (aB w7 _) Qv.fq);have nH:=Ng.alloc (.cells #[.int .i64 (aD E.ah k.2).1] 3);have aeo:w.heap.size≤w7.heap.size:=Qw.size
       have hv4:∀ b,(Value.slice (some ⟨g,0,none⟩) (aA.length+1) cap4).ownBlock=some b→b∈R4:=fun b hb=>by
        simp only[Value.ownBlock,Option.some.injEq] at hb;subst hb;exact hg4
       go_wp2_with (at_builtin;refine wpList_append_lies _ rfl _ _ 127 rfl w.heap.size 3 i0 (.int .i64 0) 1 8 Tryz.underlying127 hi hz0 hz1 hz2 rfl (by decide) _ _ _ rfl nH ⟨w7.heap.size,0,none⟩ 1 1 [.int .i64 (aD E.ah k.2).1] rfl rfl ?c1 ?c2 ?c3 ?c4 ?c5 ?c6 _ rfl ?_)
       case c1=>exact vv (cs:=#[.int .i64 (aD E.ah k.2).1]) (t:=3) (fr:=(0,0)) hnw
       case c2=>simp[Value.oneCell']
       case c3=>omega
       case c4=>unfold maxLen;omega
       case c5=>omega
       case c6=>simp;omega
       intro g8 Qx w8 vT ou Ep yE;obtain⟨R8,hR8,hg8,UL⟩:=yB.append nH hBw hv4 ou Ep (by simp) yE;have CY:=uH.grown nH (bD _) hBw ou
       have Qy:w8.ownsRow w.heap.size 3 1 (.slice (some ⟨g8,0,none⟩) (aA.length+1+1) Qx) (aA++[k.1,(aD E.ah k.2).1]).length ((aA++[k.1,(aD E.ah k.2).1]).map (Value.int .i64)):=by
        rw[List.map_append,bN];exact vT
       have hv8:∀ b,(Value.slice (some ⟨g8,0,none⟩) (aA.length+1+1) Qx).ownBlock=some b→b∈R8:=fun b hb=>by
        simp only[Value.ownBlock,Option.some.injEq] at hb;subst hb;exact hg8
       have ac3:∀ r∈E.R,r∈R8:=fun r hr=>hR8 r (J5 r hr)
       clear yB hnw uH nH ou Ep yE Ng vT Qw uI hk4 lM vw Dk qo uG En Qv XY HX4 HLF hR8 hv4 J5 hg4;go_wp2
       go_roundw
       case rel=>exact⟨r,m+1,_,_,R8,by go_num,by omega,by simp;omega,HL2.out,Qy,hv8,ac3,(fun q=>by simp at q),UL,CY,by rw[(aO E.ah k.2).2.2.1];exact HCK.out⟩
       case measure=>simp[intOf];omega
      ·have hl:=HL.out
       rw[if_neg (fun q=>hx4 q.2)] at hl
       injection hl with hl
       have HX4:=ay (dW { E with R:=R4 } HE.out ⟨#[44]⟩ k.2 false (eq_false_of_ne_true hx4));have HL2:=ay hl;clear hl HL JJ hx4;go_wp2_with (go_at_call 96;refine(XY.out _ qo).mono ?_);rintro e w5 ⟨rfl,uG,lM⟩;go_wp2_with (go_at_call 160;refine(HX4.out _ uG).mono ?_);rintro e w6 ⟨rfl,En,vw⟩;have hown6:=iA (iA uI lM) vw;go_wp2;go_ret;exact mI hown6 J5 En ((hk4.trans lM).trans vw) HL2.out (fun q=>by simp at q)
     ·have hl:=HL.out
      rw[if_neg (fun q=>JJ q.1)] at hl
      injection hl with hl
      have XY:=ay (uT { E with R:=R4 } k.2 JJ);have HL2:=ay hl;clear hl HL JJ;go_wp2_with (go_at_call 96;refine(XY.out _ qo).mono ?_);rintro e w5 ⟨rfl,uG,lM⟩;have gq:=iA uI lM;go_wp2;go_ret;exact mI gq J5 uG (hk4.trans lM) HL2.out (fun q=>by simp at q)
   ·have HO:=ay (uT { E with R:=R } s hf)
    have hl':(aA,s)=res:=by
     cases r with
     | zero=>rw[bC,if_neg hf] at hl;injection hl
     | succ r=>rw[bC,if_pos hf] at hl;injection hl
    have HL:=ay hl';clear hl hl' hf;go_wp2_with (go_at_call 96;refine(HO.out _ hps).mono ?_);rintro e w2 ⟨rfl,hp2,hk2⟩;have hown2:=iA hown hk2;go_wp2;go_ret;exact mI hown2 hER hp2 (hks.trans hk2) HL.out xD.out
theorem Z6 (E:bG)(hE:E.ok)(b c:ByteArray)(st:aJ)(w:World)(h:PW E st w)(hn:st.aj.length+1≤1099511627776) :
  Calls Tryz.prog 163 #[.pointer (some ⟨E.pb,0,none⟩),.slice (some ⟨w.heap.size,0,none⟩) 2 2] (w.alloc (.cells #[.string b,.string c] 9)) (dZ E (aH E.ah [b.data.toList,c.data.toList] st) w):=by
 have hA:=h.later (aB w (.cells #[.string b,.string c] 9));refine(Mx E hE _ _ st _ hA (MC w b c) (by simp) hn).mono ?_;rintro e w' ⟨rfl,hp,hk⟩;exact⟨rfl,hp,(Kp.of (aB w _) h.fq).trans hk⟩
theorem Le (E:bG)(hE:E.ok)(st:aJ)(w:World)(hp:PW E st w)(hn:(oN E.ah st).2.aj.length+1≤1099511627776) :
  Calls Tryz.prog 99 #[.pointer (some ⟨E.pb,0,none⟩)] w (dZ E (oN E.ah st) w):=by
 unfold oN at hn ⊢;have n3:=aK (aL _ _ _) hn;have n2:=aK (aM _ _ _) n3;have n1:=aK (fA _ _ _) n2;have n0:=aK (aO _ _) n1;have HL:=ay (bT E st w hp hE.1 hE.2.1 n0);have HK:=ay (fun w hp=>sV E hE 1 (aD E.ah st).2 w hp n1);have HM:=ay (fun w hp=>eu E hE ⟨#[59]⟩ (bA E.ah 1 (aD E.ah st).2).2 w hp n2);have HN:=ay (fun w hp=>iQ E 2 [(aD E.ah st).1,(bA E.ah 1 (aD E.ah st).2).1,(aH E.ah [[59]] (bA E.ah 1 (aD E.ah st).2).2).1] 3 _ (aH E.ah [[59]] (bA E.ah 1 (aD E.ah st).2).2).2 w hp rfl rfl (by omega) n3);clear n0 n1 n2 n3 hn;obtain⟨d0,_,_,_,_,_⟩:=hp.cells;go_enter Tryz.func99,Tryz.ntmps99;go_wp2_with (go_at_call 162;refine HL.out.mono ?_);rintro e w1 ⟨rfl,hp1,hk1⟩;clear d0;go_wp2_with (go_at_call 102;refine(HK.out _ hp1).mono ?_);rintro e w2 ⟨rfl,hp2,hk2⟩;go_wp2_with (go_at_call 163;refine(HM.out _ hp2).mono ?_);rintro e w3 ⟨rfl,hp3,gM⟩;go_wp2_with (go_at_call 101;refine(HN.out _ hp3).mono ?_);rintro e w4 ⟨rfl,qo,hk4⟩;go_wp2;go_ret;exact⟨rfl,qo,((hk1.trans hk2).trans gM).trans hk4⟩
def adT (E:bG)(W0:World)(r:List Int × aJ)(e:Ending)(w':World):Prop:=∃ v R,e=.returned v∧jv E W0 R v r.1 r.2 w'
theorem Jt (E:bG)(hE:E.ok)(g:Nat)(W0:World)(R:List Nat)(v:Value)(ks:List Int)(st:aJ)(r:List Int × aJ)(w:World)(h:iB E.ah E.depth g ks st=some r)(K0:jv E W0 R v ks st w)(hB:E.B≤W0.heap.size)(hn:r.2.aj.length+1≤1099511627776)(hcl:st.aC=false)(hks:ks.length≤1000000) :
  Calls Tryz.prog 166 #[.pointer (some ⟨E.pb,0,none⟩),v] w (adT E W0 r):=by
 have vg:=hE.2.2;obtain⟨i0,hi,hz0,hz1,hz2⟩:=info_parts Tryz.nG
 have n3:(eD E.ah st).2.aj.length+1≤1099511627776:=by
  unfold iB at h
  split at h
  ·obtain⟨n,h1,h⟩:=cK h
   obtain rfl:=kR h;exact aK (Cj h1) hn
  ·obtain rfl:=kR h
   exact hn
 have n2:(yI E.ah st).2.aj.length+1≤1099511627776:=aK (aL _ _ _) n3;have n1:(kG E.ah st).2.aj.length+1≤1099511627776:=aK (aM _ _ _) n2;have n0:=aK (aM E.ah [[58]] st) n1
 have hc3:(eD E.ah st).2.aC=false:=by rw[(Bb E.ah st).2.2.1];exact hcl
 obtain⟨ao,cap,rfl⟩:=pq K0.1;have Y9:=ay (eu { E with R:=R } hE ⟨#[58]⟩ st w K0.2.2.2.1 n0);have GR:=ay (fun R w hp=>Z6 { E with R:=R } hE ⟨#[105,110,116]⟩ ⟨#[98,111,111,108]⟩ (kG E.ah st).2 w hp n1);have HM3:=ay (fun R w hp=>iQ { E with R:=R } 5 [(yI E.ah st).1] 1 _ (yI E.ah st).2 w hp rfl rfl (by omega) n2);have H0:=ay h;have HN:=ay hn;clear n0 n1 n2 h hn;go_enter Tryz.func166,Tryz.ntmps166;go_wp2_with (go_at_call 163;refine Y9.out.mono ?_);rintro e w1 ⟨rfl,hq,dn⟩;have K1:=K0.call hq dn;clear hq dn Y9;have hL:=K1.lit (.cells #[.int .i64 (kG E.ah st).1] 3);have hnw:=aY w1 (.cells #[.int .i64 (kG E.ah st).1] 3);go_wp2_with (at_builtin;refine wpList_append_lies _ rfl _ _ 127 rfl W0.heap.size 3 i0 (.int .i64 0) 1 8 Tryz.underlying127 hi hz0 hz1 hz2 rfl (by decide) _ (ks.length) _ rfl (hL.row (rfl:ks.length=ks.length)) ⟨w1.heap.size,0,none⟩ 1 1 [.int .i64 (kG E.ah st).1] rfl rfl ?c1 ?c2 ?c3 ?c4 ?c5 ?c6 _ rfl ?_)
 case c1=>exact vv (cs:=#[.int .i64 (kG E.ah st).1]) (t:=3) (fr:=(0,0)) hnw
 case c2=>simp[Value.oneCell']
 case c3=>omega
 case c4=>unfold maxLen;omega
 case c5=>omega
 case c6=>exact hL.2.2.2.2.size
 intro g2 cap2 w2 hown hgrow hat hlt;obtain⟨R2,K2⟩:=hL.app (news:=[(kG E.ah st).1]) (n:=ks.length+1) hB (by rw[bN,(rfl:ks.length=ks.length)];rfl) hown hgrow hat (by simp) hlt;clear hL hnw hown hgrow hat hlt;generalize hkk:ks++[(kG E.ah st).1]=kk2 at K2;have HL2:Hid (kk2.length=ks.length+1):=ay (by rw[← hkk,bN,(rfl:ks.length=ks.length)];rfl);have HK2:=ay hkk;clear hkk;have HM:=ay (GR.out R2 _ K2.2.2.2.1);clear GR K1 K0;go_wp2_with (go_at_call 163;refine HM.out.mono ?_);rintro e w3 ⟨rfl,hq,dn⟩;have K3:=K2.call hq dn;clear hq dn HM;have HM:=ay (HM3.out R2 _ K3.2.2.2.1);clear HM3 K2;go_wp2_with (go_at_call 101;refine HM.out.mono ?_);rintro e w4 ⟨rfl,hq,dn⟩;have K4:=K3.call hq dn;clear hq dn HM;clear K3;have hL:=K4.lit (.cells #[.int .i64 (eD E.ah st).1] 3);have hnw:=aY w4 (.cells #[.int .i64 (eD E.ah st).1] 3);go_wp2_with (at_builtin;refine wpList_append_lies _ rfl _ _ 127 rfl W0.heap.size 3 i0 (.int .i64 0) 1 8 Tryz.underlying127 hi hz0 hz1 hz2 rfl (by decide) _ (ks.length+1) _ rfl (hL.row HL2.out) ⟨w4.heap.size,0,none⟩ 1 1 [.int .i64 (eD E.ah st).1] rfl rfl ?c1 ?c2 ?c3 ?c4 ?c5 ?c6 _ rfl ?_)
 case c1=>exact vv (cs:=#[.int .i64 (eD E.ah st).1]) (t:=3) (fr:=(0,0)) hnw
 case c2=>simp[Value.oneCell']
 case c3=>omega
 case c4=>unfold maxLen;omega
 case c5=>omega
 case c6=>exact hL.2.2.2.2.size
 intro g5 kE w5 hown hgrow hat hlt;obtain⟨R5,K5⟩:=hL.app (news:=[(eD E.ah st).1]) (n:=ks.length+1+1) hB (by rw[bN,HL2.out];rfl) hown hgrow hat (by simp) hlt;clear hL hnw hown hgrow hat hlt;generalize hkk:kk2++[(eD E.ah st).1]=kk5 at K5;have VO:Hid (kk5.length=ks.length+1+1):=ay (by rw[← hkk,bN,HL2.out];rfl);have HK5:=ay hkk;clear hkk;clear K4;have H5:Hid (kk5=ks++[(kG E.ah st).1,(eD E.ah st).1]):=ay (by rw[← HK5.out,← HK2.out];simp)
 by_cases hf:(eD E.ah st).2.fE=0
 ·have HO:=ay (jW { E with R:=R5 } (eD E.ah st).2 hf _ K5.2.2.2.1)
  by_cases hx:bF E.ah (eD E.ah st).2 [[123]]=true
  ·have h:=H0.out
   unfold iB at h;rw[if_pos ⟨hf,hx⟩] at h;obtain⟨n,h1,h⟩:=cK h;obtain rfl:=kR h;have hn:=HN.out;unfold jJ at h1;obtain⟨f,h2,h1⟩:=cK h1;obtain rfl:=kR h1;rw[hc3] at hn;have m3:=aK (aL _ _ _) hn;have m2':(kH f.2 false).aj.length+1≤1099511627776:=aK (aM E.ah [[125]] (kH f.2 false)) m3;have m2:f.2.aj.length+1≤1099511627776:=m2';have m1':(kH (aD E.ah (eD E.ah st).2).2 true).aj.length+1≤1099511627776:=aK (bg _ _ _ _ _ _ h2) m2;have m1:(aD E.ah (eD E.ah st).2).2.aj.length+1≤1099511627776:=m1';have HX:=ay (fun w hp=>dW { E with R:=R5 } hE ⟨#[123]⟩ (eD E.ah st).2 true hx w hp);have HLf:=ay (fun w hp=>bT { E with R:=R5 } (eD E.ah st).2 w hp hE.1 hE.2.1 n3);have HEx:=ay (fun w hp=>allT { E with R:=R5 } hE g (.expr 1) (kH (aD E.ah (eD E.ah st).2).2 true) f w h2 hp m2 (by show 1≤_;omega));have HMu:=ay (fun w hp=>eu { E with R:=R5 } hE ⟨#[125]⟩ (kH f.2 false) w hp m2);have Xa:=ay (fun w hp=>iQ { E with R:=R5 } 6 [(aD E.ah (eD E.ah st).2).1,f.1,(aH E.ah [[125]] (kH f.2 false)).1] 3 _ (aH E.ah [[125]] (kH f.2 false)).2 w hp rfl rfl (by omega) m3);clear h2 hn m1 m2 m1' m2' m3 n3 hf hx H0 HN;go_wp2_with (go_at_call 96;refine HO.out.mono ?_);rintro e w6 ⟨rfl,hq,dn⟩;have K6:=K5.call hq dn;clear hq dn HO K5;go_wp2_with (go_at_call 160;refine(HX.out _ K6.2.2.2.1).mono ?_);rintro e w7 ⟨rfl,hq,dn⟩;have K7:=K6.call hq dn;clear hq dn HX K6;obtain⟨d0,_,_,_,_,_⟩:=PW.cells K7.2.2.2.1;go_wp2_with (go_at_call 162;refine(HLf.out _ K7.2.2.2.1).mono ?_);rintro e w8 ⟨rfl,hq,dn⟩;have K8:=K7.call hq dn;clear hq dn HLf K7 d0;obtain⟨hm8,afA⟩:=PW.mark K8.2.2.2.1 true;have hz8:w8.frozen? ⟨E.pb,2,none⟩=false:=(PW.cells K8.2.2.2.1).2.2.2.2.2 2;have c8:=(PW.cells K8.2.2.2.1).2.2.1;have K9:=K8.call hm8 afA;have HEY:=ay (HEx.out _ K9.2.2.2.1);clear hm8 afA HEx K8;go_wp2_with (go_at_call 167;refine HEY.out.mono ?_)
   rintro e mH ⟨rfl,hq,dn⟩;have IC:=K9.call hq dn;clear hq dn HEY K9 hz8 c8;obtain⟨afB,acH⟩:=PW.mark IC.2.2.2.1 false;have adB:mH.frozen? ⟨E.pb,2,none⟩=false:=(PW.cells IC.2.2.2.1).2.2.2.2.2 2;have c10:=(PW.cells IC.2.2.2.1).2.2.1;have A8:=IC.call afB acH;have hMV:=HMu.out _ A8.2.2.2.1;rw[show (mH.setCell ⟨E.pb,2,none⟩ (.bool false)).heap.size=mH.heap.size by simp] at hMV;have HMV:=ay hMV;clear hMV;clear afB acH HMu IC;go_wp2_with (go_at_call 163;refine HMV.out.mono ?_);rintro e w12 ⟨rfl,hq,dn⟩;have Ar:=A8.call hq dn;clear hq dn HMV A8 adB c10;have HNV:=ay (Xa.out _ Ar.2.2.2.1);clear Xa;go_wp2_with (go_at_call 101;refine HNV.out.mono ?_);rintro e w13 ⟨rfl,hq,dn⟩;have CZ:=Ar.call hq dn;clear hq dn HNV Ar;have hL:=CZ.lit (.cells #[.int .i64 (bJ 6 [(aD E.ah (eD E.ah st).2).1,f.1,(aH E.ah [[125]] (kH f.2 false)).1] (aH E.ah [[125]] (kH f.2 false)).2).1] 3);have hnw:=aY w13 (.cells #[.int .i64 (bJ 6 [(aD E.ah (eD E.ah st).2).1,f.1,(aH E.ah [[125]] (kH f.2 false)).1] (aH E.ah [[125]] (kH f.2 false)).2).1] 3);go_wp2_with (at_builtin;refine wpList_append_lies _ rfl _ _ 127 rfl W0.heap.size 3 i0 (.int .i64 0) 1 8 Tryz.underlying127 hi hz0 hz1 hz2 rfl (by decide) _ (ks.length+1+1) _ rfl (hL.row VO.out) ⟨w13.heap.size,0,none⟩ 1 1 [.int .i64 (bJ 6 [(aD E.ah (eD E.ah st).2).1,f.1,(aH E.ah [[125]] (kH f.2 false)).1] (aH E.ah [[125]] (kH f.2 false)).2).1] rfl rfl ?c1 ?c2 ?c3 ?c4 ?c5 ?c6 _ rfl ?_)
   case c1=>exact vv (cs:=#[.int .i64 (bJ 6 [(aD E.ah (eD E.ah st).2).1,f.1,(aH E.ah [[125]] (kH f.2 false)).1] (aH E.ah [[125]] (kH f.2 false)).2).1]) (t:=3) (fr:=(0,0)) hnw
   case c2=>simp[Value.oneCell']
   case c3=>omega
   case c4=>unfold maxLen;omega
   case c5=>omega
   case c6=>exact hL.2.2.2.2.size
   intro g14 afC w14 hown hgrow hat hlt;obtain⟨R14,K14⟩:=hL.app (news:=[(bJ 6 [(aD E.ah (eD E.ah st).2).1,f.1,(aH E.ah [[125]] (kH f.2 false)).1] (aH E.ah [[125]] (kH f.2 false)).2).1]) (n:=ks.length+1+1+1) hB (by rw[bN,VO.out];rfl) hown hgrow hat (by simp) hlt;clear hL hnw hown hgrow hat hlt;generalize hkk:kk5++[(bJ 6 [(aD E.ah (eD E.ah st).2).1,f.1,(aH E.ah [[125]] (kH f.2 false)).1] (aH E.ah [[125]] (kH f.2 false)).2).1]=agZ at K14;have ahV:Hid (agZ.length=ks.length+1+1+1):=ay (by rw[← hkk,bN,VO.out];rfl);have ag0:=ay hkk;clear hkk;go_wp2;go_ret;have e14:=K14;rw[← ag0.out,H5.out] at e14;simp only[nQ,jN,qc] at e14;refine⟨.slice (some ⟨g14,0,none⟩) (ks.length+1+1+1) afC,R14,rfl,?_⟩;rw[hc3];exact e14
  ·have h:=H0.out
   unfold iB at h;rw[if_neg (fun q=>hx q.2)] at h;obtain rfl:=kR h;have HX:=ay (fun w hp=>dW { E with R:=R5 } hE ⟨#[123]⟩ (eD E.ah st).2 false (eq_false_of_ne_true hx) w hp);clear n3 hf hx H0 HN;go_wp2_with (go_at_call 96;refine HO.out.mono ?_);rintro e w6 ⟨rfl,hq,dn⟩;have K6:=K5.call hq dn;clear hq dn HO K5;go_wp2_with (go_at_call 160;refine(HX.out _ K6.2.2.2.1).mono ?_);rintro e w7 ⟨rfl,hq,dn⟩;have K7:=K6.call hq dn;clear hq dn HX K6;go_wp2;go_ret;rw[H5.out] at K7;exact⟨_,R5,rfl,K7⟩
 ·have h:=H0.out
  unfold iB at h;rw[if_neg (fun q=>hf q.1)] at h;obtain rfl:=kR h;have HO:=ay (uT { E with R:=R5 } (eD E.ah st).2 hf _ K5.2.2.2.1);clear n3 hf H0 HN;go_wp2_with (go_at_call 96;refine HO.out.mono ?_);rintro e w6 ⟨rfl,hq,dn⟩;have K6:=K5.call hq dn;clear hq dn HO K5;go_wp2;go_ret;rw[H5.out] at K6;exact⟨_,R5,rfl,K6⟩
theorem Ww (E:bG)(hE:E.ok)(g:Nat)(st:aJ)(r:Int × aJ)(w:World)(h:jy E.ah E.depth g st=some r)(hp:PW E st w)(hn:r.2.aj.length+1≤1099511627776)(hcl:st.aC=false) :
  Calls Tryz.prog 165 #[.pointer (some ⟨E.pb,0,none⟩)] w (dZ E r w):=by
 unfold jy at h;obtain⟨l,h1,h⟩:=cK h;obtain rfl:=kR h;have n2:=aK (aL _ _ _) hn;have n1:=aK (jL h1) n2;have n0:=aK (fA _ _ _) n1
 have hll:l.1.length≤4:=by
  unfold iB at h1
  split at h1
  ·obtain⟨n,h2,h1⟩:=cK h1
   obtain rfl:=kR h1
   simp
  ·obtain rfl:=kR h1
   simp
 have HK:=ay (sV E hE 1 st w hp n0)
 have hc1:(bA E.ah 1 st).2.aC=false:=by rw[(fA E.ah 1 st).2.2.1];exact hcl
 have HB:E.B≤w.heap.size:=hp.fq;have HT:=ay (fun W R v K=>Jt E hE g w R v _ _ l W h1 K HB n2 hc1 (by simp));have HN:=ay (fun R w v hq hv=>kS { E with R:=R } 4 v l.1 l.2 w hq hv (by omega) n2);clear n0 n1 n2 hn h1 h hc1;go_enter Tryz.func165,Tryz.ntmps165;go_wp2_with (go_at_call 102;refine HK.out.mono ?_);rintro e w1 ⟨rfl,hp1,hk1⟩;have K1:=jv.start (W0:=w) (bA E.ah 1 st).1 hp1 hk1;have HTy:=ay (HT.out _ _ _ K1);clear HT hp1 hk1 K1 HK;go_wp2_with (go_at_call 166;refine HTy.out.mono ?_);rintro e w2 ⟨v,R2,rfl,K2⟩;have Xa:=ay (HN.out R2 _ v K2.2.2.2.1 K2.node);clear HN HTy;obtain⟨ao,cap,rfl⟩:=pq K2.1;go_wp2_with (go_at_call 101;refine Xa.out.mono ?_);rintro e w3 ⟨rfl,hq,dn⟩;have K3:=K2.call hq dn;go_wp2;go_ret;exact⟨rfl,PR.drop K3.2.2.2.1 K3.2.2.1,K3.2.2.2.2⟩
def slN:Value→Nat | .slice _ n _=>n|_=>0
theorem jv.lift {E:bG}{W0 W1:World}{R:List Nat}{v:Value}{ks:List Int}{s:aJ}{w:World}(h:jv E W1 R v ks s w)(hk:Kp E.B W0 W1):jv E W0 R v ks s w:=by
 obtain⟨h1,h2,h3,h4,h5⟩:=h;refine⟨⟨h1.1,?_⟩,h2,h3,h4,hk.trans h5⟩
 rcases h1.2 with hn|⟨g,cap,cur,hv,hg,hr⟩
 ·exact .inl hn
 ·exact .inr ⟨g,cap,cur,hv,jc hk.size hg,hr⟩
theorem jv.none {E:bG}{w:World}{s:aJ}(hp:PW E s w):jv E w E.R (.slice none 0 0) [] s w:=⟨World.ownsRow_nil _ _ _ _,fun b q=>by simp[Value.ownBlock] at q,fun _ q=>q,hp,Kp.refl _ _⟩
theorem Dr (E:bG)(hE:E.ok)(v:Value)(l:List (List UInt8))(st:aJ)(x:Bool)(hx:bF E.ah st l=x)(w:World)(hp:PW E st w)(hv:lV w v l)(hl:l.length≤1000) :
  Calls Tryz.prog 160 #[.pointer (some ⟨E.pb,0,none⟩),v] w (sW E st x w):=by
 subst hx
 exact(vM E v l st w hp hv hE.1 hE.2.1 hl).mono fun e w' ⟨he,hb⟩=>⟨he,hp.later hb,Kp.of hb hp.fq⟩
def acI (E:bG)(one:aJ→Option (Int × aJ))(first:List (List UInt8))(most:Nat)(res:List Int × aJ)(w0:World)(kv:Value)(wr:World):Prop :=
 ∃ (r:Nat) (aA:List Int) (s:aJ) (R:List Nat),aA.length+r=most∧jK E.ah one first r aA s=some res∧jv E w0 R kv aA s wr∧s.aC=false∧(aA=[]→kv=.slice none 0 0)
def Z7 (E:bG)(W0:World)(r:List Int × aJ)(e:Ending)(w':World):Prop:=∃ v R,e=.returned v∧(r.1=[]→v=.slice none 0 0)∧jv E W0 R v r.1 r.2 w'
theorem Df (E:bG)(hE:E.ok)(one:aJ→Option (Int × aJ))(first:List (List UInt8))(fa:Option Addr)(fc:Nat)(most:Nat)(hm:most≤1000)(st:aJ)(res:List Int × aJ)(w:World)(h:jK E.ah one first most [] st=some res)(hp:PW E st w)(hn:res.2.aj.length+1≤1099511627776)(hcl:st.aC=false)
  (hF:∀ wr,Kp E.B w wr→lV wr (.slice fa first.length fc) first) (hfl:first.length≤1000) (hext:∀ s k,one s=some k→dP s k.2)
  (hone:∀ (R:List Nat) (s:aJ) (k:Int × aJ) (w':World),s.aC=false→one s=some k→PR E R s w'→k.2.aj.length+1≤1099511627776 →
   Calls Tryz.prog 99 #[.pointer (some ⟨E.pb,0,none⟩)] w' (dZ { E with R:=R } k w')) :
  Calls Tryz.prog 98 #[.pointer (some ⟨E.pb,0,none⟩),.int .i64 most,.func (.func 99) #[.pointer (some ⟨E.pb,0,none⟩)] #[],.slice fa first.length fc] w (Z7 E w res):=by
 obtain⟨i0,hi,hz0,hz1,hz2⟩:=info_parts Tryz.nG;have H0:=ay h;have Ea:=ay hone;have GZ:=ay hext;have HN:=ay hn;have HE:=ay hE;have HF:=ay hF;have HFL:=ay hfl;have HM:=ay hm;clear hone hext h hn hF hE hfl hm;go_enter Tryz.func98,Tryz.ntmps98;go_wp2
 go_loopw [9] (fun kv wr=>acI E one first most res w kv wr) (fun kv _=>most - slN kv)
 case atStart=>exact⟨most,[],st,E.R,by simp,H0.out,jv.none hp,hcl,fun _=>rfl⟩
 case round =>
  obtain⟨r,aA,s,R,hlen,hl,K0,hsc,hnil⟩:=hrel;have xD:=ay hnil;clear hnil;obtain⟨ao,cap,rfl⟩:=pq K0.1;have hBw:E.B≤w.heap.size:=hp.fq;have hm:=HM.out
  by_cases hf:s.fE=0
  ·have HO:=ay (jW { E with R:=R } s hf _ K0.2.2.2.1)
   by_cases hx:bF E.ah s first=true
   ·have HX:=ay (fun w hp hv=>Dr { E with R:=R } HE.out (.slice fa first.length fc) first s true hx w hp hv HFL.out)
    cases r with
    | zero =>
     rw[jK,if_pos ⟨hf,hx⟩] at hl
     injection hl with hl
     have TA:=ay (fun w hp=>mF { E with R:=R } HE.out 15 s w hp);have HL:=ay hl
     have hkb:((aA.length:Int) == (most:Int))=true:=by rw[beq_iff_eq];omega
     have hkn:(aA.length == most)=true:=by rw[beq_iff_eq];omega
     clear hl hf hx hlen;go_wp2_with (go_at_call 96;refine HO.out.mono ?_);rintro e w2 ⟨rfl,hq,dn⟩;have K2:=K0.call hq dn;clear hq dn;go_wp2_with (go_at_call 160;refine(HX.out _ K2.2.2.2.1 (HF.out _ K2.2.2.2.2)).mono ?_);rintro e w3 ⟨rfl,hq,dn⟩;have K3:=K2.call hq dn;clear hq dn;go_wp2_with (go_at_call 161;refine(TA.out _ K3.2.2.2.1).mono ?_);rintro e w4 ⟨rfl,hq,dn⟩;have K4:=K3.call hq dn;clear hq dn;go_wp2;go_ret;have e4:=HL.out;subst e4;exact⟨_,R,rfl,xD.out,K4⟩
    | succ r =>
     rw[jK,if_pos ⟨hf,hx⟩] at hl;obtain⟨k,h1,hl⟩:=cK hl;have hnk:k.2.aj.length+1≤1099511627776:=aK (pE GZ.out _ _ _ _ hl) HN.out;have HCK:Hid (k.2.aC=false):=ay (by rw[(GZ.out s k h1).2.2.1];exact hsc);have HK:=ay (fun w' hp=>Ea.out R s k w' hsc h1 hp hnk);have HL:=ay hl
     have hkb:((aA.length:Int) == (most:Int))=false:=by rw[← Bool.not_eq_true,beq_iff_eq];omega
     have hkn:(aA.length == most)=false:=by rw[← Bool.not_eq_true,beq_iff_eq];omega
     have HLEN:=ay hlen
     have hkl:aA.length≤1000:=by omega
     clear hl h1 hf hx hlen hnk;go_wp2_with (go_at_call 96;refine HO.out.mono ?_);rintro e w2 ⟨rfl,hq,dn⟩;have K2:=K0.call hq dn;clear hq dn;go_wp2_with (go_at_call 160;refine(HX.out _ K2.2.2.2.1 (HF.out _ K2.2.2.2.2)).mono ?_);rintro e w3 ⟨rfl,hq,dn⟩;have K3:=K2.call hq dn;clear hq dn K2 K0;go_wp2_with (go_at_call 99;refine(HK.out _ K3.2.2.2.1).mono ?_);rintro e w4 ⟨rfl,hq,dn⟩;have K4:=K3.call hq dn;clear hq dn K3;have hL:=K4.lit (.cells #[.int .i64 k.1] 3);have hnw:=aY w4 (.cells #[.int .i64 k.1] 3);go_wp2_with (at_builtin;refine wpList_append_lies _ rfl _ _ 127 rfl w.heap.size 3 i0 (.int .i64 0) 1 8 Tryz.underlying127 hi hz0 hz1 hz2 rfl (by decide) _ (aA.length) _ rfl hL.1 ⟨w4.heap.size,0,none⟩ 1 1 [.int .i64 k.1] rfl rfl ?c1 ?c2 ?c3 ?c4 ?c5 ?c6 _ rfl ?_)
     case c1=>exact vv (cs:=#[.int .i64 k.1]) (t:=3) (fr:=(0,0)) hnw
     case c2=>simp[Value.oneCell']
     case c3=>omega
     case c4=>unfold maxLen;omega
     case c5=>omega
     case c6=>exact hL.2.2.2.2.size
     intro g5 kE w5 hown hgrow hat hlt;obtain⟨R5,K5⟩:=hL.app (news:=[k.1]) hBw (by simp) hown hgrow hat (by simp) hlt;clear hL hnw hown hgrow hat hlt K4;go_wp2
     go_roundw
     case rel=>exact⟨r,aA++[k.1],k.2,R5,by have:=HLEN.out;simp;omega,HL.out,K5,HCK.out,fun q=>by simp at q⟩
     case measure=>have:=HLEN.out;simp[slN];omega
   ·have hl':(aA,s)=res:=by
     cases r with
     | zero=>rw[jK,if_neg (fun q=>hx q.2)] at hl;injection hl
     | succ r=>rw[jK,if_neg (fun q=>hx q.2)] at hl;injection hl
    have HX:=ay (fun w hp hv=>Dr { E with R:=R } HE.out (.slice fa first.length fc) first s false (eq_false_of_ne_true hx) w hp hv HFL.out);have HL:=ay hl';clear hl hl' hf hx hlen;go_wp2_with (go_at_call 96;refine HO.out.mono ?_);rintro e w2 ⟨rfl,hq,dn⟩;have K2:=K0.call hq dn;clear hq dn;go_wp2_with (go_at_call 160;refine(HX.out _ K2.2.2.2.1 (HF.out _ K2.2.2.2.2)).mono ?_);rintro e w3 ⟨rfl,hq,dn⟩;have K3:=K2.call hq dn;clear hq dn;go_wp2;go_ret;have e4:=HL.out;subst e4;exact⟨_,R,rfl,xD.out,K3⟩
  ·have HO:=ay (uT { E with R:=R } s hf _ K0.2.2.2.1)
   have hl':(aA,s)=res:=by
    cases r with
    | zero=>rw[jK,if_neg (fun q=>hf q.1)] at hl;injection hl
    | succ r=>rw[jK,if_neg (fun q=>hf q.1)] at hl;injection hl
   have HL:=ay hl';clear hl hl' hf hlen;go_wp2_with (go_at_call 96;refine HO.out.mono ?_);rintro e w2 ⟨rfl,hq,dn⟩;have K2:=K0.call hq dn;clear hq dn;go_wp2;go_ret;have e4:=HL.out;subst e4;exact⟨_,R,rfl,xD.out,K2⟩
theorem Lf (E:bG)(hE:E.ok)(one:aJ→Option (Int × aJ))(first:List (List UInt8))(fa:Option Addr)(fc:Nat)(most:Nat)(hm:most≤1000)(st:aJ)(res:List Int × aJ)(w:World)(h:jK E.ah one first most [] st=some res)(hp:PW E st w)(hn:res.2.aj.length+1≤1099511627776)(hcl:st.aC=false)
  (hF:∀ wr,Kp E.B w wr→lV wr (.slice fa first.length fc) first) (hfl:first.length≤1000) (hext:∀ s k,one s=some k→dP s k.2)
  (hone:∀ (R:List Nat) (s:aJ) (k:Int × aJ) (w':World),s.aC=false→one s=some k→PR E R s w'→k.2.aj.length+1≤1099511627776 →
   Calls Tryz.prog 100 #[.pointer (some ⟨E.pb,0,none⟩)] w' (dZ { E with R:=R } k w')) :
  Calls Tryz.prog 98 #[.pointer (some ⟨E.pb,0,none⟩),.int .i64 most,.func (.func 100) #[.pointer (some ⟨E.pb,0,none⟩)] #[],.slice fa first.length fc] w (Z7 E w res):=by
 obtain⟨i0,hi,hz0,hz1,hz2⟩:=info_parts Tryz.nG;have H0:=ay h;have Ea:=ay hone;have GZ:=ay hext;have HN:=ay hn;have HE:=ay hE;have HF:=ay hF;have HFL:=ay hfl;have HM:=ay hm;clear hone hext h hn hF hE hfl hm;go_enter Tryz.func98,Tryz.ntmps98;go_wp2
 go_loopw [9] (fun kv wr=>acI E one first most res w kv wr) (fun kv _=>most - slN kv)
 case atStart=>exact⟨most,[],st,E.R,by simp,H0.out,jv.none hp,hcl,fun _=>rfl⟩
 case round =>
  obtain⟨r,aA,s,R,hlen,hl,K0,hsc,hnil⟩:=hrel;have xD:=ay hnil;clear hnil;obtain⟨ao,cap,rfl⟩:=pq K0.1;have hBw:E.B≤w.heap.size:=hp.fq;have hm:=HM.out
  by_cases hf:s.fE=0
  ·have HO:=ay (jW { E with R:=R } s hf _ K0.2.2.2.1)
   by_cases hx:bF E.ah s first=true
   ·have HX:=ay (fun w hp hv=>Dr { E with R:=R } HE.out (.slice fa first.length fc) first s true hx w hp hv HFL.out)
    cases r with
    | zero =>
     rw[jK,if_pos ⟨hf,hx⟩] at hl
     injection hl with hl
     have TA:=ay (fun w hp=>mF { E with R:=R } HE.out 15 s w hp);have HL:=ay hl
     have hkb:((aA.length:Int) == (most:Int))=true:=by rw[beq_iff_eq];omega
     have hkn:(aA.length == most)=true:=by rw[beq_iff_eq];omega
     clear hl hf hx hlen;go_wp2_with (go_at_call 96;refine HO.out.mono ?_);rintro e w2 ⟨rfl,hq,dn⟩;have K2:=K0.call hq dn;clear hq dn;go_wp2_with (go_at_call 160;refine(HX.out _ K2.2.2.2.1 (HF.out _ K2.2.2.2.2)).mono ?_);rintro e w3 ⟨rfl,hq,dn⟩;have K3:=K2.call hq dn;clear hq dn;go_wp2_with (go_at_call 161;refine(TA.out _ K3.2.2.2.1).mono ?_);rintro e w4 ⟨rfl,hq,dn⟩;have K4:=K3.call hq dn;clear hq dn;go_wp2;go_ret;have e4:=HL.out;subst e4;exact⟨_,R,rfl,xD.out,K4⟩
    | succ r =>
     rw[jK,if_pos ⟨hf,hx⟩] at hl;obtain⟨k,h1,hl⟩:=cK hl;have hnk:k.2.aj.length+1≤1099511627776:=aK (pE GZ.out _ _ _ _ hl) HN.out;have HCK:Hid (k.2.aC=false):=ay (by rw[(GZ.out s k h1).2.2.1];exact hsc);have HK:=ay (fun w' hp=>Ea.out R s k w' hsc h1 hp hnk);have HL:=ay hl
     have hkb:((aA.length:Int) == (most:Int))=false:=by rw[← Bool.not_eq_true,beq_iff_eq];omega
     have hkn:(aA.length == most)=false:=by rw[← Bool.not_eq_true,beq_iff_eq];omega
     have HLEN:=ay hlen
     have hkl:aA.length≤1000:=by omega
     clear hl h1 hf hx hlen hnk;go_wp2_with (go_at_call 96;refine HO.out.mono ?_);rintro e w2 ⟨rfl,hq,dn⟩;have K2:=K0.call hq dn;clear hq dn;go_wp2_with (go_at_call 160;refine(HX.out _ K2.2.2.2.1 (HF.out _ K2.2.2.2.2)).mono ?_);rintro e w3 ⟨rfl,hq,dn⟩;have K3:=K2.call hq dn;clear hq dn K2 K0;go_wp2_with (go_at_call 100;refine(HK.out _ K3.2.2.2.1).mono ?_);rintro e w4 ⟨rfl,hq,dn⟩;have K4:=K3.call hq dn;clear hq dn K3;have hL:=K4.lit (.cells #[.int .i64 k.1] 3);have hnw:=aY w4 (.cells #[.int .i64 k.1] 3);go_wp2_with (at_builtin;refine wpList_append_lies _ rfl _ _ 127 rfl w.heap.size 3 i0 (.int .i64 0) 1 8 Tryz.underlying127 hi hz0 hz1 hz2 rfl (by decide) _ (aA.length) _ rfl hL.1 ⟨w4.heap.size,0,none⟩ 1 1 [.int .i64 k.1] rfl rfl ?c1 ?c2 ?c3 ?c4 ?c5 ?c6 _ rfl ?_)
     case c1=>exact vv (cs:=#[.int .i64 k.1]) (t:=3) (fr:=(0,0)) hnw
     case c2=>simp[Value.oneCell']
     case c3=>omega
     case c4=>unfold maxLen;omega
     case c5=>omega
     case c6=>exact hL.2.2.2.2.size
     intro g5 kE w5 hown hgrow hat hlt;obtain⟨R5,K5⟩:=hL.app (news:=[k.1]) hBw (by simp) hown hgrow hat (by simp) hlt;clear hL hnw hown hgrow hat hlt K4;go_wp2
     go_roundw
     case rel=>exact⟨r,aA++[k.1],k.2,R5,by have:=HLEN.out;simp;omega,HL.out,K5,HCK.out,fun q=>by simp at q⟩
     case measure=>have:=HLEN.out;simp[slN];omega
   ·have hl':(aA,s)=res:=by
     cases r with
     | zero=>rw[jK,if_neg (fun q=>hx q.2)] at hl;injection hl
     | succ r=>rw[jK,if_neg (fun q=>hx q.2)] at hl;injection hl
    have HX:=ay (fun w hp hv=>Dr { E with R:=R } HE.out (.slice fa first.length fc) first s false (eq_false_of_ne_true hx) w hp hv HFL.out);have HL:=ay hl';clear hl hl' hf hx hlen;go_wp2_with (go_at_call 96;refine HO.out.mono ?_);rintro e w2 ⟨rfl,hq,dn⟩;have K2:=K0.call hq dn;clear hq dn;go_wp2_with (go_at_call 160;refine(HX.out _ K2.2.2.2.1 (HF.out _ K2.2.2.2.2)).mono ?_);rintro e w3 ⟨rfl,hq,dn⟩;have K3:=K2.call hq dn;clear hq dn;go_wp2;go_ret;have e4:=HL.out;subst e4;exact⟨_,R,rfl,xD.out,K3⟩
  ·have HO:=ay (uT { E with R:=R } s hf _ K0.2.2.2.1)
   have hl':(aA,s)=res:=by
    cases r with
    | zero=>rw[jK,if_neg (fun q=>hf q.1)] at hl;injection hl
    | succ r=>rw[jK,if_neg (fun q=>hf q.1)] at hl;injection hl
   have HL:=ay hl';clear hl hl' hf hlen;go_wp2_with (go_at_call 96;refine HO.out.mono ?_);rintro e w2 ⟨rfl,hq,dn⟩;have K2:=K0.call hq dn;clear hq dn;go_wp2;go_ret;have e4:=HL.out;subst e4;exact⟨_,R,rfl,xD.out,K2⟩
theorem Sc {ah:List Tok}{d g:Nat}{aA:List Int}{st:aJ}{r:List Int × aJ}(h:iB ah d g aA st=some r):r.1.length≤aA.length+3:=by
 unfold iB at h
 split at h
 ·obtain⟨n,h2,h⟩:=cK h
  obtain rfl:=kR h
  simp
 ·obtain rfl:=kR h
  simp
theorem Z8 (ah:List Tok)(st:aJ):(oF ah st).1.length≤1:=by
 unfold oF
 split<;>simp
theorem Gt (E:bG)(hE:E.ok)(g:Nat)(st:aJ)(r:Int × aJ)(w:World)(h:xG E.ah E.depth g st=some r)(hp:PW E st w)(hn:r.2.aj.length+1≤1099511627776)(hcl:st.aC=false) :
  Calls Tryz.prog 100 #[.pointer (some ⟨E.pb,0,none⟩)] w (dZ E r w):=by
 have vg:=hE.2.2;obtain⟨i0,hi,hz0,hz1,hz2⟩:=info_parts Tryz.nG;have hB:E.B≤w.heap.size:=hp.fq;unfold xG at h;obtain⟨l,h1,h⟩:=cK h;obtain⟨t,h2,h⟩:=cK h;obtain⟨f,h3,h⟩:=cK h;obtain rfl:=kR h;have n9:=aK (aL _ _ _) hn;have n8:=aK (aM _ _ _) n9;have n7:=aK (bg _ _ _ _ _ _ h3) n8;have n6:=aK (aM _ _ _) n7;have n5:=aK (jL h2) n6;have n4:=aK (aM _ _ _) n5;have n3:(jA E.ah st).2.aj.length+1≤1099511627776:=aK (mE E.ah _ kI _ _ h1) n4;have n2:(kZ E.ah st).2.aj.length+1≤1099511627776:=aK (aM _ _ _) n3;have n1:(sw E.ah st).2.aj.length+1≤1099511627776:=aK (fA _ _ _) n2;have n0:(oF E.ah st).2.aj.length+1≤1099511627776:=aK (aM _ _ _) n1;have nl:st.aj.length+1≤1099511627776:=aK (Ns E.ah st) n0
 have hc3:(jA E.ah st).2.aC=false:=by rw[(EB E.ah st).2.2.1];exact hcl
 have hc4:l.2.aC=false:=by rw[(mE E.ah _ kI _ _ h1).2.2.1];exact hc3
 have hc5:(aH E.ah [[41]] l.2).2.aC=false:=by rw[(aM E.ah [[41]] l.2).2.2.1];exact hc4
 have hll:=IB _ _ _ _ h1;have hpl:=Z8 E.ah st;have htl:=Sc h2;simp only[bN,dR,gX] at htl;have HX:=ay (vN E hE ⟨#[112,117,98]⟩ st w hp);have HLf:=ay (fun R w hp=>bT { E with R:=R } st w hp hE.1 hE.2.1 nl);have Y9:=ay (fun R w hp=>eu { E with R:=R } hE ⟨#[102,117,110]⟩ (oF E.ah st).2 w hp n0);have GR:=ay (fun R w hp=>sV { E with R:=R } hE 1 (sw E.ah st).2 w hp n1);have HM3:=ay (fun R w hp=>eu { E with R:=R } hE ⟨#[40]⟩ (kZ E.ah st).2 w hp n2);have HLi:=ay (fun R w hp=>Sb { E with R:=R } hE (jy E.ah E.depth g) (jA E.ah st).2 l w h1 hp n4 hc3 kI (fun R2 s k w' hsc hk hq _ hnk=>Ww { E with R:=R2 } hE g s k w' hk hq hnk hsc));have HM4:=ay (fun R w hp=>eu { E with R:=R } hE ⟨#[41]⟩ l.2 w hp n4);have HTy:=ay (fun W0 R v W K hB hl=>Jt E hE g W0 R v _ _ t W h2 K hB n6 hc5 hl);have ZV:=ay (fun R w hp=>eu { E with R:=R } hE ⟨#[61]⟩ t.2 w hp n6);have HM6:=ay (fun R w hp=>allT { E with R:=R } hE g (.expr 1) (aH E.ah [[61]] t.2).2 f w h3 hp n8 (by show 1≤_;omega));have HM7:=ay (fun R w hp=>eu { E with R:=R } hE ⟨#[59]⟩ f.2 w hp n8);have Xa:=ay (fun R v w hp hv=>kS { E with R:=R } 3 v (t.1++[(aH E.ah [[61]] t.2).1,f.1,(aH E.ah [[59]] f.2).1]) (aH E.ah [[59]] f.2).2 w hp hv (by simp;omega) n9);clear n0 n1 n2 n3 n4 n5 n6 n7 n8 n9 nl hn h1 h2 h3 h hc3 hc4 hc5;have hx0:bF E.ah st [(⟨#[112,117,98]⟩:ByteArray).data.toList]=bF E.ah st [Ba]:=rfl;rw[hx0] at HX;clear hx0;have HPU:Hid ((bF E.ah st [Ba]=true→oF E.ah st=([(aD E.ah st).1],(aD E.ah st).2))∧(bF E.ah st [Ba]=false→oF E.ah st=([],st))):=ay ⟨fun q=>by rw[oF,if_pos q],fun q=>by rw[oF,if_neg (by rw[q];decide)]⟩;generalize bF E.ah st [Ba]=x at HX HPU;go_enter Tryz.func100,Tryz.ntmps100
 go_upto_if 6 with (go_at_call 160;refine HX.out.mono ?_;rintro e w1 ⟨rfl,hq,dn⟩)
 have K1:=(jv.none hp).call hq dn;clear hq dn HX
 go_cut [3] (fun v wc=>∃ R ao cap,v=.slice ao (oF E.ah st).1.length cap∧jv E w R (.slice ao (oF E.ah st).1.length cap) (oF E.ah st).1 (oF E.ah st).2 wc)
 case first =>
  cases x with
  | true =>
   have HPV:=ay (HPU.out.1 rfl);obtain⟨d0,_,_,_,_,_⟩:=PW.cells K1.2.2.2.1;have HLG:=ay (HLf.out E.R w1 K1.2.2.2.1);clear hpl htl;go_wp2_with (go_at_call 162;refine HLG.out.mono ?_);rintro e w2 ⟨rfl,hq,dn⟩;have K2:=K1.call hq dn;clear hq dn HLG d0;have hL:=K2.lit (.cells #[.int .i64 (aD E.ah st).1] 3);have hnw:=aY w2 (.cells #[.int .i64 (aD E.ah st).1] 3);go_wp2_with (at_builtin;refine wpList_append_lies _ rfl _ _ 127 rfl w.heap.size 3 i0 (.int .i64 0) 1 8 Tryz.underlying127 hi hz0 hz1 hz2 rfl (by decide) _ (0) _ rfl (hL.row (rfl:([]:List Int).length=0)) ⟨w2.heap.size,0,none⟩ 1 1 [.int .i64 (aD E.ah st).1] rfl rfl ?c1 ?c2 ?c3 ?c4 ?c5 ?c6 _ rfl ?_)
   case c1=>exact vv (cs:=#[.int .i64 (aD E.ah st).1]) (t:=3) (fr:=(0,0)) hnw
   case c2=>simp[Value.oneCell']
   case c3=>omega
   case c4=>unfold maxLen;omega
   case c5=>omega
   case c6=>exact hL.2.2.2.2.size
   intro g3 Z9 w3 hown hgrow hat hlt;obtain⟨R3,K3⟩:=hL.app (news:=[(aD E.ah st).1]) (n:=0+1) hB (by rw[bN,(rfl:([]:List Int).length=0)];rfl) hown hgrow hat (by simp) hlt;clear hL hnw hown hgrow hat hlt;generalize hkk:([]:List Int)++[(aD E.ah st).1]=kk3 at K3;have Pz:Hid (kk3.length=0+1):=ay (by rw[← hkk,bN,(rfl:([]:List Int).length=0)];rfl);have HK3:=ay hkk;clear hkk;go_wp2
   go_meet
   rw[HPV.out];refine⟨R3,some ⟨g3,0,none⟩,Z9,rfl,?_⟩;have e3:=K3;rw[← HK3.out] at e3;exact e3
  | false =>
   have HPV:=ay (HPU.out.2 rfl);clear hpl htl;go_wp2
   go_meet
   rw[HPV.out];exact⟨E.R,none,0,rfl,K1⟩
 case rest =>
  obtain⟨R3,ao3,Z9,rfl,K3⟩:=hcut;clear K1 HLf HPU
  obtain⟨w3,rfl⟩:∃ w3:World,w3=wc:=⟨_,rfl⟩
  generalize hk0:(oF E.ah st).1=k0 at hpl htl HTy K3;have Tp:=ay hk0;clear hk0;have wD:=ay (Y9.out R3 _ K3.2.2.2.1);go_wp2_with (go_at_call 163;refine wD.out.mono ?_);rintro e w4 ⟨rfl,hq,dn⟩;have K4:=K3.call hq dn;clear hq dn wD;have wD:=ay (GR.out R3 _ K4.2.2.2.1);go_wp2_with (go_at_call 102;refine wD.out.mono ?_);rintro e w5 ⟨rfl,hq,dn⟩;have K5:=K4.call hq dn;clear hq dn wD;have wD:=ay (HM3.out R3 _ K5.2.2.2.1);go_wp2_with (go_at_call 163;refine wD.out.mono ?_);rintro e w6 ⟨rfl,hq,dn⟩;have K6:=K5.call hq dn;clear hq dn wD;clear K3 K4 K5 Y9 GR HM3;have hL:=K6.lit (.cells #[.int .i64 (sw E.ah st).1,.int .i64 (kZ E.ah st).1,.int .i64 (jA E.ah st).1] 3);have hnw:=aY w6 (.cells #[.int .i64 (sw E.ah st).1,.int .i64 (kZ E.ah st).1,.int .i64 (jA E.ah st).1] 3);go_wp2_with (at_builtin;refine wpList_append_lies _ rfl _ _ 127 rfl w.heap.size 3 i0 (.int .i64 0) 1 8 Tryz.underlying127 hi hz0 hz1 hz2 rfl (by decide) _ (k0.length) _ rfl (hL.row (rfl:k0.length=k0.length)) ⟨w6.heap.size,0,none⟩ 3 3 [.int .i64 (sw E.ah st).1,.int .i64 (kZ E.ah st).1,.int .i64 (jA E.ah st).1] rfl rfl ?c1 ?c2 ?c3 ?c4 ?c5 ?c6 _ rfl ?_)
  case c1=>exact vv (cs:=#[.int .i64 (sw E.ah st).1,.int .i64 (kZ E.ah st).1,.int .i64 (jA E.ah st).1]) (t:=3) (fr:=(0,0)) hnw
  case c2=>simp[Value.oneCell']
  case c3=>omega
  case c4=>unfold maxLen;omega
  case c5=>omega
  case c6=>exact hL.2.2.2.2.size
  intro g7 ag1 w7 hown hgrow hat hlt;obtain⟨R7,K7⟩:=hL.app (news:=[(sw E.ah st).1,(kZ E.ah st).1,(jA E.ah st).1]) (n:=k0.length+3) hB (by rw[bN,(rfl:k0.length=k0.length)];rfl) hown hgrow hat (by simp) hlt;clear hL hnw hown hgrow hat hlt;generalize hkk:k0++[(sw E.ah st).1,(kZ E.ah st).1,(jA E.ah st).1]=kk7 at K7;have HL7:Hid (kk7.length=k0.length+3):=ay (by rw[← hkk,bN,(rfl:k0.length=k0.length)];rfl);have HK7:=ay hkk;clear hkk;clear K6
  go_upto_region 5 with fail
  go_cut [3] (fun v wc=>∃ R ao cap,v=.slice ao (k0.length+3+l.1.length) cap∧jv E w R (.slice ao (k0.length+3+l.1.length) cap) (kk7++l.1) l.2 wc)
  case first =>
   have HLJ:=ay (HLi.out R7 _ K7.2.2.2.1)
   have hmf:∀ (fn:Fn) (first cap:Array Value) (w:World),(Instr.makeFunc fn first cap).run Tryz.prog w=.ok (.func fn first cap) w:=fun _ _ _ _=>rfl
   clear HLi;go_wp2_with (go_at_call 164;refine HLJ.out.mono ?_);rintro e w8 ⟨v,rfl,hiv,hnil,hq,dn⟩;have K8:=K7.call hq dn;clear hq dn HLJ K7
   by_cases hl0:l.1=[]
   ·obtain rfl:=hnil hl0
    have hlz:l.1.length=0:=by rw[hl0];rfl
    go_wp2_with (at_builtin;refine wpList_append_own_none rfl _ _ 127 rfl w.heap.size 3 i0 1 Tryz.underlying127 hi _ (k0.length+3) _ rfl (K8.row HL7.out) rfl ?_);go_wp2
    go_meet
    refine⟨R7,some ⟨g7,0,none⟩,ag1,by rw[hlz],?_⟩;rw[hl0,List.append_nil];exact K8
   ·have hpos:0<l.1.length:=List.length_pos_iff.2 hl0
    obtain⟨aov,QB,rfl,hcv,hf⟩:=hiv;obtain⟨vb,vo,vcs,vfr,rfl,hh,hj⟩:=hf hpos;clear hnil hl0 hf;go_wp2_with (at_builtin;refine wpList_append_lies _ rfl _ _ 127 rfl w.heap.size 3 i0 (.int .i64 0) 1 8 Tryz.underlying127 hi hz0 hz1 hz2 rfl (by decide) _ (k0.length+3) _ rfl (K8.row HL7.out) ⟨vb,vo,none⟩ l.1.length QB (l.1.map (Value.int .i64)) rfl (by simp) ?c1 ?c2 ?c3 ?c4 ?c5 ?c6 _ rfl ?_)
    case c1=>exact wT hh hj
    case c2=>intro u hu;obtain⟨y,_,rfl⟩:=List.mem_map.1 hu;rfl
    case c3=>exact hpos
    case c4=>unfold maxLen;omega
    case c5=>omega
    case c6=>exact K8.2.2.2.2.size
    intro g9 afD w9 hown hgrow hat hlt;obtain⟨R9,K9⟩:=K8.app (news:=l.1) (n:=k0.length+3+l.1.length) hB (by rw[bN,HL7.out]) hown hgrow hat (by simp) hlt;clear hown hgrow hat hlt K8 hh hj;go_wp2
    go_meet
    exact⟨R9,some ⟨g9,0,none⟩,afD,rfl,K9⟩
  case rest =>
   obtain⟨R9,ao9,afD,rfl,K9⟩:=hcut;clear K7 HLi
   obtain⟨w9,rfl⟩:∃ w9:World,w9=wc:=⟨_,rfl⟩
   generalize XL:kk7++l.1=kk9 at K9;have HL9:Hid (kk9.length=k0.length+3+l.1.length):=ay (by rw[← XL,bN,HL7.out]);have HK9:=ay XL;clear XL;generalize hm9:k0.length+3+l.1.length=m9 at K9 HL9 htl
   have ahW:m9≤1000:=by omega
   clear hm9;have wD:=ay (HM4.out R9 _ K9.2.2.2.1);go_wp2_with (go_at_call 163;refine wD.out.mono ?_);rintro e mH ⟨rfl,hq,dn⟩;have IC:=K9.call hq dn;clear hq dn wD;have hL:=IC.lit (.cells #[.int .i64 (aH E.ah [[41]] l.2).1] 3);have hnw:=aY mH (.cells #[.int .i64 (aH E.ah [[41]] l.2).1] 3);go_wp2_with (at_builtin;refine wpList_append_lies _ rfl _ _ 127 rfl w.heap.size 3 i0 (.int .i64 0) 1 8 Tryz.underlying127 hi hz0 hz1 hz2 rfl (by decide) _ (m9) _ rfl (hL.row HL9.out) ⟨mH.heap.size,0,none⟩ 1 1 [.int .i64 (aH E.ah [[41]] l.2).1] rfl rfl ?c1 ?c2 ?c3 ?c4 ?c5 ?c6 _ rfl ?_)
   case c1=>exact vv (cs:=#[.int .i64 (aH E.ah [[41]] l.2).1]) (t:=3) (fr:=(0,0)) hnw
   case c2=>simp[Value.oneCell']
   case c3=>omega
   case c4=>unfold maxLen;omega
   case c5=>omega
   case c6=>exact hL.2.2.2.2.size
   intro g11 ahh vU hown hgrow hat hlt;obtain⟨R11,A8⟩:=hL.app (news:=[(aH E.ah [[41]] l.2).1]) (n:=m9+1) hB (by rw[bN,HL9.out];rfl) hown hgrow hat (by simp) hlt;clear hL hnw hown hgrow hat hlt;generalize hkk:kk9++[(aH E.ah [[41]] l.2).1]=afE at A8;have ahX:Hid (afE.length=m9+1):=ay (by rw[← hkk,bN,HL9.out];rfl);have ag2:=ay hkk;clear hkk
   have afF:afE=k0++[(sw E.ah st).1,(kZ E.ah st).1,(jA E.ah st).1]++l.1++[(aH E.ah [[41]] l.2).1]:=by rw[← ag2.out,← HK9.out,← HK7.out]
   have adU:=A8;rw[afF] at adU;have HTz:=ay (HTy.out w R11 _ vU adU hB (by simp;omega));clear afF adU HTy K9 IC HM4;go_wp2_with (go_at_call 166;refine HTz.out.mono ?_);rintro e w12 ⟨v12,R12,rfl,Ar⟩;clear HTz A8;obtain⟨ahY,SS,rfl⟩:=pq Ar.1
   have ahZ:t.1.length≤1000000:=by omega
   clear htl;have wD:=ay (ZV.out R12 _ Ar.2.2.2.1);go_wp2_with (go_at_call 163;refine wD.out.mono ?_);rintro e w13 ⟨rfl,hq,dn⟩;have CZ:=Ar.call hq dn;clear hq dn wD;have wD:=ay (HM6.out R12 _ CZ.2.2.2.1);go_wp2_with (go_at_call 167;refine wD.out.mono ?_);rintro e w14 ⟨rfl,hq,dn⟩;have K14:=CZ.call hq dn;clear hq dn wD;have wD:=ay (HM7.out R12 _ K14.2.2.2.1);go_wp2_with (go_at_call 163;refine wD.out.mono ?_);rintro e w15 ⟨rfl,hq,dn⟩;have K15:=K14.call hq dn;clear hq dn wD;clear Ar CZ K14 ZV HM6 HM7;have hL:=K15.lit (.cells #[.int .i64 (aH E.ah [[61]] t.2).1,.int .i64 f.1,.int .i64 (aH E.ah [[59]] f.2).1] 3);have hnw:=aY w15 (.cells #[.int .i64 (aH E.ah [[61]] t.2).1,.int .i64 f.1,.int .i64 (aH E.ah [[59]] f.2).1] 3);go_wp2_with (at_builtin;refine wpList_append_lies _ rfl _ _ 127 rfl w.heap.size 3 i0 (.int .i64 0) 1 8 Tryz.underlying127 hi hz0 hz1 hz2 rfl (by decide) _ (t.1.length) _ rfl (hL.row (rfl:t.1.length=t.1.length)) ⟨w15.heap.size,0,none⟩ 3 3 [.int .i64 (aH E.ah [[61]] t.2).1,.int .i64 f.1,.int .i64 (aH E.ah [[59]] f.2).1] rfl rfl ?c1 ?c2 ?c3 ?c4 ?c5 ?c6 _ rfl ?_)
   case c1=>exact vv (cs:=#[.int .i64 (aH E.ah [[61]] t.2).1,.int .i64 f.1,.int .i64 (aH E.ah [[59]] f.2).1]) (t:=3) (fr:=(0,0)) hnw
   case c2=>simp[Value.oneCell']
   case c3=>omega
   case c4=>unfold maxLen;omega
   case c5=>omega
   case c6=>exact hL.2.2.2.2.size
   intro g16 ahi w16 hown hgrow hat hlt;obtain⟨R16,K16⟩:=hL.app (news:=[(aH E.ah [[61]] t.2).1,f.1,(aH E.ah [[59]] f.2).1]) (n:=t.1.length+3) hB (by rw[bN,(rfl:t.1.length=t.1.length)];rfl) hown hgrow hat (by simp) hlt;clear hL hnw hown hgrow hat hlt;generalize hkk:t.1++[(aH E.ah [[61]] t.2).1,f.1,(aH E.ah [[59]] f.2).1]=ag3 at K16;have ah0:Hid (ag3.length=t.1.length+3):=ay (by rw[← hkk,bN,(rfl:t.1.length=t.1.length)];rfl);have ag4:=ay hkk;clear hkk;clear K15;have e16:=K16;rw[← ag4.out] at e16;have HNp:=ay (Xa.out R16 _ _ e16.2.2.2.1 e16.node);clear e16 Xa;go_wp2_with (go_at_call 101;refine HNp.out.mono ?_);rintro e w17 ⟨rfl,hq,dn⟩;have K17:=K16.call hq dn;go_wp2;go_ret;exact⟨rfl,PR.drop K17.2.2.2.1 K17.2.2.1,K17.2.2.2.2⟩
