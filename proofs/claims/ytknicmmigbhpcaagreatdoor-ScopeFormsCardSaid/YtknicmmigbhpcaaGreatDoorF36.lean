/- Walks and plain laws: DoneW, DumpL, FormW, ListW, ProgramW1. -/
import Derived.Test.YtknicmmigbhpcaaGreatDoorF18
set_option maxHeartbeats 16000000
set_option maxRecDepth 100000
set_option linter.unusedVariables false
set_option linter.unusedSimpArgs false
namespace Go.Proofs.YtknicmmigbhpcaaGreatDoor
open Go.RowKit Go
def Ki (w w':World):Prop:=∀ (k:Nat) (cs:Array Value) (fr:Nat × Nat),w.heap[k]?=some (.cells cs 3 fr)→w'.heap[k]?=some (.cells cs 3 fr)
theorem Ki.trans {a b c:World}(h:Ki a b)(k:Ki b c):Ki a c:=fun n cs fr q=>k n cs fr (h n cs fr q)
theorem Ki.below {w w':World}(h:Below w.heap.size w w'):Ki w w':=fun k _cs _fr q=>(h.block k (bQ q).1).trans q
theorem Ki.set {w:World}{b:Nat}{cs:Array Value}{T:TypeId}{fr:Nat × Nat}(hb:w.heap[b]?=some (.cells cs T fr))(hT:T≠3)(j:Nat)(u:Value):Ki w (w.setCell ⟨b,j,none⟩ u):=fun k ds fr' q=>by
 rw[heap_setCell_other _ _ _ _ (by
  show k≠b;rintro rfl;rw[hb] at q;simp only[Option.some.injEq,Obj.cells.injEq] at q
  exact hT q.2.1)]
 exact q
theorem dS.ki {w w':World}{v:Value}{ks:List Int}(h:dS w v ks)(hk:Ki w w'):dS w' v ks:=by
 obtain⟨ao,cap,hv,hc,hf⟩:=h;refine⟨ao,cap,hv,hc,fun h0=>?_⟩;obtain⟨b,off,cs,fr,ha,hb,hj⟩:=hf h0;exact⟨b,off,cs,fr,ha,hk b cs fr hb,hj⟩
theorem X8 {w w':World}{B e sz n:Nat}{v:Value}{xs:List Value}(h:w.ownsRow B e sz v n xs)(hs:∀ q,v.ownBlock=some q→w'.heap[q]?=w.heap[q]?):w'.ownsRow B e sz v n xs:=by
 refine⟨h.1,?_⟩
 rcases h.2 with hn|⟨g,cap,cur,hv,hg,hh,hr⟩
 ·exact .inl hn
 ·exact .inr ⟨g,cap,cur,hv,hg,(hs g (by rw[hv];rfl)).trans hh,hr⟩
def qB (w:World)(v:Value)(toks:List Tok)(nodes:List Nd):Prop :=
 ∃ (tv nv:Value) (l:List (Nd × Value)) (C D:Nat),v=.agg #[tv,nv]∧w.ownsRow C 136 4 tv toks.length (toks.flatMap bK)∧l.map Prod.fst=nodes∧w.ownsRow D 134 3 nv nodes.length (l.flatMap uU)∧∀ p∈l,dS w p.2 p.1.kids
theorem qB.set {w:World}{v:Value}{toks:List Tok}{nodes:List Nd}(h:qB w v toks nodes){b:Nat}{cs:Array Value}{T:TypeId}{fr:Nat × Nat}(hb:w.heap[b]?=some (.cells cs T fr))(h1:T≠136)(h2:T≠134)(h3:T≠3)(j:Nat)(u:Value):qB (w.setCell ⟨b,j,none⟩ u) v toks nodes:=by
 obtain⟨tv,nv,l,C,D,e,p1,p2,p3,p4⟩:=h;exact⟨tv,nv,l,C,D,e,iD (a:=⟨b,j,none⟩) p1 (own_ne p1 hb h1) u,p2,iD (a:=⟨b,j,none⟩) p3 (own_ne p3 hb h2) u,fun p hp=>(p4 p hp).ki (Ki.set hb h3 j u)⟩
theorem qB.later {w w':World}{v:Value}{toks:List Tok}{nodes:List Nd}(h:qB w v toks nodes)(hb:Below w.heap.size w w'):qB w' v toks nodes:=by
 obtain⟨tv,nv,l,C,D,e,p1,p2,p3,p4⟩:=h;exact⟨tv,nv,l,C,D,e,own_below p1 hb,p2,own_below p3 hb,fun p hp=>(p4 p hp).ki (Ki.below hb)⟩
theorem qB.at {w:World}{v:Value}{toks:List Tok}{nodes:List Nd}(h:qB w v toks nodes):aO w.heap.size w v toks nodes:=by
 obtain⟨tv,nv,l,C,D,e,p1,p2,p3,p4⟩:=h
 have hll:l.length=nodes.length:=by rw[← p2,List.length_map]
 refine⟨tv,nv,l,e,Sl.eP p1,p2,?_,fun p hp=>?_⟩
 ·rw[Rec,hll]
  exact Sl.eP p3
 ·obtain⟨ai,ci,hvi,hci,hfi⟩:=p4 p hp
  refine⟨ai,ci,hvi,hci,by simp,fun hp0=>?_⟩;obtain⟨bi,oi,cs,fr,e1,e2,e3⟩:=hfi hp0;refine⟨bi,oi,e1,(bQ e2).1,fun jj hjj=>?_⟩;rw[Lib.cell_of_heap e2,e3 jj (by simpa using hjj)]
  simp
def X9 (toks:List Tok)(nodes:List Nd)(w:World)(e:Ending)(w':World):Prop :=
 ∃ v,e=.returned v∧qB w' v toks nodes∧Below w.heap.size w w'
def adH (C:Nat)(w:World)(nv:Value)(nodes:List Nd):Prop :=
 ∃ l:List (Nd × Value),l.map Prod.fst=nodes∧w.ownsRow C 134 3 nv nodes.length (l.flatMap uU)∧∀ p∈l,dS w p.2 p.1.kids
theorem Ya (R:List Nat)(B bb:Nat)(tv:Value)(toks:List Tok)(nodes:List Nd)(used:Nat)(w:World)(hb:BW R B bb tv used nodes w)(ht:Rec B w tv 4 bK toks)(h0:0<toks.length)(hn:toks.length≤1000000)(hm:nodes.length≤1000000)(hkl:∀ n∈nodes,n.kids.length≤1000000) :
  Calls Tryz.prog 102 #[.pointer (some ⟨bb,0,none⟩)] w (X9 toks nodes w):=by
 have HC:=ah (fun W (h:Rec B W tv 4 bK toks)=>CF B tv toks W h h0 (by omega));obtain⟨h1,nv,l,h2,h3,h4,h5⟩:=hb;have hlt:=(bQ h2).1
 obtain⟨ao,cap,rfl,_⟩:∃ ao cap,nv=.slice ao nodes.length cap∧True:=by
  rcases h4.2 with ⟨hv,hn0⟩|⟨g,cap,cur,hv,_⟩
  ·exact⟨none,0,by rw[hv,hn0],trivial⟩
  ·exact⟨_,cap,hv,trivial⟩
 have HT:=ah ht;obtain⟨at_,ct,rfl,_,_⟩:=ht.form (fun _=>rfl)
 have c0:w.cell? ⟨bb,0,none⟩=some (.slice at_ toks.length ct):=by rw[Lib.cell_of_heap h2];rfl
 have hal:=aj w (.cells #[.slice none 0 0,.slice none 0 0] 89);have d0:=cell_later hal c0
 have hBw:B≤w.heap.size:=by omega
 have H4:=ah h4;have H5:=ah h5;clear h4 h5 ht c0;go_enter Tryz.func102,Tryz.ntmps102;go_wp2_with (go_at_call 163;refine(HC.out _ ?c1).mono ?_)
 case c1=>exact HT.out.below (hal.mono hBw)
 rintro e w1 ⟨v',rfl,hown,hb1⟩;obtain⟨g,c5,rfl,hg1,hg2⟩:=hown.form h0;have G0:=(hb1.block w.heap.size (by simp)).trans (heap_alloc_new w (.cells #[.slice none 0 0,.slice none 0 0] 89));have Gb:=(hb1.block bb (by simp;omega)).trans ((Lib.alloc_old w _ bb hlt).trans h2)
 go_upto_region 2 with (fail)
 have hz1:=hb1.size;rw[World.size_alloc] at hz1;have mO:Below w.heap.size w w1:=hal.trans (hb1.mono (by simp));have T1:=heap_alloc_new w1 (.cells #[.slice (some ⟨g,0,none⟩) toks.length c5,.slice none 0 0] 89);have hb2:=aj w1 (.cells #[.slice (some ⟨g,0,none⟩) toks.length c5,.slice none 0 0] 89);have Gb2:=(Lib.alloc_old w1 (.cells #[.slice (some ⟨g,0,none⟩) toks.length c5,.slice none 0 0] 89) bb (bQ Gb).1).trans Gb;generalize w1.alloc _=w2 at T1 hb2 Gb2 ⊢
 have b1:w2.cell? ⟨bb,1,none⟩=some (.slice ao nodes.length cap):=by rw[Lib.cell_of_heap Gb2];rfl
 obtain⟨j0,hj,hy0,hy1,hy2⟩:=info_parts Tryz.Kk
 have hll:l.length=nodes.length:=by rw[← h3,List.length_map]
 have hrec:Rec w.heap.size w (.slice ao nodes.length cap) 3 uU l:=by
  have:=Sl.eP H4.out;rw[Rec,hll];exact this
 obtain⟨ao',cap',hv,_,hnf⟩:=hrec.ach (fun p=>Kl p) hll;simp only[Value.slice.injEq] at hv;obtain⟨rfl,-,rfl⟩:=hv;have HNF:=ah hnf;have HLL:=ah hll;have H3:=ah h3;clear hnf hrec hll h3;go_wp2;clear b1 d0
 go_loopw [19] (fun q wr=>∃ (j:Nat) (nv2:Value),j≤nodes.length∧q=.int .i64 j∧aT (fun b=>b<w1.heap.size) w2 wr∧wr.heap[w1.heap.size]?=some (.cells #[.slice (some ⟨g,0,none⟩) toks.length c5,nv2] 89 (0,0))∧adH (w1.heap.size+1) wr nv2 (nodes.take j)∧Ki w2 wr∧Below w.heap.size w wr) (fun q _=>nodes.length - (intOf q).toNat)
 case atStart=>exact⟨0,.slice none 0 0,Nat.zero_le _,rfl,aT.refl _ _,T1,⟨[],rfl,World.ownsRow_nil _ _ _ _,fun p hp=>by cases hp⟩,fun _ _ _ q=>q,mO.trans (hb2.mono mO.size)⟩
 case round =>
  obtain⟨j,nv2,hjn,rfl,fO,hT,hrow,hki,hbl⟩:=hrel;have I6:=fO.1;have hz2:=hb2.size
  by_cases hlt:j<nodes.length
  ·have hjl:j<l.length:=by have:=HLL.out;omega
   obtain⟨b,off,rfl,hbB,hcell⟩:=HNF.out (by omega);have hW2:Below w.heap.size w w2:=mO.trans (hb2.mono mO.size)
   have hcl:=fun (jj:Nat) (u:Value) (hu:(uU l[j])[jj]?=some u)=>(World.cell?_of_block (a:=⟨b,off+j * 3+jj,none⟩) ((fO.2 b (by have:=mO.size;show b<w1.heap.size;omega) (by have:=mO.size;omega)).trans (hW2.block b hbB))).trans (hcell j jj u hjl hu)
   have hx0:=hcl 0 _ rfl;have hx1:=hcl 1 _ rfl;have hx2:=hcl 2 _ rfl;have hiw:dS wr l[j].2 l[j].1.kids:=((H5.out l[j] (List.getElem_mem hjl)).1.ki (Ki.below hW2)).ki hki
   have Ut:nodes[j]=l[j].1:=by have:=H3.out;subst this;simp
   have hkj:=hkl nodes[j] (List.getElem_mem hlt)
   have hsn:nodes.take (j+1)=nodes.take j++[l[j].1]:=by rw[List.take_succ_eq_append_getElem hlt,Ut]
   rw[Ut] at hkj;generalize l[j]=pr at hx0 hx1 hx2 hiw hkj hsn;obtain⟨⟨kind,tok,ks⟩,kv⟩:=pr;simp only[Nat.add_zero] at hx0 hx1 hx2 hiw hkj hsn;have HS:=ah hsn;have HIW:=ah hiw;obtain⟨ak,ck,rfl⟩:=hiw.slice
   have Ia:(j:Int)<(nodes.length:Int):=by omega
   clear hcell hcl Ut hsn hiw;go_wp2_with (go_at_call 164;refine(Ce _ ks _ (HIW.out.ki (Ki.below (aj wr _))) (by omega)).mono ?_);rintro e w4 ⟨v5,rfl,hkR,hb4⟩;have hk5:=(hkR [] (fun r hr=>by cases hr)).1;obtain⟨a5,c6,rfl⟩:=hk5.slice;have N4:=(hb4.block wr.heap.size (by simp)).trans (heap_alloc_new wr (.cells #[.int .i64 kind,.int .i64 tok,.slice ak ks.length ck] 134))
   have n2:w4.cell? ⟨wr.heap.size,2,none⟩=some (.slice ak ks.length ck):=by rw[Lib.cell_of_heap N4];rfl
   have nz:∀ jj,w4.frozen? ⟨wr.heap.size,jj,none⟩=false:=by intro jj;simp[World.frozen?,N4]
   clear hkR hx0 hx1 hx2
   go_upto_region 6 with (fail)
   obtain⟨l2,hl2,hown2,hk2⟩:=hrow
   have hlj:(nodes.take j).length=j:=by rw[List.length_take];omega
   rw[hlj] at hown2
   obtain⟨a2,c2,rfl,_⟩:∃ a2 c2,nv2=.slice a2 j c2∧True:=by
    rcases hown2.2 with ⟨hv,hn0⟩|⟨g,cap,cur,hv,_⟩
    ·exact⟨none,0,by rw[hv,hn0],trivial⟩
    ·exact⟨_,cap,hv,trivial⟩
   have hne2:some wr.heap.size≠(Value.slice a2 j c2).ownBlock:=fun q=>by have:=(hown2.lt _ q.symm).2;omega
   have hlt1:w1.heap.size<wr.heap.size:=(bQ hT).1;have zP:Below wr.heap.size wr w4:=(aj wr _).trans (hb4.mono (by simp));have N5:=heap_setCell_same w4 wr.heap.size 2 _ _ (.slice a5 ks.length c6) N4;have T5:(w4.setCell ⟨wr.heap.size,2,none⟩ (.slice a5 ks.length c6)).heap[w1.heap.size]?=_:=(heap_setCell_other _ _ _ _ (by show w1.heap.size≠wr.heap.size;omega)).trans ((zP.block _ hlt1).trans hT);have hown5:=iD (a:=⟨wr.heap.size,2,none⟩) (own_below hown2 zP) hne2 (.slice a5 ks.length c6);have hks:=Ki.set N4 (by decide) 2 (.slice a5 ks.length c6);have adI:=(hki.trans (Ki.below zP)).trans hks;have KW:=(Ki.below zP).trans hks;have adJ:=hk5.ki hks;have aaR:aT (fun b=>b<w1.heap.size) w2 (w4.setCell ⟨wr.heap.size,2,none⟩ (.slice a5 ks.length c6)):=(fO.trans (aT.of zP)).trans (aT.set _ fun b hb=>by show b≠wr.heap.size;omega);have hb5:=(hbl.trans (zP.mono hbl.size)).setCell (p:=⟨wr.heap.size,2,none⟩) hbl.size (.slice a5 ks.length c6)
   have hs5:w4.heap.size≤(w4.setCell ⟨wr.heap.size,2,none⟩ (.slice a5 ks.length c6)).heap.size:=by simp
   have hs4:=zP.size;clear hown2 hne2 N4 n2 nz hb4 zP hk5 hks;generalize w4.setCell _ _=w5 at N5 T5 hown5 adI KW adJ aaR hs5 hb5 ⊢
   have t1:w5.cell? ⟨w1.heap.size,1,none⟩=some (.slice a2 j c2):=by rw[Lib.cell_of_heap T5];rfl
   have m0:w5.cell? ⟨wr.heap.size,0,none⟩=some (.int .i64 kind):=by rw[Lib.cell_of_heap N5];rfl
   have m1:w5.cell? ⟨wr.heap.size,1,none⟩=some (.int .i64 tok):=by rw[Lib.cell_of_heap N5];rfl
   have m2:w5.cell? ⟨wr.heap.size,2,none⟩=some (.slice a5 ks.length c6):=by rw[Lib.cell_of_heap N5];rfl
   go_wp2_with (at_builtin;refine wpList_append_own _ rfl _ _ 87 rfl (w1.heap.size+1) 134 j0 (.agg #[.int .i64 0,.int .i64 0,.slice none 0 0]) 3 40 Tryz.underlying87 hj hy0 hy1 hy2 rfl (by decide) _ _ _ rfl (hown5.alloc _) ⟨w5.heap.size,0,none⟩ 1 1 [.int .i64 kind,.int .i64 tok,.slice a5 ks.length c6] rfl rfl ?e1 ?e2 ?e3 ?e4 ?e5 ?_)
   case e1 =>
    intro j' u hj';exact World.news_of_block (cs:=#[.int .i64 kind,.int .i64 tok,.slice a5 ks.length c6]) (t:=134) (fr:=(0,0)) (heap_alloc_new w5 _) j' u (by simpa using hj')
   case e2=>simp[Value.oneCell']
   case e3=>unfold maxLen;omega
   case e4=>omega
   case e5=>simp;omega
   intro v' w6 hown6 lT _;obtain⟨gv,cv,rfl,_,_⟩:=hown6.form (by omega);have Kn:=(bQ T5).1;have T6:=gZ (hown5.alloc _) lT ((Lib.alloc_old w5 (.cells #[.int .i64 kind,.int .i64 tok,.slice a5 ks.length c6] 134) w1.heap.size Kn).trans T5) (by decide)
   have k6:Ki w5 w6:=fun k cs fr q=>gZ (hown5.alloc _) lT ((Lib.alloc_old w5 (.cells #[.int .i64 kind,.int .i64 tok,.slice a5 ks.length c6] 134) k (bQ q).1).trans q) (by decide)
   have a6:aT (fun b=>b<w1.heap.size) w2 w6:=(aaR.trans (aT.of (aj w5 _))).trans (aT.grown lT fun b hb q=>by have:=(hown5.lt b q.symm).1;omega)
   have s1:w6.cell? ⟨w1.heap.size,1,none⟩=some (.slice a2 j c2):=by rw[Lib.cell_of_heap T6];rfl
   have sz:∀ jj,w6.frozen? ⟨w1.heap.size,jj,none⟩=false:=by intro jj;simp[World.frozen?,T6]
   have hs7:Ki w6 (w6.setCell ⟨w1.heap.size,1,none⟩ (.slice (some ⟨gv,0,none⟩) (j+1) cv)):=Ki.set T6 (by decide) 1 _;have T7:=heap_setCell_same w6 w1.heap.size 1 _ _ (.slice (some ⟨gv,0,none⟩) (j+1) cv) T6;have a7:=a6.trans (aT.set (a:=⟨w1.heap.size,1,none⟩) (.slice (some ⟨gv,0,none⟩) (j+1) cv) fun b hb=>by show b≠w1.heap.size;omega);have o7:=iD (a:=⟨w1.heap.size,1,none⟩) hown6 (fun q=>by have:=(hown6.lt _ q.symm).1;simp at this;omega) (.slice (some ⟨gv,0,none⟩) (j+1) cv)
   have afc:(nodes.take (j+1)).length=j+1:=by rw[List.length_take];omega
   have R7:adH (w1.heap.size+1) (w6.setCell ⟨w1.heap.size,1,none⟩ (.slice (some ⟨gv,0,none⟩) (j+1) cv)) (.slice (some ⟨gv,0,none⟩) (j+1) cv) (nodes.take (j+1)):=by
    refine⟨l2++[(⟨kind,tok,ks⟩,.slice a5 ks.length c6)],by rw[List.map_append,hl2,HS.out];rfl,?_,fun p hp=>?_⟩
    ·rw[afc,List.flatMap_append]
     exact o7
    ·rcases List.mem_append.1 hp with hp|hp
     ·exact(((hk2 p hp).ki KW).ki k6).ki hs7
     ·rw[List.mem_singleton] at hp
      subst hp;exact(adJ.ki k6).ki hs7
   have afd:=((adI.trans k6).trans hs7)
   have afe:=mO.size;have sI:=((hb5.alloc hb5.size (.cells #[.int .i64 kind,.int .i64 tok,.slice a5 ks.length c6] 134)).grown lT (by have:=hb5.size;simp;omega) (fun q hq=>by have:=(hown5.lt q hq).1;omega)).setCell (p:=⟨w1.heap.size,1,none⟩) afe (.slice (some ⟨gv,0,none⟩) (j+1) cv);clear lT hown6 hown5 t1 m0 m1 m2 o7 hk2 hl2;go_wp2
   go_roundw
   case rel=>exact⟨j+1,_,by omega,by go_num,a7,T7,R7,afd,sI⟩
   case measure=>simp[intOf];omega
  ·obtain rfl:j=nodes.length:=by omega
   rw[List.take_length] at hrow;obtain⟨l2,hl2,hown2,hk2⟩:=hrow
   obtain⟨a2,c2,rfl,_⟩:∃ a2 c2,nv2=.slice a2 nodes.length c2∧True:=by
    rcases hown2.2 with ⟨hv,hn0⟩|⟨g,cap,cur,hv,_⟩
    ·exact⟨none,0,by rw[hv,hn0],trivial⟩
    ·exact⟨_,cap,hv,trivial⟩
   have hl1:=(bQ G0).1;have Z:=(fO.2 w.heap.size hl1 (by omega)).trans ((hb2.block w.heap.size hl1).trans G0)
   have s0:wr.cell? ⟨w1.heap.size,0,none⟩=some (.slice (some ⟨g,0,none⟩) toks.length c5):=by rw[Lib.cell_of_heap hT];rfl
   have s1:wr.cell? ⟨w1.heap.size,1,none⟩=some (.slice a2 nodes.length c2):=by rw[Lib.cell_of_heap hT];rfl
   have q0:wr.cell? ⟨w.heap.size,0,none⟩=some (.slice none 0 0):=by rw[Lib.cell_of_heap Z];rfl
   have q1:wr.cell? ⟨w.heap.size,1,none⟩=some (.slice none 0 0):=by rw[Lib.cell_of_heap Z];rfl
   have qz:∀ jj,wr.frozen? ⟨w.heap.size,jj,none⟩=false:=by intro jj;simp[World.frozen?,Z]
   have Ia:decide ((nodes.length:Int)<(nodes.length:Int))=false:=decide_eq_false (by omega)
   have agc:l2.length=nodes.length:=by rw[← hl2,List.length_map]
   have k1:Ki wr (wr.setCell ⟨w.heap.size,0,none⟩ (.slice (some ⟨g,0,none⟩) toks.length c5)):=Ki.set Z (by decide) 0 _;have Z1:=heap_setCell_same wr w.heap.size 0 _ _ (.slice (some ⟨g,0,none⟩) toks.length c5) Z;have k2:=Ki.set Z1 (by decide) 1 (.slice a2 nodes.length c2);have hgl:=hown.lt g rfl;simp only[World.size_alloc] at hgl
   have hP3:((wr.setCell ⟨w.heap.size,0,none⟩ (.slice (some ⟨g,0,none⟩) toks.length c5)).setCell ⟨w.heap.size,1,none⟩ (.slice a2 nodes.length c2)).ownsRow _ 136 4 (.slice (some ⟨g,0,none⟩) toks.length c5) toks.length (toks.flatMap bK):=X8 hown fun q hq=>by
    obtain rfl:g=q:=by simpa [Value.ownBlock] using hq
    rw[heap_setCell_other _ _ _ _ (by show g≠w.heap.size;omega),heap_setCell_other _ _ _ _ (by show g≠w.heap.size;omega)];exact(fO.2 g hgl.2 (by omega)).trans (hb2.block g hgl.2)
   have hn1:=iD (a:=⟨w.heap.size,0,none⟩) hown2 (fun q=>by have:=(hown2.lt _ q.symm).1;simp at this;omega) (.slice (some ⟨g,0,none⟩) toks.length c5);have Yr:=iD (a:=⟨w.heap.size,1,none⟩) hn1 (fun q=>by have:=(hn1.lt _ q.symm).1;simp at this;omega) (.slice a2 nodes.length c2);have yR:=(hbl.setCell (p:=⟨w.heap.size,0,none⟩) (Nat.le_refl _) (.slice (some ⟨g,0,none⟩) toks.length c5)).setCell (p:=⟨w.heap.size,1,none⟩) (Nat.le_refl _) (.slice a2 nodes.length c2);go_wp2;refine bodyPost_ret (v:=.agg #[.slice (some ⟨g,0,none⟩) toks.length c5,.slice a2 nodes.length c2]) (by simp[results,Tryz.results102,go_sem,q0,q1]) rfl ⟨_,rfl,⟨_,_,l2,_,_,rfl,hP3,hl2,Yr,fun p hp=>((hk2 p hp).ki k1).ki k2⟩,yR⟩
mutual
def PE.adK:PE→Prop
 | .mk op _ _ _ _ _ kids _=>op<100∧Yb kids
def Yb:List PE→Prop
 | []=>True
 | e :: l=>e.adK∧Yb l
end
def Jo (r:Zy)(w:World)(e:Ending)(w':World):Prop :=
 Below w.heap.size w w'∧match r with
 | .bad c a=>e=.returned (.tuple #[.agg #[.slice none 0 0,.slice none 0 0],.agg #[.int .i64 c,.int .i64 a]])
 | .good toks nodes=>∃ at_ ct an cn,e=.returned (.tuple #[.agg #[.slice at_ toks.length ct,.slice an nodes.length cn],.agg #[.int .i64 0,.int .i64 0]])∧qB w' (.agg #[.slice at_ toks.length ct,.slice an nodes.length cn]) toks nodes
theorem cK {w:World}{b:Nat}{x y:Value}(h:w.heap[b]?=some (.cells #[x,y] 75 (0,0))):w.cell? ⟨b,0,none⟩=some x∧w.cell? ⟨b,1,none⟩=some y∧∀ j,w.frozen? ⟨b,j,none⟩=false:=by
 refine⟨?_,?_,fun j=>?_⟩
 ·rw[Lib.cell_of_heap h];rfl
 ·rw[Lib.cell_of_heap h];rfl
 ·simp[World.frozen?,h]
theorem nQ {w:World}{b:Nat}{x y:Value}(h:w.heap[b]?=some (.cells #[x,y] 89 (0,0))):w.cell? ⟨b,0,none⟩=some x∧w.cell? ⟨b,1,none⟩=some y∧∀ j,w.frozen? ⟨b,j,none⟩=false:=by
 refine⟨?_,?_,fun j=>?_⟩
 ·rw[Lib.cell_of_heap h];rfl
 ·rw[Lib.cell_of_heap h];rfl
 ·simp[World.frozen?,h]
theorem M4 (s:ByteArray)(d:Nat)(fv:Value)(w:World)(hd1:1≤d)(hd2:d≤200)(hs:s.size≤1099511627776)(c a:Nat)(hl:bH s.data.toList=.error (c,a))(hc:c≠0) :
  Calls Tryz.prog 63 #[.string s,.int .i64 d,fv] w (Jo (.bad c a) w):=by
 have HL:Hid (∀ W,Calls Tryz.prog 74 #[.string s] W fun e w'=>e=.returned (.tuple #[.slice none 0 0,.agg #[.int .i64 c,.int .i64 a]])∧Below W.heap.size W w'):=ah fun W=>(Hf s W hs).mono fun e w' h=>by
  unfold Qx at h;rw[hl] at h;exact⟨h.2,h.1⟩
 have hc0:((c:Int) == 0)=false:=by simp;omega
 have hal:=(aj w (.cells #[.slice none 0 0,.slice none 0 0] 89)).alloc (by simp) (.cells #[.int .i64 0,.int .i64 0] 75);have e1:=(Lib.alloc_old (w.alloc (.cells #[.slice none 0 0,.slice none 0 0] 89)) (.cells #[.int .i64 0,.int .i64 0] 75) w.heap.size (by simp)).trans (heap_alloc_new w (.cells #[.slice none 0 0,.slice none 0 0] 89));have e2:=heap_alloc_new (w.alloc (.cells #[.slice none 0 0,.slice none 0 0] 89)) (.cells #[.int .i64 0,.int .i64 0] 75);rw[World.size_alloc] at e2
 have adL:¬ ((d:Int)<1):=by omega
 have adM:¬ ((200:Int)<(d:Int)):=by omega
 clear hl;go_enter Tryz.func63,Tryz.ntmps63
 go_upto_region 5 with (go_at_call 74;refine(HL.out _).mono ?_;rintro e w3 ⟨rfl,hb3⟩;have hz3:=hb3.size)
 rw[World.size_alloc,World.size_alloc] at hz3;have G6:=(Lib.alloc_old w3 (.cells #[.int .i64 c,.int .i64 a] 75) w.heap.size (by omega)).trans ((hb3.block w.heap.size (by simp;omega)).trans e1);have G7:=(Lib.alloc_old w3 (.cells #[.int .i64 c,.int .i64 a] 75) (w.heap.size+1) (by omega)).trans ((hb3.block (w.heap.size+1) (by simp)).trans e2);have hb4:=(hal.trans (hb3.mono (by simp;omega))).alloc (by omega) (.cells #[.int .i64 c,.int .i64 a] 75);have N9:=heap_alloc_new w3 (.cells #[.int .i64 c,.int .i64 a] 75);clear hb3 e1 e2 hal HL;generalize hx:w3.heap.size=xb at N9 ⊢;generalize w3.alloc _=w4 at G6 G7 hb4 N9 ⊢;obtain⟨q0,q1,qz⟩:=nQ G6;obtain⟨p0,p1,pz⟩:=cK G7;obtain⟨f0,f1,fz⟩:=cK N9
 go_region
 go_wp2;refine bodyPost_ret (v:=.tuple #[.agg #[.slice none 0 0,.slice none 0 0],.agg #[.int .i64 c,.int .i64 a]]) (by simp[results,Tryz.results63,go_sem,q0,q1,p0,p1]) rfl ⟨?_,rfl⟩;exact((((hb4.setCell (by simp) _).setCell (by simp) _).setCell (by simp) _).setCell (by simp) _).drew
def aaw (E:aW)(one:aB→Option (Int × aB))(res:List Int × aB)(w0:World)(kv nv:Value)(wr:World):Prop :=
 ∃ (r m:Nat) (kids:List Int) (s:aB) (R:List Nat),nv=.int .i64 (m:Nat)∧m+r=9∧kids.length+2 * r≤16∧aU E.toks one r kids s=some res ∧
  wr.ownsRow w0.heap.size 3 1 kv kids.length (kids.map (Value.int .i64))∧(∀ b,kv.ownBlock=some b→b∈R)∧(∀ r∈E.R,r∈R)∧(kids=[]→kv=.slice none 0 0)∧PR E R s wr∧Kp E.B w0 wr∧s.clause=false
theorem Qi (E:aW)(hE:E.ok)(one:aB→Option (Int × aB))(st:aB)(res:List Int × aB)(w:World)(h:jq E.toks one st=some res)(hp:PW E st w)(hn:res.2.nodes.length+1≤1099511627776)
  (hcl:st.clause=false) (hext:∀ s k,one s=some k→dB s k.2)
  (hone:∀ (R:List Nat) (s:aB) (k:Int × aB) (w':World),s.clause=false→one s=some k→PR E R s w'→Kp E.B w w'→k.2.nodes.length+1≤1099511627776 →
   Calls Tryz.prog 170 #[.pointer (some ⟨E.pb,0,none⟩)] w' (dL { E with R:=R } k w')) :
  Calls Tryz.prog 169 #[.pointer (some ⟨E.pb,0,none⟩),.func (.func 170) #[.pointer (some ⟨E.pb,0,none⟩)] #[]] w (VI E res w):=by
 have sW:=hE.2.2;obtain⟨i0,hi,hz0,hz1,hz2⟩:=info_parts Tryz.lQ;unfold jq at h
 by_cases hx:aV E.toks st [[41]]=true
 ·rw[if_pos hx] at h
  injection h with h;subst h
  have HX:=ah (dJ E hE ⟨#[41]⟩ st true hx);clear hx hone hext;go_enter Tryz.func169,Tryz.ntmps169;go_wp2_with (go_at_call 165;refine(HX.out w hp).mono ?_);rintro e w1 ⟨rfl,hp1,hk1⟩;go_wp2;go_ret;exact⟨_,rfl,⟨none,0,rfl,Nat.le_refl _,fun q=>absurd q (by simp)⟩,fun _=>rfl,hp1,hk1⟩
 ·rw[if_neg hx] at h
  have HX:=ah (dJ E hE ⟨#[41]⟩ st false (eq_false_of_ne_true hx));have H0:=ah h;have Cc:=ah hone;have ET:=ah hext;have HN:=ah hn;have HE:=ah hE;clear hx hone hext h hn;go_enter Tryz.func169,Tryz.ntmps169;go_wp2_with (go_at_call 165;refine(HX.out w hp).mono ?_);rintro e w1 ⟨rfl,hp1,hk1⟩;go_wp2
  go_loopw [5,6] (fun kv nv wr=>aaw E one res w kv nv wr) (fun _ nv _=>10 - (intOf nv).toNat)
  case atStart=>exact⟨8,1,[],st,E.R,rfl,rfl,by simp,H0.out,World.ownsRow_nil _ _ _ _,fun _ q=>by simp[Value.ownBlock] at q,fun _ q=>q,fun _=>rfl,hp1,hk1,hcl⟩
  case round =>
   obtain⟨r,m,kids,s,R,rfl,hm,hkl,hl,hown,hR,hER,hnil,hps,hks,hsc⟩:=hrel;obtain⟨ao,cap,rfl⟩:=nK hown;have vI:=ah hnil;clear hnil;have hBw:E.B≤w.heap.size:=hp.dX
   by_cases hf:s.fE=0
   ·have HO:=ah (jD { E with R:=R } s hf)
    cases r with
    | zero =>
     obtain rfl:m=9:=by omega
     rw[aU,if_pos hf] at hl
     injection hl with hl
     have HF:=ah (fun w hp=>kU { E with R:=R } HE.out 15 s w hp);have HL:=ah hl;clear hl hf;go_wp2_with (go_at_call 101;refine(HO.out _ hps).mono ?_);rintro e w2 ⟨rfl,hp2,hk2⟩;go_wp2_with (go_at_call 166;refine(HF.out _ hp2).mono ?_);rintro e w3 ⟨rfl,hp3,hk3⟩;have hown3:=gP (gP hown hk2) hk3;go_wp2;go_ret;exact kX hown3 hER hp3 ((hks.trans hk2).trans hk3) HL.out vI.out
    | succ r =>
     rw[aU,if_neg (by simp[hf])] at hl;obtain⟨k,h1,hl⟩:=bP hl;have d8:decide (8<(m:Int))=false:=decide_eq_false (by omega);have d8':decide (8<m)=false:=decide_eq_false (by omega)
     have hnk:k.2.nodes.length+1≤1099511627776:=by
      split at hl
      ·exact aC ((aI _ _).trans (lH _ one ET.out _ _ _ _ hl)) HN.out
      ·injection hl with hl;rw[← hl] at HN;exact HN.out
     have HCK:Hid (k.2.clause=false):=ah (by rw[(ET.out s k h1).2.2.1];exact hsc);have HK:=ah (fun w' hp hk=>Cc.out R s k w' hsc h1 hp hk hnk);have HL:=ah hl;clear hl h1 hf;go_wp2_with (go_at_call 101;refine(HO.out _ hps).mono ?_);rintro e w2 ⟨rfl,hp2,hk2⟩;go_wp2_with (go_at_call 170;refine(HK.out _ hp2 (hks.trans hk2)).mono ?_);rintro e w3 ⟨rfl,hp3,hk3⟩;have Oj:PR E R k.2 w3:=hp3;clear hp3;have hown3:=gP (gP hown hk2) hk3;have wI:PR E R k.2 (w3.alloc (.cells #[.int .i64 k.1] 3)):=PW.later Oj (aj w3 _);have hnw:=heap_alloc_new w3 (.cells #[.int .i64 k.1] 3);have rW:Kp E.B w (w3.alloc (.cells #[.int .i64 k.1] 3)):=((hks.trans hk2).trans hk3).trans (Kp.of (aj w3 _) Oj.dX);have lS:=hown3.alloc (.cells #[.int .i64 k.1] 3);have abg:w.heap.size≤w3.heap.size:=((hks.trans hk2).trans hk3).size;go_wp2_with (at_builtin;refine wpList_append_lies _ rfl _ _ 51 rfl w.heap.size 3 i0 (.int .i64 0) 1 8 Tryz.underlying51 hi hz0 hz1 hz2 rfl (by decide) _ _ _ rfl lS ⟨w3.heap.size,0,none⟩ 1 1 [.int .i64 k.1] rfl rfl ?c1 ?c2 ?c3 ?c4 ?c5 ?c6 _ rfl ?_)
     case c1=>exact World.news_of_block (cs:=#[.int .i64 k.1]) (t:=3) (fr:=(0,0)) hnw
     case c2=>simp[Value.oneCell']
     case c3=>omega
     case c4=>unfold maxLen;omega
     case c5=>omega
     case c6=>simp;omega
     intro g cap4 w4 tQ wK VJ VK;obtain⟨R4,hR4,hg4,oC⟩:=wI.append lS hBw hR wK VJ (by simp) VK;have hk4:=rW.grown lS (Nat.le_refl _) hBw wK
     have rX:w4.ownsRow w.heap.size 3 1 (.slice (some ⟨g,0,none⟩) (kids.length+1) cap4) (kids.length+1) ((kids++[k.1]).map (Value.int .i64)):=by rw[List.map_append];exact tQ
     have Ig:∀ r∈E.R,r∈R4:=fun r hr=>hR4 r (hER r hr)
     clear wI hnw rW lS wK VJ VK hown3 tQ hk2 hk3 hp2 Oj hown hps hks HO HK HX H0 Cc abg hR4
     by_cases Hl:k.2.fE=0
     ·have VL:=ah (jD { E with R:=R4 } k.2 Hl)
      by_cases hx4:aV E.toks k.2 [[44]]=true
      ·have hl:=HL.out
       rw[if_pos ⟨Hl,hx4⟩] at hl;have Zq:=ah (dJ { E with R:=R4 } HE.out ⟨#[44]⟩ k.2 true hx4);have HLF:=ah (fun w hp=>bI { E with R:=R4 } k.2 w hp HE.out.1 HE.out.2.1 hnk);have HL2:=ah hl;clear hl HL Hl hx4;go_wp2_with (go_at_call 101;refine(VL.out _ oC).mono ?_);rintro e w5 ⟨rfl,rV,hk5⟩;go_wp2_with (go_at_call 165;refine(Zq.out _ rV).mono ?_);rintro e w6 ⟨rfl,Cr,tC⟩;obtain⟨d0,_,_,_,_,_⟩:=Cr.cells;go_wp2_with (go_at_call 167;refine(HLF.out _ Cr).mono ?_);rintro e w7 ⟨rfl,EP,Bo⟩;clear d0;have Ol:PR E R4 (ay E.toks k.2).2 w7:=EP;clear EP;have KX:=gP (gP (gP rX hk5) tC) Bo;have Om:=((hk4.trans hk5).trans tC).trans Bo;have wI:PR E R4 (ay E.toks k.2).2 (w7.alloc (.cells #[.int .i64 (ay E.toks k.2).1] 3)):=PW.later Ol (aj w7 _);have hnw:=heap_alloc_new w7 (.cells #[.int .i64 (ay E.toks k.2).1] 3);have rW:Kp E.B w (w7.alloc (.cells #[.int .i64 (ay E.toks k.2).1] 3)):=Om.trans (Kp.of (aj w7 _) Ol.dX);have lS:=KX.alloc (.cells #[.int .i64 (ay E.toks k.2).1] 3);have acB:w.heap.size≤w7.heap.size:=Om.size
       have hv4:∀ b,(Value.slice (some ⟨g,0,none⟩) (kids.length+1) cap4).ownBlock=some b→b∈R4:=fun b hb=>by
        simp only[Value.ownBlock,Option.some.injEq] at hb;subst hb;exact hg4
       go_wp2_with (at_builtin;refine wpList_append_lies _ rfl _ _ 51 rfl w.heap.size 3 i0 (.int .i64 0) 1 8 Tryz.underlying51 hi hz0 hz1 hz2 rfl (by decide) _ _ _ rfl lS ⟨w7.heap.size,0,none⟩ 1 1 [.int .i64 (ay E.toks k.2).1] rfl rfl ?c1 ?c2 ?c3 ?c4 ?c5 ?c6 _ rfl ?_)
       case c1=>exact World.news_of_block (cs:=#[.int .i64 (ay E.toks k.2).1]) (t:=3) (fr:=(0,0)) hnw
       case c2=>simp[Value.oneCell']
       case c3=>omega
       case c4=>unfold maxLen;omega
       case c5=>omega
       case c6=>simp;omega
       intro g8 Oo w8 uh mK Cu uj;obtain⟨R8,hR8,hg8,Sn⟩:=wI.append lS hBw hv4 mK Cu (by simp) uj;have A9:=rW.grown lS (Nat.le_refl _) hBw mK
       have Oq:w8.ownsRow w.heap.size 3 1 (.slice (some ⟨g8,0,none⟩) (kids.length+1+1) Oo) (kids++[k.1,(ay E.toks k.2).1]).length ((kids++[k.1,(ay E.toks k.2).1]).map (Value.int .i64)):=by
        rw[List.map_append,bC];exact uh
       have hv8:∀ b,(Value.slice (some ⟨g8,0,none⟩) (kids.length+1+1) Oo).ownBlock=some b→b∈R8:=fun b hb=>by
        simp only[Value.ownBlock,Option.some.injEq] at hb;subst hb;exact hg8
       have abh:∀ r∈E.R,r∈R8:=fun r hr=>hR8 r (Ig r hr)
       clear wI hnw rW lS mK Cu uj KX uh Om rX hk4 hk5 tC Bo oC rV Cr Ol VL Zq HLF hR8 hv4 Ig hg4;go_wp2
       go_roundw
       case rel=>exact⟨r,m+1,_,_,R8,by go_num,by omega,by simp;omega,HL2.out,Oq,hv8,abh,(fun q=>by simp at q),Sn,A9,by rw[(aI E.toks k.2).2.2.1];exact HCK.out⟩
       case measure=>simp[intOf];omega
      ·have hl:=HL.out
       rw[if_neg (fun q=>hx4 q.2)] at hl
       injection hl with hl
       have Zq:=ah (dJ { E with R:=R4 } HE.out ⟨#[44]⟩ k.2 false (eq_false_of_ne_true hx4));have HL2:=ah hl;clear hl HL Hl hx4;go_wp2_with (go_at_call 101;refine(VL.out _ oC).mono ?_);rintro e w5 ⟨rfl,rV,hk5⟩;go_wp2_with (go_at_call 165;refine(Zq.out _ rV).mono ?_);rintro e w6 ⟨rfl,Cr,tC⟩;have hown6:=gP (gP rX hk5) tC;go_wp2;go_ret;exact kX hown6 Ig Cr ((hk4.trans hk5).trans tC) HL2.out (fun q=>by simp at q)
     ·have hl:=HL.out
      rw[if_neg (fun q=>Hl q.1)] at hl
      injection hl with hl
      have VL:=ah (sK { E with R:=R4 } k.2 Hl);have HL2:=ah hl;clear hl HL Hl;go_wp2_with (go_at_call 101;refine(VL.out _ oC).mono ?_);rintro e w5 ⟨rfl,rV,hk5⟩;have hown5:=gP rX hk5;go_wp2;go_ret;exact kX hown5 Ig rV (hk4.trans hk5) HL2.out (fun q=>by simp at q)
   ·have HO:=ah (sK { E with R:=R } s hf)
    have hl':(kids,s)=res:=by
     cases r with
     | zero=>rw[aU,if_neg hf] at hl;injection hl
     | succ r=>rw[aU,if_pos hf] at hl;injection hl
    have HL:=ah hl';clear hl hl' hf;go_wp2_with (go_at_call 101;refine(HO.out _ hps).mono ?_);rintro e w2 ⟨rfl,hp2,hk2⟩;have hown2:=gP hown hk2;go_wp2;go_ret;exact kX hown2 hER hp2 (hks.trans hk2) HL.out vI.out
theorem Yc (E:aW)(hE:E.ok)(b c:ByteArray)(st:aB)(w:World)(h:PW E st w)(hn:st.nodes.length+1≤1099511627776) :
  Calls Tryz.prog 168 #[.pointer (some ⟨E.pb,0,none⟩),.slice (some ⟨w.heap.size,0,none⟩) 2 2] (w.alloc (.cells #[.string b,.string c] 9)) (dL E (aA E.toks [b.data.toList,c.data.toList] st) w):=by
 have hA:=h.later (aj w (.cells #[.string b,.string c] 9));refine(Ko E hE _ _ st _ hA (Kr w b c) (by simp) hn).mono ?_;rintro e w' ⟨rfl,hp,hk⟩;exact⟨rfl,hp,(Kp.of (aj w _) h.dX).trans hk⟩
theorem Jp (E:aW)(hE:E.ok)(st:aB)(w:World)(hp:PW E st w)(hn:(nA E.toks st).2.nodes.length+1≤1099511627776) :
  Calls Tryz.prog 104 #[.pointer (some ⟨E.pb,0,none⟩)] w (dL E (nA E.toks st) w):=by
 unfold nA at hn ⊢;have n3:=aC (aD _ _ _) hn;have n2:=aC (aF _ _ _) n3;have n1:=aC (dZ _ _ _) n2;have n0:=aC (aI _ _) n1;have HL:=ah (bI E st w hp hE.1 hE.2.1 n0);have HK:=ah (fun w hp=>qN E hE 1 (ay E.toks st).2 w hp n1);have HM:=ah (fun w hp=>dN E hE ⟨#[59]⟩ (aQ E.toks 1 (ay E.toks st).2).2 w hp n2);have HN:=ah (fun w hp=>iE E 2 [(ay E.toks st).1,(aQ E.toks 1 (ay E.toks st).2).1,(aA E.toks [[59]] (aQ E.toks 1 (ay E.toks st).2).2).1] 3 _ (aA E.toks [[59]] (aQ E.toks 1 (ay E.toks st).2).2).2 w hp rfl rfl (by omega) n3);clear n0 n1 n2 n3 hn;obtain⟨d0,_,_,_,_,_⟩:=hp.cells;go_enter Tryz.func104,Tryz.ntmps104;go_wp2_with (go_at_call 167;refine HL.out.mono ?_);rintro e w1 ⟨rfl,hp1,hk1⟩;clear d0;go_wp2_with (go_at_call 107;refine(HK.out _ hp1).mono ?_);rintro e w2 ⟨rfl,hp2,hk2⟩;go_wp2_with (go_at_call 168;refine(HM.out _ hp2).mono ?_);rintro e w3 ⟨rfl,hp3,hk3⟩;go_wp2_with (go_at_call 106;refine(HN.out _ hp3).mono ?_);rintro e w4 ⟨rfl,oC,hk4⟩;go_wp2;go_ret;exact⟨rfl,oC,((hk1.trans hk2).trans hk3).trans hk4⟩
def ab4 (E:aW)(W0:World)(r:List Int × aB)(e:Ending)(w':World):Prop:=∃ v R,e=.returned v∧iU E W0 R v r.1 r.2 w'
theorem GQ (E:aW)(hE:E.ok)(g:Nat)(W0:World)(R:List Nat)(v:Value)(ks:List Int)(st:aB)(r:List Int × aB)(w:World)(h:gQ E.toks E.depth g ks st=some r)(K0:iU E W0 R v ks st w)(hB:E.B≤W0.heap.size)(hn:r.2.nodes.length+1≤1099511627776)(hcl:st.clause=false)(hks:ks.length≤1000000) :
  Calls Tryz.prog 171 #[.pointer (some ⟨E.pb,0,none⟩),v] w (ab4 E W0 r):=by
 have sW:=hE.2.2;obtain⟨i0,hi,hz0,hz1,hz2⟩:=info_parts Tryz.lQ
 have n3:(dP E.toks st).2.nodes.length+1≤1099511627776:=by
  unfold gQ at h
  split at h
  ·obtain⟨n,h1,h⟩:=bP h
   obtain rfl:=Option.some.inj h;exact aC (Ak h1) hn
  ·obtain rfl:=Option.some.inj h
   exact hn
 have n2:(wN E.toks st).2.nodes.length+1≤1099511627776:=aC (aD _ _ _) n3;have n1:(jO E.toks st).2.nodes.length+1≤1099511627776:=aC (aF _ _ _) n2;have n0:=aC (aF E.toks [[58]] st) n1
 have hc3:(dP E.toks st).2.clause=false:=by rw[(zx E.toks st).2.2.1];exact hcl
 obtain⟨ao,cap,rfl⟩:=nK K0.1;have Xg:=ah (dN { E with R:=R } hE ⟨#[58]⟩ st w K0.2.2.2.1 n0);have KI:=ah (fun R w hp=>Yc { E with R:=R } hE ⟨#[105,110,116]⟩ ⟨#[98,111,111,108]⟩ (jO E.toks st).2 w hp n1);have HM3:=ah (fun R w hp=>iE { E with R:=R } 5 [(wN E.toks st).1] 1 _ (wN E.toks st).2 w hp rfl rfl (by omega) n2);have H0:=ah h;have HN:=ah hn;clear n0 n1 n2 h hn;go_enter Tryz.func171,Tryz.ntmps171;go_wp2_with (go_at_call 168;refine Xg.out.mono ?_);rintro e w1 ⟨rfl,hq,hkq⟩;have K1:=K0.call hq hkq;clear hq hkq Xg;have hL:=K1.lit (.cells #[.int .i64 (jO E.toks st).1] 3);have hnw:=heap_alloc_new w1 (.cells #[.int .i64 (jO E.toks st).1] 3);go_wp2_with (at_builtin;refine wpList_append_lies _ rfl _ _ 51 rfl W0.heap.size 3 i0 (.int .i64 0) 1 8 Tryz.underlying51 hi hz0 hz1 hz2 rfl (by decide) _ (ks.length) _ rfl (hL.row (rfl:ks.length=ks.length)) ⟨w1.heap.size,0,none⟩ 1 1 [.int .i64 (jO E.toks st).1] rfl rfl ?c1 ?c2 ?c3 ?c4 ?c5 ?c6 _ rfl ?_)
 case c1=>exact World.news_of_block (cs:=#[.int .i64 (jO E.toks st).1]) (t:=3) (fr:=(0,0)) hnw
 case c2=>simp[Value.oneCell']
 case c3=>omega
 case c4=>unfold maxLen;omega
 case c5=>omega
 case c6=>exact hL.2.2.2.2.size
 intro g2 cap2 w2 hown hgrow hat hlt;obtain⟨R2,K2⟩:=hL.app (news:=[(jO E.toks st).1]) (n:=ks.length+1) hB (by rw[bC,(rfl:ks.length=ks.length)];rfl) hown hgrow hat (by simp) hlt;clear hL hnw hown hgrow hat hlt;generalize hkk:ks++[(jO E.toks st).1]=kk2 at K2;have HL2:Hid (kk2.length=ks.length+1):=ah (by rw[← hkk,bC,(rfl:ks.length=ks.length)];rfl);have HK2:=ah hkk;clear hkk;have HM:=ah (KI.out R2 _ K2.2.2.2.1);clear KI K1 K0;go_wp2_with (go_at_call 168;refine HM.out.mono ?_);rintro e w3 ⟨rfl,hq,hkq⟩;have K3:=K2.call hq hkq;clear hq hkq HM;have HM:=ah (HM3.out R2 _ K3.2.2.2.1);clear HM3 K2;go_wp2_with (go_at_call 106;refine HM.out.mono ?_);rintro e w4 ⟨rfl,hq,hkq⟩;have K4:=K3.call hq hkq;clear hq hkq HM;clear K3;have hL:=K4.lit (.cells #[.int .i64 (dP E.toks st).1] 3);have hnw:=heap_alloc_new w4 (.cells #[.int .i64 (dP E.toks st).1] 3);go_wp2_with (at_builtin;refine wpList_append_lies _ rfl _ _ 51 rfl W0.heap.size 3 i0 (.int .i64 0) 1 8 Tryz.underlying51 hi hz0 hz1 hz2 rfl (by decide) _ (ks.length+1) _ rfl (hL.row HL2.out) ⟨w4.heap.size,0,none⟩ 1 1 [.int .i64 (dP E.toks st).1] rfl rfl ?c1 ?c2 ?c3 ?c4 ?c5 ?c6 _ rfl ?_)
 case c1=>exact World.news_of_block (cs:=#[.int .i64 (dP E.toks st).1]) (t:=3) (fr:=(0,0)) hnw
 case c2=>simp[Value.oneCell']
 case c3=>omega
 case c4=>unfold maxLen;omega
 case c5=>omega
 case c6=>exact hL.2.2.2.2.size
 intro g5 cap5 w5 hown hgrow hat hlt;obtain⟨R5,K5⟩:=hL.app (news:=[(dP E.toks st).1]) (n:=ks.length+1+1) hB (by rw[bC,HL2.out];rfl) hown hgrow hat (by simp) hlt;clear hL hnw hown hgrow hat hlt;generalize hkk:kk2++[(dP E.toks st).1]=kk5 at K5;have TQ:Hid (kk5.length=ks.length+1+1):=ah (by rw[← hkk,bC,HL2.out];rfl);have HK5:=ah hkk;clear hkk;clear K4;have H5:Hid (kk5=ks++[(jO E.toks st).1,(dP E.toks st).1]):=ah (by rw[← HK5.out,← HK2.out];simp)
 by_cases hf:(dP E.toks st).2.fE=0
 ·have HO:=ah (jD { E with R:=R5 } (dP E.toks st).2 hf _ K5.2.2.2.1)
  by_cases hx:aV E.toks (dP E.toks st).2 [[123]]=true
  ·have h:=H0.out
   unfold gQ at h;rw[if_pos ⟨hf,hx⟩] at h;obtain⟨n,h1,h⟩:=bP h;obtain rfl:=Option.some.inj h;have hn:=HN.out;unfold ji at h1;obtain⟨f,h2,h1⟩:=bP h1;obtain rfl:=Option.some.inj h1;rw[hc3] at hn;have m3:=aC (aD _ _ _) hn;have m2':(jP f.2 false).nodes.length+1≤1099511627776:=aC (aF E.toks [[125]] (jP f.2 false)) m3;have m2:f.2.nodes.length+1≤1099511627776:=m2';have m1':(jP (ay E.toks (dP E.toks st).2).2 true).nodes.length+1≤1099511627776:=aC (aP _ _ _ _ _ _ h2) m2;have m1:(ay E.toks (dP E.toks st).2).2.nodes.length+1≤1099511627776:=m1';have HX:=ah (fun w hp=>dJ { E with R:=R5 } hE ⟨#[123]⟩ (dP E.toks st).2 true hx w hp);have HLf:=ah (fun w hp=>bI { E with R:=R5 } (dP E.toks st).2 w hp hE.1 hE.2.1 n3);have HEx:=ah (fun w hp=>allT { E with R:=R5 } hE g (.expr 1) (jP (ay E.toks (dP E.toks st).2).2 true) f w h2 hp m2 (by show 1≤_;omega));have HMu:=ah (fun w hp=>dN { E with R:=R5 } hE ⟨#[125]⟩ (jP f.2 false) w hp m2);have UW:=ah (fun w hp=>iE { E with R:=R5 } 6 [(ay E.toks (dP E.toks st).2).1,f.1,(aA E.toks [[125]] (jP f.2 false)).1] 3 _ (aA E.toks [[125]] (jP f.2 false)).2 w hp rfl rfl (by omega) m3);clear h2 hn m1 m2 m1' m2' m3 n3 hf hx H0 HN;go_wp2_with (go_at_call 101;refine HO.out.mono ?_);rintro e w6 ⟨rfl,hq,hkq⟩;have K6:=K5.call hq hkq;clear hq hkq HO K5;go_wp2_with (go_at_call 165;refine(HX.out _ K6.2.2.2.1).mono ?_);rintro e w7 ⟨rfl,hq,hkq⟩;have K7:=K6.call hq hkq;clear hq hkq HX K6;obtain⟨d0,_,_,_,_,_⟩:=PW.cells K7.2.2.2.1;go_wp2_with (go_at_call 167;refine(HLf.out _ K7.2.2.2.1).mono ?_);rintro e w8 ⟨rfl,hq,hkq⟩;have K8:=K7.call hq hkq;clear hq hkq HLf K7 d0;obtain⟨hm8,adN⟩:=PW.mark K8.2.2.2.1 true;have hz8:w8.frozen? ⟨E.pb,2,none⟩=false:=(PW.cells K8.2.2.2.1).2.2.2.2.2 2;have c8:=(PW.cells K8.2.2.2.1).2.2.1;have K9:=K8.call hm8 adN;have HEY:=ah (HEx.out _ K9.2.2.2.1);clear hm8 adN HEx K8
   go_wp2_with (go_at_call 172;refine HEY.out.mono ?_);rintro e kW ⟨rfl,hq,hkq⟩;have FY:=K9.call hq hkq;clear hq hkq HEY K9 hz8 c8;obtain⟨adO,aaS⟩:=PW.mark FY.2.2.2.1 false;have abN:kW.frozen? ⟨E.pb,2,none⟩=false:=(PW.cells FY.2.2.2.1).2.2.2.2.2 2;have c10:=(PW.cells FY.2.2.2.1).2.2.1;have zq:=FY.call adO aaS;have hMV:=HMu.out _ zq.2.2.2.1;rw[show (kW.setCell ⟨E.pb,2,none⟩ (.bool false)).heap.size=kW.heap.size by simp] at hMV;have HMV:=ah hMV;clear hMV;clear adO aaS HMu FY;go_wp2_with (go_at_call 168;refine HMV.out.mono ?_);rintro e w12 ⟨rfl,hq,hkq⟩;have yQ:=zq.call hq hkq;clear hq hkq HMV zq abN c10;have HNV:=ah (UW.out _ yQ.2.2.2.1);clear UW;go_wp2_with (go_at_call 106;refine HNV.out.mono ?_);rintro e w13 ⟨rfl,hq,hkq⟩;have Ba:=yQ.call hq hkq;clear hq hkq HNV yQ;have hL:=Ba.lit (.cells #[.int .i64 (bg 6 [(ay E.toks (dP E.toks st).2).1,f.1,(aA E.toks [[125]] (jP f.2 false)).1] (aA E.toks [[125]] (jP f.2 false)).2).1] 3);have hnw:=heap_alloc_new w13 (.cells #[.int .i64 (bg 6 [(ay E.toks (dP E.toks st).2).1,f.1,(aA E.toks [[125]] (jP f.2 false)).1] (aA E.toks [[125]] (jP f.2 false)).2).1] 3);go_wp2_with (at_builtin;refine wpList_append_lies _ rfl _ _ 51 rfl W0.heap.size 3 i0 (.int .i64 0) 1 8 Tryz.underlying51 hi hz0 hz1 hz2 rfl (by decide) _ (ks.length+1+1) _ rfl (hL.row TQ.out) ⟨w13.heap.size,0,none⟩ 1 1 [.int .i64 (bg 6 [(ay E.toks (dP E.toks st).2).1,f.1,(aA E.toks [[125]] (jP f.2 false)).1] (aA E.toks [[125]] (jP f.2 false)).2).1] rfl rfl ?c1 ?c2 ?c3 ?c4 ?c5 ?c6 _ rfl ?_)
   case c1=>exact World.news_of_block (cs:=#[.int .i64 (bg 6 [(ay E.toks (dP E.toks st).2).1,f.1,(aA E.toks [[125]] (jP f.2 false)).1] (aA E.toks [[125]] (jP f.2 false)).2).1]) (t:=3) (fr:=(0,0)) hnw
   case c2=>simp[Value.oneCell']
   case c3=>omega
   case c4=>unfold maxLen;omega
   case c5=>omega
   case c6=>exact hL.2.2.2.2.size
   intro g14 adP w14 hown hgrow hat hlt;obtain⟨R14,K14⟩:=hL.app (news:=[(bg 6 [(ay E.toks (dP E.toks st).2).1,f.1,(aA E.toks [[125]] (jP f.2 false)).1] (aA E.toks [[125]] (jP f.2 false)).2).1]) (n:=ks.length+1+1+1) hB (by rw[bC,TQ.out];rfl) hown hgrow hat (by simp) hlt;clear hL hnw hown hgrow hat hlt;generalize hkk:kk5++[(bg 6 [(ay E.toks (dP E.toks st).2).1,f.1,(aA E.toks [[125]] (jP f.2 false)).1] (aA E.toks [[125]] (jP f.2 false)).2).1]=aff at K14;have agd:Hid (aff.length=ks.length+1+1+1):=ah (by rw[← hkk,bC,TQ.out];rfl);have afg:=ah hkk;clear hkk;go_wp2;go_ret;have e14:=K14;rw[← afg.out,H5.out] at e14;simp only[List.append_assoc,List.cons_append,List.nil_append] at e14;refine⟨.slice (some ⟨g14,0,none⟩) (ks.length+1+1+1) adP,R14,rfl,?_⟩;rw[hc3];exact e14
  ·have h:=H0.out
   unfold gQ at h;rw[if_neg (fun q=>hx q.2)] at h;obtain rfl:=Option.some.inj h;have HX:=ah (fun w hp=>dJ { E with R:=R5 } hE ⟨#[123]⟩ (dP E.toks st).2 false (eq_false_of_ne_true hx) w hp);clear n3 hf hx H0 HN;go_wp2_with (go_at_call 101;refine HO.out.mono ?_);rintro e w6 ⟨rfl,hq,hkq⟩;have K6:=K5.call hq hkq;clear hq hkq HO K5;go_wp2_with (go_at_call 165;refine(HX.out _ K6.2.2.2.1).mono ?_);rintro e w7 ⟨rfl,hq,hkq⟩;have K7:=K6.call hq hkq;clear hq hkq HX K6;go_wp2;go_ret;rw[H5.out] at K7;exact⟨_,R5,rfl,K7⟩
 ·have h:=H0.out
  unfold gQ at h;rw[if_neg (fun q=>hf q.1)] at h;obtain rfl:=Option.some.inj h;have HO:=ah (sK { E with R:=R5 } (dP E.toks st).2 hf _ K5.2.2.2.1);clear n3 hf H0 HN;go_wp2_with (go_at_call 101;refine HO.out.mono ?_);rintro e w6 ⟨rfl,hq,hkq⟩;have K6:=K5.call hq hkq;clear hq hkq HO K5;go_wp2;go_ret;rw[H5.out] at K6;exact⟨_,R5,rfl,K6⟩
theorem Uu (E:aW)(hE:E.ok)(g:Nat)(st:aB)(r:Int × aB)(w:World)(h:iW E.toks E.depth g st=some r)(hp:PW E st w)(hn:r.2.nodes.length+1≤1099511627776)(hcl:st.clause=false) :
  Calls Tryz.prog 170 #[.pointer (some ⟨E.pb,0,none⟩)] w (dL E r w):=by
 unfold iW at h;obtain⟨l,h1,h⟩:=bP h;obtain rfl:=Option.some.inj h;have n2:=aC (aD _ _ _) hn;have n1:=aC (jl h1) n2;have n0:=aC (dZ _ _ _) n1
 have hll:l.1.length≤4:=by
  unfold gQ at h1
  split at h1
  ·obtain⟨n,h2,h1⟩:=bP h1
   obtain rfl:=Option.some.inj h1
   simp
  ·obtain rfl:=Option.some.inj h1
   simp
 have HK:=ah (qN E hE 1 st w hp n0)
 have hc1:(aQ E.toks 1 st).2.clause=false:=by rw[(dZ E.toks 1 st).2.2.1];exact hcl
 have HB:E.B≤w.heap.size:=hp.dX;have HT:=ah (fun W R v K=>GQ E hE g w R v _ _ l W h1 K HB n2 hc1 (by simp));have HN:=ah (fun R w v hq hv=>jW { E with R:=R } 4 v l.1 l.2 w hq hv (by omega) n2);clear n0 n1 n2 hn h1 h hc1;go_enter Tryz.func170,Tryz.ntmps170;go_wp2_with (go_at_call 107;refine HK.out.mono ?_);rintro e w1 ⟨rfl,hp1,hk1⟩;have K1:=iU.start (W0:=w) (aQ E.toks 1 st).1 hp1 hk1;have HTy:=ah (HT.out _ _ _ K1);clear HT hp1 hk1 K1 HK;go_wp2_with (go_at_call 171;refine HTy.out.mono ?_);rintro e w2 ⟨v,R2,rfl,K2⟩;have UW:=ah (HN.out R2 _ v K2.2.2.2.1 K2.node);clear HN HTy;obtain⟨ao,cap,rfl⟩:=nK K2.1;go_wp2_with (go_at_call 106;refine UW.out.mono ?_);rintro e w3 ⟨rfl,hq,hkq⟩;have K3:=K2.call hq hkq;go_wp2;go_ret;exact⟨rfl,PR.drop K3.2.2.2.1 K3.2.2.1,K3.2.2.2.2⟩
end Go.Proofs.YtknicmmigbhpcaaGreatDoor
