/- Walks and plain laws: DoneW, DumpL, FormW, LeavesW1. -/
import Derived.Test.YtdednahplodojaaGreatDoorD18
import Derived.RangeFuncNested
import Derived.RangeFuncBound
import Derived.RangeFuncCalls
import Derived.RangeFuncLeaves
import Derived.RangeFuncWrites
import Derived.OwnWalkIn
import Derived.TacticsInMore
import Derived.LoopNIn
import Derived.LoopIn
import Derived.Sort.LoopGhostIn
set_option maxHeartbeats 16000000
set_option maxRecDepth 100000
set_option linter.unusedVariables false
set_option linter.unusedSimpArgs false
namespace Go.Proofs.YtdednahplodojaaGreatDoor
open Go.RowKit Go
def Ki (w w':World):Prop:=∀ (k:Nat) (cs:Array Value) (fr:Nat × Nat),w.heap[k]?=some (.cells cs 3 fr)→w'.heap[k]?=some (.cells cs 3 fr)
theorem Ki.trans {a b c:World}(h:Ki a b)(k:Ki b c):Ki a c:=fun n cs fr q=>k n cs fr (h n cs fr q)
theorem Ki.below {w w':World}(h:Below w.heap.size w w'):Ki w w':=fun k _cs _fr q=>(h.block k (Array.getElem?_eq_some_iff.1 q).1).trans q
theorem Ki.set {w:World}{b:Nat}{cs:Array Value}{T:TypeId}{fr:Nat × Nat}(hb:w.heap[b]?=some (.cells cs T fr))(hT:T≠3)(j:Nat)(u:Value):Ki w (w.setCell ⟨b,j,none⟩ u):=fun k ds fr' q=>by
 rw [heap_setCell_other _ _ _ _ (by
  show k≠b
  rintro rfl
  rw [hb] at q
  simp only [Option.some.injEq,Obj.cells.injEq] at q
  exact hT q.2.1)]
 exact q
theorem IntsAt.ki {w w':World}{v:Value}{ks:List Int}(h:IntsAt w v ks)(hk:Ki w w'):IntsAt w' v ks:=by
 obtain ⟨ao,cap,hv,hc,hf⟩:=h
 refine ⟨ao,cap,hv,hc,fun h0=>?_⟩
 obtain ⟨b,off,cs,fr,ha,hb,hj⟩:=hf h0
 exact ⟨b,off,cs,fr,ha,hk b cs fr hb,hj⟩
theorem own_keep {w w':World}{B e sz n:Nat}{v:Value}{xs:List Value}(h:w.ownsRow B e sz v n xs)(hs:∀ q,v.ownBlock=some q→w'.heap[q]?=w.heap[q]?):w'.ownsRow B e sz v n xs:=by
 refine ⟨h.1,?_⟩
 rcases h.2 with hn|⟨g,cap,cur,hv,hg,hh,hr⟩
 ·exact .inl hn
 ·exact .inr ⟨g,cap,cur,hv,hg,(hs g (by rw [hv];rfl)).trans hh,hr⟩
def TreeTy (w:World)(v:Value)(toks:List Tok)(nodes:List Nd):Prop :=
 ∃ (tv nv:Value) (l:List (Nd × Value)) (C D:Nat),v=.agg #[tv,nv]∧w.ownsRow C 79 4 tv toks.length (toks.flatMap tokCells)∧l.map Prod.fst=nodes∧w.ownsRow D 82 3 nv nodes.length (l.flatMap ndCells)∧∀ p∈l,IntsAt w p.2 p.1.kids
theorem TreeTy.set {w:World}{v:Value}{toks:List Tok}{nodes:List Nd}(h:TreeTy w v toks nodes){b:Nat}{cs:Array Value}{T:TypeId}{fr:Nat × Nat}(hb:w.heap[b]?=some (.cells cs T fr))(h1:T≠79)(h2:T≠82)(h3:T≠3)(j:Nat)(u:Value):TreeTy (w.setCell ⟨b,j,none⟩ u) v toks nodes:=by
 obtain ⟨tv,nv,l,C,D,e,p1,p2,p3,p4⟩:=h
 exact ⟨tv,nv,l,C,D,e,own_set (a:=⟨b,j,none⟩) p1 (own_ne p1 hb h1) u,p2,own_set (a:=⟨b,j,none⟩) p3 (own_ne p3 hb h2) u,fun p hp=>(p4 p hp).ki (Ki.set hb h3 j u)⟩
theorem TreeTy.later {w w':World}{v:Value}{toks:List Tok}{nodes:List Nd}(h:TreeTy w v toks nodes)(hb:Below w.heap.size w w'):TreeTy w' v toks nodes:=by
 obtain ⟨tv,nv,l,C,D,e,p1,p2,p3,p4⟩:=h
 exact ⟨tv,nv,l,C,D,e,own_below p1 hb,p2,own_below p3 hb,fun p hp=>(p4 p hp).ki (Ki.below hb)⟩
theorem TreeTy.at {w:World}{v:Value}{toks:List Tok}{nodes:List Nd}(h:TreeTy w v toks nodes):TreeAt w.heap.size w v toks nodes:=by
 obtain ⟨tv,nv,l,C,D,e,p1,p2,p3,p4⟩:=h
 have hll:l.length=nodes.length:=by rw [← p2,List.length_map]
 refine ⟨tv,nv,l,e,Sl.ofOwns p1,p2,?_,fun p hp=>?_⟩
 ·rw [Rec,hll]
  exact Sl.ofOwns p3
 ·obtain ⟨ai,ci,hvi,hci,hfi⟩:=p4 p hp
  refine ⟨ai,ci,hvi,hci,by simp,fun hp0=>?_⟩
  obtain ⟨bi,oi,cs,fr,e1,e2,e3⟩:=hfi hp0
  refine ⟨bi,oi,e1,(Array.getElem?_eq_some_iff.1 e2).1,fun jj hjj=>?_⟩
  rw [Lib.cell_of_heap e2,e3 jj (by simpa using hjj)]
  simp
def DonePost (toks:List Tok)(nodes:List Nd)(w:World)(e:Ending)(w':World):Prop :=
 ∃ v,e=.returned v∧TreeTy w' v toks nodes∧Below w.heap.size w w'
def NRow (C:Nat)(w:World)(nv:Value)(nodes:List Nd):Prop :=
 ∃ l:List (Nd × Value),l.map Prod.fst=nodes∧w.ownsRow C 82 3 nv nodes.length (l.flatMap ndCells)∧∀ p∈l,IntsAt w p.2 p.1.kids
theorem done_any (R:List Nat)(B bb:Nat)(tv:Value)(toks:List Tok)(nodes:List Nd)(used:Nat)(w:World)(hb:BW R B bb tv used nodes w)(ht:Rec B w tv 4 tokCells toks)(h0:0<toks.length)(hn:toks.length≤1000000)(hm:nodes.length≤1000000)(hkl:∀ n∈nodes,n.kids.length≤1000000) :
  Calls Tryz.prog 72 #[.pointer (some ⟨bb,0,none⟩)] w (DonePost toks nodes w):=by
 have HC:=Lib.hid (fun W (h:Rec B W tv 4 tokCells toks)=>clone_toks B tv toks W h h0 (by omega))
 obtain ⟨h1,nv,l,h2,h3,h4,h5⟩:=hb
 have hlt:=(Array.getElem?_eq_some_iff.1 h2).1
 obtain ⟨ao,cap,rfl,_⟩:∃ ao cap,nv=.slice ao nodes.length cap∧True:=by
  rcases h4.2 with ⟨hv,hn0⟩|⟨g,cap,cur,hv,_⟩
  ·exact ⟨none,0,by rw [hv,hn0],trivial⟩
  ·exact ⟨_,cap,hv,trivial⟩
 have HT:=Lib.hid ht
 obtain ⟨at_,ct,rfl,_,_⟩:=ht.form (fun _=>rfl)
 have c0:w.cell? ⟨bb,0,none⟩=some (.slice at_ toks.length ct):=by rw [Lib.cell_of_heap h2];rfl
 have hal:=below_new w (.cells #[.slice none 0 0,.slice none 0 0] 25)
 have d0:=cell_later hal c0
 have hBw:B≤w.heap.size:=by omega
 have H4:=Lib.hid h4
 have H5:=Lib.hid h5
 clear h4 h5 ht c0
 go_enter Tryz.func72,Tryz.ntmps72
 go_wp2_with (go_at_call 106;refine (HC.out _ ?c1).mono ?_)
 case c1=>exact HT.out.below (hal.mono hBw)
 rintro e w1 ⟨v',rfl,hown,hb1⟩
 obtain ⟨g,c5,rfl,hg1,hg2⟩:=hown.form h0
 have G0:=(hb1.block w.heap.size (by simp)).trans (heap_alloc_new w (.cells #[.slice none 0 0,.slice none 0 0] 25))
 have Gb:=(hb1.block bb (by simp;omega)).trans ((Lib.alloc_old w _ bb hlt).trans h2)
 go_upto_region 2 with (fail)
 have hz1:=hb1.size
 rw [World.size_alloc] at hz1
 have hbw1:Below w.heap.size w w1:=hal.trans (hb1.mono (by simp))
 have T1:=heap_alloc_new w1 (.cells #[.slice (some ⟨g,0,none⟩) toks.length c5,.slice none 0 0] 25)
 have hb2:=below_new w1 (.cells #[.slice (some ⟨g,0,none⟩) toks.length c5,.slice none 0 0] 25)
 have Gb2:=(Lib.alloc_old w1 (.cells #[.slice (some ⟨g,0,none⟩) toks.length c5,.slice none 0 0] 25) bb (Array.getElem?_eq_some_iff.1 Gb).1).trans Gb
 generalize w1.alloc _=w2 at T1 hb2 Gb2 ⊢
 have b1:w2.cell? ⟨bb,1,none⟩=some (.slice ao nodes.length cap):=by rw [Lib.cell_of_heap Gb2];rfl
 obtain ⟨j0,hj,hy0,hy1,hy2⟩:=info_parts Tryz.infoNode
 have hll:l.length=nodes.length:=by rw [← h3,List.length_map]
 have hrec:Rec w.heap.size w (.slice ao nodes.length cap) 3 ndCells l:=by
  have:=Sl.ofOwns H4.out
  rw [Rec,hll]
  exact this
 obtain ⟨ao',cap',hv,_,hnf⟩:=hrec.formN (fun p=>ndCells_len p) hll
 simp only [Value.slice.injEq] at hv
 obtain ⟨rfl,-,rfl⟩:=hv
 have HNF:=Lib.hid hnf
 have HLL:=Lib.hid hll
 have H3:=Lib.hid h3
 clear hnf hrec hll h3
 go_wp2
 clear b1 d0
 go_loopw [19] (fun q wr=>∃ (j:Nat) (nv2:Value),j≤nodes.length∧q=.int .i64 j∧Alk (fun b=>b<w1.heap.size) w2 wr∧wr.heap[w1.heap.size]?=some (.cells #[.slice (some ⟨g,0,none⟩) toks.length c5,nv2] 25 (0,0))∧NRow (w1.heap.size+1) wr nv2 (nodes.take j)∧Ki w2 wr∧Below w.heap.size w wr) (fun q _=>nodes.length - (intOf q).toNat)
 case atStart=>exact ⟨0,.slice none 0 0,Nat.zero_le _,rfl,Alk.refl _ _,T1,⟨[],rfl,World.ownsRow_nil _ _ _ _,fun p hp=>by cases hp⟩,fun _ _ _ q=>q,hbw1.trans (hb2.mono hbw1.size)⟩
 case round =>
  obtain ⟨j,nv2,hjn,rfl,halk,hT,hrow,hki,hbl⟩:=hrel
  have hzr:=halk.1
  have hz2:=hb2.size
  by_cases hlt:j<nodes.length
  ·have hjl:j<l.length:=by have:=HLL.out;omega
   obtain ⟨b,off,rfl,hbB,hcell⟩:=HNF.out (by omega)
   have hW2:Below w.heap.size w w2:=hbw1.trans (hb2.mono hbw1.size)
   have hcl:=fun (jj:Nat) (u:Value) (hu:(ndCells l[j])[jj]?=some u)=>(World.cell?_of_block (a:=⟨b,off+j * 3+jj,none⟩) ((halk.2 b (by have:=hbw1.size;show b<w1.heap.size;omega) (by have:=hbw1.size;omega)).trans (hW2.block b hbB))).trans (hcell j jj u hjl hu)
   have hx0:=hcl 0 _ rfl
   have hx1:=hcl 1 _ rfl
   have hx2:=hcl 2 _ rfl
   have hiw:IntsAt wr l[j].2 l[j].1.kids:=((H5.out l[j] (List.getElem_mem hjl)).1.ki (Ki.below hW2)).ki hki
   have hnj:nodes[j]=l[j].1:=by have:=H3.out;subst this;simp
   have hkj:=hkl nodes[j] (List.getElem_mem hlt)
   have hsn:nodes.take (j+1)=nodes.take j++[l[j].1]:=by rw [List.take_succ_eq_append_getElem hlt,hnj]
   rw [hnj] at hkj
   generalize l[j]=pr at hx0 hx1 hx2 hiw hkj hsn
   obtain ⟨⟨kind,tok,ks⟩,kv⟩:=pr
   simp only [Nat.add_zero] at hx0 hx1 hx2 hiw hkj hsn
   have HS:=Lib.hid hsn
   have HIW:=Lib.hid hiw
   obtain ⟨ak,ck,rfl⟩:=hiw.slice
   have hjI:(j:Int)<(nodes.length:Int):=by omega
   clear hcell hcl hnj hsn hiw
   go_wp2_with (go_at_call 107;refine (clone_ints _ ks _ (HIW.out.ki (Ki.below (below_new wr _))) (by omega)).mono ?_)
   rintro e w4 ⟨v5,rfl,hkR,hb4⟩
   have hk5:=(hkR [] (fun r hr=>by cases hr)).1
   obtain ⟨a5,c6,rfl⟩:=hk5.slice
   have N4:=(hb4.block wr.heap.size (by simp)).trans (heap_alloc_new wr (.cells #[.int .i64 kind,.int .i64 tok,.slice ak ks.length ck] 82))
   have n2:w4.cell? ⟨wr.heap.size,2,none⟩=some (.slice ak ks.length ck):=by rw [Lib.cell_of_heap N4];rfl
   have nz:∀ jj,w4.frozen? ⟨wr.heap.size,jj,none⟩=false:=by intro jj;simp [World.frozen?,N4]
   clear hkR hx0 hx1 hx2
   go_upto_region 6 with (fail)
   obtain ⟨l2,hl2,hown2,hk2⟩:=hrow
   have hlj:(nodes.take j).length=j:=by rw [List.length_take];omega
   rw [hlj] at hown2
   obtain ⟨a2,c2,rfl,_⟩:∃ a2 c2,nv2=.slice a2 j c2∧True:=by
    rcases hown2.2 with ⟨hv,hn0⟩|⟨g,cap,cur,hv,_⟩
    ·exact ⟨none,0,by rw [hv,hn0],trivial⟩
    ·exact ⟨_,cap,hv,trivial⟩
   have hne2:some wr.heap.size≠(Value.slice a2 j c2).ownBlock:=fun q=>by have:=(hown2.lt _ q.symm).2;omega
   have hlt1:w1.heap.size<wr.heap.size:=(Array.getElem?_eq_some_iff.1 hT).1
   have hb4':Below wr.heap.size wr w4:=(below_new wr _).trans (hb4.mono (by simp))
   have N5:=heap_setCell_same w4 wr.heap.size 2 _ _ (.slice a5 ks.length c6) N4
   have T5:(w4.setCell ⟨wr.heap.size,2,none⟩ (.slice a5 ks.length c6)).heap[w1.heap.size]?=_:=(heap_setCell_other _ _ _ _ (by show w1.heap.size≠wr.heap.size;omega)).trans ((hb4'.block _ hlt1).trans hT)
   have hown5:=own_set (a:=⟨wr.heap.size,2,none⟩) (own_below hown2 hb4') hne2 (.slice a5 ks.length c6)
   have hks:=Ki.set N4 (by decide) 2 (.slice a5 ks.length c6)
   have hki5:=(hki.trans (Ki.below hb4')).trans hks
   have hkw5:=(Ki.below hb4').trans hks
   have hk5':=hk5.ki hks
   have halk5:Alk (fun b=>b<w1.heap.size) w2 (w4.setCell ⟨wr.heap.size,2,none⟩ (.slice a5 ks.length c6)):=(halk.trans (Alk.of hb4')).trans (Alk.set _ fun b hb=>by show b≠wr.heap.size;omega)
   have hb5:=(hbl.trans (hb4'.mono hbl.size)).setCell (p:=⟨wr.heap.size,2,none⟩) hbl.size (.slice a5 ks.length c6)
   have hs5:w4.heap.size≤(w4.setCell ⟨wr.heap.size,2,none⟩ (.slice a5 ks.length c6)).heap.size:=by simp
   have hs4:=hb4'.size
   clear hown2 hne2 N4 n2 nz hb4 hb4' hk5 hks
   generalize w4.setCell _ _=w5 at N5 T5 hown5 hki5 hkw5 hk5' halk5 hs5 hb5 ⊢
   have t1:w5.cell? ⟨w1.heap.size,1,none⟩=some (.slice a2 j c2):=by rw [Lib.cell_of_heap T5];rfl
   have m0:w5.cell? ⟨wr.heap.size,0,none⟩=some (.int .i64 kind):=by rw [Lib.cell_of_heap N5];rfl
   have m1:w5.cell? ⟨wr.heap.size,1,none⟩=some (.int .i64 tok):=by rw [Lib.cell_of_heap N5];rfl
   have m2:w5.cell? ⟨wr.heap.size,2,none⟩=some (.slice a5 ks.length c6):=by rw [Lib.cell_of_heap N5];rfl
   go_wp2_with (at_builtin;refine wpList_append_own _ rfl _ _ 23 rfl (w1.heap.size+1) 82 j0 (.agg #[.int .i64 0,.int .i64 0,.slice none 0 0]) 3 40 Tryz.underlying23 hj hy0 hy1 hy2 rfl (by decide) _ _ _ rfl (hown5.alloc _) ⟨w5.heap.size,0,none⟩ 1 1 [.int .i64 kind,.int .i64 tok,.slice a5 ks.length c6] rfl rfl ?e1 ?e2 ?e3 ?e4 ?e5 ?_)
   case e1 =>
    intro j' u hj'
    exact World.news_of_block (cs:=#[.int .i64 kind,.int .i64 tok,.slice a5 ks.length c6]) (t:=82) (fr:=(0,0)) (heap_alloc_new w5 _) j' u (by simpa using hj')
   case e2=>simp [Value.oneCell']
   case e3=>unfold maxLen;omega
   case e4=>omega
   case e5=>simp;omega
   intro v' w6 hown6 hgrow6 _
   obtain ⟨gv,cv,rfl,_,_⟩:=hown6.form (by omega)
   have hlt5:=(Array.getElem?_eq_some_iff.1 T5).1
   have T6:=own_block (hown5.alloc _) hgrow6 ((Lib.alloc_old w5 (.cells #[.int .i64 kind,.int .i64 tok,.slice a5 ks.length c6] 82) w1.heap.size hlt5).trans T5) (by decide)
   have k6:Ki w5 w6:=fun k cs fr q=>own_block (hown5.alloc _) hgrow6 ((Lib.alloc_old w5 (.cells #[.int .i64 kind,.int .i64 tok,.slice a5 ks.length c6] 82) k (Array.getElem?_eq_some_iff.1 q).1).trans q) (by decide)
   have a6:Alk (fun b=>b<w1.heap.size) w2 w6:=(halk5.trans (Alk.of (below_new w5 _))).trans (Alk.grown hgrow6 fun b hb q=>by have:=(hown5.lt b q.symm).1;omega)
   have s1:w6.cell? ⟨w1.heap.size,1,none⟩=some (.slice a2 j c2):=by rw [Lib.cell_of_heap T6];rfl
   have sz:∀ jj,w6.frozen? ⟨w1.heap.size,jj,none⟩=false:=by intro jj;simp [World.frozen?,T6]
   have hs7:Ki w6 (w6.setCell ⟨w1.heap.size,1,none⟩ (.slice (some ⟨gv,0,none⟩) (j+1) cv)):=Ki.set T6 (by decide) 1 _
   have T7:=heap_setCell_same w6 w1.heap.size 1 _ _ (.slice (some ⟨gv,0,none⟩) (j+1) cv) T6
   have a7:=a6.trans (Alk.set (a:=⟨w1.heap.size,1,none⟩) (.slice (some ⟨gv,0,none⟩) (j+1) cv) fun b hb=>by show b≠w1.heap.size;omega)
   have o7:=own_set (a:=⟨w1.heap.size,1,none⟩) hown6 (fun q=>by have:=(hown6.lt _ q.symm).1;simp at this;omega) (.slice (some ⟨gv,0,none⟩) (j+1) cv)
   have hlj2:(nodes.take (j+1)).length=j+1:=by rw [List.length_take];omega
   have R7:NRow (w1.heap.size+1) (w6.setCell ⟨w1.heap.size,1,none⟩ (.slice (some ⟨gv,0,none⟩) (j+1) cv)) (.slice (some ⟨gv,0,none⟩) (j+1) cv) (nodes.take (j+1)):=by
    refine ⟨l2++[(⟨kind,tok,ks⟩,.slice a5 ks.length c6)],by rw [List.map_append,hl2,HS.out];rfl,?_,fun p hp=>?_⟩
    ·rw [hlj2,List.flatMap_append]
     exact o7
    ·rcases List.mem_append.1 hp with hp|hp
     ·exact (((hk2 p hp).ki hkw5).ki k6).ki hs7
     ·rw [List.mem_singleton] at hp
      subst hp
      exact (hk5'.ki k6).ki hs7
   have hki7:=((hki5.trans k6).trans hs7)
   have hw1w:=hbw1.size
   have hb7:=((hb5.alloc hb5.size (.cells #[.int .i64 kind,.int .i64 tok,.slice a5 ks.length c6] 82)).grown hgrow6 (by have:=hb5.size;simp;omega) (fun q hq=>by have:=(hown5.lt q hq).1;omega)).setCell (p:=⟨w1.heap.size,1,none⟩) hw1w (.slice (some ⟨gv,0,none⟩) (j+1) cv)
   clear hgrow6 hown6 hown5 t1 m0 m1 m2 o7 hk2 hl2
   go_wp2
   go_roundw
   case rel=>exact ⟨j+1,_,by omega,by go_num,a7,T7,R7,hki7,hb7⟩
   case measure=>simp [intOf];omega
  ·obtain rfl:j=nodes.length:=by omega
   rw [List.take_length] at hrow
   obtain ⟨l2,hl2,hown2,hk2⟩:=hrow
   obtain ⟨a2,c2,rfl,_⟩:∃ a2 c2,nv2=.slice a2 nodes.length c2∧True:=by
    rcases hown2.2 with ⟨hv,hn0⟩|⟨g,cap,cur,hv,_⟩
    ·exact ⟨none,0,by rw [hv,hn0],trivial⟩
    ·exact ⟨_,cap,hv,trivial⟩
   have hl1:=(Array.getElem?_eq_some_iff.1 G0).1
   have Z:=(halk.2 w.heap.size hl1 (by omega)).trans ((hb2.block w.heap.size hl1).trans G0)
   have s0:wr.cell? ⟨w1.heap.size,0,none⟩=some (.slice (some ⟨g,0,none⟩) toks.length c5):=by rw [Lib.cell_of_heap hT];rfl
   have s1:wr.cell? ⟨w1.heap.size,1,none⟩=some (.slice a2 nodes.length c2):=by rw [Lib.cell_of_heap hT];rfl
   have q0:wr.cell? ⟨w.heap.size,0,none⟩=some (.slice none 0 0):=by rw [Lib.cell_of_heap Z];rfl
   have q1:wr.cell? ⟨w.heap.size,1,none⟩=some (.slice none 0 0):=by rw [Lib.cell_of_heap Z];rfl
   have qz:∀ jj,wr.frozen? ⟨w.heap.size,jj,none⟩=false:=by intro jj;simp [World.frozen?,Z]
   have hjI:decide ((nodes.length:Int)<(nodes.length:Int))=false:=decide_eq_false (by omega)
   have hll2:l2.length=nodes.length:=by rw [← hl2,List.length_map]
   have k1:Ki wr (wr.setCell ⟨w.heap.size,0,none⟩ (.slice (some ⟨g,0,none⟩) toks.length c5)):=Ki.set Z (by decide) 0 _
   have Z1:=heap_setCell_same wr w.heap.size 0 _ _ (.slice (some ⟨g,0,none⟩) toks.length c5) Z
   have k2:=Ki.set Z1 (by decide) 1 (.slice a2 nodes.length c2)
   have hgl:=hown.lt g rfl
   simp only [World.size_alloc] at hgl
   have hP3:((wr.setCell ⟨w.heap.size,0,none⟩ (.slice (some ⟨g,0,none⟩) toks.length c5)).setCell ⟨w.heap.size,1,none⟩ (.slice a2 nodes.length c2)).ownsRow _ 79 4 (.slice (some ⟨g,0,none⟩) toks.length c5) toks.length (toks.flatMap tokCells):=own_keep hown fun q hq=>by
    obtain rfl:g=q:=by simpa [Value.ownBlock] using hq
    rw [heap_setCell_other _ _ _ _ (by show g≠w.heap.size;omega),heap_setCell_other _ _ _ _ (by show g≠w.heap.size;omega)]
    exact (halk.2 g hgl.2 (by omega)).trans (hb2.block g hgl.2)
   have hn1:=own_set (a:=⟨w.heap.size,0,none⟩) hown2 (fun q=>by have:=(hown2.lt _ q.symm).1;simp at this;omega) (.slice (some ⟨g,0,none⟩) toks.length c5)
   have hN3:=own_set (a:=⟨w.heap.size,1,none⟩) hn1 (fun q=>by have:=(hn1.lt _ q.symm).1;simp at this;omega) (.slice a2 nodes.length c2)
   have hb9:=(hbl.setCell (p:=⟨w.heap.size,0,none⟩) (Nat.le_refl _) (.slice (some ⟨g,0,none⟩) toks.length c5)).setCell (p:=⟨w.heap.size,1,none⟩) (Nat.le_refl _) (.slice a2 nodes.length c2)
   go_wp2
   refine bodyPost_ret (v:=.agg #[.slice (some ⟨g,0,none⟩) toks.length c5,.slice a2 nodes.length c2]) (by simp [results,Tryz.results72,go_sem,q0,q1]) rfl ⟨_,rfl,⟨_,_,l2,_,_,rfl,hP3,hl2,hN3,fun p hp=>((hk2 p hp).ki k1).ki k2⟩,hb9⟩
theorem PE.dump_def (e:PE):e.dump=headF e.op e.name e.module (intF e.num) e.yes++dumpE e.kids++[93]:=by cases e;rfl
theorem dumpE_append:∀ (a b:List PE),dumpE (a++b)=dumpE a++dumpE b
 | [],b=>by simp [dumpE]
 | e :: a,b=>by simp only [List.cons_append,dumpE,dumpE_append a b,List.append_assoc]
mutual
def PE.opsOk:PE→Prop
 | .mk op _ _ _ _ _ kids _=>op<100∧opsOkE kids
def opsOkE:List PE→Prop
 | []=>True
 | e :: l=>e.opsOk∧opsOkE l
end
theorem empty_no {s:ByteArray}(h:s.data.toList≠[]):s.toList.isEmpty=false:=by
 rw [isEmpty_size]
 refine decide_eq_false fun q=>h ?_
 rw [← size_list] at q
 exact List.length_eq_zero_iff.1 q
theorem empty_yes {s:ByteArray}(h:s.data.toList=[]):s.toList.isEmpty=true:=by
 rw [isEmpty_size]
 refine decide_eq_true ?_
 rw [← size_list,h]
 rfl
def nameF (nm md:List UInt8):List UInt8:=if md≠[] then [32]++md++[46]++nm else if nm≠[] then [32]++nm else []
def numTF (op:Nat)(tx:List UInt8):List UInt8:=if op=1 then [32]++tx else []
def yesF (op:Nat)(ys:Bool):List UInt8:=if op=2 then (if ys=true then [32,116,114,117,101] else [32,102,97,108,115,101]) else []
theorem nameF_md {nm md:List UInt8}(h:md≠[]):nameF nm md=[32]++md++[46]++nm:=by rw [nameF,if_pos h]
theorem nameF_nm {nm md:List UInt8}(h:md=[])(hn:nm≠[]):nameF nm md=[32]++nm:=by rw [nameF,if_neg (by simp [h]),if_pos hn]
theorem nameF_no {nm md:List UInt8}(h:md=[])(hn:nm=[]):nameF nm md=[]:=by rw [nameF,if_neg (by simp [h]),if_neg (by simp [hn])]
theorem head_parts (op:Nat)(nm md tx:List UInt8)(ys:Bool):headF op nm md tx ys=[91]++decF op++nameF nm md++numTF op tx++yesF op ys:=rfl
def FormOk (r:FRes)(w:World)(e:Ending)(w':World):Prop :=
 Below w.heap.size w w'∧match r with
 | .bad c a=>e=.returned (.tuple #[.agg #[.slice none 0 0,.slice none 0 0],.agg #[.int .i64 c,.int .i64 a]])
 | .good toks nodes=>∃ at_ ct an cn,e=.returned (.tuple #[.agg #[.slice at_ toks.length ct,.slice an nodes.length cn],.agg #[.int .i64 0,.int .i64 0]])∧TreeTy w' (.agg #[.slice at_ toks.length ct,.slice an nodes.length cn]) toks nodes
theorem fault_cells {w:World}{b:Nat}{x y:Value}(h:w.heap[b]?=some (.cells #[x,y] 44 (0,0))):w.cell? ⟨b,0,none⟩=some x∧w.cell? ⟨b,1,none⟩=some y∧∀ j,w.frozen? ⟨b,j,none⟩=false:=by
 refine ⟨?_,?_,fun j=>?_⟩
 ·rw [Lib.cell_of_heap h];rfl
 ·rw [Lib.cell_of_heap h];rfl
 ·simp [World.frozen?,h]
theorem tree_cellsz {w:World}{b:Nat}{x y:Value}(h:w.heap[b]?=some (.cells #[x,y] 25 (0,0))):w.cell? ⟨b,0,none⟩=some x∧w.cell? ⟨b,1,none⟩=some y∧∀ j,w.frozen? ⟨b,j,none⟩=false:=by
 refine ⟨?_,?_,fun j=>?_⟩
 ·rw [Lib.cell_of_heap h];rfl
 ·rw [Lib.cell_of_heap h];rfl
 ·simp [World.frozen?,h]
theorem read_lexbad (s:ByteArray)(d:Nat)(fv:Value)(w:World)(hd1:1≤d)(hd2:d≤200)(hs:s.size≤1099511627776)(c a:Nat)(hl:lexAll s.data.toList=.error (c,a))(hc:c≠0) :
  Calls Tryz.prog 35 #[.string s,.int .i64 d,fv] w (FormOk (.bad c a) w):=by
 have HL:Hid (∀ W,Calls Tryz.prog 69 #[.string s] W fun e w'=>e=.returned (.tuple #[.slice none 0 0,.agg #[.int .i64 c,.int .i64 a]])∧Below W.heap.size W w'):=Lib.hid fun W=>(lex_any s W hs).mono fun e w' h=>by
  unfold LexOk at h
  rw [hl] at h
  exact ⟨h.2,h.1⟩
 have hc0:((c:Int) == 0)=false:=by simp;omega
 have hal:=(below_new w (.cells #[.slice none 0 0,.slice none 0 0] 25)).alloc (by simp) (.cells #[.int .i64 0,.int .i64 0] 44)
 have e1:=(Lib.alloc_old (w.alloc (.cells #[.slice none 0 0,.slice none 0 0] 25)) (.cells #[.int .i64 0,.int .i64 0] 44) w.heap.size (by simp)).trans (heap_alloc_new w (.cells #[.slice none 0 0,.slice none 0 0] 25))
 have e2:=heap_alloc_new (w.alloc (.cells #[.slice none 0 0,.slice none 0 0] 25)) (.cells #[.int .i64 0,.int .i64 0] 44)
 rw [World.size_alloc] at e2
 have hdI1:¬ ((d:Int)<1):=by omega
 have hdI2:¬ ((200:Int)<(d:Int)):=by omega
 clear hl
 go_enter Tryz.func35,Tryz.ntmps35
 go_upto_region 5 with (go_at_call 69;refine (HL.out _).mono ?_;rintro e w3 ⟨rfl,hb3⟩;have hz3:=hb3.size)
 rw [World.size_alloc,World.size_alloc] at hz3
 have G6:=(Lib.alloc_old w3 (.cells #[.int .i64 c,.int .i64 a] 44) w.heap.size (by omega)).trans ((hb3.block w.heap.size (by simp;omega)).trans e1)
 have G7:=(Lib.alloc_old w3 (.cells #[.int .i64 c,.int .i64 a] 44) (w.heap.size+1) (by omega)).trans ((hb3.block (w.heap.size+1) (by simp)).trans e2)
 have hb4:=(hal.trans (hb3.mono (by simp;omega))).alloc (by omega) (.cells #[.int .i64 c,.int .i64 a] 44)
 have N9:=heap_alloc_new w3 (.cells #[.int .i64 c,.int .i64 a] 44)
 clear hb3 e1 e2 hal HL
 generalize hx:w3.heap.size=xb at N9 ⊢
 generalize w3.alloc _=w4 at G6 G7 hb4 N9 ⊢
 obtain ⟨q0,q1,qz⟩:=tree_cellsz G6
 obtain ⟨p0,p1,pz⟩:=fault_cells G7
 obtain ⟨f0,f1,fz⟩:=fault_cells N9
 go_region
 go_wp2
 refine bodyPost_ret (v:=.tuple #[.agg #[.slice none 0 0,.slice none 0 0],.agg #[.int .i64 c,.int .i64 a]]) (by simp [results,Tryz.results35,go_sem,q0,q1,p0,p1]) rfl ⟨?_,rfl⟩
 exact ((((hb4.setCell (by simp) _).setCell (by simp) _).setCell (by simp) _).setCell (by simp) _).drew
theorem read_parse (s:ByteArray)(d:Nat)(w:World)(hd1:1≤d)(hd2:d≤200)(hs:s.size≤1099511627776)(toks:List Tok)(hl:lexAll s.data.toList=.ok toks)(hn:toks.length≤100000)
  (a:Int × PSt) (ha:run toks d (gasA toks) (.expr 1) { startP with clause:=true }=some a) (han:a.2.nodes.length≤2 * toks.length) (hkl:(nodeM 18 [a.1,(kindM toks 5 a.2).1] (kindM toks 5 a.2).2).2.fE=0→∀ n∈(nodeM 18 [a.1,(kindM toks 5 a.2).1] (kindM toks 5 a.2).2).2.nodes,n.kids.length≤1000000) :
  Calls Tryz.prog 35 #[.string s,.int .i64 d,.func (.func 53) #[] #[]] w (FormOk (ofSt toks (nodeM 18 [a.1,(kindM toks 5 a.2).1] (kindM toks 5 a.2).2).2) w):=by
 have hpos:=(lexAll_laid hl).some
 have g1:=nodeM_grows 18 [a.1,(kindM toks 5 a.2).1] (kindM toks 5 a.2).2
 have g2:=kindM_grows toks 5 a.2
 have HA:Hid (∀ (E:PEnv) (w:World),E.toks=toks→E.depth=d→E.ok→PW E startP w→Calls Tryz.prog 53 #[.pointer (some ⟨E.pb,0,none⟩)] w (VPost E (nodeM 18 [a.1,(kindM toks 5 a.2).1] (kindM toks 5 a.2).2).2 w)):=Lib.hid (fun E w h1 h2 hE hp=>by
  subst h1 h2
  exact alone_any E hE (gasA E.toks) startP a w ha hp (by omega))
 clear ha
 generalize (nodeM 18 [a.1,(kindM toks 5 a.2).1] (kindM toks 5 a.2).2).2=st at g1 hkl HA ⊢
 have hnl:st.nodes.length≤1000000:=by omega
 clear g1 g2 han
 have HL:Hid (∀ W,Calls Tryz.prog 69 #[.string s] W fun e w'=>(∃ at_ ct,e=.returned (.tuple #[.slice at_ toks.length ct,.agg #[.int .i64 0,.int .i64 0]])∧Rec w'.heap.size w' (.slice at_ toks.length ct) 4 tokCells toks)∧Below W.heap.size W w'):=Lib.hid fun W=>(lex_any s W hs).mono fun e w' h=>by
  unfold LexOk at h
  rw [hl] at h
  obtain ⟨h1,v,h2,h3⟩:=h
  obtain ⟨at_,ct,rfl,_,_⟩:=h3.form (fun _=>rfl)
  exact ⟨⟨at_,ct,h2,h3⟩,h1⟩
 have hal:=(below_new w (.cells #[.slice none 0 0,.slice none 0 0] 25)).alloc (by simp) (.cells #[.int .i64 0,.int .i64 0] 44)
 have e1:=(Lib.alloc_old (w.alloc (.cells #[.slice none 0 0,.slice none 0 0] 25)) (.cells #[.int .i64 0,.int .i64 0] 44) w.heap.size (by simp)).trans (heap_alloc_new w (.cells #[.slice none 0 0,.slice none 0 0] 25))
 have e2:=heap_alloc_new (w.alloc (.cells #[.slice none 0 0,.slice none 0 0] 25)) (.cells #[.int .i64 0,.int .i64 0] 44)
 rw [World.size_alloc] at e2
 have hdI1:¬ ((d:Int)<1):=by omega
 have hdI2:¬ ((200:Int)<(d:Int)):=by omega
 clear hl
 go_enter Tryz.func35,Tryz.ntmps35
 go_upto_region 6 with (go_at_call 69;refine (HL.out _).mono ?_;rintro e w3 ⟨⟨at_,ct,rfl,hrec⟩,hb3⟩;have hz3:=hb3.size)
 rw [World.size_alloc,World.size_alloc] at hz3
 have G6:=(Lib.alloc_old w3 (.cells #[.int .i64 0,.int .i64 0] 44) w.heap.size (by omega)).trans ((hb3.block w.heap.size (by simp;omega)).trans e1)
 have G7:=(Lib.alloc_old w3 (.cells #[.int .i64 0,.int .i64 0] 44) (w.heap.size+1) (by omega)).trans ((hb3.block (w.heap.size+1) (by simp)).trans e2)
 have hb4:=(hal.trans (hb3.mono (by simp;omega))).alloc (by omega) (.cells #[.int .i64 0,.int .i64 0] 44)
 have hrec4:=hrec.below (below_new w3 (.cells #[.int .i64 0,.int .i64 0] 44))
 have hz4:w3.heap.size≤(w3.alloc (.cells #[.int .i64 0,.int .i64 0] 44)).heap.size:=by simp
 clear hb3 e1 e2 hal HL hrec hdI1 hdI2
 generalize w3.heap.size=B3 at hrec4 hz4 hz3 ⊢
 generalize w3.alloc _=w4 at G6 G7 hb4 hrec4 hz4 ⊢
 have HN:=Lib.hid (newB_any w4.heap.size _ toks w4 (hrec4.mono hz4) hpos (by omega))
 go_upto_region 7 with (go_at_call 70;refine HN.out.mono ?_;rintro e w5 ⟨bb,B,tv,rfl,hbw,hrec5,hBB,hb5⟩)
 have hbw':=hbw
 obtain ⟨hBb,nv0,l0,hbk,_⟩:=hbw'
 have hblt:=(Array.getElem?_eq_some_iff.1 hbk).1
 have G65:=(Lib.alloc_old w5 (.cells #[.pointer (some ⟨bb,0,none⟩),.int .i64 d,.bool false,.int .i64 0,.int .i64 0] 141) w.heap.size (by have:=hb5.size;have:=(Array.getElem?_eq_some_iff.1 G6).1;omega)).trans ((hb5.block w.heap.size (Array.getElem?_eq_some_iff.1 G6).1).trans G6)
 have G75:=(Lib.alloc_old w5 (.cells #[.pointer (some ⟨bb,0,none⟩),.int .i64 d,.bool false,.int .i64 0,.int .i64 0] 141) (w.heap.size+1) (by have:=hb5.size;have:=(Array.getElem?_eq_some_iff.1 G7).1;omega)).trans ((hb5.block (w.heap.size+1) (Array.getElem?_eq_some_iff.1 G7).1).trans G7)
 have hb6:=(hb4.trans (hb5.mono hb4.size)).alloc (by have:=hb4.size;have:=hb5.size;omega) (.cells #[.pointer (some ⟨bb,0,none⟩),.int .i64 d,.bool false,.int .i64 0,.int .i64 0] 141)
 have hPW:PW ⟨[],B,w5.heap.size,bb,tv,toks,d⟩ startP (w5.alloc (.cells #[.pointer (some ⟨bb,0,none⟩),.int .i64 d,.bool false,.int .i64 0,.int .i64 0] 141)) :=
  ⟨heap_alloc_new _ _,hbw.later (below_new _ _),hrec5.below ((below_new w5 _).mono (by omega)),by show B≤w5.heap.size;omega,Nat.zero_le _,fun r hr=>by cases hr⟩
 have hBw:w.heap.size≤B:=Nat.le_trans hb4.size hBB
 have HAL:=Lib.hid (HA.out ⟨[],B,w5.heap.size,bb,tv,toks,d⟩ _ rfl rfl ⟨hpos,by show toks.length≤_;omega,by show d≤1000;omega⟩ hPW)
 clear HN HA hbw hrec5 hb5 hb4 G6 G7 hrec4 hPW hbk
 generalize w5.heap.size=pb at HAL ⊢
 generalize w5.alloc _=w6 at G65 G75 hb6 HAL ⊢
 go_upto_region 8 with (go_at_call 53;refine HAL.out.mono ?_;rintro e w7 ⟨rfl,hp7,hk7⟩)
 have G67:=hk7.2 _ _ _ _ G65 (by decide) (by decide) (by decide)
 have G77:=hk7.2 _ _ _ _ G75 (by decide) (by decide) (by decide)
 have hb7:Below w.heap.size w w7:=hb6.trans (hk7.1.mono hBw)
 have HOK:=Lib.hid (ok_any _ st w7 hp7)
 obtain ⟨c0,c1,c2,c3,c4,cz⟩:=hp7.cells
 obtain ⟨h1,hbw7,hrec7,_⟩:=hp7
 obtain ⟨q0,q1,qz⟩:=tree_cellsz G67
 obtain ⟨p0,p1,pz⟩:=fault_cells G77
 clear hk7 HAL h1 G65 G75 hb6
 simp only at c0 c1 c2 c3 c4 hbw7 hrec7
 by_cases hf:st.fE=0
 ·have hok:okB st=true:=by unfold okB;simp [hf]
  rw [hok] at HOK
  have HD:=Lib.hid (done_any _ B bb tv toks st.nodes st.used w7 hbw7 hrec7 hpos (by omega) hnl (hkl hf))
  have HOF:Hid (ofSt toks st=.good toks st.nodes):=Lib.hid (by rw [ofSt,if_pos hf])
  clear hok hf hbw7 hrec7 c1 c2 c3 c4 q0 q1 qz p0 p1 pz
  rw [HOF.out]
  go_upto_region 10 with (go_at_call 71;refine HOK.out.mono ?_;rintro e w8 ⟨rfl,rfl⟩)
  go_wp2_with (go_at_call 72;refine HD.out.mono ?_;rintro e w9 ⟨v9,rfl,ht9,hb9⟩;obtain ⟨at9,ct9,an9,cn9,rfl⟩:=ht9.at.slices;have G69:=(hb9.block w.heap.size (Array.getElem?_eq_some_iff.1 G67).1).trans G67;have G79:=(hb9.block (w.heap.size+1) (Array.getElem?_eq_some_iff.1 G77).1).trans G77;obtain ⟨q0,q1,qz⟩:=tree_cellsz G69;obtain ⟨p0,p1,pz⟩:=fault_cells G79)
  have T1:=ht9.set G69 (by decide) (by decide) (by decide) 0 (.slice at9 toks.length ct9)
  have G1:=heap_setCell_same w9 w.heap.size 0 _ _ (.slice at9 toks.length ct9) G69
  have T2:=T1.set G1 (by decide) (by decide) (by decide) 1 (.slice an9 st.nodes.length cn9)
  have F1:((w9.setCell ⟨w.heap.size,0,none⟩ (.slice at9 toks.length ct9)).setCell ⟨w.heap.size,1,none⟩ (.slice an9 st.nodes.length cn9)).heap[w.heap.size+1]?=some (.cells #[.int .i64 0,.int .i64 0] 44 (0,0)):=by
   rw [heap_setCell_other _ _ _ _ (by show w.heap.size+1≠w.heap.size;omega),heap_setCell_other _ _ _ _ (by show w.heap.size+1≠w.heap.size;omega)]
   exact G79
  have T3:=T2.set F1 (by decide) (by decide) (by decide) 0 (.int .i64 0)
  have F2:=heap_setCell_same _ (w.heap.size+1) 0 _ _ (.int .i64 0) F1
  have T4:=T3.set F2 (by decide) (by decide) (by decide) 1 (.int .i64 0)
  have hb9':=hb7.trans (hb9.mono hb7.size)
  refine bodyPost_ret (v:=.tuple #[.agg #[.slice at9 toks.length ct9,.slice an9 st.nodes.length cn9],.agg #[.int .i64 0,.int .i64 0]]) (by simp [results,Tryz.results35,go_sem,q0,q1,p0,p1]) rfl ?_
  rw [HOF.out]
  exact ⟨(((hb9'.setCell (by simp) _).setCell (by simp) _).setCell (by simp) _).setCell (by simp) _,at9,ct9,an9,cn9,rfl,T4⟩
 ·have hok:okB st=false:=by unfold okB;simp [hf]
  rw [hok] at HOK
  have HOF:Hid (ofSt toks st=.bad st.fE st.fAt):=Lib.hid (by rw [ofSt,if_neg hf])
  clear hok hf hbw7 hrec7 c1 c2 hkl hnl
  go_upto_region 9 with (go_at_call 71;refine HOK.out.mono ?_;rintro e w8 ⟨rfl,rfl⟩)
  go_region
  go_wp2
  refine bodyPost_ret (v:=.tuple #[.agg #[.slice none 0 0,.slice none 0 0],.agg #[.int .i64 st.fE,.int .i64 st.fAt]]) (by simp [results,Tryz.results35,go_sem,q0,q1,p0,p1]) rfl ?_
  rw [HOF.out]
  exact ⟨((((hb7.setCell (by simp) _).setCell (by simp) _).setCell (by simp) _).setCell (by simp) _).drew,rfl⟩
theorem read_any (s:ByteArray)(d:Nat)(w:World)(hd1:1≤d)(hd2:d≤200)(hs:s.size≤1099511627776) :
  Calls Tryz.prog 35 #[.string s,.int .i64 d,.func (.func 53) #[] #[]] w (FormOk (formF s.data.toList d) w):=by
 cases hl:lexAll s.data.toList with
 | error x =>
  have hf:=(lexAll_fault hl).2
  have e:formF s.data.toList d=.bad x.1 x.2:=by rw [formF,hl]
  rw [e]
  exact read_lexbad s d _ w hd1 hd2 hs x.1 x.2 hl (by omega)
 | ok toks =>
  have hL:=lexAll_laid hl
  have hlen:toks.length≤65537:=by
   have h1:=hL.count
   unfold lexAll at hl
   split at hl
   ·cases hl
   ·omega
  obtain ⟨a,ha,hu,hn⟩:=alone_total hL d
  have e:formF s.data.toList d=ofSt toks (nodeM 18 [a.1,(kindM toks 5 a.2).1] (kindM toks 5 a.2).2).2:=by
   rw [formF,hl]
   simp only
   unfold aloneM
   rw [ha,Option.bind_some]
  rw [e]
  refine read_parse s d w hd1 hd2 hs toks hl (by omega) a ha hn fun hf n hm=>?_
  obtain ⟨ce,he,_⟩:=alone_tree hL ha hf
  have g1:=nodeM_grows 18 [a.1,(kindM toks 5 a.2).1] (kindM toks 5 a.2).2
  have g2:=kindM_grows toks 5 a.2
  rw [he] at hm g1
  rw [PT.em_len] at g1
  have:=em_kids _ _ _ n hm
  omega
theorem formula_any (s:ByteArray)(d:Nat)(w:World)(hd1:1≤d)(hd2:d≤200)(hs:s.size≤1099511627776) :
  Calls Tryz.prog 24 #[.string s,.int .i64 d] w (FormOk (formF s.data.toList d) w):=by
 have HR:=Lib.hid (fun W=>read_any s d W hd1 hd2 hs)
 have hal:=(below_new w (.cells #[.slice none 0 0,.slice none 0 0] 25)).alloc (by simp) (.cells #[.int .i64 0,.int .i64 0] 44)
 have e1:=(Lib.alloc_old (w.alloc (.cells #[.slice none 0 0,.slice none 0 0] 25)) (.cells #[.int .i64 0,.int .i64 0] 44) w.heap.size (by simp)).trans (heap_alloc_new w (.cells #[.slice none 0 0,.slice none 0 0] 25))
 have e2:=heap_alloc_new (w.alloc (.cells #[.slice none 0 0,.slice none 0 0] 25)) (.cells #[.int .i64 0,.int .i64 0] 44)
 rw [World.size_alloc] at e2
 have HB:Hid (∀ w9,Below ((w.alloc (.cells #[.slice none 0 0,.slice none 0 0] 25)).alloc (.cells #[.int .i64 0,.int .i64 0] 44)).heap.size ((w.alloc (.cells #[.slice none 0 0,.slice none 0 0] 25)).alloc (.cells #[.int .i64 0,.int .i64 0] 44)) w9→Below w.heap.size w w9∧w9.heap[w.heap.size]?=some (.cells #[.slice none 0 0,.slice none 0 0] 25 (0,0))∧w9.heap[w.heap.size+1]?=some (.cells #[.int .i64 0,.int .i64 0] 44 (0,0))):=Lib.hid fun w9 hb=>⟨hal.trans (hb.mono (by simp;omega)),(hb.block w.heap.size (by simp;omega)).trans e1,(hb.block (w.heap.size+1) (by simp)).trans e2⟩
 clear hal e1 e2
 generalize formF s.data.toList d=r at HR ⊢
 go_enter Tryz.func24,Tryz.ntmps24
 cases r with
 | bad c a =>
  go_wp2_with (go_at_call 35;refine (HR.out _).mono ?_;rintro e w9 ⟨hb9,rfl⟩;obtain ⟨hb,G6,G7⟩:=HB.out w9 hb9;obtain ⟨q0,q1,qz⟩:=tree_cellsz G6;obtain ⟨p0,p1,pz⟩:=fault_cells G7)
  refine bodyPost_ret (v:=.tuple #[.agg #[.slice none 0 0,.slice none 0 0],.agg #[.int .i64 c,.int .i64 a]]) (by simp [results,Tryz.results24,go_sem,q0,q1,p0,p1]) rfl ?_
  exact ⟨(((hb.setCell (by simp) _).setCell (by simp) _).setCell (by simp) _).setCell (by simp) _,rfl⟩
 | good toks nodes =>
  go_wp2_with (go_at_call 35;refine (HR.out _).mono ?_;rintro e w9 ⟨hb9,at9,ct9,an9,cn9,rfl,ht9⟩;obtain ⟨hb,G69,G79⟩:=HB.out w9 hb9;obtain ⟨q0,q1,qz⟩:=tree_cellsz G69;obtain ⟨p0,p1,pz⟩:=fault_cells G79)
  have T1:=ht9.set G69 (by decide) (by decide) (by decide) 0 (.slice at9 toks.length ct9)
  have G1:=heap_setCell_same w9 w.heap.size 0 _ _ (.slice at9 toks.length ct9) G69
  have T2:=T1.set G1 (by decide) (by decide) (by decide) 1 (.slice an9 nodes.length cn9)
  have F1:((w9.setCell ⟨w.heap.size,0,none⟩ (.slice at9 toks.length ct9)).setCell ⟨w.heap.size,1,none⟩ (.slice an9 nodes.length cn9)).heap[w.heap.size+1]?=some (.cells #[.int .i64 0,.int .i64 0] 44 (0,0)):=by
   rw [heap_setCell_other _ _ _ _ (by show w.heap.size+1≠w.heap.size;omega),heap_setCell_other _ _ _ _ (by show w.heap.size+1≠w.heap.size;omega)]
   exact G79
  have T3:=T2.set F1 (by decide) (by decide) (by decide) 0 (.int .i64 0)
  have F2:=heap_setCell_same _ (w.heap.size+1) 0 _ _ (.int .i64 0) F1
  have T4:=T3.set F2 (by decide) (by decide) (by decide) 1 (.int .i64 0)
  refine bodyPost_ret (v:=.tuple #[.agg #[.slice at9 toks.length ct9,.slice an9 nodes.length cn9],.agg #[.int .i64 0,.int .i64 0]]) (by simp [results,Tryz.results24,go_sem,q0,q1,p0,p1]) rfl ?_
  exact ⟨(((hb.setCell (by simp) _).setCell (by simp) _).setCell (by simp) _).setCell (by simp) _,at9,ct9,an9,cn9,rfl,T4⟩
end Go.Proofs.YtdednahplodojaaGreatDoor

namespace Go.Proofs.YtdednahplodojaaGreatDoor
open Go.RowKit Go.Shelf
attribute [local go_sem] Oper.semAt_some
def backF (ks:List Int)(k:Nat):List (Int × Int):=(List.range k).map fun (j:Nat)=>((ks.length:Int) - 1 - (j:Int),ks[ks.length - 1 - j]?.getD 0)
theorem backF_succ (ks:List Int)(k:Nat):backF ks (k+1)=backF ks k++[((ks.length:Int) - 1 - (k:Int),ks[ks.length - 1 - k]?.getD 0)]:=by simp [backF,List.range_succ]
theorem backF_len (ks:List Int)(k:Nat):(backF ks k).length=k:=by simp [backF]
theorem backF_snd (ks:List Int)(k:Nat)(hk:k≤ks.length):(backF ks k).map Prod.snd=ks.reverse.take k:=by
 apply List.ext_getElem
 ·simp [backF,hk]
 ·intro i h1 h2
  simp only [List.length_map,backF_len] at h1
  simp [backF,show ks.length - 1 - i<ks.length by omega]
def BackKp (n₀ Bs:Nat)(W W':World):Prop:=Below n₀ W W'∧W'.cell? ⟨Bs,0,none⟩=W.cell? ⟨Bs,0,none⟩
theorem BackKp.refl (n₀ Bs:Nat)(W:World):BackKp n₀ Bs W W:=⟨Below.refl _ _,rfl⟩
theorem BackKp.trans {n₀ Bs:Nat}{A B C:World}(h:BackKp n₀ Bs A B)(k:BackKp n₀ Bs B C):BackKp n₀ Bs A C:=⟨h.1.trans k.1,k.2.trans h.2⟩
theorem back1_in (F:Fence)(n:Nat)(h8:F.fn 188)(hro:F.round=none)(hn:1≤n)(l Bs n₀ b off cap:Nat)(ks:List Int)(hreach:ks.length≤1099511627776)(hb:b<n₀)(J Jx:List (Int × Int)→World→Prop)
  (hY:∀ pre x W,J pre W→pre.length<ks.length→YieldAt F (n - 1) Tryz.prog l #[.int .i64 x.1,.int .i64 x.2] W fun e W' =>
   (e=.returned (.bool true)∧J (pre++[x]) W'∧BackKp n₀ Bs W W')∨(e=.returned (.bool false)∧Jx (pre++[x]) W'))
  (W:World) (hBs:W.cell? ⟨Bs,0,none⟩=some (.slice (some ⟨b,off,none⟩) ks.length cap)) (hc:∀ j,j<ks.length→W.cell? ⟨b,off+j,none⟩=some (.int .i64 (ks[j]?.getD 0))) (h0:J [] W) :
  CallsIn F n Tryz.prog 188 #[.func (.yield l) #[] #[],.pointer (some ⟨Bs,0,none⟩)] W fun e W'=>(∃ v,e=.returned v) ∧
   ((∃ ys,ys=backF ks ks.length∧J ys W')∨(∃ pre,(∃ k,k≤ks.length∧pre=backF ks k)∧Jx pre W')):=by
 refine callsIn_of_wp Tryz.func188 rfl h8 ?_ hro
 simp only [Tryz.ntmps188,List.size_toArray,List.length_cons,List.length_nil,Nat.reduceAdd,Nat.reduceSub,Array.replicate_succ,Array.replicate_zero,List.push_toArray,List.append_toArray,List.nil_append,List.cons_append]
 gi_wp2
 gi_loopw [3] (fun i wr=>∃ k:Nat,k≤ks.length∧i=.int .i64 ((ks.length:Int) - 1 - (k:Int))∧J (backF ks k) wr∧BackKp n₀ Bs W wr)
  (fun i _=>(intOf i+1).toNat)
 case atStart=>exact ⟨0,Nat.zero_le _,by simp,h0,BackKp.refl _ _ _⟩
 case round =>
  obtain ⟨k,hk,rfl,hJs,hnx⟩:=hrel
  have hBs':=hnx.2.trans hBs
  by_cases hlt:k<ks.length
  ·obtain ⟨m,hm⟩:∃ m:Nat,ks.length=m+k+1:=⟨ks.length - 1 - k,by omega⟩
   have e1:(ks.length:Int) - 1 - (k:Int)=(m:Int):=by omega
   have e2:ks.length - 1 - k=m:=by omega
   have hsucc:=backF_succ ks k
   rw [e1,e2] at hsucc
   rw [e1]
   have hcx:=(hnx.1.cell (p:=⟨b,off+m,none⟩) hb).trans (hc m (by omega))
   obtain ⟨fn,tmps,assign,body,hy,hR⟩:=hY _ ((m:Int),ks[m]?.getD 0) wr hJs (by rw [backF_len];exact hlt)
   dsimp only at hy
   have hmI:(m:Int)<(ks.length:Int):=by omega
   have hm0:(0:Int)≤(m:Int):=by omega
   have HS:=Lib.hid hsucc
   have HM:=Lib.hid hm
   clear hsucc e1 e2 hm hc
   gi_wp2
   refine hR.mono ?_
   rintro e W3 (⟨rfl,hJ3,hk3⟩|⟨rfl,hJx3⟩)
   ·gi_wp2
    go_roundw
    case rel=>exact ⟨k+1,by omega,congrArg (Value.int .i64) (by have:=HM.out;omega),by rw [HS.out];exact hJ3,hnx.trans hk3⟩
    case measure=>simp only [intOf];omega
   ·gi_wp2
    refine bodyPost_ret (results_none rfl _ _ _) rfl ?_
    exact ⟨⟨_,rfl⟩,.inr ⟨_,⟨k+1,by omega,HS.out.symm⟩,hJx3⟩⟩
  ·obtain rfl:k=ks.length:=by omega
   have e1:(ks.length:Int) - 1 - (ks.length:Int)=-1:=by omega
   rw [e1]
   clear e1 hlt
   gi_wp2
   go_end0
   exact ⟨⟨_,rfl⟩,.inl ⟨_,rfl,hJs⟩⟩
theorem back1_nil_in (F:Fence)(n:Nat)(h8:F.fn 188)(hro:F.round=none)(l Bs:Nat)(ao:Option Addr)(cap:Nat)(J:List (Int × Int)→World→Prop)(W:World)(hBs:W.cell? ⟨Bs,0,none⟩=some (.slice ao 0 cap))(h0:J [] W) :
  CallsIn F n Tryz.prog 188 #[.func (.yield l) #[] #[],.pointer (some ⟨Bs,0,none⟩)] W fun e W'=>(∃ v,e=.returned v)∧J [] W':=by
 refine callsIn_of_wp Tryz.func188 rfl h8 ?_ hro
 simp only [Tryz.ntmps188,List.size_toArray,List.length_cons,List.length_nil,Nat.reduceAdd,Nat.reduceSub,Array.replicate_succ,Array.replicate_zero,List.push_toArray,List.append_toArray,List.nil_append,List.cons_append]
 gi_wp2
 gi_loopw [3] (fun i wr=>i=.int .i64 (-1)∧J [] wr) (fun _ _=>0)
 case atStart=>exact ⟨rfl,h0⟩
 case round =>
  obtain ⟨rfl,hJs⟩:=hrel
  gi_wp2
  go_end0
  exact ⟨⟨_,rfl⟩,hJs⟩
theorem back_in (F:Fence)(n:Nat)(h6:F.fn 164)(hro:F.round=none)(a:Option Addr)(len cap:Nat)(w:World) :
  CallsIn F n Tryz.prog 164 #[.slice a len cap] w fun e w'=>e=.returned (.func (.func 188) #[] #[.pointer (some ⟨w.heap.size,0,none⟩)])∧w'=w.alloc (.cells #[.slice a len cap] 80):=by
 refine callsIn_of_wp Tryz.func164 rfl h6 ?_ hro
 simp only [Tryz.ntmps164,List.size_toArray,List.length_cons,List.length_nil,Nat.reduceAdd,Nat.reduceSub,Array.replicate_succ,Array.replicate_zero,List.push_toArray,List.append_toArray,List.nil_append,List.cons_append]
 gi_wp2
 go_ret
 exact ⟨rfl,rfl⟩
theorem back_stops (F:Fence)(n:Nat)(h8:F.fn 188)(hro:F.round=none)(hn:1≤n)(Bs n₀:Nat)(sv:Value)(ks:List Int)(hreach:ks.length≤1099511627776)(w:World)(hBs:Bs<w.heap.size)(hn₀:n₀≤w.heap.size)
  (hc:w.cell? ⟨Bs,0,none⟩=some sv) (hI:Ints n₀ w sv ks) :
  SeqStopsK F n Tryz.prog 188 #[.pointer (some ⟨Bs,0,none⟩)] (fun x:Int × Int=>#[Value.int .i64 x.1,Value.int .i64 x.2]) (BackKp n₀ Bs) (fun ys=>ys=backF ks ks.length)
   (fun pre=>∃ k,k≤ks.length∧pre=backF ks k) ks.length w:=fun l J Jx W hW _ _ hY h0=>by
 have hc':=(hW.cell (p:=⟨Bs,0,none⟩) hBs).trans hc
 obtain ⟨ao,cap,rfl,hcap,hf⟩:=(hI.below (hW.mono hn₀)).form
 by_cases h:0<ks.length
 ·obtain ⟨b,off,rfl,hb,hcs⟩:=hf h
  exact back1_in F n h8 hro hn l Bs n₀ b off cap ks hreach hb J Jx hY W hc' (fun j hj=>by rw [hcs j hj];simp [hj]) h0
 ·obtain rfl:ks=[]:=List.length_eq_zero_iff.1 (by omega)
  exact (back1_nil_in F n h8 hro l Bs ao cap J W hc' h0).mono fun e W' ⟨he,hj⟩=>⟨he,.inl ⟨_,rfl,hj⟩⟩
end Go.Proofs.YtdednahplodojaaGreatDoor
