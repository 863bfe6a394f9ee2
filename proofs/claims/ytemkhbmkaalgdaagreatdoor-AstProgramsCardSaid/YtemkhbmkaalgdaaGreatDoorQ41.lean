/- Walks and plain laws: MTreeW, PrgLaw. -/
import Derived.Test.YtemkhbmkaalgdaaGreatDoorQ35
import Derived.Test.YtemkhbmkaalgdaaGreatDoorQ36
import Derived.Test.YtemkhbmkaalgdaaGreatDoorQ40
set_option maxHeartbeats 16000000
set_option maxRecDepth 100000
set_option linter.unusedVariables false
set_option linter.unusedSimpArgs false
namespace Go.Proofs.YtemkhbmkaalgdaaGreatDoor
open Go.RowKit Go
theorem Tryz.infoRTok:(Tryz.prog.info? 105).map (fun i=>(i.zero,i.size,i.bytes))=some (some (.agg #[.int .i64 0,.string ByteArray.empty,.string ByteArray.empty,.int .i64 0]),4,48):=by kernel_rfl
theorem Tryz.infoRNode:(Tryz.prog.info? 104).map (fun i=>(i.zero,i.size,i.bytes))=some (some (.agg #[.int .i64 0,.int .i64 0,.slice none 0 0]),3,40):=by kernel_rfl
def MT (w:World)(tv nv v1 v2:Value)(W:World):Prop :=
 W.heap[w.heap.size]?=some (.cells #[tv,nv] 25 (0,0))∧W.heap[w.heap.size+1]?=some (.cells #[.slice none 0 0,.slice none 0 0] 67 (0,0))∧W.heap[w.heap.size+1+1]?=some (.cells #[v1,v2] 67 (0,0))∧Below w.heap.size w W
theorem MT.lt {w W:World}{tv nv v1 v2:Value}(h:MT w tv nv v1 v2 W):w.heap.size+1+1<W.heap.size:=(Array.getElem?_eq_some_iff.1 h.2.2.1).1
theorem MT.alloc {w W:World}{tv nv v1 v2:Value}(h:MT w tv nv v1 v2 W)(o:Obj):MT w tv nv v1 v2 (W.alloc o):=by
 have hl:=h.lt
 exact ⟨(Lib.alloc_old _ _ _ (by omega)).trans h.1,(Lib.alloc_old _ _ _ (by omega)).trans h.2.1,(Lib.alloc_old _ _ _ hl).trans h.2.2.1,h.2.2.2.alloc h.2.2.2.size _⟩
theorem MT.grown {w W W':World}{tv nv v1 v2:Value}{row:Option Nat}(h:MT w tv nv v1 v2 W)(hg:W.grownBy W' row)(hr:∀ q,row=some q→w.heap.size+1+1+1≤q):MT w tv nv v1 v2 W':=by
 have hl:=h.lt
 have hb:∀ k,k≤w.heap.size+1+1→W'.heap[k]?=W.heap[k]?:=fun k hk=>hg.block k (by omega) (fun q=>by have:=hr k q.symm;omega)
 exact ⟨(hb _ (by omega)).trans h.1,(hb _ (by omega)).trans h.2.1,(hb _ (by omega)).trans h.2.2.1,h.2.2.2.grown hg h.2.2.2.size (fun q hq=>by have:=hr q hq;omega)⟩
theorem MT.set0 {w W:World}{tv nv v1 v2:Value}(h:MT w tv nv v1 v2 W)(u:Value):MT w tv nv u v2 (W.setCell ⟨w.heap.size+1+1,0,none⟩ u) :=
 ⟨(heap_setCell_other _ _ _ _ (by show _≠w.heap.size+1+1;omega)).trans h.1,(heap_setCell_other _ _ _ _ (by show _≠w.heap.size+1+1;omega)).trans h.2.1,heap_setCell_same _ _ _ _ _ _ h.2.2.1,h.2.2.2.setCell (by show w.heap.size≤w.heap.size+1+1;omega) _⟩
theorem MT.set1 {w W:World}{tv nv v1 v2:Value}(h:MT w tv nv v1 v2 W)(u:Value):MT w tv nv v1 u (W.setCell ⟨w.heap.size+1+1,1,none⟩ u) :=
 ⟨(heap_setCell_other _ _ _ _ (by show _≠w.heap.size+1+1;omega)).trans h.1,(heap_setCell_other _ _ _ _ (by show _≠w.heap.size+1+1;omega)).trans h.2.1,heap_setCell_same _ _ _ _ _ _ h.2.2.1,h.2.2.2.setCell (by show w.heap.size≤w.heap.size+1+1;omega) _⟩
theorem MT.cells {w W:World}{tv nv v1 v2:Value}(h:MT w tv nv v1 v2 W):W.cell? ⟨w.heap.size,0,none⟩=some tv∧W.cell? ⟨w.heap.size,1,none⟩=some nv∧W.cell? ⟨w.heap.size+1+1,0,none⟩=some v1∧W.cell? ⟨w.heap.size+1+1,1,none⟩=some v2∧∀ j,W.frozen? ⟨w.heap.size+1+1,j,none⟩=false:=by
 refine ⟨?_,?_,?_,?_,fun j=>by simp [World.frozen?,h.2.2.1]⟩
 ·rw [Lib.cell_of_heap h.1];rfl
 ·rw [Lib.cell_of_heap h.1];rfl
 ·rw [Lib.cell_of_heap h.2.2.1];rfl
 ·rw [Lib.cell_of_heap h.2.2.1];rfl
theorem own_type {w:World}{B e sz n q:Nat}{v:Value}{xs:List Value}(h:w.ownsRow B e sz v n xs)(hq:v.ownBlock=some q):∃ cs,w.heap[q]?=some (.cells cs e (0,0)):=by
 rcases h.2 with ⟨rfl,_⟩|⟨g,cap,cur,rfl,_,hgg,_⟩
 ·simp [Value.ownBlock] at hq
 ·simp only [Value.ownBlock,Option.some.injEq] at hq
  subst hq
  exact ⟨_,hgg⟩
def MTPost (toks:List Tok)(nodes:List Nd)(w:World)(e:Ending)(w':World):Prop :=
 ∃ at_ ct an cn,e=.returned (.agg #[.slice at_ toks.length ct,.slice an nodes.length cn])∧TreeAt w'.heap.size w' (.agg #[.slice at_ toks.length ct,.slice an nodes.length cn]) toks nodes∧Below w.heap.size w w'
theorem flat_snoc {α:Type}(f:α→List Value){l:List α}{k:Nat}(h:k<l.length):(l.take (k+1)).flatMap f=(l.take k).flatMap f++f l[k]:=by
 rw [List.take_succ_eq_append_getElem h,List.flatMap_append]
 simp
theorem mtree_any (B:Nat)(tv nv:Value)(toks:List Tok)(nodes:List Nd)(w:World)(h:TreeAt B w (.agg #[tv,nv]) toks nodes)(hB:B≤w.heap.size)(hlt:toks.length≤1000000)(hln:nodes.length≤1000000) :
  Calls Tryz.prog 17 #[.agg #[tv,nv]] w (MTPost toks nodes w):=by
 obtain ⟨i0,hi,hz0,hz1,hz2⟩:=info_parts Tryz.infoRTok
 obtain ⟨i1,hj,hy0,hy1,hy2⟩:=info_parts Tryz.infoRNode
 obtain ⟨_,_,l,e,hT,hl,hN,hK⟩:=h
 obtain ⟨rfl,rfl⟩:tv=_∧nv=_:=by simpa using e
 subst hl
 rw [List.length_map] at hln
 obtain ⟨a1,c1,rfl,_,hT⟩:=hT.form (fun _=>rfl)
 obtain ⟨a2,c2,rfl,_,hN⟩:=hN.form (fun _=>rfl)
 have HT:=Lib.hid hT
 have HN:=Lib.hid hN
 have HK:=Lib.hid hK
 have H0:Hid (MT w (.slice a1 toks.length c1) (.slice a2 l.length c2) (.slice none 0 0) (.slice none 0 0) (((w.alloc (.cells #[.slice a1 toks.length c1,.slice a2 l.length c2] 25)).alloc (.cells #[.slice none 0 0,.slice none 0 0] 67)).alloc (.cells #[.slice none 0 0,.slice none 0 0] 67))):=Lib.hid (by
  have g0:=heap_alloc_new w (.cells #[.slice a1 toks.length c1,.slice a2 l.length c2] 25)
  have g1:=heap_alloc_new (w.alloc (.cells #[.slice a1 toks.length c1,.slice a2 l.length c2] 25)) (.cells #[.slice none 0 0,.slice none 0 0] 67)
  have g2:=heap_alloc_new ((w.alloc (.cells #[.slice a1 toks.length c1,.slice a2 l.length c2] 25)).alloc (.cells #[.slice none 0 0,.slice none 0 0] 67)) (.cells #[.slice none 0 0,.slice none 0 0] 67)
  rw [World.size_alloc] at g1
  rw [World.size_alloc,World.size_alloc] at g2
  exact ⟨(Lib.alloc_old _ _ _ (by simp;omega)).trans ((Lib.alloc_old _ _ _ (by simp)).trans g0),(Lib.alloc_old _ _ _ (by simp)).trans g1,g2,(((Below.refl _ w).alloc (Nat.le_refl _) _).alloc (by simp) _).alloc (by simp;omega) _⟩)
 obtain ⟨r0,r1,o0,o1,oz⟩:=H0.out.cells
 have hl0:=H0.out.lt
 clear hT hN hK e
 go_enter Tryz.func17,Tryz.ntmps17
 go_upto_region 3 with fail
 clear r0 r1 o0 o1 oz
 generalize ((w.alloc _).alloc _).alloc _=w0 at H0 hl0 ⊢
 have HM:Hid (∃ v,MT w (.slice a1 toks.length c1) (.slice a2 l.length c2) v (.slice none 0 0) w0∧w0.ownsRow (w.heap.size+1+1+1) 105 4 v 0 ((toks.take 0).flatMap tokCells)):=Lib.hid ⟨_,H0.out,World.ownsRow_nil _ _ _ _⟩
 clear H0
 go_loopw [11] (fun q wr=>∃ (k:Nat) (v:Value),k≤toks.length∧q=.int .i64 k∧MT w (.slice a1 toks.length c1) (.slice a2 l.length c2) v (.slice none 0 0) wr∧wr.ownsRow (w.heap.size+1+1+1) 105 4 v k ((toks.take k).flatMap tokCells)) (fun q _=>toks.length - (intOf q).toNat)
 case atStart =>
  obtain ⟨v,h1,h2⟩:=HM.out
  exact ⟨0,v,Nat.zero_le _,rfl,h1,h2⟩
 case round =>
  obtain ⟨k,v,hk,rfl,hm,hown⟩:=hrel
  have hbl:=hm.2.2.2
  have hlt3:=hm.lt
  by_cases hkl:k<toks.length
  ·obtain ⟨b,off,rfl,hbB,hcell⟩:=HT.out (by omega)
   have hc0:=(hbl.cell (p:=⟨b,off+k * 4,none⟩) (by show b<w.heap.size;omega)).trans (hcell k 0 _ hkl rfl)
   have hc1:=(hbl.cell (p:=⟨b,off+k * 4+1,none⟩) (by show b<w.heap.size;omega)).trans (hcell k 1 _ hkl rfl)
   have hc2:=(hbl.cell (p:=⟨b,off+k * 4+2,none⟩) (by show b<w.heap.size;omega)).trans (hcell k 2 _ hkl rfl)
   have hc3:=(hbl.cell (p:=⟨b,off+k * 4+3,none⟩) (by show b<w.heap.size;omega)).trans (hcell k 3 _ hkl rfl)
   have HSN:=Lib.hid (flat_snoc tokCells hkl)
   generalize toks[k]=t at hc0 hc1 hc2 hc3 HSN
   have hkI:(k:Int)<(toks.length:Int):=by omega
   obtain ⟨-,-,o0,-,oz⟩:=hm.cells
   have HMT:=Lib.hid hm
   obtain ⟨va,vc,rfl⟩:∃ va vc,v=.slice va k vc:=by
    rcases hown.2 with ⟨hv,hn0⟩|⟨g,cap,cur,hv,_⟩
    ·exact ⟨none,0,by rw [hv,hn0]⟩
    ·exact ⟨_,cap,hv⟩
   clear hcell hm
   go_wp2_with (at_builtin;refine wpList_append_lies _ rfl _ _ 64 rfl (w.heap.size+1+1+1) 105 i0 (.agg #[.int .i64 0,.string ByteArray.empty,.string ByteArray.empty,.int .i64 0]) 4 48 Tryz.underlying64 hi hz0 hz1 hz2 rfl (by decide) _ k _ rfl ((hown.alloc _).alloc _) ⟨wr.heap.size+1,0,none⟩ 1 1 [.int .i64 t.kind,.string ⟨t.lead.toArray⟩,.string ⟨t.text.toArray⟩,.int .i64 t.place] rfl rfl ?c1 ?c2 ?c3 ?c4 ?c5 ?c6 _ rfl ?_)
   case c1 =>
    intro j' u hj'
    have hq:=heap_alloc_new (wr.alloc (.cells #[.int .i64 t.kind,.string ⟨t.lead.toArray⟩,.string ⟨t.text.toArray⟩,.int .i64 t.place] 83)) (.cells #[.int .i64 t.kind,.string ⟨t.lead.toArray⟩,.string ⟨t.text.toArray⟩,.int .i64 t.place] 105)
    rw [World.size_alloc] at hq
    exact World.news_of_block hq j' u (by simpa using hj')
   case c2=>intro u hu;simp at hu;rcases hu with rfl|rfl|rfl|rfl <;> rfl
   case c3=>omega
   case c4=>unfold maxLen;omega
   case c5=>omega
   case c6=>simp;omega
   intro g cap w3 hown3 hgrow3 hat3 hlt3
   have hm3:=((HMT.out.alloc _).alloc _).grown hgrow3 (fun q hq=>(hown.lt q hq).1)
   obtain ⟨-,-,o3,-,oz3⟩:=hm3.cells
   have hmS:=hm3.set0 (.slice (some ⟨g,0,none⟩) (k+1) cap)
   have hrS:(w3.setCell ⟨w.heap.size+1+1,0,none⟩ (.slice (some ⟨g,0,none⟩) (k+1) cap)).ownsRow (w.heap.size+1+1+1) 105 4 (.slice (some ⟨g,0,none⟩) (k+1) cap) (k+1) ((toks.take (k+1)).flatMap tokCells):=by
    rw [HSN.out]
    exact own_set hown3 (fun q=>by have:=(hown3.lt _ q.symm).1;simp at this;omega) _
   have HNX:=Lib.hid (And.intro hmS hrS)
   clear hgrow3 hown3 hat3 hlt3 hown hm3 hc0 hc1 hc2 hc3 o0 oz hmS hrS hbl
   go_wp2
   exact ⟨⟨k+1,_,by omega,by go_num,HNX.out.1,HNX.out.2⟩,by simp [intOf];omega⟩
  ·obtain rfl:k=toks.length:=by omega
   have hkI:decide ((toks.length:Int)<(toks.length:Int))=false:=decide_eq_false (by omega)
   rw [List.take_length] at hown
   obtain ⟨r0,r1,-,-,-⟩:=hm.cells
   have HM2:Hid (∃ v2,MT w (.slice a1 toks.length c1) (.slice a2 l.length c2) v v2 wr∧wr.ownsRow (w.heap.size+1+1+1) 105 4 v toks.length (toks.flatMap tokCells)∧wr.ownsRow (w.heap.size+1+1+1) 104 3 v2 0 ((l.take 0).flatMap nodeCells)):=Lib.hid ⟨_,hm,hown,World.ownsRow_nil _ _ _ _⟩
   clear hm hown hlt3 hbl
   obtain ⟨u,rfl⟩:∃ u:Value,u=v:=⟨_,rfl⟩
   go_wp2_with fail
   go_loopw [25] (fun q wr=>∃ (k:Nat) (v2:Value),k≤l.length∧q=.int .i64 k∧MT w (.slice a1 toks.length c1) (.slice a2 l.length c2) u v2 wr∧wr.ownsRow (w.heap.size+1+1+1) 105 4 u toks.length (toks.flatMap tokCells)∧wr.ownsRow (w.heap.size+1+1+1) 104 3 v2 k ((l.take k).flatMap nodeCells)) (fun q _=>l.length - (intOf q).toNat)
   case atStart =>
    obtain ⟨v2,h1,h2⟩:=HM2.out
    exact ⟨0,v2,Nat.zero_le _,rfl,h1,h2⟩
   case round =>
    obtain ⟨k,v,hk,rfl,hm,htow,hown⟩:=hrel
    have hbl:=hm.2.2.2
    have hlt3:=hm.lt
    by_cases hkl:k<l.length
    ·obtain ⟨b,off,rfl,hbB,hcell⟩:=HN.out (by omega)
     have hc0:=(hbl.cell (p:=⟨b,off+k * 3,none⟩) (by show b<w.heap.size;omega)).trans (hcell k 0 _ hkl rfl)
     have hc1:=(hbl.cell (p:=⟨b,off+k * 3+1,none⟩) (by show b<w.heap.size;omega)).trans (hcell k 1 _ hkl rfl)
     have hc2:=(hbl.cell (p:=⟨b,off+k * 3+2,none⟩) (by show b<w.heap.size;omega)).trans (hcell k 2 _ hkl rfl)
     have HSN:=Lib.hid (flat_snoc nodeCells hkl)
     obtain ⟨ak,ck,hkv,-,-⟩:=(HK.out _ (List.getElem_mem hkl)).form
     generalize l[k]=nd at hc0 hc1 hc2 HSN hkv
     obtain ⟨nd,kv⟩:=nd
     simp only at hkv hc0 hc1 hc2
     subst hkv
     have hkI:(k:Int)<(l.length:Int):=by omega
     obtain ⟨-,-,-,o0,oz⟩:=hm.cells
     have HMT:=Lib.hid hm
     have HTW:=Lib.hid htow
     obtain ⟨va,vc,rfl⟩:∃ va vc,v=.slice va k vc:=by
      rcases hown.2 with ⟨hv,hn0⟩|⟨g,cap,cur,hv,_⟩
      ·exact ⟨none,0,by rw [hv,hn0]⟩
      ·exact ⟨_,cap,hv⟩
     clear hcell hm htow
     generalize hnl:nd.kids.length=nl at hc2
     have HNL:=Lib.hid hnl
     clear hnl
     go_wp2_with (at_builtin;refine wpList_append_lies _ rfl _ _ 65 rfl (w.heap.size+1+1+1) 104 i1 (.agg #[.int .i64 0,.int .i64 0,.slice none 0 0]) 3 40 Tryz.underlying65 hj hy0 hy1 hy2 rfl (by decide) _ k _ rfl ((hown.alloc _).alloc _) ⟨wr.heap.size+1,0,none⟩ 1 1 [.int .i64 nd.kind,.int .i64 nd.tok,.slice ak nl ck] rfl rfl ?e1 ?e2 ?e3 ?e4 ?e5 ?e6 _ rfl ?_)
     case e1 =>
      intro j' u hj'
      have hq:=heap_alloc_new (wr.alloc (.cells #[.int .i64 nd.kind,.int .i64 nd.tok,.slice ak nl ck] 85)) (.cells #[.int .i64 nd.kind,.int .i64 nd.tok,.slice ak nl ck] 104)
      rw [World.size_alloc] at hq
      exact World.news_of_block hq j' u (by simpa using hj')
     case e2=>intro u hu;simp at hu;rcases hu with rfl|rfl|rfl <;> rfl
     case e3=>omega
     case e4=>unfold maxLen;omega
     case e5=>omega
     case e6=>simp;omega
     intro g cap w3 hown3 hgrow3 hat3 hlt3
     have hm3:=((HMT.out.alloc _).alloc _).grown hgrow3 (fun q hq=>(hown.lt q hq).1)
     obtain ⟨-,-,-,o3,oz3⟩:=hm3.cells
     have hmS:=hm3.set1 (.slice (some ⟨g,0,none⟩) (k+1) cap)
     have htS:(w3.setCell ⟨w.heap.size+1+1,1,none⟩ (.slice (some ⟨g,0,none⟩) (k+1) cap)).ownsRow (w.heap.size+1+1+1) 105 4 u toks.length (toks.flatMap tokCells):=by
      have ht3:w3.ownsRow (w.heap.size+1+1+1) 105 4 u toks.length (toks.flatMap tokCells):=own_keep ((HTW.out.alloc _).alloc _) (fun q hq=>by
       obtain ⟨cs,hcs⟩:=own_type ((HTW.out.alloc (.cells #[.int .i64 nd.kind,.int .i64 nd.tok,.slice ak nl ck] 85)).alloc (.cells #[.int .i64 nd.kind,.int .i64 nd.tok,.slice ak nl ck] 104)) hq
       exact (own_block ((hown.alloc _).alloc _) hgrow3 hcs (by decide)).trans hcs.symm)
      exact own_set ht3 (fun q=>by have:=(ht3.lt _ q.symm).1;simp at this;omega) _
     have hrS:(w3.setCell ⟨w.heap.size+1+1,1,none⟩ (.slice (some ⟨g,0,none⟩) (k+1) cap)).ownsRow (w.heap.size+1+1+1) 104 3 (.slice (some ⟨g,0,none⟩) (k+1) cap) (k+1) ((l.take (k+1)).flatMap nodeCells):=by
      rw [HSN.out]
      refine own_set ?_ (fun q=>by have:=(hown3.lt _ q.symm).1;simp at this;omega) _
      show w3.ownsRow _ _ _ _ _ (_++[.int .i64 nd.kind,.int .i64 nd.tok,.slice ak nd.kids.length ck])
      rw [HNL.out]
      exact hown3
     have HNX:=Lib.hid (And.intro hmS (And.intro htS hrS))
     clear hgrow3 hown3 hat3 hlt3 hown hm3 hc0 hc1 hc2 o0 oz hmS hrS hbl htS
     go_wp2
     exact ⟨⟨k+1,_,by omega,by go_num,HNX.out⟩,by simp [intOf];omega⟩
    ·obtain rfl:k=l.length:=by omega
     have hkI:decide ((l.length:Int)<(l.length:Int))=false:=decide_eq_false (by omega)
     rw [List.take_length] at hown
     obtain ⟨-,-,o0,o1,-⟩:=hm.cells
     have p0:wr.cell? ⟨w.heap.size+1,0,none⟩=some (.slice none 0 0):=by rw [Lib.cell_of_heap hm.2.1];rfl
     have p1:wr.cell? ⟨w.heap.size+1,1,none⟩=some (.slice none 0 0):=by rw [Lib.cell_of_heap hm.2.1];rfl
     have pz:∀ j,wr.frozen? ⟨w.heap.size+1,j,none⟩=false:=by intro j;simp [World.frozen?,hm.2.1]
     obtain ⟨ta,tc,rfl,-⟩:=Sl.ofOwns htow
     obtain ⟨na,nc,rfl,-⟩:=Sl.ofOwns hown
     have HZ:=Lib.hid (And.intro htow (And.intro hown hbl))
     clear hm htow hown hbl
     go_wp2
     have hbZ:Below w.heap.size w ((wr.setCell ⟨w.heap.size+1,0,none⟩ (.slice ta toks.length tc)).setCell ⟨w.heap.size+1,1,none⟩ (.slice na l.length nc)):=(HZ.out.2.2.setCell (by simp) _).setCell (by simp) _
     refine bodyPost_ret (v:=.agg #[.slice ta toks.length tc,.slice na l.length nc]) (by simp [results,Tryz.results17,go_sem,p0,p1]) rfl ⟨ta,tc,na,nc,by rw [List.length_map],?_,hbZ⟩
     rw [List.length_map]
     have ht2:=own_set (own_set HZ.out.1 (fun q=>by have:=(HZ.out.1.lt _ q.symm).1;simp at this;omega) (a:=⟨w.heap.size+1,0,none⟩) (.slice ta toks.length tc)) (fun q=>by have:=(HZ.out.1.lt _ q.symm).1;simp at this;omega) (a:=⟨w.heap.size+1,1,none⟩) (.slice na l.length nc)
     have hn2:=own_set (own_set HZ.out.2.1 (fun q=>by have:=(HZ.out.2.1.lt _ q.symm).1;simp at this;omega) (a:=⟨w.heap.size+1,0,none⟩) (.slice ta toks.length tc)) (fun q=>by have:=(HZ.out.2.1.lt _ q.symm).1;simp at this;omega) (a:=⟨w.heap.size+1,1,none⟩) (.slice na l.length nc)
     exact ⟨_,_,l,rfl,Sl.ofOwns ht2,rfl,Sl.ofOwns hn2,fun p hp=>((HK.out p hp).below (hbZ.mono hB)).mono (Nat.le_trans hB hbZ.size)⟩
mutual
theorem PE.fits_opsP {M:Nat}:∀ {e:PE},e.fits M→e.opsOk
 | .mk _ _ _ _ _ _ kids _,h=>by
  rw [PE.fits] at h
  rw [PE.opsOk]
  exact ⟨h.1,fitsE_opsP h.2.2.2.2.2.2⟩
theorem fitsE_opsP {M:Nat}:∀ {l:List PE},fitsE M l→opsOkE l
 | [],_=>by rw [opsOkE];trivial
 | e :: l,h=>by
  rw [fitsE] at h
  rw [opsOkE]
  exact ⟨PE.fits_opsP h.1,fitsE_opsP h.2⟩
end
def RowV (w0:World)(l:List Int)(w:World)(e:Ending)(w':World):Prop :=
 ∃ ao cap,e=.returned (.slice ao l.length cap)∧Ints w'.heap.size w' (.slice ao l.length cap) l∧Below w0.heap.size w0 w'∧Below w.heap.size w w'
theorem RowPost.v {w0 w w':World}{l:List Int}{e:Ending}(h:RowPost l w e w')(h0:Below w0.heap.size w0 w):RowV w0 l w e w':=by
 obtain ⟨g,cap,h1,h2,h3⟩:=h
 exact ⟨_,cap,h1,Sl.ofOwns h2,h0.trans (h3.mono h0.size),h3⟩
theorem BarePost.v {w0 w w':World}{l:List Int}{e:Ending}(h:BarePost l w e w')(h0:Below w0.heap.size w0 w):RowV w0 l w e w':=by
 obtain ⟨v,h1,h2,h3⟩:=h
 obtain ⟨ao,cap,rfl⟩:=own_slice h2
 exact ⟨ao,cap,h1,Sl.ofOwns h2,h0.trans (h3.mono h0.size),h3⟩
theorem of_no (w:World) :
  Calls Tryz.prog 8 #[.agg #[.slice none 0 0,.slice none 0 0]] w fun e w'=>e=.returned (.tuple #[.agg #[.slice none 0 0,.slice none 0 0],.int .i64 10])∧Below w.heap.size w w':=by
 have HA:=Lib.hid (fun W=>asP_no W)
 have hal:=(below_new w (.cells #[.slice none 0 0,.slice none 0 0] 25)).alloc (by simp) (.cells #[.slice none 0 0,.slice none 0 0] 31)
 have e1:=(Lib.alloc_old (w.alloc (.cells #[.slice none 0 0,.slice none 0 0] 25)) (.cells #[.slice none 0 0,.slice none 0 0] 31) w.heap.size (by simp)).trans (heap_alloc_new w (.cells #[.slice none 0 0,.slice none 0 0] 25))
 have e2:=heap_alloc_new (w.alloc (.cells #[.slice none 0 0,.slice none 0 0] 25)) (.cells #[.slice none 0 0,.slice none 0 0] 31)
 rw [World.size_alloc] at e2
 obtain ⟨c0,c1⟩:=tree_cells e1
 go_enter Tryz.func8,Tryz.ntmps8
 go_upto_region 2 with (go_at_call 28;refine (HA.out _).mono ?_;rintro e w3 ⟨rfl,hb3⟩)
 have E2:=(hb3.block (w.heap.size+1) (by simp)).trans e2
 have hb4:=hal.trans (hb3.mono (by simp;omega))
 clear hb3 e1 e2 hal HA c0 c1
 obtain ⟨d0,d1,dz⟩:=prog_cells2 E2
 go_wp2
 refine bodyPost_ret (v:=.tuple #[.agg #[.slice none 0 0,.slice none 0 0],.int .i64 10]) (by simp [results,Tryz.results8,go_sem,d0,d1]) rfl ⟨rfl,?_⟩
 exact (hb4.setCell (by simp) _).setCell (by simp) _
theorem prg_big (s:ByteArray)(w:World)(hs:s.size≤maxLen)(h:1500<s.size) :
  Calls Tryz.prog 5 #[.string s] w fun e w'=>e=.returned (.bool true)∧Below w.heap.size w w':=by
 unfold maxLen at hs
 go_enter Tryz.func5,Tryz.ntmps5
 go_wp2_with (go_at_call 6;refine (anchor_any _).mono ?_;rintro e w1 ⟨rfl,hb1⟩)
 go_ret
 exact ⟨rfl,hb1⟩
theorem prg_bad (s:ByteArray)(w:World)(hs:s.size≤1500)(c a:Nat)(h:progF s.data.toList 100=.bad c a) :
  Calls Tryz.prog 5 #[.string s] w fun e w'=>e=.returned (.bool true)∧Below w.heap.size w w':=by
 have hc:=progF_bad h
 have hcI:((c:Int) == 0)=false:=beq_eq_false_iff_ne.2 (by omega)
 have HF:=Lib.hid (fun W=>parse_any s 100 W (by omega) (by omega) (by omega))
 rw [h] at HF
 have HO:=Lib.hid (fun W=>of_no W)
 have hsI:¬ ((1500:Int)<(s.size:Int)):=by omega
 clear h hc
 go_enter Tryz.func5,Tryz.ntmps5
 go_upto_region 6 with (first|(go_at_call 6;refine (anchor_any _).mono ?_;rintro e w1 ⟨rfl,hb1⟩)|(go_at_call 10;refine (HF.out _).mono ?_;rintro e w2 ⟨hb2,rfl⟩))
 have hb3:=(below_new w2 (.cells #[.slice none 0 0,.slice none 0 0] 25)).alloc (by simp) (.cells #[.int .i64 c,.int .i64 a] 44)
 have e1:=(Lib.alloc_old (w2.alloc (.cells #[.slice none 0 0,.slice none 0 0] 25)) (.cells #[.int .i64 c,.int .i64 a] 44) w2.heap.size (by simp)).trans (heap_alloc_new w2 (.cells #[.slice none 0 0,.slice none 0 0] 25))
 have e2:=heap_alloc_new (w2.alloc (.cells #[.slice none 0 0,.slice none 0 0] 25)) (.cells #[.int .i64 c,.int .i64 a] 44)
 rw [World.size_alloc] at e2
 have hbw:=(hb1.trans (hb2.mono hb1.size)).trans (hb3.mono (hb1.trans (hb2.mono hb1.size)).size)
 clear hb1 hb2 hb3 HF
 generalize (w2.alloc _).alloc _=w3 at e1 e2 hbw ⊢
 have hl2:=(Array.getElem?_eq_some_iff.1 e2).1
 obtain ⟨c0,c1⟩:=tree_cells e1
 clear e1
 go_upto_region 7 with (go_at_call 8;refine (HO.out _).mono ?_;rintro e w4 ⟨rfl,hb4⟩)
 have hb5:=(hbw.trans (hb4.mono hbw.size)).alloc (hbw.trans (hb4.mono hbw.size)).size (.cells #[.slice none 0 0,.slice none 0 0] 31)
 have g5:=heap_alloc_new w4 (.cells #[.slice none 0 0,.slice none 0 0] 31)
 have e5:=(Lib.alloc_old w4 (.cells #[.slice none 0 0,.slice none 0 0] 31) (w2.heap.size+1) (Nat.lt_of_lt_of_le hl2 hb4.size)).trans ((hb4.block _ hl2).trans e2)
 clear c0 c1 hb4 e2 hbw HO
 generalize w4.alloc _=w5 at hb5 g5 e5 ⊢
 obtain ⟨f0,f1,-⟩:=fault_cells e5
 obtain ⟨a0,a1⟩:=prog_cells g5
 go_wp2
 go_ret
 exact ⟨rfl,hb5⟩
end Go.Proofs.YtemkhbmkaalgdaaGreatDoor
