/- Walks and plain laws: ParseW0, ParseW1, ParseW2, ParseW3, ParseW4. -/
import Derived.Test.YtbodlpoomfefcaaGreatDoorA04
import Derived.Test.YtbodlpoomfefcaaGreatDoorA06
import Derived.Test.YtbodlpoomfefcaaGreatDoorA03
set_option maxHeartbeats 16000000
set_option maxRecDepth 100000
set_option linter.unusedVariables false
set_option linter.unusedSimpArgs false
namespace Go.Proofs.YtbodlpoomfefcaaGreatDoor
open Go.RowKit
theorem Tryz.infoNode:(Tryz.prog.info? 83).map (fun i=>(i.zero,i.size,i.bytes))=some (some (.agg #[.int .i64 0,.int .i64 0,.slice none 0 0]),3,40):=by kernel_rfl
def IntsAt (w:World)(v:Value)(ks:List Int):Prop :=
 ∃ ao cap,v=.slice ao ks.length cap∧ks.length≤cap ∧
  (0<ks.length→∃ (b off:Nat) (cs:Array Value) (fr:Nat × Nat),ao=some ⟨b,off,none⟩∧w.heap[b]?=some (.cells cs 3 fr)∧∀ j,(h:j<ks.length)→cs[off+j]?=some (.int .i64 ks[j]))
def Kp (B:Nat)(w w':World):Prop :=
 Below B w w'∧∀ (k:Nat) (cs:Array Value) (T:TypeId) (fr:Nat × Nat),w.heap[k]?=some (.cells cs T fr)→T≠156→T≠221→T≠83→w'.heap[k]?=some (.cells cs T fr)
theorem Kp.refl (B:Nat)(w:World):Kp B w w:=⟨Below.refl _ _,fun _ _ _ _ h _ _ _=>h⟩
theorem Kp.trans {B:Nat}{a b c:World}(h:Kp B a b)(k:Kp B b c):Kp B a c:=⟨h.1.trans k.1,fun n cs T fr h0 h1 h2 h3=>k.2 n cs T fr (h.2 n cs T fr h0 h1 h2 h3) h1 h2 h3⟩
theorem Kp.size {B:Nat}{w w':World}(h:Kp B w w'):w.heap.size≤w'.heap.size:=h.1.size
theorem Kp.of {B:Nat}{w w':World}(h:Below w.heap.size w w')(hB:B≤w.heap.size):Kp B w w' :=
 ⟨h.mono hB,fun k cs T fr h0 _ _ _=>by rw [h.block k (Array.getElem?_eq_some_iff.1 h0).1];exact h0⟩
theorem Kp.mono {B B':Nat}{w w':World}(h:Kp B w w')(hB:B'≤B):Kp B' w w':=⟨h.1.mono hB,h.2⟩
def Kb (B:Nat)(w w':World):Prop :=
 Below B w w'∧∀ (k:Nat) (cs:Array Value) (T:TypeId) (fr:Nat × Nat),w.heap[k]?=some (.cells cs T fr)→T≠221→T≠83→w'.heap[k]?=some (.cells cs T fr)
theorem Kb.kp {B:Nat}{w w':World}(h:Kb B w w'):Kp B w w':=⟨h.1,fun k cs T fr h0 _ h2 h3=>h.2 k cs T fr h0 h2 h3⟩
theorem Kb.refl (B:Nat)(w:World):Kb B w w:=⟨Below.refl _ _,fun _ _ _ _ h _ _=>h⟩
theorem Kb.trans {B:Nat}{a b c:World}(h:Kb B a b)(k:Kb B b c):Kb B a c:=⟨h.1.trans k.1,fun n cs T fr h0 h1 h2=>k.2 n cs T fr (h.2 n cs T fr h0 h1 h2) h1 h2⟩
theorem Kb.of {B:Nat}{w w':World}(h:Below w.heap.size w w')(hB:B≤w.heap.size):Kb B w w' :=
 ⟨h.mono hB,fun k cs T fr h0 _ _=>by rw [h.block k (Array.getElem?_eq_some_iff.1 h0).1];exact h0⟩
theorem IntsAt.kept {B:Nat}{w w':World}{v:Value}{ks:List Int}(h:IntsAt w v ks)(hk:Kp B w w'):IntsAt w' v ks:=by
 obtain ⟨ao,cap,hv,hc,hf⟩:=h
 refine ⟨ao,cap,hv,hc,fun h0=>?_⟩
 obtain ⟨b,off,cs,fr,ha,hb,hj⟩:=hf h0
 exact ⟨b,off,cs,fr,ha,hk.2 b cs _ fr hb (by decide) (by decide) (by decide),hj⟩
def OutOf (R:List Nat)(v:Value):Prop:=∀ b off n cap,v=.slice (some ⟨b,off,none⟩) n cap→0<n→b ∉ R
def KidsAt (R:List Nat)(w:World)(v:Value)(ks:List Int):Prop:=IntsAt w v ks∧OutOf R v
theorem KidsAt.kept {R:List Nat}{B:Nat}{w w':World}{v:Value}{ks:List Int}(h:KidsAt R w v ks)(hk:Kp B w w'):KidsAt R w' v ks:=⟨h.1.kept hk,h.2⟩
theorem own_set {w:World}{base e sz n:Nat}{v:Value}{xs:List Value}(h:w.ownsRow base e sz v n xs){a:Addr}(hne:some a.block≠v.ownBlock)(u:Value):(w.setCell a u).ownsRow base e sz v n xs:=by
 refine ⟨h.1,?_⟩
 rcases h.2 with hn|⟨g,cap,cur,hv,hg,hh,hr⟩
 ·exact .inl hn
 ·refine .inr ⟨g,cap,cur,hv,hg,?_,hr⟩
  rw [heap_setCell_other]
  ·exact hh
  ·intro q
   exact hne (by rw [← q,hv];rfl)
def ndCells (p:Nd × Value):List Value:=[.int .i64 p.1.kind,.int .i64 p.1.tok,p.2]
theorem ndCells_len (p:Nd × Value):(ndCells p).length=3:=rfl
def BW (R:List Nat)(B bb:Nat)(tv:Value)(used:Nat)(nodes:List Nd)(w:World):Prop :=
 B≤bb∧∃ (nv:Value) (l:List (Nd × Value)),w.heap[bb]?=some (.cells #[tv,nv,.int .i64 used] 221 (0,0))∧l.map Prod.fst=nodes ∧
  w.ownsRow B 83 3 nv nodes.length (l.flatMap ndCells)∧∀ p∈l,KidsAt R w p.2 p.1.kids
structure PEnv where
 R:List Nat
 B:Nat
 pb:Nat
 bb:Nat
 tv:Value
 toks:List Tok
 depth:Nat
def PW (E:PEnv)(st:PSt)(w:World):Prop :=
 w.heap[E.pb]?=some (.cells #[.pointer (some ⟨E.bb,0,none⟩),.int .i64 E.depth,.bool st.clause,.int .i64 st.fE,.int .i64 st.fAt] 156 (0,0)) ∧
  BW E.R E.B E.bb E.tv st.used st.nodes w∧Rec E.B w E.tv 4 tokCells E.toks∧E.B≤E.pb∧st.used≤E.toks.length∧∀ r∈E.R,r<w.heap.size
theorem BW.later {R:List Nat}{B bb:Nat}{tv:Value}{used:Nat}{nodes:List Nd}{w w':World}(h:BW R B bb tv used nodes w)(hb:Below w.heap.size w w'):BW R B bb tv used nodes w':=by
 obtain ⟨h1,nv,l,h2,h3,h4,h5⟩:=h
 refine ⟨h1,nv,l,?_,h3,own_below h4 hb,fun p hp=>(h5 p hp).kept (Kp.of hb (Nat.le_refl _))⟩
 rw [hb.block bb (Array.getElem?_eq_some_iff.1 h2).1]
 exact h2
theorem PW.later {E:PEnv}{st:PSt}{w w':World}(h:PW E st w)(hb:Below w.heap.size w w'):PW E st w':=by
 obtain ⟨h1,h2,h3,h4,h5⟩:=h
 refine ⟨?_,h2.later hb,?_,h4,h5.1,fun r hr=>Nat.lt_of_lt_of_le (h5.2 r hr) hb.size⟩
 ·rw [hb.block E.pb (Array.getElem?_eq_some_iff.1 h1).1];exact h1
 ·have hlt:=(Array.getElem?_eq_some_iff.1 h1).1
  exact h3.below (hb.mono (by omega))
theorem PW.lt {E:PEnv}{st:PSt}{w:World}(h:PW E st w):E.pb<w.heap.size:=(Array.getElem?_eq_some_iff.1 h.1).1
theorem PW.B_le {E:PEnv}{st:PSt}{w:World}(h:PW E st w):E.B≤w.heap.size:=by have:=h.lt;have:=h.2.2.2.1;omega
theorem BW.lt {R:List Nat}{B bb:Nat}{tv:Value}{used:Nat}{nodes:List Nd}{w:World}(h:BW R B bb tv used nodes w):bb<w.heap.size:=by
 obtain ⟨_,nv,l,h2,_⟩:=h
 exact (Array.getElem?_eq_some_iff.1 h2).1
def BPost (R:List Nat)(B bb:Nat)(tv:Value)(r:Int)(used:Nat)(nodes:List Nd)(w:World)(e:Ending)(w':World):Prop :=
 e=.returned (.int .i64 r)∧BW R B bb tv used nodes w'∧Kb B w w'
theorem root_any (tv:Value)(ao:Option Addr)(n cap:Nat)(w:World)(hn:n≤1099511627776) :
  Calls Tryz.prog 17 #[.agg #[tv,.slice ao n cap]] w fun e w'=>e=.returned (.int .i64 ((n:Int) - 1))∧Below w.heap.size w w':=by
 go_enter Tryz.func17,Tryz.ntmps17
 go_wp2
 go_ret
 exact ⟨rfl,(Below.refl _ _).alloc (Nat.le_refl _) _⟩
theorem add_any (R:List Nat)(B bb:Nat)(tv:Value)(used:Nat)(nodes:List Nd)(kind tok:Int)(kv:Value)(ks:List Int)(w:World)(hb:BW R B bb tv used nodes w)(hk:KidsAt R w kv ks)(hn:nodes.length+1≤1099511627776) :
  Calls Tryz.prog 214 #[.pointer (some ⟨bb,0,none⟩),.agg #[.int .i64 kind,.int .i64 tok,kv]] w (BPost R B bb tv (nodes.length:Nat) used (nodes++[⟨kind,tok,ks⟩]) w):=by
 obtain ⟨i0,hi,hz0,hz1,hz2⟩:=info_parts Tryz.infoNode
 obtain ⟨h1,nv,l,h2,h3,h4,h5⟩:=hb
 have hlt:=(Array.getElem?_eq_some_iff.1 h2).1
 have HI:=Lib.hid hk
 obtain ⟨aok,capk,rfl,_,_⟩:=hk.1
 generalize hkv:Value.slice aok ks.length capk=kv at HI
 have hone:kv.oneCell'=true:=by rw [← hkv];rfl
 clear hkv
 obtain ⟨ao,cap,rfl,_⟩:∃ ao cap,nv=.slice ao nodes.length cap∧True:=by
  rcases h4.2 with ⟨hv,hn0⟩|⟨g,cap,cur,hv,_⟩
  ·exact ⟨none,0,by rw [hv,hn0],trivial⟩
  ·exact ⟨_,cap,hv,trivial⟩
 have c0:w.cell? ⟨bb,0,none⟩=some tv:=by rw [Lib.cell_of_heap h2];rfl
 have c1:w.cell? ⟨bb,1,none⟩=some (.slice ao nodes.length cap):=by rw [Lib.cell_of_heap h2];rfl
 have hal:=(Below.refl w.heap.size w).alloc (Nat.le_refl _) (.cells #[.int .i64 kind,.int .i64 tok,kv] 83)
 have d0:=cell_later hal c0
 have d1:=cell_later hal c1
 have hz:(w.alloc (.cells #[.int .i64 kind,.int .i64 tok,kv] 83)).frozen? ⟨bb,1,none⟩=false:=by
  simp [World.frozen?,(Lib.alloc_old w _ bb hlt).trans h2]
 go_enter Tryz.func214,Tryz.ntmps214
 go_wp2
 have nq:=heap_alloc_new w (.cells #[.int .i64 kind,.int .i64 tok,kv] 83)
 have e0:(w.alloc (.cells #[.int .i64 kind,.int .i64 tok,kv] 83)).cell? ⟨w.heap.size,0,none⟩=some (.int .i64 kind):=by rw [Lib.cell_of_heap nq];rfl
 have e1:(w.alloc (.cells #[.int .i64 kind,.int .i64 tok,kv] 83)).cell? ⟨w.heap.size,1,none⟩=some (.int .i64 tok):=by rw [Lib.cell_of_heap nq];rfl
 have e2:(w.alloc (.cells #[.int .i64 kind,.int .i64 tok,kv] 83)).cell? ⟨w.heap.size,2,none⟩=some kv:=by rw [Lib.cell_of_heap nq];rfl
 have hown:=h4.alloc (.cells #[.int .i64 kind,.int .i64 tok,kv] 83)
 have hbb:=(Lib.alloc_old w (.cells #[.int .i64 kind,.int .i64 tok,kv] 83) bb hlt).trans h2
 have hne:=own_ne hown hbb (by decide)
 have hzq:(w.alloc (.cells #[.int .i64 kind,.int .i64 tok,kv] 83)).heap.size=w.heap.size+1:=by simp
 have hBw:B≤w.heap.size:=by omega
 generalize w.alloc (.cells #[.int .i64 kind,.int .i64 tok,kv] 83)=wq at e0 e1 e2 hown hbb hne hzq hal d0 d1 hz ⊢
 have hzq1:B≤wq.heap.size:=by omega
 have hltq:bb<wq.heap.size:=by omega
 have hzz:∀ o,(wq.alloc o).drew.frozen? ⟨bb,1,none⟩=false:=fun o=>by
  have:(wq.alloc o).drew.heap[bb]?=some (.cells #[tv,.slice ao nodes.length cap,.int .i64 used] 221 (0,0)):=(Lib.alloc_old wq o bb hltq).trans hbb
  simp [World.frozen?,this]
 have hzg:w.heap.size<wq.heap.size:=by omega
 have hne2:some w.heap.size≠(Value.slice ao nodes.length cap).ownBlock:=fun q=>by have:=(h4.lt w.heap.size q.symm).2;omega
 have HONE:Hid (∀ u∈[Value.int .i64 kind,.int .i64 tok,kv],u.oneCell'=true):=Lib.hid (by
  intro u hu
  simp only [List.mem_cons,List.not_mem_nil,or_false] at hu
  rcases hu with rfl|rfl|rfl
  ·rfl
  ·rfl
  ·exact hone)
 have hcc:∀ o,(wq.alloc o).drew.cell? ⟨bb,1,none⟩=some (.slice ao nodes.length cap):=fun o=>by
  have:(wq.alloc o).drew.heap[bb]?=some (.cells #[tv,.slice ao nodes.length cap,.int .i64 used] 221 (0,0)):=(Lib.alloc_old wq o bb hltq).trans hbb
  rw [Lib.cell_of_heap this];rfl
 clear nq c0 c1 hzq
 go_region_law ((refine step_append_lies _ (by rfl) _ _ _ (by rfl) B 83 i0 _ 3 40 Tryz.underlying23 hi hz0 hz1 hz2 rfl (by omega) (.slice ao nodes.length cap) nodes.length _ (by rfl) (owns_drew (hown.alloc _)) ⟨wq.heap.size,0,none⟩ 1 1 [.int .i64 kind,.int .i64 tok,kv] (by rfl) (by rfl) (World.news_of_block (cs:=#[.int .i64 kind,.int .i64 tok,kv]) (t:=83) (fr:=(0,0)) (heap_alloc_new wq _)) (HONE.out) (by omega) (by unfold maxLen;omega) (by omega) (by simp;omega) (wq.heap.size+1) (by simp) ?_;intro gg cap5 w5 hown5 hgrow5 hat5 hlt5;have hz5:=(hgrow5.frozen_far ⟨bb,1,none⟩ (by simp;omega) hne).trans (hzz _);have hc5:=(hgrow5.cell_far ⟨bb,1,none⟩ (by simp;omega) hne).trans (hcc _)))
 all_goals
  have hbw5:Below B w w5:=(((Below.refl _ _).mono hBw).trans (hal.mono hBw)).trans ((((Below.refl wq.heap.size wq).mono hzq1).alloc hzq1 (.cells #[.int .i64 kind,.int .i64 tok,kv] 83)).drew.grown hgrow5 (by simp;omega) (fun q hq=>(hown.lt q hq).1))
  have hkb:∀ (k:Nat) (cs:Array Value) (T:TypeId) (fr:Nat × Nat),w.heap[k]?=some (.cells cs T fr)→T≠83→w5.heap[k]?=some (.cells cs T fr):=fun k cs T fr h0 h1=>by
   have hk:=(Array.getElem?_eq_some_iff.1 h0).1
   have h2:wq.heap[k]?=some (.cells cs T fr):=by rw [hal.block k hk];exact h0
   exact own_block (owns_drew (hown.alloc _)) hgrow5 ((Lib.alloc_old wq _ k (by omega)).trans h2) h1
  have hbb5:=hkb bb _ _ _ h2 (by decide)
  have hc0:w5.cell? ⟨bb,0,none⟩=some tv:=by rw [Lib.cell_of_heap hbb5];rfl
  have h5':=fun p hp=>(h5 p hp)
  have H4:=Lib.hid hown5
  clear hgrow5 hown5 hat5 d0 d1 e0 e1 e2 hzz hcc hz hone h4 hown
  go_wp2
  go_ret
  generalize Value.slice (some ⟨gg,0,none⟩) (nodes.length+1) cap5=nv5 at H4 ⊢
  have hlt5':bb<w5.heap.size:=(Array.getElem?_eq_some_iff.1 hbb5).1
  have hkb6:Kb B w ((w5.setCell ⟨bb,1,none⟩ nv5).alloc (.cells #[tv,nv5] 25)):=by
   refine ⟨(hbw5.setCell h1 _).alloc (by have:=hbw5.size;simp;omega) _,fun k cs T fr h0 q1 q2=>?_⟩
   have r1:=hkb k cs T fr h0 q2
   have hk5:=(Array.getElem?_eq_some_iff.1 r1).1
   rw [Lib.alloc_old _ _ k (by simpa using hk5),heap_setCell_other]
   ·exact r1
   ·show k≠bb
    rintro rfl
    rw [hbb5] at r1
    simp only [Option.some.injEq,Obj.cells.injEq] at r1
    exact q1 r1.2.1.symm
  refine ⟨ret_int (by omega),⟨h1,nv5,l++[(⟨kind,tok,ks⟩,kv)],?_,by simp [h3],?_,?_⟩,hkb6⟩
  ·rw [Lib.alloc_old _ _ bb (by simpa using hlt5'),heap_setCell_same w5 bb 1 _ _ _ hbb5]
   rfl
  ·rw [List.flatMap_append,List.length_append]
   exact (own_set H4.out (own_ne H4.out hbb5 (by decide)) nv5).alloc _
  ·intro p hp
   rcases List.mem_append.1 hp with hp|hp
   ·exact (h5 p hp).kept hkb6.kp
   ·rw [List.mem_singleton] at hp
    subst hp
    exact HI.out.kept hkb6.kp
theorem Kb.setB {B bb:Nat}{w:World}{cs:Array Value}{fr:Nat × Nat}(h:w.heap[bb]?=some (.cells cs 221 fr))(hB:B≤bb)(i:Nat)(u:Value):Kb B w (w.setCell ⟨bb,i,none⟩ u):=by
 refine ⟨(Below.refl _ _).setCell hB u,fun k cs' T fr' h0 q1 _=>?_⟩
 rw [heap_setCell_other]
 ·exact h0
 ·show k≠bb
  rintro rfl
  rw [h] at h0
  simp only [Option.some.injEq,Obj.cells.injEq] at h0
  exact q1 h0.2.1.symm
theorem BW.kb {R:List Nat}{B bb:Nat}{tv:Value}{used:Nat}{nodes:List Nd}{w:World}(h:BW R B bb tv used nodes w):B≤bb:=h.1
theorem BW.setUsed {R:List Nat}{B bb:Nat}{tv:Value}{used:Nat}{nodes:List Nd}{w:World}(h:BW R B bb tv used nodes w)(u:Nat):BW R B bb tv u nodes (w.setCell ⟨bb,2,none⟩ (.int .i64 u))∧Kb B w (w.setCell ⟨bb,2,none⟩ (.int .i64 u)):=by
 obtain ⟨h1,nv,l,h2,h3,h4,h5⟩:=h
 have hk:=Kb.setB h2 h1 2 (.int .i64 u)
 refine ⟨⟨h1,nv,l,?_,h3,own_set h4 (own_ne h4 h2 (by decide)) _,fun p hp=>(h5 p hp).kept hk.kp⟩,hk⟩
 rw [heap_setCell_same w bb 2 _ _ _ h2]
 rfl
theorem BW.drewN {R:List Nat}{B bb:Nat}{tv:Value}{used:Nat}{nodes:List Nd}{w:World}(h:BW R B bb tv used nodes w)(n:Nat):BW R B bb tv used nodes (w.drewN n):=h.later (below_drewN (Below.refl _ _) n)
def leafB (n used:Nat)(nodes:List Nd):Int × Nat × List Nd:=if used=n then (-1,used,nodes) else ((nodes.length:Nat),used+1,nodes++[⟨19,(used:Nat),[]⟩])
theorem leaf_any (R:List Nat)(B bb:Nat)(ao:Option Addr)(n cap used:Nat)(nodes:List Nd)(w:World)(hb:BW R B bb (.slice ao n cap) used nodes w)(hu:used≤n)(hn:n≤1099511627776)(hl:nodes.length+1≤1099511627776) :
  Calls Tryz.prog 140 #[.pointer (some ⟨bb,0,none⟩)] w (BPost R B bb (.slice ao n cap) (leafB n used nodes).1 (leafB n used nodes).2.1 (leafB n used nodes).2.2 w):=by
 have hB:=hb.kb
 have hlt:=hb.lt
 have HB:=Lib.hid hb
 obtain ⟨h1,nv,l,h2,h3,h4,h5⟩:=hb
 have c0:w.cell? ⟨bb,0,none⟩=some (.slice ao n cap):=by rw [Lib.cell_of_heap h2];rfl
 have c2:w.cell? ⟨bb,2,none⟩=some (.int .i64 used):=by rw [Lib.cell_of_heap h2];rfl
 have hz:w.frozen? ⟨bb,2,none⟩=false:=by simp [World.frozen?,h2]
 clear h2 h3 h4 h5
 by_cases he:used=n
 ·have t1:((used:Int) == (n:Int))=true:=by rw [he,beq_iff_eq]
  have hq:leafB n used nodes=(-1,used,nodes):=by rw [leafB,if_pos he]
  rw [hq]
  clear hq
  go_enter Tryz.func140,Tryz.ntmps140
  go_wp2
  go_quiet (fail)
  go_wp2
  go_ret
  exact ⟨rfl,HB.out.drewN _,Kb.of (below_drewN (Below.refl _ _) _) (by omega)⟩
 ·have t1:((used:Int) == (n:Int))=false:=by rw [← Bool.not_eq_true,beq_iff_eq];omega
  have hq:leafB n used nodes=(((nodes.length:Nat):Int),used+1,nodes++[⟨19,(used:Nat),[]⟩]):=by rw [leafB,if_neg he]
  rw [hq]
  have hnil:∀ w,KidsAt R w (.slice none 0 0) []:=fun w=>⟨⟨none,0,rfl,Nat.le_refl _,fun h=>absurd h (by simp)⟩,fun _ _ _ _ h=>by cases h⟩
  have HN:=Lib.hid hnil
  clear hq hnil
  go_enter Tryz.func140,Tryz.ntmps140
  go_wp2
  go_quiet (fail)
  go_wp2_with fail
  have hbd:=HB.out.drewN nq
  obtain ⟨hs1,hs2⟩:=hbd.setUsed (used+1)
  have e2:((used:Int)+1)=((used+1:Nat):Int):=by omega
  rw [e2]
  clear e2
  have hk0:Kb B w (w.drewN nq):=Kb.of (below_drewN (Below.refl _ _) _) (by omega)
  generalize (w.drewN nq).setCell ⟨bb,2,none⟩ (.int .i64 (used+1:Nat))=w4 at hs1 hs2 ⊢
  refine (add_any R B bb _ (used+1) nodes 19 used _ [] w4 hs1 (HN.out _) hl).mono ?_
  rintro e w5 ⟨rfl,hb5,hk5⟩
  go_wp2
  go_ret
  exact ⟨rfl,hb5,(hk0.trans hs2).trans hk5⟩
def tokAgg (t:Tok):Value:=.agg #[.int .i64 t.kind,.string ⟨t.lead.toArray⟩,.string ⟨t.text.toArray⟩,.int .i64 t.place]
theorem peek_at (toks:List Tok)(u:Nat)(h:0<toks.length):∃ (k:Nat) (hk:k<toks.length),k=min u (toks.length - 1)∧peekF toks u=toks[k]:=by
 refine ⟨min u (toks.length - 1),by omega,rfl,?_⟩
 unfold peekF
 rw [List.getD_eq_getElem?_getD,List.getElem?_eq_getElem (by omega),Option.getD_some]
theorem peek_any (R:List Nat)(B bb:Nat)(tv:Value)(toks:List Tok)(used:Nat)(nodes:List Nd)(w:World)(hb:BW R B bb tv used nodes w)(ht:Rec B w tv 4 tokCells toks)(h0:0<toks.length)(hu:used≤toks.length)(hn:toks.length≤1099511627776) :
  Calls Tryz.prog 146 #[.pointer (some ⟨bb,0,none⟩)] w fun e w'=>e=.returned (tokAgg (peekF toks used))∧Below w.heap.size w w':=by
 obtain ⟨h1,nv,l,h2,h3,h4,h5⟩:=hb
 have hlt:=(Array.getElem?_eq_some_iff.1 h2).1
 obtain ⟨ao,cap,rfl,hcap,hf⟩:=ht.form (fun _=>rfl)
 obtain ⟨b,off,rfl,hB,hcell⟩:=hf h0
 have c0:w.cell? ⟨bb,0,none⟩=some (.slice (some ⟨b,off,none⟩) toks.length cap):=by rw [Lib.cell_of_heap h2];rfl
 have c2:w.cell? ⟨bb,2,none⟩=some (.int .i64 used):=by rw [Lib.cell_of_heap h2];rfl
 obtain ⟨k,hk,hkm,hp⟩:=peek_at toks used h0
 have hx0:=hcell k 0 _ hk rfl
 have hx1:=hcell k 1 _ hk rfl
 have hx2:=hcell k 2 _ hk rfl
 have hx3:=hcell k 3 _ hk rfl
 rw [hp]
 generalize toks[k]=t at hx0 hx1 hx2 hx3
 obtain ⟨c,x,y,q⟩:=t
 simp only [Nat.add_zero] at hx0 hx1 hx2 hx3
 have hal:=(Below.refl w.heap.size w).alloc (Nat.le_refl _) (.cells #[.int .i64 0,.string ⟨#[]⟩,.string ⟨#[]⟩,.int .i64 0] 80)
 have d0:=cell_later hal c0
 have d2:=cell_later hal c2
 have y0:=cell_later hal hx0
 have y1:=cell_later hal hx1
 have y2:=cell_later hal hx2
 have y3:=cell_later hal hx3
 have hk0:(0:Int)<(toks.length:Int):=by omega
 have HKM:=Lib.hid hkm
 clear hkm c0 c2 hx0 hx1 hx2 hx3 hcell hf ht h2 h3 h4 h5 hp
 go_enter Tryz.func146,Tryz.ntmps146
 go_wp2
 have hnw:=heap_alloc_new w (.cells #[.int .i64 0,.string ⟨#[]⟩,.string ⟨#[]⟩,.int .i64 0] 80)
 generalize w.alloc _=w1 at hnw hal d0 d2 y0 y1 y2 y3 ⊢
 have hmin:min (used:Int) ((toks.length:Int) - 1)=(k:Int):=by have:=HKM.out;omega
 have w1':IntKind.i64.wrap ((toks.length:Int) - 1)=(toks.length:Int) - 1:=IntWalk.i64_in _ (by omega)
 have i1:(k:Int)<(toks.length:Int):=by omega
 go_still_tail 19,(by kernel_rfl)
 change wpList _ _ _ _ _ w1.drew
 have hald:=hal.drew
 have hnw2:w1.drew.heap[w.heap.size]?=some (.cells #[.int .i64 0,.string ⟨#[]⟩,.string ⟨#[]⟩,.int .i64 0] 80 (0,0)):=hnw
 generalize w1.drew=w2 at hald hnw2 ⊢
 have f0:w2.cell? ⟨w.heap.size,0,none⟩=some (.int .i64 0):=by rw [Lib.cell_of_heap hnw2];rfl
 have f1:w2.cell? ⟨w.heap.size,1,none⟩=some (.string ⟨#[]⟩):=by rw [Lib.cell_of_heap hnw2];rfl
 have f2:w2.cell? ⟨w.heap.size,2,none⟩=some (.string ⟨#[]⟩):=by rw [Lib.cell_of_heap hnw2];rfl
 have f3:w2.cell? ⟨w.heap.size,3,none⟩=some (.int .i64 0):=by rw [Lib.cell_of_heap hnw2];rfl
 have z0:∀ j,w2.frozen? ⟨w.heap.size,j,none⟩=false:=by intro j;simp [World.frozen?,hnw2]
 clear hnw hnw2 hmin w1' i1 y0 y1 y2 y3 d0 d2
 go_wp2
 refine bodyPost_ret (v:=.agg #[.int .i64 c,.string ⟨x.toArray⟩,.string ⟨y.toArray⟩,.int .i64 q]) (by simp [results,Tryz.results146,go_sem,f0,f1,f2,f3]) rfl ⟨rfl,?_⟩
 exact (((hald.setCell (Nat.le_refl _) _).setCell (Nat.le_refl _) _).setCell (Nat.le_refl _) _).setCell (Nat.le_refl _) _
theorem IntsAt.cells {w:World}{ao:Option Addr}{n cap:Nat}{ks:List Int}(h:IntsAt w (.slice ao n cap) ks):n=ks.length∧(0<ks.length→∃ b off,ao=some ⟨b,off,none⟩∧∀ j,(hj:j<ks.length)→w.cell? ⟨b,off+j,none⟩=some (.int .i64 ks[j])):=by
 obtain ⟨ao',cap',hv,hc,hf⟩:=h
 injection hv with h1 h2 h3
 subst h1 h2 h3
 refine ⟨rfl,fun h0=>?_⟩
 obtain ⟨b,off,cs,fr,ha,hb,hj⟩:=hf h0
 exact ⟨b,off,ha,fun j hjl=>by rw [Lib.cell_of_heap hb];exact hj j hjl⟩
theorem IntsAt.slice {w:World}{v:Value}{ks:List Int}(h:IntsAt w v ks):∃ ao cap,v=.slice ao ks.length cap:=by
 obtain ⟨ao,cap,hv,_⟩:=h
 exact ⟨ao,cap,hv⟩
theorem IntsAt.ofOwns {B n:Nat}{w:World}{v:Value}{ks:List Int}(h:w.ownsRow B 3 1 v n (ks.map (Value.int .i64))):IntsAt w v ks:=by
 obtain ⟨hl,h⟩:=h
 rw [List.length_map,Nat.mul_one] at hl
 subst hl
 rcases h with ⟨rfl,h0⟩|⟨g,cap,cur,rfl,hg,hh,hn,hm,hs,hx⟩
 ·exact ⟨none,0,by rw [h0],by omega,fun q=>absurd q (by omega)⟩
 ·refine ⟨some ⟨g,0,none⟩,cap,rfl,hn,fun _=>⟨g,0,cur,(0,0),rfl,hh,fun j hj=>?_⟩⟩
  have h1:(ks.map (Value.int .i64))[j]?=some (.int .i64 ks[j]):=by rw [List.getElem?_map,List.getElem?_eq_getElem hj];rfl
  rw [← hx,List.getElem?_take] at h1
  split at h1
  ·rw [Nat.zero_add,← Array.getElem?_toList];exact h1
  ·cases h1
theorem KidsAt.ofOwns {R:List Nat}{B n:Nat}{w:World}{v:Value}{ks:List Int}(h:w.ownsRow B 3 1 v n (ks.map (Value.int .i64)))(hR:∀ r∈R,r<B):KidsAt R w v ks:=by
 refine ⟨IntsAt.ofOwns h,fun b off m cap hv _ hb=>?_⟩
 have:=(h.lt b (by rw [hv];rfl)).1
 have:=hR b hb
 omega
def CloneOk (ks:List Int)(w:World)(e:Ending)(w':World):Prop:=∃ v',e=.returned v'∧(∀ R:List Nat,(∀ r∈R,r<w.heap.size)→KidsAt R w' v' ks)∧Below w.heap.size w w'
theorem clone_ints (v:Value)(ks:List Int)(w:World)(h:IntsAt w v ks)(hn:ks.length≤1099511627776) :
  Calls Tryz.prog 137 #[v] w (CloneOk ks w):=by
 obtain ⟨ao,cap,rfl⟩:=h.slice
 obtain ⟨_,hf⟩:=h.cells
 by_cases h0:0<ks.length
 ·obtain ⟨b,off,rfl,hc⟩:=hf h0
  refine (Tryz.slices_Clone_int b off ks.length cap ks w (Nat.le_refl _) (by omega) (fun j hj=>by rw [hc j hj];simp [List.getD_eq_getElem?_getD,hj])).mono ?_
  rintro e w' ⟨v',he,ho,_,hb⟩
  rw [List.take_length] at ho
  exact ⟨v',he,fun R hR=>KidsAt.ofOwns ho hR,hb⟩
 ·obtain rfl:ks=[]:=List.length_eq_zero_iff.1 (by omega)
  cases ao with
  | none =>
   refine (Tryz.slices_Clone_int_nil 0 cap w).mono ?_
   rintro e w' ⟨he,rfl⟩
   exact ⟨_,he,fun R _=>⟨⟨none,0,rfl,Nat.le_refl _,fun q=>absurd q (by simp)⟩,fun _ _ _ _ h=>by cases h⟩,Below.refl _ _⟩
  | some a =>
   refine (Tryz.slices_Clone_int_zero a cap w).mono ?_
   rintro e w' ⟨v',he,ho,_,hb⟩
   exact ⟨v',he,fun R hR=>KidsAt.ofOwns (ks:=[]) ho hR,hb⟩
def badK (n:Nat)(k:Int):Bool:=decide (k<0) || decide ((n:Int)≤k)
theorem nodeTest_any (R:List Nat)(B bb g:Nat)(tv:Value)(used:Nat)(nodes:List Nd)(k:Int)(w:World)(hb:BW R B bb tv used nodes w)(hg:w.cell? ⟨g,0,none⟩=some (.pointer (some ⟨bb,0,none⟩))) :
  Calls Tryz.prog 216 #[.int .i64 k,.pointer (some ⟨g,0,none⟩)] w fun e w'=>e=.returned (.bool (badK nodes.length k))∧w'=w:=by
 obtain ⟨h1,nv,l,h2,h3,h4,h5⟩:=hb
 obtain ⟨ao,cap,rfl,_⟩:∃ ao cap,nv=.slice ao nodes.length cap∧True:=by
  rcases h4.2 with ⟨hv,hn0⟩|⟨g,cap,cur,hv,_⟩
  ·exact ⟨none,0,by rw [hv,hn0],trivial⟩
  ·exact ⟨_,cap,hv,trivial⟩
 have c1:w.cell? ⟨bb,1,none⟩=some (.slice ao nodes.length cap):=by rw [Lib.cell_of_heap h2];rfl
 clear h2 h3 h4 h5
 by_cases hk:k<0
 ·have hq:badK nodes.length k=true:=by simp [badK,hk]
  rw [hq]
  clear hq
  go_enter Tryz.func216,Tryz.ntmps216
  go_wp2
  all_goals (go_ret;refine ⟨ret_bool ?_,rfl⟩;simp [*])
 ·have hq:badK nodes.length k=decide ((nodes.length:Int)≤k):=by simp [badK,hk]
  have d1:decide (k<0)=false:=decide_eq_false hk
  rw [hq]
  clear hq
  go_enter Tryz.func216,Tryz.ntmps216
  go_wp2
  all_goals (go_ret;refine ⟨ret_bool ?_,rfl⟩;simp [*])
def IdxPost (p:Bool)(w:World)(e:Ending)(w':World):Prop:=(∃ r:Int,e=.returned (.int .i64 r)∧(0≤r↔p=true)∧-1≤r)∧w'=w
theorem nodeIndex_any (R:List Nat)(B bb g:Nat)(tv:Value)(used:Nat)(nodes:List Nd)(v:Value)(ks:List Int)(w:World)(hb:BW R B bb tv used nodes w)(hg:w.cell? ⟨g,0,none⟩=some (.pointer (some ⟨bb,0,none⟩)))(hv:IntsAt w v ks)(hn:ks.length≤1099511627776) :
  Calls Tryz.prog 264 #[v,.func (.func 216) #[] #[.pointer (some ⟨g,0,none⟩)]] w (IdxPost (ks.any (badK nodes.length)) w):=by
 obtain ⟨ao,cap,rfl⟩:=hv.slice
 obtain ⟨_,hf⟩:=hv.cells
 have HT:=Lib.hid (fun k=>nodeTest_any R B bb g tv used nodes k w hb hg)
 have HF:=Lib.hid hf
 clear hf hb hv hg
 go_enter Tryz.func264,Tryz.ntmps264
 go_wp2
 go_loop [8] (fun i=>∃ k:Nat,k≤ks.length∧i=.int .i64 k∧∀ j,(hj:j<ks.length)→j<k→badK nodes.length ks[j]=false) (fun i=>ks.length - (intOf i).toNat)
 case atStart=>exact ⟨0,Nat.zero_le _,rfl,fun j _ h=>absurd h (by omega)⟩
 case round =>
  obtain ⟨k,hk,rfl,hj⟩:=hrel
  by_cases hlt:k<ks.length
  ·obtain ⟨b,off,rfl,hc⟩:=HF.out (by omega)
   have hx:=hc k hlt
   have hI:(k:Int)<(ks.length:Int):=by omega
   have hT:=HT.out ks[k]
   cases ht:badK nodes.length ks[k] with
   | true =>
    have hany:ks.any (badK nodes.length)=true:=List.any_eq_true.2 ⟨_,List.getElem_mem hlt,ht⟩
    rw [ht] at hT
    generalize ks[k]=x at hx hT
    have H1:=Lib.hid hT
    have H2:=Lib.hid hany
    clear hc hj ht hT hany
    go_wp2_with (go_at_call 216;refine H1.out.mono ?_;rintro e w1 ⟨rfl,rfl⟩)
    go_ret
    exact ⟨⟨k,rfl,⟨fun _=>H2.out,fun _=>by omega⟩,by omega⟩,rfl⟩
   | false =>
    have HJ:Hid (∀ j,(hj:j<ks.length)→j<k+1→badK nodes.length ks[j]=false):=Lib.hid (fun j hjl hjk=>by
     by_cases hkj:j=k
     ·subst hkj;exact ht
     ·exact hj j hjl (by omega))
    rw [ht] at hT
    generalize ks[k]=x at hx hT
    have H1:=Lib.hid hT
    clear hc hj ht hT
    go_wp2_with (go_at_call 216;refine H1.out.mono ?_;rintro e w1 ⟨rfl,rfl⟩)
    go_round
    case rel=>exact ⟨k+1,by omega,by go_num,HJ.out⟩
    case measure=>simp [intOf];omega
  ·have hany:ks.any (badK nodes.length)=false:=by
    rw [← Bool.not_eq_true,List.any_eq_true]
    rintro ⟨x,hx,hb⟩
    obtain ⟨j,hjl,e⟩:=List.mem_iff_getElem.1 hx
    rw [← e,hj j hjl (by omega)] at hb
    cases hb
   have hI:decide ((k:Int)<(ks.length:Int))=false:=decide_eq_false (by omega)
   have H2:=Lib.hid hany
   clear hany hj
   go_wp2
   go_ret
   exact ⟨⟨-1,rfl,⟨fun h=>by omega,fun h=>by rw [H2.out] at h;cases h⟩,by omega⟩,rfl⟩
theorem nodeContains_any (R:List Nat)(B bb g:Nat)(tv:Value)(used:Nat)(nodes:List Nd)(v:Value)(ks:List Int)(w:World)(hb:BW R B bb tv used nodes w)(hg:w.cell? ⟨g,0,none⟩=some (.pointer (some ⟨bb,0,none⟩)))(hv:IntsAt w v ks)(hn:ks.length≤1099511627776) :
  Calls Tryz.prog 215 #[v,.func (.func 216) #[] #[.pointer (some ⟨g,0,none⟩)]] w fun e w'=>e=.returned (.bool (ks.any (badK nodes.length)))∧w'=w:=by
 have H:=Lib.hid (nodeIndex_any R B bb g tv used nodes v ks w hb hg hv hn)
 clear hb hg hv
 go_enter Tryz.func215,Tryz.ntmps215
 go_wp2_with (go_at_call 264;refine H.out.mono ?_)
 rintro e w1 ⟨⟨r,rfl,hr,_⟩,rfl⟩
 have hq:(ks.any (badK nodes.length))=decide (0≤r):=by
  by_cases h:0≤r
  ·rw [decide_eq_true h];exact hr.1 h
  ·rw [decide_eq_false h,← Bool.not_eq_true];exact fun q=>h (hr.2 q)
 have HQ:=Lib.hid hq
 clear hq hr
 go_wp2
 go_ret
 exact ⟨ret_bool HQ.out.symm,rfl⟩
def rawB (kind:Int)(ks:List Int)(nodes:List Nd):Int × List Nd:=if ks.any (badK nodes.length) then (-1,nodes) else (((nodes.length:Nat):Int),nodes++[⟨kind,-1,ks⟩])
theorem node_any (R:List Nat)(B bb:Nat)(tv:Value)(used:Nat)(nodes:List Nd)(kind:Int)(v:Value)(ks:List Int)(w:World)(hb:BW R B bb tv used nodes w)(hv:IntsAt w v ks)(hR:∀ r∈R,r<w.heap.size)(hn:ks.length≤1099511627776)(hl:nodes.length+1≤1099511627776) :
  Calls Tryz.prog 145 #[.pointer (some ⟨bb,0,none⟩),.int .i64 kind,v] w (BPost R B bb tv (rawB kind ks nodes).1 used (rawB kind ks nodes).2 w):=by
 have hB:=hb.kb
 have hlt:=hb.lt
 have hBw:B≤w.heap.size:=by omega
 have hal:=(Below.refl w.heap.size w).alloc (Nat.le_refl _) (.cells #[.pointer (some ⟨bb,0,none⟩)] 153)
 have hnw:=heap_alloc_new w (.cells #[.pointer (some ⟨bb,0,none⟩)] 153)
 have hb1:=hb.later hal
 have hv1:=hv.kept (Kp.of hal hBw)
 have hg:(w.alloc (.cells #[.pointer (some ⟨bb,0,none⟩)] 153)).cell? ⟨w.heap.size,0,none⟩=some (.pointer (some ⟨bb,0,none⟩)):=by rw [Lib.cell_of_heap hnw];rfl
 have hc:=nodeContains_any R B bb w.heap.size tv used nodes v ks _ hb1 hg hv1 hn
 have HB:=Lib.hid hb1
 have HV:=Lib.hid hv1
 cases hbad:ks.any (badK nodes.length) with
 | true =>
  rw [hbad] at hc
  have hq:rawB kind ks nodes=(-1,nodes):=by rw [rawB,hbad];rfl
  rw [hq]
  have HC:=Lib.hid hc
  clear hc hq hbad hb hv hb1 hv1
  go_enter Tryz.func145,Tryz.ntmps145
  go_wp2_with (go_at_call 215;refine HC.out.mono ?_;rintro e w1 ⟨rfl,rfl⟩)
  go_ret
  exact ⟨rfl,HB.out,Kb.of hal hBw⟩
 | false =>
  rw [hbad] at hc
  have hq:rawB kind ks nodes=(((nodes.length:Nat):Int),nodes++[⟨kind,-1,ks⟩]):=by rw [rawB,hbad];rfl
  rw [hq]
  have HC:=Lib.hid hc
  clear hc hq hbad hb hv hb1 hv1
  go_enter Tryz.func145,Tryz.ntmps145
  go_wp2_with (go_at_call 215;refine HC.out.mono ?_;rintro e w1 ⟨rfl,rfl⟩)
  generalize w.alloc _=w1 at HB HV HC hg hal hnw ⊢
  have hz1:=hal.size
  go_region_held3 (fun w'=>w'.cell? ⟨w.heap.size,0,none⟩=some (.pointer (some ⟨bb,0,none⟩)))
   (first|go_keep|exact hc2|exact hc3)
   (first|(go_at_call 137;refine (clone_ints v ks _ ?_ hn).mono ?_;(exact HV.out);rintro e w2 ⟨v',rfl,hiR,hb2⟩;have hi2:=hiR R (fun r hr=>Nat.lt_of_lt_of_le (hR r hr) (by have:w.heap.size≤w1.heap.size:=hz1;simpa using this));clear hiR;obtain ⟨ao2,cap2,rfl⟩:=hi2.1.slice;have hc2:=cell_later hb2 (show w1.drew.cell? ⟨w.heap.size,0,none⟩=_ from hg))|(go_at_call 214;refine (add_any R B bb tv used nodes kind (-1) _ ks w2 ?_ hi2 hl).mono ?_;(exact (HB.out.later ((Below.refl _ _).drew)).later hb2);rintro e w3 ⟨rfl,hb3,hk3⟩;have hc3:w3.cell? ⟨w.heap.size,0,none⟩=some (.pointer (some ⟨bb,0,none⟩)):=by (have h1:w2.heap[w.heap.size]?=some (.cells #[.pointer (some ⟨bb,0,none⟩)] 153 (0,0)):=(hb2.block w.heap.size (Array.getElem?_eq_some_iff.1 hnw).1).trans hnw);rw [Lib.cell_of_heap (hk3.2 _ _ _ _ h1 (by decide) (by decide))];rfl))
  go_wp2
  go_ret
  exact ⟨rfl,hb3,((Kb.of hal hBw).trans (Kb.of (((Below.refl _ _).drew).trans hb2) (by omega))).trans hk3⟩
theorem tokField3 (a b c d:Value)(w:World):(Instr.field 80 (.agg #[a,b,c,d]) 3).run Tryz.prog w=.ok d w:=by kernel_rfl
theorem tokField0 (a b c d:Value)(w:World):(Instr.field 80 (.agg #[a,b,c,d]) 0).run Tryz.prog w=.ok a w:=by kernel_rfl
theorem PW.builder {E:PEnv}{st:PSt}{w w':World}{used:Nat}{nodes:List Nd}(h:PW E st w)(hb:BW E.R E.B E.bb E.tv used nodes w')(hk:Kb E.B w w')(hu:used≤E.toks.length):PW E { st with used:=used,nodes:=nodes } w':=by
 obtain ⟨h1,h2,h3,h4,h5⟩:=h
 exact ⟨hk.2 _ _ _ _ h1 (by decide) (by decide),hb,h3.below hk.1,h4,hu,fun r hr=>Nat.lt_of_lt_of_le (h5.2 r hr) hk.1.size⟩
def PPost (E:PEnv)(r:Int × PSt)(w:World)(e:Ending)(w':World):Prop:=e=.returned (.int .i64 r.1)∧PW E r.2 w'∧Kp E.B w w'
def okB (st:PSt):Bool:=decide (st.fE=0)
theorem PW.cells {E:PEnv}{st:PSt}{w:World}(h:PW E st w) :
  w.cell? ⟨E.pb,0,none⟩=some (.pointer (some ⟨E.bb,0,none⟩))∧w.cell? ⟨E.pb,1,none⟩=some (.int .i64 E.depth)∧w.cell? ⟨E.pb,2,none⟩=some (.bool st.clause)∧w.cell? ⟨E.pb,3,none⟩=some (.int .i64 st.fE)∧w.cell? ⟨E.pb,4,none⟩=some (.int .i64 st.fAt)∧∀ j,w.frozen? ⟨E.pb,j,none⟩=false:=by
 have h1:=h.1
 refine ⟨?_,?_,?_,?_,?_,fun j=>by simp [World.frozen?,h1]⟩ <;> (rw [Lib.cell_of_heap h1];rfl)
theorem ok_any (E:PEnv)(st:PSt)(w:World)(h:PW E st w):Calls Tryz.prog 83 #[.pointer (some ⟨E.pb,0,none⟩)] w fun e w'=>e=.returned (.bool (okB st))∧w'=w:=by
 obtain ⟨_,_,_,c3,_,_⟩:=h.cells
 have hq:okB st=((st.fE:Int) == 0):=by
  unfold okB
  by_cases q:st.fE=0
  ·rw [decide_eq_true q,q];rfl
  ·rw [decide_eq_false q];symm;rw [← Bool.not_eq_true,beq_iff_eq];omega
 have HQ:=Lib.hid hq
 clear h hq
 go_enter Tryz.func83,Tryz.ntmps83
 go_wp2
 go_ret
 exact ⟨ret_bool HQ.out.symm,rfl⟩
theorem PW.fault {E:PEnv}{st:PSt}{w:World}(h:PW E st w)(c a:Nat):PW E { st with fE:=c,fAt:=a } ((w.setCell ⟨E.pb,3,none⟩ (.int .i64 c)).setCell ⟨E.pb,4,none⟩ (.int .i64 a))∧Kp E.B w ((w.setCell ⟨E.pb,3,none⟩ (.int .i64 c)).setCell ⟨E.pb,4,none⟩ (.int .i64 a)):=by
 obtain ⟨h1,h2,h3,h4,h5⟩:=h
 have hkeep:∀ (k:Nat) (cs:Array Value) (T:TypeId) (fr:Nat × Nat),w.heap[k]?=some (.cells cs T fr)→T≠156→((w.setCell ⟨E.pb,3,none⟩ (.int .i64 c)).setCell ⟨E.pb,4,none⟩ (.int .i64 a)).heap[k]?=some (.cells cs T fr):=fun k cs T fr h0 q=>by
  have hne:k≠E.pb:=by
   rintro rfl
   rw [h1] at h0
   simp only [Option.some.injEq,Obj.cells.injEq] at h0
   exact q h0.2.1.symm
  rw [heap_setCell_other _ _ _ _ hne,heap_setCell_other _ _ _ _ hne]
  exact h0
 have hb:Below E.B w ((w.setCell ⟨E.pb,3,none⟩ (.int .i64 c)).setCell ⟨E.pb,4,none⟩ (.int .i64 a)):=((Below.refl _ _).setCell h4 _).setCell h4 _
 have hk:Kp E.B w ((w.setCell ⟨E.pb,3,none⟩ (.int .i64 c)).setCell ⟨E.pb,4,none⟩ (.int .i64 a)):=⟨hb,fun k cs T fr h0 q1 _ _=>hkeep k cs T fr h0 q1⟩
 refine ⟨⟨?_,?_,h3.below hb,h4,h5.1,fun r hr=>Nat.lt_of_lt_of_le (h5.2 r hr) hb.size⟩,hk⟩
 ·rw [heap_setCell_same _ E.pb 4 _ _ _ (heap_setCell_same w E.pb 3 _ _ _ h1)]
  rfl
 ·obtain ⟨b1,nv,l,b2,b3,b4,b5⟩:=h2
  refine ⟨b1,nv,l,hkeep _ _ _ _ b2 (by decide),b3,?_,fun p hp=>(b5 p hp).kept hk⟩
  have hne:=own_ne b4 h1 (by decide)
  exact own_set (own_set b4 hne _) hne _
theorem fail_any (E:PEnv)(c:Nat)(st:PSt)(w:World)(h:PW E st w)(h0:0<E.toks.length)(hn:E.toks.length≤1099511627776) :
  Calls Tryz.prog 139 #[.pointer (some ⟨E.pb,0,none⟩),.int .i64 c] w (PPost E (0,failM E.toks c st) w):=by
 have HO:=Lib.hid (ok_any E st w h)
 have hp:=peek_any E.R E.B E.bb E.tv E.toks st.used st.nodes w h.2.1 h.2.2.1 h0 h.2.2.2.2.1 hn
 have hz:=h.lt
 by_cases hf:st.fE=0
 ·have hq:failM E.toks c st={ st with fE:=c,fAt:=(peekF E.toks st.used).place }:=by rw [failM,if_pos hf]
  rw [hq]
  generalize peekF E.toks st.used=t at hp
  obtain ⟨k,x,y,q⟩:=t
  have ho:okB st=true:=decide_eq_true hf
  rw [ho] at HO
  obtain ⟨c0,_,_,c3,c4,cz⟩:=h.cells
  have HP:=Lib.hid hp
  have H:=Lib.hid h
  have tf:=tokField3
  clear hq hp hf ho h
  go_enter Tryz.func139,Tryz.ntmps139
  go_wp2_with (first|(go_at_call 83;refine HO.out.mono ?_;rintro e w1 ⟨rfl,rfl⟩)|(go_at_call 146;refine HP.out.mono ?_))
  rintro e w2 ⟨he,hb⟩
  rw [tokAgg] at he
  subst he
  have h2:=H.out.later hb
  obtain ⟨d0,_,_,d3,d4,dz⟩:=h2.cells
  have H2:=Lib.hid h2
  clear h2
  go_wp2
  go_ret
  obtain ⟨f1,f2⟩:=H2.out.fault c q
  exact ⟨rfl,f1,(Kp.of hb H.out.B_le).trans f2⟩
 ·have hq:failM E.toks c st=st:=by rw [failM,if_neg hf]
  have ho:okB st=false:=decide_eq_false hf
  rw [hq]
  rw [ho] at HO
  have H:=Lib.hid h
  clear hq hp hf ho h
  go_enter Tryz.func139,Tryz.ntmps139
  go_wp2_with (first|(go_at_call 83;refine HO.out.mono ?_;rintro e w1 ⟨rfl,rfl⟩))
  go_ret
  exact ⟨rfl,H.out,Kp.refl _ _⟩
def StrsAt (w:World)(v:Value)(l:List (List UInt8)):Prop :=
 ∃ b off cap,v=.slice (some ⟨b,off,none⟩) l.length cap∧b<w.heap.size∧∀ j,(h:j<l.length)→w.cell? ⟨b,off+j,none⟩=some (.string ⟨l[j].toArray⟩)
theorem StrsAt.later {w w':World}{v:Value}{l:List (List UInt8)}(h:StrsAt w v l)(hb:Below w.heap.size w w'):StrsAt w' v l:=by
 obtain ⟨b,off,cap,hv,hlt,hc⟩:=h
 exact ⟨b,off,cap,hv,by have:=hb.size;omega,fun j hj=>(hb.cell (p:=⟨b,off+j,none⟩) hlt).trans (hc j hj)⟩
def boxL (l:List (List UInt8)):List ByteArray:=l.map fun x=>⟨x.toArray⟩
theorem contains_box (l:List (List UInt8))(x:List UInt8):Lib.containsS (boxL l) ⟨x.toArray⟩=decide (x∈l):=by
 by_cases h:x∈l
 ·rw [decide_eq_true h]
  exact (Lib.containsS_iff _ _).2 (List.mem_map.2 ⟨x,h,rfl⟩)
 ·rw [decide_eq_false h,← Bool.not_eq_true]
  intro q
  obtain ⟨y,hy,e⟩:=List.mem_map.1 ((Lib.containsS_iff _ _).1 q)
  have:y=x:=by
   have:=congrArg (fun b:ByteArray=>b.data.toList) e
   simpa using this
  exact h (this ▸ hy)
theorem contains_any (v:Value)(l:List (List UInt8))(x:List UInt8)(w:World)(h:StrsAt w v l)(hn:l.length≤1000) :
  Calls Tryz.prog 213 #[v,.string ⟨x.toArray⟩] w fun e w'=>e=.returned (.bool (decide (x∈l)))∧w'=w:=by
 obtain ⟨b,off,cap,rfl,_,hc⟩:=h
 refine (Tryz.slices_Contains_string b off l.length cap (boxL l) ⟨x.toArray⟩ w (by simp [boxL]) (by omega) (fun j hj=>?_)).mono ?_
 ·have hj':j<l.length:=by simpa [boxL] using hj
  rw [hc j hj']
  simp [boxL,List.getD_eq_getElem?_getD,hj']
 ·rintro e w' ⟨rfl,rfl⟩
  refine ⟨ret_bool ?_,rfl⟩
  rw [List.take_of_length_le (by simp [boxL]),contains_box]
theorem next_any (E:PEnv)(v:Value)(l:List (List UInt8))(st:PSt)(w:World)(h:PW E st w)(hv:StrsAt w v l)(h0:0<E.toks.length)(hn:E.toks.length≤1099511627776)(hl:l.length≤1000) :
  Calls Tryz.prog 138 #[.pointer (some ⟨E.pb,0,none⟩),v] w fun e w'=>e=.returned (.bool (nextF E.toks st l))∧Below w.heap.size w w':=by
 have hp:=peek_any E.R E.B E.bb E.tv E.toks st.used st.nodes w h.2.1 h.2.2.1 h0 h.2.2.2.2.1 hn
 obtain ⟨c0,_,_,_,_,_⟩:=h.cells
 unfold nextF
 generalize peekF E.toks st.used=t at hp
 obtain ⟨k,x,y,q⟩:=t
 rw [tokAgg] at hp
 simp only
 have HP:=Lib.hid hp
 have HV:=Lib.hid hv
 have hsl:∃ ao n cap,v=.slice ao n cap:=by obtain ⟨b,off,cap,rfl,_⟩:=hv;exact ⟨_,_,_,rfl⟩
 obtain ⟨ao,n,cap,rfl⟩:=hsl
 clear hp hv h
 by_cases k2:k=2
 ·subst k2
  have hq:((2 == 2 || 2 == 4) && decide (y∈l))=decide (y∈l):=by simp
  rw [hq]
  clear hq
  go_enter Tryz.func138,Tryz.ntmps138
  go_wp2_with (first|(go_at_call 146;refine HP.out.mono ?_;rintro e w1 ⟨rfl,hb⟩)|(go_at_call 213;refine (contains_any _ l y _ ?_ hl).mono ?_))
  ·exact HV.out.later (hb.alloc hb.size _)
  ·rintro e w2 ⟨rfl,rfl⟩
   go_wp2
   go_ret
   exact ⟨rfl,hb.alloc hb.size _⟩
 by_cases k4:k=4
 ·subst k4
  have hq:((4 == 2 || 4 == 4) && decide (y∈l))=decide (y∈l):=by simp
  rw [hq]
  clear hq
  go_enter Tryz.func138,Tryz.ntmps138
  go_wp2_with (first|(go_at_call 146;refine HP.out.mono ?_;rintro e w1 ⟨rfl,hb⟩)|(go_at_call 213;refine (contains_any _ l y _ ?_ hl).mono ?_))
  ·exact HV.out.later (hb.alloc hb.size _)
  ·rintro e w2 ⟨rfl,rfl⟩
   go_wp2
   go_ret
   exact ⟨rfl,hb.alloc hb.size _⟩
 have hq:((k == 2 || k == 4) && decide (y∈l))=false:=by simp [k2,k4]
 have d2:((k:Int) == 2)=false:=by rw [← Bool.not_eq_true,beq_iff_eq];omega
 have d4:((k:Int) == 4)=false:=by rw [← Bool.not_eq_true,beq_iff_eq];omega
 rw [hq]
 clear hq k2 k4
 go_enter Tryz.func138,Tryz.ntmps138
 go_wp2_with (first|(go_at_call 146;refine HP.out.mono ?_;rintro e w1 ⟨rfl,hb⟩))
 go_ret
 exact ⟨rfl,hb.alloc hb.size _⟩
theorem leafB_M (toks:List Tok)(st:PSt):leafM toks st=((leafB toks.length st.used st.nodes).1,{ st with used:=(leafB toks.length st.used st.nodes).2.1,nodes:=(leafB toks.length st.used st.nodes).2.2 }):=by
 unfold leafM leafB
 split <;> rfl
theorem pleaf_any (E:PEnv)(st:PSt)(w:World)(h:PW E st w)(_h0:0<E.toks.length)(hn:E.toks.length≤1099511627776)(hl:st.nodes.length+1≤1099511627776) :
  Calls Tryz.prog 140 #[.pointer (some ⟨E.bb,0,none⟩)] w (PPost E (leafM E.toks st) w):=by
 obtain ⟨ao,cap,hv,_,_⟩:=h.2.2.1.form (fun _=>rfl)
 have hb:=h.2.1
 rw [hv] at hb
 refine (leaf_any E.R E.B E.bb ao E.toks.length cap st.used st.nodes w hb h.2.2.2.2.1 hn hl).mono ?_
 rintro e w' ⟨rfl,hb',hk⟩
 rw [← hv] at hb'
 rw [leafB_M]
 refine ⟨rfl,h.builder hb' hk ?_,hk.kp⟩
 have:=h.2.2.2.2.1
 unfold leafB
 split
 ·exact this
 ·simp only;omega
theorem badK_any (n:Nat)(ks:List Int):ks.any (badK n)=ks.any (fun k=>decide (k<0) || decide ((n:Int)≤k)):=rfl
theorem rawB_M (kind:Int)(ks:List Int)(st:PSt):rawM kind ks st=((rawB kind ks st.nodes).1,{ st with nodes:=(rawB kind ks st.nodes).2 }):=by
 unfold rawM rawB
 rw [badK_any]
 split <;> rfl
theorem praw_any (E:PEnv)(kind:Int)(v:Value)(ks:List Int)(st:PSt)(w:World)(h:PW E st w)(hv:IntsAt w v ks)(hk:ks.length≤1099511627776)(hl:st.nodes.length+1≤1099511627776) :
  Calls Tryz.prog 145 #[.pointer (some ⟨E.bb,0,none⟩),.int .i64 kind,v] w (PPost E (rawM kind ks st) w):=by
 refine (node_any E.R E.B E.bb E.tv st.used st.nodes kind v ks w h.2.1 hv h.2.2.2.2.2 hk hl).mono ?_
 rintro e w' ⟨rfl,hb',hk⟩
 rw [rawB_M]
 exact ⟨rfl,h.builder hb' hk h.2.2.2.2.1,hk.kp⟩
theorem pnode_any (E:PEnv)(kind:Int)(v:Value)(ks:List Int)(st:PSt)(w:World)(h:PW E st w)(hv:IntsAt w v ks)(hk:ks.length≤1099511627776)(hl:st.nodes.length+1≤1099511627776) :
  Calls Tryz.prog 88 #[.pointer (some ⟨E.pb,0,none⟩),.int .i64 kind,v] w (PPost E (nodeM kind ks st) w):=by
 have HO:=Lib.hid (ok_any E st w h)
 have HN:=Lib.hid (praw_any E kind v ks st w h hv hk hl)
 obtain ⟨c0,_,_,_,_,_⟩:=h.cells
 have H:=Lib.hid h
 by_cases hf:st.fE=0
 ·have hq:nodeM kind ks st=rawM kind ks st:=by rw [nodeM,if_pos hf]
  rw [hq]
  rw [show okB st=true from decide_eq_true hf] at HO
  clear hq hf h hv
  go_enter Tryz.func88,Tryz.ntmps88
  go_wp2_with (first|(go_at_call 83;refine HO.out.mono ?_;rintro e w1 ⟨rfl,rfl⟩)|(go_at_call 145;refine HN.out.mono ?_))
  rintro e w2 ⟨rfl,hp,hk2⟩
  go_wp2
  go_ret
  exact ⟨rfl,hp,hk2⟩
 ·have hq:nodeM kind ks st=(0,st):=by rw [nodeM,if_neg hf]
  rw [hq]
  rw [show okB st=false from decide_eq_false hf] at HO
  clear hq hf h hv
  go_enter Tryz.func88,Tryz.ntmps88
  go_wp2_with (first|(go_at_call 83;refine HO.out.mono ?_;rintro e w1 ⟨rfl,rfl⟩))
  go_ret
  exact ⟨rfl,H.out,Kp.refl _ _⟩
end Go.Proofs.YtbodlpoomfefcaaGreatDoor
