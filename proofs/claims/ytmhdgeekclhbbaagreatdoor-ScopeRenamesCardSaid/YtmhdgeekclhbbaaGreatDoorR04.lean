/- Walks and plain laws: ParseW0, ParseW1, ParseW2, ParseW3, ParseW4, ParseW5, ParseLaws2, ParseW6, BagW1. -/
import Derived.Test.YtmhdgeekclhbbaaGreatDoorR02
import Derived.Test.YtmhdgeekclhbbaaGreatDoorR03
import Derived.Lib.OwnBridge
import Derived.Sort.OwnSorted
import Derived.Sort.Walk0
set_option maxHeartbeats 16000000
set_option maxRecDepth 100000
set_option linter.unusedVariables false
set_option linter.unusedSimpArgs false
namespace Go.Proofs.YtmhdgeekclhbbaaGreatDoor
open Go.RowKit
theorem Tryz.Mt:(Tryz.prog.info? 129).map (fun i=>(i.zero,i.size,i.bytes))=some (some (.agg #[.int .i64 0,.int .i64 0,.slice none 0 0]),3,40):=by kernel_rfl
def eH (w:World)(v:Value)(ks:List Int):Prop :=
 ∃ ao cap,v=.slice ao ks.length cap∧ks.length≤cap ∧
  (0<ks.length→∃ (b off:Nat) (cs:Array Value) (fr:Nat × Nat),ao=some ⟨b,off,none⟩∧w.heap[b]?=some (.cells cs 3 fr)∧∀ j,(h:j<ks.length)→cs[off+j]?=some (.int .i64 ks[j]))
def Kp (B:Nat)(w w':World):Prop :=
 Below B w w'∧∀ (k:Nat) (cs:Array Value) (T:TypeId) (fr:Nat × Nat),w.heap[k]?=some (.cells cs T fr)→T≠184→T≠241→T≠129→w'.heap[k]?=some (.cells cs T fr)
theorem Kp.refl (B:Nat)(w:World):Kp B w w:=⟨bI _ _,fun _ _ _ _ h _ _ _=>h⟩
theorem Kp.trans {B:Nat}{a b c:World}(h:Kp B a b)(k:Kp B b c):Kp B a c:=⟨h.1.trans k.1,fun n cs T fr h0 h1 h2 h3=>k.2 n cs T fr (h.2 n cs T fr h0 h1 h2 h3) h1 h2 h3⟩
theorem Kp.size {B:Nat}{w w':World}(h:Kp B w w'):w.heap.size≤w'.heap.size:=h.1.size
theorem Kp.of {B:Nat}{w w':World}(h:Below w.heap.size w w')(hB:B≤w.heap.size):Kp B w w' :=
 ⟨h.mono hB,fun k cs T fr h0 _ _ _=>by rw[h.block k (bS h0).1];exact h0⟩
theorem Kp.mono {B B':Nat}{w w':World}(h:Kp B w w')(hB:B'≤B):Kp B' w w':=⟨h.1.mono hB,h.2⟩
def Kb (B:Nat)(w w':World):Prop :=
 Below B w w'∧∀ (k:Nat) (cs:Array Value) (T:TypeId) (fr:Nat × Nat),w.heap[k]?=some (.cells cs T fr)→T≠241→T≠129→w'.heap[k]?=some (.cells cs T fr)
theorem Kb.kp {B:Nat}{w w':World}(h:Kb B w w'):Kp B w w':=⟨h.1,fun k cs T fr h0 _ h2 h3=>h.2 k cs T fr h0 h2 h3⟩
theorem Kb.refl (B:Nat)(w:World):Kb B w w:=⟨bI _ _,fun _ _ _ _ h _ _=>h⟩
theorem Kb.trans {B:Nat}{a b c:World}(h:Kb B a b)(k:Kb B b c):Kb B a c:=⟨h.1.trans k.1,fun n cs T fr h0 h1 h2=>k.2 n cs T fr (h.2 n cs T fr h0 h1 h2) h1 h2⟩
theorem Kb.of {B:Nat}{w w':World}(h:Below w.heap.size w w')(hB:B≤w.heap.size):Kb B w w' :=
 ⟨h.mono hB,fun k cs T fr h0 _ _=>by rw[h.block k (bS h0).1];exact h0⟩
theorem eH.kept {B:Nat}{w w':World}{v:Value}{ks:List Int}(h:eH w v ks)(hk:Kp B w w'):eH w' v ks:=by
 obtain⟨ao,cap,hv,hc,hf⟩:=h;refine⟨ao,cap,hv,hc,fun h0=>?_⟩;obtain⟨b,off,cs,fr,ha,hb,hj⟩:=hf h0;exact⟨b,off,cs,fr,ha,hk.2 b cs _ fr hb (by decide) (by decide) (by decide),hj⟩
def aed (R:List Nat)(v:Value):Prop:=∀ b off n cap,v=.slice (some ⟨b,off,none⟩) n cap→0<n→b ∉ R
def qG (R:List Nat)(w:World)(v:Value)(ks:List Int):Prop:=eH w v ks∧aed R v
theorem qG.kept {R:List Nat}{B:Nat}{w w':World}{v:Value}{ks:List Int}(h:qG R w v ks)(hk:Kp B w w'):qG R w' v ks:=⟨h.1.kept hk,h.2⟩
theorem iP {w:World}{base e sz n:Nat}{v:Value}{xs:List Value}(h:w.ownsRow base e sz v n xs){a:Addr}(hne:some a.block≠v.ownBlock)(u:Value):(w.setCell a u).ownsRow base e sz v n xs:=by
 refine⟨h.1,?_⟩
 rcases h.2 with hn|⟨g,cap,cur,hv,hg,hh,hr⟩
 ·exact .inl hn
 ·refine .inr ⟨g,cap,cur,hv,hg,?_,hr⟩
  rw[heap_setCell_other]
  ·exact hh
  ·intro q
   exact hne (by rw[← q,hv];rfl)
def wQ (p:Nd × Value):List Value:=[.int .i64 p.1.kind,.int .i64 p.1.tok,p.2]
theorem Mv (p:Nd × Value):(wQ p).length=3:=rfl
def BW (R:List Nat)(B bb:Nat)(tv:Value)(used:Nat)(aj:List Nd)(w:World):Prop :=
 B≤bb∧∃ (nv:Value) (l:List (Nd × Value)),w.heap[bb]?=some (.cells #[tv,nv,.int .i64 used] 241 (0,0))∧l.map Prod.fst=aj ∧
  w.ownsRow B 129 3 nv aj.length (l.flatMap wQ)∧∀ p∈l,qG R w p.2 p.1.aA
structure bG where
 R:List Nat
 B:Nat
 pb:Nat
 bb:Nat
 tv:Value
 ah:List Tok
 depth:Nat
def PW (E:bG)(st:aJ)(w:World):Prop :=
 w.heap[E.pb]?=some (.cells #[.pointer (some ⟨E.bb,0,none⟩),.int .i64 E.depth,.bool st.aC,.int .i64 st.fE,.int .i64 st.fAt] 184 (0,0)) ∧
  BW E.R E.B E.bb E.tv st.used st.aj w∧Rec E.B w E.tv 4 bV E.ah∧E.B≤E.pb∧st.used≤E.ah.length∧∀ r∈E.R,r<w.heap.size
theorem BW.later {R:List Nat}{B bb:Nat}{tv:Value}{used:Nat}{aj:List Nd}{w w':World}(h:BW R B bb tv used aj w)(hb:Below w.heap.size w w'):BW R B bb tv used aj w':=by
 obtain⟨h1,nv,l,h2,h3,h4,h5⟩:=h;refine⟨h1,nv,l,?_,h3,own_below h4 hb,fun p hp=>(h5 p hp).kept (Kp.of hb (bD _))⟩;rw[hb.block bb (bS h2).1];exact h2
theorem PW.later {E:bG}{st:aJ}{w w':World}(h:PW E st w)(hb:Below w.heap.size w w'):PW E st w':=by
 obtain⟨h1,h2,h3,h4,h5⟩:=h;refine⟨?_,h2.later hb,?_,h4,h5.1,fun r hr=>Nat.lt_of_lt_of_le (h5.2 r hr) hb.size⟩
 ·rw[hb.block E.pb (bS h1).1];exact h1
 ·have hlt:=(bS h1).1
  exact h3.below (hb.mono (by omega))
theorem PW.lt {E:bG}{st:aJ}{w:World}(h:PW E st w):E.pb<w.heap.size:=(bS h.1).1
theorem PW.fq {E:bG}{st:aJ}{w:World}(h:PW E st w):E.B≤w.heap.size:=by have:=h.lt;have:=h.2.2.2.1;omega
theorem BW.lt {R:List Nat}{B bb:Nat}{tv:Value}{used:Nat}{aj:List Nd}{w:World}(h:BW R B bb tv used aj w):bb<w.heap.size:=by
 obtain⟨_,nv,l,h2,_⟩:=h;exact(bS h2).1
def Xq (R:List Nat)(B bb:Nat)(tv:Value)(r:Int)(used:Nat)(aj:List Nd)(w:World)(e:Ending)(w':World):Prop :=
 e=.returned (.int .i64 r)∧BW R B bb tv used aj w'∧Kb B w w'
theorem Mw (tv:Value)(ao:Option Addr)(n cap:Nat)(w:World)(hn:n≤1099511627776) :
  Calls Tryz.prog 60 #[.agg #[tv,.slice ao n cap]] w fun e w'=>e=.returned (.int .i64 ((n:Int) - 1))∧Below w.heap.size w w':=by
 go_enter Tryz.func60,Tryz.ntmps60;go_wp2;go_ret;exact⟨rfl,(bI _ _).alloc (bD _) _⟩
theorem SF (R:List Nat)(B bb:Nat)(tv:Value)(used:Nat)(aj:List Nd)(kind tok:Int)(kv:Value)(ks:List Int)(w:World)(hb:BW R B bb tv used aj w)(hk:qG R w kv ks)(hn:aj.length+1≤1099511627776) :
  Calls Tryz.prog 228 #[.pointer (some ⟨bb,0,none⟩),.agg #[.int .i64 kind,.int .i64 tok,kv]] w (Xq R B bb tv (aj.length:Nat) used (aj++[⟨kind,tok,ks⟩]) w):=by
 obtain⟨i0,hi,hz0,hz1,hz2⟩:=info_parts Tryz.Mt;obtain⟨h1,nv,l,h2,h3,h4,h5⟩:=hb;have hlt:=(bS h2).1;have HI:=ay hk;obtain⟨aok,afU,rfl,_,_⟩:=hk.1;generalize hkv:Value.slice aok ks.length afU=kv at HI
 have hone:kv.oneCell'=true:=by rw[← hkv];rfl
 clear hkv
 obtain⟨ao,cap,rfl,_⟩:∃ ao cap,nv=.slice ao aj.length cap∧True:=by
  rcases h4.2 with ⟨hv,hn0⟩|⟨g,cap,cur,hv,_⟩
  ·exact⟨none,0,by rw[hv,hn0],trivial⟩
  ·exact⟨_,cap,hv,trivial⟩
 have c0:w.cell? ⟨bb,0,none⟩=some tv:=by rw[aV h2];rfl
 have c1:w.cell? ⟨bb,1,none⟩=some (.slice ao aj.length cap):=by rw[aV h2];rfl
 have hal:=(bI w.heap.size w).alloc (bD _) (.cells #[.int .i64 kind,.int .i64 tok,kv] 129);have d0:=iW hal c0;have d1:=iW hal c1
 have hz:(w.alloc (.cells #[.int .i64 kind,.int .i64 tok,kv] 129)).frozen? ⟨bb,1,none⟩=false:=by
  simp[World.frozen?,(gY w _ bb hlt).trans h2]
 go_enter Tryz.func228,Tryz.ntmps228;go_wp2;have nq:=aY w (.cells #[.int .i64 kind,.int .i64 tok,kv] 129)
 have e0:(w.alloc (.cells #[.int .i64 kind,.int .i64 tok,kv] 129)).cell? ⟨w.heap.size,0,none⟩=some (.int .i64 kind):=by rw[aV nq];rfl
 have e1:(w.alloc (.cells #[.int .i64 kind,.int .i64 tok,kv] 129)).cell? ⟨w.heap.size,1,none⟩=some (.int .i64 tok):=by rw[aV nq];rfl
 have e2:(w.alloc (.cells #[.int .i64 kind,.int .i64 tok,kv] 129)).cell? ⟨w.heap.size,2,none⟩=some kv:=by rw[aV nq];rfl
 have hown:=h4.alloc (.cells #[.int .i64 kind,.int .i64 tok,kv] 129);have hbb:=(gY w (.cells #[.int .i64 kind,.int .i64 tok,kv] 129) bb hlt).trans h2;have hne:=own_ne hown hbb (by decide)
 have hzq:(w.alloc (.cells #[.int .i64 kind,.int .i64 tok,kv] 129)).heap.size=w.heap.size+1:=by simp
 have hBw:B≤w.heap.size:=by omega
 generalize w.alloc (.cells #[.int .i64 kind,.int .i64 tok,kv] 129)=wq at e0 e1 e2 hown hbb hne hzq hal d0 d1 hz ⊢
 have aee:B≤wq.heap.size:=by omega
 have aef:bb<wq.heap.size:=by omega
 have hzz:∀ o,(wq.alloc o).drew.frozen? ⟨bb,1,none⟩=false:=fun o=>by
  have:(wq.alloc o).drew.heap[bb]?=some (.cells #[tv,.slice ao aj.length cap,.int .i64 used] 241 (0,0)):=(gY wq o bb aef).trans hbb;simp[World.frozen?,this]
 have hzg:w.heap.size<wq.heap.size:=by omega
 have hne2:some w.heap.size≠(Value.slice ao aj.length cap).ownBlock:=fun q=>by have:=(h4.lt w.heap.size q.symm).2;omega
 have Ea:Hid (∀ u∈[Value.int .i64 kind,.int .i64 tok,kv],u.oneCell'=true):=ay (by
  intro u hu;simp only[List.mem_cons,List.not_mem_nil,or_false] at hu
  rcases hu with rfl|rfl|rfl
  ·rfl
  ·rfl
  ·exact hone)
 have hcc:∀ o,(wq.alloc o).drew.cell? ⟨bb,1,none⟩=some (.slice ao aj.length cap):=fun o=>by
  have:(wq.alloc o).drew.heap[bb]?=some (.cells #[tv,.slice ao aj.length cap,.int .i64 used] 241 (0,0)):=(gY wq o bb aef).trans hbb;rw[aV this];rfl
 clear nq c0 c1 hzq
 go_region_law ((refine step_append_lies _ (by rfl) _ _ _ (by rfl) B 129 i0 _ 3 40 Tryz.underlying79 hi hz0 hz1 hz2 rfl (by omega) (.slice ao aj.length cap) aj.length _ (by rfl) (nZ (hown.alloc _)) ⟨wq.heap.size,0,none⟩ 1 1 [.int .i64 kind,.int .i64 tok,kv] (by rfl) (by rfl) (vv (cs:=#[.int .i64 kind,.int .i64 tok,kv]) (t:=129) (fr:=(0,0)) (aY wq _)) (Ea.out) (by omega) (by unfold maxLen;omega) (by omega) (by simp;omega) (wq.heap.size+1) (by simp) ?_;intro gg kE w5 gq gK vL JK;have SH:=(gK.frozen_far ⟨bb,1,none⟩ (by simp;omega) hne).trans (hzz _);have hc5:=(gK.cell_far ⟨bb,1,none⟩ (by simp;omega) hne).trans (hcc _)))
 all_goals
  have aeg:Below B w w5:=(((bI _ _).mono hBw).trans (hal.mono hBw)).trans ((((bI wq.heap.size wq).mono aee).alloc aee (.cells #[.int .i64 kind,.int .i64 tok,kv] 129)).drew.grown gK (by simp;omega) (fun q hq=>(hown.lt q hq).1))
  have hkb:∀ (k:Nat) (cs:Array Value) (T:TypeId) (fr:Nat × Nat),w.heap[k]?=some (.cells cs T fr)→T≠129→w5.heap[k]?=some (.cells cs T fr):=fun k cs T fr h0 h1=>by
   have hk:=(bS h0).1
   have h2:wq.heap[k]?=some (.cells cs T fr):=by rw[hal.block k hk];exact h0
   exact iI (nZ (hown.alloc _)) gK ((gY wq _ k (by omega)).trans h2) h1
  have Xr:=hkb bb _ _ _ h2 (by decide)
  have hc0:w5.cell? ⟨bb,0,none⟩=some tv:=by rw[aV Xr];rfl
  have h5':=fun p hp=>(h5 p hp)
  have H4:=ay gq;clear gK gq vL d0 d1 e0 e1 e2 hzz hcc hz hone h4 hown;go_wp2;go_ret;generalize Value.slice (some ⟨gg,0,none⟩) (aj.length+1) kE=nv5 at H4 ⊢;have aeh:bb<w5.heap.size:=(bS Xr).1
  have acP:Kb B w ((w5.setCell ⟨bb,1,none⟩ nv5).alloc (.cells #[tv,nv5] 81)):=by
   refine⟨(aeg.setCell h1 _).alloc (by have:=aeg.size;simp;omega) _,fun k cs T fr h0 q1 q2=>?_⟩;have r1:=hkb k cs T fr h0 q2;have lM:=(bS r1).1;rw[gY _ _ k (by simpa using lM),heap_setCell_other]
   ·exact r1
   ·show k≠bb
    rintro rfl;rw[Xr] at r1;simp only[Option.some.injEq,Obj.cells.injEq] at r1;exact q1 r1.2.1.symm
  refine⟨lJ (by omega),⟨h1,nv5,l++[(⟨kind,tok,ks⟩,kv)],?_,by simp[h3],?_,?_⟩,acP⟩
  ·rw[gY _ _ bb (by simpa using aeh),heap_setCell_same w5 bb 1 _ _ _ Xr]
   rfl
  ·rw[List.flatMap_append,bN]
   exact(iP H4.out (own_ne H4.out Xr (by decide)) nv5).alloc _
  ·intro p hp
   rcases List.mem_append.1 hp with hp|hp
   ·exact(h5 p hp).kept acP.kp
   ·rw[List.mem_singleton] at hp
    subst hp;exact HI.out.kept acP.kp
theorem Kb.afV {B bb:Nat}{w:World}{cs:Array Value}{fr:Nat × Nat}(h:w.heap[bb]?=some (.cells cs 241 fr))(hB:B≤bb)(i:Nat)(u:Value):Kb B w (w.setCell ⟨bb,i,none⟩ u):=by
 refine⟨(bI _ _).setCell hB u,fun k cs' T fr' h0 q1 _=>?_⟩;rw[heap_setCell_other]
 ·exact h0
 ·show k≠bb
  rintro rfl;rw[h] at h0;simp only[Option.some.injEq,Obj.cells.injEq] at h0;exact q1 h0.2.1.symm
theorem BW.kb {R:List Nat}{B bb:Nat}{tv:Value}{used:Nat}{aj:List Nd}{w:World}(h:BW R B bb tv used aj w):B≤bb:=h.1
theorem BW.abe {R:List Nat}{B bb:Nat}{tv:Value}{used:Nat}{aj:List Nd}{w:World}(h:BW R B bb tv used aj w)(u:Nat):BW R B bb tv u aj (w.setCell ⟨bb,2,none⟩ (.int .i64 u))∧Kb B w (w.setCell ⟨bb,2,none⟩ (.int .i64 u)):=by
 obtain⟨h1,nv,l,h2,h3,h4,h5⟩:=h;have hk:=Kb.afV h2 h1 2 (.int .i64 u);refine⟨⟨h1,nv,l,?_,h3,iP h4 (own_ne h4 h2 (by decide)) _,fun p hp=>(h5 p hp).kept hk.kp⟩,hk⟩;rw[heap_setCell_same w bb 2 _ _ _ h2]
 rfl
theorem BW.drewN {R:List Nat}{B bb:Nat}{tv:Value}{used:Nat}{aj:List Nd}{w:World}(h:BW R B bb tv used aj w)(n:Nat):BW R B bb tv used aj (w.drewN n):=h.later (below_drewN (bI _ _) n)
def uQ (n used:Nat)(aj:List Nd):Int × Nat × List Nd:=if used=n then (-1,used,aj) else ((aj.length:Nat),used+1,aj++[⟨19,(used:Nat),[]⟩])
theorem Xt (R:List Nat)(B bb:Nat)(ao:Option Addr)(n cap used:Nat)(aj:List Nd)(w:World)(hb:BW R B bb (.slice ao n cap) used aj w)(hu:used≤n)(hn:n≤1099511627776)(hl:aj.length+1≤1099511627776) :
  Calls Tryz.prog 162 #[.pointer (some ⟨bb,0,none⟩)] w (Xq R B bb (.slice ao n cap) (uQ n used aj).1 (uQ n used aj).2.1 (uQ n used aj).2.2 w):=by
 have hB:=hb.kb;have hlt:=hb.lt;have HB:=ay hb;obtain⟨h1,nv,l,h2,h3,h4,h5⟩:=hb
 have c0:w.cell? ⟨bb,0,none⟩=some (.slice ao n cap):=by rw[aV h2];rfl
 have c2:w.cell? ⟨bb,2,none⟩=some (.int .i64 used):=by rw[aV h2];rfl
 have hz:w.frozen? ⟨bb,2,none⟩=false:=by simp[World.frozen?,h2]
 clear h2 h3 h4 h5
 by_cases he:used=n
 ·have t1:((used:Int) == (n:Int))=true:=by rw[he,beq_iff_eq]
  have hq:uQ n used aj=(-1,used,aj):=by rw[uQ,if_pos he]
  rw[hq];clear hq;go_enter Tryz.func162,Tryz.ntmps162;go_wp2
  go_quiet (fail)
  go_wp2;go_ret;exact⟨rfl,HB.out.drewN _,Kb.of (below_drewN (bI _ _) _) (by omega)⟩
 ·have t1:((used:Int) == (n:Int))=false:=by rw[← Bool.not_eq_true,beq_iff_eq];omega
  have hq:uQ n used aj=(((aj.length:Nat):Int),used+1,aj++[⟨19,(used:Nat),[]⟩]):=by rw[uQ,if_neg he]
  rw[hq]
  have hnil:∀ w,qG R w (.slice none 0 0) []:=fun w=>⟨⟨none,0,rfl,bD _,fun h=>absurd h (by simp)⟩,fun _ _ _ _ h=>by cases h⟩
  have HN:=ay hnil;clear hq hnil;go_enter Tryz.func162,Tryz.ntmps162;go_wp2
  go_quiet (fail)
  go_wp2_with fail;have hbd:=HB.out.drewN nq;obtain⟨hs1,hs2⟩:=hbd.abe (used+1)
  have e2:((used:Int)+1)=((used+1:Nat):Int):=by omega
  rw[e2];clear e2;have hk0:Kb B w (w.drewN nq):=Kb.of (below_drewN (bI _ _) _) (by omega);generalize (w.drewN nq).setCell ⟨bb,2,none⟩ (.int .i64 (used+1:Nat))=w4 at hs1 hs2 ⊢;refine(SF R B bb _ (used+1) aj 19 used _ [] w4 hs1 (HN.out _) hl).mono ?_;rintro e w5 ⟨rfl,hb5,lM⟩;go_wp2;go_ret;exact⟨rfl,hb5,(hk0.trans hs2).trans lM⟩
def JL (t:Tok):Value:=.agg #[.int .i64 t.kind,.string ⟨t.lead.toArray⟩,.string ⟨t.text.toArray⟩,.int .i64 t.place]
theorem abf (ah:List Tok)(u:Nat)(h:0<ah.length):∃ (k:Nat) (hk:k<ah.length),k=min u (ah.length - 1)∧dh ah u=ah[k]:=by
 refine⟨min u (ah.length - 1),by omega,rfl,?_⟩;unfold dh;rw[List.getD_eq_getElem?_getD,yV (by omega),Option.getD_some]
theorem zx (R:List Nat)(B bb:Nat)(tv:Value)(ah:List Tok)(used:Nat)(aj:List Nd)(w:World)(hb:BW R B bb tv used aj w)(ht:Rec B w tv 4 bV ah)(h0:0<ah.length)(hu:used≤ah.length)(hn:ah.length≤1099511627776) :
  Calls Tryz.prog 169 #[.pointer (some ⟨bb,0,none⟩)] w fun e w'=>e=.returned (JL (dh ah used))∧Below w.heap.size w w':=by
 obtain⟨h1,nv,l,h2,h3,h4,h5⟩:=hb;have hlt:=(bS h2).1;obtain⟨ao,cap,rfl,hcap,hf⟩:=ht.form (fun _=>rfl);obtain⟨b,off,rfl,hB,hcell⟩:=hf h0
 have c0:w.cell? ⟨bb,0,none⟩=some (.slice (some ⟨b,off,none⟩) ah.length cap):=by rw[aV h2];rfl
 have c2:w.cell? ⟨bb,2,none⟩=some (.int .i64 used):=by rw[aV h2];rfl
 obtain⟨k,hk,hkm,hp⟩:=abf ah used h0;have hx0:=hcell k 0 _ hk rfl;have hx1:=hcell k 1 _ hk rfl;have hx2:=hcell k 2 _ hk rfl;have hx3:=hcell k 3 _ hk rfl;rw[hp];generalize ah[k]=t at hx0 hx1 hx2 hx3;obtain⟨c,x,y,q⟩:=t;simp only[Nat.add_zero] at hx0 hx1 hx2 hx3;have hal:=(bI w.heap.size w).alloc (bD _) (.cells #[.int .i64 0,.string ⟨#[]⟩,.string ⟨#[]⟩,.int .i64 0] 131);have d0:=iW hal c0;have d2:=iW hal c2;have y0:=iW hal hx0;have y1:=iW hal hx1;have y2:=iW hal hx2;have y3:=iW hal hx3
 have hk0:(0:Int)<(ah.length:Int):=by omega
 have HKM:=ay hkm;clear hkm c0 c2 hx0 hx1 hx2 hx3 hcell hf ht h2 h3 h4 h5 hp;go_enter Tryz.func169,Tryz.ntmps169;go_wp2;have hnw:=aY w (.cells #[.int .i64 0,.string ⟨#[]⟩,.string ⟨#[]⟩,.int .i64 0] 131);generalize w.alloc _=w1 at hnw hal d0 d2 y0 y1 y2 y3 ⊢
 have hmin:min (used:Int) ((ah.length:Int) - 1)=(k:Int):=by have:=HKM.out;omega
 have w1':IntKind.i64.wrap ((ah.length:Int) - 1)=(ah.length:Int) - 1:=IntWalk.i64_in _ (by omega)
 have i1:(k:Int)<(ah.length:Int):=by omega
 go_still_tail 19,(by kernel_rfl)
 change wpList _ _ _ _ _ w1.drew;have Xu:=hal.drew;have yu:w1.drew.heap[w.heap.size]?=some (.cells #[.int .i64 0,.string ⟨#[]⟩,.string ⟨#[]⟩,.int .i64 0] 131 (0,0)):=hnw;generalize w1.drew=w2 at Xu yu ⊢
 have f0:w2.cell? ⟨w.heap.size,0,none⟩=some (.int .i64 0):=by rw[aV yu];rfl
 have f1:w2.cell? ⟨w.heap.size,1,none⟩=some (.string ⟨#[]⟩):=by rw[aV yu];rfl
 have f2:w2.cell? ⟨w.heap.size,2,none⟩=some (.string ⟨#[]⟩):=by rw[aV yu];rfl
 have f3:w2.cell? ⟨w.heap.size,3,none⟩=some (.int .i64 0):=by rw[aV yu];rfl
 have z0:∀ j,w2.frozen? ⟨w.heap.size,j,none⟩=false:=by intro j;simp[World.frozen?,yu]
 clear hnw yu hmin w1' i1 y0 y1 y2 y3 d0 d2;go_wp2;refine bodyPost_ret (v:=.agg #[.int .i64 c,.string ⟨x.toArray⟩,.string ⟨y.toArray⟩,.int .i64 q]) (by simp[results,Tryz.results169,go_sem,f0,f1,f2,f3]) rfl ⟨rfl,?_⟩;exact(((Xu.setCell (bD _) _).setCell (bD _) _).setCell (bD _) _).setCell (bD _) _
theorem eH.cells {w:World}{ao:Option Addr}{n cap:Nat}{ks:List Int}(h:eH w (.slice ao n cap) ks):n=ks.length∧(0<ks.length→∃ b off,ao=some ⟨b,off,none⟩∧∀ j,(hj:j<ks.length)→w.cell? ⟨b,off+j,none⟩=some (.int .i64 ks[j])):=by
 obtain⟨ao',jE,hv,hc,hf⟩:=h
 injection hv with h1 h2 h3
 subst h1 h2 h3;refine⟨rfl,fun h0=>?_⟩;obtain⟨b,off,cs,fr,ha,hb,hj⟩:=hf h0;exact⟨b,off,ha,fun j hjl=>by rw[aV hb];exact hj j hjl⟩
theorem eH.slice {w:World}{v:Value}{ks:List Int}(h:eH w v ks):∃ ao cap,v=.slice ao ks.length cap:=by
 obtain⟨ao,cap,hv,_⟩:=h;exact⟨ao,cap,hv⟩
theorem eH.fZ {B n:Nat}{w:World}{v:Value}{ks:List Int}(h:w.ownsRow B 3 1 v n (ks.map (Value.int .i64))):eH w v ks:=by
 obtain⟨hl,h⟩:=h;rw[List.length_map,Nat.mul_one] at hl;subst hl
 rcases h with ⟨rfl,h0⟩|⟨g,cap,cur,rfl,hg,hh,hn,hm,hs,hx⟩
 ·exact⟨none,0,by rw[h0],by omega,fun q=>absurd q (by omega)⟩
 ·refine⟨some ⟨g,0,none⟩,cap,rfl,hn,fun _=>⟨g,0,cur,(0,0),rfl,hh,fun j hj=>?_⟩⟩
  have h1:(ks.map (Value.int .i64))[j]?=some (.int .i64 ks[j]):=by rw[List.getElem?_map,yV hj];rfl
  rw[← hx,List.getElem?_take] at h1
  split at h1
  ·rw[Nat.zero_add,← Array.getElem?_toList];exact h1
  ·cases h1
theorem qG.fZ {R:List Nat}{B n:Nat}{w:World}{v:Value}{ks:List Int}(h:w.ownsRow B 3 1 v n (ks.map (Value.int .i64)))(hR:∀ r∈R,r<B):qG R w v ks:=by
 refine⟨eH.fZ h,fun b off m cap hv _ hb=>?_⟩;have:=(h.lt b (by rw[hv];rfl)).1;have:=hR b hb;omega
def abg (ks:List Int)(w:World)(e:Ending)(w':World):Prop:=∃ v',e=.returned v'∧(∀ R:List Nat,(∀ r∈R,r<w.heap.size)→qG R w' v' ks)∧Below w.heap.size w w'
theorem Eb (v:Value)(ks:List Int)(w:World)(h:eH w v ks)(hn:ks.length≤1099511627776) :
  Calls Tryz.prog 159 #[v] w (abg ks w):=by
 obtain⟨ao,cap,rfl⟩:=h.slice;obtain⟨_,hf⟩:=h.cells
 by_cases h0:0<ks.length
 ·obtain⟨b,off,rfl,hc⟩:=hf h0
  refine(Tryz.slices_Clone_int b off ks.length cap ks w (bD _) (by omega) (fun j hj=>by rw[hc j hj];simp[List.getD_eq_getElem?_getD,hj])).mono ?_;rintro e w' ⟨v',he,ho,_,hb⟩;rw[List.take_length] at ho;exact⟨v',he,fun R hR=>qG.fZ ho hR,hb⟩
 ·obtain rfl:ks=[]:=List.length_eq_zero_iff.1 (by omega)
  cases ao with
  | none =>
   refine(Tryz.slices_Clone_int_nil 0 cap w).mono ?_;rintro e w' ⟨he,rfl⟩;exact⟨_,he,fun R _=>⟨⟨none,0,rfl,bD _,fun q=>absurd q (by simp)⟩,fun _ _ _ _ h=>by cases h⟩,bI _ _⟩
  | some a =>
   refine(Tryz.slices_Clone_int_zero a cap w).mono ?_;rintro e w' ⟨v',he,ho,_,hb⟩;exact⟨v',he,fun R hR=>qG.fZ (ks:=[]) ho hR,hb⟩
def xC (n:Nat)(k:Int):Bool:=decide (k<0) || decide ((n:Int)≤k)
theorem JM (R:List Nat)(B bb g:Nat)(tv:Value)(used:Nat)(aj:List Nd)(k:Int)(w:World)(hb:BW R B bb tv used aj w)(hg:w.cell? ⟨g,0,none⟩=some (.pointer (some ⟨bb,0,none⟩))) :
  Calls Tryz.prog 232 #[.int .i64 k,.pointer (some ⟨g,0,none⟩)] w fun e w'=>e=.returned (.bool (xC aj.length k))∧w'=w:=by
 obtain⟨h1,nv,l,h2,h3,h4,h5⟩:=hb
 obtain⟨ao,cap,rfl,_⟩:∃ ao cap,nv=.slice ao aj.length cap∧True:=by
  rcases h4.2 with ⟨hv,hn0⟩|⟨g,cap,cur,hv,_⟩
  ·exact⟨none,0,by rw[hv,hn0],trivial⟩
  ·exact⟨_,cap,hv,trivial⟩
 have c1:w.cell? ⟨bb,1,none⟩=some (.slice ao aj.length cap):=by rw[aV h2];rfl
 clear h2 h3 h4 h5
 by_cases hk:k<0
 ·have hq:xC aj.length k=true:=by simp[xC,hk]
  rw[hq];clear hq;go_enter Tryz.func232,Tryz.ntmps232;go_wp2
  all_goals (go_ret;refine⟨aT ?_,rfl⟩;simp[*])
 ·have hq:xC aj.length k=decide ((aj.length:Int)≤k):=by simp[xC,hk]
  have d1:decide (k<0)=false:=dA hk;rw[hq];clear hq;go_enter Tryz.func232,Tryz.ntmps232;go_wp2
  all_goals (go_ret;refine⟨aT ?_,rfl⟩;simp[*])
def abh (p:Bool)(w:World)(e:Ending)(w':World):Prop:=(∃ r:Int,e=.returned (.int .i64 r)∧(0≤r↔p=true)∧-1≤r)∧w'=w
theorem GN (R:List Nat)(B bb g:Nat)(tv:Value)(used:Nat)(aj:List Nd)(v:Value)(ks:List Int)(w:World)(hb:BW R B bb tv used aj w)(hg:w.cell? ⟨g,0,none⟩=some (.pointer (some ⟨bb,0,none⟩)))(hv:eH w v ks)(hn:ks.length≤1099511627776) :
  Calls Tryz.prog 274 #[v,.func (.func 232) #[] #[.pointer (some ⟨g,0,none⟩)]] w (abh (ks.any (xC aj.length)) w):=by
 obtain⟨ao,cap,rfl⟩:=hv.slice;obtain⟨_,hf⟩:=hv.cells;have HT:=ay (fun k=>JM R B bb g tv used aj k w hb hg);have HF:=ay hf;clear hf hb hv hg;go_enter Tryz.func274,Tryz.ntmps274;go_wp2
 go_loop [8] (fun i=>∃ k:Nat,k≤ks.length∧i=.int .i64 k∧∀ j,(hj:j<ks.length)→j<k→xC aj.length ks[j]=false) (fun i=>ks.length - (intOf i).toNat)
 case atStart=>exact⟨0,lI _,rfl,fun j _ h=>absurd h (by omega)⟩
 case round =>
  obtain⟨k,hk,rfl,hj⟩:=hrel
  by_cases hlt:k<ks.length
  ·obtain⟨b,off,rfl,hc⟩:=HF.out (by omega)
   have hx:=hc k hlt
   have hI:(k:Int)<(ks.length:Int):=by omega
   have hT:=HT.out ks[k]
   cases ht:xC aj.length ks[k] with
   | true =>
    have hany:ks.any (xC aj.length)=true:=List.any_eq_true.2 ⟨_,mX hlt,ht⟩;rw[ht] at hT;generalize ks[k]=x at hx hT;have H1:=ay hT;have H2:=ay hany;clear hc hj ht hT hany;go_wp2_with (go_at_call 232;refine H1.out.mono ?_;rintro e w1 ⟨rfl,rfl⟩);go_ret;exact⟨⟨k,rfl,⟨fun _=>H2.out,fun _=>by omega⟩,by omega⟩,rfl⟩
   | false =>
    have HJ:Hid (∀ j,(hj:j<ks.length)→j<k+1→xC aj.length ks[j]=false):=ay (fun j hjl hjk=>by
     by_cases hkj:j=k
     ·subst hkj;exact ht
     ·exact hj j hjl (by omega))
    rw[ht] at hT;generalize ks[k]=x at hx hT;have H1:=ay hT;clear hc hj ht hT;go_wp2_with (go_at_call 232;refine H1.out.mono ?_;rintro e w1 ⟨rfl,rfl⟩)
    go_round
    case rel=>exact⟨k+1,by omega,by go_num,HJ.out⟩
    case measure=>simp[intOf];omega
  ·have hany:ks.any (xC aj.length)=false:=by
    rw[← Bool.not_eq_true,List.any_eq_true];rintro⟨x,hx,hb⟩;obtain⟨j,hjl,e⟩:=List.mem_iff_getElem.1 hx;rw[← e,hj j hjl (by omega)] at hb;cases hb
   have hI:decide ((k:Int)<(ks.length:Int))=false:=dA (by omega);have H2:=ay hany;clear hany hj;go_wp2;go_ret;exact⟨⟨-1,rfl,⟨fun h=>by omega,fun h=>by rw[H2.out] at h;cases h⟩,by omega⟩,rfl⟩
theorem AQ (R:List Nat)(B bb g:Nat)(tv:Value)(used:Nat)(aj:List Nd)(v:Value)(ks:List Int)(w:World)(hb:BW R B bb tv used aj w)(hg:w.cell? ⟨g,0,none⟩=some (.pointer (some ⟨bb,0,none⟩)))(hv:eH w v ks)(hn:ks.length≤1099511627776) :
  Calls Tryz.prog 231 #[v,.func (.func 232) #[] #[.pointer (some ⟨g,0,none⟩)]] w fun e w'=>e=.returned (.bool (ks.any (xC aj.length)))∧w'=w:=by
 have H:=ay (GN R B bb g tv used aj v ks w hb hg hv hn);clear hb hg hv;go_enter Tryz.func231,Tryz.ntmps231;go_wp2_with (go_at_call 274;refine H.out.mono ?_);rintro e w1 ⟨⟨r,rfl,hr,_⟩,rfl⟩
 have hq:(ks.any (xC aj.length))=decide (0≤r):=by
  by_cases h:0≤r
  ·rw[iX h];exact hr.1 h
  ·rw[dA h,← Bool.not_eq_true];exact fun q=>h (hr.2 q)
 have HQ:=ay hq;clear hq hr;go_wp2;go_ret;exact⟨aT HQ.out.symm,rfl⟩
def JN (kind:Int)(ks:List Int)(aj:List Nd):Int × List Nd:=if ks.any (xC aj.length) then (-1,aj) else (((aj.length:Nat):Int),aj++[⟨kind,-1,ks⟩])
theorem Xv (R:List Nat)(B bb:Nat)(tv:Value)(used:Nat)(aj:List Nd)(kind:Int)(v:Value)(ks:List Int)(w:World)(hb:BW R B bb tv used aj w)(hv:eH w v ks)(hR:∀ r∈R,r<w.heap.size)(hn:ks.length≤1099511627776)(hl:aj.length+1≤1099511627776) :
  Calls Tryz.prog 168 #[.pointer (some ⟨bb,0,none⟩),.int .i64 kind,v] w (Xq R B bb tv (JN kind ks aj).1 used (JN kind ks aj).2 w):=by
 have hB:=hb.kb;have hlt:=hb.lt
 have hBw:B≤w.heap.size:=by omega
 have hal:=(bI w.heap.size w).alloc (bD _) (.cells #[.pointer (some ⟨bb,0,none⟩)] 181);have hnw:=aY w (.cells #[.pointer (some ⟨bb,0,none⟩)] 181);have hb1:=hb.later hal;have hv1:=hv.kept (Kp.of hal hBw)
 have hg:(w.alloc (.cells #[.pointer (some ⟨bb,0,none⟩)] 181)).cell? ⟨w.heap.size,0,none⟩=some (.pointer (some ⟨bb,0,none⟩)):=by rw[aV hnw];rfl
 have hc:=AQ R B bb w.heap.size tv used aj v ks _ hb1 hg hv1 hn;have HB:=ay hb1;have HV:=ay hv1
 cases hbad:ks.any (xC aj.length) with
 | true =>
  rw[hbad] at hc
  have hq:JN kind ks aj=(-1,aj):=by rw[JN,hbad];rfl
  rw[hq];have HC:=ay hc;clear hc hq hbad hb hv hb1 hv1;go_enter Tryz.func168,Tryz.ntmps168;go_wp2_with (go_at_call 231;refine HC.out.mono ?_;rintro e w1 ⟨rfl,rfl⟩);go_ret;exact⟨rfl,HB.out,Kb.of hal hBw⟩
 | false =>
  rw[hbad] at hc
  have hq:JN kind ks aj=(((aj.length:Nat):Int),aj++[⟨kind,-1,ks⟩]):=by rw[JN,hbad];rfl
  rw[hq];have HC:=ay hc;clear hc hq hbad hb hv hb1 hv1;go_enter Tryz.func168,Tryz.ntmps168;go_wp2_with (go_at_call 231;refine HC.out.mono ?_;rintro e w1 ⟨rfl,rfl⟩);generalize w.alloc _=w1 at HB HV HC hg hal hnw ⊢;have hz1:=hal.size
  go_region_held3 (fun w'=>w'.cell? ⟨w.heap.size,0,none⟩=some (.pointer (some ⟨bb,0,none⟩)))
   (first|go_keep|exact hc2|exact hc3)
   (first|(go_at_call 159;refine(Eb v ks _ ?_ hn).mono ?_;(exact HV.out);rintro e w2 ⟨v',rfl,hiR,hb2⟩;have hi2:=hiR R (fun r hr=>Nat.lt_of_lt_of_le (hR r hr) (by have:w.heap.size≤w1.heap.size:=hz1;simpa using this));clear hiR;obtain⟨ao2,cap2,rfl⟩:=hi2.1.slice;have hc2:=iW hb2 (show w1.drew.cell? ⟨w.heap.size,0,none⟩=_ from hg))|(go_at_call 228;refine(SF R B bb tv used aj kind (-1) _ ks w2 ?_ hi2 hl).mono ?_;(exact(HB.out.later ((bI _ _).drew)).later hb2);rintro e w3 ⟨rfl,hb3,gM⟩;have hc3:w3.cell? ⟨w.heap.size,0,none⟩=some (.pointer (some ⟨bb,0,none⟩)):=by (have h1:w2.heap[w.heap.size]?=some (.cells #[.pointer (some ⟨bb,0,none⟩)] 181 (0,0)):=(hb2.block w.heap.size (bS hnw).1).trans hnw);rw[aV (gM.2 _ _ _ _ h1 (by decide) (by decide))];rfl))
  go_wp2;go_ret;exact⟨rfl,hb3,((Kb.of hal hBw).trans (Kb.of (((bI _ _).drew).trans hb2) (by omega))).trans gM⟩
theorem Uy (a b c d:Value)(w:World):(Instr.field 131 (.agg #[a,b,c,d]) 3).run Tryz.prog w=.ok d w:=by kernel_rfl
theorem Ik (a b c d:Value)(w:World):(Instr.field 131 (.agg #[a,b,c,d]) 0).run Tryz.prog w=.ok a w:=by kernel_rfl
theorem PW.builder {E:bG}{st:aJ}{w w':World}{used:Nat}{aj:List Nd}(h:PW E st w)(hb:BW E.R E.B E.bb E.tv used aj w')(hk:Kb E.B w w')(hu:used≤E.ah.length):PW E { st with used:=used,aj:=aj } w':=by
 obtain⟨h1,h2,h3,h4,h5⟩:=h;exact⟨hk.2 _ _ _ _ h1 (by decide) (by decide),hb,h3.below hk.1,h4,hu,fun r hr=>Nat.lt_of_lt_of_le (h5.2 r hr) hk.1.size⟩
def dZ (E:bG)(r:Int × aJ)(w:World)(e:Ending)(w':World):Prop:=e=.returned (.int .i64 r.1)∧PW E r.2 w'∧Kp E.B w w'
def okB (st:aJ):Bool:=decide (st.fE=0)
theorem PW.cells {E:bG}{st:aJ}{w:World}(h:PW E st w) :
  w.cell? ⟨E.pb,0,none⟩=some (.pointer (some ⟨E.bb,0,none⟩))∧w.cell? ⟨E.pb,1,none⟩=some (.int .i64 E.depth)∧w.cell? ⟨E.pb,2,none⟩=some (.bool st.aC)∧w.cell? ⟨E.pb,3,none⟩=some (.int .i64 st.fE)∧w.cell? ⟨E.pb,4,none⟩=some (.int .i64 st.fAt)∧∀ j,w.frozen? ⟨E.pb,j,none⟩=false:=by
 have h1:=h.1
 refine⟨?_,?_,?_,?_,?_,fun j=>by simp[World.frozen?,h1]⟩<;>(rw[aV h1];rfl)
theorem uE (E:bG)(st:aJ)(w:World)(h:PW E st w):Calls Tryz.prog 96 #[.pointer (some ⟨E.pb,0,none⟩)] w fun e w'=>e=.returned (.bool (okB st))∧w'=w:=by
 obtain⟨_,_,_,c3,_,_⟩:=h.cells
 have hq:okB st=((st.fE:Int) == 0):=by
  unfold okB
  by_cases q:st.fE=0
  ·rw[iX q,q];rfl
  ·rw[dA q];symm;rw[← Bool.not_eq_true,beq_iff_eq];omega
 have HQ:=ay hq;clear h hq;go_enter Tryz.func96,Tryz.ntmps96;go_wp2;go_ret;exact⟨aT HQ.out.symm,rfl⟩
theorem PW.fault {E:bG}{st:aJ}{w:World}(h:PW E st w)(c a:Nat):PW E { st with fE:=c,fAt:=a } ((w.setCell ⟨E.pb,3,none⟩ (.int .i64 c)).setCell ⟨E.pb,4,none⟩ (.int .i64 a))∧Kp E.B w ((w.setCell ⟨E.pb,3,none⟩ (.int .i64 c)).setCell ⟨E.pb,4,none⟩ (.int .i64 a)):=by
 obtain⟨h1,h2,h3,h4,h5⟩:=h
 have hkeep:∀ (k:Nat) (cs:Array Value) (T:TypeId) (fr:Nat × Nat),w.heap[k]?=some (.cells cs T fr)→T≠184→((w.setCell ⟨E.pb,3,none⟩ (.int .i64 c)).setCell ⟨E.pb,4,none⟩ (.int .i64 a)).heap[k]?=some (.cells cs T fr):=fun k cs T fr h0 q=>by
  have hne:k≠E.pb:=by
   rintro rfl;rw[h1] at h0;simp only[Option.some.injEq,Obj.cells.injEq] at h0;exact q h0.2.1.symm
  rw[heap_setCell_other _ _ _ _ hne,heap_setCell_other _ _ _ _ hne];exact h0
 have hb:Below E.B w ((w.setCell ⟨E.pb,3,none⟩ (.int .i64 c)).setCell ⟨E.pb,4,none⟩ (.int .i64 a)):=((bI _ _).setCell h4 _).setCell h4 _
 have hk:Kp E.B w ((w.setCell ⟨E.pb,3,none⟩ (.int .i64 c)).setCell ⟨E.pb,4,none⟩ (.int .i64 a)):=⟨hb,fun k cs T fr h0 q1 _ _=>hkeep k cs T fr h0 q1⟩
 refine⟨⟨?_,?_,h3.below hb,h4,h5.1,fun r hr=>Nat.lt_of_lt_of_le (h5.2 r hr) hb.size⟩,hk⟩
 ·rw[heap_setCell_same _ E.pb 4 _ _ _ (heap_setCell_same w E.pb 3 _ _ _ h1)]
  rfl
 ·obtain⟨b1,nv,l,b2,b3,b4,b5⟩:=h2
  refine⟨b1,nv,l,hkeep _ _ _ _ b2 (by decide),b3,?_,fun p hp=>(b5 p hp).kept hk⟩;have hne:=own_ne b4 h1 (by decide);exact iP (iP b4 hne _) hne _
theorem Xw (E:bG)(c:Nat)(st:aJ)(w:World)(h:PW E st w)(h0:0<E.ah.length)(hn:E.ah.length≤1099511627776) :
  Calls Tryz.prog 161 #[.pointer (some ⟨E.pb,0,none⟩),.int .i64 c] w (dZ E (0,gU E.ah c st) w):=by
 have HO:=ay (uE E st w h);have hp:=zx E.R E.B E.bb E.tv E.ah st.used st.aj w h.2.1 h.2.2.1 h0 h.2.2.2.2.1 hn;have hz:=h.lt
 by_cases hf:st.fE=0
 ·have hq:gU E.ah c st={ st with fE:=c,fAt:=(dh E.ah st.used).place }:=by rw[gU,if_pos hf]
  rw[hq];generalize dh E.ah st.used=t at hp;obtain⟨k,x,y,q⟩:=t;have ho:okB st=true:=iX hf;rw[ho] at HO;obtain⟨c0,_,_,c3,c4,cz⟩:=h.cells;have HP:=ay hp;have H:=ay h;have tf:=Uy;clear hq hp hf ho h;go_enter Tryz.func161,Tryz.ntmps161;go_wp2_with (first|(go_at_call 96;refine HO.out.mono ?_;rintro e w1 ⟨rfl,rfl⟩)|(go_at_call 169;refine HP.out.mono ?_));rintro e w2 ⟨he,hb⟩;rw[JL] at he;subst he;have h2:=H.out.later hb;obtain⟨d0,_,_,d3,d4,dz⟩:=h2.cells;have H2:=ay h2;clear h2;go_wp2;go_ret;obtain⟨f1,f2⟩:=H2.out.fault c q;exact⟨rfl,f1,(Kp.of hb H.out.fq).trans f2⟩
 ·have hq:gU E.ah c st=st:=by rw[gU,if_neg hf]
  have ho:okB st=false:=dA hf;rw[hq];rw[ho] at HO;have H:=ay h;clear hq hp hf ho h;go_enter Tryz.func161,Tryz.ntmps161;go_wp2_with (first|(go_at_call 96;refine HO.out.mono ?_;rintro e w1 ⟨rfl,rfl⟩));go_ret;exact⟨rfl,H.out,Kp.refl _ _⟩
def lV (w:World)(v:Value)(l:List (List UInt8)):Prop :=
 ∃ b off cap,v=.slice (some ⟨b,off,none⟩) l.length cap∧b<w.heap.size∧∀ j,(h:j<l.length)→w.cell? ⟨b,off+j,none⟩=some (.string ⟨l[j].toArray⟩)
theorem lV.later {w w':World}{v:Value}{l:List (List UInt8)}(h:lV w v l)(hb:Below w.heap.size w w'):lV w' v l:=by
 obtain⟨b,off,cap,hv,hlt,hc⟩:=h;exact⟨b,off,cap,hv,by have:=hb.size;omega,fun j hj=>(hb.cell (p:=⟨b,off+j,none⟩) hlt).trans (hc j hj)⟩
def Uz (l:List (List UInt8)):List ByteArray:=l.map fun x=>⟨x.toArray⟩
theorem JO (l:List (List UInt8))(x:List UInt8):Lib.containsS (Uz l) ⟨x.toArray⟩=decide (x∈l):=by
 by_cases h:x∈l
 ·rw[iX h]
  exact(Lib.containsS_iff _ _).2 (List.mem_map.2 ⟨x,h,rfl⟩)
 ·rw[dA h,← Bool.not_eq_true]
  intro q;obtain⟨y,hy,e⟩:=List.mem_map.1 ((Lib.containsS_iff _ _).1 q)
  have:y=x:=by
   have:=congrArg (fun b:ByteArray=>b.data.toList) e
   simpa using this
  exact h (this ▸ hy)
theorem zy (v:Value)(l:List (List UInt8))(x:List UInt8)(w:World)(h:lV w v l)(hn:l.length≤1000) :
  Calls Tryz.prog 227 #[v,.string ⟨x.toArray⟩] w fun e w'=>e=.returned (.bool (decide (x∈l)))∧w'=w:=by
 obtain⟨b,off,cap,rfl,_,hc⟩:=h;refine(Tryz.slices_Contains_string b off l.length cap (Uz l) ⟨x.toArray⟩ w (by simp[Uz]) (by omega) (fun j hj=>?_)).mono ?_
 ·have hj':j<l.length:=by simpa [Uz] using hj
  rw[hc j hj'];simp[Uz,List.getD_eq_getElem?_getD,hj']
 ·rintro e w' ⟨rfl,rfl⟩
  refine⟨aT ?_,rfl⟩;rw[Au (by simp[Uz]),JO]
theorem vM (E:bG)(v:Value)(l:List (List UInt8))(st:aJ)(w:World)(h:PW E st w)(hv:lV w v l)(h0:0<E.ah.length)(hn:E.ah.length≤1099511627776)(hl:l.length≤1000) :
  Calls Tryz.prog 160 #[.pointer (some ⟨E.pb,0,none⟩),v] w fun e w'=>e=.returned (.bool (bF E.ah st l))∧Below w.heap.size w w':=by
 have hp:=zx E.R E.B E.bb E.tv E.ah st.used st.aj w h.2.1 h.2.2.1 h0 h.2.2.2.2.1 hn;obtain⟨c0,_,_,_,_,_⟩:=h.cells;unfold bF;generalize dh E.ah st.used=t at hp;obtain⟨k,x,y,q⟩:=t;rw[JL] at hp;simp only;have HP:=ay hp;have HV:=ay hv
 have hsl:∃ ao n cap,v=.slice ao n cap:=by obtain⟨b,off,cap,rfl,_⟩:=hv;exact⟨_,_,_,rfl⟩
 obtain⟨ao,n,cap,rfl⟩:=hsl;clear hp hv h
 by_cases k2:k=2
 ·subst k2
  have hq:((2 == 2 || 2 == 4) && decide (y∈l))=decide (y∈l):=by simp
  rw[hq];clear hq;go_enter Tryz.func160,Tryz.ntmps160;go_wp2_with (first|(go_at_call 169;refine HP.out.mono ?_;rintro e w1 ⟨rfl,hb⟩)|(go_at_call 227;refine(zy _ l y _ ?_ hl).mono ?_))
  ·exact HV.out.later (hb.alloc hb.size _)
  ·rintro e w2 ⟨rfl,rfl⟩
   go_wp2;go_ret;exact⟨rfl,hb.alloc hb.size _⟩
 by_cases k4:k=4
 ·subst k4
  have hq:((4 == 2 || 4 == 4) && decide (y∈l))=decide (y∈l):=by simp
  rw[hq];clear hq;go_enter Tryz.func160,Tryz.ntmps160;go_wp2_with (first|(go_at_call 169;refine HP.out.mono ?_;rintro e w1 ⟨rfl,hb⟩)|(go_at_call 227;refine(zy _ l y _ ?_ hl).mono ?_))
  ·exact HV.out.later (hb.alloc hb.size _)
  ·rintro e w2 ⟨rfl,rfl⟩
   go_wp2;go_ret;exact⟨rfl,hb.alloc hb.size _⟩
 have hq:((k == 2 || k == 4) && decide (y∈l))=false:=by simp[k2,k4]
 have d2:((k:Int) == 2)=false:=by rw[← Bool.not_eq_true,beq_iff_eq];omega
 have d4:((k:Int) == 4)=false:=by rw[← Bool.not_eq_true,beq_iff_eq];omega
 rw[hq];clear hq k2 k4;go_enter Tryz.func160,Tryz.ntmps160;go_wp2_with (first|(go_at_call 169;refine HP.out.mono ?_;rintro e w1 ⟨rfl,hb⟩));go_ret;exact⟨rfl,hb.alloc hb.size _⟩
theorem abj (ah:List Tok)(st:aJ):aD ah st=((uQ ah.length st.used st.aj).1,{ st with used:=(uQ ah.length st.used st.aj).2.1,aj:=(uQ ah.length st.used st.aj).2.2 }):=by
 unfold aD uQ
 split<;>rfl
theorem bT (E:bG)(st:aJ)(w:World)(h:PW E st w)(_h0:0<E.ah.length)(hn:E.ah.length≤1099511627776)(hl:st.aj.length+1≤1099511627776) :
  Calls Tryz.prog 162 #[.pointer (some ⟨E.bb,0,none⟩)] w (dZ E (aD E.ah st) w):=by
 obtain⟨ao,cap,hv,_,_⟩:=h.2.2.1.form (fun _=>rfl);have hb:=h.2.1;rw[hv] at hb;refine(Xt E.R E.B E.bb ao E.ah.length cap st.used st.aj w hb h.2.2.2.2.1 hn hl).mono ?_;rintro e w' ⟨rfl,hb',hk⟩;rw[← hv] at hb';rw[abj];refine⟨rfl,h.builder hb' hk ?_,hk.kp⟩;have:=h.2.2.2.2.1;unfold uQ
 split
 ·exact this
 ·simp only;omega
theorem Xx (n:Nat)(ks:List Int):ks.any (xC n)=ks.any (fun k=>decide (k<0) || decide ((n:Int)≤k)):=rfl
theorem acQ (kind:Int)(ks:List Int)(st:aJ):GI kind ks st=((JN kind ks st.aj).1,{ st with aj:=(JN kind ks st.aj).2 }):=by
 unfold GI JN;rw[Xx]
 split<;>rfl
theorem Xy (E:bG)(kind:Int)(v:Value)(ks:List Int)(st:aJ)(w:World)(h:PW E st w)(hv:eH w v ks)(hk:ks.length≤1099511627776)(hl:st.aj.length+1≤1099511627776) :
  Calls Tryz.prog 168 #[.pointer (some ⟨E.bb,0,none⟩),.int .i64 kind,v] w (dZ E (GI kind ks st) w):=by
 refine(Xv E.R E.B E.bb E.tv st.used st.aj kind v ks w h.2.1 hv h.2.2.2.2.2 hk hl).mono ?_;rintro e w' ⟨rfl,hb',hk⟩;rw[acQ];exact⟨rfl,h.builder hb' hk h.2.2.2.2.1,hk.kp⟩
theorem kS (E:bG)(kind:Int)(v:Value)(ks:List Int)(st:aJ)(w:World)(h:PW E st w)(hv:eH w v ks)(hk:ks.length≤1099511627776)(hl:st.aj.length+1≤1099511627776) :
  Calls Tryz.prog 101 #[.pointer (some ⟨E.pb,0,none⟩),.int .i64 kind,v] w (dZ E (bJ kind ks st) w):=by
 have HO:=ay (uE E st w h);have HN:=ay (Xy E kind v ks st w h hv hk hl);obtain⟨c0,_,_,_,_,_⟩:=h.cells;have H:=ay h
 by_cases hf:st.fE=0
 ·have hq:bJ kind ks st=GI kind ks st:=by rw[bJ,if_pos hf]
  rw[hq];rw[show okB st=true from iX hf] at HO;clear hq hf h hv;go_enter Tryz.func101,Tryz.ntmps101;go_wp2_with (first|(go_at_call 96;refine HO.out.mono ?_;rintro e w1 ⟨rfl,rfl⟩)|(go_at_call 168;refine HN.out.mono ?_));rintro e w2 ⟨rfl,hp,hk2⟩;go_wp2;go_ret;exact⟨rfl,hp,hk2⟩
 ·have hq:bJ kind ks st=(0,st):=by rw[bJ,if_neg hf]
  rw[hq];rw[show okB st=false from dA hf] at HO;clear hq hf h hv;go_enter Tryz.func101,Tryz.ntmps101;go_wp2_with (first|(go_at_call 96;refine HO.out.mono ?_;rintro e w1 ⟨rfl,rfl⟩));go_ret;exact⟨rfl,H.out,Kp.refl _ _⟩
def bG.ok (E:bG):Prop:=0<E.ah.length∧E.ah.length≤1099511627776∧E.depth≤1000
theorem mF (E:bG)(hE:E.ok)(c:Nat)(st:aJ)(w:World)(h:PW E st w) :
  Calls Tryz.prog 161 #[.pointer (some ⟨E.pb,0,none⟩),.int .i64 c] w (dZ E (0,gU E.ah c st) w):=Xw E c st w h hE.1 hE.2.1
theorem Mx (E:bG)(hE:E.ok)(v:Value)(l:List (List UInt8))(st:aJ)(w:World)(h:PW E st w)(hv:lV w v l)(hl:l.length≤1000)(hn:st.aj.length+1≤1099511627776) :
  Calls Tryz.prog 163 #[.pointer (some ⟨E.pb,0,none⟩),v] w (dZ E (aH E.ah l st) w):=by
 have HO:=ay (uE E st w h);have HX:=ay (vM E v l st w h hv hE.1 hE.2.1 hl);have HF:=ay (fun w=>mF E hE 22 st w);have H:=ay h
 have hsl:∃ ao n cap,v=.slice ao n cap:=by obtain⟨b,off,cap,rfl,_⟩:=hv;exact⟨_,_,_,rfl⟩
 obtain⟨ao,n,cap,rfl⟩:=hsl;clear h hv
 by_cases hf:st.fE=0
 ·rw[show okB st=true from iX hf] at HO
  cases hx:bF E.ah st l with
  | true =>
   rw[hx] at HX
   have hq:aH E.ah l st=aD E.ah st:=by rw[aH,if_pos ⟨hf,hx⟩]
   rw[hq];clear hq hf hx;go_enter Tryz.func163,Tryz.ntmps163;go_wp2_with (first|(go_at_call 96;refine HO.out.mono ?_;rintro e w1 ⟨rfl,rfl⟩)|(go_at_call 160;refine HX.out.mono ?_));rintro e w2 ⟨rfl,hb⟩;have h2:=H.out.later hb;obtain⟨c0,_,_,_,_,_⟩:=h2.cells;have HL:=ay (bT E st w2 h2 hE.1 hE.2.1 hn);clear h2;go_wp2_with (first|(go_at_call 162;refine HL.out.mono ?_));rintro e w3 ⟨rfl,hp,hk⟩;go_wp2;go_ret;exact⟨rfl,hp,(Kp.of hb H.out.fq).trans hk⟩
  | false =>
   rw[hx] at HX
   have hq:aH E.ah l st=(0,gU E.ah 22 st):=by rw[aH,if_neg (fun q=>by rw[hx] at q;cases q.2)]
   rw[hq];clear hq hf hx;go_enter Tryz.func163,Tryz.ntmps163;go_wp2_with (first|(go_at_call 96;refine HO.out.mono ?_;rintro e w1 ⟨rfl,rfl⟩)|(go_at_call 160;refine HX.out.mono ?_;rintro e w2 ⟨rfl,hb⟩)|(go_at_call 161;refine(HF.out _ (H.out.later hb)).mono ?_));rintro e w3 ⟨rfl,hp,hk⟩;go_wp2;go_ret;exact⟨rfl,hp,(Kp.of hb H.out.fq).trans hk⟩
 ·rw[show okB st=false from dA hf] at HO
  have hq:aH E.ah l st=(0,gU E.ah 22 st):=by rw[aH,if_neg (fun q=>hf q.1)]
  rw[hq];clear hq hf;go_enter Tryz.func163,Tryz.ntmps163;go_wp2_with (first|(go_at_call 96;refine HO.out.mono ?_;rintro e w1 ⟨rfl,rfl⟩)|(go_at_call 161;refine(HF.out _ H.out).mono ?_));rintro e w3 ⟨rfl,hp,hk⟩;go_wp2;go_ret;exact⟨rfl,hp,hk⟩
theorem sV (E:bG)(hE:E.ok)(k:Nat)(st:aJ)(w:World)(h:PW E st w)(hn:st.aj.length+1≤1099511627776) :
  Calls Tryz.prog 102 #[.pointer (some ⟨E.pb,0,none⟩),.int .i64 k] w (dZ E (bA E.ah k st) w):=by
 have HO:=ay (uE E st w h);have hp:=zx E.R E.B E.bb E.tv E.ah st.used st.aj w h.2.1 h.2.2.1 hE.1 h.2.2.2.2.1 hE.2.1;have HF:=ay (fun w=>mF E hE 22 st w);have H:=ay h;have tf:=Ik;obtain⟨c0,_,_,_,_,_⟩:=h.cells;clear h;unfold bA;generalize dh E.ah st.used=t at hp;obtain⟨kt,x,y,q⟩:=t;rw[JL] at hp;simp only;have HP:=ay hp;clear hp
 by_cases hf:st.fE=0
 ·rw[show okB st=true from iX hf] at HO
  by_cases hk:kt=k
  ·have t1:((kt:Int) != (k:Int))=false:=by rw[hk];simp
   rw[if_pos ⟨hf,hk⟩];clear hf hk;go_enter Tryz.func102,Tryz.ntmps102;go_wp2_with (first|(go_at_call 96;refine HO.out.mono ?_;rintro e w1 ⟨rfl,rfl⟩)|(go_at_call 169;refine HP.out.mono ?_));rintro e w2 ⟨rfl,hb⟩;have h2:=H.out.later hb;obtain⟨d0,_,_,_,_,_⟩:=h2.cells;have HL:=ay (bT E st w2 h2 hE.1 hE.2.1 hn);clear h2;go_wp2_with (first|(go_at_call 162;refine HL.out.mono ?_));rintro e w3 ⟨rfl,hp,hk⟩;go_wp2;go_ret;exact⟨rfl,hp,(Kp.of hb H.out.fq).trans hk⟩
  ·have t1:((kt:Int) != (k:Int))=true:=by rw[bne_iff_ne];omega
   rw[if_neg (fun q=>hk q.2)];clear hf hk;go_enter Tryz.func102,Tryz.ntmps102;go_wp2_with (first|(go_at_call 96;refine HO.out.mono ?_;rintro e w1 ⟨rfl,rfl⟩)|(go_at_call 169;refine HP.out.mono ?_;rintro e w2 ⟨rfl,hb⟩)|(go_at_call 161;refine(HF.out _ (H.out.later hb)).mono ?_));rintro e w3 ⟨rfl,hp,hk⟩;go_wp2;go_ret;exact⟨rfl,hp,(Kp.of hb H.out.fq).trans hk⟩
 ·rw[show okB st=false from dA hf] at HO
  rw[if_neg (fun q=>hf q.1)];clear hf;go_enter Tryz.func102,Tryz.ntmps102;go_wp2_with (first|(go_at_call 96;refine HO.out.mono ?_;rintro e w1 ⟨rfl,rfl⟩)|(go_at_call 161;refine(HF.out _ H.out).mono ?_));rintro e w3 ⟨rfl,hp,hk⟩;go_wp2;go_ret;exact⟨rfl,hp,hk⟩
def aei (E:bG)(st:aJ)(w:World)(e:Ending)(w':World):Prop:=e=.returned (.bool (!okB st))∧PW E st w'∧Kp E.B w w'
theorem Ec (E:bG)(hE:E.ok)(aF:Nat)(st:aJ)(w:World)(h:PW E st w) :
  Calls Tryz.prog 229 #[.pointer (some ⟨E.pb,0,none⟩),.int .i64 aF] w (aei E (aX E.ah E.depth aF st) w):=by
 have HF:=ay (fun w=>mF E hE 23 st w);have H:=ay h;obtain⟨_,c1,_,_,_,_⟩:=h.cells
 by_cases hd:E.depth<aF
 ·have d1:decide (E.depth<aF)=true:=iX hd
  have hq:aX E.ah E.depth aF st=gU E.ah 23 st:=by rw[aX,if_pos hd]
  rw[hq];clear hq hd h;go_enter Tryz.func229,Tryz.ntmps229;go_wp2_with (first|(go_at_call 161;refine(HF.out _ H.out).mono ?_));rintro e w2 ⟨rfl,hp,hk⟩;have HO:=ay (uE E _ w2 hp);go_wp2_with (first|(go_at_call 96;refine HO.out.mono ?_;rintro e w3 ⟨rfl,rfl⟩));go_ret;exact⟨rfl,hp,hk⟩
 ·have d1:decide (E.depth<aF)=false:=dA hd
  have hq:aX E.ah E.depth aF st=st:=by rw[aX,if_neg hd]
  rw[hq];have HO:=ay (uE E st w h);clear hq hd h;go_enter Tryz.func229,Tryz.ntmps229;go_wp2_with (first|(go_at_call 96;refine HO.out.mono ?_;rintro e w3 ⟨rfl,rfl⟩));go_ret;exact⟨rfl,H.out,Kp.refl _ _⟩
end Go.Proofs.YtmhdgeekclhbbaaGreatDoor

namespace Go.Proofs.YtmhdgeekclhbbaaGreatDoor
theorem Di {ah:List Tok}{d d' n:Nat}{st:aJ}(hdd:d≤d')(h:(aX ah d n st).fE=0):aX ah d' n st=aX ah d n st:=by
 unfold aX at h ⊢
 split at h
 ·exact absurd h (ny (by decide) st)
 ·rename_i hn
  rw[if_neg hn,if_neg (by omega)]
theorem uR (ah:List Tok)(one one':aJ→Option (Int × aJ))(h1:∀ s k,one s=some k→dP s k.2)(h2:∀ s k,one s=some k→k.2.fE=0→one' s=some k):∀ (r:Nat) (aA:List Int) (st:aJ) (l:List Int × aJ),bC ah one r aA st=some l→l.2.fE=0→bC ah one' r aA st=some l
 | 0,aA,st,l,h,_=>h
 | r+1,aA,st,l,h,hl=>by
  rw[bC] at h ⊢
  split at h
  ·rename_i hf;rw[if_pos hf];exact h
  ·rename_i hf
   rw[if_neg hf];obtain⟨k,hk,h⟩:=cK h
   have hk0:k.2.fE=0:=by
    split at h
    ·exact((aO ah k.2).trans (mZ ah one h1 r _ _ _ h)).zero hl
    ·injection h with h;subst h;exact hl
   rw[h2 _ _ hk hk0,Option.bind_some]
   split at h
   ·rename_i hc;rw[if_pos hc];exact uR ah one one' h1 h2 r _ _ _ h hl
   ·rename_i hc;rw[if_neg hc];exact h
theorem zA (ah:List Tok)(one one':aJ→Option (Int × aJ))(h1:∀ s k,one s=some k→dP s k.2)(h2:∀ s k,one s=some k→k.2.fE=0→one' s=some k)(st:aJ)(l:List Int × aJ)(h:jP ah one st=some l)(hl:l.2.fE=0):jP ah one' st=some l:=by
 unfold jP at h ⊢
 split at h
 ·rename_i hc;rw[if_pos hc];exact h
 ·rename_i hc;rw[if_neg hc];exact uR ah one one' h1 h2 _ _ _ _ h hl
theorem iw (ah:List Tok)(d d':Nat)(hdd:d≤d'):∀ (g:Nat) (t:Task) (st:aJ) (r:Int × aJ),run ah d g t st=some r→r.2.fE=0→run ah d' g t st=some r
 | 0,_,_,_,h,_=>by rw[run] at h;cases h
 | g+1,.expr aF,st,r,h,hr=>by
  have ih:=iw ah d d' hdd g;have ex:=bg ah d g
  have hd0:(aX ah d aF st).fE=0:=by
   apply Classical.byContradiction
   intro q;rw[run,if_pos q] at h
   injection h with h;subst h
   exact q hr
  rw[run] at h ⊢;rw[Di hdd hd0];generalize aX ah d aF st=s at h hd0;rw[if_neg (by simp[hd0])] at h ⊢
  split at h
  ·rename_i hc;rw[if_pos hc];exact ih _ _ _ h hr
  rename_i hc;rw[if_neg hc]
  split at h
  ·rename_i hc;rw[if_pos hc]
   obtain⟨x,h1,h⟩:=cK h;obtain⟨f,h2,h⟩:=cK h
   injection h with h;subst h
   have z2:=(aL _ _ _).zero hr;have z1:=((aM _ _ _).trans (ex _ _ _ h2)).zero z2;rw[ih _ _ _ h1 z1,Option.bind_some,ih _ _ _ h2 z2,Option.bind_some]
  rename_i hc;rw[if_neg hc]
  split at h
  ·rename_i hc;rw[if_pos hc]
   obtain⟨x,h1,h⟩:=cK h;obtain⟨y,h2,h⟩:=cK h;obtain⟨f,h3,h⟩:=cK h
   injection h with h;subst h
   have z3:=(aL _ _ _).zero hr;have z2:=((aM _ _ _).trans (ex _ _ _ h3)).zero z3;have z1:=((aM _ _ _).trans (ex _ _ _ h2)).zero z2;rw[ih _ _ _ h1 z1,Option.bind_some,ih _ _ _ h2 z2,Option.bind_some,ih _ _ _ h3 z3,Option.bind_some]
  rename_i hc;rw[if_neg hc]
  split at h
  ·rename_i hc;rw[if_pos hc]
   obtain⟨x,h1,h⟩:=cK h;obtain⟨f,h2,h⟩:=cK h
   injection h with h;subst h
   have z2:=(aL _ _ _).zero hr;have z1:=((aM _ _ _).trans (ex _ _ _ h2)).zero z2;rw[ih _ _ _ h1 z1,Option.bind_some,ih _ _ _ h2 z2,Option.bind_some]
  ·rename_i hc;rw[if_neg hc];exact ih _ _ _ h hr
 | g+1,.formula aF,st,r,h,hr=>by
  have ih:=iw ah d d' hdd g;have ex:=bg ah d g;rw[run] at h ⊢;obtain⟨a,h1,h⟩:=cK h
  split at h
  ·rename_i hn
   have hd0:(aX ah d (aF+1) (aD ah a.2).2).fE=0:=by
    apply Classical.byContradiction
    intro q;rw[if_pos q] at h
    injection h with h;subst h
    exact q hr
   rw[if_neg (by simp[hd0])] at h;obtain⟨b,h2,h⟩:=cK h
   injection h with h;subst h
   have z2:=(aL _ _ _).zero hr;have z1:=((aO ah a.2).trans (fK _ _ _ _)).zero hd0;rw[ih _ _ _ h1 z1,Option.bind_some,if_pos hn,Di hdd hd0,if_neg (by simp[hd0]),ih _ _ _ h2 z2,Option.bind_some]
  ·rename_i hn
   injection h with h;subst h
   rw[ih _ _ _ h1 hr,Option.bind_some,if_neg hn]
 | g+1,.part l aF,st,r,h,hr=>by
  have ih:=iw ah d d' hdd g;rw[run] at h ⊢
  split at h
  ·rename_i hc;rw[if_pos hc];exact ih _ _ _ h hr
  ·rename_i hc;rw[if_neg hc]
   split at h
   ·rename_i hc;rw[if_pos hc];exact ih _ _ _ h hr
   ·rename_i hc;rw[if_neg hc];exact ih _ _ _ h hr
 | g+1,.row l aF,st,r,h,hr=>by
  have ih:=iw ah d d' hdd g;have ex:=bg ah d g;rw[run] at h ⊢;obtain⟨a,h1,h⟩:=cK h;rw[ih _ _ _ h1 ((ex _ _ _ h).zero hr),Option.bind_some];exact ih _ _ _ h hr
 | g+1,.loop l aF a,st,r,h,hr=>by
  have ih:=iw ah d d' hdd g;have ex:=bg ah d g;rw[run] at h ⊢
  split at h
  ·rename_i hn
   rw[if_pos hn];obtain⟨b,h1,h⟩:=cK h
   have z:(bJ 10 [a,(aD ah st).1,b.1] b.2).2.fE=0:=by
    split at h
    ·injection h with h;subst h;exact hr
    ·exact(ex _ _ _ h).zero hr
   rw[ih _ _ _ h1 ((aL _ _ _).zero z),Option.bind_some]
   split at h
   ·rename_i hc;rw[if_pos hc];exact h
   ·rename_i hc;rw[if_neg hc];exact ih _ _ _ h hr
  ·rename_i hn
   rw[if_neg hn];exact h
 | g+1,.neg aF,st,r,h,hr=>by
  have ih:=iw ah d d' hdd g;rw[run] at h ⊢
  split at h
  ·rename_i hn
   rw[if_pos hn]
   have hd0:(aX ah d (aF+1) (aD ah st).2).fE=0:=by
    apply Classical.byContradiction
    intro q;rw[if_pos q] at h
    injection h with h;subst h
    exact q hr
   rw[if_neg (by simp[hd0])] at h;obtain⟨b,h2,h⟩:=cK h
   injection h with h;subst h
   rw[Di hdd hd0,if_neg (by simp[hd0]),ih _ _ _ h2 ((aL _ _ _).zero hr),Option.bind_some]
  ·rename_i hn
   rw[if_neg hn];exact ih _ _ _ h hr
 | g+1,.factor aF,st,r,h,hr=>by
  have ih:=iw ah d d' hdd g;rw[run] at h ⊢
  split at h
  ·rename_i hn
   rw[if_pos hn]
   have hd0:(aX ah d (aF+1) (aD ah st).2).fE=0:=by
    apply Classical.byContradiction
    intro q;rw[if_pos q] at h
    injection h with h;subst h
    exact q hr
   rw[if_neg (by simp[hd0])] at h;obtain⟨b,h2,h⟩:=cK h
   injection h with h;subst h
   rw[Di hdd hd0,if_neg (by simp[hd0]),ih _ _ _ h2 ((aL _ _ _).zero hr),Option.bind_some]
  ·rename_i hn
   rw[if_neg hn];exact ih _ _ _ h hr
 | g+1,.atom aF,st,r,h,hr=>by
  have ih:=iw ah d d' hdd g;rw[run] at h ⊢
  split at h
  ·rename_i hc;rw[if_pos hc];exact h
  rename_i hc;rw[if_neg hc]
  split at h
  ·rename_i hc;rw[if_pos hc];exact h
  rename_i hc;rw[if_neg hc]
  split at h
  ·rename_i hc;rw[if_pos hc];exact h
  rename_i hc;rw[if_neg hc]
  split at h
  ·rename_i hc;rw[if_pos hc];exact h
  rename_i hc;rw[if_neg hc]
  split at h
  ·rename_i hc;rw[if_pos hc]
   obtain⟨b,h1,h⟩:=cK h
   injection h with h;subst h
   rw[ih _ _ _ h1 (((aM _ _ _).trans (aL _ _ _)).zero hr),Option.bind_some]
  rename_i hc;rw[if_neg hc]
  split at h
  ·rename_i hc;rw[if_pos hc];exact ih _ _ _ h hr
  ·rename_i hc;rw[if_neg hc];exact h
 | g+1,.name aF,st,r,h,hr=>by
  have ih:=iw ah d d' hdd g;have ex:=bg ah d g;rw[run] at h ⊢
  split at h
  ·rename_i hc;rw[if_pos hc];exact h
  ·rename_i hc;rw[if_neg hc]
   obtain⟨l,h1,h⟩:=cK h
   injection h with h;subst h
   rw[zA ah _ (fun s=>run ah d' g (.expr (aF+1)) s) (fun s k hk=>ex _ _ _ hk) (fun s k hk hz=>ih _ _ _ hk hz) _ _ h1 (((aM _ _ _).trans (aL _ _ _)).zero hr),Option.bind_some]
end Go.Proofs.YtmhdgeekclhbbaaGreatDoor

namespace Go.Proofs.YtmhdgeekclhbbaaGreatDoor
open Go.RowKit
theorem aB (w:World)(o:Obj):Below w.heap.size w (w.alloc o):=(bI _ _).alloc (bD _) o
def sW (E:bG)(st:aJ)(b:Bool)(w:World)(e:Ending)(w':World):Prop:=e=.returned (.bool b)∧PW E st w'∧Kp E.B w w'
theorem MB (w:World)(b:ByteArray):lV (w.alloc (.cells #[.string b] 9)) (.slice (some ⟨w.heap.size,0,none⟩) 1 1) [b.data.toList]:=by
 refine⟨w.heap.size,0,1,rfl,by simp,fun j hj=>?_⟩
 obtain rfl:j=0:=by simpa using hj
 rw[aV (aY _ _)]
 have:ByteArray.mk b.data.toList.toArray=b:=by cases b;simp
 simp[this]
theorem MC (w:World)(b c:ByteArray):lV (w.alloc (.cells #[.string b,.string c] 9)) (.slice (some ⟨w.heap.size,0,none⟩) 2 2) [b.data.toList,c.data.toList]:=by
 refine⟨w.heap.size,0,2,rfl,by simp,fun j hj=>?_⟩
 have h1:ByteArray.mk b.data.toList.toArray=b:=by cases b;simp
 have h2:ByteArray.mk c.data.toList.toArray=c:=by cases c;simp
 rw[aV (aY _ _)]
 match j,hj with
 | 0,_=>simp[h1]
 | 1,_=>simp[h2]
theorem vN (E:bG)(hE:E.ok)(b:ByteArray)(st:aJ)(w:World)(h:PW E st w) :
  Calls Tryz.prog 160 #[.pointer (some ⟨E.pb,0,none⟩),.slice (some ⟨w.heap.size,0,none⟩) 1 1] (w.alloc (.cells #[.string b] 9)) (sW E st (bF E.ah st [b.data.toList]) w):=by
 have hA:=h.later (aB w (.cells #[.string b] 9));refine(vM E _ _ st _ hA (MB w b) hE.1 hE.2.1 (by simp)).mono ?_;rintro e w' ⟨rfl,hb⟩;exact⟨rfl,hA.later hb,(Kp.of (aB w _) h.fq).trans (Kp.of hb hA.fq)⟩
theorem Xz (E:bG)(hE:E.ok)(b c:ByteArray)(st:aJ)(w:World)(h:PW E st w) :
  Calls Tryz.prog 160 #[.pointer (some ⟨E.pb,0,none⟩),.slice (some ⟨w.heap.size,0,none⟩) 2 2] (w.alloc (.cells #[.string b,.string c] 9)) (sW E st (bF E.ah st [b.data.toList,c.data.toList]) w):=by
 have hA:=h.later (aB w (.cells #[.string b,.string c] 9));refine(vM E _ _ st _ hA (MC w b c) hE.1 hE.2.1 (by simp)).mono ?_;rintro e w' ⟨rfl,hb⟩;exact⟨rfl,hA.later hb,(Kp.of (aB w _) h.fq).trans (Kp.of hb hA.fq)⟩
theorem eu (E:bG)(hE:E.ok)(b:ByteArray)(st:aJ)(w:World)(h:PW E st w)(hn:st.aj.length+1≤1099511627776) :
  Calls Tryz.prog 163 #[.pointer (some ⟨E.pb,0,none⟩),.slice (some ⟨w.heap.size,0,none⟩) 1 1] (w.alloc (.cells #[.string b] 9)) (dZ E (aH E.ah [b.data.toList] st) w):=by
 have hA:=h.later (aB w (.cells #[.string b] 9));refine(Mx E hE _ _ st _ hA (MB w b) (by simp) hn).mono ?_;rintro e w' ⟨rfl,hp,hk⟩;exact⟨rfl,hp,(Kp.of (aB w _) h.fq).trans hk⟩
theorem Ed (w:World)(ks:List Int):eH (w.alloc (.cells (ks.map (Value.int .i64)).toArray 3)) (.slice (some ⟨w.heap.size,0,none⟩) ks.length ks.length) ks:=by
 refine⟨some ⟨w.heap.size,0,none⟩,ks.length,rfl,bD _,fun _=>⟨w.heap.size,0,_,_,rfl,aY _ _,fun j hj=>?_⟩⟩;simp[hj]
theorem iQ (E:bG)(kind:Int)(ks:List Int)(n:Nat)(cs:Array Value)(st:aJ)(w:World)(h:PW E st w)(hn:ks.length=n)(hc:(ks.map (Value.int .i64)).toArray=cs)(hk:n≤1000)(hl:st.aj.length+1≤1099511627776) :
  Calls Tryz.prog 101 #[.pointer (some ⟨E.pb,0,none⟩),.int .i64 kind,.slice (some ⟨w.heap.size,0,none⟩) n n] (w.alloc (.cells cs 3)) (dZ E (bJ kind ks st) w):=by
 subst hn hc;have hA:=h.later (aB w (.cells (ks.map (Value.int .i64)).toArray 3));refine(kS E kind _ ks st _ hA (Ed w ks) (by omega) hl).mono ?_;rintro e w' ⟨rfl,hp,hk⟩;exact⟨rfl,hp,(Kp.of (aB w _) h.fq).trans hk⟩
def oq (E:bG)(r:Int × aJ)(w:World):Task→Prop
 | .expr aF=>Calls Tryz.prog 167 #[.pointer (some ⟨E.pb,0,none⟩),.int .i64 aF] w (dZ E r w)
 | .formula aF=>Calls Tryz.prog 230 #[.pointer (some ⟨E.pb,0,none⟩),.int .i64 aF] w (dZ E r w)
 | .part l aF=>Calls Tryz.prog 294 #[.pointer (some ⟨E.pb,0,none⟩),.int .i64 l,.int .i64 aF] w (dZ E r w)
 | .row l aF=>Calls Tryz.prog 273 #[.pointer (some ⟨E.pb,0,none⟩),.int .i64 l,.int .i64 aF] w (dZ E r w)
 | .neg aF=>Calls Tryz.prog 306 #[.pointer (some ⟨E.pb,0,none⟩),.int .i64 aF] w (dZ E r w)
 | .factor aF=>Calls Tryz.prog 307 #[.pointer (some ⟨E.pb,0,none⟩),.int .i64 aF] w (dZ E r w)
 | .atom aF=>Calls Tryz.prog 314 #[.pointer (some ⟨E.pb,0,none⟩),.int .i64 aF] w (dZ E r w)
 | .name aF=>Calls Tryz.prog 319 #[.pointer (some ⟨E.pb,0,none⟩),.int .i64 aF] w (dZ E r w)
 | .loop _ _ _=>True
def yw (E:bG):Task→Prop
 | .expr aF=>aF≤E.depth+1
 | .formula aF=>aF≤E.depth
 | .part l aF=>l≤4∧aF≤E.depth
 | .row l aF=>l≤4∧aF≤E.depth
 | .neg aF=>aF≤E.depth
 | .factor aF=>aF≤E.depth
 | .atom aF=>aF≤E.depth
 | .name aF=>aF≤E.depth
 | .loop l aF _=>l≤4∧aF≤E.depth
def CU (E:bG)(g:Nat):Prop:=∀ (t:Task) (st:aJ) (r:Int × aJ) (w:World),run E.ah E.depth g t st=some r→PW E st w→r.2.aj.length+1≤1099511627776→yw E t→oq E r w t
end Go.Proofs.YtmhdgeekclhbbaaGreatDoor

namespace Go.Proofs.YtmhdgeekclhbbaaGreatDoor
open Go.RowKit Go Go.Sort
def gD (P:Nat→Prop)(w:World)(v:Value)(l:List (List UInt8)):Prop:=nV P w v 1 l.length (l.map encStr)∧∀ n c,v=.slice none n c→c=0
theorem gD.clip {P:Nat→Prop}{w:World}{ao:Option Addr}{n c:Nat}{l:List (List UInt8)}(h:gD P w (.slice ao n c) l):n=l.length∧gD P w (.slice ao l.length l.length) l:=by
 obtain⟨⟨ao',cap,hv,h1,h2,h3⟩,h4⟩:=h;simp only[Value.slice.injEq] at hv;obtain⟨rfl,rfl,rfl⟩:=hv;refine⟨rfl,⟨ao,l.length,rfl,bD _,h2,h3⟩,fun n' c' q=>?_⟩;simp only[Value.slice.injEq] at q;obtain⟨q1,-,rfl⟩:=q
 rcases Nat.eq_zero_or_pos l.length with q|q
 ·exact q
 ·obtain⟨b,off,q2,_⟩:=h3 (by simpa using q)
  rw[q1] at q2;cases q2
theorem gD.slice {P:Nat→Prop}{w:World}{v:Value}{l:List (List UInt8)}(h:gD P w v l):∃ ao cap,v=.slice ao l.length cap∧l.length≤cap∧(0<l.length→∃ b off,ao=some ⟨b,off,none⟩∧P b∧b<w.heap.size∧∀ i,(hi:i<l.length)→w.cell? ⟨b,off+i,none⟩=some (.string ⟨l[i].toArray⟩)):=by
 obtain⟨ao,cap,hv,h1,h2,h3⟩:=h.1;refine⟨ao,cap,hv,h1,fun h0=>?_⟩;obtain⟨b,off,q1,q2,q3,q4⟩:=h3 (by simpa using h0);refine⟨b,off,q1,q2,q3,fun i hi=>?_⟩;have:=q4 i (by simpa using hi);simp only[List.getElem_map] at this;exact this
theorem gD.frame {P:Nat→Prop}{w w':World}{v:Value}{l:List (List UInt8)}(h:gD P w v l)(ha:aW P w w'):gD P w' v l:=⟨nV.frame h.1 ha,h.2⟩
theorem gD.imp {P Q:Nat→Prop}{w:World}{v:Value}{l:List (List UInt8)}(h:gD P w v l)(hq:∀ b,P b→b<w.heap.size→Q b):gD Q w v l:=⟨nV.imp h.1 hq,h.2⟩
theorem gD.below {P:Nat→Prop}{w w':World}{v:Value}{l:List (List UInt8)}(h:gD P w v l)(hb:Below w.heap.size w w'):gD P w' v l:=h.frame (aW.of hb)
theorem gD.nil (P:Nat→Prop)(w:World):gD P w (.slice none 0 0) []:=⟨nV.nil P w 1,fun n c q=>by injection q with _ _ q;exact q.symm⟩
theorem gD.owns {P:Nat→Prop}{B:Nat}{w:World}{e:TypeId}{v:Value}{l:List (List UInt8)}(h:w.ownsRow B e 1 v l.length (l.map encStr))(hP:∀ b,B≤b→P b):gD P w v l:=by
 refine⟨nV.fZ h hP,fun n c q=>?_⟩
 rcases h.2 with ⟨h3,_⟩|⟨g,cap,cur,h3,_⟩
 ·rw[q] at h3;injection h3
 ·rw[q] at h3;injection h3 with h3;cases h3
def Qe (l:List (List UInt8))(w:World)(e:Ending)(w':World):Prop:=∃ v',e=.returned v'∧w'.ownsRow w.heap.size 9 1 v' l.length (l.map encStr)∧Below w.heap.size w w'
theorem Qf (P:Nat→Prop)(v:Value)(l:List (List UInt8))(w:World)(h:gD P w v l)(hl:l.length≤1000000):Calls Tryz.prog 148 #[v] w (Qe l w):=by
 obtain⟨ao,cap,rfl,hcap,hc⟩:=h.slice
 rcases Nat.eq_zero_or_pos l.length with h0|h0
 ·obtain rfl:=List.eq_nil_of_length_eq_zero h0
  cases ao with
  | none=>exact(Tryz.slices_Clone_string_nil 0 cap w).mono fun e w' q=>⟨_,q.1,World.ownsRow_nil _ _ _ _,by rw[q.2];exact bI _ _⟩
  | some a=>exact(Tryz.slices_Clone_string_zero a cap w).mono fun e w' ⟨v',q1,q2,_,q3⟩=>⟨v',q1,q2,q3⟩
 ·obtain⟨b,off,rfl,_,_,hcell⟩:=hc h0
  refine(Tryz.slices_Clone_string b off l.length cap (l.map fun s=>⟨s.toArray⟩) w (by simp) (by omega) (fun j hj=>?_)).mono fun e w' ⟨v',q1,q2,_,q3⟩=>⟨v',q1,?_,q3⟩
  ·have hj':j<l.length:=by simpa using hj
   rw[hcell j hj'];simp[List.getD_eq_getElem?_getD,hj']
  ·rw[Au (by simp),List.map_map] at q2
   exact q2
theorem ME (a:Option Addr)(n c:Nat)(w:World)(h:n≤c)(hc:c≤9223372036854775807)(h0:a=none→n=0):Calls Tryz.prog 150 #[.slice a n c] w fun e w'=>e=.returned (.slice a n n)∧w'=w:=by
 have h1:(n:Int)≤(c:Int):=by omega
 have h2:(0:Int)≤(n:Int):=by omega
 cases a with
 | none =>
  obtain rfl:=h0 rfl;clear h0;go_enter Tryz.func150,Tryz.ntmps150;go_wp2;go_ret;exact⟨rfl,rfl⟩
 | some a =>
  clear h0;go_enter Tryz.func150,Tryz.ntmps150;go_wp2;go_ret;exact⟨rfl,rfl⟩
def SI (l:List (List UInt8))(w:World)(e:Ending)(w':World):Prop:=∃ ao c,e=.returned (.agg #[.slice ao l.length c])∧gD (fun b=>w.heap.size≤b) w' (.slice ao l.length c) l∧Below w.heap.size w w'
theorem XB {w w1:World}{B g cap n nn q:Nat}{os:Array Obj}{ss:List (List UInt8)}(hown:w1.ownsRow B 9 1 (.slice (some ⟨g,0,none⟩) n cap) n (ss.map encStr))(hbel:Below B w w1)(hbg:B≤g)(hBw:B≤w.heap.size)(hlen:ss.length=n) :
  (putRow encStr (Sort.ahead (grow (putRow encStr (Sort.ahead w1 nn) g 0 (gG ss).toArray) os) q) g 0 (Lib.compact (gG ss)++List.replicate (n - (Lib.compact (gG ss)).length) []).toArray).ownsRow B 9 1 (.slice (some ⟨g,0,none⟩) (fH ss).length cap) (fH ss).length ((fH ss).map encStr) ∧
  Below B w (putRow encStr (Sort.ahead (grow (putRow encStr (Sort.ahead w1 nn) g 0 (gG ss).toArray) os) q) g 0 (Lib.compact (gG ss)++List.replicate (n - (Lib.compact (gG ss)).length) []).toArray):=by
 have hl2:(gG ss).length=ss.length:=ql ss;have hle:=Lib.compact_length_le (gG ss);subst hlen
 rcases hown.2 with ⟨h0,_⟩|⟨g',jE,cur,hv,hbase,hb,h1,h2,h3,h4⟩
 ·cases h0
 cases hv;have hs:=ownsRow_sorted (n:=nn) (os:=os) (ts:=gG ss) hl2 hbase hb h1 h2 h3;have hc:=Lib.ownsRow_putRow (q:=q) (k:=(Lib.compact (gG ss)).length) (ys:=Lib.compact (gG ss)++List.replicate (ss.length - (Lib.compact (gG ss)).length) []) hs (by simp;omega) (by omega);rw[List.take_left] at hc;exact⟨hc,Lib.below_putRow (hbel.grown (grownBy_sorted _) (jc hBw hbel.size) (fun j hj=>by cases hj;exact hbase)) hbg⟩
theorem acR (P:Nat→Prop)(v:Value)(l:List (List UInt8))(w:World)(h:gD P w v l)(hl:l.length≤1000000):Calls Tryz.prog 88 #[v] w (SI (fH l) w):=by
 have hal:=aB w (.cells #[.slice none 0 0] 107);have hN:=aY w (.cells #[.slice none 0 0] 107);have HC:=ay (fun W (hW:Below w.heap.size w W)=>Qf P v l W (h.below hW) hl);clear h;go_enter Tryz.func88,Tryz.ntmps88
 go_upto_region 1 with fail
 change Code.wp _ _ _ _ (w.alloc (.cells #[.slice none 0 0] 107));generalize w.alloc _=w1 at hal hN ⊢;have hl1:=(bS hN).1
 go_upto_region 2 with (go_at_call 148;refine(HC.out _ hal).mono ?_;rintro e w2 ⟨v',rfl,hown,hb2⟩)
 have hz1:=hal.size;have hz2:=hb2.size;have Il:=(hb2.block w.heap.size hl1).trans hN
 by_cases hv:v'=.slice none 0 0
 ·subst hv
  have hl0:l=[]:=by
   rcases hown.2 with ⟨_,q⟩|⟨g,cap,cur,hv,_⟩
   ·exact List.eq_nil_of_length_eq_zero q
   ·cases hv
  subst hl0
  have hfz:w2.frozen? ⟨w.heap.size,0,none⟩=false:=by simp[World.frozen?,Il]
  have hc0:w2.cell? ⟨w.heap.size,0,none⟩=some (.slice none 0 0):=by rw[aV Il];rfl
  have hbw:Below w.heap.size w (w2.setCell ⟨w.heap.size,0,none⟩ (.slice none 0 0)):=(hal.trans (hb2.mono hz1)).setCell (bD _) _
  have hs0:(w2.setCell ⟨w.heap.size,0,none⟩ (.slice none 0 0)).cell? ⟨w.heap.size,0,none⟩=some (.slice none 0 0):=by
   have:=heap_setCell_same w2 w.heap.size 0 _ _ (.slice none 0 0) Il;rw[aV this];rfl
  clear hN Il hown HC hal hb2;go_wp2_with (first|(go_at_call 149;refine(Tryz.slices_Sort_string_none none 0 _).mono ?_;rintro e w' ⟨rfl,rfl⟩)|(go_at_call 151;refine(Tryz.slices_Compact_string_empty none 0 _).mono ?_;rintro e w' ⟨rfl,rfl⟩)|(go_at_call 150;refine(ME none 0 0 _ (by omega) (by omega) (fun _=>rfl)).mono ?_;rintro e w' ⟨rfl,rfl⟩));refine bodyPost_ret (v:=.agg #[.slice none 0 0]) (by simp[results,Tryz.results88,go_sem,hs0]) rfl ⟨none,0,by rw[LD];rfl,by rw[LD];exact gD.nil _ _,hbw⟩
 ·obtain⟨g,cap,rfl,hbg,hgl,ahd,hcm,hlen,hH⟩:=Lib.holds_of_ownsRow hown hv
  have hlen':l.length=l.length:=rfl;have HS:=ay (Tryz.slices_Sort_string g 0 cap l w2 hH hgl (by omega))
  have HCP:Hid (∀ nn os,Calls Tryz.prog 151 #[.slice (some ⟨g,0,none⟩) l.length cap] (grow (putRow encStr (Sort.ahead w2 nn) g 0 (gG l).toArray) os) fun e w'=>e=.returned (.slice (some ⟨g,0,none⟩) (fH l).length cap)∧∃ q,w'=putRow encStr (Sort.ahead (grow (putRow encStr (Sort.ahead w2 nn) g 0 (gG l).toArray) os) q) g 0 (Lib.compact (gG l)++List.replicate (l.length - (Lib.compact (gG l)).length) []).toArray):=ay fun nn os=>by
   have hH2:Holds encStr (grow (putRow encStr (Sort.ahead w2 nn) g 0 (gG l).toArray) os) g 0 (gG l).toArray :=
    holds_grow encStr _ os g 0 _ (by simpa [putRow,mapBlock,Sort.ahead] using hgl) (holds_putRow encStr _ g 0 _ _ (holds_ahead encStr w2 nn g 0 _ hH) (by simp[ql]))
   have:=Tryz.slices_Compact_string g 0 cap (gG l) _ hH2 (by rw[ql];omega) (by rw[ql];omega);rw[ql] at this;exact this
  have hsl:=sJ l
  have hcp:cap≤9223372036854775807:=by unfold maxLen at hcm;omega
  have HOWN:=ay hown;have hN1:=hN;clear hown hH HC hN Il hv
  go_upto_region 3 with (go_at_call 149;refine HS.out.mono ?_;rintro e w3 ⟨rfl,nn,os,rfl⟩)
  have zB:=ay (HCP.out nn os)
  have HF:Hid (∀ q,(putRow encStr (Sort.ahead (grow (putRow encStr (Sort.ahead w2 nn) g 0 (gG l).toArray) os) q) g 0 (Lib.compact (gG l)++List.replicate (l.length - (Lib.compact (gG l)).length) []).toArray).ownsRow w1.heap.size 9 1 (.slice (some ⟨g,0,none⟩) (fH l).length cap) (fH l).length ((fH l).map encStr)∧Below w1.heap.size w1 (putRow encStr (Sort.ahead (grow (putRow encStr (Sort.ahead w2 nn) g 0 (gG l).toArray) os) q) g 0 (Lib.compact (gG l)++List.replicate (l.length - (Lib.compact (gG l)).length) []).toArray)):=ay fun q=>XB (nn:=nn) (q:=q) (os:=os) HOWN.out hb2 hbg (bD _) rfl
  clear HCP HS;change Code.wp _ _ _ _ (grow (putRow encStr (Sort.ahead w2 nn) g 0 (gG l).toArray) os);generalize grow (putRow encStr (Sort.ahead w2 nn) g 0 (gG l).toArray) os=w3 at zB HF ⊢;have AU:=ay (fun W=>ME (some ⟨g,0,none⟩) (fH l).length cap W (by omega) hcp (fun q=>by cases q));go_wp2_with (first|(go_at_call 151;refine zB.out.mono ?_;rintro e w4 ⟨rfl,q,rfl⟩;have hF:=HF.out q;clear zB HF;generalize putRow encStr _ _ _ _=w4 at hF ⊢;have UA:=(hF.2.block w.heap.size hl1).trans hN1;have hfz:w4.frozen? ⟨w.heap.size,0,none⟩=false:=(by simp[World.frozen?,UA]);have hc0:w4.cell? ⟨w.heap.size,0,none⟩=some (.slice none 0 0):=(by rw[aV UA];rfl))|(go_at_call 150;refine(AU.out _).mono ?_;rintro e w' ⟨rfl,rfl⟩))
  have hs0:(w'.setCell ⟨w.heap.size,0,none⟩ (.slice (some ⟨g,0,none⟩) (fH l).length (fH l).length)).cell? ⟨w.heap.size,0,none⟩=some (.slice (some ⟨g,0,none⟩) (fH l).length (fH l).length):=by
   have:=heap_setCell_same w' w.heap.size 0 _ _ (.slice (some ⟨g,0,none⟩) (fH l).length (fH l).length) UA;rw[aV this];rfl
  have hbw:Below w.heap.size w (w'.setCell ⟨w.heap.size,0,none⟩ (.slice (some ⟨g,0,none⟩) (fH l).length (fH l).length)):=(hal.trans (hF.2.mono hz1)).setCell (bD _) _;have htx:gD (fun b=>w1.heap.size≤b) w' (.slice (some ⟨g,0,none⟩) (fH l).length cap) (fH l):=gD.owns hF.1 (fun _ hb=>hb)
  have acS:gD (fun b=>w.heap.size≤b) (w'.setCell ⟨w.heap.size,0,none⟩ (.slice (some ⟨g,0,none⟩) (fH l).length (fH l).length)) (.slice (some ⟨g,0,none⟩) (fH l).length (fH l).length) (fH l):=(htx.clip.2.frame (aW.set _ fun b hb=>by show b≠w.heap.size;omega)).imp fun b hb _=>by omega
  exact bodyPost_ret (v:=.agg #[.slice (some ⟨g,0,none⟩) (fH l).length (fH l).length]) (by simp[results,Tryz.results88,go_sem,hs0]) rfl ⟨_,_,rfl,acS,hbw⟩
