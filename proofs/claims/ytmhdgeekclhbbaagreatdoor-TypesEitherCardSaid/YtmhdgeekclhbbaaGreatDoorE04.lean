/- Walks and plain laws, without a condition. -/
import Derived.Test.YtmhdgeekclhbbaaGreatDoorE02
import Derived.Test.YtmhdgeekclhbbaaGreatDoorE03
set_option maxHeartbeats 16000000
set_option maxRecDepth 100000
set_option linter.unusedVariables false
set_option linter.unusedSimpArgs false
namespace Go.Proofs.YtmhdgeekclhbbaaGreatDoor
open Go.RowKit
variable{w w':World}{B n used bb:Nat}{ks:List Int}{v tv:Value}{aj:List Nd}{R:List Nat}{st:aN}
theorem Tryz.OG:(Tryz.prog.info? 129).map (λi=>(i.zero,i.size,i.bytes))=some (some (.agg #[.int .i64 0,.int .i64 0,.slice none 0 0]),3,40):=by kernel_rfl
def fA (w:World)(v:Value)(ks:List Int):Prop :=
 ∃ ao cap,v=.slice ao ks.length cap/\ks.length<=cap /\
  (0<ks.length->∃ (b off:Nat) (cs:Array Value) (fr:Nat × Nat),ao=some ⟨b,off,none⟩/\w.heap[b]?=some (.cells cs 3 fr)/\∀ j,(h:j<ks.length)->cs[off+j]?=some (.int .i64 ks[j]))
def Kp (B:Nat)(w w':World):Prop :=
 Below B w w'/\∀ (k:Nat) (cs:Array Value) (T:TypeId) (fr:Nat × Nat),w.heap[k]?=some (.cells cs T fr)->T≠184->T≠241->T≠129->w'.heap[k]?=some (.cells cs T fr)
theorem Kp.refl (B:Nat)(w:World):Kp B w w:=⟨bY _ _,λ_ _ _ _ h _ _ _=>h⟩
theorem Kp.trans {B:Nat}{a b c:World}(h:Kp B a b)(k:Kp B b c):Kp B a c:=⟨h.1.trans k.1,λn cs T fr h0 h1 h2 h3=>k.2 n cs T fr (h.2 n cs T fr h0 h1 h2 h3) h1 h2 h3⟩
theorem Kp.size {B:Nat}{w w':World}(h:Kp B w w'):w.heap.size<=w'.heap.size:=h.1.size
theorem Kp.of (h:Below w.heap.size w w')(hB:B<=w.heap.size):Kp B w w' :=
 ⟨h.mono hB,λk cs T fr h0 _ _ _=>by rw[h.block k (bU h0).1];exact h0⟩
theorem Kp.mono {B B':Nat}{w w':World}(h:Kp B w w')(hB:B'<=B):Kp B' w w':=⟨h.1.mono hB,h.2⟩
def Kb (B:Nat)(w w':World):Prop :=
 Below B w w'/\∀ (k:Nat) (cs:Array Value) (T:TypeId) (fr:Nat × Nat),w.heap[k]?=some (.cells cs T fr)->T≠241->T≠129->w'.heap[k]?=some (.cells cs T fr)
theorem Kb.kp (h:Kb B w w'):Kp B w w':=⟨h.1,λk cs T fr h0 _ h2 h3=>h.2 k cs T fr h0 h2 h3⟩
theorem Kb.refl (B:Nat)(w:World):Kb B w w:=⟨bY _ _,λ_ _ _ _ h _ _=>h⟩
theorem Kb.trans {B:Nat}{a b c:World}(h:Kb B a b)(k:Kb B b c):Kb B a c:=⟨h.1.trans k.1,λn cs T fr h0 h1 h2=>k.2 n cs T fr (h.2 n cs T fr h0 h1 h2) h1 h2⟩
theorem Kb.of (h:Below w.heap.size w w')(hB:B<=w.heap.size):Kb B w w' :=
 ⟨h.mono hB,λk cs T fr h0 _ _=>by rw[h.block k (bU h0).1];exact h0⟩
theorem fA.kept (h:fA w v ks)(hk:Kp B w w'):fA w' v ks:=by
 obtain⟨ao,cap,hv,hc,hf⟩:=h;refine⟨ao,cap,hv,hc,λh0=>?_⟩;obtain⟨b,off,cs,fr,ha,hb,hj⟩:=hf h0;exact⟨b,off,cs,fr,ha,hk.2 b cs _ fr hb (by decide) (by decide) (by decide),hj⟩
def agC (R:List Nat)(v:Value):Prop:=∀ b off n cap,v=.slice (some ⟨b,off,none⟩) n cap->0<n->b ∉ R
def rZ (R:List Nat)(w:World)(v:Value)(ks:List Int):Prop:=fA w v ks/\agC R v
theorem rZ.kept {R:List Nat}{B:Nat}{w w':World}{v:Value}{ks:List Int}(h:rZ R w v ks)(hk:Kp B w w'):rZ R w' v ks:=⟨h.1.kept hk,h.2⟩
theorem iQ {base e sz:Nat}{xs:List Value}(h:w.ownsRow base e sz v n xs){a:Addr}(hne:some a.block≠v.ownBlock)(u:Value):(w.setCell a u).ownsRow base e sz v n xs:=by
 refine⟨h.1,?_⟩
 rcases h.2 with hn|⟨g,cap,cur,hv,hg,hh,hr⟩
 ·exact .inl hn
 ·refine .inr ⟨g,cap,cur,hv,hg,?_,hr⟩
  rw[qo]
  ·exact hh
  ·intro q
   exact hne (by rw[<- q,hv];rfl)
def yJ (p:Nd × Value):List Value:=[.int .i64 p.1.kind,.int .i64 p.1.tok,p.2]
theorem OH (p:Nd × Value):(yJ p).length=3:=rfl
def BW (R:List Nat)(B bb:Nat)(tv:Value)(used:Nat)(aj:List Nd)(w:World):Prop :=
 B<=bb/\∃ (nv:Value) (l:List (Nd × Value)),w.heap[bb]?=some (.cells #[tv,nv,.int .i64 used] 241 (0,0))/\l.map Prod.fst=aj /\
  w.ownsRow B 129 3 nv aj.length (l.flatMap yJ)/\∀ p∈l,rZ R w p.2 p.1.aA
structure bH where
 R:List Nat
 B:Nat
 pb:Nat
 bb:Nat
 tv:Value
 ah:List Tok
 depth:Nat
def PW (E:bH)(st:aN)(w:World):Prop :=
 w.heap[E.pb]?=some (.cells #[.pointer (some ⟨E.bb,0,none⟩),.int .i64 E.depth,.bool st.aC,.int .i64 st.fE,.int .i64 st.fAt] 184 (0,0)) /\
  BW E.R E.B E.bb E.tv st.used st.aj w/\Rec E.B w E.tv 4 dW E.ah/\E.B<=E.pb/\st.used<=E.ah.length/\∀ r∈E.R,r<w.heap.size
theorem BW.later (h:BW R B bb tv used aj w)(hb:Below w.heap.size w w'):BW R B bb tv used aj w':=by
 obtain⟨h1,nv,l,h2,h3,h4,h5⟩:=h;refine⟨h1,nv,l,?_,h3,own_below h4 hb,λp hp=>(h5 p hp).kept (Kp.of hb (bI _))⟩;rw[hb.block bb (bU h2).1];exact h2
theorem PW.later {E:bH}{st:aN}{w w':World}(h:PW E st w)(hb:Below w.heap.size w w'):PW E st w':=by
 obtain⟨h1,h2,h3,h4,h5⟩:=h;refine⟨?_,h2.later hb,?_,h4,h5.1,λr hr=>zI (h5.2 r hr) hb.size⟩
 ·rw[hb.block E.pb (bU h1).1];exact h1
 ·have hlt:=(bU h1).1
  exact h3.below (hb.mono (by omega))
theorem PW.lt {E:bH}(h:PW E st w):E.pb<w.heap.size:=(bU h.1).1
theorem PW.fD {E:bH}(h:PW E st w):E.B<=w.heap.size:=by have:=h.lt;have:=h.2.2.2.1;omega
theorem BW.lt (h:BW R B bb tv used aj w):bb<w.heap.size:=by
 obtain⟨_,nv,l,h2,_⟩:=h;exact(bU h2).1
def Zn (R:List Nat)(B bb:Nat)(tv:Value)(r:Int)(used:Nat)(aj:List Nd)(w:World)(e:Ending)(w':World):Prop :=
 e=.returned (.int .i64 r)/\BW R B bb tv used aj w'/\Kb B w w'
theorem OI (tv:Value)(ao:Option Addr)(n cap:Nat)(w:World)(hn:n<=1099511627776) :
  Calls Tryz.prog 60 #[.agg #[tv,.slice ao n cap]] w λe w'=>e=.returned (.int .i64 ((n:Int) - 1))/\Below w.heap.size w w':=by
 go_enter Tryz.func60,Tryz.ntmps60;go_wp2;go_ret;exact⟨rfl,(bY _ _).alloc (bI _) _⟩
theorem U7 (R:List Nat)(B bb:Nat)(tv:Value)(used:Nat)(aj:List Nd)(kind tok:Int)(kv:Value)(ks:List Int)(w:World)(hb:BW R B bb tv used aj w)(hk:rZ R w kv ks)(hn:aj.length+1<=1099511627776) :
  Calls Tryz.prog 228 #[.pointer (some ⟨bb,0,none⟩),.agg #[.int .i64 kind,.int .i64 tok,kv]] w (Zn R B bb tv (aj.length:Nat) used (aj++[⟨kind,tok,ks⟩]) w):=by
 obtain⟨i0,hi,hz0,hz1,hz2⟩:=info_parts Tryz.OG;obtain⟨h1,nv,l,h2,h3,h4,h5⟩:=hb;have hlt:=(bU h2).1;have HI:=ay hk;obtain⟨aok,aic,rfl,_,_⟩:=hk.1;generalize hkv:Value.slice aok ks.length aic=kv at HI
 have hone:kv.oneCell'=true:=by rw[<- hkv];rfl
 clear hkv
 obtain⟨ao,cap,rfl,_⟩:∃ ao cap,nv=.slice ao aj.length cap/\True:=by
  rcases h4.2 with ⟨hv,hn0⟩|⟨g,cap,cur,hv,_⟩
  ·exact⟨none,0,by rw[hv,hn0],trivial⟩
  ·exact⟨_,cap,hv,trivial⟩
 have c0:w.cell? ⟨bb,0,none⟩=some tv:=by rw[bg h2];rfl
 have c1:w.cell? ⟨bb,1,none⟩=some (.slice ao aj.length cap):=by rw[bg h2];rfl
 have hal:=(bY w.heap.size w).alloc (bI _) (.cells #[.int .i64 kind,.int .i64 tok,kv] 129);have d0:=jy hal c0;have d1:=jy hal c1
 have hz:(w.alloc (.cells #[.int .i64 kind,.int .i64 tok,kv] 129)).frozen? ⟨bb,1,none⟩=false:=by
  simp[World.frozen?,(iB w _ bb hlt).trans h2]
 go_enter Tryz.func228,Tryz.ntmps228;go_wp2;have nq:=aZ w (.cells #[.int .i64 kind,.int .i64 tok,kv] 129)
 have e0:(w.alloc (.cells #[.int .i64 kind,.int .i64 tok,kv] 129)).cell? ⟨w.heap.size,0,none⟩=some (.int .i64 kind):=by rw[bg nq];rfl
 have e1:(w.alloc (.cells #[.int .i64 kind,.int .i64 tok,kv] 129)).cell? ⟨w.heap.size,1,none⟩=some (.int .i64 tok):=by rw[bg nq];rfl
 have e2:(w.alloc (.cells #[.int .i64 kind,.int .i64 tok,kv] 129)).cell? ⟨w.heap.size,2,none⟩=some kv:=by rw[bg nq];rfl
 have hown:=h4.alloc (.cells #[.int .i64 kind,.int .i64 tok,kv] 129);have hbb:=(iB w (.cells #[.int .i64 kind,.int .i64 tok,kv] 129) bb hlt).trans h2;have hne:=own_ne hown hbb (by decide)
 have hzq:(w.alloc (.cells #[.int .i64 kind,.int .i64 tok,kv] 129)).heap.size=w.heap.size+1:=by simp
 have hBw:B<=w.heap.size:=by omega
 generalize w.alloc (.cells #[.int .i64 kind,.int .i64 tok,kv] 129)=wq at e0 e1 e2 hown hbb hne hzq hal d0 d1 hz |-
 have agD:B<=wq.heap.size:=by omega
 have agE:bb<wq.heap.size:=by omega
 have hzz:∀ o,(wq.alloc o).drew.frozen? ⟨bb,1,none⟩=false:=λo=>by
  have:(wq.alloc o).drew.heap[bb]?=some (.cells #[tv,.slice ao aj.length cap,.int .i64 used] 241 (0,0)):=(iB wq o bb agE).trans hbb;simp[World.frozen?,this]
 have hzg:w.heap.size<wq.heap.size:=by omega
 have hne2:some w.heap.size≠(Value.slice ao aj.length cap).ownBlock:=λq=>by have:=(h4.lt w.heap.size q.symm).2;omega
 have F6:Hid (∀ u∈[Value.int .i64 kind,.int .i64 tok,kv],u.oneCell'=true):=ay (by
  intro u hu;simp only[oo,List.not_mem_nil,or_false] at hu
  rcases hu with rfl|rfl|rfl
  ·rfl
  ·rfl
  ·exact hone)
 have hcc:∀ o,(wq.alloc o).drew.cell? ⟨bb,1,none⟩=some (.slice ao aj.length cap):=λo=>by
  have:(wq.alloc o).drew.heap[bb]?=some (.cells #[tv,.slice ao aj.length cap,.int .i64 used] 241 (0,0)):=(iB wq o bb agE).trans hbb;rw[bg this];rfl
 clear nq c0 c1 hzq
 go_region_law ((refine step_append_lies _ (by rfl) _ _ _ (by rfl) B 129 i0 _ 3 40 Tryz.underlying79 hi hz0 hz1 hz2 rfl (by omega) (.slice ao aj.length cap) aj.length _ (by rfl) (uL (hown.alloc _)) ⟨wq.heap.size,0,none⟩ 1 1 [.int .i64 kind,.int .i64 tok,kv] (by rfl) (by rfl) (wS (cs:=#[.int .i64 kind,.int .i64 tok,kv]) (t:=129) (fr:=(0,0)) (aZ wq _)) (F6.out) (by omega) (by unfold maxLen;omega) (by omega) (by simp;omega) (wq.heap.size+1) (by simp) ?_;intro gg oV w5 iW jB CB Sj;have U8:=(jB.frozen_far ⟨bb,1,none⟩ (by simp;omega) hne).trans (hzz _);have hc5:=(jB.cell_far ⟨bb,1,none⟩ (by simp;omega) hne).trans (hcc _)))
 all_goals
  have agF:Below B w w5:=(((bY _ _).mono hBw).trans (hal.mono hBw)).trans ((((bY wq.heap.size wq).mono agD).alloc agD (.cells #[.int .i64 kind,.int .i64 tok,kv] 129)).drew.grown jB (by simp;omega) (λq hq=>(hown.lt q hq).1))
  have hkb:∀ (k:Nat) (cs:Array Value) (T:TypeId) (fr:Nat × Nat),w.heap[k]?=some (.cells cs T fr)->T≠129->w5.heap[k]?=some (.cells cs T fr):=λk cs T fr h0 h1=>by
   have hk:=(bU h0).1
   have h2:wq.heap[k]?=some (.cells cs T fr):=by rw[hal.block k hk];exact h0
   exact jf (uL (hown.alloc _)) jB ((iB wq _ k (by omega)).trans h2) h1
  have Zo:=hkb bb _ _ _ h2 (by decide)
  have hc0:w5.cell? ⟨bb,0,none⟩=some tv:=by rw[bg Zo];rfl
  have h5':=λp hp=>(h5 p hp)
  have H4:=ay iW;clear jB iW CB d0 d1 e0 e1 e2 hzz hcc hz hone h4 hown;go_wp2;go_ret;generalize Value.slice (some ⟨gg,0,none⟩) (aj.length+1) oV=nv5 at H4 |-;have agG:bb<w5.heap.size:=(bU Zo).1
  have ae6:Kb B w ((w5.setCell ⟨bb,1,none⟩ nv5).alloc (.cells #[tv,nv5] 81)):=by
   refine⟨(agF.setCell h1 _).alloc (by have:=agF.size;simp;omega) _,λk cs T fr h0 q1 q2=>?_⟩;have r1:=hkb k cs T fr h0 q2;have lu:=(bU r1).1;rw[iB _ _ k (by simpa using lu),qo]
   ·exact r1
   ·show k≠bb
    rintro rfl;rw[Zo] at r1;simp only[Option.some.injEq,Obj.cells.injEq] at r1;exact q1 r1.2.1.symm
  refine⟨AO (by omega),⟨h1,nv5,l++[(⟨kind,tok,ks⟩,kv)],?_,by simp[h3],?_,?_⟩,ae6⟩
  ·rw[iB _ _ bb (by simpa using agG),kG w5 bb 1 _ _ _ Zo]
   rfl
  ·rw[abo,bQ]
   exact(iQ H4.out (own_ne H4.out Zo (by decide)) nv5).alloc _
  ·intro p hp
   rcases List.mem_append.1 hp with hp|hp
   ·exact(h5 p hp).kept ae6.kp
   ·rw[DN] at hp
    subst hp;exact HI.out.kept ae6.kp
theorem Kb.aie {cs:Array Value}{fr:Nat × Nat}(h:w.heap[bb]?=some (.cells cs 241 fr))(hB:B<=bb)(i:Nat)(u:Value):Kb B w (w.setCell ⟨bb,i,none⟩ u):=by
 refine⟨(bY _ _).setCell hB u,λk cs' T fr' h0 q1 _=>?_⟩;rw[qo]
 ·exact h0
 ·show k≠bb
  rintro rfl;rw[h] at h0;simp only[Option.some.injEq,Obj.cells.injEq] at h0;exact q1 h0.2.1.symm
theorem BW.kb (h:BW R B bb tv used aj w):B<=bb:=h.1
theorem BW.adv (h:BW R B bb tv used aj w)(u:Nat):BW R B bb tv u aj (w.setCell ⟨bb,2,none⟩ (.int .i64 u))/\Kb B w (w.setCell ⟨bb,2,none⟩ (.int .i64 u)):=by
 obtain⟨h1,nv,l,h2,h3,h4,h5⟩:=h;have hk:=Kb.aie h2 h1 2 (.int .i64 u);refine⟨⟨h1,nv,l,?_,h3,iQ h4 (own_ne h4 h2 (by decide)) _,λp hp=>(h5 p hp).kept hk.kp⟩,hk⟩;rw[kG w bb 2 _ _ _ h2]
 rfl
theorem BW.drewN {R:List Nat}{B bb:Nat}{tv:Value}{used:Nat}{aj:List Nd}{w:World}(h:BW R B bb tv used aj w)(n:Nat):BW R B bb tv used aj (w.drewN n):=h.later (below_drewN (bY _ _) n)
def wK (n used:Nat)(aj:List Nd):Int × Nat × List Nd:=if used=n then (-1,used,aj) else ((aj.length:Nat),used+1,aj++[⟨19,(used:Nat),[]⟩])
theorem Zp (R:List Nat)(B bb:Nat)(ao:Option Addr)(n cap used:Nat)(aj:List Nd)(w:World)(hb:BW R B bb (.slice ao n cap) used aj w)(hu:used<=n)(hn:n<=1099511627776)(hl:aj.length+1<=1099511627776) :
  Calls Tryz.prog 162 #[.pointer (some ⟨bb,0,none⟩)] w (Zn R B bb (.slice ao n cap) (wK n used aj).1 (wK n used aj).2.1 (wK n used aj).2.2 w):=by
 have hB:=hb.kb;have hlt:=hb.lt;have HB:=ay hb;obtain⟨h1,nv,l,h2,h3,h4,h5⟩:=hb
 have c0:w.cell? ⟨bb,0,none⟩=some (.slice ao n cap):=by rw[bg h2];rfl
 have c2:w.cell? ⟨bb,2,none⟩=some (.int .i64 used):=by rw[bg h2];rfl
 have hz:w.frozen? ⟨bb,2,none⟩=false:=by simp[World.frozen?,h2]
 clear h2 h3 h4 h5
 by_cases he:used=n
 ·have t1:((used:Int) == (n:Int))=true:=by rw[he,beq_iff_eq]
  have hq:wK n used aj=(-1,used,aj):=by rw[wK,bq he]
  rw[hq];clear hq;go_enter Tryz.func162,Tryz.ntmps162;go_wp2
  go_quiet (fail)
  go_wp2;go_ret;exact⟨rfl,HB.out.drewN _,Kb.of (below_drewN (bY _ _) _) (by omega)⟩
 ·have t1:((used:Int) == (n:Int))=false:=by rw[<- wT,beq_iff_eq];omega
  have hq:wK n used aj=(((aj.length:Nat):Int),used+1,aj++[⟨19,(used:Nat),[]⟩]):=by rw[wK,aP he]
  rw[hq]
  have hnil:∀ w,rZ R w (.slice none 0 0) []:=λw=>⟨⟨none,0,rfl,bI _,λh=>absurd h (by simp)⟩,λ_ _ _ _ h=>by cases h⟩
  have HN:=ay hnil;clear hq hnil;go_enter Tryz.func162,Tryz.ntmps162;go_wp2
  go_quiet (fail)
  go_wp2_with fail;have hbd:=HB.out.drewN nq;obtain⟨hs1,hs2⟩:=hbd.adv (used+1)
  have e2:((used:Int)+1)=((used+1:Nat):Int):=by omega
  rw[e2];clear e2;have hk0:Kb B w (w.drewN nq):=Kb.of (below_drewN (bY _ _) _) (by omega);generalize (w.drewN nq).setCell ⟨bb,2,none⟩ (.int .i64 (used+1:Nat))=w4 at hs1 hs2 |-;refine(U7 R B bb _ (used+1) aj 19 used _ [] w4 hs1 (HN.out _) hl).mono ?_;rintro e w5 ⟨rfl,hb5,lu⟩;go_wp2;go_ret;exact⟨rfl,hb5,(hk0.trans hs2).trans lu⟩
def Mi (t:Tok):Value:=.agg #[.int .i64 t.kind,.string ⟨t.lead.toArray⟩,.string ⟨t.text.toArray⟩,.int .i64 t.place]
theorem adw (ah:List Tok)(u:Nat)(h:0<ah.length):∃ (k:Nat) (hk:k<ah.length),k=min u (ah.length - 1)/\dh ah u=ah[k]:=by
 refine⟨min u (ah.length - 1),by omega,rfl,?_⟩;unfold dh;rw[Fb,AB (by omega),Option.getD_some]
theorem Bh (R:List Nat)(B bb:Nat)(tv:Value)(ah:List Tok)(used:Nat)(aj:List Nd)(w:World)(hb:BW R B bb tv used aj w)(ht:Rec B w tv 4 dW ah)(h0:0<ah.length)(hu:used<=ah.length)(hn:ah.length<=1099511627776) :
  Calls Tryz.prog 169 #[.pointer (some ⟨bb,0,none⟩)] w λe w'=>e=.returned (Mi (dh ah used))/\Below w.heap.size w w':=by
 obtain⟨h1,nv,l,h2,h3,h4,h5⟩:=hb;have hlt:=(bU h2).1;obtain⟨ao,cap,rfl,hcap,hf⟩:=ht.form (λ_=>rfl);obtain⟨b,off,rfl,hB,hcell⟩:=hf h0
 have c0:w.cell? ⟨bb,0,none⟩=some (.slice (some ⟨b,off,none⟩) ah.length cap):=by rw[bg h2];rfl
 have c2:w.cell? ⟨bb,2,none⟩=some (.int .i64 used):=by rw[bg h2];rfl
 obtain⟨k,hk,hkm,hp⟩:=adw ah used h0;have hx0:=hcell k 0 _ hk rfl;have hx1:=hcell k 1 _ hk rfl;have hx2:=hcell k 2 _ hk rfl;have hx3:=hcell k 3 _ hk rfl;rw[hp];generalize ah[k]=t at hx0 hx1 hx2 hx3;obtain⟨c,x,y,q⟩:=t;simp only[qp] at hx0 hx1 hx2 hx3;have hal:=(bY w.heap.size w).alloc (bI _) (.cells #[.int .i64 0,.string ⟨#[]⟩,.string ⟨#[]⟩,.int .i64 0] 131);have d0:=jy hal c0;have d2:=jy hal c2;have y0:=jy hal hx0;have y1:=jy hal hx1;have y2:=jy hal hx2;have y3:=jy hal hx3
 have hk0:(0:Int)<(ah.length:Int):=by omega
 have HKM:=ay hkm;clear hkm c0 c2 hx0 hx1 hx2 hx3 hcell hf ht h2 h3 h4 h5 hp;go_enter Tryz.func169,Tryz.ntmps169;go_wp2;have hnw:=aZ w (.cells #[.int .i64 0,.string ⟨#[]⟩,.string ⟨#[]⟩,.int .i64 0] 131);generalize w.alloc _=w1 at hnw hal d0 d2 y0 y1 y2 y3 |-
 have hmin:min (used:Int) ((ah.length:Int) - 1)=(k:Int):=by have:=HKM.out;omega
 have w1':IntKind.i64.wrap ((ah.length:Int) - 1)=(ah.length:Int) - 1:=IntWalk.i64_in _ (by omega)
 have i1:(k:Int)<(ah.length:Int):=by omega
 go_still_tail 19,(by kernel_rfl)
 change wpList _ _ _ _ _ w1.drew;have Zb:=hal.drew;have zQ:w1.drew.heap[w.heap.size]?=some (.cells #[.int .i64 0,.string ⟨#[]⟩,.string ⟨#[]⟩,.int .i64 0] 131 (0,0)):=hnw;generalize w1.drew=w2 at Zb zQ |-
 have f0:w2.cell? ⟨w.heap.size,0,none⟩=some (.int .i64 0):=by rw[bg zQ];rfl
 have f1:w2.cell? ⟨w.heap.size,1,none⟩=some (.string ⟨#[]⟩):=by rw[bg zQ];rfl
 have f2:w2.cell? ⟨w.heap.size,2,none⟩=some (.string ⟨#[]⟩):=by rw[bg zQ];rfl
 have f3:w2.cell? ⟨w.heap.size,3,none⟩=some (.int .i64 0):=by rw[bg zQ];rfl
 have z0:∀ j,w2.frozen? ⟨w.heap.size,j,none⟩=false:=by intro j;simp[World.frozen?,zQ]
 clear hnw zQ hmin w1' i1 y0 y1 y2 y3 d0 d2;go_wp2;refine o9 (v:=.agg #[.int .i64 c,.string ⟨x.toArray⟩,.string ⟨y.toArray⟩,.int .i64 q]) (by simp[results,Tryz.results169,go_sem,f0,f1,f2,f3]) rfl ⟨rfl,?_⟩;exact(((Zb.setCell (bI _) _).setCell (bI _) _).setCell (bI _) _).setCell (bI _) _
theorem fA.cells {ao:Option Addr}{cap:Nat}(h:fA w (.slice ao n cap) ks):n=ks.length/\(0<ks.length->∃ b off,ao=some ⟨b,off,none⟩/\∀ j,(hj:j<ks.length)->w.cell? ⟨b,off+j,none⟩=some (.int .i64 ks[j])):=by
 obtain⟨ao',jc,hv,hc,hf⟩:=h
 injection hv with h1 h2 h3
 subst h1 h2 h3;refine⟨rfl,λh0=>?_⟩;obtain⟨b,off,cs,fr,ha,hb,hj⟩:=hf h0;exact⟨b,off,ha,λj hjl=>by rw[bg hb];exact hj j hjl⟩
theorem fA.slice {w:World}{v:Value}{ks:List Int}(h:fA w v ks):∃ ao cap,v=.slice ao ks.length cap:=by
 obtain⟨ao,cap,hv,_⟩:=h;exact⟨ao,cap,hv⟩
theorem fA.fZ (h:w.ownsRow B 3 1 v n (ks.map (Value.int .i64))):fA w v ks:=by
 obtain⟨hl,h⟩:=h;rw[vL,Nat.mul_one] at hl;subst hl
 rcases h with ⟨rfl,h0⟩|⟨g,cap,cur,rfl,hg,hh,hn,hm,hs,hx⟩
 ·exact⟨none,0,by rw[h0],by omega,λq=>absurd q (by omega)⟩
 ·refine⟨some ⟨g,0,none⟩,cap,rfl,hn,λ_=>⟨g,0,cur,(0,0),rfl,hh,λj hj=>?_⟩⟩
  have h1:(ks.map (Value.int .i64))[j]?=some (.int .i64 ks[j]):=by rw[abl,AB hj];rfl
  rw[<- hx,List.getElem?_take] at h1
  split at h1
  ·rw[Nat.zero_add,<- Array.getElem?_toList];exact h1
  ·cases h1
theorem rZ.fZ {R:List Nat}{B n:Nat}{w:World}{v:Value}{ks:List Int}(h:w.ownsRow B 3 1 v n (ks.map (Value.int .i64)))(hR:∀ r∈R,r<B):rZ R w v ks:=by
 refine⟨fA.fZ h,λb off m cap hv _ hb=>?_⟩;have:=(h.lt b (by rw[hv];rfl)).1;have:=hR b hb;omega
def adx (ks:List Int)(w:World)(e:Ending)(w':World):Prop:=∃ v',e=.returned v'/\(∀ R:List Nat,(∀ r∈R,r<w.heap.size)->rZ R w' v' ks)/\Below w.heap.size w w'
theorem F7 (v:Value)(ks:List Int)(w:World)(h:fA w v ks)(hn:ks.length<=1099511627776) :
  Calls Tryz.prog 159 #[v] w (adx ks w):=by
 obtain⟨ao,cap,rfl⟩:=h.slice;obtain⟨_,hf⟩:=h.cells
 by_cases h0:0<ks.length
 ·obtain⟨b,off,rfl,hc⟩:=hf h0
  refine(Tryz.slices_Clone_int b off ks.length cap ks w (bI _) (by omega) (λj hj=>by rw[hc j hj];simp[Fb,hj])).mono ?_;rintro e w' ⟨v',he,ho,_,hb⟩;rw[Fe] at ho;exact⟨v',he,λR hR=>rZ.fZ ho hR,hb⟩
 ·obtain rfl:ks=[]:=List.length_eq_zero_iff.1 (by omega)
  cases ao with
  | none =>
   refine(Tryz.slices_Clone_int_nil 0 cap w).mono ?_;rintro e w' ⟨he,rfl⟩;exact⟨_,he,λR _=>⟨⟨none,0,rfl,bI _,λq=>absurd q (by simp)⟩,λ_ _ _ _ h=>by cases h⟩,bY _ _⟩
  | some a =>
   refine(Tryz.slices_Clone_int_zero a cap w).mono ?_;rintro e w' ⟨v',he,ho,_,hb⟩;exact⟨v',he,λR hR=>rZ.fZ (ks:=[]) ho hR,hb⟩
def zi (n:Nat)(k:Int):Bool:=decide (k<0) || decide ((n:Int)<=k)
theorem Mj (R:List Nat)(B bb g:Nat)(tv:Value)(used:Nat)(aj:List Nd)(k:Int)(w:World)(hb:BW R B bb tv used aj w)(hg:w.cell? ⟨g,0,none⟩=some (.pointer (some ⟨bb,0,none⟩))) :
  Calls Tryz.prog 232 #[.int .i64 k,.pointer (some ⟨g,0,none⟩)] w λe w'=>e=.returned (.bool (zi aj.length k))/\w'=w:=by
 obtain⟨h1,nv,l,h2,h3,h4,h5⟩:=hb
 obtain⟨ao,cap,rfl,_⟩:∃ ao cap,nv=.slice ao aj.length cap/\True:=by
  rcases h4.2 with ⟨hv,hn0⟩|⟨g,cap,cur,hv,_⟩
  ·exact⟨none,0,by rw[hv,hn0],trivial⟩
  ·exact⟨_,cap,hv,trivial⟩
 have c1:w.cell? ⟨bb,1,none⟩=some (.slice ao aj.length cap):=by rw[bg h2];rfl
 clear h2 h3 h4 h5
 by_cases hk:k<0
 ·have hq:zi aj.length k=true:=by simp[zi,hk]
  rw[hq];clear hq;go_enter Tryz.func232,Tryz.ntmps232;go_wp2
  all_goals (go_ret;refine⟨bF ?_,rfl⟩;simp[*])
 ·have hq:zi aj.length k=decide ((aj.length:Int)<=k):=by simp[zi,hk]
  have d1:decide (k<0)=false:=fu hk;rw[hq];clear hq;go_enter Tryz.func232,Tryz.ntmps232;go_wp2
  all_goals (go_ret;refine⟨bF ?_,rfl⟩;simp[*])
def ady (p:Bool)(w:World)(e:Ending)(w':World):Prop:=(∃ r:Int,e=.returned (.int .i64 r)/\(0<=r↔p=true)/\-1<=r)/\w'=w
theorem JL (R:List Nat)(B bb g:Nat)(tv:Value)(used:Nat)(aj:List Nd)(v:Value)(ks:List Int)(w:World)(hb:BW R B bb tv used aj w)(hg:w.cell? ⟨g,0,none⟩=some (.pointer (some ⟨bb,0,none⟩)))(hv:fA w v ks)(hn:ks.length<=1099511627776) :
  Calls Tryz.prog 274 #[v,.func (.func 232) #[] #[.pointer (some ⟨g,0,none⟩)]] w (ady (ks.any (zi aj.length)) w):=by
 obtain⟨ao,cap,rfl⟩:=hv.slice;obtain⟨_,hf⟩:=hv.cells;have HT:=ay (λk=>Mj R B bb g tv used aj k w hb hg);have HF:=ay hf;clear hf hb hv hg;go_enter Tryz.func274,Tryz.ntmps274;go_wp2
 go_loop [8] (λi=>∃ k:Nat,k<=ks.length/\i=.int .i64 k/\∀ j,(hj:j<ks.length)->j<k->zi aj.length ks[j]=false) (λi=>ks.length - (intOf i).toNat)
 case atStart=>exact⟨0,mD _,rfl,λj _ h=>absurd h (by omega)⟩
 case round =>
  obtain⟨k,hk,rfl,hj⟩:=hrel
  by_cases hlt:k<ks.length
  ·obtain⟨b,off,rfl,hc⟩:=HF.out (by omega)
   have hx:=hc k hlt
   have hI:(k:Int)<(ks.length:Int):=by omega
   have hT:=HT.out ks[k]
   cases ht:zi aj.length ks[k] with
   | true =>
    have hany:ks.any (zi aj.length)=true:=List.any_eq_true.2 ⟨_,oQ hlt,ht⟩;rw[ht] at hT;generalize ks[k]=x at hx hT;have H1:=ay hT;have H2:=ay hany;clear hc hj ht hT hany;go_wp2_with (go_at_call 232;refine H1.out.mono ?_;rintro e w1 ⟨rfl,rfl⟩);go_ret;exact⟨⟨k,rfl,⟨λ_=>H2.out,λ_=>by omega⟩,by omega⟩,rfl⟩
   | false =>
    have HJ:Hid (∀ j,(hj:j<ks.length)->j<k+1->zi aj.length ks[j]=false):=ay (λj hjl hjk=>by
     by_cases hkj:j=k
     ·subst hkj;exact ht
     ·exact hj j hjl (by omega))
    rw[ht] at hT;generalize ks[k]=x at hx hT;have H1:=ay hT;clear hc hj ht hT;go_wp2_with (go_at_call 232;refine H1.out.mono ?_;rintro e w1 ⟨rfl,rfl⟩)
    go_round
    case rel=>exact⟨k+1,by omega,by go_num,HJ.out⟩
    case measure=>simp[intOf];omega
  ·have hany:ks.any (zi aj.length)=false:=by
    rw[<- wT,List.any_eq_true];rintro⟨x,hx,hb⟩;obtain⟨j,hjl,e⟩:=List.mem_iff_getElem.1 hx;rw[<- e,hj j hjl (by omega)] at hb;cases hb
   have hI:decide ((k:Int)<(ks.length:Int))=false:=fu (by omega);have H2:=ay hany;clear hany hj;go_wp2;go_ret;exact⟨⟨-1,rfl,⟨λh=>by omega,λh=>by rw[H2.out] at h;cases h⟩,by omega⟩,rfl⟩
theorem CF (R:List Nat)(B bb g:Nat)(tv:Value)(used:Nat)(aj:List Nd)(v:Value)(ks:List Int)(w:World)(hb:BW R B bb tv used aj w)(hg:w.cell? ⟨g,0,none⟩=some (.pointer (some ⟨bb,0,none⟩)))(hv:fA w v ks)(hn:ks.length<=1099511627776) :
  Calls Tryz.prog 231 #[v,.func (.func 232) #[] #[.pointer (some ⟨g,0,none⟩)]] w λe w'=>e=.returned (.bool (ks.any (zi aj.length)))/\w'=w:=by
 have H:=ay (JL R B bb g tv used aj v ks w hb hg hv hn);clear hb hg hv;go_enter Tryz.func231,Tryz.ntmps231;go_wp2_with (go_at_call 274;refine H.out.mono ?_);rintro e w1 ⟨⟨r,rfl,hr,_⟩,rfl⟩
 have hq:(ks.any (zi aj.length))=decide (0<=r):=by
  by_cases h:0<=r
  ·rw[kS h];exact hr.1 h
  ·rw[fu h,<- wT];exact λq=>h (hr.2 q)
 have HQ:=ay hq;clear hq hr;go_wp2;go_ret;exact⟨bF HQ.out.symm,rfl⟩
def Mk (kind:Int)(ks:List Int)(aj:List Nd):Int × List Nd:=if ks.any (zi aj.length) then (-1,aj) else (((aj.length:Nat):Int),aj++[⟨kind,-1,ks⟩])
theorem Zq (R:List Nat)(B bb:Nat)(tv:Value)(used:Nat)(aj:List Nd)(kind:Int)(v:Value)(ks:List Int)(w:World)(hb:BW R B bb tv used aj w)(hv:fA w v ks)(hR:∀ r∈R,r<w.heap.size)(hn:ks.length<=1099511627776)(hl:aj.length+1<=1099511627776) :
  Calls Tryz.prog 168 #[.pointer (some ⟨bb,0,none⟩),.int .i64 kind,v] w (Zn R B bb tv (Mk kind ks aj).1 used (Mk kind ks aj).2 w):=by
 have hB:=hb.kb;have hlt:=hb.lt
 have hBw:B<=w.heap.size:=by omega
 have hal:=(bY w.heap.size w).alloc (bI _) (.cells #[.pointer (some ⟨bb,0,none⟩)] 181);have hnw:=aZ w (.cells #[.pointer (some ⟨bb,0,none⟩)] 181);have hb1:=hb.later hal;have hv1:=hv.kept (Kp.of hal hBw)
 have hg:(w.alloc (.cells #[.pointer (some ⟨bb,0,none⟩)] 181)).cell? ⟨w.heap.size,0,none⟩=some (.pointer (some ⟨bb,0,none⟩)):=by rw[bg hnw];rfl
 have hc:=CF R B bb w.heap.size tv used aj v ks _ hb1 hg hv1 hn;have HB:=ay hb1;have HV:=ay hv1
 cases hbad:ks.any (zi aj.length) with
 | true =>
  rw[hbad] at hc
  have hq:Mk kind ks aj=(-1,aj):=by rw[Mk,hbad];rfl
  rw[hq];have HC:=ay hc;clear hc hq hbad hb hv hb1 hv1;go_enter Tryz.func168,Tryz.ntmps168;go_wp2_with (go_at_call 231;refine HC.out.mono ?_;rintro e w1 ⟨rfl,rfl⟩);go_ret;exact⟨rfl,HB.out,Kb.of hal hBw⟩
 | false =>
  rw[hbad] at hc
  have hq:Mk kind ks aj=(((aj.length:Nat):Int),aj++[⟨kind,-1,ks⟩]):=by rw[Mk,hbad];rfl
  rw[hq];have HC:=ay hc;clear hc hq hbad hb hv hb1 hv1;go_enter Tryz.func168,Tryz.ntmps168;go_wp2_with (go_at_call 231;refine HC.out.mono ?_;rintro e w1 ⟨rfl,rfl⟩);generalize w.alloc _=w1 at HB HV HC hg hal hnw |-;have hz1:=hal.size
  go_region_held3 (λw'=>w'.cell? ⟨w.heap.size,0,none⟩=some (.pointer (some ⟨bb,0,none⟩)))
   (first|go_keep|exact hc2|exact hc3)
   (first|(go_at_call 159;refine(F7 v ks _ ?_ hn).mono ?_;(exact HV.out);rintro e w2 ⟨v',rfl,hiR,hb2⟩;have hi2:=hiR R (λr hr=>zI (hR r hr) (by have:w.heap.size<=w1.heap.size:=hz1;simpa using this));clear hiR;obtain⟨ao2,cap2,rfl⟩:=hi2.1.slice;have hc2:=jy hb2 (show w1.drew.cell? ⟨w.heap.size,0,none⟩=_ from hg))|(go_at_call 228;refine(U7 R B bb tv used aj kind (-1) _ ks w2 ?_ hi2 hl).mono ?_;(exact(HB.out.later ((bY _ _).drew)).later hb2);rintro e w3 ⟨rfl,hb3,fM⟩;have hc3:w3.cell? ⟨w.heap.size,0,none⟩=some (.pointer (some ⟨bb,0,none⟩)):=by (have h1:w2.heap[w.heap.size]?=some (.cells #[.pointer (some ⟨bb,0,none⟩)] 181 (0,0)):=(hb2.block w.heap.size (bU hnw).1).trans hnw);rw[bg (fM.2 _ _ _ _ h1 (by decide) (by decide))];rfl))
  go_wp2;go_ret;exact⟨rfl,hb3,((Kb.of hal hBw).trans (Kb.of (((bY _ _).drew).trans hb2) (by omega))).trans fM⟩
theorem WG (a b c d:Value)(w:World):(Instr.field 131 (.agg #[a,b,c,d]) 3).run Tryz.prog w=.ok d w:=by kernel_rfl
theorem Kr (a b c d:Value)(w:World):(Instr.field 131 (.agg #[a,b,c,d]) 0).run Tryz.prog w=.ok a w:=by kernel_rfl
theorem PW.builder {E:bH}(h:PW E st w)(hb:BW E.R E.B E.bb E.tv used aj w')(hk:Kb E.B w w')(hu:used<=E.ah.length):PW E { st with used:=used,aj:=aj } w':=by
 obtain⟨h1,h2,h3,h4,h5⟩:=h;exact⟨hk.2 _ _ _ _ h1 (by decide) (by decide),hb,h3.below hk.1,h4,hu,λr hr=>zI (h5.2 r hr) hk.1.size⟩
def eG (E:bH)(r:Int × aN)(w:World)(e:Ending)(w':World):Prop:=e=.returned (.int .i64 r.1)/\PW E r.2 w'/\Kp E.B w w'
def okB (st:aN):Bool:=decide (st.fE=0)
theorem PW.cells {E:bH}(h:PW E st w) :
  w.cell? ⟨E.pb,0,none⟩=some (.pointer (some ⟨E.bb,0,none⟩))/\w.cell? ⟨E.pb,1,none⟩=some (.int .i64 E.depth)/\w.cell? ⟨E.pb,2,none⟩=some (.bool st.aC)/\w.cell? ⟨E.pb,3,none⟩=some (.int .i64 st.fE)/\w.cell? ⟨E.pb,4,none⟩=some (.int .i64 st.fAt)/\∀ j,w.frozen? ⟨E.pb,j,none⟩=false:=by
 have h1:=h.1
 refine⟨?_,?_,?_,?_,?_,λj=>by simp[World.frozen?,h1]⟩<;>(rw[bg h1];rfl)
theorem vS (E:bH)(st:aN)(w:World)(h:PW E st w):Calls Tryz.prog 96 #[.pointer (some ⟨E.pb,0,none⟩)] w λe w'=>e=.returned (.bool (okB st))/\w'=w:=by
 obtain⟨_,_,_,c3,_,_⟩:=h.cells
 have hq:okB st=((st.fE:Int) == 0):=by
  unfold okB
  by_cases q:st.fE=0
  ·rw[kS q,q];rfl
  ·rw[fu q];symm;rw[<- wT,beq_iff_eq];omega
 have HQ:=ay hq;clear h hq;go_enter Tryz.func96,Tryz.ntmps96;go_wp2;go_ret;exact⟨bF HQ.out.symm,rfl⟩
theorem PW.fault {E:bH}(h:PW E st w)(c a:Nat):PW E { st with fE:=c,fAt:=a } ((w.setCell ⟨E.pb,3,none⟩ (.int .i64 c)).setCell ⟨E.pb,4,none⟩ (.int .i64 a))/\Kp E.B w ((w.setCell ⟨E.pb,3,none⟩ (.int .i64 c)).setCell ⟨E.pb,4,none⟩ (.int .i64 a)):=by
 obtain⟨h1,h2,h3,h4,h5⟩:=h
 have hkeep:∀ (k:Nat) (cs:Array Value) (T:TypeId) (fr:Nat × Nat),w.heap[k]?=some (.cells cs T fr)->T≠184->((w.setCell ⟨E.pb,3,none⟩ (.int .i64 c)).setCell ⟨E.pb,4,none⟩ (.int .i64 a)).heap[k]?=some (.cells cs T fr):=λk cs T fr h0 q=>by
  have hne:k≠E.pb:=by
   rintro rfl;rw[h1] at h0;simp only[Option.some.injEq,Obj.cells.injEq] at h0;exact q h0.2.1.symm
  rw[qo _ _ _ _ hne,qo _ _ _ _ hne];exact h0
 have hb:Below E.B w ((w.setCell ⟨E.pb,3,none⟩ (.int .i64 c)).setCell ⟨E.pb,4,none⟩ (.int .i64 a)):=((bY _ _).setCell h4 _).setCell h4 _
 have hk:Kp E.B w ((w.setCell ⟨E.pb,3,none⟩ (.int .i64 c)).setCell ⟨E.pb,4,none⟩ (.int .i64 a)):=⟨hb,λk cs T fr h0 q1 _ _=>hkeep k cs T fr h0 q1⟩
 refine⟨⟨?_,?_,h3.below hb,h4,h5.1,λr hr=>zI (h5.2 r hr) hb.size⟩,hk⟩
 ·rw[kG _ E.pb 4 _ _ _ (kG w E.pb 3 _ _ _ h1)]
  rfl
 ·obtain⟨b1,nv,l,b2,b3,b4,b5⟩:=h2
  refine⟨b1,nv,l,hkeep _ _ _ _ b2 (by decide),b3,?_,λp hp=>(b5 p hp).kept hk⟩;have hne:=own_ne b4 h1 (by decide);exact iQ (iQ b4 hne _) hne _
theorem Zr (E:bH)(c:Nat)(st:aN)(w:World)(h:PW E st w)(h0:0<E.ah.length)(hn:E.ah.length<=1099511627776) :
  Calls Tryz.prog 161 #[.pointer (some ⟨E.pb,0,none⟩),.int .i64 c] w (eG E (0,gT E.ah c st) w):=by
 have HO:=ay (vS E st w h);have hp:=Bh E.R E.B E.bb E.tv E.ah st.used st.aj w h.2.1 h.2.2.1 h0 h.2.2.2.2.1 hn;have hz:=h.lt
 by_cases hf:st.fE=0
 ·have hq:gT E.ah c st={ st with fE:=c,fAt:=(dh E.ah st.used).place }:=by rw[gT,bq hf]
  rw[hq];generalize dh E.ah st.used=t at hp;obtain⟨k,x,y,q⟩:=t;have ho:okB st=true:=kS hf;rw[ho] at HO;obtain⟨c0,_,_,c3,c4,cz⟩:=h.cells;have HP:=ay hp;have H:=ay h;have tf:=WG;clear hq hp hf ho h;go_enter Tryz.func161,Tryz.ntmps161;go_wp2_with (first|(go_at_call 96;refine HO.out.mono ?_;rintro e w1 ⟨rfl,rfl⟩)|(go_at_call 169;refine HP.out.mono ?_));rintro e w2 ⟨he,hb⟩;rw[Mi] at he;subst he;have h2:=H.out.later hb;obtain⟨d0,_,_,d3,d4,dz⟩:=h2.cells;have H2:=ay h2;clear h2;go_wp2;go_ret;obtain⟨f1,f2⟩:=H2.out.fault c q;exact⟨rfl,f1,(Kp.of hb H.out.fD).trans f2⟩
 ·have hq:gT E.ah c st=st:=by rw[gT,aP hf]
  have ho:okB st=false:=fu hf;rw[hq];rw[ho] at HO;have H:=ay h;clear hq hp hf ho h;go_enter Tryz.func161,Tryz.ntmps161;go_wp2_with (first|(go_at_call 96;refine HO.out.mono ?_;rintro e w1 ⟨rfl,rfl⟩));go_ret;exact⟨rfl,H.out,Kp.refl _ _⟩
def mX (w:World)(v:Value)(l:List aH):Prop :=
 ∃ b off cap,v=.slice (some ⟨b,off,none⟩) l.length cap/\b<w.heap.size/\∀ j,(h:j<l.length)->w.cell? ⟨b,off+j,none⟩=some (.string ⟨l[j].toArray⟩)
theorem mX.later {l:List aH}(h:mX w v l)(hb:Below w.heap.size w w'):mX w' v l:=by
 obtain⟨b,off,cap,hv,hlt,hc⟩:=h;exact⟨b,off,cap,hv,by have:=hb.size;omega,λj hj=>(hb.cell (p:=⟨b,off+j,none⟩) hlt).trans (hc j hj)⟩
def WH (l:List aH):List ByteArray:=l.map λx=>⟨x.toArray⟩
theorem Ml (l:List aH)(x:aH):Lib.containsS (WH l) ⟨x.toArray⟩=decide (x∈l):=by
 by_cases h:x∈l
 ·rw[kS h]
  exact(Lib.containsS_iff _ _).2 (List.mem_map.2 ⟨x,h,rfl⟩)
 ·rw[fu h,<- wT]
  intro q;obtain⟨y,hy,e⟩:=List.mem_map.1 ((Lib.containsS_iff _ _).1 q)
  have:y=x:=by
   have:=congrArg (λb:ByteArray=>b.data.toList) e
   simpa using this
  exact h (this ▸ hy)
theorem Bj (v:Value)(l:List aH)(x:aH)(w:World)(h:mX w v l)(hn:l.length<=1000) :
  Calls Tryz.prog 227 #[v,.string ⟨x.toArray⟩] w λe w'=>e=.returned (.bool (decide (x∈l)))/\w'=w:=by
 obtain⟨b,off,cap,rfl,_,hc⟩:=h;refine(Tryz.slices_Contains_string b off l.length cap (WH l) ⟨x.toArray⟩ w (by simp[WH]) (by omega) (λj hj=>?_)).mono ?_
 ·have hj':j<l.length:=by simpa [WH] using hj
  rw[hc j hj'];simp[WH,Fb,hj']
 ·rintro e w' ⟨rfl,rfl⟩
  refine⟨bF ?_,rfl⟩;rw[DL (by simp[WH]),Ml]
theorem xD (E:bH)(v:Value)(l:List aH)(st:aN)(w:World)(h:PW E st w)(hv:mX w v l)(h0:0<E.ah.length)(hn:E.ah.length<=1099511627776)(hl:l.length<=1000) :
  Calls Tryz.prog 160 #[.pointer (some ⟨E.pb,0,none⟩),v] w λe w'=>e=.returned (.bool (bG E.ah st l))/\Below w.heap.size w w':=by
 have hp:=Bh E.R E.B E.bb E.tv E.ah st.used st.aj w h.2.1 h.2.2.1 h0 h.2.2.2.2.1 hn;obtain⟨c0,_,_,_,_,_⟩:=h.cells;unfold bG;generalize dh E.ah st.used=t at hp;obtain⟨k,x,y,q⟩:=t;rw[Mi] at hp;simp only;have HP:=ay hp;have HV:=ay hv
 have hsl:∃ ao n cap,v=.slice ao n cap:=by obtain⟨b,off,cap,rfl,_⟩:=hv;exact⟨_,_,_,rfl⟩
 obtain⟨ao,n,cap,rfl⟩:=hsl;clear hp hv h
 by_cases k2:k=2
 ·subst k2
  have hq:((2 == 2 || 2 == 4) && decide (y∈l))=decide (y∈l):=by simp
  rw[hq];clear hq;go_enter Tryz.func160,Tryz.ntmps160;go_wp2_with (first|(go_at_call 169;refine HP.out.mono ?_;rintro e w1 ⟨rfl,hb⟩)|(go_at_call 227;refine(Bj _ l y _ ?_ hl).mono ?_))
  ·exact HV.out.later (hb.alloc hb.size _)
  ·rintro e w2 ⟨rfl,rfl⟩
   go_wp2;go_ret;exact⟨rfl,hb.alloc hb.size _⟩
 by_cases k4:k=4
 ·subst k4
  have hq:((4 == 2 || 4 == 4) && decide (y∈l))=decide (y∈l):=by simp
  rw[hq];clear hq;go_enter Tryz.func160,Tryz.ntmps160;go_wp2_with (first|(go_at_call 169;refine HP.out.mono ?_;rintro e w1 ⟨rfl,hb⟩)|(go_at_call 227;refine(Bj _ l y _ ?_ hl).mono ?_))
  ·exact HV.out.later (hb.alloc hb.size _)
  ·rintro e w2 ⟨rfl,rfl⟩
   go_wp2;go_ret;exact⟨rfl,hb.alloc hb.size _⟩
 have hq:((k == 2 || k == 4) && decide (y∈l))=false:=by simp[k2,k4]
 have d2:((k:Int) == 2)=false:=by rw[<- wT,beq_iff_eq];omega
 have d4:((k:Int) == 4)=false:=by rw[<- wT,beq_iff_eq];omega
 rw[hq];clear hq k2 k4;go_enter Tryz.func160,Tryz.ntmps160;go_wp2_with (first|(go_at_call 169;refine HP.out.mono ?_;rintro e w1 ⟨rfl,hb⟩));go_ret;exact⟨rfl,hb.alloc hb.size _⟩
theorem adz (ah:List Tok)(st:aN):aD ah st=((wK ah.length st.used st.aj).1,{ st with used:=(wK ah.length st.used st.aj).2.1,aj:=(wK ah.length st.used st.aj).2.2 }):=by
 unfold aD wK
 split<;>rfl
theorem cB (E:bH)(st:aN)(w:World)(h:PW E st w)(_h0:0<E.ah.length)(hn:E.ah.length<=1099511627776)(hl:st.aj.length+1<=1099511627776) :
  Calls Tryz.prog 162 #[.pointer (some ⟨E.bb,0,none⟩)] w (eG E (aD E.ah st) w):=by
 obtain⟨ao,cap,hv,_,_⟩:=h.2.2.1.form (λ_=>rfl);have hb:=h.2.1;rw[hv] at hb;refine(Zp E.R E.B E.bb ao E.ah.length cap st.used st.aj w hb h.2.2.2.2.1 hn hl).mono ?_;rintro e w' ⟨rfl,hb',hk⟩;rw[<- hv] at hb';rw[adz];refine⟨rfl,h.builder hb' hk ?_,hk.kp⟩;have:=h.2.2.2.2.1;unfold wK
 split
 ·exact this
 ·simp only;omega
theorem Zt (n:Nat)(ks:List Int):ks.any (zi n)=ks.any (λk=>decide (k<0) || decide ((n:Int)<=k)):=rfl
theorem ae7 (kind:Int)(ks:List Int)(st:aN):JH kind ks st=((Mk kind ks st.aj).1,{ st with aj:=(Mk kind ks st.aj).2 }):=by
 unfold JH Mk;rw[Zt]
 split<;>rfl
theorem Zu (E:bH)(kind:Int)(v:Value)(ks:List Int)(st:aN)(w:World)(h:PW E st w)(hv:fA w v ks)(hk:ks.length<=1099511627776)(hl:st.aj.length+1<=1099511627776) :
  Calls Tryz.prog 168 #[.pointer (some ⟨E.bb,0,none⟩),.int .i64 kind,v] w (eG E (JH kind ks st) w):=by
 refine(Zq E.R E.B E.bb E.tv st.used st.aj kind v ks w h.2.1 hv h.2.2.2.2.2 hk hl).mono ?_;rintro e w' ⟨rfl,hb',hk⟩;rw[ae7];exact⟨rfl,h.builder hb' hk h.2.2.2.2.1,hk.kp⟩
theorem l7 (E:bH)(kind:Int)(v:Value)(ks:List Int)(st:aN)(w:World)(h:PW E st w)(hv:fA w v ks)(hk:ks.length<=1099511627776)(hl:st.aj.length+1<=1099511627776) :
  Calls Tryz.prog 101 #[.pointer (some ⟨E.pb,0,none⟩),.int .i64 kind,v] w (eG E (bM kind ks st) w):=by
 have HO:=ay (vS E st w h);have HN:=ay (Zu E kind v ks st w h hv hk hl);obtain⟨c0,_,_,_,_,_⟩:=h.cells;have H:=ay h
 by_cases hf:st.fE=0
 ·have hq:bM kind ks st=JH kind ks st:=by rw[bM,bq hf]
  rw[hq];rw[show okB st=true from kS hf] at HO;clear hq hf h hv;go_enter Tryz.func101,Tryz.ntmps101;go_wp2_with (first|(go_at_call 96;refine HO.out.mono ?_;rintro e w1 ⟨rfl,rfl⟩)|(go_at_call 168;refine HN.out.mono ?_));rintro e w2 ⟨rfl,hp,hk2⟩;go_wp2;go_ret;exact⟨rfl,hp,hk2⟩
 ·have hq:bM kind ks st=(0,st):=by rw[bM,aP hf]
  rw[hq];rw[show okB st=false from fu hf] at HO;clear hq hf h hv;go_enter Tryz.func101,Tryz.ntmps101;go_wp2_with (first|(go_at_call 96;refine HO.out.mono ?_;rintro e w1 ⟨rfl,rfl⟩));go_ret;exact⟨rfl,H.out,Kp.refl _ _⟩
def bH.ok (E:bH):Prop:=0<E.ah.length/\E.ah.length<=1099511627776/\E.depth<=1000
theorem nO (E:bH)(hE:E.ok)(c:Nat)(st:aN)(w:World)(h:PW E st w) :
  Calls Tryz.prog 161 #[.pointer (some ⟨E.pb,0,none⟩),.int .i64 c] w (eG E (0,gT E.ah c st) w):=Zr E c st w h hE.1 hE.2.1
theorem OJ (E:bH)(hE:E.ok)(v:Value)(l:List aH)(st:aN)(w:World)(h:PW E st w)(hv:mX w v l)(hl:l.length<=1000)(hn:st.aj.length+1<=1099511627776) :
  Calls Tryz.prog 163 #[.pointer (some ⟨E.pb,0,none⟩),v] w (eG E (aM E.ah l st) w):=by
 have HO:=ay (vS E st w h);have HX:=ay (xD E v l st w h hv hE.1 hE.2.1 hl);have HF:=ay (λw=>nO E hE 22 st w);have H:=ay h
 have hsl:∃ ao n cap,v=.slice ao n cap:=by obtain⟨b,off,cap,rfl,_⟩:=hv;exact⟨_,_,_,rfl⟩
 obtain⟨ao,n,cap,rfl⟩:=hsl;clear h hv
 by_cases hf:st.fE=0
 ·rw[show okB st=true from kS hf] at HO
  cases hx:bG E.ah st l with
  | true =>
   rw[hx] at HX
   have hq:aM E.ah l st=aD E.ah st:=by rw[aM,bq ⟨hf,hx⟩]
   rw[hq];clear hq hf hx;go_enter Tryz.func163,Tryz.ntmps163;go_wp2_with (first|(go_at_call 96;refine HO.out.mono ?_;rintro e w1 ⟨rfl,rfl⟩)|(go_at_call 160;refine HX.out.mono ?_));rintro e w2 ⟨rfl,hb⟩;have h2:=H.out.later hb;obtain⟨c0,_,_,_,_,_⟩:=h2.cells;have HL:=ay (cB E st w2 h2 hE.1 hE.2.1 hn);clear h2;go_wp2_with (first|(go_at_call 162;refine HL.out.mono ?_));rintro e w3 ⟨rfl,hp,hk⟩;go_wp2;go_ret;exact⟨rfl,hp,(Kp.of hb H.out.fD).trans hk⟩
  | false =>
   rw[hx] at HX
   have hq:aM E.ah l st=(0,gT E.ah 22 st):=by rw[aM,aP (λq=>by rw[hx] at q;cases q.2)]
   rw[hq];clear hq hf hx;go_enter Tryz.func163,Tryz.ntmps163;go_wp2_with (first|(go_at_call 96;refine HO.out.mono ?_;rintro e w1 ⟨rfl,rfl⟩)|(go_at_call 160;refine HX.out.mono ?_;rintro e w2 ⟨rfl,hb⟩)|(go_at_call 161;refine(HF.out _ (H.out.later hb)).mono ?_));rintro e w3 ⟨rfl,hp,hk⟩;go_wp2;go_ret;exact⟨rfl,hp,(Kp.of hb H.out.fD).trans hk⟩
 ·rw[show okB st=false from fu hf] at HO
  have hq:aM E.ah l st=(0,gT E.ah 22 st):=by rw[aM,aP (λq=>hf q.1)]
  rw[hq];clear hq hf;go_enter Tryz.func163,Tryz.ntmps163;go_wp2_with (first|(go_at_call 96;refine HO.out.mono ?_;rintro e w1 ⟨rfl,rfl⟩)|(go_at_call 161;refine(HF.out _ H.out).mono ?_));rintro e w3 ⟨rfl,hp,hk⟩;go_wp2;go_ret;exact⟨rfl,hp,hk⟩
theorem uS (E:bH)(hE:E.ok)(k:Nat)(st:aN)(w:World)(h:PW E st w)(hn:st.aj.length+1<=1099511627776) :
  Calls Tryz.prog 102 #[.pointer (some ⟨E.pb,0,none⟩),.int .i64 k] w (eG E (bC E.ah k st) w):=by
 have HO:=ay (vS E st w h);have hp:=Bh E.R E.B E.bb E.tv E.ah st.used st.aj w h.2.1 h.2.2.1 hE.1 h.2.2.2.2.1 hE.2.1;have HF:=ay (λw=>nO E hE 22 st w);have H:=ay h;have tf:=Kr;obtain⟨c0,_,_,_,_,_⟩:=h.cells;clear h;unfold bC;generalize dh E.ah st.used=t at hp;obtain⟨kt,x,y,q⟩:=t;rw[Mi] at hp;simp only;have HP:=ay hp;clear hp
 by_cases hf:st.fE=0
 ·rw[show okB st=true from kS hf] at HO
  by_cases hk:kt=k
  ·have t1:((kt:Int) != (k:Int))=false:=by rw[hk];simp
   rw[bq ⟨hf,hk⟩];clear hf hk;go_enter Tryz.func102,Tryz.ntmps102;go_wp2_with (first|(go_at_call 96;refine HO.out.mono ?_;rintro e w1 ⟨rfl,rfl⟩)|(go_at_call 169;refine HP.out.mono ?_));rintro e w2 ⟨rfl,hb⟩;have h2:=H.out.later hb;obtain⟨d0,_,_,_,_,_⟩:=h2.cells;have HL:=ay (cB E st w2 h2 hE.1 hE.2.1 hn);clear h2;go_wp2_with (first|(go_at_call 162;refine HL.out.mono ?_));rintro e w3 ⟨rfl,hp,hk⟩;go_wp2;go_ret;exact⟨rfl,hp,(Kp.of hb H.out.fD).trans hk⟩
  ·have t1:((kt:Int) != (k:Int))=true:=by rw[bne_iff_ne];omega
   rw[aP (λq=>hk q.2)];clear hf hk;go_enter Tryz.func102,Tryz.ntmps102;go_wp2_with (first|(go_at_call 96;refine HO.out.mono ?_;rintro e w1 ⟨rfl,rfl⟩)|(go_at_call 169;refine HP.out.mono ?_;rintro e w2 ⟨rfl,hb⟩)|(go_at_call 161;refine(HF.out _ (H.out.later hb)).mono ?_));rintro e w3 ⟨rfl,hp,hk⟩;go_wp2;go_ret;exact⟨rfl,hp,(Kp.of hb H.out.fD).trans hk⟩
 ·rw[show okB st=false from fu hf] at HO
  rw[aP (λq=>hf q.1)];clear hf;go_enter Tryz.func102,Tryz.ntmps102;go_wp2_with (first|(go_at_call 96;refine HO.out.mono ?_;rintro e w1 ⟨rfl,rfl⟩)|(go_at_call 161;refine(HF.out _ H.out).mono ?_));rintro e w3 ⟨rfl,hp,hk⟩;go_wp2;go_ret;exact⟨rfl,hp,hk⟩
def agH (E:bH)(st:aN)(w:World)(e:Ending)(w':World):Prop:=e=.returned (.bool (!okB st))/\PW E st w'/\Kp E.B w w'
theorem F8 (E:bH)(hE:E.ok)(aF:Nat)(st:aN)(w:World)(h:PW E st w) :
  Calls Tryz.prog 229 #[.pointer (some ⟨E.pb,0,none⟩),.int .i64 aF] w (agH E (aV E.ah E.depth aF st) w):=by
 have HF:=ay (λw=>nO E hE 23 st w);have H:=ay h;obtain⟨_,c1,_,_,_,_⟩:=h.cells
 by_cases hd:E.depth<aF
 ·have d1:decide (E.depth<aF)=true:=kS hd
  have hq:aV E.ah E.depth aF st=gT E.ah 23 st:=by rw[aV,bq hd]
  rw[hq];clear hq hd h;go_enter Tryz.func229,Tryz.ntmps229;go_wp2_with (first|(go_at_call 161;refine(HF.out _ H.out).mono ?_));rintro e w2 ⟨rfl,hp,hk⟩;have HO:=ay (vS E _ w2 hp);go_wp2_with (first|(go_at_call 96;refine HO.out.mono ?_;rintro e w3 ⟨rfl,rfl⟩));go_ret;exact⟨rfl,hp,hk⟩
 ·have d1:decide (E.depth<aF)=false:=fu hd
  have hq:aV E.ah E.depth aF st=st:=by rw[aV,aP hd]
  rw[hq];have HO:=ay (vS E st w h);clear hq hd h;go_enter Tryz.func229,Tryz.ntmps229;go_wp2_with (first|(go_at_call 96;refine HO.out.mono ?_;rintro e w3 ⟨rfl,rfl⟩));go_ret;exact⟨rfl,H.out,Kp.refl _ _⟩
theorem Fj {ah:List Tok}{d d' n:Nat}{st:aN}(hdd:d<=d')(h:(aV ah d n st).fE=0):aV ah d' n st=aV ah d n st:=by
 unfold aV at h |-
 split at h
 ·exact absurd h (iH (by decide) st)
 ·rename_i hn
  rw[aP hn,aP (by omega)]
theorem wL (ah:List Tok)(one one':aN->Option (Int × aN))(h1:∀ s k,one s=some k->dR s k.2)(h2:∀ s k,one s=some k->k.2.fE=0->one' s=some k):∀ (r:Nat) (aA:List Int) (st:aN) (l:List Int × aN),bD ah one r aA st=some l->l.2.fE=0->bD ah one' r aA st=some l
 | 0,aA,st,l,h,_=>h
 | r+1,aA,st,l,h,hl=>by
  rw[bD] at h |-
  split at h
  ·rename_i hf;rw[bq hf];exact h
  ·rename_i hf
   rw[aP hf];obtain⟨k,hk,h⟩:=bS h
   have hk0:k.2.fE=0:=by
    split at h
    ·exact((aQ ah k.2).trans (lZ ah one h1 r _ _ _ h)).zero hl
    ·injection h with h;subst h;exact hl
   rw[h2 _ _ hk hk0,ko]
   split at h
   ·rename_i hc;rw[bq hc];exact wL ah one one' h1 h2 r _ _ _ h hl
   ·rename_i hc;rw[aP hc];exact h
theorem Bl (ah:List Tok)(one one':aN->Option (Int × aN))(h1:∀ s k,one s=some k->dR s k.2)(h2:∀ s k,one s=some k->k.2.fE=0->one' s=some k)(st:aN)(l:List Int × aN)(h:jH ah one st=some l)(hl:l.2.fE=0):jH ah one' st=some l:=by
 unfold jH at h |-
 split at h
 ·rename_i hc;rw[bq hc];exact h
 ·rename_i hc;rw[aP hc];exact wL ah one one' h1 h2 _ _ _ _ h hl
theorem iJ (ah:List Tok)(d d':Nat)(hdd:d<=d'):∀ (g:Nat) (t:Task) (st:aN) (r:Int × aN),run ah d g t st=some r->r.2.fE=0->run ah d' g t st=some r
 | 0,_,_,_,h,_=>by rw[run] at h;cases h
 | g+1,.expr aF,st,r,h,hr=>by
  have ih:=iJ ah d d' hdd g;have ex:=aW ah d g
  have hd0:(aV ah d aF st).fE=0:=by
   apply LY
   intro q;rw[run,bq q] at h
   injection h with h;subst h
   exact q hr
  rw[run] at h |-;rw[Fj hdd hd0];generalize aV ah d aF st=s at h hd0;rw[aP (by simp[hd0])] at h |-
  split at h
  ·rename_i hc;rw[bq hc];exact ih _ _ _ h hr
  rename_i hc;rw[aP hc]
  split at h
  ·rename_i hc;rw[bq hc]
   obtain⟨x,h1,h⟩:=bS h;obtain⟨f,h2,h⟩:=bS h
   injection h with h;subst h
   have z2:=(aI _ _ _).zero hr;have z1:=((aK _ _ _).trans (ex _ _ _ h2)).zero z2;rw[ih _ _ _ h1 z1,ko,ih _ _ _ h2 z2,ko]
  rename_i hc;rw[aP hc]
  split at h
  ·rename_i hc;rw[bq hc]
   obtain⟨x,h1,h⟩:=bS h;obtain⟨y,h2,h⟩:=bS h;obtain⟨f,h3,h⟩:=bS h
   injection h with h;subst h
   have z3:=(aI _ _ _).zero hr;have z2:=((aK _ _ _).trans (ex _ _ _ h3)).zero z3;have z1:=((aK _ _ _).trans (ex _ _ _ h2)).zero z2;rw[ih _ _ _ h1 z1,ko,ih _ _ _ h2 z2,ko,ih _ _ _ h3 z3,ko]
  rename_i hc;rw[aP hc]
  split at h
  ·rename_i hc;rw[bq hc]
   obtain⟨x,h1,h⟩:=bS h;obtain⟨f,h2,h⟩:=bS h
   injection h with h;subst h
   have z2:=(aI _ _ _).zero hr;have z1:=((aK _ _ _).trans (ex _ _ _ h2)).zero z2;rw[ih _ _ _ h1 z1,ko,ih _ _ _ h2 z2,ko]
  ·rename_i hc;rw[aP hc];exact ih _ _ _ h hr
 | g+1,.formula aF,st,r,h,hr=>by
  have ih:=iJ ah d d' hdd g;have ex:=aW ah d g;rw[run] at h |-;obtain⟨a,h1,h⟩:=bS h
  split at h
  ·rename_i hn
   have hd0:(aV ah d (aF+1) (aD ah a.2).2).fE=0:=by
    apply LY
    intro q;rw[bq q] at h
    injection h with h;subst h
    exact q hr
   rw[aP (by simp[hd0])] at h;obtain⟨b,h2,h⟩:=bS h
   injection h with h;subst h
   have z2:=(aI _ _ _).zero hr;have z1:=((aQ ah a.2).trans (fH _ _ _ _)).zero hd0;rw[ih _ _ _ h1 z1,ko,bq hn,Fj hdd hd0,aP (by simp[hd0]),ih _ _ _ h2 z2,ko]
  ·rename_i hn
   injection h with h;subst h
   rw[ih _ _ _ h1 hr,ko,aP hn]
 | g+1,.part l aF,st,r,h,hr=>by
  have ih:=iJ ah d d' hdd g;rw[run] at h |-
  split at h
  ·rename_i hc;rw[bq hc];exact ih _ _ _ h hr
  ·rename_i hc;rw[aP hc]
   split at h
   ·rename_i hc;rw[bq hc];exact ih _ _ _ h hr
   ·rename_i hc;rw[aP hc];exact ih _ _ _ h hr
 | g+1,.row l aF,st,r,h,hr=>by
  have ih:=iJ ah d d' hdd g;have ex:=aW ah d g;rw[run] at h |-;obtain⟨a,h1,h⟩:=bS h;rw[ih _ _ _ h1 ((ex _ _ _ h).zero hr),ko];exact ih _ _ _ h hr
 | g+1,.loop l aF a,st,r,h,hr=>by
  have ih:=iJ ah d d' hdd g;have ex:=aW ah d g;rw[run] at h |-
  split at h
  ·rename_i hn
   rw[bq hn];obtain⟨b,h1,h⟩:=bS h
   have z:(bM 10 [a,(aD ah st).1,b.1] b.2).2.fE=0:=by
    split at h
    ·injection h with h;subst h;exact hr
    ·exact(ex _ _ _ h).zero hr
   rw[ih _ _ _ h1 ((aI _ _ _).zero z),ko]
   split at h
   ·rename_i hc;rw[bq hc];exact h
   ·rename_i hc;rw[aP hc];exact ih _ _ _ h hr
  ·rename_i hn
   rw[aP hn];exact h
 | g+1,.neg aF,st,r,h,hr=>by
  have ih:=iJ ah d d' hdd g;rw[run] at h |-
  split at h
  ·rename_i hn
   rw[bq hn]
   have hd0:(aV ah d (aF+1) (aD ah st).2).fE=0:=by
    apply LY
    intro q;rw[bq q] at h
    injection h with h;subst h
    exact q hr
   rw[aP (by simp[hd0])] at h;obtain⟨b,h2,h⟩:=bS h
   injection h with h;subst h
   rw[Fj hdd hd0,aP (by simp[hd0]),ih _ _ _ h2 ((aI _ _ _).zero hr),ko]
  ·rename_i hn
   rw[aP hn];exact ih _ _ _ h hr
 | g+1,.factor aF,st,r,h,hr=>by
  have ih:=iJ ah d d' hdd g;rw[run] at h |-
  split at h
  ·rename_i hn
   rw[bq hn]
   have hd0:(aV ah d (aF+1) (aD ah st).2).fE=0:=by
    apply LY
    intro q;rw[bq q] at h
    injection h with h;subst h
    exact q hr
   rw[aP (by simp[hd0])] at h;obtain⟨b,h2,h⟩:=bS h
   injection h with h;subst h
   rw[Fj hdd hd0,aP (by simp[hd0]),ih _ _ _ h2 ((aI _ _ _).zero hr),ko]
  ·rename_i hn
   rw[aP hn];exact ih _ _ _ h hr
 | g+1,.atom aF,st,r,h,hr=>by
  have ih:=iJ ah d d' hdd g;rw[run] at h |-
  split at h
  ·rename_i hc;rw[bq hc];exact h
  rename_i hc;rw[aP hc]
  split at h
  ·rename_i hc;rw[bq hc];exact h
  rename_i hc;rw[aP hc]
  split at h
  ·rename_i hc;rw[bq hc];exact h
  rename_i hc;rw[aP hc]
  split at h
  ·rename_i hc;rw[bq hc];exact h
  rename_i hc;rw[aP hc]
  split at h
  ·rename_i hc;rw[bq hc]
   obtain⟨b,h1,h⟩:=bS h
   injection h with h;subst h
   rw[ih _ _ _ h1 (((aK _ _ _).trans (aI _ _ _)).zero hr),ko]
  rename_i hc;rw[aP hc]
  split at h
  ·rename_i hc;rw[bq hc];exact ih _ _ _ h hr
  ·rename_i hc;rw[aP hc];exact h
 | g+1,.name aF,st,r,h,hr=>by
  have ih:=iJ ah d d' hdd g;have ex:=aW ah d g;rw[run] at h |-
  split at h
  ·rename_i hc;rw[bq hc];exact h
  ·rename_i hc;rw[aP hc]
   obtain⟨l,h1,h⟩:=bS h
   injection h with h;subst h
   rw[Bl ah _ (λs=>run ah d' g (.expr (aF+1)) s) (λs k hk=>ex _ _ _ hk) (λs k hk hz=>ih _ _ _ hk hz) _ _ h1 (((aK _ _ _).trans (aI _ _ _)).zero hr),ko]
theorem aB (w:World)(o:Obj):Below w.heap.size w (w.alloc o):=(bY _ _).alloc (bI _) o
def uT (E:bH)(st:aN)(b:Bool)(w:World)(e:Ending)(w':World):Prop:=e=.returned (.bool b)/\PW E st w'/\Kp E.B w w'
theorem OL (w:World)(b:ByteArray):mX (w.alloc (.cells #[.string b] 9)) (.slice (some ⟨w.heap.size,0,none⟩) 1 1) [b.data.toList]:=by
 refine⟨w.heap.size,0,1,rfl,by simp,λj hj=>?_⟩
 obtain rfl:j=0:=by simpa using hj
 rw[bg (aZ _ _)]
 have:ByteArray.mk b.data.toList.toArray=b:=by cases b;simp
 simp[this]
theorem OM (w:World)(b c:ByteArray):mX (w.alloc (.cells #[.string b,.string c] 9)) (.slice (some ⟨w.heap.size,0,none⟩) 2 2) [b.data.toList,c.data.toList]:=by
 refine⟨w.heap.size,0,2,rfl,by simp,λj hj=>?_⟩
 have h1:ByteArray.mk b.data.toList.toArray=b:=by cases b;simp
 have h2:ByteArray.mk c.data.toList.toArray=c:=by cases c;simp
 rw[bg (aZ _ _)]
 match j,hj with
 | 0,_=>simp[h1]
 | 1,_=>simp[h2]
theorem xE (E:bH)(hE:E.ok)(b:ByteArray)(st:aN)(w:World)(h:PW E st w) :
  Calls Tryz.prog 160 #[.pointer (some ⟨E.pb,0,none⟩),.slice (some ⟨w.heap.size,0,none⟩) 1 1] (w.alloc (.cells #[.string b] 9)) (uT E st (bG E.ah st [b.data.toList]) w):=by
 have hA:=h.later (aB w (.cells #[.string b] 9));refine(xD E _ _ st _ hA (OL w b) hE.1 hE.2.1 (by simp)).mono ?_;rintro e w' ⟨rfl,hb⟩;exact⟨rfl,hA.later hb,(Kp.of (aB w _) h.fD).trans (Kp.of hb hA.fD)⟩
theorem Zv (E:bH)(hE:E.ok)(b c:ByteArray)(st:aN)(w:World)(h:PW E st w) :
  Calls Tryz.prog 160 #[.pointer (some ⟨E.pb,0,none⟩),.slice (some ⟨w.heap.size,0,none⟩) 2 2] (w.alloc (.cells #[.string b,.string c] 9)) (uT E st (bG E.ah st [b.data.toList,c.data.toList]) w):=by
 have hA:=h.later (aB w (.cells #[.string b,.string c] 9));refine(xD E _ _ st _ hA (OM w b c) hE.1 hE.2.1 (by simp)).mono ?_;rintro e w' ⟨rfl,hb⟩;exact⟨rfl,hA.later hb,(Kp.of (aB w _) h.fD).trans (Kp.of hb hA.fD)⟩
theorem eO (E:bH)(hE:E.ok)(b:ByteArray)(st:aN)(w:World)(h:PW E st w)(hn:st.aj.length+1<=1099511627776) :
  Calls Tryz.prog 163 #[.pointer (some ⟨E.pb,0,none⟩),.slice (some ⟨w.heap.size,0,none⟩) 1 1] (w.alloc (.cells #[.string b] 9)) (eG E (aM E.ah [b.data.toList] st) w):=by
 have hA:=h.later (aB w (.cells #[.string b] 9));refine(OJ E hE _ _ st _ hA (OL w b) (by simp) hn).mono ?_;rintro e w' ⟨rfl,hp,hk⟩;exact⟨rfl,hp,(Kp.of (aB w _) h.fD).trans hk⟩
theorem Ga (w:World)(ks:List Int):fA (w.alloc (.cells (ks.map (Value.int .i64)).toArray 3)) (.slice (some ⟨w.heap.size,0,none⟩) ks.length ks.length) ks:=by
 refine⟨some ⟨w.heap.size,0,none⟩,ks.length,rfl,bI _,λ_=>⟨w.heap.size,0,_,_,rfl,aZ _ _,λj hj=>?_⟩⟩;simp[hj]
theorem jo (E:bH)(kind:Int)(ks:List Int)(n:Nat)(cs:Array Value)(st:aN)(w:World)(h:PW E st w)(hn:ks.length=n)(hc:(ks.map (Value.int .i64)).toArray=cs)(hk:n<=1000)(hl:st.aj.length+1<=1099511627776) :
  Calls Tryz.prog 101 #[.pointer (some ⟨E.pb,0,none⟩),.int .i64 kind,.slice (some ⟨w.heap.size,0,none⟩) n n] (w.alloc (.cells cs 3)) (eG E (bM kind ks st) w):=by
 subst hn hc;have hA:=h.later (aB w (.cells (ks.map (Value.int .i64)).toArray 3));refine(l7 E kind _ ks st _ hA (Ga w ks) (by omega) hl).mono ?_;rintro e w' ⟨rfl,hp,hk⟩;exact⟨rfl,hp,(Kp.of (aB w _) h.fD).trans hk⟩
def pQ (E:bH)(r:Int × aN)(w:World):Task->Prop
 | .expr aF=>Calls Tryz.prog 167 #[.pointer (some ⟨E.pb,0,none⟩),.int .i64 aF] w (eG E r w)
 | .formula aF=>Calls Tryz.prog 230 #[.pointer (some ⟨E.pb,0,none⟩),.int .i64 aF] w (eG E r w)
 | .part l aF=>Calls Tryz.prog 294 #[.pointer (some ⟨E.pb,0,none⟩),.int .i64 l,.int .i64 aF] w (eG E r w)
 | .row l aF=>Calls Tryz.prog 273 #[.pointer (some ⟨E.pb,0,none⟩),.int .i64 l,.int .i64 aF] w (eG E r w)
 | .neg aF=>Calls Tryz.prog 306 #[.pointer (some ⟨E.pb,0,none⟩),.int .i64 aF] w (eG E r w)
 | .factor aF=>Calls Tryz.prog 307 #[.pointer (some ⟨E.pb,0,none⟩),.int .i64 aF] w (eG E r w)
 | .atom aF=>Calls Tryz.prog 314 #[.pointer (some ⟨E.pb,0,none⟩),.int .i64 aF] w (eG E r w)
 | .name aF=>Calls Tryz.prog 319 #[.pointer (some ⟨E.pb,0,none⟩),.int .i64 aF] w (eG E r w)
 | .loop _ _ _=>True
def zS (E:bH):Task->Prop
 | .expr aF=>aF<=E.depth+1
 | .formula aF=>aF<=E.depth
 | .part l aF=>l<=4/\aF<=E.depth
 | .row l aF=>l<=4/\aF<=E.depth
 | .neg aF=>aF<=E.depth
 | .factor aF=>aF<=E.depth
 | .atom aF=>aF<=E.depth
 | .name aF=>aF<=E.depth
 | .loop l aF _=>l<=4/\aF<=E.depth
def EI (E:bH)(g:Nat):Prop:=∀ (t:Task) (st:aN) (r:Int × aN) (w:World),run E.ah E.depth g t st=some r->PW E st w->r.2.aj.length+1<=1099511627776->zS E t->pQ E r w t
theorem WI (E:bH)(hE:E.ok)(g:Nat)(ih:EI E g)(aF:Nat)(st:aN)(r:Int × aN)(w:World)(h:run E.ah E.depth (g+1) (.expr aF) st=some r)(hw:PW E st w)(hn:r.2.aj.length+1<=1099511627776)(ae8:aF<=E.depth+1) :
  Calls Tryz.prog 167 #[.pointer (some ⟨E.pb,0,none⟩),.int .i64 aF] w (eG E r w):=by
 have wV:=hE.2.2;have HD:=ay (F8 E hE aF st w hw)
 have hnd:(aV E.ah E.depth aF st).fE=0->aF<=E.depth:=λq=>by
  unfold aV at q
  split at q
  ·exact(iH (by decide) _ q).elim
  ·omega
 rw[run] at h;generalize aV E.ah E.depth aF st=s at HD h hnd
 by_cases hf:s.fE=0
 ·rw[aP (by simp[hf])] at h
  have Zw:=hnd hf;have hok:okB s=true:=kS hf;have HD':Hid (Calls Tryz.prog 229 #[.pointer (some ⟨E.pb,0,none⟩),.int .i64 aF] w (uT E s false w)):=ay (HD.out.mono λe w' ⟨he,hp⟩=>⟨by rw[he,hok];rfl,hp⟩);clear HD hnd hok
  by_cases hcl:s.aC=true
  ·rw[bq hcl] at h
   have HI:=ay (λw' hp=>ih _ _ _ w' h hp hn Zw);clear h;go_enter Tryz.func167,Tryz.ntmps167;go_wp2_with (go_at_call 229;refine HD'.out.mono ?_);rintro e w1 ⟨rfl,hp1,hk1⟩;obtain⟨_,_,c2,_,_,_⟩:=hp1.cells;rw[hcl] at c2;clear hcl;go_wp2_with (go_at_call 230;refine(HI.out _ hp1).mono ?_);rintro e w2 ⟨rfl,hp2,hk2⟩;go_wp2;go_ret;exact⟨rfl,hp2,hk1.trans hk2⟩
  ·rw[aP hcl] at h
   have hcl':s.aC=false:=by simpa using hcl
   clear hcl
   have hHI:∀ (t:Task) (st:aN) (r:Int × aN),run E.ah E.depth g t st=some r->r.2.aj.length+1<=1099511627776->zS E t->∀ w,PW E st w->pQ E r w t:=λt st r h1 h2 h3 w h4=>ih t st r w h1 h4 h2 h3
   have ex:=aW E.ah E.depth g
   have fin:∀ a b:aN,dR a b->b.aj.length+1<=1099511627776->a.aj.length+1<=1099511627776:=λa b h1 h2=>by have:=h1.2.2.2;omega
   have N1:=ay (λw hp=>xE E hE ⟨#[108,101,116]⟩ s w hp);have N2:=ay (λw hp=>xE E hE ⟨#[105,102]⟩ s w hp);have N3:=ay (λw hp=>xE E hE ⟨#[97,115,115,101,114,116]⟩ s w hp)
   by_cases hl:bG E.ah s [aeY]=true
   ·rw[bq hl] at h
    have e1:bG E.ah s [(⟨#[108,101,116]⟩:ByteArray).data.toList]=true:=hl;obtain⟨d,h1,h⟩:=bS h;obtain⟨f,h2,h⟩:=bS h
    injection h with h;subst h
    have n6:=fin _ _ (aI _ _ _) hn;have n5:=fin _ _ (ex _ _ _ h2) n6;have n4:=fin _ _ (aK _ _ _) n5;have n3:=fin _ _ (ex _ _ _ h1) n4;have n2:=fin _ _ (aK _ _ _) n3;have n1:=fin _ _ (eu _ _ _) n2;have n0:=fin _ _ (aQ _ _) n1;have C1:=ay (λw hp=>cB E s w hp hE.1 hE.2.1 n0);have C2:=ay (λw hp=>uS E hE 1 (aD E.ah s).2 w hp n1);have C3:=ay (λw hp=>eO E hE ⟨#[61]⟩ (bC E.ah 1 (aD E.ah s).2).2 w hp n2);have C4:=ay (hHI _ _ _ h1 n4 (by show aF+1<=_;omega));have C5:=ay (λw hp=>eO E hE ⟨#[105,110]⟩ d.2 w hp n4);have C6:=ay (hHI _ _ _ h2 n6 (by show aF+1<=_;omega));have C7:=ay (λw hp=>jo E 7 [(aD E.ah s).1,(bC E.ah 1 (aD E.ah s).2).1,(aM E.ah [[61]] (bC E.ah 1 (aD E.ah s).2).2).1,d.1,(aM E.ah [YK] d.2).1,f.1] 6 _ f.2 w hp rfl rfl (by omega) n6);have E1:=ay e1;clear h1 h2 hl e1 n0 n1 n2 n3 n4 n5 n6 hHI ex fin ih hn;go_enter Tryz.func167,Tryz.ntmps167;go_wp2_with (go_at_call 229;refine HD'.out.mono ?_);rintro e w1 ⟨rfl,hp1,hk1⟩;obtain⟨_,_,c2,_,_,_⟩:=hp1.cells;rw[hcl'] at c2;go_wp2_with (go_at_call 160;refine(N1.out w1 hp1).mono ?_);rintro e w2 ⟨rfl,hp2,hk2⟩;rw[E1.out];obtain⟨d0,_,_,_,_,_⟩:=hp2.cells;clear c2;go_wp2_with (go_at_call 162;refine(C1.out w2 hp2).mono ?_);rintro e w3 ⟨rfl,hp3,fM⟩;go_wp2_with (go_at_call 102;refine(C2.out w3 hp3).mono ?_);rintro e w4 ⟨rfl,rJ,hk4⟩;go_wp2_with (go_at_call 163;refine(C3.out w4 rJ).mono ?_);rintro e w5 ⟨rfl,vT,lu⟩;go_wp2_with (go_at_call 167;refine(C4.out w5 vT).mono ?_);rintro e w6 ⟨rfl,Gc,qY⟩;go_wp2_with (go_at_call 163;refine(C5.out w6 Gc).mono ?_);rintro e w7 ⟨rfl,JM,zk⟩;go_wp2_with (go_at_call 167;refine(C6.out w7 JM).mono ?_);rintro e w8 ⟨rfl,WJ,EJ⟩;go_wp2_with (go_at_call 101;refine(C7.out w8 WJ).mono ?_);rintro e w9 ⟨rfl,hp9,Zx⟩;go_wp2;go_ret;exact⟨rfl,hp9,((((((hk1.trans hk2).trans fM).trans hk4).trans lu).trans qY).trans zk).trans (EJ.trans Zx)⟩
   ·rw[aP hl] at h
    have e1:bG E.ah s [(⟨#[108,101,116]⟩:ByteArray).data.toList]=false:=eq_false_of_ne_true hl;clear hl
    by_cases hi:bG E.ah s [tIf]=true
    ·rw[bq hi] at h
     have e2:bG E.ah s [(⟨#[105,102]⟩:ByteArray).data.toList]=true:=hi;obtain⟨b,h0,h⟩:=bS h;obtain⟨d,h1,h⟩:=bS h;obtain⟨f,h2,h⟩:=bS h
     injection h with h;subst h
     have n6:=fin _ _ (aI _ _ _) hn;have n5:=fin _ _ (ex _ _ _ h2) n6;have n4:=fin _ _ (aK _ _ _) n5;have n3:=fin _ _ (ex _ _ _ h1) n4;have n2:=fin _ _ (aK _ _ _) n3;have n1:=fin _ _ (ex _ _ _ h0) n2;have n0:=fin _ _ (aQ _ _) n1;have C1:=ay (λw hp=>cB E s w hp hE.1 hE.2.1 n0);have C2:=ay (hHI _ _ _ h0 n2 (by show aF+1<=_;omega));have C3:=ay (λw hp=>eO E hE ⟨#[116,104,101,110]⟩ b.2 w hp n2);have C4:=ay (hHI _ _ _ h1 n4 (by show aF+1<=_;omega));have C5:=ay (λw hp=>eO E hE ⟨#[101,108,115,101]⟩ d.2 w hp n4);have C6:=ay (hHI _ _ _ h2 n6 (by show aF+1<=_;omega));have C7:=ay (λw hp=>jo E 8 [(aD E.ah s).1,b.1,(aM E.ah [Ke] b.2).1,d.1,(aM E.ah [Kg] d.2).1,f.1] 6 _ f.2 w hp rfl rfl (by omega) n6);have E1:=ay e1;have E2:=ay e2;clear h0 h1 h2 hi e1 e2 n0 n1 n2 n3 n4 n5 n6 hHI ex fin ih hn;go_enter Tryz.func167,Tryz.ntmps167;go_wp2_with (go_at_call 229;refine HD'.out.mono ?_);rintro e w1 ⟨rfl,hp1,hk1⟩;obtain⟨_,_,c2,_,_,_⟩:=hp1.cells;rw[hcl'] at c2;go_wp2_with (go_at_call 160;refine(N1.out w1 hp1).mono ?_);rintro e w2 ⟨rfl,hp2,hk2⟩;rw[E1.out];obtain⟨_,_,d2,_,_,_⟩:=hp2.cells;rw[hcl'] at d2;clear c2;go_wp2_with (go_at_call 160;refine(N2.out w2 hp2).mono ?_);rintro e w3 ⟨rfl,hp3,fM⟩;rw[E2.out];obtain⟨d0,_,_,_,_,_⟩:=hp3.cells;clear d2;go_wp2_with (go_at_call 162;refine(C1.out w3 hp3).mono ?_);rintro e w4 ⟨rfl,rJ,hk4⟩;go_wp2_with (go_at_call 167;refine(C2.out w4 rJ).mono ?_);rintro e w5 ⟨rfl,vT,lu⟩;go_wp2_with (go_at_call 163;refine(C3.out w5 vT).mono ?_);rintro e w6 ⟨rfl,Gc,qY⟩;go_wp2_with (go_at_call 167;refine(C4.out w6 Gc).mono ?_);rintro e w7 ⟨rfl,JM,zk⟩;go_wp2_with (go_at_call 163;refine(C5.out w7 JM).mono ?_);rintro e w8 ⟨rfl,WJ,EJ⟩;go_wp2_with (go_at_call 167;refine(C6.out w8 WJ).mono ?_);rintro e w9 ⟨rfl,hp9,Zx⟩;go_wp2_with (go_at_call 101;refine(C7.out w9 hp9).mono ?_);rintro e nP ⟨rfl,adA,hk10⟩;go_wp2;go_ret
     exact⟨rfl,adA,((((((((hk1.trans hk2).trans fM).trans hk4).trans lu).trans qY).trans zk).trans EJ).trans Zx).trans hk10⟩
    ·rw[aP hi] at h
     have e2:bG E.ah s [(⟨#[105,102]⟩:ByteArray).data.toList]=false:=eq_false_of_ne_true hi;clear hi
     by_cases ha:bG E.ah s [L8]=true
     ·rw[bq ha] at h
      have e3:bG E.ah s [(⟨#[97,115,115,101,114,116]⟩:ByteArray).data.toList]=true:=ha;obtain⟨b,h0,h⟩:=bS h;obtain⟨d,h1,h⟩:=bS h
      injection h with h;subst h
      have n4:=fin _ _ (aI _ _ _) hn;have n3:=fin _ _ (ex _ _ _ h1) n4;have n2:=fin _ _ (aK _ _ _) n3;have n1:=fin _ _ (ex _ _ _ h0) n2;have n0:=fin _ _ (aQ _ _) n1;have C1:=ay (λw hp=>cB E s w hp hE.1 hE.2.1 n0);have C2:=ay (hHI _ _ _ h0 n2 (by show aF+1<=_;omega));have C3:=ay (λw hp=>eO E hE ⟨#[105,110]⟩ b.2 w hp n2);have C4:=ay (hHI _ _ _ h1 n4 (by show aF+1<=_;omega));have C5:=ay (λw hp=>jo E 9 [(aD E.ah s).1,b.1,(aM E.ah [YK] b.2).1,d.1] 4 _ d.2 w hp rfl rfl (by omega) n4);have E1:=ay e1;have E2:=ay e2;have E3:=ay e3;clear h0 h1 ha e1 e2 e3 n0 n1 n2 n3 n4 hHI ex fin ih hn;go_enter Tryz.func167,Tryz.ntmps167;go_wp2_with (go_at_call 229;refine HD'.out.mono ?_);rintro e w1 ⟨rfl,hp1,hk1⟩;obtain⟨_,_,c2,_,_,_⟩:=hp1.cells;rw[hcl'] at c2;go_wp2_with (go_at_call 160;refine(N1.out w1 hp1).mono ?_);rintro e w2 ⟨rfl,hp2,hk2⟩;rw[E1.out];go_wp2_with (go_at_call 160;refine(N2.out w2 hp2).mono ?_);rintro e w3 ⟨rfl,hp3,fM⟩;rw[E2.out];go_wp2_with (go_at_call 160;refine(N3.out w3 hp3).mono ?_);rintro e w4 ⟨rfl,rJ,hk4⟩;rw[E3.out];obtain⟨d0,_,_,_,_,_⟩:=rJ.cells;clear c2;go_wp2_with (go_at_call 162;refine(C1.out w4 rJ).mono ?_);rintro e w5 ⟨rfl,vT,lu⟩;go_wp2_with (go_at_call 167;refine(C2.out w5 vT).mono ?_);rintro e w6 ⟨rfl,Gc,qY⟩;go_wp2_with (go_at_call 163;refine(C3.out w6 Gc).mono ?_);rintro e w7 ⟨rfl,JM,zk⟩;go_wp2_with (go_at_call 167;refine(C4.out w7 JM).mono ?_);rintro e w8 ⟨rfl,WJ,EJ⟩;go_wp2_with (go_at_call 101;refine(C5.out w8 WJ).mono ?_);rintro e w9 ⟨rfl,hp9,Zx⟩;go_wp2;go_ret;exact⟨rfl,hp9,(((((((hk1.trans hk2).trans fM).trans hk4).trans lu).trans qY).trans zk).trans EJ).trans Zx⟩
     ·rw[aP ha] at h
      have e3:bG E.ah s [(⟨#[97,115,115,101,114,116]⟩:ByteArray).data.toList]=false:=eq_false_of_ne_true ha;have HI:=ay (hHI _ _ _ h hn Zw);have E1:=ay e1;have E2:=ay e2;have E3:=ay e3;clear h ha e1 e2 e3 hHI ex fin ih hn;go_enter Tryz.func167,Tryz.ntmps167;go_wp2_with (go_at_call 229;refine HD'.out.mono ?_);rintro e w1 ⟨rfl,hp1,hk1⟩;obtain⟨_,_,c2,_,_,_⟩:=hp1.cells;rw[hcl'] at c2;go_wp2_with (go_at_call 160;refine(N1.out w1 hp1).mono ?_);rintro e w2 ⟨rfl,hp2,hk2⟩;rw[E1.out];go_wp2_with (go_at_call 160;refine(N2.out w2 hp2).mono ?_);rintro e w3 ⟨rfl,hp3,fM⟩;rw[E2.out];go_wp2_with (go_at_call 160;refine(N3.out w3 hp3).mono ?_);rintro e w4 ⟨rfl,rJ,hk4⟩;rw[E3.out];go_wp2_with (go_at_call 230;refine(HI.out w4 rJ).mono ?_);rintro e w5 ⟨rfl,vT,lu⟩;go_wp2;go_ret;exact⟨rfl,vT,(((hk1.trans hk2).trans fM).trans hk4).trans lu⟩
 ·rw[bq hf] at h
  injection h with h
  subst h;have hok:okB s=false:=fu hf;have HD':Hid (Calls Tryz.prog 229 #[.pointer (some ⟨E.pb,0,none⟩),.int .i64 aF] w (uT E s true w)):=ay (HD.out.mono λe w' ⟨he,hp⟩=>⟨by rw[he,hok];rfl,hp⟩);clear HD hnd hok hf;go_enter Tryz.func167,Tryz.ntmps167;go_wp2_with (go_at_call 229;refine HD'.out.mono ?_);rintro e w1 ⟨rfl,hp1,hk1⟩;go_wp2;go_ret;exact⟨rfl,hp1,hk1⟩
