/- Walks and plain laws: RefLex5, RefLex6, ShowPlain, ParseLaws3, Recs, ParseW0. -/
import Derived.Test.YtknicmmigbhpcaaGreatDoorB05
import Derived.Test.YtknicmmigbhpcaaGreatDoorB03
import Derived.Deep.RegionLaw
set_option maxHeartbeats 16000000
set_option maxRecDepth 100000
set_option linter.unusedVariables false
set_option linter.unusedSimpArgs false
namespace Go.Proofs.YtknicmmigbhpcaaGreatDoor
open Go.RowKit
open Go.RowKit
inductive PZ where
 | mk (op:Int) (name module:List UInt8) (num:Int) (yes:Bool) (kids:List PZ) (at_:Int)
def PZ.op:PZ→Int | .mk o _ _ _ _ _ _=>o
def PZ.name:PZ→List UInt8 | .mk _ n _ _ _ _ _=>n
def PZ.module:PZ→List UInt8 | .mk _ _ m _ _ _ _=>m
def PZ.num:PZ→Int | .mk _ _ _ n _ _ _=>n
def PZ.yes:PZ→Bool | .mk _ _ _ _ y _ _=>y
def PZ.kids:PZ→List PZ | .mk _ _ _ _ _ k _=>k
def PZ.at_:PZ→Int | .mk _ _ _ _ _ _ a=>a
def dL (w:List UInt8):Bool:=match bO w with
 | .ok [t,_]=>decide (t.kind=1) && decide (t.text=w)
 | _=>false
def Fb (op:Int):Int :=
 if op=5 then 8 else if op=6 then 4 else if op=7∨op=8 then 6 else if 9≤op∧op≤11 then 7 else if 12≤op∧op≤17 then 5
 else if op=18 then 3 else if op=19 then 2 else if op=20 then 1 else if 21≤op∧op≤23 then 0 else 9
def sM (op:Int):Int:=if Fb op=5 then 6 else if Fb op=1 then 2 else Fb op
def wV (op:Int):Int:=if Fb op=1 then 1 else Fb op+1
def countB (op:Int)(n:Nat):Bool :=
 if op≤4 then decide (n=0) else if op≤6 then decide (n=1) else if op≤20∨op=22∨op=23 then decide (n=2) else if op=21 then decide (n=3) else decide (n≤8)
def lS (op:Int)(nm md:List UInt8):Bool :=
 if op=3∨op=22 then dL nm && decide (md=[]) else if op=24 then dL nm && (decide (md=[]) || dL md) else decide (nm=[]) && decide (md=[])
def oQ (op num:Int)(yes:Bool):Bool :=
 if op=1 then decide (0≤num) && decide ((iZ num).length≤60) && !yes else decide (num=0) && (decide (op=2) || !yes)
def QJ (fm:Bool)(op:Int):Bool:=if fm=true then decide (op≤20) else decide (op≠4)
def Pj (fm:Bool)(op:Int)(nm md:List UInt8)(num:Int)(yes:Bool)(n:Nat):Bool :=
 decide (1≤op) && decide (op≤24) && QJ fm op && lS op nm md && oQ op num yes && countB op n
mutual
def PZ.right (fm:Bool):PZ→Bool
 | .mk op nm md num yes kids _=>Pj fm op nm md num yes kids.length && mg fm kids
def mg (fm:Bool):List PZ→Bool
 | []=>true
 | e :: l=>e.right fm && mg fm l
end
def qc (op:Int):List UInt8:=([[43],[45],[42],[47],[37],[61],[60,62],[60],[60,61],[62],[62,61],[38,38],[124,124],[61,62]]:List (List UInt8)).getD (op.toNat - 7) []
def oJ (least:Int)(k:Int × List UInt8):List UInt8:=if Fb k.1<least then [40]++k.2++[41] else k.2
def bg:List (List UInt8)→List UInt8
 | []=>[]
 | [t]=>t
 | t :: s :: l=>t++[44,32]++bg (s :: l)
def lD (op:Int)(nm md:List UInt8)(num:Int)(yes:Bool)(ks:List (Int × List UInt8)):List UInt8 :=
 if op=1 then iZ num
 else if op=2 then (if yes=true then [116,114,117,101] else [102,97,108,115,101])
 else if op=3 then nm
 else if op=4 then [114,101,115]
 else if op=5 then [45]++oJ 9 (ks.getD 0 (0,[]))
 else if op=6 then [110,111,116,32]++oJ 4 (ks.getD 0 (0,[]))
 else if op=21 then [105,102,32]++(ks.getD 0 (0,[])).2++[32,116,104,101,110,32]++(ks.getD 1 (0,[])).2++[32,101,108,115,101,32]++(ks.getD 2 (0,[])).2
 else if op=22 then [108,101,116,32]++nm++[32,61,32]++(ks.getD 0 (0,[])).2++[32,105,110,32]++(ks.getD 1 (0,[])).2
 else if op=23 then [97,115,115,101,114,116,32]++(ks.getD 0 (0,[])).2++[32,105,110,32]++(ks.getD 1 (0,[])).2
 else if op=24 then (if md=[] then [] else md++[46])++nm++[40]++bg (ks.map Prod.snd)++[41]
 else oJ (sM op) (ks.getD 0 (0,[]))++[32]++qc op++[32]++oJ (wV op) (ks.getD 1 (0,[]))
mutual
def PZ.text:PZ→List UInt8
 | .mk op nm md num yes kids _=>lD op nm md num yes (gK kids)
def gK:List PZ→List (Int × List UInt8)
 | []=>[]
 | e :: l=>(e.op,e.text) :: gK l
end
theorem PZ.Fe (fm:Bool)(e:PZ):e.right fm=(Pj fm e.op e.name e.module e.num e.yes e.kids.length && mg fm e.kids):=by cases e;rw[PZ.right];rfl
theorem PZ.mH (e:PZ):e.text=lD e.op e.name e.module e.num e.yes (gK e.kids):=by cases e;rw[PZ.text];rfl
theorem sN {fm:Bool}:∀ {l:List PZ},mg fm l=true↔∀ e∈l,e.right fm=true
 | []=>by simp[mg]
 | e :: l=>by rw[mg,Bool.and_eq_true,sN];simp
theorem nU:∀ l:List PZ,gK l=l.map fun e=>(e.op,e.text)
 | []=>rfl
 | e :: l=>by rw[gK,nU l];rfl
theorem j3 {l:List PZ}{i:Nat}(h:i<l.length):(gK l).getD i (0,[])=(l[i].op,l[i].text):=by
 rw[nU,List.getD_eq_getElem?_getD,List.getElem?_map,List.getElem?_eq_getElem h];rfl
mutual
def PE.z:PE→PZ
 | .mk op nm md num _ yes kids a=>.mk op nm md num yes (Fg kids) a
def Fg:List PE→List PZ
 | []=>[]
 | e :: l=>e.z :: Fg l
end
theorem wW:∀ l:List PE,Fg l=l.map PE.z
 | []=>rfl
 | e :: l=>by rw[Fg,wW l];rfl
theorem oU {toks:List Tok}{e:Nat}{st:aB}(he:e≠0)(h:(fQ toks e st).fE=0):False:=kM he st h
theorem gU {toks:List Tok}(hE:gI toks){l:List (List UInt8)}{st:aB}(h:(aA toks l st).2.fE=0) :
  dR st [.leaf] (aA toks l st).2∧(aA toks l st).1=((st.nodes.length:Nat):Int)∧aI toks st.used∈l∧st.used+1<toks.length∧st.fE=0:=by
 unfold aA at h ⊢
 split at h
 ·rename_i hc
  rw[if_pos hc];obtain⟨_,e2⟩:=jl hE (aZ hc.2);obtain⟨h1,h2⟩:=dR.leaf (toks:=toks) (st:=st) (by omega);refine⟨h1,h2,?_,e2,hc.1⟩;have:=hc.2;simp only[aS,Bool.and_eq_true,decide_eq_true_eq] at this;exact this.2
 ·exact(oU (by decide) h).elim
theorem wX {toks:List Tok}(hE:gI toks){k:Nat}(hk:k≠5){st:aB}(h:(aP toks k st).2.fE=0) :
  dR st [.leaf] (aP toks k st).2∧(aP toks k st).1=((st.nodes.length:Nat):Int)∧fZ toks st.used=k∧st.used+1<toks.length∧st.fE=0:=by
 unfold aP at h ⊢
 split at h
 ·rename_i hc
  rw[if_pos hc];have e2:=hE.before (u:=st.used) (by rw[hc.2];exact hk);obtain⟨h1,h2⟩:=dR.leaf (toks:=toks) (st:=st) (by omega);exact⟨h1,h2,hc.2,e2,hc.1⟩
 ·exact(oU (by decide) h).elim
theorem gM {toks:List Tok}{st:aB}{l:List (List UInt8)}(h:aS toks st l=true):aI toks st.used∈l:=by
 simp only[aS,Bool.and_eq_true,decide_eq_true_eq] at h;exact h.2
theorem iF {toks:List Tok}(hE:gI toks){st:aB}(h:fZ toks st.used≠5) :
  dR st [.leaf] (ay toks st).2∧(ay toks st).1=((st.nodes.length:Nat):Int)∧st.used+1<toks.length:=by
 have e2:=hE.before h;obtain⟨h1,h2⟩:=dR.leaf (toks:=toks) (st:=st) (by omega);exact⟨h1,h2,e2⟩
theorem wY {toks:List Tok}{d n:Nat}{st:aB}(h:(aM toks d n st).fE=0):aM toks d n st=st:=by
 unfold aM at h ⊢
 split at h
 ·exact(oU (by decide) h).elim
 ·rename_i hn;rw[if_neg hn]
theorem oV {k:Int}{l:List Int}{st:aB}(h:(aY k l st).2.fE=0):st.fE=0:=(aD k l st).zero h
theorem dR.res {toks:List Tok}{a b:aB}{l:List PT}{e:CE}{k:Nat}{ids:List Int}(h:dR a l b)(aaC:ids=bQ a.nodes.length l)(he:e.pt=.node k l)(hok:e.ok toks a.clause a.used)(hf:(aY k ids b).2.fE=0)(hu:a.used<toks.length→b.used<toks.length) :
  Tt toks a (aY k ids b) e:=by
 subst aaC;obtain⟨h1,h2⟩:=h.node (oV hf) k;refine⟨by rw[he];exact h1,by rw[h2,he,PT.nd];omega,hok,fun q=>?_⟩;have:=h1.used;rw[this];have h3:=h.used;have h4:=hu q;rw[h3] at h4
 simpa [bB,PT.lv] using h4
theorem qd (b:Nat)(t:PT)(l:List PT):bQ b (t :: l)=(((b+t.nd:Nat):Int) - 1) :: bQ (b+t.nd) l:=by rw[bQ]
def adG (toks:List Tok):Task→aB→Int × aB→Prop
 | .loop _ _ a,st,r=>∀ st0 e0,Tt toks st0 (a,st) e0→∃ e,Tt toks st0 r e
 | .name _,st,r=>fZ toks st.used=1→∃ e,Tt toks st r e
 | _,st,r=>∃ e,Tt toks st r e
theorem QK:∀ l:Nat,∀ x∈yI l,x∈nS
 | 0=>by decide
 | 1=>by decide
 | 2=>by decide
 | 3=>by decide
 | _+4=>by
  intro x hx
  have:∀ x∈([[42],[47],[37]]:List (List UInt8)),x∈nS:=by decide
  exact this x hx
theorem uR (toks:List Tok)(hE:gI toks)(one:aB→Option (Int × aB))(h1:∀ s k,one s=some k→bZ s k.2)(h2:∀ s k,one s=some k→k.2.fE=0→∃ e,Tt toks s k e) :
  ∀ (r:Nat) (kids:List Int) (st:aB) (l:List Int × aB),aR toks one r kids st=some l→l.2.fE=0 →
   ∃ es:List CE,es≠[]∧es.length≤r∧dR st (dS es) l.2∧l.1=kids++bQ st.nodes.length (dS es)∧mV toks st.clause st.used es∧(st.used<toks.length→l.2.used<toks.length)
 | 0,kids,st,l,h,hl=>by
  rw[aR] at h
  injection h with h
  subst h
  exfalso
  have hl:(if st.fE=0 then fQ toks 15 st else st).fE=0:=hl
  split at hl
  ·exact oU (by decide) hl
  ·rename_i hf;exact hf hl
 | r+1,kids,st,l,h,hl=>by
  rw[aR] at h
  split at h
  ·rename_i hf
   injection h with h;subst h
   exact absurd hl hf
  ·obtain⟨k,hk,h⟩:=bH h
   split at h
   ·rename_i hn
    obtain⟨g1,i1,u1⟩:=iF hE (aZ hn.2);obtain⟨e,he1,he2,he3,he4⟩:=h2 _ _ hk hn.1;obtain⟨es,hne,hlen,hg,hi,hok,hu⟩:=uR toks hE one h1 h2 r _ _ _ h hl
    obtain⟨f,es,rfl⟩:∃ f fs,es=f :: fs:=by cases es with
     | nil=>exact absurd rfl hne
     | cons f fs=>exact⟨f,fs,rfl⟩
    have a1:=he1.len;have a2:=he1.used;have a3:=he1.clause;have b1:=g1.len;have b2:=g1.used;have b3:=g1.clause;simp only[dJ,bB,PT.nd,PT.lv,Nat.add_zero] at a1 a2 b1 b2;refine⟨e :: f :: es,by simp,by simpa using hlen,?_,?_,?_,fun q=>hu (by have:=he4 q;omega)⟩
    ·rw[lK]
     exact(he1.append g1).append hg
    ·rw[hi,lK,qd,qd,he2,i1,b1,a1]
     simp only[PT.nd,List.append_assoc,List.cons_append,List.nil_append]
     congr 2
     congr 1
     omega
    ·rw[b2,b3,a2,a3] at hok
     exact⟨he3,hok⟩
   ·injection h with h;subst h
    obtain⟨e,he1,he2,he3,he4⟩:=h2 _ _ hk hl;refine⟨[e],by simp,by simp,by rw[qR];exact he1,?_,⟨he3,trivial⟩,he4⟩;rw[qR,qd,he2];simp[bQ]
theorem MH (toks:List Tok)(hE:gI toks)(one:aB→Option (Int × aB))(h1:∀ s k,one s=some k→bZ s k.2)(h2:∀ s k,one s=some k→k.2.fE=0→∃ e,Tt toks s k e)
  (st:aB) (l:List Int × aB) (h:jh toks one st=some l) (hl:l.2.fE=0) :
  ∃ es:List CE,es.length≤8∧dR st (dS es) l.2∧l.1=bQ st.nodes.length (dS es)∧mV toks st.clause st.used es∧(st.used<toks.length→l.2.used<toks.length):=by
 unfold jh at h
 split at h
 ·injection h with h;subst h
  exact⟨[],by simp,by simpa [dS] using dR.nil st,by simp[dS,bQ],trivial,id⟩
 ·obtain⟨es,_,h1,h2,h3,h4,h5⟩:=uR toks hE one h1 h2 _ _ _ _ h hl
  exact⟨es,h1,h2,by rw[h3];simp,h4,h5⟩
theorem jC (toks:List Tok)(hE:gI toks)(d:Nat):∀ (g:Nat) (t:Task) (st:aB) (r:Int × aB),run toks d g t st=some r→r.2.fE=0→adG toks t st r
 | 0,_,_,_,h,_=>by rw[run] at h;cases h
 | g+1,.expr nest,st,r,h,hr=>by
  have ih:=jC toks hE d g;have ex:=aO toks d g
  have hd0:(aM toks d nest st).fE=0:=by
   apply Classical.byContradiction
   intro q;rw[run,if_pos q] at h
   injection h with h;subst h
   exact q hr
  rw[run,wY hd0] at h;rw[wY hd0] at hd0;rw[if_neg (by simp[hd0])] at h
  split at h
  ·have q:=ih _ _ _ h hr;exact q
  rename_i hcl
  have hcl:st.clause=false:=by simpa using hcl
  split at h
  ·rename_i hn
   obtain⟨x,h1,h⟩:=bH h;obtain⟨f,h2,h⟩:=bH h
   injection h with h;subst h
   have z2:=(aD _ _ _).zero hr;have z1:=(ex _ _ _ h2).zero z2;have z0:=(aF _ _ _).zero z1;obtain⟨g1,i1,u1⟩:=iF hE (aZ hn);obtain⟨g2,i2,k2,u2,y2⟩:=wX hE (by decide) ((aF _ _ _).zero ((ex _ _ _ h1).zero z0));obtain⟨g3,i3,k3,u3,y3⟩:=gU hE ((ex _ _ _ h1).zero z0);obtain⟨e1,g4,i4,o4,w4⟩:=ih _ _ _ h1 z0;obtain⟨g5,i5,k5,u5,y5⟩:=gU hE z1;obtain⟨e2,g6,i6,o6,w6⟩:=ih _ _ _ h2 z2;have G:=((((g1.append g2).append g3).append g4).append g5).append g6;generalize aA toks [Tq] x.2=m5 at *;generalize aA toks [[61]] (aP toks 1 (ay toks st).2).2=m3 at *;generalize aP toks 1 (ay toks st).2=m2 at *;generalize ay toks st=m1 at *;have L1:=g1.len;have L2:=g2.len;have L3:=g3.len;have L4:=g4.len;have L5:=g5.len;have U1:=g1.used;have U2:=g2.used;have U3:=g3.used;have U4:=g4.used;have U5:=g5.used;have C1:=g1.clause;have C2:=g2.clause;have C3:=g3.clause;have C4:=g4.clause;have C5:=g5.clause;simp only[dJ,bB,PT.nd,PT.lv,Nat.add_zero] at L1 L2 L3 L4 L5 U1 U2 U3 U4 U5;refine⟨.pG e1 e2,G.res (l:=[.leaf,.leaf,.leaf,e1.pt,.leaf,e2.pt]) ?_ (by simp[CE.pt]) ?_ hr (fun _=>w6 (by omega))⟩
   ·have p1:=e1.pt.fV
    have p2:=e2.pt.fV;simp only[bQ,PT.nd,List.cons.injEq,and_true]
    refine⟨?_,?_,?_,?_,?_,?_⟩<;>omega
   ·refine⟨hcl,by rw[← U1];exact k2,?_,?_⟩
    ·rw[C3,C2,C1,U3,U2,U1] at o4;exact o4
    ·rw[C5,C4,C3,C2,C1,U5,U4,U3,U2,U1] at o6;exact o6
  split at h
  ·rename_i hn
   obtain⟨x,h1,h⟩:=bH h;obtain⟨y,h2,h⟩:=bH h;obtain⟨f,h3,h⟩:=bH h
   injection h with h;subst h
   have z3:=(aD _ _ _).zero hr;have z2:=(ex _ _ _ h3).zero z3;have z2':=(aF _ _ _).zero z2;have z1:=(ex _ _ _ h2).zero z2';have z0:=(aF _ _ _).zero z1;obtain⟨g1,i1,u1⟩:=iF hE (aZ hn);obtain⟨e1,g2,i2,o2,w2⟩:=ih _ _ _ h1 z0;obtain⟨g3,i3,k3,u3,y3⟩:=gU hE z1;obtain⟨e2,g4,i4,o4,w4⟩:=ih _ _ _ h2 z2';obtain⟨g5,i5,k5,u5,y5⟩:=gU hE z2;obtain⟨e3,g6,i6,o6,w6⟩:=ih _ _ _ h3 z3;have G:=((((g1.append g2).append g3).append g4).append g5).append g6;generalize aA toks [ER] y.2=m5 at *;generalize aA toks [EP] x.2=m3 at *;generalize ay toks st=m1 at *;have L1:=g1.len;have L2:=g2.len;have L3:=g3.len;have L4:=g4.len;have L5:=g5.len;have U1:=g1.used;have U2:=g2.used;have U3:=g3.used;have U4:=g4.used;have U5:=g5.used;have C1:=g1.clause;have C2:=g2.clause;have C3:=g3.clause;have C4:=g4.clause;have C5:=g5.clause;simp only[dJ,bB,PT.nd,PT.lv,Nat.add_zero] at L1 L2 L3 L4 L5 U1 U2 U3 U4 U5;refine⟨.iff e1 e2 e3,G.res (l:=[.leaf,e1.pt,.leaf,e2.pt,.leaf,e3.pt]) ?_ (by simp[CE.pt]) ?_ hr (fun _=>w6 (by omega))⟩
   ·have p1:=e1.pt.fV
    have p2:=e2.pt.fV;have p3:=e3.pt.fV;simp only[bQ,PT.nd,List.cons.injEq,and_true]
    refine⟨?_,?_,?_,?_,?_,?_⟩<;>omega
   ·refine⟨hcl,?_,?_,?_⟩
    ·rw[C1,U1] at o2;exact o2
    ·rw[C3,C2,C1,U3,U2,U1] at o4;exact o4
    ·rw[C5,C4,C3,C2,C1,U5,U4,U3,U2,U1] at o6;exact o6
  split at h
  ·rename_i hn
   obtain⟨x,h1,h⟩:=bH h;obtain⟨f,h2,h⟩:=bH h
   injection h with h;subst h
   have z2:=(aD _ _ _).zero hr;have z1:=(ex _ _ _ h2).zero z2;have z0:=(aF _ _ _).zero z1;obtain⟨g1,i1,u1⟩:=iF hE (aZ hn);obtain⟨e1,g2,i2,o2,w2⟩:=ih _ _ _ h1 z0;obtain⟨g3,i3,k3,u3,y3⟩:=gU hE z1;obtain⟨e2,g4,i4,o4,w4⟩:=ih _ _ _ h2 z2;have G:=((g1.append g2).append g3).append g4;generalize aA toks [Tq] x.2=m3 at *;generalize ay toks st=m1 at *;have L1:=g1.len;have L2:=g2.len;have L3:=g3.len;have U1:=g1.used;have U2:=g2.used;have U3:=g3.used;have C1:=g1.clause;have C2:=g2.clause;have C3:=g3.clause;simp only[dJ,bB,PT.nd,PT.lv,Nat.add_zero] at L1 L2 L3 U1 U2 U3;refine⟨.pI e1 e2,G.res (l:=[.leaf,e1.pt,.leaf,e2.pt]) ?_ (by simp[CE.pt]) ?_ hr (fun _=>w4 (by omega))⟩
   ·have p1:=e1.pt.fV
    have p2:=e2.pt.fV;simp only[bQ,PT.nd,List.cons.injEq,and_true]
    refine⟨?_,?_,?_,?_⟩<;>omega
   ·refine⟨hcl,?_,?_⟩
    ·rw[C1,U1] at o2;exact o2
    ·rw[C3,C2,C1,U3,U2,U1] at o4;exact o4
  ·have q:=ih _ _ _ h hr;exact q
 | g+1,.formula nest,st,r,h,hr=>by
  have ih:=jC toks hE d g;have ex:=aO toks d g;rw[run] at h;obtain⟨a,h1,h⟩:=bH h
  split at h
  ·rename_i hn
   have hd0:(aM toks d (nest+1) (ay toks a.2).2).fE=0:=by
    apply Classical.byContradiction
    intro q;rw[if_pos q] at h
    injection h with h;subst h
    exact q hr
   rw[if_neg (by simp[hd0]),wY hd0] at h;obtain⟨b,h2,h⟩:=bH h
   injection h with h;subst h
   have z2:=(aD _ _ _).zero hr;obtain⟨e1,g1,i1,o1,w1⟩:=ih _ _ _ h1 hn.1;obtain⟨g2,i2,u2⟩:=iF hE (aZ hn.2);have hx:=gM hn.2;obtain⟨e2,g3,i3,o3,w3⟩:=ih _ _ _ h2 z2;have G:=(g1.append g2).append g3;generalize ay toks a.2=m2 at *;have L1:=g1.len;have L2:=g2.len;have U1:=g1.used;have U2:=g2.used;have C1:=g1.clause;have C2:=g2.clause;simp only[dJ,bB,PT.nd,PT.lv,Nat.add_zero] at L1 L2 U1 U2;refine⟨.bin e1 e2,G.res (l:=[e1.pt,.leaf,e2.pt]) ?_ (by simp[CE.pt]) ?_ hr (fun _=>w3 (by omega))⟩
   ·have p1:=e1.pt.fV
    have p2:=e2.pt.fV;simp only[bQ,PT.nd,List.cons.injEq,and_true]
    refine⟨?_,?_,?_⟩<;>omega
   ·refine⟨?_,o1,?_⟩
    ·rw[← U1]
     simp only[List.mem_singleton] at hx;rw[hx]
     decide
    ·rw[C2,C1,U2,U1] at o3;exact o3
  ·injection h with h;subst h
   have q:=ih _ _ _ h1 hr;exact q
 | g+1,.part l nest,st,r,h,hr=>by
  have ih:=jC toks hE d g;rw[run] at h
  split at h
  ·have q:=ih _ _ _ h hr;exact q
  ·split at h
   ·have q:=ih _ _ _ h hr;exact q
   ·have q:=ih _ _ _ h hr;exact q
 | g+1,.row l nest,st,r,h,hr=>by
  have ih:=jC toks hE d g;have ex:=aO toks d g;rw[run] at h;obtain⟨a,h1,h⟩:=bH h;obtain⟨e1,he⟩:=ih _ _ _ h1 ((ex _ _ _ h).zero hr);exact ih _ _ _ h hr st e1 he
 | g+1,.loop l nest a,st,r,h,hr=>by
  have ih:=jC toks hE d g;have ex:=aO toks d g;intro st0 e0 h0;rw[run] at h
  split at h
  ·rename_i hn
   obtain⟨b,h1,h⟩:=bH h
   have z:(aY 10 [a,(ay toks st).1,b.1] b.2).2.fE=0:=by
    split at h
    ·injection h with h;subst h;exact hr
    ·exact(ex _ _ _ h).zero hr
   obtain⟨g2,i2,u2⟩:=iF hE (aZ hn.2);have hx:=gM hn.2;obtain⟨g1,i1,o1,w1⟩:=h0;obtain⟨e2,g3,i3,o3,w3⟩:=ih _ _ _ h1 ((aD _ _ _).zero z);have G:=(g1.append g2).append g3;generalize ay toks st=m2 at *;simp only at g1 i1;have L1:=g1.len;have L2:=g2.len;have U1:=g1.used;have U2:=g2.used;have C1:=g1.clause;have C2:=g2.clause;simp only[dJ,bB,PT.nd,PT.lv,Nat.add_zero] at L1 L2 U1 U2
   have hR:Tt toks st0 (aY 10 [a,m2.1,b.1] b.2) (.bin e0 e2):=by
    refine G.res (l:=[e0.pt,.leaf,e2.pt]) ?_ (by simp[CE.pt]) ?_ z (fun _=>w3 (by omega))
    ·have p1:=e0.pt.fV
     have p2:=e2.pt.fV;simp only[bQ,PT.nd,List.cons.injEq,and_true]
     refine⟨?_,?_,?_⟩<;>omega
    ·refine⟨?_,o1,?_⟩
     ·rw[← U1]
      exact QK l _ hx
     ·rw[C2,C1,U2,U1] at o3;exact o3
   split at h
   ·injection h with h;subst h;exact⟨_,hR⟩
   ·exact ih _ _ _ h hr st0 _ hR
  ·injection h with h;subst h
   exact⟨e0,h0⟩
 | g+1,.neg nest,st,r,h,hr=>by
  have ih:=jC toks hE d g;rw[run] at h
  split at h
  ·rename_i hn
   have hd0:(aM toks d (nest+1) (ay toks st).2).fE=0:=by
    apply Classical.byContradiction
    intro q;rw[if_pos q] at h
    injection h with h;subst h
    exact q hr
   rw[if_neg (by simp[hd0]),wY hd0] at h;obtain⟨b,h2,h⟩:=bH h
   injection h with h;subst h
   obtain⟨g2,i2,u2⟩:=iF hE (aZ hn.2);have hx:=gM hn.2;obtain⟨e2,g3,i3,o3,w3⟩:=ih _ _ _ h2 ((aD _ _ _).zero hr);have G:=g2.append g3;generalize ay toks st=m2 at *;have L2:=g2.len;have U2:=g2.used;have C2:=g2.clause;simp only[dJ,bB,PT.nd,PT.lv,Nat.add_zero] at L2 U2;refine⟨.un e2,G.res (l:=[.leaf,e2.pt]) ?_ (by simp[CE.pt]) ?_ hr (fun _=>w3 (by omega))⟩
   ·have p2:=e2.pt.fV
    simp only[bQ,PT.nd,List.cons.injEq,and_true]
    refine⟨?_,?_⟩<;>omega
   ·refine⟨.inl (by simpa using hx),?_⟩
    rw[C2,U2] at o3;exact o3
  ·have q:=ih _ _ _ h hr;exact q
 | g+1,.factor nest,st,r,h,hr=>by
  have ih:=jC toks hE d g;rw[run] at h
  split at h
  ·rename_i hn
   have hd0:(aM toks d (nest+1) (ay toks st).2).fE=0:=by
    apply Classical.byContradiction
    intro q;rw[if_pos q] at h
    injection h with h;subst h
    exact q hr
   rw[if_neg (by simp[hd0]),wY hd0] at h;obtain⟨b,h2,h⟩:=bH h
   injection h with h;subst h
   obtain⟨g2,i2,u2⟩:=iF hE (aZ hn.2);have hx:=gM hn.2;obtain⟨e2,g3,i3,o3,w3⟩:=ih _ _ _ h2 ((aD _ _ _).zero hr);have G:=g2.append g3;generalize ay toks st=m2 at *;have L2:=g2.len;have U2:=g2.used;have C2:=g2.clause;simp only[dJ,bB,PT.nd,PT.lv,Nat.add_zero] at L2 U2;refine⟨.un e2,G.res (l:=[.leaf,e2.pt]) ?_ (by simp[CE.pt]) ?_ hr (fun _=>w3 (by omega))⟩
   ·have p2:=e2.pt.fV
    simp only[bQ,PT.nd,List.cons.injEq,and_true]
    refine⟨?_,?_⟩<;>omega
   ·refine⟨.inr (by simpa using hx),?_⟩
    rw[C2,U2] at o3;exact o3
  ·have q:=ih _ _ _ h hr;exact q
 | g+1,.atom nest,st,r,h,hr=>by
  have ih:=jC toks hE d g;have ex:=aO toks d g
  have single:∀ (k:Nat) (e:CE),fZ toks st.used≠5→e.pt=.node k [.leaf]→e.ok toks st.clause st.used→(aY k [(ay toks st).1] (ay toks st).2).2.fE=0→Tt toks st (aY k [(ay toks st).1] (ay toks st).2) e:=by
   intro k e h5 he hok hz;obtain⟨g2,i2,u2⟩:=iF hE h5;have U2:=g2.used;simp only[bB,PT.lv,Nat.add_zero] at U2;refine g2.res ?_ he hok hz (fun _=>by omega);rw[i2];simp only[bQ,PT.nd,List.cons.injEq,and_true];omega
  rw[run] at h
  split at h
  ·rename_i hf
   injection h with h;subst h
   exact absurd hr hf
  split at h
  ·rename_i hk
   injection h with h;subst h
   exact⟨.num,single 15 .num (by rw[fZ];omega) (by simp[CE.pt]) hk hr⟩
  split at h
  ·rename_i hn
   injection h with h;subst h
   refine⟨.truth,single 16 .truth (aZ hn) (by simp[CE.pt]) ?_ hr⟩;have:=gM hn
   simpa [CE.ok] using this
  split at h
  ·rename_i hn
   injection h with h;subst h
   refine⟨.res,single 17 .res (aZ hn.2) (by simp[CE.pt]) ?_ hr⟩;have:=gM hn.2;exact⟨hn.1,by simpa using this⟩
  split at h
  ·rename_i hn
   obtain⟨b,h1,h⟩:=bH h
   injection h with h;subst h
   have z1:=(aD _ _ _).zero hr;obtain⟨g1,i1,u1⟩:=iF hE (aZ hn);have hx:=gM hn;obtain⟨e2,g2,i2,o2,w2⟩:=ih _ _ _ h1 ((aF _ _ _).zero z1);obtain⟨g3,i3,k3,u3,y3⟩:=gU hE z1;have G:=(g1.append g2).append g3;generalize aA toks [[41]] b.2=m3 at *;generalize ay toks st=m1 at *;have L1:=g1.len;have L2:=g2.len;have U1:=g1.used;have U2:=g2.used;have U3:=g3.used;have C1:=g1.clause;simp only[dJ,bB,PT.nd,PT.lv,Nat.add_zero] at L1 L2 U1 U2 U3;refine⟨.group e2,G.res (l:=[.leaf,e2.pt,.leaf]) ?_ (by simp[CE.pt]) ?_ hr (fun _=>by omega)⟩
   ·have p2:=e2.pt.fV
    simp only[bQ,PT.nd,List.cons.injEq,and_true]
    refine⟨?_,?_,?_⟩<;>omega
   ·refine⟨by simpa using hx,?_⟩
    rw[C1,U1] at o2;exact o2
  split at h
  ·rename_i hk
   have q:=ih _ _ _ h hr;exact q hk
  ·injection h with h;subst h
   exact(oU (by decide) hr).elim
 | g+1,.name nest,st,r,h,hr=>by
  have ih:=jC toks hE d g;have ex:=aO toks d g;rw[run] at h;intro hk1
  ·obtain⟨g1,i1,u1⟩:=iF hE (st:=st) (by omega)
   have L1:=g1.len;have U1:=g1.used;have C1:=g1.clause;simp only[dJ,bB,PT.nd,PT.lv,Nat.add_zero] at L1 U1;generalize ay toks st=m1 at *
   split at h
   ·injection h with h;subst h
    refine⟨.Jh,g1.res (l:=[.leaf]) ?_ (by simp[CE.pt]) hk1 hr (fun _=>by omega)⟩;rw[i1];simp only[bQ,PT.nd,List.cons.injEq,and_true];omega
   ·rename_i hn
    have hcl:st.clause=false:=by
     rw[← C1,← Bool.not_eq_true]
     exact fun q=>hn (.inl q)
    obtain⟨l,h1,h⟩:=bH h
    injection h with h;subst h
    have z3:=(aD _ _ _).zero hr;have z2:=(aF _ _ _).zero z3
    have hone:∀ s k,run toks d g (.expr (nest+1)) s=some k→k.2.fE=0→∃ e,Tt toks s k e:=fun s k hk hz=>ih _ _ _ hk hz
    obtain⟨es,hlen,g4,i4,o4,w4⟩:=MH toks hE _ (fun s k hk=>ex _ _ _ hk) hone _ _ h1 z2;obtain⟨g5,i5,k5,u5,y5⟩:=gU hE z3;have z1:=(kr toks _ (fun s k hk=>ex _ _ _ hk) _ _ h1).zero z2;obtain⟨g3,i3,k3,u3,y3⟩:=gU hE z1;generalize aA toks [[41]] l.2=m5 at *;generalize hq:lC toks m1=q at *;generalize aA toks [[40]] q.2=m3 at *;have L3:=g3.len;have L4:=g4.len;have U3:=g3.used;have U4:=g4.used;have U5:=g5.used;have C3:=g3.clause;simp only[dJ,bB,PT.nd,PT.lv,Nat.add_zero] at L3 U3 U5;unfold lC at hq
    split at hq
    ·rename_i abU
     subst hq;have hx:=gM abU;obtain⟨p1,j1,v1⟩:=iF hE (st:=m1.2) (aZ abU);obtain⟨p2,j2,kk2,v2,yy2⟩:=wX hE (k:=1) (by decide) y3;simp only at g3 i3 k3 u3 L3 U3 C3;generalize aP toks 1 (ay toks m1.2).2=n2 at *;generalize ay toks m1.2=n1 at *;have M1:=p1.len;have M2:=p2.len;have V1:=p1.used;have V2:=p2.used;have D1:=p1.clause;have D2:=p2.clause;simp only[dJ,bB,PT.nd,PT.lv,Nat.add_zero] at M1 M2 V1 V2;have G:=((((g1.append p1).append p2).append g3).append g4).append g5;refine⟨.call true es,G.res (l:=[.leaf,.leaf,.leaf]++[.leaf]++dS es++[.leaf]) ?_ (by simp[CE.pt]) ?_ hr (fun _=>by omega)⟩
     ·simp only[mF,i4,i1,i3,i5,j1,j2,lJ]
      simp only[bQ,dJ,PT.nd,List.cons_append,List.nil_append,Nat.add_zero];rw[L4,L3,M2,M1,L1]
      have e0:∀ a b:Nat,a=b→bQ a (dS es)=bQ b (dS es):=fun a b h=>by rw[h]
      rw[e0 (st.nodes.length+1+1+1+1) (st.nodes.length+(1+(1+1)+1)) (by omega)];simp only[List.cons.injEq,List.append_cancel_left_eq,and_true]
      refine⟨?_,?_,?_,?_,?_⟩<;>omega
     ·refine⟨hcl,hk1,hlen,?_⟩
      rw[C3,D2,D1,C1,U3,V2,V1,U1] at o4;rw[V1,U1] at kk2;rw[U1] at hx;exact⟨by simpa using hx,kk2,o4⟩
    ·subst hq
     simp only at g3 i3 k3 u3 L3 U3 C3;have G:=((g1.append g3).append g4).append g5;refine⟨.call false es,G.res (l:=[.leaf]++[.leaf]++dS es++[.leaf]) ?_ (by simp[CE.pt]) ?_ hr (fun _=>by omega)⟩
     ·simp only[mF,i4,i1,i3,i5,lJ]
      simp only[bQ,dJ,PT.nd,List.cons_append,List.nil_append,Nat.add_zero];rw[L4,L3,L1]
      have e0:∀ a b:Nat,a=b→bQ a (dS es)=bQ b (dS es):=fun a b h=>by rw[h]
      rw[e0 (st.nodes.length+1+1) (st.nodes.length+(1+1)) (by omega)];simp only[List.cons.injEq,List.append_cancel_left_eq,and_true]
      refine⟨?_,?_,?_⟩<;>omega
     ·refine⟨hcl,hk1,hlen,?_⟩
      rw[C3,C1,U3,U1] at o4;rw[U1] at k3;exact⟨by simpa using k3,o4⟩
end Go.Proofs.YtknicmmigbhpcaaGreatDoor

namespace Go.Proofs.YtknicmmigbhpcaaGreatDoor
open Go.RowKit
theorem Rec.abV {α:Type}{B:Nat}{w:World}{v:Value}{sz n:Nat}{f:α→List Value}{l:List α}(h:Rec B w v sz f l)(hf:∀ x,(f x).length=sz)(hn:l.length=n) :
  ∃ ao cap,v=.slice ao n cap∧n≤cap∧(0<n→∃ b off,ao=some ⟨b,off,none⟩∧b<B ∧
   ∀ k j u,(hk:k<l.length)→(f l[k])[j]?=some u→w.cell? ⟨b,off+k * sz+j,none⟩=some u):=by
 subst hn;exact h.form hf
theorem Rec.cells {α:Type}{B:Nat}{w:World}{ao:Option Addr}{n cap sz:Nat}{f:α→List Value}{l:List α}(h:Rec B w (.slice ao n cap) sz f l)(hf:∀ x,(f x).length=sz)(h0:0<l.length) :
  ∃ b off,ao=some ⟨b,off,none⟩∧b<B∧∀ k j u,(hk:k<l.length)→(f l[k])[j]?=some u→w.cell? ⟨b,off+k * sz+j,none⟩=some u:=by
 obtain⟨Tv,cap',hv,_,hc⟩:=h.form hf
 injection hv with q1 q2 q3
 subst q1;exact hc h0
theorem Tryz.JI:(Tryz.prog.info? 134).map (fun i=>(i.zero,i.size,i.bytes))=some (some (.agg #[.int .i64 0,.int .i64 0,.slice none 0 0]),3,40):=by kernel_rfl
def dI (w:World)(v:Value)(ks:List Int):Prop :=
 ∃ ao cap,v=.slice ao ks.length cap∧ks.length≤cap ∧
  (0<ks.length→∃ (b off:Nat) (cs:Array Value) (fr:Nat × Nat),ao=some ⟨b,off,none⟩∧w.heap[b]?=some (.cells cs 3 fr)∧∀ j,(h:j<ks.length)→cs[off+j]?=some (.int .i64 ks[j]))
def Kp (B:Nat)(w w':World):Prop :=
 Below B w w'∧∀ (k:Nat) (cs:Array Value) (T:TypeId) (fr:Nat × Nat),w.heap[k]?=some (.cells cs T fr)→T≠188→T≠245→T≠134→w'.heap[k]?=some (.cells cs T fr)
theorem Kp.refl (B:Nat)(w:World):Kp B w w:=⟨Below.refl _ _,fun _ _ _ _ h _ _ _=>h⟩
theorem Kp.trans {B:Nat}{a b c:World}(h:Kp B a b)(k:Kp B b c):Kp B a c:=⟨h.1.trans k.1,fun n cs T fr h0 h1 h2 h3=>k.2 n cs T fr (h.2 n cs T fr h0 h1 h2 h3) h1 h2 h3⟩
theorem Kp.size {B:Nat}{w w':World}(h:Kp B w w'):w.heap.size≤w'.heap.size:=h.1.size
theorem Kp.of {B:Nat}{w w':World}(h:Below w.heap.size w w')(hB:B≤w.heap.size):Kp B w w' :=
 ⟨h.mono hB,fun k cs T fr h0 _ _ _=>by rw[h.block k (bG h0).1];exact h0⟩
theorem Kp.mono {B B':Nat}{w w':World}(h:Kp B w w')(hB:B'≤B):Kp B' w w':=⟨h.1.mono hB,h.2⟩
def Kb (B:Nat)(w w':World):Prop :=
 Below B w w'∧∀ (k:Nat) (cs:Array Value) (T:TypeId) (fr:Nat × Nat),w.heap[k]?=some (.cells cs T fr)→T≠245→T≠134→w'.heap[k]?=some (.cells cs T fr)
theorem Kb.kp {B:Nat}{w w':World}(h:Kb B w w'):Kp B w w':=⟨h.1,fun k cs T fr h0 _ h2 h3=>h.2 k cs T fr h0 h2 h3⟩
theorem Kb.refl (B:Nat)(w:World):Kb B w w:=⟨Below.refl _ _,fun _ _ _ _ h _ _=>h⟩
theorem Kb.trans {B:Nat}{a b c:World}(h:Kb B a b)(k:Kb B b c):Kb B a c:=⟨h.1.trans k.1,fun n cs T fr h0 h1 h2=>k.2 n cs T fr (h.2 n cs T fr h0 h1 h2) h1 h2⟩
theorem Kb.of {B:Nat}{w w':World}(h:Below w.heap.size w w')(hB:B≤w.heap.size):Kb B w w' :=
 ⟨h.mono hB,fun k cs T fr h0 _ _=>by rw[h.block k (bG h0).1];exact h0⟩
theorem dI.kept {B:Nat}{w w':World}{v:Value}{ks:List Int}(h:dI w v ks)(hk:Kp B w w'):dI w' v ks:=by
 obtain⟨ao,cap,hv,hc,hf⟩:=h;refine⟨ao,cap,hv,hc,fun h0=>?_⟩;obtain⟨b,off,cs,fr,ha,hb,hj⟩:=hf h0;exact⟨b,off,cs,fr,ha,hk.2 b cs _ fr hb (by decide) (by decide) (by decide),hj⟩
def abW (R:List Nat)(v:Value):Prop:=∀ b off n cap,v=.slice (some ⟨b,off,none⟩) n cap→0<n→b ∉ R
def nV (R:List Nat)(w:World)(v:Value)(ks:List Int):Prop:=dI w v ks∧abW R v
theorem nV.kept {R:List Nat}{B:Nat}{w w':World}{v:Value}{ks:List Int}(h:nV R w v ks)(hk:Kp B w w'):nV R w' v ks:=⟨h.1.kept hk,h.2⟩
theorem iG {w:World}{base e sz n:Nat}{v:Value}{xs:List Value}(h:w.ownsRow base e sz v n xs){a:Addr}(hne:some a.block≠v.ownBlock)(u:Value):(w.setCell a u).ownsRow base e sz v n xs:=by
 refine⟨h.1,?_⟩
 rcases h.2 with hn|⟨g,cap,cur,hv,hg,hh,hr⟩
 ·exact .inl hn
 ·refine .inr ⟨g,cap,cur,hv,hg,?_,hr⟩
  rw[heap_setCell_other]
  ·exact hh
  ·intro q
   exact hne (by rw[← q,hv];rfl)
def uo (p:Nd × Value):List Value:=[.int .i64 p.1.kind,.int .i64 p.1.tok,p.2]
theorem JJ (p:Nd × Value):(uo p).length=3:=rfl
def BW (R:List Nat)(B bb:Nat)(tv:Value)(used:Nat)(nodes:List Nd)(w:World):Prop :=
 B≤bb∧∃ (nv:Value) (l:List (Nd × Value)),w.heap[bb]?=some (.cells #[tv,nv,.int .i64 used] 245 (0,0))∧l.map Prod.fst=nodes ∧
  w.ownsRow B 134 3 nv nodes.length (l.flatMap uo)∧∀ p∈l,nV R w p.2 p.1.kids
structure aT where
 R:List Nat
 B:Nat
 pb:Nat
 bb:Nat
 tv:Value
 toks:List Tok
 depth:Nat
def PW (E:aT)(st:aB)(w:World):Prop :=
 w.heap[E.pb]?=some (.cells #[.pointer (some ⟨E.bb,0,none⟩),.int .i64 E.depth,.bool st.clause,.int .i64 st.fE,.int .i64 st.Ya] 188 (0,0)) ∧
  BW E.R E.B E.bb E.tv st.used st.nodes w∧Rec E.B w E.tv 4 bY E.toks∧E.B≤E.pb∧st.used≤E.toks.length∧∀ r∈E.R,r<w.heap.size
theorem BW.later {R:List Nat}{B bb:Nat}{tv:Value}{used:Nat}{nodes:List Nd}{w w':World}(h:BW R B bb tv used nodes w)(hb:Below w.heap.size w w'):BW R B bb tv used nodes w':=by
 obtain⟨h1,nv,l,h2,h3,h4,h5⟩:=h;refine⟨h1,nv,l,?_,h3,own_below h4 hb,fun p hp=>(h5 p hp).kept (Kp.of hb (Nat.le_refl _))⟩;rw[hb.block bb (bG h2).1];exact h2
theorem PW.later {E:aT}{st:aB}{w w':World}(h:PW E st w)(hb:Below w.heap.size w w'):PW E st w':=by
 obtain⟨h1,h2,h3,h4,h5⟩:=h;refine⟨?_,h2.later hb,?_,h4,h5.1,fun r hr=>Nat.lt_of_lt_of_le (h5.2 r hr) hb.size⟩
 ·rw[hb.block E.pb (bG h1).1];exact h1
 ·have hlt:=(bG h1).1
  exact h3.below (hb.mono (by omega))
theorem PW.lt {E:aT}{st:aB}{w:World}(h:PW E st w):E.pb<w.heap.size:=(bG h.1).1
theorem PW.dM {E:aT}{st:aB}{w:World}(h:PW E st w):E.B≤w.heap.size:=by have:=h.lt;have:=h.2.2.2.1;omega
theorem BW.lt {R:List Nat}{B bb:Nat}{tv:Value}{used:Nat}{nodes:List Nd}{w:World}(h:BW R B bb tv used nodes w):bb<w.heap.size:=by
 obtain⟨_,nv,l,h2,_⟩:=h;exact(bG h2).1
def Ug (R:List Nat)(B bb:Nat)(tv:Value)(r:Int)(used:Nat)(nodes:List Nd)(w:World)(e:Ending)(w':World):Prop :=
 e=.returned (.int .i64 r)∧BW R B bb tv used nodes w'∧Kb B w w'
theorem JK (tv:Value)(ao:Option Addr)(n cap:Nat)(w:World)(hn:n≤1099511627776) :
  Calls Tryz.prog 66 #[.agg #[tv,.slice ao n cap]] w fun e w'=>e=.returned (.int .i64 ((n:Int) - 1))∧Below w.heap.size w w':=by
 go_enter Tryz.func66,Tryz.ntmps66;go_wp2;go_ret;exact⟨rfl,(Below.refl _ _).alloc (Nat.le_refl _) _⟩
theorem Pk (R:List Nat)(B bb:Nat)(tv:Value)(used:Nat)(nodes:List Nd)(kind tok:Int)(kv:Value)(ks:List Int)(w:World)(hb:BW R B bb tv used nodes w)(hk:nV R w kv ks)(hn:nodes.length+1≤1099511627776) :
  Calls Tryz.prog 232 #[.pointer (some ⟨bb,0,none⟩),.agg #[.int .i64 kind,.int .i64 tok,kv]] w (Ug R B bb tv (nodes.length:Nat) used (nodes++[⟨kind,tok,ks⟩]) w):=by
 obtain⟨i0,hi,hz0,hz1,hz2⟩:=info_parts Tryz.JI;obtain⟨h1,nv,l,h2,h3,h4,h5⟩:=hb;have hlt:=(bG h2).1;have HI:=ah hk;obtain⟨aok,adH,rfl,_,_⟩:=hk.1;generalize hkv:Value.slice aok ks.length adH=kv at HI
 have hone:kv.oneCell'=true:=by rw[← hkv];rfl
 clear hkv
 obtain⟨ao,cap,rfl,_⟩:∃ ao cap,nv=.slice ao nodes.length cap∧True:=by
  rcases h4.2 with ⟨hv,hn0⟩|⟨g,cap,cur,hv,_⟩
  ·exact⟨none,0,by rw[hv,hn0],trivial⟩
  ·exact⟨_,cap,hv,trivial⟩
 have c0:w.cell? ⟨bb,0,none⟩=some tv:=by rw[Lib.cell_of_heap h2];rfl
 have c1:w.cell? ⟨bb,1,none⟩=some (.slice ao nodes.length cap):=by rw[Lib.cell_of_heap h2];rfl
 have hal:=(Below.refl w.heap.size w).alloc (Nat.le_refl _) (.cells #[.int .i64 kind,.int .i64 tok,kv] 134);have d0:=cell_later hal c0;have d1:=cell_later hal c1
 have hz:(w.alloc (.cells #[.int .i64 kind,.int .i64 tok,kv] 134)).frozen? ⟨bb,1,none⟩=false:=by
  simp[World.frozen?,(Lib.alloc_old w _ bb hlt).trans h2]
 go_enter Tryz.func232,Tryz.ntmps232;go_wp2;have nq:=heap_alloc_new w (.cells #[.int .i64 kind,.int .i64 tok,kv] 134)
 have e0:(w.alloc (.cells #[.int .i64 kind,.int .i64 tok,kv] 134)).cell? ⟨w.heap.size,0,none⟩=some (.int .i64 kind):=by rw[Lib.cell_of_heap nq];rfl
 have e1:(w.alloc (.cells #[.int .i64 kind,.int .i64 tok,kv] 134)).cell? ⟨w.heap.size,1,none⟩=some (.int .i64 tok):=by rw[Lib.cell_of_heap nq];rfl
 have e2:(w.alloc (.cells #[.int .i64 kind,.int .i64 tok,kv] 134)).cell? ⟨w.heap.size,2,none⟩=some kv:=by rw[Lib.cell_of_heap nq];rfl
 have hown:=h4.alloc (.cells #[.int .i64 kind,.int .i64 tok,kv] 134);have hbb:=(Lib.alloc_old w (.cells #[.int .i64 kind,.int .i64 tok,kv] 134) bb hlt).trans h2;have hne:=own_ne hown hbb (by decide)
 have hzq:(w.alloc (.cells #[.int .i64 kind,.int .i64 tok,kv] 134)).heap.size=w.heap.size+1:=by simp
 have hBw:B≤w.heap.size:=by omega
 generalize w.alloc (.cells #[.int .i64 kind,.int .i64 tok,kv] 134)=wq at e0 e1 e2 hown hbb hne hzq hal d0 d1 hz ⊢
 have abX:B≤wq.heap.size:=by omega
 have abY:bb<wq.heap.size:=by omega
 have hzz:∀ o,(wq.alloc o).drew.frozen? ⟨bb,1,none⟩=false:=fun o=>by
  have:(wq.alloc o).drew.heap[bb]?=some (.cells #[tv,.slice ao nodes.length cap,.int .i64 used] 245 (0,0)):=(Lib.alloc_old wq o bb abY).trans hbb;simp[World.frozen?,this]
 have hzg:w.heap.size<wq.heap.size:=by omega
 have hne2:some w.heap.size≠(Value.slice ao nodes.length cap).ownBlock:=fun q=>by have:=(h4.lt w.heap.size q.symm).2;omega
 have BD:Hid (∀ u∈[Value.int .i64 kind,.int .i64 tok,kv],u.oneCell'=true):=ah (by
  intro u hu;simp only[List.mem_cons,List.not_mem_nil,or_false] at hu
  rcases hu with rfl|rfl|rfl
  ·rfl
  ·rfl
  ·exact hone)
 have hcc:∀ o,(wq.alloc o).drew.cell? ⟨bb,1,none⟩=some (.slice ao nodes.length cap):=fun o=>by
  have:(wq.alloc o).drew.heap[bb]?=some (.cells #[tv,.slice ao nodes.length cap,.int .i64 used] 245 (0,0)):=(Lib.alloc_old wq o bb abY).trans hbb;rw[Lib.cell_of_heap this];rfl
 clear nq c0 c1 hzq
 go_region_law ((refine step_append_lies _ (by rfl) _ _ _ (by rfl) B 134 i0 _ 3 40 Tryz.underlying87 hi hz0 hz1 hz2 rfl (by omega) (.slice ao nodes.length cap) nodes.length _ (by rfl) (pV (hown.alloc _)) ⟨wq.heap.size,0,none⟩ 1 1 [.int .i64 kind,.int .i64 tok,kv] (by rfl) (by rfl) (World.news_of_block (cs:=#[.int .i64 kind,.int .i64 tok,kv]) (t:=134) (fr:=(0,0)) (heap_alloc_new wq _)) (BD.out) (by omega) (by unfold maxLen;omega) (by omega) (by simp;omega) (wq.heap.size+1) (by simp) ?_;intro gg cap5 w5 hown5 dU uN JL;have LZ:=(dU.frozen_far ⟨bb,1,none⟩ (by simp;omega) hne).trans (hzz _);have hc5:=(dU.cell_far ⟨bb,1,none⟩ (by simp;omega) hne).trans (hcc _)))
 all_goals
  have QL:Below B w w5:=(((Below.refl _ _).mono hBw).trans (hal.mono hBw)).trans ((((Below.refl wq.heap.size wq).mono abX).alloc abX (.cells #[.int .i64 kind,.int .i64 tok,kv] 134)).drew.grown dU (by simp;omega) (fun q hq=>(hown.lt q hq).1))
  have hkb:∀ (k:Nat) (cs:Array Value) (T:TypeId) (fr:Nat × Nat),w.heap[k]?=some (.cells cs T fr)→T≠134→w5.heap[k]?=some (.cells cs T fr):=fun k cs T fr h0 h1=>by
   have hk:=(bG h0).1
   have h2:wq.heap[k]?=some (.cells cs T fr):=by rw[hal.block k hk];exact h0
   exact gL (pV (hown.alloc _)) dU ((Lib.alloc_old wq _ k (by omega)).trans h2) h1
  have Uh:=hkb bb _ _ _ h2 (by decide)
  have hc0:w5.cell? ⟨bb,0,none⟩=some tv:=by rw[Lib.cell_of_heap Uh];rfl
  have h5':=fun p hp=>(h5 p hp)
  have H4:=ah hown5;clear dU hown5 uN d0 d1 e0 e1 e2 hzz hcc hz hone h4 hown;go_wp2;go_ret;generalize Value.slice (some ⟨gg,0,none⟩) (nodes.length+1) cap5=nv5 at H4 ⊢;have abZ:bb<w5.heap.size:=(bG Uh).1
  have aaD:Kb B w ((w5.setCell ⟨bb,1,none⟩ nv5).alloc (.cells #[tv,nv5] 89)):=by
   refine⟨(QL.setCell h1 _).alloc (by have:=QL.size;simp;omega) _,fun k cs T fr h0 q1 q2=>?_⟩;have r1:=hkb k cs T fr h0 q2;have hk5:=(bG r1).1;rw[Lib.alloc_old _ _ k (by simpa using hk5),heap_setCell_other]
   ·exact r1
   ·show k≠bb
    rintro rfl;rw[Uh] at r1;simp only[Option.some.injEq,Obj.cells.injEq] at r1;exact q1 r1.2.1.symm
  refine⟨GJ (by omega),⟨h1,nv5,l++[(⟨kind,tok,ks⟩,kv)],?_,by simp[h3],?_,?_⟩,aaD⟩
  ·rw[Lib.alloc_old _ _ bb (by simpa using abZ),heap_setCell_same w5 bb 1 _ _ _ Uh]
   rfl
  ·rw[List.flatMap_append,bN]
   exact(iG H4.out (own_ne H4.out Uh (by decide)) nv5).alloc _
  ·intro p hp
   rcases List.mem_append.1 hp with hp|hp
   ·exact(h5 p hp).kept aaD.kp
   ·rw[List.mem_singleton] at hp
    subst hp;exact HI.out.kept aaD.kp
end Go.Proofs.YtknicmmigbhpcaaGreatDoor
