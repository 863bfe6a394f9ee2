/- Walks and plain laws: ParseLaws3, Recs, ParseW0, ParseW1. -/
import Derived.Test.YtknicmmigbhpcaaGreatDoorF04
import Derived.Deep.RegionLaw
set_option maxHeartbeats 16000000
set_option maxRecDepth 100000
set_option linter.unusedVariables false
set_option linter.unusedSimpArgs false
namespace Go.Proofs.YtknicmmigbhpcaaGreatDoor
theorem oU {toks:List Tok}{e:Nat}{st:aB}(he:e≠0)(h:(fQ toks e st).fE=0):False:=kK he st h
theorem gN {toks:List Tok}(hE:gH toks){l:List (List UInt8)}{st:aB}(h:(aA toks l st).2.fE=0) :
  dR st [.leaf] (aA toks l st).2∧(aA toks l st).1=((st.nodes.length:Nat):Int)∧aI toks st.used∈l∧st.used+1<toks.length∧st.fE=0:=by
 unfold aA at h ⊢
 split at h
 ·rename_i hc
  rw[if_pos hc];obtain⟨_,e2⟩:=ji hE (aZ hc.2);obtain⟨h1,h2⟩:=dR.leaf (toks:=toks) (st:=st) (by omega);refine⟨h1,h2,?_,e2,hc.1⟩;have:=hc.2;simp only[aS,Bool.and_eq_true,decide_eq_true_eq] at this;exact this.2
 ·exact(oU (by decide) h).elim
theorem wW {toks:List Tok}(hE:gH toks){k:Nat}(hk:k≠5){st:aB}(h:(aO toks k st).2.fE=0) :
  dR st [.leaf] (aO toks k st).2∧(aO toks k st).1=((st.nodes.length:Nat):Int)∧gu toks st.used=k∧st.used+1<toks.length∧st.fE=0:=by
 unfold aO at h ⊢
 split at h
 ·rename_i hc
  rw[if_pos hc];have e2:=hE.before (u:=st.used) (by rw[hc.2];exact hk);obtain⟨h1,h2⟩:=dR.leaf (toks:=toks) (st:=st) (by omega);exact⟨h1,h2,hc.2,e2,hc.1⟩
 ·exact(oU (by decide) h).elim
theorem gK {toks:List Tok}{st:aB}{l:List (List UInt8)}(h:aS toks st l=true):aI toks st.used∈l:=by
 simp only[aS,Bool.and_eq_true,decide_eq_true_eq] at h;exact h.2
theorem iC {toks:List Tok}(hE:gH toks){st:aB}(h:gu toks st.used≠5) :
  dR st [.leaf] (ay toks st).2∧(ay toks st).1=((st.nodes.length:Nat):Int)∧st.used+1<toks.length:=by
 have e2:=hE.before h;obtain⟨h1,h2⟩:=dR.leaf (toks:=toks) (st:=st) (by omega);exact⟨h1,h2,e2⟩
theorem wX {toks:List Tok}{d n:Nat}{st:aB}(h:(aM toks d n st).fE=0):aM toks d n st=st:=by
 unfold aM at h ⊢
 split at h
 ·exact(oU (by decide) h).elim
 ·rename_i hn;rw[if_neg hn]
theorem oV {k:Int}{l:List Int}{st:aB}(h:(aY k l st).2.fE=0):st.fE=0:=(aD k l st).zero h
theorem dR.res {toks:List Tok}{a b:aB}{l:List PT}{e:CE}{k:Nat}{ids:List Int}(h:dR a l b)(aay:ids=bM a.nodes.length l)(he:e.pt=.node k l)(hok:e.ok toks a.clause a.used)(hf:(aY k ids b).2.fE=0)(hu:a.used<toks.length→b.used<toks.length) :
  Te toks a (aY k ids b) e:=by
 subst aay;obtain⟨h1,h2⟩:=h.node (oV hf) k;refine⟨by rw[he];exact h1,by rw[h2,he,PT.nd];omega,hok,fun q=>?_⟩;have:=h1.used;rw[this];have h3:=h.used;have h4:=hu q;rw[h3] at h4
 simpa [bB,PT.lv] using h4
theorem qh (b:Nat)(t:PT)(l:List PT):bM b (t :: l)=(((b+t.nd:Nat):Int) - 1) :: bM (b+t.nd) l:=by rw[bM]
def adA (toks:List Tok):Task→aB→Int × aB→Prop
 | .loop _ _ a,st,r=>∀ st0 e0,Te toks st0 (a,st) e0→∃ e,Te toks st0 r e
 | .name _,st,r=>gu toks st.used=1→∃ e,Te toks st r e
 | _,st,r=>∃ e,Te toks st r e
theorem Qu:∀ l:Nat,∀ x∈yI l,x∈nS
 | 0=>by decide
 | 1=>by decide
 | 2=>by decide
 | 3=>by decide
 | _+4=>by
  intro x hx
  have:∀ x∈([[42],[47],[37]]:List (List UInt8)),x∈nS:=by decide
  exact this x hx
theorem uO (toks:List Tok)(hE:gH toks)(one:aB→Option (Int × aB))(h1:∀ s k,one s=some k→bX s k.2)(h2:∀ s k,one s=some k→k.2.fE=0→∃ e,Te toks s k e) :
  ∀ (r:Nat) (kids:List Int) (st:aB) (l:List Int × aB),aR toks one r kids st=some l→l.2.fE=0 →
   ∃ es:List CE,es≠[]∧es.length≤r∧dR st (dS es) l.2∧l.1=kids++bM st.nodes.length (dS es)∧mU toks st.clause st.used es∧(st.used<toks.length→l.2.used<toks.length)
 | 0,kids,st,l,h,hl=>by
  rw[aR] at h
  injection h with h
  subst h
  exfalso
  have hl:(if st.fE=0 then fQ toks 15 st else st).fE=0:=hl
  split at hl
  ·exact oU (by decide) hl
  ·rename_i hf;exact hf hl
 | r+1,kids,st,l,h,hl=>by
  rw[aR] at h
  split at h
  ·rename_i hf
   injection h with h;subst h
   exact absurd hl hf
  ·obtain⟨k,hk,h⟩:=bH h
   split at h
   ·rename_i hn
    obtain⟨g1,i1,u1⟩:=iC hE (aZ hn.2);obtain⟨e,he1,he2,he3,he4⟩:=h2 _ _ hk hn.1;obtain⟨es,hne,hlen,hg,hi,hok,hu⟩:=uO toks hE one h1 h2 r _ _ _ h hl
    obtain⟨f,es,rfl⟩:∃ f fs,es=f :: fs:=by cases es with
     | nil=>exact absurd rfl hne
     | cons f fs=>exact⟨f,fs,rfl⟩
    have a1:=he1.len;have a2:=he1.used;have a3:=he1.clause;have b1:=g1.len;have b2:=g1.used;have b3:=g1.clause;simp only[dI,bB,PT.nd,PT.lv,Nat.add_zero] at a1 a2 b1 b2;refine⟨e :: f :: es,by simp,by simpa using hlen,?_,?_,?_,fun q=>hu (by have:=he4 q;omega)⟩
    ·rw[lJ]
     exact(he1.append g1).append hg
    ·rw[hi,lJ,qh,qh,he2,i1,b1,a1]
     simp only[PT.nd,List.append_assoc,List.cons_append,List.nil_append]
     congr 2
     congr 1
     omega
    ·rw[b2,b3,a2,a3] at hok
     exact⟨he3,hok⟩
   ·injection h with h;subst h
    obtain⟨e,he1,he2,he3,he4⟩:=h2 _ _ hk hl;refine⟨[e],by simp,by simp,by rw[qQ];exact he1,?_,⟨he3,trivial⟩,he4⟩;rw[qQ,qh,he2];simp[bM]
theorem Mq (toks:List Tok)(hE:gH toks)(one:aB→Option (Int × aB))(h1:∀ s k,one s=some k→bX s k.2)(h2:∀ s k,one s=some k→k.2.fE=0→∃ e,Te toks s k e)
  (st:aB) (l:List Int × aB) (h:jf toks one st=some l) (hl:l.2.fE=0) :
  ∃ es:List CE,es.length≤8∧dR st (dS es) l.2∧l.1=bM st.nodes.length (dS es)∧mU toks st.clause st.used es∧(st.used<toks.length→l.2.used<toks.length):=by
 unfold jf at h
 split at h
 ·injection h with h;subst h
  exact⟨[],by simp,by simpa [dS] using dR.nil st,by simp[dS,bM],trivial,id⟩
 ·obtain⟨es,_,h1,h2,h3,h4,h5⟩:=uO toks hE one h1 h2 _ _ _ _ h hl
  exact⟨es,h1,h2,by rw[h3];simp,h4,h5⟩
theorem jB (toks:List Tok)(hE:gH toks)(d:Nat):∀ (g:Nat) (t:Task) (st:aB) (r:Int × aB),run toks d g t st=some r→r.2.fE=0→adA toks t st r
 | 0,_,_,_,h,_=>by rw[run] at h;cases h
 | g+1,.expr nest,st,r,h,hr=>by
  have ih:=jB toks hE d g;have ex:=aN toks d g
  have hd0:(aM toks d nest st).fE=0:=by
   apply Classical.byContradiction
   intro q;rw[run,if_pos q] at h
   injection h with h;subst h
   exact q hr
  rw[run,wX hd0] at h;rw[wX hd0] at hd0;rw[if_neg (by simp[hd0])] at h
  split at h
  ·have q:=ih _ _ _ h hr;exact q
  rename_i hcl
  have hcl:st.clause=false:=by simpa using hcl
  split at h
  ·rename_i hn
   obtain⟨x,h1,h⟩:=bH h;obtain⟨f,h2,h⟩:=bH h
   injection h with h;subst h
   have z2:=(aD _ _ _).zero hr;have z1:=(ex _ _ _ h2).zero z2;have z0:=(aF _ _ _).zero z1;obtain⟨g1,i1,u1⟩:=iC hE (aZ hn);obtain⟨g2,i2,k2,u2,y2⟩:=wW hE (by decide) ((aF _ _ _).zero ((ex _ _ _ h1).zero z0));obtain⟨g3,i3,k3,u3,y3⟩:=gN hE ((ex _ _ _ h1).zero z0);obtain⟨e1,g4,i4,o4,w4⟩:=ih _ _ _ h1 z0;obtain⟨g5,i5,k5,u5,y5⟩:=gN hE z1;obtain⟨e2,g6,i6,o6,w6⟩:=ih _ _ _ h2 z2;have G:=((((g1.append g2).append g3).append g4).append g5).append g6;generalize aA toks [Td] x.2=m5 at *;generalize aA toks [[61]] (aO toks 1 (ay toks st).2).2=m3 at *;generalize aO toks 1 (ay toks st).2=m2 at *;generalize ay toks st=m1 at *;have L1:=g1.len;have L2:=g2.len;have L3:=g3.len;have L4:=g4.len;have L5:=g5.len;have U1:=g1.used;have U2:=g2.used;have U3:=g3.used;have U4:=g4.used;have U5:=g5.used;have C1:=g1.clause;have C2:=g2.clause;have C3:=g3.clause;have C4:=g4.clause;have C5:=g5.clause;simp only[dI,bB,PT.nd,PT.lv,Nat.add_zero] at L1 L2 L3 L4 L5 U1 U2 U3 U4 U5;refine⟨.pF e1 e2,G.res (l:=[.leaf,.leaf,.leaf,e1.pt,.leaf,e2.pt]) ?_ (by simp[CE.pt]) ?_ hr (fun _=>w6 (by omega))⟩
   ·have p1:=e1.pt.gq
    have p2:=e2.pt.gq;simp only[bM,PT.nd,List.cons.injEq,and_true]
    refine⟨?_,?_,?_,?_,?_,?_⟩<;>omega
   ·refine⟨hcl,by rw[← U1];exact k2,?_,?_⟩
    ·rw[C3,C2,C1,U3,U2,U1] at o4;exact o4
    ·rw[C5,C4,C3,C2,C1,U5,U4,U3,U2,U1] at o6;exact o6
  split at h
  ·rename_i hn
   obtain⟨x,h1,h⟩:=bH h;obtain⟨y,h2,h⟩:=bH h;obtain⟨f,h3,h⟩:=bH h
   injection h with h;subst h
   have z3:=(aD _ _ _).zero hr;have z2:=(ex _ _ _ h3).zero z3;have z2':=(aF _ _ _).zero z2;have z1:=(ex _ _ _ h2).zero z2';have z0:=(aF _ _ _).zero z1;obtain⟨g1,i1,u1⟩:=iC hE (aZ hn);obtain⟨e1,g2,i2,o2,w2⟩:=ih _ _ _ h1 z0;obtain⟨g3,i3,k3,u3,y3⟩:=gN hE z1;obtain⟨e2,g4,i4,o4,w4⟩:=ih _ _ _ h2 z2';obtain⟨g5,i5,k5,u5,y5⟩:=gN hE z2;obtain⟨e3,g6,i6,o6,w6⟩:=ih _ _ _ h3 z3;have G:=((((g1.append g2).append g3).append g4).append g5).append g6;generalize aA toks [EJ] y.2=m5 at *;generalize aA toks [EI] x.2=m3 at *;generalize ay toks st=m1 at *;have L1:=g1.len;have L2:=g2.len;have L3:=g3.len;have L4:=g4.len;have L5:=g5.len;have U1:=g1.used;have U2:=g2.used;have U3:=g3.used;have U4:=g4.used;have U5:=g5.used;have C1:=g1.clause;have C2:=g2.clause;have C3:=g3.clause;have C4:=g4.clause;have C5:=g5.clause;simp only[dI,bB,PT.nd,PT.lv,Nat.add_zero] at L1 L2 L3 L4 L5 U1 U2 U3 U4 U5;refine⟨.iff e1 e2 e3,G.res (l:=[.leaf,e1.pt,.leaf,e2.pt,.leaf,e3.pt]) ?_ (by simp[CE.pt]) ?_ hr (fun _=>w6 (by omega))⟩
   ·have p1:=e1.pt.gq
    have p2:=e2.pt.gq;have p3:=e3.pt.gq;simp only[bM,PT.nd,List.cons.injEq,and_true]
    refine⟨?_,?_,?_,?_,?_,?_⟩<;>omega
   ·refine⟨hcl,?_,?_,?_⟩
    ·rw[C1,U1] at o2;exact o2
    ·rw[C3,C2,C1,U3,U2,U1] at o4;exact o4
    ·rw[C5,C4,C3,C2,C1,U5,U4,U3,U2,U1] at o6;exact o6
  split at h
  ·rename_i hn
   obtain⟨x,h1,h⟩:=bH h;obtain⟨f,h2,h⟩:=bH h
   injection h with h;subst h
   have z2:=(aD _ _ _).zero hr;have z1:=(ex _ _ _ h2).zero z2;have z0:=(aF _ _ _).zero z1;obtain⟨g1,i1,u1⟩:=iC hE (aZ hn);obtain⟨e1,g2,i2,o2,w2⟩:=ih _ _ _ h1 z0;obtain⟨g3,i3,k3,u3,y3⟩:=gN hE z1;obtain⟨e2,g4,i4,o4,w4⟩:=ih _ _ _ h2 z2;have G:=((g1.append g2).append g3).append g4;generalize aA toks [Td] x.2=m3 at *;generalize ay toks st=m1 at *;have L1:=g1.len;have L2:=g2.len;have L3:=g3.len;have U1:=g1.used;have U2:=g2.used;have U3:=g3.used;have C1:=g1.clause;have C2:=g2.clause;have C3:=g3.clause;simp only[dI,bB,PT.nd,PT.lv,Nat.add_zero] at L1 L2 L3 U1 U2 U3;refine⟨.pG e1 e2,G.res (l:=[.leaf,e1.pt,.leaf,e2.pt]) ?_ (by simp[CE.pt]) ?_ hr (fun _=>w4 (by omega))⟩
   ·have p1:=e1.pt.gq
    have p2:=e2.pt.gq;simp only[bM,PT.nd,List.cons.injEq,and_true]
    refine⟨?_,?_,?_,?_⟩<;>omega
   ·refine⟨hcl,?_,?_⟩
    ·rw[C1,U1] at o2;exact o2
    ·rw[C3,C2,C1,U3,U2,U1] at o4;exact o4
  ·have q:=ih _ _ _ h hr;exact q
 | g+1,.formula nest,st,r,h,hr=>by
  have ih:=jB toks hE d g;have ex:=aN toks d g;rw[run] at h;obtain⟨a,h1,h⟩:=bH h
  split at h
  ·rename_i hn
   have hd0:(aM toks d (nest+1) (ay toks a.2).2).fE=0:=by
    apply Classical.byContradiction
    intro q;rw[if_pos q] at h
    injection h with h;subst h
    exact q hr
   rw[if_neg (by simp[hd0]),wX hd0] at h;obtain⟨b,h2,h⟩:=bH h
   injection h with h;subst h
   have z2:=(aD _ _ _).zero hr;obtain⟨e1,g1,i1,o1,w1⟩:=ih _ _ _ h1 hn.1;obtain⟨g2,i2,u2⟩:=iC hE (aZ hn.2);have hx:=gK hn.2;obtain⟨e2,g3,i3,o3,w3⟩:=ih _ _ _ h2 z2;have G:=(g1.append g2).append g3;generalize ay toks a.2=m2 at *;have L1:=g1.len;have L2:=g2.len;have U1:=g1.used;have U2:=g2.used;have C1:=g1.clause;have C2:=g2.clause;simp only[dI,bB,PT.nd,PT.lv,Nat.add_zero] at L1 L2 U1 U2;refine⟨.bin e1 e2,G.res (l:=[e1.pt,.leaf,e2.pt]) ?_ (by simp[CE.pt]) ?_ hr (fun _=>w3 (by omega))⟩
   ·have p1:=e1.pt.gq
    have p2:=e2.pt.gq;simp only[bM,PT.nd,List.cons.injEq,and_true]
    refine⟨?_,?_,?_⟩<;>omega
   ·refine⟨?_,o1,?_⟩
    ·rw[← U1]
     simp only[List.mem_singleton] at hx;rw[hx]
     decide
    ·rw[C2,C1,U2,U1] at o3;exact o3
  ·injection h with h;subst h
   have q:=ih _ _ _ h1 hr;exact q
 | g+1,.part l nest,st,r,h,hr=>by
  have ih:=jB toks hE d g;rw[run] at h
  split at h
  ·have q:=ih _ _ _ h hr;exact q
  ·split at h
   ·have q:=ih _ _ _ h hr;exact q
   ·have q:=ih _ _ _ h hr;exact q
 | g+1,.row l nest,st,r,h,hr=>by
  have ih:=jB toks hE d g;have ex:=aN toks d g;rw[run] at h;obtain⟨a,h1,h⟩:=bH h;obtain⟨e1,he⟩:=ih _ _ _ h1 ((ex _ _ _ h).zero hr);exact ih _ _ _ h hr st e1 he
 | g+1,.loop l nest a,st,r,h,hr=>by
  have ih:=jB toks hE d g;have ex:=aN toks d g;intro st0 e0 h0;rw[run] at h
  split at h
  ·rename_i hn
   obtain⟨b,h1,h⟩:=bH h
   have z:(aY 10 [a,(ay toks st).1,b.1] b.2).2.fE=0:=by
    split at h
    ·injection h with h;subst h;exact hr
    ·exact(ex _ _ _ h).zero hr
   obtain⟨g2,i2,u2⟩:=iC hE (aZ hn.2);have hx:=gK hn.2;obtain⟨g1,i1,o1,w1⟩:=h0;obtain⟨e2,g3,i3,o3,w3⟩:=ih _ _ _ h1 ((aD _ _ _).zero z);have G:=(g1.append g2).append g3;generalize ay toks st=m2 at *;simp only at g1 i1;have L1:=g1.len;have L2:=g2.len;have U1:=g1.used;have U2:=g2.used;have C1:=g1.clause;have C2:=g2.clause;simp only[dI,bB,PT.nd,PT.lv,Nat.add_zero] at L1 L2 U1 U2
   have hR:Te toks st0 (aY 10 [a,m2.1,b.1] b.2) (.bin e0 e2):=by
    refine G.res (l:=[e0.pt,.leaf,e2.pt]) ?_ (by simp[CE.pt]) ?_ z (fun _=>w3 (by omega))
    ·have p1:=e0.pt.gq
     have p2:=e2.pt.gq;simp only[bM,PT.nd,List.cons.injEq,and_true]
     refine⟨?_,?_,?_⟩<;>omega
    ·refine⟨?_,o1,?_⟩
     ·rw[← U1]
      exact Qu l _ hx
     ·rw[C2,C1,U2,U1] at o3;exact o3
   split at h
   ·injection h with h;subst h;exact⟨_,hR⟩
   ·exact ih _ _ _ h hr st0 _ hR
  ·injection h with h;subst h
   exact⟨e0,h0⟩
 | g+1,.neg nest,st,r,h,hr=>by
  have ih:=jB toks hE d g;rw[run] at h
  split at h
  ·rename_i hn
   have hd0:(aM toks d (nest+1) (ay toks st).2).fE=0:=by
    apply Classical.byContradiction
    intro q;rw[if_pos q] at h
    injection h with h;subst h
    exact q hr
   rw[if_neg (by simp[hd0]),wX hd0] at h;obtain⟨b,h2,h⟩:=bH h
   injection h with h;subst h
   obtain⟨g2,i2,u2⟩:=iC hE (aZ hn.2);have hx:=gK hn.2;obtain⟨e2,g3,i3,o3,w3⟩:=ih _ _ _ h2 ((aD _ _ _).zero hr);have G:=g2.append g3;generalize ay toks st=m2 at *;have L2:=g2.len;have U2:=g2.used;have C2:=g2.clause;simp only[dI,bB,PT.nd,PT.lv,Nat.add_zero] at L2 U2;refine⟨.un e2,G.res (l:=[.leaf,e2.pt]) ?_ (by simp[CE.pt]) ?_ hr (fun _=>w3 (by omega))⟩
   ·have p2:=e2.pt.gq
    simp only[bM,PT.nd,List.cons.injEq,and_true]
    refine⟨?_,?_⟩<;>omega
   ·refine⟨.inl (by simpa using hx),?_⟩
    rw[C2,U2] at o3;exact o3
  ·have q:=ih _ _ _ h hr;exact q
 | g+1,.factor nest,st,r,h,hr=>by
  have ih:=jB toks hE d g;rw[run] at h
  split at h
  ·rename_i hn
   have hd0:(aM toks d (nest+1) (ay toks st).2).fE=0:=by
    apply Classical.byContradiction
    intro q;rw[if_pos q] at h
    injection h with h;subst h
    exact q hr
   rw[if_neg (by simp[hd0]),wX hd0] at h;obtain⟨b,h2,h⟩:=bH h
   injection h with h;subst h
   obtain⟨g2,i2,u2⟩:=iC hE (aZ hn.2);have hx:=gK hn.2;obtain⟨e2,g3,i3,o3,w3⟩:=ih _ _ _ h2 ((aD _ _ _).zero hr);have G:=g2.append g3;generalize ay toks st=m2 at *;have L2:=g2.len;have U2:=g2.used;have C2:=g2.clause;simp only[dI,bB,PT.nd,PT.lv,Nat.add_zero] at L2 U2;refine⟨.un e2,G.res (l:=[.leaf,e2.pt]) ?_ (by simp[CE.pt]) ?_ hr (fun _=>w3 (by omega))⟩
   ·have p2:=e2.pt.gq
    simp only[bM,PT.nd,List.cons.injEq,and_true]
    refine⟨?_,?_⟩<;>omega
   ·refine⟨.inr (by simpa using hx),?_⟩
    rw[C2,U2] at o3;exact o3
  ·have q:=ih _ _ _ h hr;exact q
 | g+1,.atom nest,st,r,h,hr=>by
  have ih:=jB toks hE d g;have ex:=aN toks d g
  have single:∀ (k:Nat) (e:CE),gu toks st.used≠5→e.pt=.node k [.leaf]→e.ok toks st.clause st.used→(aY k [(ay toks st).1] (ay toks st).2).2.fE=0→Te toks st (aY k [(ay toks st).1] (ay toks st).2) e:=by
   intro k e h5 he hok hz;obtain⟨g2,i2,u2⟩:=iC hE h5;have U2:=g2.used;simp only[bB,PT.lv,Nat.add_zero] at U2;refine g2.res ?_ he hok hz (fun _=>by omega);rw[i2];simp only[bM,PT.nd,List.cons.injEq,and_true];omega
  rw[run] at h
  split at h
  ·rename_i hf
   injection h with h;subst h
   exact absurd hr hf
  split at h
  ·rename_i hk
   injection h with h;subst h
   exact⟨.num,single 15 .num (by rw[gu];omega) (by simp[CE.pt]) hk hr⟩
  split at h
  ·rename_i hn
   injection h with h;subst h
   refine⟨.truth,single 16 .truth (aZ hn) (by simp[CE.pt]) ?_ hr⟩;have:=gK hn
   simpa [CE.ok] using this
  split at h
  ·rename_i hn
   injection h with h;subst h
   refine⟨.res,single 17 .res (aZ hn.2) (by simp[CE.pt]) ?_ hr⟩;have:=gK hn.2;exact⟨hn.1,by simpa using this⟩
  split at h
  ·rename_i hn
   obtain⟨b,h1,h⟩:=bH h
   injection h with h;subst h
   have z1:=(aD _ _ _).zero hr;obtain⟨g1,i1,u1⟩:=iC hE (aZ hn);have hx:=gK hn;obtain⟨e2,g2,i2,o2,w2⟩:=ih _ _ _ h1 ((aF _ _ _).zero z1);obtain⟨g3,i3,k3,u3,y3⟩:=gN hE z1;have G:=(g1.append g2).append g3;generalize aA toks [[41]] b.2=m3 at *;generalize ay toks st=m1 at *;have L1:=g1.len;have L2:=g2.len;have U1:=g1.used;have U2:=g2.used;have U3:=g3.used;have C1:=g1.clause;simp only[dI,bB,PT.nd,PT.lv,Nat.add_zero] at L1 L2 U1 U2 U3;refine⟨.group e2,G.res (l:=[.leaf,e2.pt,.leaf]) ?_ (by simp[CE.pt]) ?_ hr (fun _=>by omega)⟩
   ·have p2:=e2.pt.gq
    simp only[bM,PT.nd,List.cons.injEq,and_true]
    refine⟨?_,?_,?_⟩<;>omega
   ·refine⟨by simpa using hx,?_⟩
    rw[C1,U1] at o2;exact o2
  split at h
  ·rename_i hk
   have q:=ih _ _ _ h hr;exact q hk
  ·injection h with h;subst h
   exact(oU (by decide) hr).elim
 | g+1,.name nest,st,r,h,hr=>by
  have ih:=jB toks hE d g;have ex:=aN toks d g;rw[run] at h;intro hk1
  ·obtain⟨g1,i1,u1⟩:=iC hE (st:=st) (by omega)
   have L1:=g1.len;have U1:=g1.used;have C1:=g1.clause;simp only[dI,bB,PT.nd,PT.lv,Nat.add_zero] at L1 U1;generalize ay toks st=m1 at *
   split at h
   ·injection h with h;subst h
    refine⟨.Jj,g1.res (l:=[.leaf]) ?_ (by simp[CE.pt]) hk1 hr (fun _=>by omega)⟩;rw[i1];simp only[bM,PT.nd,List.cons.injEq,and_true];omega
   ·rename_i hn
    have hcl:st.clause=false:=by
     rw[← C1,← Bool.not_eq_true]
     exact fun q=>hn (.inl q)
    obtain⟨l,h1,h⟩:=bH h
    injection h with h;subst h
    have z3:=(aD _ _ _).zero hr;have z2:=(aF _ _ _).zero z3
    have hone:∀ s k,run toks d g (.expr (nest+1)) s=some k→k.2.fE=0→∃ e,Te toks s k e:=fun s k hk hz=>ih _ _ _ hk hz
    obtain⟨es,hlen,g4,i4,o4,w4⟩:=Mq toks hE _ (fun s k hk=>ex _ _ _ hk) hone _ _ h1 z2;obtain⟨g5,i5,k5,u5,y5⟩:=gN hE z3;have z1:=(kg toks _ (fun s k hk=>ex _ _ _ hk) _ _ h1).zero z2;obtain⟨g3,i3,k3,u3,y3⟩:=gN hE z1;generalize aA toks [[41]] l.2=m5 at *;generalize hq:lD toks m1=q at *;generalize aA toks [[40]] q.2=m3 at *;have L3:=g3.len;have L4:=g4.len;have U3:=g3.used;have U4:=g4.used;have U5:=g5.used;have C3:=g3.clause;simp only[dI,bB,PT.nd,PT.lv,Nat.add_zero] at L3 U3 U5;unfold lD at hq
    split at hq
    ·rename_i abP
     subst hq;have hx:=gK abP;obtain⟨p1,j1,v1⟩:=iC hE (st:=m1.2) (aZ abP);obtain⟨p2,j2,kk2,v2,yy2⟩:=wW hE (k:=1) (by decide) y3;simp only at g3 i3 k3 u3 L3 U3 C3;generalize aO toks 1 (ay toks m1.2).2=n2 at *;generalize ay toks m1.2=n1 at *;have M1:=p1.len;have M2:=p2.len;have V1:=p1.used;have V2:=p2.used;have D1:=p1.clause;have D2:=p2.clause;simp only[dI,bB,PT.nd,PT.lv,Nat.add_zero] at M1 M2 V1 V2;have G:=((((g1.append p1).append p2).append g3).append g4).append g5;refine⟨.call true es,G.res (l:=[.leaf,.leaf,.leaf]++[.leaf]++dS es++[.leaf]) ?_ (by simp[CE.pt]) ?_ hr (fun _=>by omega)⟩
     ·simp only[mH,i4,i1,i3,i5,j1,j2,lI]
      simp only[bM,dI,PT.nd,List.cons_append,List.nil_append,Nat.add_zero];rw[L4,L3,M2,M1,L1]
      have e0:∀ a b:Nat,a=b→bM a (dS es)=bM b (dS es):=fun a b h=>by rw[h]
      rw[e0 (st.nodes.length+1+1+1+1) (st.nodes.length+(1+(1+1)+1)) (by omega)];simp only[List.cons.injEq,List.append_cancel_left_eq,and_true]
      refine⟨?_,?_,?_,?_,?_⟩<;>omega
     ·refine⟨hcl,hk1,hlen,?_⟩
      rw[C3,D2,D1,C1,U3,V2,V1,U1] at o4;rw[V1,U1] at kk2;rw[U1] at hx;exact⟨by simpa using hx,kk2,o4⟩
    ·subst hq
     simp only at g3 i3 k3 u3 L3 U3 C3;have G:=((g1.append g3).append g4).append g5;refine⟨.call false es,G.res (l:=[.leaf]++[.leaf]++dS es++[.leaf]) ?_ (by simp[CE.pt]) ?_ hr (fun _=>by omega)⟩
     ·simp only[mH,i4,i1,i3,i5,lI]
      simp only[bM,dI,PT.nd,List.cons_append,List.nil_append,Nat.add_zero];rw[L4,L3,L1]
      have e0:∀ a b:Nat,a=b→bM a (dS es)=bM b (dS es):=fun a b h=>by rw[h]
      rw[e0 (st.nodes.length+1+1) (st.nodes.length+(1+1)) (by omega)];simp only[List.cons.injEq,List.append_cancel_left_eq,and_true]
      refine⟨?_,?_,?_⟩<;>omega
     ·refine⟨hcl,hk1,hlen,?_⟩
      rw[C3,C1,U3,U1] at o4;rw[U1] at k3;exact⟨by simpa using k3,o4⟩
end Go.Proofs.YtknicmmigbhpcaaGreatDoor

namespace Go.Proofs.YtknicmmigbhpcaaGreatDoor
open Go.RowKit
theorem Rec.abQ {α:Type}{B:Nat}{w:World}{v:Value}{sz n:Nat}{f:α→List Value}{l:List α}(h:Rec B w v sz f l)(hf:∀ x,(f x).length=sz)(hn:l.length=n) :
  ∃ ao cap,v=.slice ao n cap∧n≤cap∧(0<n→∃ b off,ao=some ⟨b,off,none⟩∧b<B ∧
   ∀ k j u,(hk:k<l.length)→(f l[k])[j]?=some u→w.cell? ⟨b,off+k * sz+j,none⟩=some u):=by
 subst hn;exact h.form hf
theorem Rec.cells {α:Type}{B:Nat}{w:World}{ao:Option Addr}{n cap sz:Nat}{f:α→List Value}{l:List α}(h:Rec B w (.slice ao n cap) sz f l)(hf:∀ x,(f x).length=sz)(h0:0<l.length) :
  ∃ b off,ao=some ⟨b,off,none⟩∧b<B∧∀ k j u,(hk:k<l.length)→(f l[k])[j]?=some u→w.cell? ⟨b,off+k * sz+j,none⟩=some u:=by
 obtain⟨Tf,cap',hv,_,hc⟩:=h.form hf
 injection hv with q1 q2 q3
 subst q1;exact hc h0
theorem Tryz.Jt:(Tryz.prog.info? 134).map (fun i=>(i.zero,i.size,i.bytes))=some (some (.agg #[.int .i64 0,.int .i64 0,.slice none 0 0]),3,40):=by kernel_rfl
def dH (w:World)(v:Value)(ks:List Int):Prop :=
 ∃ ao cap,v=.slice ao ks.length cap∧ks.length≤cap ∧
  (0<ks.length→∃ (b off:Nat) (cs:Array Value) (fr:Nat × Nat),ao=some ⟨b,off,none⟩∧w.heap[b]?=some (.cells cs 3 fr)∧∀ j,(h:j<ks.length)→cs[off+j]?=some (.int .i64 ks[j]))
def Kp (B:Nat)(w w':World):Prop :=
 Below B w w'∧∀ (k:Nat) (cs:Array Value) (T:TypeId) (fr:Nat × Nat),w.heap[k]?=some (.cells cs T fr)→T≠188→T≠245→T≠134→w'.heap[k]?=some (.cells cs T fr)
theorem Kp.refl (B:Nat)(w:World):Kp B w w:=⟨Below.refl _ _,fun _ _ _ _ h _ _ _=>h⟩
theorem Kp.trans {B:Nat}{a b c:World}(h:Kp B a b)(k:Kp B b c):Kp B a c:=⟨h.1.trans k.1,fun n cs T fr h0 h1 h2 h3=>k.2 n cs T fr (h.2 n cs T fr h0 h1 h2 h3) h1 h2 h3⟩
theorem Kp.size {B:Nat}{w w':World}(h:Kp B w w'):w.heap.size≤w'.heap.size:=h.1.size
theorem Kp.of {B:Nat}{w w':World}(h:Below w.heap.size w w')(hB:B≤w.heap.size):Kp B w w' :=
 ⟨h.mono hB,fun k cs T fr h0 _ _ _=>by rw[h.block k (bG h0).1];exact h0⟩
theorem Kp.mono {B B':Nat}{w w':World}(h:Kp B w w')(hB:B'≤B):Kp B' w w':=⟨h.1.mono hB,h.2⟩
def Kb (B:Nat)(w w':World):Prop :=
 Below B w w'∧∀ (k:Nat) (cs:Array Value) (T:TypeId) (fr:Nat × Nat),w.heap[k]?=some (.cells cs T fr)→T≠245→T≠134→w'.heap[k]?=some (.cells cs T fr)
theorem Kb.kp {B:Nat}{w w':World}(h:Kb B w w'):Kp B w w':=⟨h.1,fun k cs T fr h0 _ h2 h3=>h.2 k cs T fr h0 h2 h3⟩
theorem Kb.refl (B:Nat)(w:World):Kb B w w:=⟨Below.refl _ _,fun _ _ _ _ h _ _=>h⟩
theorem Kb.trans {B:Nat}{a b c:World}(h:Kb B a b)(k:Kb B b c):Kb B a c:=⟨h.1.trans k.1,fun n cs T fr h0 h1 h2=>k.2 n cs T fr (h.2 n cs T fr h0 h1 h2) h1 h2⟩
theorem Kb.of {B:Nat}{w w':World}(h:Below w.heap.size w w')(hB:B≤w.heap.size):Kb B w w' :=
 ⟨h.mono hB,fun k cs T fr h0 _ _=>by rw[h.block k (bG h0).1];exact h0⟩
theorem dH.kept {B:Nat}{w w':World}{v:Value}{ks:List Int}(h:dH w v ks)(hk:Kp B w w'):dH w' v ks:=by
 obtain⟨ao,cap,hv,hc,hf⟩:=h;refine⟨ao,cap,hv,hc,fun h0=>?_⟩;obtain⟨b,off,cs,fr,ha,hb,hj⟩:=hf h0;exact⟨b,off,cs,fr,ha,hk.2 b cs _ fr hb (by decide) (by decide) (by decide),hj⟩
def abR (R:List Nat)(v:Value):Prop:=∀ b off n cap,v=.slice (some ⟨b,off,none⟩) n cap→0<n→b ∉ R
def nU (R:List Nat)(w:World)(v:Value)(ks:List Int):Prop:=dH w v ks∧abR R v
theorem nU.kept {R:List Nat}{B:Nat}{w w':World}{v:Value}{ks:List Int}(h:nU R w v ks)(hk:Kp B w w'):nU R w' v ks:=⟨h.1.kept hk,h.2⟩
theorem iD {w:World}{base e sz n:Nat}{v:Value}{xs:List Value}(h:w.ownsRow base e sz v n xs){a:Addr}(hne:some a.block≠v.ownBlock)(u:Value):(w.setCell a u).ownsRow base e sz v n xs:=by
 refine⟨h.1,?_⟩
 rcases h.2 with hn|⟨g,cap,cur,hv,hg,hh,hr⟩
 ·exact .inl hn
 ·refine .inr ⟨g,cap,cur,hv,hg,?_,hr⟩
  rw[heap_setCell_other]
  ·exact hh
  ·intro q
   exact hne (by rw[← q,hv];rfl)
def uq (p:Nd × Value):List Value:=[.int .i64 p.1.kind,.int .i64 p.1.tok,p.2]
theorem Ju (p:Nd × Value):(uq p).length=3:=rfl
def BW (R:List Nat)(B bb:Nat)(tv:Value)(used:Nat)(nodes:List Nd)(w:World):Prop :=
 B≤bb∧∃ (nv:Value) (l:List (Nd × Value)),w.heap[bb]?=some (.cells #[tv,nv,.int .i64 used] 245 (0,0))∧l.map Prod.fst=nodes ∧
  w.ownsRow B 134 3 nv nodes.length (l.flatMap uq)∧∀ p∈l,nU R w p.2 p.1.kids
structure aT where
 R:List Nat
 B:Nat
 pb:Nat
 bb:Nat
 tv:Value
 toks:List Tok
 depth:Nat
def PW (E:aT)(st:aB)(w:World):Prop :=
 w.heap[E.pb]?=some (.cells #[.pointer (some ⟨E.bb,0,none⟩),.int .i64 E.depth,.bool st.clause,.int .i64 st.fE,.int .i64 st.Ya] 188 (0,0)) ∧
  BW E.R E.B E.bb E.tv st.used st.nodes w∧Rec E.B w E.tv 4 bV E.toks∧E.B≤E.pb∧st.used≤E.toks.length∧∀ r∈E.R,r<w.heap.size
theorem BW.later {R:List Nat}{B bb:Nat}{tv:Value}{used:Nat}{nodes:List Nd}{w w':World}(h:BW R B bb tv used nodes w)(hb:Below w.heap.size w w'):BW R B bb tv used nodes w':=by
 obtain⟨h1,nv,l,h2,h3,h4,h5⟩:=h;refine⟨h1,nv,l,?_,h3,own_below h4 hb,fun p hp=>(h5 p hp).kept (Kp.of hb (Nat.le_refl _))⟩;rw[hb.block bb (bG h2).1];exact h2
theorem PW.later {E:aT}{st:aB}{w w':World}(h:PW E st w)(hb:Below w.heap.size w w'):PW E st w':=by
 obtain⟨h1,h2,h3,h4,h5⟩:=h;refine⟨?_,h2.later hb,?_,h4,h5.1,fun r hr=>Nat.lt_of_lt_of_le (h5.2 r hr) hb.size⟩
 ·rw[hb.block E.pb (bG h1).1];exact h1
 ·have hlt:=(bG h1).1
  exact h3.below (hb.mono (by omega))
theorem PW.lt {E:aT}{st:aB}{w:World}(h:PW E st w):E.pb<w.heap.size:=(bG h.1).1
theorem PW.dL {E:aT}{st:aB}{w:World}(h:PW E st w):E.B≤w.heap.size:=by have:=h.lt;have:=h.2.2.2.1;omega
theorem BW.lt {R:List Nat}{B bb:Nat}{tv:Value}{used:Nat}{nodes:List Nd}{w:World}(h:BW R B bb tv used nodes w):bb<w.heap.size:=by
 obtain⟨_,nv,l,h2,_⟩:=h;exact(bG h2).1
def TS (R:List Nat)(B bb:Nat)(tv:Value)(r:Int)(used:Nat)(nodes:List Nd)(w:World)(e:Ending)(w':World):Prop :=
 e=.returned (.int .i64 r)∧BW R B bb tv used nodes w'∧Kb B w w'
theorem Jv (tv:Value)(ao:Option Addr)(n cap:Nat)(w:World)(hn:n≤1099511627776) :
  Calls Tryz.prog 66 #[.agg #[tv,.slice ao n cap]] w fun e w'=>e=.returned (.int .i64 ((n:Int) - 1))∧Below w.heap.size w w':=by
 go_enter Tryz.func66,Tryz.ntmps66;go_wp2;go_ret;exact⟨rfl,(Below.refl _ _).alloc (Nat.le_refl _) _⟩
theorem OZ (R:List Nat)(B bb:Nat)(tv:Value)(used:Nat)(nodes:List Nd)(kind tok:Int)(kv:Value)(ks:List Int)(w:World)(hb:BW R B bb tv used nodes w)(hk:nU R w kv ks)(hn:nodes.length+1≤1099511627776) :
  Calls Tryz.prog 232 #[.pointer (some ⟨bb,0,none⟩),.agg #[.int .i64 kind,.int .i64 tok,kv]] w (TS R B bb tv (nodes.length:Nat) used (nodes++[⟨kind,tok,ks⟩]) w):=by
 obtain⟨i0,hi,hz0,hz1,hz2⟩:=info_parts Tryz.Jt;obtain⟨h1,nv,l,h2,h3,h4,h5⟩:=hb;have hlt:=(bG h2).1;have HI:=ah hk;obtain⟨aok,adB,rfl,_,_⟩:=hk.1;generalize hkv:Value.slice aok ks.length adB=kv at HI
 have hone:kv.oneCell'=true:=by rw[← hkv];rfl
 clear hkv
 obtain⟨ao,cap,rfl,_⟩:∃ ao cap,nv=.slice ao nodes.length cap∧True:=by
  rcases h4.2 with ⟨hv,hn0⟩|⟨g,cap,cur,hv,_⟩
  ·exact⟨none,0,by rw[hv,hn0],trivial⟩
  ·exact⟨_,cap,hv,trivial⟩
 have c0:w.cell? ⟨bb,0,none⟩=some tv:=by rw[Lib.cell_of_heap h2];rfl
 have c1:w.cell? ⟨bb,1,none⟩=some (.slice ao nodes.length cap):=by rw[Lib.cell_of_heap h2];rfl
 have hal:=(Below.refl w.heap.size w).alloc (Nat.le_refl _) (.cells #[.int .i64 kind,.int .i64 tok,kv] 134);have d0:=cell_later hal c0;have d1:=cell_later hal c1
 have hz:(w.alloc (.cells #[.int .i64 kind,.int .i64 tok,kv] 134)).frozen? ⟨bb,1,none⟩=false:=by
  simp[World.frozen?,(Lib.alloc_old w _ bb hlt).trans h2]
 go_enter Tryz.func232,Tryz.ntmps232;go_wp2;have nq:=heap_alloc_new w (.cells #[.int .i64 kind,.int .i64 tok,kv] 134)
 have e0:(w.alloc (.cells #[.int .i64 kind,.int .i64 tok,kv] 134)).cell? ⟨w.heap.size,0,none⟩=some (.int .i64 kind):=by rw[Lib.cell_of_heap nq];rfl
 have e1:(w.alloc (.cells #[.int .i64 kind,.int .i64 tok,kv] 134)).cell? ⟨w.heap.size,1,none⟩=some (.int .i64 tok):=by rw[Lib.cell_of_heap nq];rfl
 have e2:(w.alloc (.cells #[.int .i64 kind,.int .i64 tok,kv] 134)).cell? ⟨w.heap.size,2,none⟩=some kv:=by rw[Lib.cell_of_heap nq];rfl
 have hown:=h4.alloc (.cells #[.int .i64 kind,.int .i64 tok,kv] 134);have hbb:=(Lib.alloc_old w (.cells #[.int .i64 kind,.int .i64 tok,kv] 134) bb hlt).trans h2;have hne:=own_ne hown hbb (by decide)
 have hzq:(w.alloc (.cells #[.int .i64 kind,.int .i64 tok,kv] 134)).heap.size=w.heap.size+1:=by simp
 have hBw:B≤w.heap.size:=by omega
 generalize w.alloc (.cells #[.int .i64 kind,.int .i64 tok,kv] 134)=wq at e0 e1 e2 hown hbb hne hzq hal d0 d1 hz ⊢
 have abS:B≤wq.heap.size:=by omega
 have abT:bb<wq.heap.size:=by omega
 have hzz:∀ o,(wq.alloc o).drew.frozen? ⟨bb,1,none⟩=false:=fun o=>by
  have:(wq.alloc o).drew.heap[bb]?=some (.cells #[tv,.slice ao nodes.length cap,.int .i64 used] 245 (0,0)):=(Lib.alloc_old wq o bb abT).trans hbb;simp[World.frozen?,this]
 have hzg:w.heap.size<wq.heap.size:=by omega
 have hne2:some w.heap.size≠(Value.slice ao nodes.length cap).ownBlock:=fun q=>by have:=(h4.lt w.heap.size q.symm).2;omega
 have Bt:Hid (∀ u∈[Value.int .i64 kind,.int .i64 tok,kv],u.oneCell'=true):=ah (by
  intro u hu;simp only[List.mem_cons,List.not_mem_nil,or_false] at hu
  rcases hu with rfl|rfl|rfl
  ·rfl
  ·rfl
  ·exact hone)
 have hcc:∀ o,(wq.alloc o).drew.cell? ⟨bb,1,none⟩=some (.slice ao nodes.length cap):=fun o=>by
  have:(wq.alloc o).drew.heap[bb]?=some (.cells #[tv,.slice ao nodes.length cap,.int .i64 used] 245 (0,0)):=(Lib.alloc_old wq o bb abT).trans hbb;rw[Lib.cell_of_heap this];rfl
 clear nq c0 c1 hzq
 go_region_law ((refine step_append_lies _ (by rfl) _ _ _ (by rfl) B 134 i0 _ 3 40 Tryz.underlying87 hi hz0 hz1 hz2 rfl (by omega) (.slice ao nodes.length cap) nodes.length _ (by rfl) (pV (hown.alloc _)) ⟨wq.heap.size,0,none⟩ 1 1 [.int .i64 kind,.int .i64 tok,kv] (by rfl) (by rfl) (World.news_of_block (cs:=#[.int .i64 kind,.int .i64 tok,kv]) (t:=134) (fr:=(0,0)) (heap_alloc_new wq _)) (Bt.out) (by omega) (by unfold maxLen;omega) (by omega) (by simp;omega) (wq.heap.size+1) (by simp) ?_;intro gg cap5 w5 hown5 iw yL Qv;have Mr:=(iw.frozen_far ⟨bb,1,none⟩ (by simp;omega) hne).trans (hzz _);have hc5:=(iw.cell_far ⟨bb,1,none⟩ (by simp;omega) hne).trans (hcc _)))
 all_goals
  have Qw:Below B w w5:=(((Below.refl _ _).mono hBw).trans (hal.mono hBw)).trans ((((Below.refl wq.heap.size wq).mono abS).alloc abS (.cells #[.int .i64 kind,.int .i64 tok,kv] 134)).drew.grown iw (by simp;omega) (fun q hq=>(hown.lt q hq).1))
  have hkb:∀ (k:Nat) (cs:Array Value) (T:TypeId) (fr:Nat × Nat),w.heap[k]?=some (.cells cs T fr)→T≠134→w5.heap[k]?=some (.cells cs T fr):=fun k cs T fr h0 h1=>by
   have hk:=(bG h0).1
   have h2:wq.heap[k]?=some (.cells cs T fr):=by rw[hal.block k hk];exact h0
   exact fU (pV (hown.alloc _)) iw ((Lib.alloc_old wq _ k (by omega)).trans h2) h1
  have TT:=hkb bb _ _ _ h2 (by decide)
  have hc0:w5.cell? ⟨bb,0,none⟩=some tv:=by rw[Lib.cell_of_heap TT];rfl
  have h5':=fun p hp=>(h5 p hp)
  have H4:=ah hown5;clear iw hown5 yL d0 d1 e0 e1 e2 hzz hcc hz hone h4 hown;go_wp2;go_ret;generalize Value.slice (some ⟨gg,0,none⟩) (nodes.length+1) cap5=nv5 at H4 ⊢;have abU:bb<w5.heap.size:=(bG TT).1
  have aaz:Kb B w ((w5.setCell ⟨bb,1,none⟩ nv5).alloc (.cells #[tv,nv5] 89)):=by
   refine⟨(Qw.setCell h1 _).alloc (by have:=Qw.size;simp;omega) _,fun k cs T fr h0 q1 q2=>?_⟩;have r1:=hkb k cs T fr h0 q2;have hk5:=(bG r1).1;rw[Lib.alloc_old _ _ k (by simpa using hk5),heap_setCell_other]
   ·exact r1
   ·show k≠bb
    rintro rfl;rw[TT] at r1;simp only[Option.some.injEq,Obj.cells.injEq] at r1;exact q1 r1.2.1.symm
  refine⟨Gw (by omega),⟨h1,nv5,l++[(⟨kind,tok,ks⟩,kv)],?_,by simp[h3],?_,?_⟩,aaz⟩
  ·rw[Lib.alloc_old _ _ bb (by simpa using abU),heap_setCell_same w5 bb 1 _ _ _ TT]
   rfl
  ·rw[List.flatMap_append,bP]
   exact(iD H4.out (own_ne H4.out TT (by decide)) nv5).alloc _
  ·intro p hp
   rcases List.mem_append.1 hp with hp|hp
   ·exact(h5 p hp).kept aaz.kp
   ·rw[List.mem_singleton] at hp
    subst hp;exact HI.out.kept aaz.kp
theorem Kb.adC {B bb:Nat}{w:World}{cs:Array Value}{fr:Nat × Nat}(h:w.heap[bb]?=some (.cells cs 245 fr))(hB:B≤bb)(i:Nat)(u:Value):Kb B w (w.setCell ⟨bb,i,none⟩ u):=by
 refine⟨(Below.refl _ _).setCell hB u,fun k cs' T fr' h0 q1 _=>?_⟩;rw[heap_setCell_other]
 ·exact h0
 ·show k≠bb
  rintro rfl;rw[h] at h0;simp only[Option.some.injEq,Obj.cells.injEq] at h0;exact q1 h0.2.1.symm
theorem BW.kb {R:List Nat}{B bb:Nat}{tv:Value}{used:Nat}{nodes:List Nd}{w:World}(h:BW R B bb tv used nodes w):B≤bb:=h.1
theorem BW.Yh {R:List Nat}{B bb:Nat}{tv:Value}{used:Nat}{nodes:List Nd}{w:World}(h:BW R B bb tv used nodes w)(u:Nat):BW R B bb tv u nodes (w.setCell ⟨bb,2,none⟩ (.int .i64 u))∧Kb B w (w.setCell ⟨bb,2,none⟩ (.int .i64 u)):=by
 obtain⟨h1,nv,l,h2,h3,h4,h5⟩:=h;have hk:=Kb.adC h2 h1 2 (.int .i64 u);refine⟨⟨h1,nv,l,?_,h3,iD h4 (own_ne h4 h2 (by decide)) _,fun p hp=>(h5 p hp).kept hk.kp⟩,hk⟩;rw[heap_setCell_same w bb 2 _ _ _ h2]
 rfl
theorem BW.drewN {R:List Nat}{B bb:Nat}{tv:Value}{used:Nat}{nodes:List Nd}{w:World}(h:BW R B bb tv used nodes w)(n:Nat):BW R B bb tv used nodes (w.drewN n):=h.later (below_drewN (Below.refl _ _) n)
def rG (n used:Nat)(nodes:List Nd):Int × Nat × List Nd:=if used=n then (-1,used,nodes) else ((nodes.length:Nat),used+1,nodes++[⟨19,(used:Nat),[]⟩])
theorem TU (R:List Nat)(B bb:Nat)(ao:Option Addr)(n cap used:Nat)(nodes:List Nd)(w:World)(hb:BW R B bb (.slice ao n cap) used nodes w)(hu:used≤n)(hn:n≤1099511627776)(hl:nodes.length+1≤1099511627776) :
  Calls Tryz.prog 167 #[.pointer (some ⟨bb,0,none⟩)] w (TS R B bb (.slice ao n cap) (rG n used nodes).1 (rG n used nodes).2.1 (rG n used nodes).2.2 w):=by
 have hB:=hb.kb;have hlt:=hb.lt;have HB:=ah hb;obtain⟨h1,nv,l,h2,h3,h4,h5⟩:=hb
 have c0:w.cell? ⟨bb,0,none⟩=some (.slice ao n cap):=by rw[Lib.cell_of_heap h2];rfl
 have c2:w.cell? ⟨bb,2,none⟩=some (.int .i64 used):=by rw[Lib.cell_of_heap h2];rfl
 have hz:w.frozen? ⟨bb,2,none⟩=false:=by simp[World.frozen?,h2]
 clear h2 h3 h4 h5
 by_cases he:used=n
 ·have t1:((used:Int) == (n:Int))=true:=by rw[he,beq_iff_eq]
  have hq:rG n used nodes=(-1,used,nodes):=by rw[rG,if_pos he]
  rw[hq];clear hq;go_enter Tryz.func167,Tryz.ntmps167;go_wp2
  go_quiet (fail)
  go_wp2;go_ret;exact⟨rfl,HB.out.drewN _,Kb.of (below_drewN (Below.refl _ _) _) (by omega)⟩
 ·have t1:((used:Int) == (n:Int))=false:=by rw[← Bool.not_eq_true,beq_iff_eq];omega
  have hq:rG n used nodes=(((nodes.length:Nat):Int),used+1,nodes++[⟨19,(used:Nat),[]⟩]):=by rw[rG,if_neg he]
  rw[hq]
  have hnil:∀ w,nU R w (.slice none 0 0) []:=fun w=>⟨⟨none,0,rfl,Nat.le_refl _,fun h=>absurd h (by simp)⟩,fun _ _ _ _ h=>by cases h⟩
  have HN:=ah hnil;clear hq hnil;go_enter Tryz.func167,Tryz.ntmps167;go_wp2
  go_quiet (fail)
  go_wp2_with fail;have hbd:=HB.out.drewN nq;obtain⟨hs1,hs2⟩:=hbd.Yh (used+1)
  have e2:((used:Int)+1)=((used+1:Nat):Int):=by omega
  rw[e2];clear e2;have hk0:Kb B w (w.drewN nq):=Kb.of (below_drewN (Below.refl _ _) _) (by omega);generalize (w.drewN nq).setCell ⟨bb,2,none⟩ (.int .i64 (used+1:Nat))=w4 at hs1 hs2 ⊢;refine(OZ R B bb _ (used+1) nodes 19 used _ [] w4 hs1 (HN.out _) hl).mono ?_;rintro e w5 ⟨rfl,hb5,hk5⟩;go_wp2;go_ret;exact⟨rfl,hb5,(hk0.trans hs2).trans hk5⟩
def GJ (t:Tok):Value:=.agg #[.int .i64 t.kind,.string ⟨t.lead.toArray⟩,.string ⟨t.text.toArray⟩,.int .i64 t.place]
theorem Yi (toks:List Tok)(u:Nat)(h:0<toks.length):∃ (k:Nat) (hk:k<toks.length),k=min u (toks.length - 1)∧bL toks u=toks[k]:=by
 refine⟨min u (toks.length - 1),by omega,rfl,?_⟩;unfold bL;rw[List.getD_eq_getElem?_getD,List.getElem?_eq_getElem (by omega),Option.getD_some]
theorem wY (R:List Nat)(B bb:Nat)(tv:Value)(toks:List Tok)(used:Nat)(nodes:List Nd)(w:World)(hb:BW R B bb tv used nodes w)(ht:Rec B w tv 4 bV toks)(h0:0<toks.length)(hu:used≤toks.length)(hn:toks.length≤1099511627776) :
  Calls Tryz.prog 174 #[.pointer (some ⟨bb,0,none⟩)] w fun e w'=>e=.returned (GJ (bL toks used))∧Below w.heap.size w w':=by
 obtain⟨h1,nv,l,h2,h3,h4,h5⟩:=hb;have hlt:=(bG h2).1;obtain⟨ao,cap,rfl,hcap,hf⟩:=ht.form (fun _=>rfl);obtain⟨b,off,rfl,hB,hcell⟩:=hf h0
 have c0:w.cell? ⟨bb,0,none⟩=some (.slice (some ⟨b,off,none⟩) toks.length cap):=by rw[Lib.cell_of_heap h2];rfl
 have c2:w.cell? ⟨bb,2,none⟩=some (.int .i64 used):=by rw[Lib.cell_of_heap h2];rfl
 obtain⟨k,hk,hkm,hp⟩:=Yi toks used h0;have hx0:=hcell k 0 _ hk rfl;have hx1:=hcell k 1 _ hk rfl;have hx2:=hcell k 2 _ hk rfl;have hx3:=hcell k 3 _ hk rfl;rw[hp];generalize toks[k]=t at hx0 hx1 hx2 hx3;obtain⟨c,x,y,q⟩:=t;simp only[Nat.add_zero] at hx0 hx1 hx2 hx3;have hal:=(Below.refl w.heap.size w).alloc (Nat.le_refl _) (.cells #[.int .i64 0,.string ⟨#[]⟩,.string ⟨#[]⟩,.int .i64 0] 136);have d0:=cell_later hal c0;have d2:=cell_later hal c2;have y0:=cell_later hal hx0;have y1:=cell_later hal hx1;have y2:=cell_later hal hx2;have y3:=cell_later hal hx3
 have hk0:(0:Int)<(toks.length:Int):=by omega
 have HKM:=ah hkm;clear hkm c0 c2 hx0 hx1 hx2 hx3 hcell hf ht h2 h3 h4 h5 hp;go_enter Tryz.func174,Tryz.ntmps174;go_wp2;have hnw:=heap_alloc_new w (.cells #[.int .i64 0,.string ⟨#[]⟩,.string ⟨#[]⟩,.int .i64 0] 136);generalize w.alloc _=w1 at hnw hal d0 d2 y0 y1 y2 y3 ⊢
 have hmin:min (used:Int) ((toks.length:Int) - 1)=(k:Int):=by have:=HKM.out;omega
 have w1':IntKind.i64.wrap ((toks.length:Int) - 1)=(toks.length:Int) - 1:=IntWalk.i64_in _ (by omega)
 have i1:(k:Int)<(toks.length:Int):=by omega
 go_still_tail 19,(by kernel_rfl)
 change wpList _ _ _ _ _ w1.drew;have TV:=hal.drew;have vC:w1.drew.heap[w.heap.size]?=some (.cells #[.int .i64 0,.string ⟨#[]⟩,.string ⟨#[]⟩,.int .i64 0] 136 (0,0)):=hnw;generalize w1.drew=w2 at TV vC ⊢
 have f0:w2.cell? ⟨w.heap.size,0,none⟩=some (.int .i64 0):=by rw[Lib.cell_of_heap vC];rfl
 have f1:w2.cell? ⟨w.heap.size,1,none⟩=some (.string ⟨#[]⟩):=by rw[Lib.cell_of_heap vC];rfl
 have f2:w2.cell? ⟨w.heap.size,2,none⟩=some (.string ⟨#[]⟩):=by rw[Lib.cell_of_heap vC];rfl
 have f3:w2.cell? ⟨w.heap.size,3,none⟩=some (.int .i64 0):=by rw[Lib.cell_of_heap vC];rfl
 have z0:∀ j,w2.frozen? ⟨w.heap.size,j,none⟩=false:=by intro j;simp[World.frozen?,vC]
 clear hnw vC hmin w1' i1 y0 y1 y2 y3 d0 d2;go_wp2;refine bodyPost_ret (v:=.agg #[.int .i64 c,.string ⟨x.toArray⟩,.string ⟨y.toArray⟩,.int .i64 q]) (by simp[results,Tryz.results174,go_sem,f0,f1,f2,f3]) rfl ⟨rfl,?_⟩;exact(((TV.setCell (Nat.le_refl _) _).setCell (Nat.le_refl _) _).setCell (Nat.le_refl _) _).setCell (Nat.le_refl _) _
end Go.Proofs.YtknicmmigbhpcaaGreatDoor
