/- Walks and plain laws: ParseLaws3. -/
import Derived.Test.YtknicmmigbhpcaaGreatDoorF02
set_option maxHeartbeats 16000000
set_option maxRecDepth 100000
set_option linter.unusedVariables false
set_option linter.unusedSimpArgs false
namespace Go.Proofs.YtknicmmigbhpcaaGreatDoor
theorem pY {toks:List Tok}{e:Nat}{st:aB}(he:e≠0)(h:(gG toks e st).fE=0):False:=lI he st h
theorem iC {toks:List Tok}(hE:gV toks){l:List (List UInt8)}{st:aB}(h:(aA toks l st).2.fE=0) :
  eD st [.leaf] (aA toks l st).2∧(aA toks l st).1=((st.nodes.length:Nat):Int)∧aH toks st.used∈l∧st.used+1<toks.length∧st.fE=0:=by
 unfold aA at h ⊢
 split at h
 ·rename_i hc
  rw[if_pos hc];obtain⟨_,e2⟩:=jy hE (bq hc.2);obtain⟨h1,h2⟩:=eD.leaf (toks:=toks) (st:=st) (by omega);refine⟨h1,h2,?_,e2,hc.1⟩;have:=hc.2;simp only[aV,Bool.and_eq_true,decide_eq_true_eq] at this;exact this.2
 ·exact(pY (by decide) h).elim
theorem xH {toks:List Tok}(hE:gV toks){k:Nat}(hk:k≠5){st:aB}(h:(aQ toks k st).2.fE=0) :
  eD st [.leaf] (aQ toks k st).2∧(aQ toks k st).1=((st.nodes.length:Nat):Int)∧gL toks st.used=k∧st.used+1<toks.length∧st.fE=0:=by
 unfold aQ at h ⊢
 split at h
 ·rename_i hc
  rw[if_pos hc];have e2:=hE.before (u:=st.used) (by rw[hc.2];exact hk);obtain⟨h1,h2⟩:=eD.leaf (toks:=toks) (st:=st) (by omega);exact⟨h1,h2,hc.2,e2,hc.1⟩
 ·exact(pY (by decide) h).elim
theorem iq {toks:List Tok}{st:aB}{l:List (List UInt8)}(h:aV toks st l=true):aH toks st.used∈l:=by
 simp only[aV,Bool.and_eq_true,decide_eq_true_eq] at h;exact h.2
theorem iN {toks:List Tok}(hE:gV toks){st:aB}(h:gL toks st.used≠5) :
  eD st [.leaf] (ay toks st).2∧(ay toks st).1=((st.nodes.length:Nat):Int)∧st.used+1<toks.length:=by
 have e2:=hE.before h;obtain⟨h1,h2⟩:=eD.leaf (toks:=toks) (st:=st) (by omega);exact⟨h1,h2,e2⟩
theorem xI {toks:List Tok}{d n:Nat}{st:aB}(h:(aN toks d n st).fE=0):aN toks d n st=st:=by
 unfold aN at h ⊢
 split at h
 ·exact(pY (by decide) h).elim
 ·rename_i hn;rw[if_neg hn]
theorem p9 {k:Int}{l:List Int}{st:aB}(h:(bg k l st).2.fE=0):st.fE=0:=(aD k l st).zero h
theorem eD.res {toks:List Tok}{a b:aB}{l:List PT}{e:CE}{k:Nat}{ids:List Int}(h:eD a l b)(aaY:ids=bV a.nodes.length l)(he:e.pt=.node k l)(hok:e.ok toks a.clause a.used)(hf:(bg k ids b).2.fE=0)(hu:a.used<toks.length→b.used<toks.length) :
  UK toks a (bg k ids b) e:=by
 subst aaY;obtain⟨h1,h2⟩:=h.node (p9 hf) k;refine⟨by rw[he];exact h1,by rw[h2,he,PT.nd];omega,hok,fun q=>?_⟩;have:=h1.used;rw[this];have h3:=h.used;have h4:=hu q;rw[h3] at h4
 simpa [bJ,PT.lv] using h4
theorem qK (b:Nat)(t:PT)(l:List PT):bV b (t :: l)=(((b+t.nd:Nat):Int) - 1) :: bV (b+t.nd) l:=by rw[bV]
def ad6 (toks:List Tok):Task→aB→Int × aB→Prop
 | .loop _ _ a,st,r=>∀ st0 e0,UK toks st0 (a,st) e0→∃ e,UK toks st0 r e
 | .name _,st,r=>gL toks st.used=1→∃ e,UK toks st r e
 | _,st,r=>∃ e,UK toks st r e
theorem RH:∀ l:Nat,∀ x∈yV l,x∈oK
 | 0=>by decide
 | 1=>by decide
 | 2=>by decide
 | 3=>by decide
 | _+4=>by
  intro x hx
  have:∀ x∈([[42],[47],[37]]:List (List UInt8)),x∈oK:=by decide
  exact this x hx
theorem vM (toks:List Tok)(hE:gV toks)(one:aB→Option (Int × aB))(h1:∀ s k,one s=some k→dB s k.2)(h2:∀ s k,one s=some k→k.2.fE=0→∃ e,UK toks s k e) :
  ∀ (r:Nat) (kids:List Int) (st:aB) (l:List Int × aB),aU toks one r kids st=some l→l.2.fE=0 →
   ∃ es:List CE,es≠[]∧es.length≤r∧eD st (eF es) l.2∧l.1=kids++bV st.nodes.length (eF es)∧nS toks st.clause st.used es∧(st.used<toks.length→l.2.used<toks.length)
 | 0,kids,st,l,h,hl=>by
  rw[aU] at h
  injection h with h
  subst h
  exfalso
  have hl:(if st.fE=0 then gG toks 15 st else st).fE=0:=hl
  split at hl
  ·exact pY (by decide) hl
  ·rename_i hf;exact hf hl
 | r+1,kids,st,l,h,hl=>by
  rw[aU] at h
  split at h
  ·rename_i hf
   injection h with h;subst h
   exact absurd hl hf
  ·obtain⟨k,hk,h⟩:=bP h
   split at h
   ·rename_i hn
    obtain⟨g1,i1,u1⟩:=iN hE (bq hn.2);obtain⟨e,he1,he2,he3,he4⟩:=h2 _ _ hk hn.1;obtain⟨es,hne,hlen,hg,hi,hok,hu⟩:=vM toks hE one h1 h2 r _ _ _ h hl
    obtain⟨f,es,rfl⟩:∃ f fs,es=f :: fs:=by cases es with
     | nil=>exact absurd rfl hne
     | cons f fs=>exact⟨f,fs,rfl⟩
    have a1:=he1.len;have a2:=he1.used;have a3:=he1.clause;have b1:=g1.len;have b2:=g1.used;have b3:=g1.clause;simp only[dU,bJ,PT.nd,PT.lv,Nat.add_zero] at a1 a2 b1 b2;refine⟨e :: f :: es,by simp,by simpa using hlen,?_,?_,?_,fun q=>hu (by have:=he4 q;omega)⟩
    ·rw[mG]
     exact(he1.append g1).append hg
    ·rw[hi,mG,qK,qK,he2,i1,b1,a1]
     simp only[PT.nd,List.append_assoc,List.cons_append,List.nil_append]
     congr 2
     congr 1
     omega
    ·rw[b2,b3,a2,a3] at hok
     exact⟨he3,hok⟩
   ·injection h with h;subst h
    obtain⟨e,he1,he2,he3,he4⟩:=h2 _ _ hk hl;refine⟨[e],by simp,by simp,by rw[rP];exact he1,?_,⟨he3,trivial⟩,he4⟩;rw[rP,qK,he2];simp[bV]
theorem NG (toks:List Tok)(hE:gV toks)(one:aB→Option (Int × aB))(h1:∀ s k,one s=some k→dB s k.2)(h2:∀ s k,one s=some k→k.2.fE=0→∃ e,UK toks s k e)
  (st:aB) (l:List Int × aB) (h:jq toks one st=some l) (hl:l.2.fE=0) :
  ∃ es:List CE,es.length≤8∧eD st (eF es) l.2∧l.1=bV st.nodes.length (eF es)∧nS toks st.clause st.used es∧(st.used<toks.length→l.2.used<toks.length):=by
 unfold jq at h
 split at h
 ·injection h with h;subst h
  exact⟨[],by simp,by simpa [eF] using eD.nil st,by simp[eF,bV],trivial,id⟩
 ·obtain⟨es,_,h1,h2,h3,h4,h5⟩:=vM toks hE one h1 h2 _ _ _ _ h hl
  exact⟨es,h1,h2,by rw[h3];simp,h4,h5⟩
theorem jM (toks:List Tok)(hE:gV toks)(d:Nat):∀ (g:Nat) (t:Task) (st:aB) (r:Int × aB),run toks d g t st=some r→r.2.fE=0→ad6 toks t st r
 | 0,_,_,_,h,_=>by rw[run] at h;cases h
 | g+1,.expr nest,st,r,h,hr=>by
  have ih:=jM toks hE d g;have ex:=aP toks d g
  have hd0:(aN toks d nest st).fE=0:=by
   apply Classical.byContradiction
   intro q;rw[run,if_pos q] at h
   injection h with h;subst h
   exact q hr
  rw[run,xI hd0] at h;rw[xI hd0] at hd0;rw[if_neg (by simp[hd0])] at h
  split at h
  ·have q:=ih _ _ _ h hr;exact q
  rename_i hcl
  have hcl:st.clause=false:=by simpa using hcl
  split at h
  ·rename_i hn
   obtain⟨x,h1,h⟩:=bP h;obtain⟨f,h2,h⟩:=bP h
   injection h with h;subst h
   have z2:=(aD _ _ _).zero hr;have z1:=(ex _ _ _ h2).zero z2;have z0:=(aF _ _ _).zero z1;obtain⟨g1,i1,u1⟩:=iN hE (bq hn);obtain⟨g2,i2,k2,u2,y2⟩:=xH hE (by decide) ((aF _ _ _).zero ((ex _ _ _ h1).zero z0));obtain⟨g3,i3,k3,u3,y3⟩:=iC hE ((ex _ _ _ h1).zero z0);obtain⟨e1,g4,i4,o4,w4⟩:=ih _ _ _ h1 z0;obtain⟨g5,i5,k5,u5,y5⟩:=iC hE z1;obtain⟨e2,g6,i6,o6,w6⟩:=ih _ _ _ h2 z2;have G:=((((g1.append g2).append g3).append g4).append g5).append g6;generalize aA toks [UJ] x.2=m5 at *;generalize aA toks [[61]] (aQ toks 1 (ay toks st).2).2=m3 at *;generalize aQ toks 1 (ay toks st).2=m2 at *;generalize ay toks st=m1 at *;have L1:=g1.len;have L2:=g2.len;have L3:=g3.len;have L4:=g4.len;have L5:=g5.len;have U1:=g1.used;have U2:=g2.used;have U3:=g3.used;have U4:=g4.used;have U5:=g5.used;have C1:=g1.clause;have C2:=g2.clause;have C3:=g3.clause;have C4:=g4.clause;have C5:=g5.clause;simp only[dU,bJ,PT.nd,PT.lv,Nat.add_zero] at L1 L2 L3 L4 L5 U1 U2 U3 U4 U5;refine⟨.qH e1 e2,G.res (l:=[.leaf,.leaf,.leaf,e1.pt,.leaf,e2.pt]) ?_ (by simp[CE.pt]) ?_ hr (fun _=>w6 (by omega))⟩
   ·have p1:=e1.pt.gK
    have p2:=e2.pt.gK;simp only[bV,PT.nd,List.cons.injEq,and_true]
    refine⟨?_,?_,?_,?_,?_,?_⟩<;>omega
   ·refine⟨hcl,by rw[← U1];exact k2,?_,?_⟩
    ·rw[C3,C2,C1,U3,U2,U1] at o4;exact o4
    ·rw[C5,C4,C3,C2,C1,U5,U4,U3,U2,U1] at o6;exact o6
  split at h
  ·rename_i hn
   obtain⟨x,h1,h⟩:=bP h;obtain⟨y,h2,h⟩:=bP h;obtain⟨f,h3,h⟩:=bP h
   injection h with h;subst h
   have z3:=(aD _ _ _).zero hr;have z2:=(ex _ _ _ h3).zero z3;have z2':=(aF _ _ _).zero z2;have z1:=(ex _ _ _ h2).zero z2';have z0:=(aF _ _ _).zero z1;obtain⟨g1,i1,u1⟩:=iN hE (bq hn);obtain⟨e1,g2,i2,o2,w2⟩:=ih _ _ _ h1 z0;obtain⟨g3,i3,k3,u3,y3⟩:=iC hE z1;obtain⟨e2,g4,i4,o4,w4⟩:=ih _ _ _ h2 z2';obtain⟨g5,i5,k5,u5,y5⟩:=iC hE z2;obtain⟨e3,g6,i6,o6,w6⟩:=ih _ _ _ h3 z3;have G:=((((g1.append g2).append g3).append g4).append g5).append g6;generalize aA toks [Fx] y.2=m5 at *;generalize aA toks [Fw] x.2=m3 at *;generalize ay toks st=m1 at *;have L1:=g1.len;have L2:=g2.len;have L3:=g3.len;have L4:=g4.len;have L5:=g5.len;have U1:=g1.used;have U2:=g2.used;have U3:=g3.used;have U4:=g4.used;have U5:=g5.used;have C1:=g1.clause;have C2:=g2.clause;have C3:=g3.clause;have C4:=g4.clause;have C5:=g5.clause;simp only[dU,bJ,PT.nd,PT.lv,Nat.add_zero] at L1 L2 L3 L4 L5 U1 U2 U3 U4 U5;refine⟨.iff e1 e2 e3,G.res (l:=[.leaf,e1.pt,.leaf,e2.pt,.leaf,e3.pt]) ?_ (by simp[CE.pt]) ?_ hr (fun _=>w6 (by omega))⟩
   ·have p1:=e1.pt.gK
    have p2:=e2.pt.gK;have p3:=e3.pt.gK;simp only[bV,PT.nd,List.cons.injEq,and_true]
    refine⟨?_,?_,?_,?_,?_,?_⟩<;>omega
   ·refine⟨hcl,?_,?_,?_⟩
    ·rw[C1,U1] at o2;exact o2
    ·rw[C3,C2,C1,U3,U2,U1] at o4;exact o4
    ·rw[C5,C4,C3,C2,C1,U5,U4,U3,U2,U1] at o6;exact o6
  split at h
  ·rename_i hn
   obtain⟨x,h1,h⟩:=bP h;obtain⟨f,h2,h⟩:=bP h
   injection h with h;subst h
   have z2:=(aD _ _ _).zero hr;have z1:=(ex _ _ _ h2).zero z2;have z0:=(aF _ _ _).zero z1;obtain⟨g1,i1,u1⟩:=iN hE (bq hn);obtain⟨e1,g2,i2,o2,w2⟩:=ih _ _ _ h1 z0;obtain⟨g3,i3,k3,u3,y3⟩:=iC hE z1;obtain⟨e2,g4,i4,o4,w4⟩:=ih _ _ _ h2 z2;have G:=((g1.append g2).append g3).append g4;generalize aA toks [UJ] x.2=m3 at *;generalize ay toks st=m1 at *;have L1:=g1.len;have L2:=g2.len;have L3:=g3.len;have U1:=g1.used;have U2:=g2.used;have U3:=g3.used;have C1:=g1.clause;have C2:=g2.clause;have C3:=g3.clause;simp only[dU,bJ,PT.nd,PT.lv,Nat.add_zero] at L1 L2 L3 U1 U2 U3;refine⟨.qI e1 e2,G.res (l:=[.leaf,e1.pt,.leaf,e2.pt]) ?_ (by simp[CE.pt]) ?_ hr (fun _=>w4 (by omega))⟩
   ·have p1:=e1.pt.gK
    have p2:=e2.pt.gK;simp only[bV,PT.nd,List.cons.injEq,and_true]
    refine⟨?_,?_,?_,?_⟩<;>omega
   ·refine⟨hcl,?_,?_⟩
    ·rw[C1,U1] at o2;exact o2
    ·rw[C3,C2,C1,U3,U2,U1] at o4;exact o4
  ·have q:=ih _ _ _ h hr;exact q
 | g+1,.formula nest,st,r,h,hr=>by
  have ih:=jM toks hE d g;have ex:=aP toks d g;rw[run] at h;obtain⟨a,h1,h⟩:=bP h
  split at h
  ·rename_i hn
   have hd0:(aN toks d (nest+1) (ay toks a.2).2).fE=0:=by
    apply Classical.byContradiction
    intro q;rw[if_pos q] at h
    injection h with h;subst h
    exact q hr
   rw[if_neg (by simp[hd0]),xI hd0] at h;obtain⟨b,h2,h⟩:=bP h
   injection h with h;subst h
   have z2:=(aD _ _ _).zero hr;obtain⟨e1,g1,i1,o1,w1⟩:=ih _ _ _ h1 hn.1;obtain⟨g2,i2,u2⟩:=iN hE (bq hn.2);have hx:=iq hn.2;obtain⟨e2,g3,i3,o3,w3⟩:=ih _ _ _ h2 z2;have G:=(g1.append g2).append g3;generalize ay toks a.2=m2 at *;have L1:=g1.len;have L2:=g2.len;have U1:=g1.used;have U2:=g2.used;have C1:=g1.clause;have C2:=g2.clause;simp only[dU,bJ,PT.nd,PT.lv,Nat.add_zero] at L1 L2 U1 U2;refine⟨.bin e1 e2,G.res (l:=[e1.pt,.leaf,e2.pt]) ?_ (by simp[CE.pt]) ?_ hr (fun _=>w3 (by omega))⟩
   ·have p1:=e1.pt.gK
    have p2:=e2.pt.gK;simp only[bV,PT.nd,List.cons.injEq,and_true]
    refine⟨?_,?_,?_⟩<;>omega
   ·refine⟨?_,o1,?_⟩
    ·rw[← U1]
     simp only[List.mem_singleton] at hx;rw[hx]
     decide
    ·rw[C2,C1,U2,U1] at o3;exact o3
  ·injection h with h;subst h
   have q:=ih _ _ _ h1 hr;exact q
 | g+1,.part l nest,st,r,h,hr=>by
  have ih:=jM toks hE d g;rw[run] at h
  split at h
  ·have q:=ih _ _ _ h hr;exact q
  ·split at h
   ·have q:=ih _ _ _ h hr;exact q
   ·have q:=ih _ _ _ h hr;exact q
 | g+1,.row l nest,st,r,h,hr=>by
  have ih:=jM toks hE d g;have ex:=aP toks d g;rw[run] at h;obtain⟨a,h1,h⟩:=bP h;obtain⟨e1,he⟩:=ih _ _ _ h1 ((ex _ _ _ h).zero hr);exact ih _ _ _ h hr st e1 he
 | g+1,.loop l nest a,st,r,h,hr=>by
  have ih:=jM toks hE d g;have ex:=aP toks d g;intro st0 e0 h0;rw[run] at h
  split at h
  ·rename_i hn
   obtain⟨b,h1,h⟩:=bP h
   have z:(bg 10 [a,(ay toks st).1,b.1] b.2).2.fE=0:=by
    split at h
    ·injection h with h;subst h;exact hr
    ·exact(ex _ _ _ h).zero hr
   obtain⟨g2,i2,u2⟩:=iN hE (bq hn.2);have hx:=iq hn.2;obtain⟨g1,i1,o1,w1⟩:=h0;obtain⟨e2,g3,i3,o3,w3⟩:=ih _ _ _ h1 ((aD _ _ _).zero z);have G:=(g1.append g2).append g3;generalize ay toks st=m2 at *;simp only at g1 i1;have L1:=g1.len;have L2:=g2.len;have U1:=g1.used;have U2:=g2.used;have C1:=g1.clause;have C2:=g2.clause;simp only[dU,bJ,PT.nd,PT.lv,Nat.add_zero] at L1 L2 U1 U2
   have hR:UK toks st0 (bg 10 [a,m2.1,b.1] b.2) (.bin e0 e2):=by
    refine G.res (l:=[e0.pt,.leaf,e2.pt]) ?_ (by simp[CE.pt]) ?_ z (fun _=>w3 (by omega))
    ·have p1:=e0.pt.gK
     have p2:=e2.pt.gK;simp only[bV,PT.nd,List.cons.injEq,and_true]
     refine⟨?_,?_,?_⟩<;>omega
    ·refine⟨?_,o1,?_⟩
     ·rw[← U1]
      exact RH l _ hx
     ·rw[C2,C1,U2,U1] at o3;exact o3
   split at h
   ·injection h with h;subst h;exact⟨_,hR⟩
   ·exact ih _ _ _ h hr st0 _ hR
  ·injection h with h;subst h
   exact⟨e0,h0⟩
 | g+1,.neg nest,st,r,h,hr=>by
  have ih:=jM toks hE d g;rw[run] at h
  split at h
  ·rename_i hn
   have hd0:(aN toks d (nest+1) (ay toks st).2).fE=0:=by
    apply Classical.byContradiction
    intro q;rw[if_pos q] at h
    injection h with h;subst h
    exact q hr
   rw[if_neg (by simp[hd0]),xI hd0] at h;obtain⟨b,h2,h⟩:=bP h
   injection h with h;subst h
   obtain⟨g2,i2,u2⟩:=iN hE (bq hn.2);have hx:=iq hn.2;obtain⟨e2,g3,i3,o3,w3⟩:=ih _ _ _ h2 ((aD _ _ _).zero hr);have G:=g2.append g3;generalize ay toks st=m2 at *;have L2:=g2.len;have U2:=g2.used;have C2:=g2.clause;simp only[dU,bJ,PT.nd,PT.lv,Nat.add_zero] at L2 U2;refine⟨.un e2,G.res (l:=[.leaf,e2.pt]) ?_ (by simp[CE.pt]) ?_ hr (fun _=>w3 (by omega))⟩
   ·have p2:=e2.pt.gK
    simp only[bV,PT.nd,List.cons.injEq,and_true]
    refine⟨?_,?_⟩<;>omega
   ·refine⟨.inl (by simpa using hx),?_⟩
    rw[C2,U2] at o3;exact o3
  ·have q:=ih _ _ _ h hr;exact q
 | g+1,.factor nest,st,r,h,hr=>by
  have ih:=jM toks hE d g;rw[run] at h
  split at h
  ·rename_i hn
   have hd0:(aN toks d (nest+1) (ay toks st).2).fE=0:=by
    apply Classical.byContradiction
    intro q;rw[if_pos q] at h
    injection h with h;subst h
    exact q hr
   rw[if_neg (by simp[hd0]),xI hd0] at h;obtain⟨b,h2,h⟩:=bP h
   injection h with h;subst h
   obtain⟨g2,i2,u2⟩:=iN hE (bq hn.2);have hx:=iq hn.2;obtain⟨e2,g3,i3,o3,w3⟩:=ih _ _ _ h2 ((aD _ _ _).zero hr);have G:=g2.append g3;generalize ay toks st=m2 at *;have L2:=g2.len;have U2:=g2.used;have C2:=g2.clause;simp only[dU,bJ,PT.nd,PT.lv,Nat.add_zero] at L2 U2;refine⟨.un e2,G.res (l:=[.leaf,e2.pt]) ?_ (by simp[CE.pt]) ?_ hr (fun _=>w3 (by omega))⟩
   ·have p2:=e2.pt.gK
    simp only[bV,PT.nd,List.cons.injEq,and_true]
    refine⟨?_,?_⟩<;>omega
   ·refine⟨.inr (by simpa using hx),?_⟩
    rw[C2,U2] at o3;exact o3
  ·have q:=ih _ _ _ h hr;exact q
 | g+1,.atom nest,st,r,h,hr=>by
  have ih:=jM toks hE d g;have ex:=aP toks d g
  have single:∀ (k:Nat) (e:CE),gL toks st.used≠5→e.pt=.node k [.leaf]→e.ok toks st.clause st.used→(bg k [(ay toks st).1] (ay toks st).2).2.fE=0→UK toks st (bg k [(ay toks st).1] (ay toks st).2) e:=by
   intro k e h5 he hok hz;obtain⟨g2,i2,u2⟩:=iN hE h5;have U2:=g2.used;simp only[bJ,PT.lv,Nat.add_zero] at U2;refine g2.res ?_ he hok hz (fun _=>by omega);rw[i2];simp only[bV,PT.nd,List.cons.injEq,and_true];omega
  rw[run] at h
  split at h
  ·rename_i hf
   injection h with h;subst h
   exact absurd hr hf
  split at h
  ·rename_i hk
   injection h with h;subst h
   exact⟨.num,single 15 .num (by rw[gL];omega) (by simp[CE.pt]) hk hr⟩
  split at h
  ·rename_i hn
   injection h with h;subst h
   refine⟨.truth,single 16 .truth (bq hn) (by simp[CE.pt]) ?_ hr⟩;have:=iq hn
   simpa [CE.ok] using this
  split at h
  ·rename_i hn
   injection h with h;subst h
   refine⟨.res,single 17 .res (bq hn.2) (by simp[CE.pt]) ?_ hr⟩;have:=iq hn.2;exact⟨hn.1,by simpa using this⟩
  split at h
  ·rename_i hn
   obtain⟨b,h1,h⟩:=bP h
   injection h with h;subst h
   have z1:=(aD _ _ _).zero hr;obtain⟨g1,i1,u1⟩:=iN hE (bq hn);have hx:=iq hn;obtain⟨e2,g2,i2,o2,w2⟩:=ih _ _ _ h1 ((aF _ _ _).zero z1);obtain⟨g3,i3,k3,u3,y3⟩:=iC hE z1;have G:=(g1.append g2).append g3;generalize aA toks [[41]] b.2=m3 at *;generalize ay toks st=m1 at *;have L1:=g1.len;have L2:=g2.len;have U1:=g1.used;have U2:=g2.used;have U3:=g3.used;have C1:=g1.clause;simp only[dU,bJ,PT.nd,PT.lv,Nat.add_zero] at L1 L2 U1 U2 U3;refine⟨.group e2,G.res (l:=[.leaf,e2.pt,.leaf]) ?_ (by simp[CE.pt]) ?_ hr (fun _=>by omega)⟩
   ·have p2:=e2.pt.gK
    simp only[bV,PT.nd,List.cons.injEq,and_true]
    refine⟨?_,?_,?_⟩<;>omega
   ·refine⟨by simpa using hx,?_⟩
    rw[C1,U1] at o2;exact o2
  split at h
  ·rename_i hk
   have q:=ih _ _ _ h hr;exact q hk
  ·injection h with h;subst h
   exact(pY (by decide) hr).elim
 | g+1,.name nest,st,r,h,hr=>by
  have ih:=jM toks hE d g;have ex:=aP toks d g;rw[run] at h;intro hk1
  ·obtain⟨g1,i1,u1⟩:=iN hE (st:=st) (by omega)
   have L1:=g1.len;have U1:=g1.used;have C1:=g1.clause;simp only[dU,bJ,PT.nd,PT.lv,Nat.add_zero] at L1 U1;generalize ay toks st=m1 at *
   split at h
   ·injection h with h;subst h
    refine⟨.Nw,g1.res (l:=[.leaf]) ?_ (by simp[CE.pt]) hk1 hr (fun _=>by omega)⟩;rw[i1];simp only[bV,PT.nd,List.cons.injEq,and_true];omega
   ·rename_i hn
    have hcl:st.clause=false:=by
     rw[← C1,← Bool.not_eq_true]
     exact fun q=>hn (.inl q)
    obtain⟨l,h1,h⟩:=bP h
    injection h with h;subst h
    have z3:=(aD _ _ _).zero hr;have z2:=(aF _ _ _).zero z3
    have hone:∀ s k,run toks d g (.expr (nest+1)) s=some k→k.2.fE=0→∃ e,UK toks s k e:=fun s k hk hz=>ih _ _ _ hk hz
    obtain⟨es,hlen,g4,i4,o4,w4⟩:=NG toks hE _ (fun s k hk=>ex _ _ _ hk) hone _ _ h1 z2;obtain⟨g5,i5,k5,u5,y5⟩:=iC hE z3;have z1:=(kT toks _ (fun s k hk=>ex _ _ _ hk) _ _ h1).zero z2;obtain⟨g3,i3,k3,u3,y3⟩:=iC hE z1;generalize aA toks [[41]] l.2=m5 at *;generalize hq:mh toks m1=q at *;generalize aA toks [[40]] q.2=m3 at *;have L3:=g3.len;have L4:=g4.len;have U3:=g3.used;have U4:=g4.used;have U5:=g5.used;have C3:=g3.clause;simp only[dU,bJ,PT.nd,PT.lv,Nat.add_zero] at L3 U3 U5;unfold mh at hq
    split at hq
    ·rename_i acj
     subst hq;have hx:=iq acj;obtain⟨p1,j1,v1⟩:=iN hE (st:=m1.2) (bq acj);obtain⟨p2,j2,kk2,v2,yy2⟩:=xH hE (k:=1) (by decide) y3;simp only at g3 i3 k3 u3 L3 U3 C3;generalize aQ toks 1 (ay toks m1.2).2=n2 at *;generalize ay toks m1.2=n1 at *;have M1:=p1.len;have M2:=p2.len;have V1:=p1.used;have V2:=p2.used;have D1:=p1.clause;have D2:=p2.clause;simp only[dU,bJ,PT.nd,PT.lv,Nat.add_zero] at M1 M2 V1 V2;have G:=((((g1.append p1).append p2).append g3).append g4).append g5;refine⟨.call true es,G.res (l:=[.leaf,.leaf,.leaf]++[.leaf]++eF es++[.leaf]) ?_ (by simp[CE.pt]) ?_ hr (fun _=>by omega)⟩
     ·simp only[nE,i4,i1,i3,i5,j1,j2,mF]
      simp only[bV,dU,PT.nd,List.cons_append,List.nil_append,Nat.add_zero];rw[L4,L3,M2,M1,L1]
      have e0:∀ a b:Nat,a=b→bV a (eF es)=bV b (eF es):=fun a b h=>by rw[h]
      rw[e0 (st.nodes.length+1+1+1+1) (st.nodes.length+(1+(1+1)+1)) (by omega)];simp only[List.cons.injEq,List.append_cancel_left_eq,and_true]
      refine⟨?_,?_,?_,?_,?_⟩<;>omega
     ·refine⟨hcl,hk1,hlen,?_⟩
      rw[C3,D2,D1,C1,U3,V2,V1,U1] at o4;rw[V1,U1] at kk2;rw[U1] at hx;exact⟨by simpa using hx,kk2,o4⟩
    ·subst hq
     simp only at g3 i3 k3 u3 L3 U3 C3;have G:=((g1.append g3).append g4).append g5;refine⟨.call false es,G.res (l:=[.leaf]++[.leaf]++eF es++[.leaf]) ?_ (by simp[CE.pt]) ?_ hr (fun _=>by omega)⟩
     ·simp only[nE,i4,i1,i3,i5,mF]
      simp only[bV,dU,PT.nd,List.cons_append,List.nil_append,Nat.add_zero];rw[L4,L3,L1]
      have e0:∀ a b:Nat,a=b→bV a (eF es)=bV b (eF es):=fun a b h=>by rw[h]
      rw[e0 (st.nodes.length+1+1) (st.nodes.length+(1+1)) (by omega)];simp only[List.cons.injEq,List.append_cancel_left_eq,and_true]
      refine⟨?_,?_,?_⟩<;>omega
     ·refine⟨hcl,hk1,hlen,?_⟩
      rw[C3,C1,U3,U1] at o4;rw[U1] at k3;exact⟨by simpa using k3,o4⟩
end Go.Proofs.YtknicmmigbhpcaaGreatDoor
