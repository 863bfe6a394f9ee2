/- Walks and plain laws: ParseLaws1, ParseTree, TreePlain, TreeLaws. -/
import Derived.Test.YtknicmmigbhpcaaGreatDoorF01
set_option maxHeartbeats 16000000
set_option maxRecDepth 100000
set_option linter.unusedVariables false
set_option linter.unusedSimpArgs false
namespace Go.Proofs.YtknicmmigbhpcaaGreatDoor
def dB (a b:aB):Prop:=a.used≤b.used∧(a.fE≠0→b.fE=a.fE)∧b.clause=a.clause∧a.nodes.length≤b.nodes.length
theorem dB.refl (a:aB):dB a a:=⟨Nat.le_refl _,fun _=>rfl,rfl,Nat.le_refl _⟩
theorem dB.trans {a b c:aB}(h:dB a b)(k:dB b c):dB a c :=
 ⟨Nat.le_trans h.1 k.1,fun q=>by have h1:=h.2.1 q;rw[k.2.1 (by rw[h1];exact q),h1],k.2.2.1.trans h.2.2.1,Nat.le_trans h.2.2.2 k.2.2.2⟩
theorem dB.zero {a b:aB}(h:dB a b)(hb:b.fE=0):a.fE=0:=by
 apply Classical.byContradiction
 intro q;exact q (by rw[← h.2.1 q];exact hb)
theorem ow (toks:List Tok)(e:Nat)(st:aB):dB st (gG toks e st):=by
 unfold gG
 split
 ·rename_i h;exact⟨Nat.le_refl _,fun q=>absurd h q,rfl,Nat.le_refl _⟩
 ·exact dB.refl _
theorem aI (toks:List Tok)(st:aB):dB st (ay toks st).2:=by
 unfold ay
 split
 ·exact dB.refl _
 ·exact⟨Nat.le_succ _,fun _=>rfl,rfl,by simp⟩
theorem U6 (k:Int)(l:List Int)(st:aB):dB st (EH k l st).2:=by
 unfold EH
 split
 ·exact dB.refl _
 ·exact⟨Nat.le_refl _,fun _=>rfl,rfl,by simp⟩
theorem aD (k:Int)(l:List Int)(st:aB):dB st (bg k l st).2:=by
 unfold bg
 split
 ·exact U6 _ _ _
 ·exact dB.refl _
theorem aF (toks:List Tok)(l:List (List UInt8))(st:aB):dB st (aA toks l st).2:=by
 unfold aA
 split
 ·exact aI _ _
 ·exact ow _ _ _
theorem dZ (toks:List Tok)(k:Nat)(st:aB):dB st (aQ toks k st).2:=by
 unfold aQ
 split
 ·exact aI _ _
 ·exact ow _ _ _
theorem eU (toks:List Tok)(d n:Nat)(st:aB):dB st (aN toks d n st):=by
 unfold aN
 split
 ·exact ow _ _ _
 ·exact dB.refl _
theorem yX (toks:List Tok)(a:Int × aB):dB a.2 (mh toks a).2:=by
 unfold mh
 split
 ·exact(aI _ _).trans (dZ _ _ _)
 ·exact dB.refl _
theorem lH (toks:List Tok)(one:aB→Option (Int × aB))(h1:∀ s k,one s=some k→dB s k.2):∀ (r:Nat) (kids:List Int) (st:aB) (l:List Int × aB),aU toks one r kids st=some l→dB st l.2
 | 0,kids,st,l,h=>by
  rw[aU] at h
  injection h with h
  subst h;show dB st (if st.fE=0 then gG toks 15 st else st)
  split
  ·exact ow _ _ _
  ·exact dB.refl _
 | r+1,kids,st,l,h=>by
  rw[aU] at h
  split at h
  ·injection h with h;subst h;exact dB.refl _
  ·obtain⟨k,hk,h⟩:=bP h
   have:=h1 _ _ hk
   split at h
   ·exact(this.trans (aI _ _)).trans (lH toks one h1 r _ _ _ h)
   ·injection h with h;subst h;exact this
theorem kT (toks:List Tok)(one:aB→Option (Int × aB))(h1:∀ s k,one s=some k→dB s k.2)(st:aB)(l:List Int × aB)(h:jq toks one st=some l):dB st l.2:=by
 unfold jq at h
 split at h
 ·injection h with h;subst h;exact dB.refl _
 ·exact lH toks one h1 _ _ _ _ h
theorem aP (toks:List Tok)(depth:Nat):∀ (g:Nat) (t:Task) (st:aB) (r:Int × aB),run toks depth g t st=some r→dB st r.2
 | 0,_,_,_,h=>by rw[run] at h;cases h
 | g+1,.expr nest,st,r,h=>by
  have ih:=aP toks depth g;rw[run] at h;have hd:=eU toks depth nest st;generalize aN toks depth nest st=s at h hd
  split at h
  ·injection h with h;subst h;exact hd
  split at h
  ·exact hd.trans (ih _ _ _ h)
  split at h
  ·obtain⟨d,h1,h⟩:=bP h
   obtain⟨f,h2,h⟩:=bP h
   injection h with h;subst h
   exact(((((hd.trans (aI _ _)).trans (dZ _ _ _)).trans (aF _ _ _)).trans (ih _ _ _ h1)).trans (aF _ _ _)).trans ((ih _ _ _ h2).trans (aD _ _ _))
  split at h
  ·obtain⟨b,h1,h⟩:=bP h
   obtain⟨d,h2,h⟩:=bP h;obtain⟨f,h3,h⟩:=bP h
   injection h with h;subst h
   exact(((((hd.trans (aI _ _)).trans (ih _ _ _ h1)).trans (aF _ _ _)).trans (ih _ _ _ h2)).trans (aF _ _ _)).trans ((ih _ _ _ h3).trans (aD _ _ _))
  split at h
  ·obtain⟨b,h1,h⟩:=bP h
   obtain⟨d,h2,h⟩:=bP h
   injection h with h;subst h
   exact(((hd.trans (aI _ _)).trans (ih _ _ _ h1)).trans (aF _ _ _)).trans ((ih _ _ _ h2).trans (aD _ _ _))
  ·exact hd.trans (ih _ _ _ h)
 | g+1,.formula nest,st,r,h=>by
  have ih:=aP toks depth g;rw[run] at h;obtain⟨a,h1,h⟩:=bP h;have ha:=ih _ _ _ h1
  split at h
  ·have hd:=(ha.trans (aI toks a.2)).trans (eU toks depth (nest+1) _)
   split at h
   ·injection h with h;subst h;exact hd
   ·obtain⟨b,h2,h⟩:=bP h
    injection h with h;subst h
    exact(hd.trans (ih _ _ _ h2)).trans (aD _ _ _)
  ·injection h with h;subst h;exact ha
 | g+1,.part l nest,st,r,h=>by
  have ih:=aP toks depth g;rw[run] at h
  split at h
  ·exact ih _ _ _ h
  ·split at h
   ·exact ih _ _ _ h
   ·exact ih _ _ _ h
 | g+1,.row l nest,st,r,h=>by
  have ih:=aP toks depth g;rw[run] at h;obtain⟨a,h1,h⟩:=bP h;exact(ih _ _ _ h1).trans (ih _ _ _ h)
 | g+1,.loop l nest a,st,r,h=>by
  have ih:=aP toks depth g;rw[run] at h
  split at h
  ·obtain⟨b,h1,h⟩:=bP h
   have hb:=((aI toks st).trans (ih _ _ _ h1)).trans (aD 10 [a,(ay toks st).1,b.1] _)
   split at h
   ·injection h with h;subst h;exact hb
   ·exact hb.trans (ih _ _ _ h)
  ·injection h with h;subst h;exact dB.refl _
 | g+1,.neg nest,st,r,h=>by
  have ih:=aP toks depth g;rw[run] at h
  split at h
  ·have hd:=(aI toks st).trans (eU toks depth (nest+1) _)
   split at h
   ·injection h with h;subst h;exact hd
   ·obtain⟨b,h2,h⟩:=bP h
    injection h with h;subst h
    exact(hd.trans (ih _ _ _ h2)).trans (aD _ _ _)
  ·exact ih _ _ _ h
 | g+1,.factor nest,st,r,h=>by
  have ih:=aP toks depth g;rw[run] at h
  split at h
  ·have hd:=(aI toks st).trans (eU toks depth (nest+1) _)
   split at h
   ·injection h with h;subst h;exact hd
   ·obtain⟨b,h2,h⟩:=bP h
    injection h with h;subst h
    exact(hd.trans (ih _ _ _ h2)).trans (aD _ _ _)
  ·exact ih _ _ _ h
 | g+1,.atom nest,st,r,h=>by
  have ih:=aP toks depth g;rw[run] at h
  split at h
  ·injection h with h;subst h;exact dB.refl _
  split at h
  ·injection h with h;subst h;exact(aI _ _).trans (aD _ _ _)
  split at h
  ·injection h with h;subst h;exact(aI _ _).trans (aD _ _ _)
  split at h
  ·injection h with h;subst h;exact(aI _ _).trans (aD _ _ _)
  split at h
  ·obtain⟨b,h1,h⟩:=bP h
   injection h with h;subst h
   exact(((aI _ _).trans (ih _ _ _ h1)).trans (aF _ _ _)).trans (aD _ _ _)
  split at h
  ·exact ih _ _ _ h
  ·injection h with h;subst h;exact ow _ _ _
 | g+1,.name nest,st,r,h=>by
  have ih:=aP toks depth g;rw[run] at h
  split at h
  ·injection h with h;subst h;exact(aI _ _).trans (aD _ _ _)
  ·obtain⟨l,h1,h⟩:=bP h
   injection h with h;subst h
   exact((((aI _ _).trans (yX _ _)).trans (aF _ _ _)).trans (kT toks _ (fun s k hk=>ih _ _ _ hk) _ _ h1)).trans ((aF _ _ _).trans (aD _ _ _))
def gV (toks:List Tok):Prop:=(bU toks toks.length).kind=5
theorem gV.pos {toks:List Tok}(h:gV toks):0<toks.length:=by
 cases toks with
 | nil=>cases h
 | cons t l=>simp
theorem gV.before {toks:List Tok}(h:gV toks){u:Nat}(hu:(bU toks u).kind≠5):u+1<toks.length:=by
 apply Classical.byContradiction
 intro q
 apply hu
 have hp:=h.pos;rw[gV] at h;unfold bU at h ⊢;rw[show min u (toks.length - 1)=min toks.length (toks.length - 1) by omega];exact h
theorem bq {toks:List Tok}{st:aB}{l:List (List UInt8)}(h:aV toks st l=true):(bU toks st.used).kind≠5:=by
 simp only[aV,Bool.and_eq_true,Bool.or_eq_true,beq_iff_eq] at h;omega
theorem Nv {toks:List Tok}{st:aB}(h:st.used+1<toks.length):ay toks st=(((st.nodes.length:Nat):Int),{ st with nodes:=st.nodes++[⟨19,(st.used:Nat),[]⟩],used:=st.used+1 }):=by
 unfold ay;rw[if_neg (by omega)]
theorem jy {toks:List Tok}(hE:gV toks){st:aB}(h:(bU toks st.used).kind≠5):(ay toks st).2.used=st.used+1∧st.used+1<toks.length:=by
 have:=hE.before h;rw[Nv this];exact⟨rfl,this⟩
def jr:Task→Nat
 | .expr _=>18
 | .formula _=>17
 | .row l _=>if l≤1 then 16 - 2 * l else 15 - 2 * l
 | .part l _=>if l≤1 then 15 - 2 * l else 14 - 2 * l
 | .neg _=>12
 | .factor _=>5
 | .atom _=>4
 | .name _=>3
 | .loop _ _ _=>1
def YN (toks:List Tok)(st:aB):Task→Prop
 | .row l _=>l≤4
 | .part l _=>l≤4
 | .loop l _ _=>l≤4
 | .name _=>st.used<toks.length
 | _=>True
def eG (toks:List Tok)(t:Task)(st:aB):Nat:=20 * (toks.length - st.used)+jr t
theorem lI {toks:List Tok}{e:Nat}(he:e≠0)(st:aB):(gG toks e st).fE≠0:=by
 unfold gG
 split
 ·exact he
 ·assumption
theorem RD {toks:List Tok}(hE:gV toks)(l:List (List UInt8))(st:aB):st.used+1≤(aA toks l st).2.used∨(aA toks l st).2.fE≠0:=by
 unfold aA
 split
 ·rename_i h
  have:=(jy hE (bq h.2)).1;exact .inl (by rw[this];exact Nat.le_refl _)
 ·exact .inr (lI (by decide) st)
theorem oJ (toks:List Tok)(one:aB→Option (Int × aB))(base:Nat)(h1:∀ s,base≤s.used→∃ k,one s=some k∧dB s k.2):∀ (r:Nat) (kids:List Int) (st:aB),base≤st.used∨st.fE≠0→∃ l,aU toks one r kids st=some l
 | 0,kids,st,_=>⟨_,rfl⟩
 | r+1,kids,st,hb=>by
  rw[aU]
  split
  ·exact⟨_,rfl⟩
  ·rename_i hf
   obtain⟨k,hk,hx⟩:=h1 st (hb.resolve_right hf);rw[hk];simp only[Option.bind_some]
   split
   ·exact oJ toks one base h1 r _ _ (.inl (Nat.le_trans (hb.resolve_right hf) (Nat.le_trans hx.1 (aI toks k.2).1)))
   ·exact⟨_,rfl⟩
theorem jA (toks:List Tok)(depth:Nat)(hE:gV toks):∀ (g:Nat) (t:Task) (st:aB),YN toks st t→eG toks t st≤g→∃ r,run toks depth g t st=some r
 | 0,t,st,_,h=>by
  exfalso
  have:1≤jr t:=by
   cases t<;>simp only[jr]<;>first|omega|(simp only[YN] at *;split<;>omega)
  unfold eG at h;omega
 | g+1,.expr nest,st,_,h=>by
  have ih:=jA toks depth hE g;rw[run];have hd:=eU toks depth nest st;generalize aN toks depth nest st=s at hd;have hu:=hd.1;simp only[eG,jr] at h
  split
  ·exact⟨_,rfl⟩
  split
  ·exact ih _ _ trivial (by simp only[eG,jr];omega)
  split
  ·rename_i hn
   obtain⟨e1,e2⟩:=jy hE (bq hn);have x1:=(dZ toks 1 (ay toks s).2).1;have x2:=(aF toks [[61]] (aQ toks 1 (ay toks s).2).2).1;obtain⟨d,hd1⟩:=ih (.expr (nest+1)) (aA toks [[61]] (aQ toks 1 (ay toks s).2).2).2 trivial (by simp only[eG,jr];omega);have x3:=(aP toks depth g _ _ _ hd1).1;have x4:=(aF toks [UJ] d.2).1;obtain⟨f,hf⟩:=ih (.expr (nest+1)) (aA toks [UJ] d.2).2 trivial (by simp only[eG,jr];omega);rw[hd1,Option.bind_some,hf,Option.bind_some];exact⟨_,rfl⟩
  split
  ·rename_i hn
   obtain⟨e1,e2⟩:=jy hE (bq hn);obtain⟨b,hb⟩:=ih (.expr (nest+1)) (ay toks s).2 trivial (by simp only[eG,jr];omega);have x3:=(aP toks depth g _ _ _ hb).1;have x4:=(aF toks [Fw] b.2).1;obtain⟨d,hd1⟩:=ih (.expr (nest+1)) (aA toks [Fw] b.2).2 trivial (by simp only[eG,jr];omega);have x5:=(aP toks depth g _ _ _ hd1).1;have x6:=(aF toks [Fx] d.2).1;obtain⟨f,hf⟩:=ih (.expr (nest+1)) (aA toks [Fx] d.2).2 trivial (by simp only[eG,jr];omega);rw[hb,Option.bind_some,hd1,Option.bind_some,hf,Option.bind_some];exact⟨_,rfl⟩
  split
  ·rename_i hn
   obtain⟨e1,e2⟩:=jy hE (bq hn);obtain⟨b,hb⟩:=ih (.expr (nest+1)) (ay toks s).2 trivial (by simp only[eG,jr];omega);have x3:=(aP toks depth g _ _ _ hb).1;have x4:=(aF toks [UJ] b.2).1;obtain⟨d,hd1⟩:=ih (.expr (nest+1)) (aA toks [UJ] b.2).2 trivial (by simp only[eG,jr];omega);rw[hb,Option.bind_some,hd1,Option.bind_some];exact⟨_,rfl⟩
  ·exact ih _ _ trivial (by simp only[eG,jr];omega)
 | g+1,.formula nest,st,_,h=>by
  have ih:=jA toks depth hE g;rw[run];simp only[eG,jr] at h;obtain⟨a,ha⟩:=ih (.row 0 nest) st (by simp[YN]) (by simp only[eG,jr];simp;omega);have x1:=(aP toks depth g _ _ _ ha).1;rw[ha,Option.bind_some]
  split
  ·rename_i hn
   obtain⟨e1,e2⟩:=jy hE (bq hn.2);have x2:=(eU toks depth (nest+1) (ay toks a.2).2).1
   split
   ·exact⟨_,rfl⟩
   ·obtain⟨b,hb⟩:=ih (.formula (nest+1)) (aN toks depth (nest+1) (ay toks a.2).2) trivial (by simp only[eG,jr];omega)
    rw[hb,Option.bind_some];exact⟨_,rfl⟩
  ·exact⟨_,rfl⟩
 | g+1,.part l nest,st,hl,h=>by
  have ih:=jA toks depth hE g;rw[run];simp only[eG,jr] at h;simp only[YN] at hl
  split
  ·rename_i h1;subst h1
   exact ih _ _ trivial (by simp only[eG,jr];simp at h;omega)
  ·split
   ·rename_i h4;subst h4
    exact ih _ _ trivial (by simp only[eG,jr];simp at h;omega)
   ·refine ih _ _ (by simp only[YN];omega) ?_
    simp only[eG,jr]
    split at h
    ·obtain rfl:l=0:=by omega
     simp;omega
    ·rw[if_neg (by omega)];omega
 | g+1,.row l nest,st,hl,h=>by
  have ih:=jA toks depth hE g;rw[run];simp only[eG,jr] at h;simp only[YN] at hl;obtain⟨a,ha⟩:=ih (.part l nest) st hl (by simp only[eG,jr];split at h<;>split<;>omega);have x1:=(aP toks depth g _ _ _ ha).1;rw[ha,Option.bind_some];refine ih _ _ hl ?_;simp only[eG,jr]
  split at h<;>omega
 | g+1,.loop l nest a,st,hl,h=>by
  have ih:=jA toks depth hE g;rw[run];simp only[eG,jr] at h;simp only[YN] at hl
  split
  ·rename_i hn
   obtain⟨e1,e2⟩:=jy hE (bq hn.2);obtain⟨b,hb⟩:=ih (.part l nest) (ay toks st).2 hl (by simp only[eG,jr];split<;>omega);have x1:=(aP toks depth g _ _ _ hb).1;have x2:=(aD 10 [a,(ay toks st).1,b.1] b.2).1;rw[hb,Option.bind_some]
   split
   ·exact⟨_,rfl⟩
   ·exact ih _ _ hl (by simp only[eG,jr];omega)
  ·exact⟨_,rfl⟩
 | g+1,.neg nest,st,_,h=>by
  have ih:=jA toks depth hE g;rw[run];simp only[eG,jr] at h
  split
  ·rename_i hn
   obtain⟨e1,e2⟩:=jy hE (bq hn.2);have x2:=(eU toks depth (nest+1) (ay toks st).2).1
   split
   ·exact⟨_,rfl⟩
   ·obtain⟨b,hb⟩:=ih (.neg (nest+1)) (aN toks depth (nest+1) (ay toks st).2) trivial (by simp only[eG,jr];omega)
    rw[hb,Option.bind_some];exact⟨_,rfl⟩
  ·exact ih _ _ (by simp[YN]) (by simp only[eG,jr];simp;omega)
 | g+1,.factor nest,st,_,h=>by
  have ih:=jA toks depth hE g;rw[run];simp only[eG,jr] at h
  split
  ·rename_i hn
   obtain⟨e1,e2⟩:=jy hE (bq hn.2);have x2:=(eU toks depth (nest+1) (ay toks st).2).1
   split
   ·exact⟨_,rfl⟩
   ·obtain⟨b,hb⟩:=ih (.factor (nest+1)) (aN toks depth (nest+1) (ay toks st).2) trivial (by simp only[eG,jr];omega)
    rw[hb,Option.bind_some];exact⟨_,rfl⟩
  ·exact ih _ _ trivial (by simp only[eG,jr];omega)
 | g+1,.atom nest,st,_,h=>by
  have ih:=jA toks depth hE g;rw[run];simp only[eG,jr] at h
  split
  ·exact⟨_,rfl⟩
  split
  ·exact⟨_,rfl⟩
  split
  ·exact⟨_,rfl⟩
  split
  ·exact⟨_,rfl⟩
  split
  ·rename_i hn
   obtain⟨e1,e2⟩:=jy hE (bq hn);obtain⟨b,hb⟩:=ih (.expr (nest+1)) (ay toks st).2 trivial (by simp only[eG,jr];omega);rw[hb,Option.bind_some];exact⟨_,rfl⟩
  split
  ·rename_i hk
   have:=hE.before (u:=st.used) (by omega);exact ih _ _ (by simp only[YN];omega) (by simp only[eG,jr];omega)
  ·exact⟨_,rfl⟩
 | g+1,.name nest,st,hl0,h=>by
  have ih:=jA toks depth hE g;rw[run];simp only[eG,jr] at h
  split
  ·exact⟨_,rfl⟩
  ·have x1:=(aI toks st).1
   have x2:=(yX toks (ay toks st)).1;have x3:=RD hE [[40]] (mh toks (ay toks st)).2;generalize (aA toks [[40]] (mh toks (ay toks st)).2)=b at x3
   have hl:∃ l,jq toks (fun s=>run toks depth g (.expr (nest+1)) s) b.2=some l:=by
    unfold jq
    split
    ·exact⟨_,rfl⟩
    ·refine oJ toks _ (st.used+1) (fun s hs=>?_) _ _ _ (x3.imp (by omega) id)
     have hlt:st.used<toks.length:=hl0;obtain⟨k,hk⟩:=ih (.expr (nest+1)) s trivial (by simp only[eG,jr];omega);exact⟨k,hk,aP toks depth g _ _ _ hk⟩
   obtain⟨l,hl⟩:=hl;rw[hl,Option.bind_some];exact⟨_,rfl⟩
inductive PT where
 | leaf
 | node (k:Nat) (l:List PT)
mutual
def PT.lv:PT→Nat
 | .leaf=>1
 | .node _ l=>bJ l
def bJ:List PT→Nat
 | []=>0
 | t :: l=>t.lv+bJ l
end
mutual
def PT.nd:PT→Nat
 | .leaf=>1
 | .node _ l=>dU l+1
def dU:List PT→Nat
 | []=>0
 | t :: l=>t.nd+dU l
end
def bV (b:Nat):List PT→List Int
 | []=>[]
 | t :: l=>(((b+t.nd:Nat):Int) - 1) :: bV (b+t.nd) l
mutual
def PT.em (b u:Nat):PT→List Nd
 | .leaf=>[⟨19,(u:Nat),[]⟩]
 | .node k l=>xu b u l++[⟨k,-1,bV b l⟩]
def xu (b u:Nat):List PT→List Nd
 | []=>[]
 | t :: l=>t.em b u++xu (b+t.nd) (u+t.lv) l
end
theorem iI:∀ (l k:List PT),bJ (l++k)=bJ l+bJ k
 | [],k=>by simp[bJ]
 | t :: l,k=>by simp only[List.cons_append,bJ,iI l k];omega
theorem mF:∀ (l k:List PT),dU (l++k)=dU l+dU k
 | [],k=>by simp[dU]
 | t :: l,k=>by simp only[List.cons_append,dU,mF l k];omega
theorem nE:∀ (b:Nat) (l k:List PT),bV b (l++k)=bV b l++bV (b+dU l) k
 | b,[],k=>by simp[bV,dU]
 | b,t :: l,k=>by simp only[List.cons_append,bV,nE _ l k,dU];rw[Nat.add_assoc]
theorem BH:∀ (b u:Nat) (l k:List PT),xu b u (l++k)=xu b u l++xu (b+dU l) (u+bJ l) k
 | b,u,[],k=>by simp[xu,dU,bJ]
 | b,u,t :: l,k=>by simp only[List.cons_append,xu,BH _ _ l k,dU,bJ,List.append_assoc];rw[Nat.add_assoc,Nat.add_assoc]
mutual
theorem PT.rO (b u:Nat):∀ (t:PT),(t.em b u).length=t.nd
 | .leaf=>by simp[PT.em,PT.nd]
 | .node k l=>by simp[PT.em,PT.nd,xw b u l]
theorem xw (b u:Nat):∀ (l:List PT),(xu b u l).length=dU l
 | []=>by simp[xu,dU]
 | t :: l=>by rw[xu,dU,bC,PT.rO b u t,xw _ _ l]
end
theorem PT.gK (t:PT):0<t.nd:=by cases t<;>simp[PT.nd]
theorem wu:∀ (b:Nat) (l:List PT) (k:Int),k∈bV b l→(b:Int)≤k∧k<((b+dU l:Nat):Int)
 | _,[],k,h=>by cases h
 | b,t :: l,k,h=>by
  have hp:=t.gK;rw[bV,List.mem_cons] at h;rw[dU]
  rcases h with rfl|h
  ·omega
  ·have:=wu _ l k h
   omega
def eD (st:aB)(l:List PT)(st':aB):Prop:=st'={ st with nodes:=st.nodes++xu st.nodes.length st.used l,used:=st.used+bJ l }
theorem eD.nil (st:aB):eD st [] st:=by simp[eD,xu,bJ]
theorem eD.append {a b c:aB}{l k:List PT}(h:eD a l b)(h2:eD b k c):eD a (l++k) c:=by
 rw[eD] at h h2 ⊢;rw[h2,h];simp only[bC,xw,BH,iI,List.append_assoc,Nat.add_assoc]
theorem eD.len {a b:aB}{l:List PT}(h:eD a l b):b.nodes.length=a.nodes.length+dU l:=by rw[h];simp[xw]
theorem eD.used {a b:aB}{l:List PT}(h:eD a l b):b.used=a.used+bJ l:=by rw[h]
theorem eD.clause {a b:aB}{l:List PT}(h:eD a l b):b.clause=a.clause:=by rw[h]
theorem eD.fE {a b:aB}{l:List PT}(h:eD a l b):b.fE=a.fE:=by rw[h]
theorem eD.leaf {toks:List Tok}{st:aB}(h:st.used+1≤toks.length):eD st [.leaf] (ay toks st).2∧(ay toks st).1=((st.nodes.length:Nat):Int):=by
 unfold ay;rw[if_neg (by omega)];exact⟨by simp[eD,xu,PT.em,bJ,PT.lv],rfl⟩
theorem eD.node {a b:aB}{l:List PT}(h:eD a l b)(hf:b.fE=0)(k:Nat):eD a [.node k l] (bg k (bV a.nodes.length l) b).2∧(bg k (bV a.nodes.length l) b).1=((a.nodes.length+dU l:Nat):Int):=by
 have hlen:=h.len;unfold bg;rw[if_pos hf];unfold EH;rw[if_neg]
 ·refine⟨?_,by rw[hlen]⟩
  rw[eD] at h ⊢;rw[h];simp[xu,PT.em,bJ,PT.lv]
 ·intro q
  obtain⟨x,hx,hy⟩:=List.any_eq_true.1 q;have:=wu _ _ _ hx;simp only[Bool.or_eq_true,decide_eq_true_eq] at hy;omega
inductive CE where
 | num|truth|res|Nw
 | group (e:CE)
 | un (e:CE)
 | bin (a b:CE)
 | iff (a b c:CE)
 | qH (a b:CE)
 | qI (a b:CE)
 | call (q:Bool) (l:List CE)
mutual
def CE.pt:CE→PT
 | .num=>.node 15 [.leaf]
 | .truth=>.node 16 [.leaf]
 | .res=>.node 17 [.leaf]
 | .Nw=>.node 14 [.leaf]
 | .group e=>.node 12 [.leaf,e.pt,.leaf]
 | .un e=>.node 11 [.leaf,e.pt]
 | .bin a b=>.node 10 [a.pt,.leaf,b.pt]
 | .iff a b c=>.node 8 [.leaf,a.pt,.leaf,b.pt,.leaf,c.pt]
 | .qH a b=>.node 7 [.leaf,.leaf,.leaf,a.pt,.leaf,b.pt]
 | .qI a b=>.node 9 [.leaf,a.pt,.leaf,b.pt]
 | .call q l=>.node 13 ((if q then [.leaf,.leaf,.leaf] else [.leaf])++[.leaf]++eF l++[.leaf])
def eF:List CE→List PT
 | []=>[]
 | e :: l=>e.pt :: (match l with | []=>[]|_ :: _=>.leaf :: eF l)
end
theorem rP (e:CE):eF [e]=[e.pt]:=by simp[eF]
theorem mG (e f:CE)(l:List CE):eF (e :: f :: l)=e.pt :: .leaf :: eF (f :: l):=by
 conv=>lhs;rw[eF]
def aH (toks:List Tok)(u:Nat):List UInt8:=(bU toks u).text
def gL (toks:List Tok)(u:Nat):Nat:=(bU toks u).kind
def oK:List (List UInt8):=[[43],[45],[42],[47],[37],[61],[60,62],[60],[60,61],[62],[62,61],[38,38],[124,124],[61,62]]
mutual
def CE.ok (toks:List Tok)(cl:Bool)(u:Nat):CE→Prop
 | .num=>gL toks u=3
 | .truth=>aH toks u=Qt∨aH toks u=Nu
 | .res=>cl=true∧aH toks u=aaW
 | .Nw=>gL toks u=1
 | .group e=>aH toks u=[40]∧e.ok toks cl (u+1)
 | .un e=>(aH toks u=YM∨aH toks u=[45])∧e.ok toks cl (u+1)
 | .bin a b=>aH toks (u+a.pt.lv)∈oK∧a.ok toks cl u∧b.ok toks cl (u+a.pt.lv+1)
 | .iff a b c=>cl=false∧a.ok toks cl (u+1)∧b.ok toks cl (u+1+a.pt.lv+1)∧c.ok toks cl (u+1+a.pt.lv+1+b.pt.lv+1)
 | .qH a b=>cl=false∧gL toks (u+1)=1∧a.ok toks cl (u+3)∧b.ok toks cl (u+3+a.pt.lv+1)
 | .qI a b=>cl=false∧a.ok toks cl (u+1)∧b.ok toks cl (u+1+a.pt.lv+1)
 | .call q l=>cl=false∧gL toks u=1∧l.length≤8∧(if q then aH toks (u+1)=[46]∧gL toks (u+2)=1∧nS toks cl (u+4) l else aH toks (u+1)=[40]∧nS toks cl (u+2) l)
def nS (toks:List Tok)(cl:Bool)(u:Nat):List CE→Prop
 | []=>True
 | e :: l=>e.ok toks cl u∧nS toks cl (u+e.pt.lv+1) l
end
def UK (toks:List Tok)(st:aB)(r:Int × aB)(e:CE):Prop :=
 eD st [e.pt] r.2∧r.1=((st.nodes.length+e.pt.nd:Nat):Int) - 1∧e.ok toks st.clause st.used∧(st.used<toks.length→r.2.used<toks.length)
def iM (nt i:Nat)(n:Nd):Bool :=
 if n.kind<1∨19<n.kind then false
 else if n.kind=19 then decide (n.kids.length=0) && (decide (0≤n.tok) && decide (n.tok<nt))
 else decide (n.tok=-1) && !(n.kids.any fun k=>decide (k<0) || decide ((i:Int)≤k))
def xA:List Bool→List Int→Option (List Bool)
 | kid,[]=>some kid
 | kid,k :: ks=>if kid.getD k.toNat false=true then none else xA (kid.set k.toNat true) ks
def lJ (nt:Nat):Nat→List Nd→List Bool→Option (List Bool)
 | _,[],kid=>some kid
 | i,n :: l,kid=>if iM nt i n=true then (xA kid n.kids).bind (lJ nt (i+1) l) else none
def fA (nodes:List Nd):Nat→List Int→List Int→Option (List Int)
 | 0,_,_=>none
 | _+1,[],out=>some out
 | g+1,i :: rest,out =>
  if i<0 then none
  else match nodes[i.toNat]? with
   | none=>none
   | some x=>if x.kind=19 then fA nodes g rest (out++[x.tok]) else if 549755813888<(x.kids++rest).length then none else fA nodes g (x.kids++rest) out
def mY:Nat→List Int→Bool
 | _,[]=>true
 | i,k :: l=>decide ((i:Int)=k) && mY (i+1) l
def oL (nt:Nat)(nodes:List Nd):Option (List Bool):=lJ nt 0 nodes (List.replicate nodes.length false)
def kE (nt:Nat)(nodes:List Nd)(l:List Int):Bool :=
 match oL nt nodes with
 | none=>false
 | some kid=>!(decide (kid.length=0)) && !((kid.take (nodes.length - 1)).contains false) && mY 0 l && decide (l.length=nt)
def fZ (n:Nat):List UInt8:=if h:n<10 then [UInt8.ofNat (48+n)] else fZ (n / 10)++[UInt8.ofNat (48+n % 10)]
decreasing_by omega
def nG (t:Tok):List UInt8:=(if t.kind=5 then [36] else [])++t.text
def lK (f:Int→Option (List UInt8)):List Int→Option (List UInt8)
 | []=>some []
 | k :: ks=>(f k).bind fun a=>(lK f ks).bind fun b=>some ([32]++a++b)
def sF (toks:List Tok)(nodes:List Nd):Nat→Int→Option (List UInt8)
 | 0,_=>none
 | g+1,n =>
  if n<0 then none
  else match nodes[n.toNat]? with
   | none=>none
   | some x =>
    if x.kind=19 then (if x.tok<0 then none else (toks[x.tok.toNat]?).map nG)
    else (lK (sF toks nodes g) x.kids).map fun b=>[40]++fZ x.kind.toNat++b++[41]
mutual
def PT.dump (toks:List Tok)(u:Nat):PT→List UInt8
 | .leaf=>nG (bU toks u)
 | .node k l=>[40]++fZ k++Ae toks u l++[41]
def Ae (toks:List Tok)(u:Nat):List PT→List UInt8
 | []=>[]
 | t :: l=>[32]++t.dump toks u++Ae toks (u+t.lv) l
end
mutual
def mH (nodes:List Nd)(n:Int)(u:Nat):PT→Prop
 | .leaf=>0≤n∧nodes[n.toNat]?=some ⟨19,(u:Nat),[]⟩
 | .node k l=>∃ ks,0≤n∧nodes[n.toNat]?=some ⟨k,-1,ks⟩∧eH nodes ks u l
def eH (nodes:List Nd)(ks:List Int)(u:Nat):List PT→Prop
 | []=>ks=[]
 | t :: l=>∃ k ks',ks=k :: ks'∧mH nodes k u t∧eH nodes ks' (u+t.lv) l
end
mutual
theorem mH.more {nodes more:List Nd}:∀ {t:PT} {n:Int} {u:Nat},mH nodes n u t→mH (nodes++more) n u t
 | .leaf,n,u,h=>by
  rw[mH] at h ⊢;exact⟨h.1,by rw[List.getElem?_append_left (nY h.2).1];exact h.2⟩
 | .node k l,n,u,h=>by
  rw[mH] at h ⊢;obtain⟨ks,h0,h1,h2⟩:=h;exact⟨ks,h0,by rw[List.getElem?_append_left (nY h1).1];exact h1,eH.more h2⟩
theorem eH.more {nodes more:List Nd}:∀ {l:List PT} {ks:List Int} {u:Nat},eH nodes ks u l→eH (nodes++more) ks u l
 | [],ks,u,h=>by rw[eH] at h ⊢;exact h
 | t :: l,ks,u,h=>by
  rw[eH] at h ⊢;obtain⟨k,ks',e,h1,h2⟩:=h;exact⟨k,ks',e,mH.more h1,eH.more h2⟩
end
mutual
theorem mH.em {pre:List Nd}:∀ (t:PT) (b u:Nat),pre.length=b→mH (pre++t.em b u) (((b+t.nd:Nat):Int) - 1) u t
 | .leaf,b,u,hb=>by
  rw[mH,PT.em,PT.nd];refine⟨by omega,?_⟩;rw[show ((((b+1:Nat):Int) - 1).toNat)=pre.length by omega]
  simp
 | .node k l,b,u,hb=>by
  have hl:=eH.em (pre:=pre) l b u hb
  have hn:(pre++xu b u l).length=b+dU l:=by rw[bC,xw,hb]
  rw[mH,PT.em,PT.nd,← List.append_assoc];refine⟨bV b l,by omega,?_,hl.more⟩;rw[show ((((b+(dU l+1):Nat):Int) - 1).toNat)=(pre++xu b u l).length by omega]
  simp
theorem eH.em {pre:List Nd}:∀ (l:List PT) (b u:Nat),pre.length=b→eH (pre++xu b u l) (bV b l) u l
 | [],b,u,hb=>by rw[eH,bV]
 | t :: l,b,u,hb=>by
  have h1:=mH.em (pre:=pre) t b u hb;have h2:=eH.em (pre:=pre++t.em b u) l (b+t.nd) (u+t.lv) (by rw[bC,PT.rO,hb]);rw[eH,xu,bV];refine⟨_,_,rfl,?_,?_⟩
  ·rw[← List.append_assoc];exact h1.more
  ·rw[← List.append_assoc];exact h2
end
mutual
def PT.wf:PT→Prop
 | .leaf=>True
 | .node k l=>1≤k∧k≤18∧lD l
def lD:List PT→Prop
 | []=>True
 | t :: l=>t.wf∧lD l
end
def tL (u n:Nat):List Int:=(List.range' u n).map fun (k:Nat)=>(k:Int)
theorem U7 (u n m:Nat):tL u (n+m)=tL u n++tL (u+n) m:=by
 unfold tL;rw[← List.map_append,← List.range'_append_1]
theorem xB {nodes:List Nd}:∀ {l:List PT} {ks:List Int} {u:Nat},eH nodes ks u l→ks.length=l.length∧ks.length≤dU l
 | [],ks,u,h=>by rw[eH] at h;subst h;exact⟨rfl,by simp⟩
 | t :: l,ks,u,h=>by
  rw[eH] at h;obtain⟨k,ks',rfl,_,h2⟩:=h;obtain⟨a,b⟩:=xB h2;have:=t.gK;rw[dU];simp only[dI];omega
mutual
theorem BI {nodes:List Nd}:∀ (t:PT) (n:Int) (u g:Nat) (rest out:List Int),mH nodes n u t→t.wf→rest.length+t.nd≤549755813888→fA nodes (g+t.nd) (n :: rest) out=fA nodes g rest (out++tL u t.lv)
 | .leaf,n,u,g,rest,out,h,_,_=>by
  rw[mH] at h;rw[PT.nd,fA,if_neg (by omega),h.2,PT.lv];simp only[if_true]
  rfl
 | .node k l,n,u,g,rest,out,h,hw,hs=>by
  rw[mH] at h;obtain⟨ks,h0,h1,h2⟩:=h;rw[PT.wf] at hw;obtain⟨e1,e2⟩:=xB h2;rw[PT.nd] at hs;rw[PT.nd,← Nat.add_assoc,fA,if_neg (by omega),h1,PT.lv];simp only;rw[if_neg (by omega),if_neg (by rw[bC];omega)];exact Af l ks u g rest out h2 hw.2.2 (by omega)
theorem Af {nodes:List Nd}:∀ (l:List PT) (ks:List Int) (u g:Nat) (rest out:List Int),eH nodes ks u l→lD l→rest.length+dU l≤549755813888→fA nodes (g+dU l) (ks++rest) out=fA nodes g rest (out++tL u (bJ l))
 | [],ks,u,g,rest,out,h,_,_=>by
  rw[eH] at h;subst h;simp[dU,bJ,tL]
 | t :: l,ks,u,g,rest,out,h,hw,hs=>by
  rw[eH] at h;obtain⟨k,ks',rfl,h1,h2⟩:=h;rw[lD] at hw;rw[dU] at hs;have hp:=t.gK;have hk:=(xB h2).2;rw[dU,bJ,U7,List.cons_append,show g+(t.nd+dU l)=(g+dU l)+t.nd by omega,BI t k u _ _ _ h1 hw.1 (by rw[bC];omega),Af l ks' _ g rest _ h2 hw.2 (by omega),List.append_assoc]
end
mutual
theorem JK {toks:List Tok}{nodes:List Nd}:∀ (t:PT) (n:Int) (u g:Nat),mH nodes n u t→t.wf→u+t.lv≤toks.length→sF toks nodes (g+t.nd) n=some (t.dump toks u)
 | .leaf,n,u,g,h,_,hl=>by
  rw[mH] at h;rw[PT.lv] at hl;rw[PT.nd,sF,if_neg (by omega),h.2,PT.dump];simp only[if_true];rw[if_neg (by omega),Int.toNat_natCast,bU,Nat.min_eq_left (by omega),List.getElem?_eq_getElem (by omega),List.getD_eq_getElem?_getD,List.getElem?_eq_getElem (by omega)]
  rfl
 | .node k l,n,u,g,h,hw,hl=>by
  rw[mH] at h;obtain⟨ks,h0,h1,h2⟩:=h;rw[PT.wf] at hw;rw[PT.lv] at hl;rw[PT.nd,← Nat.add_assoc,sF,if_neg (by omega),h1,PT.dump];simp only;rw[if_neg (by omega),Fy l ks u g h2 hw.2.2 hl]
  simp
theorem Fy {toks:List Tok}{nodes:List Nd}:∀ (l:List PT) (ks:List Int) (u g:Nat),eH nodes ks u l→lD l→u+bJ l≤toks.length→lK (sF toks nodes (g+dU l)) ks=some (Ae toks u l)
 | [],ks,u,g,h,_,_=>by
  rw[eH] at h;subst h;rw[lK,Ae]
 | t :: l,ks,u,g,h,hw,hl=>by
  rw[eH] at h;obtain⟨k,ks',rfl,h1,h2⟩:=h;rw[lD] at hw;rw[bJ] at hl;have e1:=JK (toks:=toks) t k u (g+dU l) h1 hw.1 (by omega);have e2:=Fy (toks:=toks) l ks' (u+t.lv) (g+t.nd) h2 hw.2 (by omega);rw[show g+dU l+t.nd=g+dU (t :: l) by rw[dU];omega] at e1;rw[show g+t.nd+dU l=g+dU (t :: l) by rw[dU];omega] at e2;rw[lK,e1,Option.bind_some,e2,Option.bind_some,Ae]
end
def BJ:List PT→List Bool
 | []=>[]
 | t :: l=>List.replicate (t.nd - 1) true++[false]++BJ l
theorem JL:∀ (l:List PT) (A R:List Bool) (b:Nat),A.length=b→xA (A++BJ l++R) (bV b l)=some (A++List.replicate (dU l) true++R)
 | [],A,R,b,_=>by simp[BJ,bV,xA,dU]
 | t :: l,A,R,b,hA=>by
  have hp:=t.gK
  have e:(((b+t.nd:Nat):Int) - 1).toNat=(A++List.replicate (t.nd - 1) true).length:=by simp;omega
  rw[bV,xA,e,BJ]
  have e2:A++(List.replicate (t.nd - 1) true++[false]++BJ l)++R=(A++List.replicate (t.nd - 1) true)++false :: (BJ l++R):=by simp
  rw[e2,if_neg (by simp),List.set_append_right _ _ (Nat.le_refl _),Nat.sub_self,List.set_cons_zero];have ih:=JL l (A++List.replicate (t.nd - 1) true++[true]) R (b+t.nd) (by simp;omega)
  have e3:A++List.replicate (t.nd - 1) true++[true]++BJ l++R=A++List.replicate (t.nd - 1) true++true :: (BJ l++R):=by simp
  rw[e3] at ih;rw[ih,dU]
  have e4:List.replicate (t.nd - 1) true++[true]=List.replicate t.nd true:=by
   conv=>rhs;rw[show t.nd=(t.nd - 1)+1 by omega,List.replicate_succ']
  congr 1
  rw[List.append_assoc A,e4,← List.replicate_append_replicate,List.append_assoc,List.append_assoc,List.append_assoc,List.append_assoc]
theorem YO (b:Nat)(l:List PT):(bV b l).any (fun k=>decide (k<0) || decide (((b+dU l:Nat):Int)≤k))=false:=by
 rw[← Bool.not_eq_true,List.any_eq_true];rintro⟨x,hx,hy⟩;have:=wu _ _ _ hx;simp only[Bool.or_eq_true,decide_eq_true_eq] at hy;omega
mutual
theorem JM (nt:Nat):∀ (t:PT) (b u:Nat) (A:List Bool) (m:Nat) (more:List Nd),t.wf→A.length=b→u+t.lv≤nt →
  lJ nt b (t.em b u++more) (A++List.replicate (t.nd+m) false)=lJ nt (b+t.nd) more (A++List.replicate (t.nd - 1) true++[false]++List.replicate m false)
 | .leaf,b,u,A,m,more,_,_,hu=>by
  rw[PT.lv] at hu;rw[PT.em,PT.nd,List.cons_append,List.nil_append,lJ,if_pos]
  ·rw[xA,Option.bind_some,Nat.add_comm 1 m,List.replicate_succ]
   simp
  ·simp[iM]
   omega
 | .node k l,b,u,A,m,more,hw,hA,hu=>by
  rw[PT.wf] at hw;rw[PT.lv] at hu;have h:=Fz nt l b u A (1+m) ([⟨k,-1,bV b l⟩]++more) hw.2.2 hA hu;rw[PT.em,PT.nd,List.append_assoc,show dU l+1+m=dU l+(1+m) by omega,h,List.cons_append,List.nil_append,lJ,if_pos]
  ·rw[JL l A _ b hA,Option.bind_some,Nat.add_comm 1 m,List.replicate_succ]
   simp[Nat.add_assoc]
  ·unfold iM
   rw[if_neg (by simp only;omega),if_neg (by simp only;omega)];simp only[YO]
   rfl
theorem Fz (nt:Nat):∀ (l:List PT) (b u:Nat) (A:List Bool) (m:Nat) (more:List Nd),lD l→A.length=b→u+bJ l≤nt →
  lJ nt b (xu b u l++more) (A++List.replicate (dU l+m) false)=lJ nt (b+dU l) more (A++BJ l++List.replicate m false)
 | [],b,u,A,m,more,_,_,_=>by simp[xu,dU,BJ]
 | t :: l,b,u,A,m,more,hw,hA,hu=>by
  rw[lD] at hw;rw[bJ] at hu;have hp:=t.gK;have h1:=JM nt t b u A (dU l+m) (xu (b+t.nd) (u+t.lv) l++more) hw.1 hA (by omega);have h2:=Fz nt l (b+t.nd) (u+t.lv) (A++List.replicate (t.nd - 1) true++[false]) m more hw.2 (by simp;omega) (by omega);rw[xu,dU,List.append_assoc,Nat.add_assoc,h1,h2,BJ,Nat.add_assoc]
  simp
end
theorem xC:∀ (n u:Nat),mY u (tL u n)=true
 | 0,u=>by simp[tL,mY]
 | n+1,u=>by
  have h:=xC n (u+1);simp only[tL,List.range'_succ,List.map_cons,mY] at h ⊢;simp[h]
theorem U8 (t:PT)(hw:t.wf)(nt:Nat)(h:t.lv=nt):kE nt (t.em 0 0) (tL 0 nt)=true:=by
 have hp:=t.gK;have h1:=JM nt t 0 0 [] 0 [] hw rfl (by omega);rw[List.append_nil,List.nil_append,Nat.add_zero,lJ] at h1
 have h2:oL nt (t.em 0 0)=some (List.replicate (t.nd - 1) true++[false]):=by
  rw[oL,PT.rO,h1];simp
 unfold kE;rw[h2];simp only[PT.rO,xC,Bool.and_true];rw[List.take_append_of_le_length (by simp),List.take_of_length_le (by simp)]
 have h3:(List.replicate (t.nd - 1) true).contains false=false:=by
  rw[← Bool.not_eq_true,List.contains_iff_mem,List.mem_replicate]
  simp
 rw[h3];simp[tL]
theorem RF (t:PT)(hw:t.wf)(h:t.nd≤549755813888):fA (t.em 0 0) (t.nd+1) [((t.nd:Nat):Int) - 1] []=some (tL 0 t.lv):=by
 have hr:=mH.em (pre:=[]) t 0 0 rfl;rw[List.nil_append,Nat.zero_add] at hr;rw[Nat.add_comm,BI t _ 0 1 [] [] hr hw (by simpa using h),fA,List.nil_append]
theorem YP (toks:List Tok)(t:PT)(hw:t.wf)(h:t.lv≤toks.length):sF toks (t.em 0 0) t.nd (((t.nd:Nat):Int) - 1)=some (t.dump toks 0):=by
 have hr:=mH.em (pre:=[]) t 0 0 rfl;rw[List.nil_append,Nat.zero_add] at hr;have:=JK (toks:=toks) t _ 0 0 hr hw (by omega);rw[Nat.zero_add] at this;exact this
mutual
theorem CE.wf:∀ e:CE,e.pt.wf
 | .num=>by simp[CE.pt,PT.wf,lD]
 | .truth=>by simp[CE.pt,PT.wf,lD]
 | .res=>by simp[CE.pt,PT.wf,lD]
 | .Nw=>by simp[CE.pt,PT.wf,lD]
 | .group e=>by simp[CE.pt,PT.wf,lD,CE.wf e]
 | .un e=>by simp[CE.pt,PT.wf,lD,CE.wf e]
 | .bin a b=>by simp[CE.pt,PT.wf,lD,CE.wf a,CE.wf b]
 | .iff a b c=>by simp[CE.pt,PT.wf,lD,CE.wf a,CE.wf b,CE.wf c]
 | .qH a b=>by simp[CE.pt,PT.wf,lD,CE.wf a,CE.wf b]
 | .qI a b=>by simp[CE.pt,PT.wf,lD,CE.wf a,CE.wf b]
 | .call q l=>by
  have h:=U9 l
  have e:∀ (a b:List PT),lD a→lD b→lD (a++b):=fun a b ha hb=>by
   induction a with
   | nil=>exact hb
   | cons x a ih=>rw[lD] at ha;rw[List.cons_append,lD];exact⟨ha.1,ih ha.2⟩
  rw[CE.pt,PT.wf];refine⟨by omega,by omega,e _ _ (e _ _ (e _ _ ?_ (by simp[lD,PT.wf])) h) (by simp[lD,PT.wf])⟩
  cases q<;>simp[lD,PT.wf]
theorem U9:∀ l:List CE,lD (eF l)
 | []=>by simp[eF,lD]
 | [e]=>by simp[eF,lD,CE.wf e]
 | e :: f :: l=>by
  rw[mG,lD,lD];exact⟨CE.wf e,by simp[PT.wf],U9 (f :: l)⟩
end
end Go.Proofs.YtknicmmigbhpcaaGreatDoor
