/- Walks and plain laws: ParseLaws1, ParseTree, TreePlain, TreeLaws. -/
import Derived.Test.YtknicmmigbhpcaaGreatDoorB01
set_option maxHeartbeats 16000000
set_option maxRecDepth 100000
set_option linter.unusedVariables false
set_option linter.unusedSimpArgs false
namespace Go.Proofs.YtknicmmigbhpcaaGreatDoor
def bZ (a b:aB):Prop:=a.used≤b.used∧(a.fE≠0→b.fE=a.fE)∧b.clause=a.clause∧a.nodes.length≤b.nodes.length
theorem bZ.refl (a:aB):bZ a a:=⟨Nat.le_refl _,fun _=>rfl,rfl,Nat.le_refl _⟩
theorem bZ.trans {a b c:aB}(h:bZ a b)(k:bZ b c):bZ a c :=
 ⟨Nat.le_trans h.1 k.1,fun q=>by have h1:=h.2.1 q;rw[k.2.1 (by rw[h1];exact q),h1],k.2.2.1.trans h.2.2.1,Nat.le_trans h.2.2.2 k.2.2.2⟩
theorem bZ.zero {a b:aB}(h:bZ a b)(hb:b.fE=0):a.fE=0:=by
 apply Classical.byContradiction
 intro q;exact q (by rw[← h.2.1 q];exact hb)
theorem nJ (toks:List Tok)(e:Nat)(st:aB):bZ st (fQ toks e st):=by
 unfold fQ
 split
 ·rename_i h;exact⟨Nat.le_refl _,fun q=>absurd h q,rfl,Nat.le_refl _⟩
 ·exact bZ.refl _
theorem aJ (toks:List Tok)(st:aB):bZ st (ay toks st).2:=by
 unfold ay
 split
 ·exact bZ.refl _
 ·exact⟨Nat.le_succ _,fun _=>rfl,rfl,by simp⟩
theorem TN (k:Int)(l:List Int)(st:aB):bZ st (Er k l st).2:=by
 unfold Er
 split
 ·exact bZ.refl _
 ·exact⟨Nat.le_refl _,fun _=>rfl,rfl,by simp⟩
theorem aD (k:Int)(l:List Int)(st:aB):bZ st (aY k l st).2:=by
 unfold aY
 split
 ·exact TN _ _ _
 ·exact bZ.refl _
theorem aF (toks:List Tok)(l:List (List UInt8))(st:aB):bZ st (aA toks l st).2:=by
 unfold aA
 split
 ·exact aJ _ _
 ·exact nJ _ _ _
theorem dO (toks:List Tok)(k:Nat)(st:aB):bZ st (aP toks k st).2:=by
 unfold aP
 split
 ·exact aJ _ _
 ·exact nJ _ _ _
theorem dZ (toks:List Tok)(d n:Nat)(st:aB):bZ st (aM toks d n st):=by
 unfold aM
 split
 ·exact nJ _ _ _
 ·exact bZ.refl _
theorem yJ (toks:List Tok)(a:Int × aB):bZ a.2 (lC toks a).2:=by
 unfold lC
 split
 ·exact(aJ _ _).trans (dO _ _ _)
 ·exact bZ.refl _
theorem kL (toks:List Tok)(one:aB→Option (Int × aB))(h1:∀ s k,one s=some k→bZ s k.2):∀ (r:Nat) (kids:List Int) (st:aB) (l:List Int × aB),aR toks one r kids st=some l→bZ st l.2
 | 0,kids,st,l,h=>by
  rw[aR] at h
  injection h with h
  subst h;show bZ st (if st.fE=0 then fQ toks 15 st else st)
  split
  ·exact nJ _ _ _
  ·exact bZ.refl _
 | r+1,kids,st,l,h=>by
  rw[aR] at h
  split at h
  ·injection h with h;subst h;exact bZ.refl _
  ·obtain⟨k,hk,h⟩:=bH h
   have:=h1 _ _ hk
   split at h
   ·exact(this.trans (aJ _ _)).trans (kL toks one h1 r _ _ _ h)
   ·injection h with h;subst h;exact this
theorem kr (toks:List Tok)(one:aB→Option (Int × aB))(h1:∀ s k,one s=some k→bZ s k.2)(st:aB)(l:List Int × aB)(h:jh toks one st=some l):bZ st l.2:=by
 unfold jh at h
 split at h
 ·injection h with h;subst h;exact bZ.refl _
 ·exact kL toks one h1 _ _ _ _ h
theorem aO (toks:List Tok)(depth:Nat):∀ (g:Nat) (t:Task) (st:aB) (r:Int × aB),run toks depth g t st=some r→bZ st r.2
 | 0,_,_,_,h=>by rw[run] at h;cases h
 | g+1,.expr nest,st,r,h=>by
  have ih:=aO toks depth g;rw[run] at h;have hd:=dZ toks depth nest st;generalize aM toks depth nest st=s at h hd
  split at h
  ·injection h with h;subst h;exact hd
  split at h
  ·exact hd.trans (ih _ _ _ h)
  split at h
  ·obtain⟨d,h1,h⟩:=bH h
   obtain⟨f,h2,h⟩:=bH h
   injection h with h;subst h
   exact(((((hd.trans (aJ _ _)).trans (dO _ _ _)).trans (aF _ _ _)).trans (ih _ _ _ h1)).trans (aF _ _ _)).trans ((ih _ _ _ h2).trans (aD _ _ _))
  split at h
  ·obtain⟨b,h1,h⟩:=bH h
   obtain⟨d,h2,h⟩:=bH h;obtain⟨f,h3,h⟩:=bH h
   injection h with h;subst h
   exact(((((hd.trans (aJ _ _)).trans (ih _ _ _ h1)).trans (aF _ _ _)).trans (ih _ _ _ h2)).trans (aF _ _ _)).trans ((ih _ _ _ h3).trans (aD _ _ _))
  split at h
  ·obtain⟨b,h1,h⟩:=bH h
   obtain⟨d,h2,h⟩:=bH h
   injection h with h;subst h
   exact(((hd.trans (aJ _ _)).trans (ih _ _ _ h1)).trans (aF _ _ _)).trans ((ih _ _ _ h2).trans (aD _ _ _))
  ·exact hd.trans (ih _ _ _ h)
 | g+1,.formula nest,st,r,h=>by
  have ih:=aO toks depth g;rw[run] at h;obtain⟨a,h1,h⟩:=bH h;have ha:=ih _ _ _ h1
  split at h
  ·have hd:=(ha.trans (aJ toks a.2)).trans (dZ toks depth (nest+1) _)
   split at h
   ·injection h with h;subst h;exact hd
   ·obtain⟨b,h2,h⟩:=bH h
    injection h with h;subst h
    exact(hd.trans (ih _ _ _ h2)).trans (aD _ _ _)
  ·injection h with h;subst h;exact ha
 | g+1,.part l nest,st,r,h=>by
  have ih:=aO toks depth g;rw[run] at h
  split at h
  ·exact ih _ _ _ h
  ·split at h
   ·exact ih _ _ _ h
   ·exact ih _ _ _ h
 | g+1,.row l nest,st,r,h=>by
  have ih:=aO toks depth g;rw[run] at h;obtain⟨a,h1,h⟩:=bH h;exact(ih _ _ _ h1).trans (ih _ _ _ h)
 | g+1,.loop l nest a,st,r,h=>by
  have ih:=aO toks depth g;rw[run] at h
  split at h
  ·obtain⟨b,h1,h⟩:=bH h
   have hb:=((aJ toks st).trans (ih _ _ _ h1)).trans (aD 10 [a,(ay toks st).1,b.1] _)
   split at h
   ·injection h with h;subst h;exact hb
   ·exact hb.trans (ih _ _ _ h)
  ·injection h with h;subst h;exact bZ.refl _
 | g+1,.neg nest,st,r,h=>by
  have ih:=aO toks depth g;rw[run] at h
  split at h
  ·have hd:=(aJ toks st).trans (dZ toks depth (nest+1) _)
   split at h
   ·injection h with h;subst h;exact hd
   ·obtain⟨b,h2,h⟩:=bH h
    injection h with h;subst h
    exact(hd.trans (ih _ _ _ h2)).trans (aD _ _ _)
  ·exact ih _ _ _ h
 | g+1,.factor nest,st,r,h=>by
  have ih:=aO toks depth g;rw[run] at h
  split at h
  ·have hd:=(aJ toks st).trans (dZ toks depth (nest+1) _)
   split at h
   ·injection h with h;subst h;exact hd
   ·obtain⟨b,h2,h⟩:=bH h
    injection h with h;subst h
    exact(hd.trans (ih _ _ _ h2)).trans (aD _ _ _)
  ·exact ih _ _ _ h
 | g+1,.atom nest,st,r,h=>by
  have ih:=aO toks depth g;rw[run] at h
  split at h
  ·injection h with h;subst h;exact bZ.refl _
  split at h
  ·injection h with h;subst h;exact(aJ _ _).trans (aD _ _ _)
  split at h
  ·injection h with h;subst h;exact(aJ _ _).trans (aD _ _ _)
  split at h
  ·injection h with h;subst h;exact(aJ _ _).trans (aD _ _ _)
  split at h
  ·obtain⟨b,h1,h⟩:=bH h
   injection h with h;subst h
   exact(((aJ _ _).trans (ih _ _ _ h1)).trans (aF _ _ _)).trans (aD _ _ _)
  split at h
  ·exact ih _ _ _ h
  ·injection h with h;subst h;exact nJ _ _ _
 | g+1,.name nest,st,r,h=>by
  have ih:=aO toks depth g;rw[run] at h
  split at h
  ·injection h with h;subst h;exact(aJ _ _).trans (aD _ _ _)
  ·obtain⟨l,h1,h⟩:=bH h
   injection h with h;subst h
   exact((((aJ _ _).trans (yJ _ _)).trans (aF _ _ _)).trans (kr toks _ (fun s k hk=>ih _ _ _ hk) _ _ h1)).trans ((aF _ _ _).trans (aD _ _ _))
def gI (toks:List Tok):Prop:=(bP toks toks.length).kind=5
theorem gI.pos {toks:List Tok}(h:gI toks):0<toks.length:=by
 cases toks with
 | nil=>cases h
 | cons t l=>simp
theorem gI.before {toks:List Tok}(h:gI toks){u:Nat}(hu:(bP toks u).kind≠5):u+1<toks.length:=by
 apply Classical.byContradiction
 intro q
 apply hu
 have hp:=h.pos;rw[gI] at h;unfold bP at h ⊢;rw[show min u (toks.length - 1)=min toks.length (toks.length - 1) by omega];exact h
theorem aZ {toks:List Tok}{st:aB}{l:List (List UInt8)}(h:aS toks st l=true):(bP toks st.used).kind≠5:=by
 simp only[aS,Bool.and_eq_true,Bool.or_eq_true,beq_iff_eq] at h;omega
theorem Mi {toks:List Tok}{st:aB}(h:st.used+1<toks.length):ay toks st=(((st.nodes.length:Nat):Int),{ st with nodes:=st.nodes++[⟨19,(st.used:Nat),[]⟩],used:=st.used+1 }):=by
 unfold ay;rw[if_neg (by omega)]
theorem jl {toks:List Tok}(hE:gI toks){st:aB}(h:(bP toks st.used).kind≠5):(ay toks st).2.used=st.used+1∧st.used+1<toks.length:=by
 have:=hE.before h;rw[Mi this];exact⟨rfl,this⟩
def ji:Task→Nat
 | .expr _=>18
 | .formula _=>17
 | .row l _=>if l≤1 then 16 - 2 * l else 15 - 2 * l
 | .part l _=>if l≤1 then 15 - 2 * l else 14 - 2 * l
 | .neg _=>12
 | .factor _=>5
 | .atom _=>4
 | .name _=>3
 | .loop _ _ _=>1
def Yc (toks:List Tok)(st:aB):Task→Prop
 | .row l _=>l≤4
 | .part l _=>l≤4
 | .loop l _ _=>l≤4
 | .name _=>st.used<toks.length
 | _=>True
def dV (toks:List Tok)(t:Task)(st:aB):Nat:=20 * (toks.length - st.used)+ji t
theorem kM {toks:List Tok}{e:Nat}(he:e≠0)(st:aB):(fQ toks e st).fE≠0:=by
 unfold fQ
 split
 ·exact he
 ·assumption
theorem Qq {toks:List Tok}(hE:gI toks)(l:List (List UInt8))(st:aB):st.used+1≤(aA toks l st).2.used∨(aA toks l st).2.fE≠0:=by
 unfold aA
 split
 ·rename_i h
  have:=(jl hE (aZ h.2)).1;exact .inl (by rw[this];exact Nat.le_refl _)
 ·exact .inr (kM (by decide) st)
theorem nR (toks:List Tok)(one:aB→Option (Int × aB))(base:Nat)(h1:∀ s,base≤s.used→∃ k,one s=some k∧bZ s k.2):∀ (r:Nat) (kids:List Int) (st:aB),base≤st.used∨st.fE≠0→∃ l,aR toks one r kids st=some l
 | 0,kids,st,_=>⟨_,rfl⟩
 | r+1,kids,st,hb=>by
  rw[aR]
  split
  ·exact⟨_,rfl⟩
  ·rename_i hf
   obtain⟨k,hk,hx⟩:=h1 st (hb.resolve_right hf);rw[hk];simp only[Option.bind_some]
   split
   ·exact nR toks one base h1 r _ _ (.inl (Nat.le_trans (hb.resolve_right hf) (Nat.le_trans hx.1 (aJ toks k.2).1)))
   ·exact⟨_,rfl⟩
theorem jm (toks:List Tok)(depth:Nat)(hE:gI toks):∀ (g:Nat) (t:Task) (st:aB),Yc toks st t→dV toks t st≤g→∃ r,run toks depth g t st=some r
 | 0,t,st,_,h=>by
  exfalso
  have:1≤ji t:=by
   cases t<;>simp only[ji]<;>first|omega|(simp only[Yc] at *;split<;>omega)
  unfold dV at h;omega
 | g+1,.expr nest,st,_,h=>by
  have ih:=jm toks depth hE g;rw[run];have hd:=dZ toks depth nest st;generalize aM toks depth nest st=s at hd;have hu:=hd.1;simp only[dV,ji] at h
  split
  ·exact⟨_,rfl⟩
  split
  ·exact ih _ _ trivial (by simp only[dV,ji];omega)
  split
  ·rename_i hn
   obtain⟨e1,e2⟩:=jl hE (aZ hn);have x1:=(dO toks 1 (ay toks s).2).1;have x2:=(aF toks [[61]] (aP toks 1 (ay toks s).2).2).1;obtain⟨d,hd1⟩:=ih (.expr (nest+1)) (aA toks [[61]] (aP toks 1 (ay toks s).2).2).2 trivial (by simp only[dV,ji];omega);have x3:=(aO toks depth g _ _ _ hd1).1;have x4:=(aF toks [Tq] d.2).1;obtain⟨f,hf⟩:=ih (.expr (nest+1)) (aA toks [Tq] d.2).2 trivial (by simp only[dV,ji];omega);rw[hd1,Option.bind_some,hf,Option.bind_some];exact⟨_,rfl⟩
  split
  ·rename_i hn
   obtain⟨e1,e2⟩:=jl hE (aZ hn);obtain⟨b,hb⟩:=ih (.expr (nest+1)) (ay toks s).2 trivial (by simp only[dV,ji];omega);have x3:=(aO toks depth g _ _ _ hb).1;have x4:=(aF toks [EP] b.2).1;obtain⟨d,hd1⟩:=ih (.expr (nest+1)) (aA toks [EP] b.2).2 trivial (by simp only[dV,ji];omega);have x5:=(aO toks depth g _ _ _ hd1).1;have x6:=(aF toks [ER] d.2).1;obtain⟨f,hf⟩:=ih (.expr (nest+1)) (aA toks [ER] d.2).2 trivial (by simp only[dV,ji];omega);rw[hb,Option.bind_some,hd1,Option.bind_some,hf,Option.bind_some];exact⟨_,rfl⟩
  split
  ·rename_i hn
   obtain⟨e1,e2⟩:=jl hE (aZ hn);obtain⟨b,hb⟩:=ih (.expr (nest+1)) (ay toks s).2 trivial (by simp only[dV,ji];omega);have x3:=(aO toks depth g _ _ _ hb).1;have x4:=(aF toks [Tq] b.2).1;obtain⟨d,hd1⟩:=ih (.expr (nest+1)) (aA toks [Tq] b.2).2 trivial (by simp only[dV,ji];omega);rw[hb,Option.bind_some,hd1,Option.bind_some];exact⟨_,rfl⟩
  ·exact ih _ _ trivial (by simp only[dV,ji];omega)
 | g+1,.formula nest,st,_,h=>by
  have ih:=jm toks depth hE g;rw[run];simp only[dV,ji] at h;obtain⟨a,ha⟩:=ih (.row 0 nest) st (by simp[Yc]) (by simp only[dV,ji];simp;omega);have x1:=(aO toks depth g _ _ _ ha).1;rw[ha,Option.bind_some]
  split
  ·rename_i hn
   obtain⟨e1,e2⟩:=jl hE (aZ hn.2);have x2:=(dZ toks depth (nest+1) (ay toks a.2).2).1
   split
   ·exact⟨_,rfl⟩
   ·obtain⟨b,hb⟩:=ih (.formula (nest+1)) (aM toks depth (nest+1) (ay toks a.2).2) trivial (by simp only[dV,ji];omega)
    rw[hb,Option.bind_some];exact⟨_,rfl⟩
  ·exact⟨_,rfl⟩
 | g+1,.part l nest,st,hl,h=>by
  have ih:=jm toks depth hE g;rw[run];simp only[dV,ji] at h;simp only[Yc] at hl
  split
  ·rename_i h1;subst h1
   exact ih _ _ trivial (by simp only[dV,ji];simp at h;omega)
  ·split
   ·rename_i h4;subst h4
    exact ih _ _ trivial (by simp only[dV,ji];simp at h;omega)
   ·refine ih _ _ (by simp only[Yc];omega) ?_
    simp only[dV,ji]
    split at h
    ·obtain rfl:l=0:=by omega
     simp;omega
    ·rw[if_neg (by omega)];omega
 | g+1,.row l nest,st,hl,h=>by
  have ih:=jm toks depth hE g;rw[run];simp only[dV,ji] at h;simp only[Yc] at hl;obtain⟨a,ha⟩:=ih (.part l nest) st hl (by simp only[dV,ji];split at h<;>split<;>omega);have x1:=(aO toks depth g _ _ _ ha).1;rw[ha,Option.bind_some];refine ih _ _ hl ?_;simp only[dV,ji]
  split at h<;>omega
 | g+1,.loop l nest a,st,hl,h=>by
  have ih:=jm toks depth hE g;rw[run];simp only[dV,ji] at h;simp only[Yc] at hl
  split
  ·rename_i hn
   obtain⟨e1,e2⟩:=jl hE (aZ hn.2);obtain⟨b,hb⟩:=ih (.part l nest) (ay toks st).2 hl (by simp only[dV,ji];split<;>omega);have x1:=(aO toks depth g _ _ _ hb).1;have x2:=(aD 10 [a,(ay toks st).1,b.1] b.2).1;rw[hb,Option.bind_some]
   split
   ·exact⟨_,rfl⟩
   ·exact ih _ _ hl (by simp only[dV,ji];omega)
  ·exact⟨_,rfl⟩
 | g+1,.neg nest,st,_,h=>by
  have ih:=jm toks depth hE g;rw[run];simp only[dV,ji] at h
  split
  ·rename_i hn
   obtain⟨e1,e2⟩:=jl hE (aZ hn.2);have x2:=(dZ toks depth (nest+1) (ay toks st).2).1
   split
   ·exact⟨_,rfl⟩
   ·obtain⟨b,hb⟩:=ih (.neg (nest+1)) (aM toks depth (nest+1) (ay toks st).2) trivial (by simp only[dV,ji];omega)
    rw[hb,Option.bind_some];exact⟨_,rfl⟩
  ·exact ih _ _ (by simp[Yc]) (by simp only[dV,ji];simp;omega)
 | g+1,.factor nest,st,_,h=>by
  have ih:=jm toks depth hE g;rw[run];simp only[dV,ji] at h
  split
  ·rename_i hn
   obtain⟨e1,e2⟩:=jl hE (aZ hn.2);have x2:=(dZ toks depth (nest+1) (ay toks st).2).1
   split
   ·exact⟨_,rfl⟩
   ·obtain⟨b,hb⟩:=ih (.factor (nest+1)) (aM toks depth (nest+1) (ay toks st).2) trivial (by simp only[dV,ji];omega)
    rw[hb,Option.bind_some];exact⟨_,rfl⟩
  ·exact ih _ _ trivial (by simp only[dV,ji];omega)
 | g+1,.atom nest,st,_,h=>by
  have ih:=jm toks depth hE g;rw[run];simp only[dV,ji] at h
  split
  ·exact⟨_,rfl⟩
  split
  ·exact⟨_,rfl⟩
  split
  ·exact⟨_,rfl⟩
  split
  ·exact⟨_,rfl⟩
  split
  ·rename_i hn
   obtain⟨e1,e2⟩:=jl hE (aZ hn);obtain⟨b,hb⟩:=ih (.expr (nest+1)) (ay toks st).2 trivial (by simp only[dV,ji];omega);rw[hb,Option.bind_some];exact⟨_,rfl⟩
  split
  ·rename_i hk
   have:=hE.before (u:=st.used) (by omega);exact ih _ _ (by simp only[Yc];omega) (by simp only[dV,ji];omega)
  ·exact⟨_,rfl⟩
 | g+1,.name nest,st,hl0,h=>by
  have ih:=jm toks depth hE g;rw[run];simp only[dV,ji] at h
  split
  ·exact⟨_,rfl⟩
  ·have x1:=(aJ toks st).1
   have x2:=(yJ toks (ay toks st)).1;have x3:=Qq hE [[40]] (lC toks (ay toks st)).2;generalize (aA toks [[40]] (lC toks (ay toks st)).2)=b at x3
   have hl:∃ l,jh toks (fun s=>run toks depth g (.expr (nest+1)) s) b.2=some l:=by
    unfold jh
    split
    ·exact⟨_,rfl⟩
    ·refine nR toks _ (st.used+1) (fun s hs=>?_) _ _ _ (x3.imp (by omega) id)
     have hlt:st.used<toks.length:=hl0;obtain⟨k,hk⟩:=ih (.expr (nest+1)) s trivial (by simp only[dV,ji];omega);exact⟨k,hk,aO toks depth g _ _ _ hk⟩
   obtain⟨l,hl⟩:=hl;rw[hl,Option.bind_some];exact⟨_,rfl⟩
inductive PT where
 | leaf
 | node (k:Nat) (l:List PT)
mutual
def PT.lv:PT→Nat
 | .leaf=>1
 | .node _ l=>bB l
def bB:List PT→Nat
 | []=>0
 | t :: l=>t.lv+bB l
end
mutual
def PT.nd:PT→Nat
 | .leaf=>1
 | .node _ l=>dJ l+1
def dJ:List PT→Nat
 | []=>0
 | t :: l=>t.nd+dJ l
end
def bQ (b:Nat):List PT→List Int
 | []=>[]
 | t :: l=>(((b+t.nd:Nat):Int) - 1) :: bQ (b+t.nd) l
mutual
def PT.em (b u:Nat):PT→List Nd
 | .leaf=>[⟨19,(u:Nat),[]⟩]
 | .node k l=>wL b u l++[⟨k,-1,bQ b l⟩]
def wL (b u:Nat):List PT→List Nd
 | []=>[]
 | t :: l=>t.em b u++wL (b+t.nd) (u+t.lv) l
end
theorem iw:∀ (l k:List PT),bB (l++k)=bB l+bB k
 | [],k=>by simp[bB]
 | t :: l,k=>by simp only[List.cons_append,bB,iw l k];omega
theorem lJ:∀ (l k:List PT),dJ (l++k)=dJ l+dJ k
 | [],k=>by simp[dJ]
 | t :: l,k=>by simp only[List.cons_append,dJ,lJ l k];omega
theorem mF:∀ (b:Nat) (l k:List PT),bQ b (l++k)=bQ b l++bQ (b+dJ l) k
 | b,[],k=>by simp[bQ,dJ]
 | b,t :: l,k=>by simp only[List.cons_append,bQ,mF _ l k,dJ];rw[Nat.add_assoc]
theorem Bf:∀ (b u:Nat) (l k:List PT),wL b u (l++k)=wL b u l++wL (b+dJ l) (u+bB l) k
 | b,u,[],k=>by simp[wL,dJ,bB]
 | b,u,t :: l,k=>by simp only[List.cons_append,wL,Bf _ _ l k,dJ,bB,List.append_assoc];rw[Nat.add_assoc,Nat.add_assoc]
mutual
theorem PT.qQ (b u:Nat):∀ (t:PT),(t.em b u).length=t.nd
 | .leaf=>by simp[PT.em,PT.nd]
 | .node k l=>by simp[PT.em,PT.nd,wM b u l]
theorem wM (b u:Nat):∀ (l:List PT),(wL b u l).length=dJ l
 | []=>by simp[wL,dJ]
 | t :: l=>by rw[wL,dJ,bN,PT.qQ b u t,wM _ _ l]
end
theorem PT.fV (t:PT):0<t.nd:=by cases t<;>simp[PT.nd]
theorem vv:∀ (b:Nat) (l:List PT) (k:Int),k∈bQ b l→(b:Int)≤k∧k<((b+dJ l:Nat):Int)
 | _,[],k,h=>by cases h
 | b,t :: l,k,h=>by
  have hp:=t.fV;rw[bQ,List.mem_cons] at h;rw[dJ]
  rcases h with rfl|h
  ·omega
  ·have:=vv _ l k h
   omega
def dR (st:aB)(l:List PT)(st':aB):Prop:=st'={ st with nodes:=st.nodes++wL st.nodes.length st.used l,used:=st.used+bB l }
theorem dR.nil (st:aB):dR st [] st:=by simp[dR,wL,bB]
theorem dR.append {a b c:aB}{l k:List PT}(h:dR a l b)(h2:dR b k c):dR a (l++k) c:=by
 rw[dR] at h h2 ⊢;rw[h2,h];simp only[bN,wM,Bf,iw,List.append_assoc,Nat.add_assoc]
theorem dR.len {a b:aB}{l:List PT}(h:dR a l b):b.nodes.length=a.nodes.length+dJ l:=by rw[h];simp[wM]
theorem dR.used {a b:aB}{l:List PT}(h:dR a l b):b.used=a.used+bB l:=by rw[h]
theorem dR.clause {a b:aB}{l:List PT}(h:dR a l b):b.clause=a.clause:=by rw[h]
theorem dR.fE {a b:aB}{l:List PT}(h:dR a l b):b.fE=a.fE:=by rw[h]
theorem dR.leaf {toks:List Tok}{st:aB}(h:st.used+1≤toks.length):dR st [.leaf] (ay toks st).2∧(ay toks st).1=((st.nodes.length:Nat):Int):=by
 unfold ay;rw[if_neg (by omega)];exact⟨by simp[dR,wL,PT.em,bB,PT.lv],rfl⟩
theorem dR.node {a b:aB}{l:List PT}(h:dR a l b)(hf:b.fE=0)(k:Nat):dR a [.node k l] (aY k (bQ a.nodes.length l) b).2∧(aY k (bQ a.nodes.length l) b).1=((a.nodes.length+dJ l:Nat):Int):=by
 have hlen:=h.len;unfold aY;rw[if_pos hf];unfold Er;rw[if_neg]
 ·refine⟨?_,by rw[hlen]⟩
  rw[dR] at h ⊢;rw[h];simp[wL,PT.em,bB,PT.lv]
 ·intro q
  obtain⟨x,hx,hy⟩:=List.any_eq_true.1 q;have:=vv _ _ _ hx;simp only[Bool.or_eq_true,decide_eq_true_eq] at hy;omega
inductive CE where
 | num|truth|res|Jh
 | group (e:CE)
 | un (e:CE)
 | bin (a b:CE)
 | iff (a b c:CE)
 | pG (a b:CE)
 | pI (a b:CE)
 | call (q:Bool) (l:List CE)
mutual
def CE.pt:CE→PT
 | .num=>.node 15 [.leaf]
 | .truth=>.node 16 [.leaf]
 | .res=>.node 17 [.leaf]
 | .Jh=>.node 14 [.leaf]
 | .group e=>.node 12 [.leaf,e.pt,.leaf]
 | .un e=>.node 11 [.leaf,e.pt]
 | .bin a b=>.node 10 [a.pt,.leaf,b.pt]
 | .iff a b c=>.node 8 [.leaf,a.pt,.leaf,b.pt,.leaf,c.pt]
 | .pG a b=>.node 7 [.leaf,.leaf,.leaf,a.pt,.leaf,b.pt]
 | .pI a b=>.node 9 [.leaf,a.pt,.leaf,b.pt]
 | .call q l=>.node 13 ((if q then [.leaf,.leaf,.leaf] else [.leaf])++[.leaf]++dS l++[.leaf])
def dS:List CE→List PT
 | []=>[]
 | e :: l=>e.pt :: (match l with | []=>[]|_ :: _=>.leaf :: dS l)
end
theorem qR (e:CE):dS [e]=[e.pt]:=by simp[dS]
theorem lK (e f:CE)(l:List CE):dS (e :: f :: l)=e.pt :: .leaf :: dS (f :: l):=by
 conv=>lhs;rw[dS]
def aI (toks:List Tok)(u:Nat):List UInt8:=(bP toks u).text
def fZ (toks:List Tok)(u:Nat):Nat:=(bP toks u).kind
def nS:List (List UInt8):=[[43],[45],[42],[47],[37],[61],[60,62],[60],[60,61],[62],[62,61],[38,38],[124,124],[61,62]]
mutual
def CE.ok (toks:List Tok)(cl:Bool)(u:Nat):CE→Prop
 | .num=>fZ toks u=3
 | .truth=>aI toks u=O9∨aI toks u=Mh
 | .res=>cl=true∧aI toks u=aaz
 | .Jh=>fZ toks u=1
 | .group e=>aI toks u=[40]∧e.ok toks cl (u+1)
 | .un e=>(aI toks u=Yb∨aI toks u=[45])∧e.ok toks cl (u+1)
 | .bin a b=>aI toks (u+a.pt.lv)∈nS∧a.ok toks cl u∧b.ok toks cl (u+a.pt.lv+1)
 | .iff a b c=>cl=false∧a.ok toks cl (u+1)∧b.ok toks cl (u+1+a.pt.lv+1)∧c.ok toks cl (u+1+a.pt.lv+1+b.pt.lv+1)
 | .pG a b=>cl=false∧fZ toks (u+1)=1∧a.ok toks cl (u+3)∧b.ok toks cl (u+3+a.pt.lv+1)
 | .pI a b=>cl=false∧a.ok toks cl (u+1)∧b.ok toks cl (u+1+a.pt.lv+1)
 | .call q l=>cl=false∧fZ toks u=1∧l.length≤8∧(if q then aI toks (u+1)=[46]∧fZ toks (u+2)=1∧mV toks cl (u+4) l else aI toks (u+1)=[40]∧mV toks cl (u+2) l)
def mV (toks:List Tok)(cl:Bool)(u:Nat):List CE→Prop
 | []=>True
 | e :: l=>e.ok toks cl u∧mV toks cl (u+e.pt.lv+1) l
end
def Tt (toks:List Tok)(st:aB)(r:Int × aB)(e:CE):Prop :=
 dR st [e.pt] r.2∧r.1=((st.nodes.length+e.pt.nd:Nat):Int) - 1∧e.ok toks st.clause st.used∧(st.used<toks.length→r.2.used<toks.length)
def iE (nt i:Nat)(n:Nd):Bool :=
 if n.kind<1∨19<n.kind then false
 else if n.kind=19 then decide (n.kids.length=0) && (decide (0≤n.tok) && decide (n.tok<nt))
 else decide (n.tok=-1) && !(n.kids.any fun k=>decide (k<0) || decide ((i:Int)≤k))
def wN:List Bool→List Int→Option (List Bool)
 | kid,[]=>some kid
 | kid,k :: ks=>if kid.getD k.toNat false=true then none else wN (kid.set k.toNat true) ks
def kN (nt:Nat):Nat→List Nd→List Bool→Option (List Bool)
 | _,[],kid=>some kid
 | i,n :: l,kid=>if iE nt i n=true then (wN kid n.kids).bind (kN nt (i+1) l) else none
def eH (nodes:List Nd):Nat→List Int→List Int→Option (List Int)
 | 0,_,_=>none
 | _+1,[],out=>some out
 | g+1,i :: rest,out =>
  if i<0 then none
  else match nodes[i.toNat]? with
   | none=>none
   | some x=>if x.kind=19 then eH nodes g rest (out++[x.tok]) else if 549755813888<(x.kids++rest).length then none else eH nodes g (x.kids++rest) out
def l9:Nat→List Int→Bool
 | _,[]=>true
 | i,k :: l=>decide ((i:Int)=k) && l9 (i+1) l
def nT (nt:Nat)(nodes:List Nd):Option (List Bool):=kN nt 0 nodes (List.replicate nodes.length false)
def jZ (nt:Nat)(nodes:List Nd)(l:List Int):Bool :=
 match nT nt nodes with
 | none=>false
 | some kid=>!(decide (kid.length=0)) && !((kid.take (nodes.length - 1)).contains false) && l9 0 l && decide (l.length=nt)
def fJ (n:Nat):List UInt8:=if h:n<10 then [UInt8.ofNat (48+n)] else fJ (n / 10)++[UInt8.ofNat (48+n % 10)]
decreasing_by omega
def mG (t:Tok):List UInt8:=(if t.kind=5 then [36] else [])++t.text
def kP (f:Int→Option (List UInt8)):List Int→Option (List UInt8)
 | []=>some []
 | k :: ks=>(f k).bind fun a=>(kP f ks).bind fun b=>some ([32]++a++b)
def rH (toks:List Tok)(nodes:List Nd):Nat→Int→Option (List UInt8)
 | 0,_=>none
 | g+1,n =>
  if n<0 then none
  else match nodes[n.toNat]? with
   | none=>none
   | some x =>
    if x.kind=19 then (if x.tok<0 then none else (toks[x.tok.toNat]?).map mG)
    else (kP (rH toks nodes g) x.kids).map fun b=>[40]++fJ x.kind.toNat++b++[41]
mutual
def PT.dump (toks:List Tok)(u:Nat):PT→List UInt8
 | .leaf=>mG (bP toks u)
 | .node k l=>[40]++fJ k++zN toks u l++[41]
def zN (toks:List Tok)(u:Nat):List PT→List UInt8
 | []=>[]
 | t :: l=>[32]++t.dump toks u++zN toks (u+t.lv) l
end
mutual
def lM (nodes:List Nd)(n:Int)(u:Nat):PT→Prop
 | .leaf=>0≤n∧nodes[n.toNat]?=some ⟨19,(u:Nat),[]⟩
 | .node k l=>∃ ks,0≤n∧nodes[n.toNat]?=some ⟨k,-1,ks⟩∧dW nodes ks u l
def dW (nodes:List Nd)(ks:List Int)(u:Nat):List PT→Prop
 | []=>ks=[]
 | t :: l=>∃ k ks',ks=k :: ks'∧lM nodes k u t∧dW nodes ks' (u+t.lv) l
end
mutual
theorem lM.more {nodes more:List Nd}:∀ {t:PT} {n:Int} {u:Nat},lM nodes n u t→lM (nodes++more) n u t
 | .leaf,n,u,h=>by
  rw[lM] at h ⊢;exact⟨h.1,by rw[List.getElem?_append_left (mR h.2).1];exact h.2⟩
 | .node k l,n,u,h=>by
  rw[lM] at h ⊢;obtain⟨ks,h0,h1,h2⟩:=h;exact⟨ks,h0,by rw[List.getElem?_append_left (mR h1).1];exact h1,dW.more h2⟩
theorem dW.more {nodes more:List Nd}:∀ {l:List PT} {ks:List Int} {u:Nat},dW nodes ks u l→dW (nodes++more) ks u l
 | [],ks,u,h=>by rw[dW] at h ⊢;exact h
 | t :: l,ks,u,h=>by
  rw[dW] at h ⊢;obtain⟨k,ks',e,h1,h2⟩:=h;exact⟨k,ks',e,lM.more h1,dW.more h2⟩
end
mutual
theorem lM.em {pre:List Nd}:∀ (t:PT) (b u:Nat),pre.length=b→lM (pre++t.em b u) (((b+t.nd:Nat):Int) - 1) u t
 | .leaf,b,u,hb=>by
  rw[lM,PT.em,PT.nd];refine⟨by omega,?_⟩;rw[show ((((b+1:Nat):Int) - 1).toNat)=pre.length by omega]
  simp
 | .node k l,b,u,hb=>by
  have hl:=dW.em (pre:=pre) l b u hb
  have hn:(pre++wL b u l).length=b+dJ l:=by rw[bN,wM,hb]
  rw[lM,PT.em,PT.nd,← List.append_assoc];refine⟨bQ b l,by omega,?_,hl.more⟩;rw[show ((((b+(dJ l+1):Nat):Int) - 1).toNat)=(pre++wL b u l).length by omega]
  simp
theorem dW.em {pre:List Nd}:∀ (l:List PT) (b u:Nat),pre.length=b→dW (pre++wL b u l) (bQ b l) u l
 | [],b,u,hb=>by rw[dW,bQ]
 | t :: l,b,u,hb=>by
  have h1:=lM.em (pre:=pre) t b u hb;have h2:=dW.em (pre:=pre++t.em b u) l (b+t.nd) (u+t.lv) (by rw[bN,PT.qQ,hb]);rw[dW,wL,bQ];refine⟨_,_,rfl,?_,?_⟩
  ·rw[← List.append_assoc];exact h1.more
  ·rw[← List.append_assoc];exact h2
end
mutual
def PT.wf:PT→Prop
 | .leaf=>True
 | .node k l=>1≤k∧k≤18∧kH l
def kH:List PT→Prop
 | []=>True
 | t :: l=>t.wf∧kH l
end
def sG (u n:Nat):List Int:=(List.range' u n).map fun (k:Nat)=>(k:Int)
theorem TP (u n m:Nat):sG u (n+m)=sG u n++sG (u+n) m:=by
 unfold sG;rw[← List.map_append,← List.range'_append_1]
theorem wO {nodes:List Nd}:∀ {l:List PT} {ks:List Int} {u:Nat},dW nodes ks u l→ks.length=l.length∧ks.length≤dJ l
 | [],ks,u,h=>by rw[dW] at h;subst h;exact⟨rfl,by simp⟩
 | t :: l,ks,u,h=>by
  rw[dW] at h;obtain⟨k,ks',rfl,_,h2⟩:=h;obtain⟨a,b⟩:=wO h2;have:=t.fV;rw[dJ];simp only[eG];omega
mutual
theorem Bg {nodes:List Nd}:∀ (t:PT) (n:Int) (u g:Nat) (rest out:List Int),lM nodes n u t→t.wf→rest.length+t.nd≤549755813888→eH nodes (g+t.nd) (n :: rest) out=eH nodes g rest (out++sG u t.lv)
 | .leaf,n,u,g,rest,out,h,_,_=>by
  rw[lM] at h;rw[PT.nd,eH,if_neg (by omega),h.2,PT.lv];simp only[if_true]
  rfl
 | .node k l,n,u,g,rest,out,h,hw,hs=>by
  rw[lM] at h;obtain⟨ks,h0,h1,h2⟩:=h;rw[PT.wf] at hw;obtain⟨e1,e2⟩:=wO h2;rw[PT.nd] at hs;rw[PT.nd,← Nat.add_assoc,eH,if_neg (by omega),h1,PT.lv];simp only;rw[if_neg (by omega),if_neg (by rw[bN];omega)];exact zO l ks u g rest out h2 hw.2.2 (by omega)
theorem zO {nodes:List Nd}:∀ (l:List PT) (ks:List Int) (u g:Nat) (rest out:List Int),dW nodes ks u l→kH l→rest.length+dJ l≤549755813888→eH nodes (g+dJ l) (ks++rest) out=eH nodes g rest (out++sG u (bB l))
 | [],ks,u,g,rest,out,h,_,_=>by
  rw[dW] at h;subst h;simp[dJ,bB,sG]
 | t :: l,ks,u,g,rest,out,h,hw,hs=>by
  rw[dW] at h;obtain⟨k,ks',rfl,h1,h2⟩:=h;rw[kH] at hw;rw[dJ] at hs;have hp:=t.fV;have hk:=(wO h2).2;rw[dJ,bB,TP,List.cons_append,show g+(t.nd+dJ l)=(g+dJ l)+t.nd by omega,Bg t k u _ _ _ h1 hw.1 (by rw[bN];omega),zO l ks' _ g rest _ h2 hw.2 (by omega),List.append_assoc]
end
mutual
theorem Ji {toks:List Tok}{nodes:List Nd}:∀ (t:PT) (n:Int) (u g:Nat),lM nodes n u t→t.wf→u+t.lv≤toks.length→rH toks nodes (g+t.nd) n=some (t.dump toks u)
 | .leaf,n,u,g,h,_,hl=>by
  rw[lM] at h;rw[PT.lv] at hl;rw[PT.nd,rH,if_neg (by omega),h.2,PT.dump];simp only[if_true];rw[if_neg (by omega),Int.toNat_natCast,bP,Nat.min_eq_left (by omega),List.getElem?_eq_getElem (by omega),List.getD_eq_getElem?_getD,List.getElem?_eq_getElem (by omega)]
  rfl
 | .node k l,n,u,g,h,hw,hl=>by
  rw[lM] at h;obtain⟨ks,h0,h1,h2⟩:=h;rw[PT.wf] at hw;rw[PT.lv] at hl;rw[PT.nd,← Nat.add_assoc,rH,if_neg (by omega),h1,PT.dump];simp only;rw[if_neg (by omega),ES l ks u g h2 hw.2.2 hl]
  simp
theorem ES {toks:List Tok}{nodes:List Nd}:∀ (l:List PT) (ks:List Int) (u g:Nat),dW nodes ks u l→kH l→u+bB l≤toks.length→kP (rH toks nodes (g+dJ l)) ks=some (zN toks u l)
 | [],ks,u,g,h,_,_=>by
  rw[dW] at h;subst h;rw[kP,zN]
 | t :: l,ks,u,g,h,hw,hl=>by
  rw[dW] at h;obtain⟨k,ks',rfl,h1,h2⟩:=h;rw[kH] at hw;rw[bB] at hl;have e1:=Ji (toks:=toks) t k u (g+dJ l) h1 hw.1 (by omega);have e2:=ES (toks:=toks) l ks' (u+t.lv) (g+t.nd) h2 hw.2 (by omega);rw[show g+dJ l+t.nd=g+dJ (t :: l) by rw[dJ];omega] at e1;rw[show g+t.nd+dJ l=g+dJ (t :: l) by rw[dJ];omega] at e2;rw[kP,e1,Option.bind_some,e2,Option.bind_some,zN]
end
def Bh:List PT→List Bool
 | []=>[]
 | t :: l=>List.replicate (t.nd - 1) true++[false]++Bh l
theorem Jj:∀ (l:List PT) (A R:List Bool) (b:Nat),A.length=b→wN (A++Bh l++R) (bQ b l)=some (A++List.replicate (dJ l) true++R)
 | [],A,R,b,_=>by simp[Bh,bQ,wN,dJ]
 | t :: l,A,R,b,hA=>by
  have hp:=t.fV
  have e:(((b+t.nd:Nat):Int) - 1).toNat=(A++List.replicate (t.nd - 1) true).length:=by simp;omega
  rw[bQ,wN,e,Bh]
  have e2:A++(List.replicate (t.nd - 1) true++[false]++Bh l)++R=(A++List.replicate (t.nd - 1) true)++false :: (Bh l++R):=by simp
  rw[e2,if_neg (by simp),List.set_append_right _ _ (Nat.le_refl _),Nat.sub_self,List.set_cons_zero];have ih:=Jj l (A++List.replicate (t.nd - 1) true++[true]) R (b+t.nd) (by simp;omega)
  have e3:A++List.replicate (t.nd - 1) true++[true]++Bh l++R=A++List.replicate (t.nd - 1) true++true :: (Bh l++R):=by simp
  rw[e3] at ih;rw[ih,dJ]
  have e4:List.replicate (t.nd - 1) true++[true]=List.replicate t.nd true:=by
   conv=>rhs;rw[show t.nd=(t.nd - 1)+1 by omega,List.replicate_succ']
  congr 1
  rw[List.append_assoc A,e4,← List.replicate_append_replicate,List.append_assoc,List.append_assoc,List.append_assoc,List.append_assoc]
theorem Yd (b:Nat)(l:List PT):(bQ b l).any (fun k=>decide (k<0) || decide (((b+dJ l:Nat):Int)≤k))=false:=by
 rw[← Bool.not_eq_true,List.any_eq_true];rintro⟨x,hx,hy⟩;have:=vv _ _ _ hx;simp only[Bool.or_eq_true,decide_eq_true_eq] at hy;omega
mutual
theorem Jk (nt:Nat):∀ (t:PT) (b u:Nat) (A:List Bool) (m:Nat) (more:List Nd),t.wf→A.length=b→u+t.lv≤nt →
  kN nt b (t.em b u++more) (A++List.replicate (t.nd+m) false)=kN nt (b+t.nd) more (A++List.replicate (t.nd - 1) true++[false]++List.replicate m false)
 | .leaf,b,u,A,m,more,_,_,hu=>by
  rw[PT.lv] at hu;rw[PT.em,PT.nd,List.cons_append,List.nil_append,kN,if_pos]
  ·rw[wN,Option.bind_some,Nat.add_comm 1 m,List.replicate_succ]
   simp
  ·simp[iE]
   omega
 | .node k l,b,u,A,m,more,hw,hA,hu=>by
  rw[PT.wf] at hw;rw[PT.lv] at hu;have h:=ET nt l b u A (1+m) ([⟨k,-1,bQ b l⟩]++more) hw.2.2 hA hu;rw[PT.em,PT.nd,List.append_assoc,show dJ l+1+m=dJ l+(1+m) by omega,h,List.cons_append,List.nil_append,kN,if_pos]
  ·rw[Jj l A _ b hA,Option.bind_some,Nat.add_comm 1 m,List.replicate_succ]
   simp[Nat.add_assoc]
  ·unfold iE
   rw[if_neg (by simp only;omega),if_neg (by simp only;omega)];simp only[Yd]
   rfl
theorem ET (nt:Nat):∀ (l:List PT) (b u:Nat) (A:List Bool) (m:Nat) (more:List Nd),kH l→A.length=b→u+bB l≤nt →
  kN nt b (wL b u l++more) (A++List.replicate (dJ l+m) false)=kN nt (b+dJ l) more (A++Bh l++List.replicate m false)
 | [],b,u,A,m,more,_,_,_=>by simp[wL,dJ,Bh]
 | t :: l,b,u,A,m,more,hw,hA,hu=>by
  rw[kH] at hw;rw[bB] at hu;have hp:=t.fV;have h1:=Jk nt t b u A (dJ l+m) (wL (b+t.nd) (u+t.lv) l++more) hw.1 hA (by omega);have h2:=ET nt l (b+t.nd) (u+t.lv) (A++List.replicate (t.nd - 1) true++[false]) m more hw.2 (by simp;omega) (by omega);rw[wL,dJ,List.append_assoc,Nat.add_assoc,h1,h2,Bh,Nat.add_assoc]
  simp
end
theorem wP:∀ (n u:Nat),l9 u (sG u n)=true
 | 0,u=>by simp[sG,l9]
 | n+1,u=>by
  have h:=wP n (u+1);simp only[sG,List.range'_succ,List.map_cons,l9] at h ⊢;simp[h]
theorem TQ (t:PT)(hw:t.wf)(nt:Nat)(h:t.lv=nt):jZ nt (t.em 0 0) (sG 0 nt)=true:=by
 have hp:=t.fV;have h1:=Jk nt t 0 0 [] 0 [] hw rfl (by omega);rw[List.append_nil,List.nil_append,Nat.add_zero,kN] at h1
 have h2:nT nt (t.em 0 0)=some (List.replicate (t.nd - 1) true++[false]):=by
  rw[nT,PT.qQ,h1];simp
 unfold jZ;rw[h2];simp only[PT.qQ,wP,Bool.and_true];rw[List.take_append_of_le_length (by simp),List.take_of_length_le (by simp)]
 have h3:(List.replicate (t.nd - 1) true).contains false=false:=by
  rw[← Bool.not_eq_true,List.contains_iff_mem,List.mem_replicate]
  simp
 rw[h3];simp[sG]
theorem Qr (t:PT)(hw:t.wf)(h:t.nd≤549755813888):eH (t.em 0 0) (t.nd+1) [((t.nd:Nat):Int) - 1] []=some (sG 0 t.lv):=by
 have hr:=lM.em (pre:=[]) t 0 0 rfl;rw[List.nil_append,Nat.zero_add] at hr;rw[Nat.add_comm,Bg t _ 0 1 [] [] hr hw (by simpa using h),eH,List.nil_append]
theorem Ye (toks:List Tok)(t:PT)(hw:t.wf)(h:t.lv≤toks.length):rH toks (t.em 0 0) t.nd (((t.nd:Nat):Int) - 1)=some (t.dump toks 0):=by
 have hr:=lM.em (pre:=[]) t 0 0 rfl;rw[List.nil_append,Nat.zero_add] at hr;have:=Ji (toks:=toks) t _ 0 0 hr hw (by omega);rw[Nat.zero_add] at this;exact this
mutual
theorem CE.wf:∀ e:CE,e.pt.wf
 | .num=>by simp[CE.pt,PT.wf,kH]
 | .truth=>by simp[CE.pt,PT.wf,kH]
 | .res=>by simp[CE.pt,PT.wf,kH]
 | .Jh=>by simp[CE.pt,PT.wf,kH]
 | .group e=>by simp[CE.pt,PT.wf,kH,CE.wf e]
 | .un e=>by simp[CE.pt,PT.wf,kH,CE.wf e]
 | .bin a b=>by simp[CE.pt,PT.wf,kH,CE.wf a,CE.wf b]
 | .iff a b c=>by simp[CE.pt,PT.wf,kH,CE.wf a,CE.wf b,CE.wf c]
 | .pG a b=>by simp[CE.pt,PT.wf,kH,CE.wf a,CE.wf b]
 | .pI a b=>by simp[CE.pt,PT.wf,kH,CE.wf a,CE.wf b]
 | .call q l=>by
  have h:=TR l
  have e:∀ (a b:List PT),kH a→kH b→kH (a++b):=fun a b ha hb=>by
   induction a with
   | nil=>exact hb
   | cons x a ih=>rw[kH] at ha;rw[List.cons_append,kH];exact⟨ha.1,ih ha.2⟩
  rw[CE.pt,PT.wf];refine⟨by omega,by omega,e _ _ (e _ _ (e _ _ ?_ (by simp[kH,PT.wf])) h) (by simp[kH,PT.wf])⟩
  cases q<;>simp[kH,PT.wf]
theorem TR:∀ l:List CE,kH (dS l)
 | []=>by simp[dS,kH]
 | [e]=>by simp[dS,kH,CE.wf e]
 | e :: f :: l=>by
  rw[lK,kH,kH];exact⟨CE.wf e,by simp[PT.wf],TR (f :: l)⟩
end
end Go.Proofs.YtknicmmigbhpcaaGreatDoor
