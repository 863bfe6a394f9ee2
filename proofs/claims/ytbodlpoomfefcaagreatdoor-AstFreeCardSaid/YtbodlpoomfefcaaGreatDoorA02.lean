/- Walks and plain laws: ParseLaws1, ParseTree, TreePlain, TreeLaws. -/
import Derived.Test.YtbodlpoomfefcaaGreatDoorA01
set_option maxHeartbeats 16000000
set_option maxRecDepth 100000
set_option linter.unusedVariables false
set_option linter.unusedSimpArgs false
namespace Go.Proofs.YtbodlpoomfefcaaGreatDoor
def PExt (a b:PSt):Prop:=a.used≤b.used∧(a.fE≠0→b.fE=a.fE)∧b.clause=a.clause∧a.nodes.length≤b.nodes.length
theorem PExt.refl (a:PSt):PExt a a:=⟨Nat.le_refl _,fun _=>rfl,rfl,Nat.le_refl _⟩
theorem PExt.trans {a b c:PSt}(h:PExt a b)(k:PExt b c):PExt a c :=
 ⟨Nat.le_trans h.1 k.1,fun q=>by have h1:=h.2.1 q;rw [k.2.1 (by rw [h1];exact q),h1],k.2.2.1.trans h.2.2.1,Nat.le_trans h.2.2.2 k.2.2.2⟩
theorem PExt.zero {a b:PSt}(h:PExt a b)(hb:b.fE=0):a.fE=0:=by
 apply Classical.byContradiction
 intro q
 exact q (by rw [← h.2.1 q];exact hb)
theorem failM_ext (toks:List Tok)(e:Nat)(st:PSt):PExt st (failM toks e st):=by
 unfold failM
 split
 ·rename_i h;exact ⟨Nat.le_refl _,fun q=>absurd h q,rfl,Nat.le_refl _⟩
 ·exact PExt.refl _
theorem leafM_ext (toks:List Tok)(st:PSt):PExt st (leafM toks st).2:=by
 unfold leafM
 split
 ·exact PExt.refl _
 ·exact ⟨Nat.le_succ _,fun _=>rfl,rfl,by simp⟩
theorem rawM_ext (k:Int)(l:List Int)(st:PSt):PExt st (rawM k l st).2:=by
 unfold rawM
 split
 ·exact PExt.refl _
 ·exact ⟨Nat.le_refl _,fun _=>rfl,rfl,by simp⟩
theorem nodeM_ext (k:Int)(l:List Int)(st:PSt):PExt st (nodeM k l st).2:=by
 unfold nodeM
 split
 ·exact rawM_ext _ _ _
 ·exact PExt.refl _
theorem mustM_ext (toks:List Tok)(l:List (List UInt8))(st:PSt):PExt st (mustM toks l st).2:=by
 unfold mustM
 split
 ·exact leafM_ext _ _
 ·exact failM_ext _ _ _
theorem kindM_ext (toks:List Tok)(k:Nat)(st:PSt):PExt st (kindM toks k st).2:=by
 unfold kindM
 split
 ·exact leafM_ext _ _
 ·exact failM_ext _ _ _
theorem deepM_ext (toks:List Tok)(d n:Nat)(st:PSt):PExt st (deepM toks d n st):=by
 unfold deepM
 split
 ·exact failM_ext _ _ _
 ·exact PExt.refl _
theorem qualM_ext (toks:List Tok)(a:Int × PSt):PExt a.2 (qualM toks a).2:=by
 unfold qualM
 split
 ·exact (leafM_ext _ _).trans (kindM_ext _ _ _)
 ·exact PExt.refl _
theorem listLoop_ext (toks:List Tok)(one:PSt→Option (Int × PSt))(h1:∀ s k,one s=some k→PExt s k.2):∀ (r:Nat) (kids:List Int) (st:PSt) (l:List Int × PSt),listLoop toks one r kids st=some l→PExt st l.2
 | 0,kids,st,l,h=>by
  rw [listLoop] at h
  injection h with h
  subst h
  show PExt st (if st.fE=0 then failM toks 15 st else st)
  split
  ·exact failM_ext _ _ _
  ·exact PExt.refl _
 | r+1,kids,st,l,h=>by
  rw [listLoop] at h
  split at h
  ·injection h with h;subst h;exact PExt.refl _
  ·obtain ⟨k,hk,h⟩:=Option.bind_eq_some_iff.1 h
   have:=h1 _ _ hk
   split at h
   ·exact (this.trans (leafM_ext _ _)).trans (listLoop_ext toks one h1 r _ _ _ h)
   ·injection h with h;subst h;exact this
theorem listM_ext (toks:List Tok)(one:PSt→Option (Int × PSt))(h1:∀ s k,one s=some k→PExt s k.2)(st:PSt)(l:List Int × PSt)(h:listM toks one st=some l):PExt st l.2:=by
 unfold listM at h
 split at h
 ·injection h with h;subst h;exact PExt.refl _
 ·exact listLoop_ext toks one h1 _ _ _ _ h
theorem run_ext (toks:List Tok)(depth:Nat):∀ (g:Nat) (t:Task) (st:PSt) (r:Int × PSt),run toks depth g t st=some r→PExt st r.2
 | 0,_,_,_,h=>by rw [run] at h;cases h
 | g+1,.expr nest,st,r,h=>by
  have ih:=run_ext toks depth g
  rw [run] at h
  have hd:=deepM_ext toks depth nest st
  generalize deepM toks depth nest st=s at h hd
  split at h
  ·injection h with h;subst h;exact hd
  split at h
  ·exact hd.trans (ih _ _ _ h)
  split at h
  ·obtain ⟨d,h1,h⟩:=Option.bind_eq_some_iff.1 h
   obtain ⟨f,h2,h⟩:=Option.bind_eq_some_iff.1 h
   injection h with h;subst h
   exact (((((hd.trans (leafM_ext _ _)).trans (kindM_ext _ _ _)).trans (mustM_ext _ _ _)).trans (ih _ _ _ h1)).trans (mustM_ext _ _ _)).trans ((ih _ _ _ h2).trans (nodeM_ext _ _ _))
  split at h
  ·obtain ⟨b,h1,h⟩:=Option.bind_eq_some_iff.1 h
   obtain ⟨d,h2,h⟩:=Option.bind_eq_some_iff.1 h
   obtain ⟨f,h3,h⟩:=Option.bind_eq_some_iff.1 h
   injection h with h;subst h
   exact (((((hd.trans (leafM_ext _ _)).trans (ih _ _ _ h1)).trans (mustM_ext _ _ _)).trans (ih _ _ _ h2)).trans (mustM_ext _ _ _)).trans ((ih _ _ _ h3).trans (nodeM_ext _ _ _))
  split at h
  ·obtain ⟨b,h1,h⟩:=Option.bind_eq_some_iff.1 h
   obtain ⟨d,h2,h⟩:=Option.bind_eq_some_iff.1 h
   injection h with h;subst h
   exact (((hd.trans (leafM_ext _ _)).trans (ih _ _ _ h1)).trans (mustM_ext _ _ _)).trans ((ih _ _ _ h2).trans (nodeM_ext _ _ _))
  ·exact hd.trans (ih _ _ _ h)
 | g+1,.formula nest,st,r,h=>by
  have ih:=run_ext toks depth g
  rw [run] at h
  obtain ⟨a,h1,h⟩:=Option.bind_eq_some_iff.1 h
  have ha:=ih _ _ _ h1
  split at h
  ·have hd:=(ha.trans (leafM_ext toks a.2)).trans (deepM_ext toks depth (nest+1) _)
   split at h
   ·injection h with h;subst h;exact hd
   ·obtain ⟨b,h2,h⟩:=Option.bind_eq_some_iff.1 h
    injection h with h;subst h
    exact (hd.trans (ih _ _ _ h2)).trans (nodeM_ext _ _ _)
  ·injection h with h;subst h;exact ha
 | g+1,.part l nest,st,r,h=>by
  have ih:=run_ext toks depth g
  rw [run] at h
  split at h
  ·exact ih _ _ _ h
  ·split at h
   ·exact ih _ _ _ h
   ·exact ih _ _ _ h
 | g+1,.row l nest,st,r,h=>by
  have ih:=run_ext toks depth g
  rw [run] at h
  obtain ⟨a,h1,h⟩:=Option.bind_eq_some_iff.1 h
  exact (ih _ _ _ h1).trans (ih _ _ _ h)
 | g+1,.loop l nest a,st,r,h=>by
  have ih:=run_ext toks depth g
  rw [run] at h
  split at h
  ·obtain ⟨b,h1,h⟩:=Option.bind_eq_some_iff.1 h
   have hb:=((leafM_ext toks st).trans (ih _ _ _ h1)).trans (nodeM_ext 10 [a,(leafM toks st).1,b.1] _)
   split at h
   ·injection h with h;subst h;exact hb
   ·exact hb.trans (ih _ _ _ h)
  ·injection h with h;subst h;exact PExt.refl _
 | g+1,.neg nest,st,r,h=>by
  have ih:=run_ext toks depth g
  rw [run] at h
  split at h
  ·have hd:=(leafM_ext toks st).trans (deepM_ext toks depth (nest+1) _)
   split at h
   ·injection h with h;subst h;exact hd
   ·obtain ⟨b,h2,h⟩:=Option.bind_eq_some_iff.1 h
    injection h with h;subst h
    exact (hd.trans (ih _ _ _ h2)).trans (nodeM_ext _ _ _)
  ·exact ih _ _ _ h
 | g+1,.factor nest,st,r,h=>by
  have ih:=run_ext toks depth g
  rw [run] at h
  split at h
  ·have hd:=(leafM_ext toks st).trans (deepM_ext toks depth (nest+1) _)
   split at h
   ·injection h with h;subst h;exact hd
   ·obtain ⟨b,h2,h⟩:=Option.bind_eq_some_iff.1 h
    injection h with h;subst h
    exact (hd.trans (ih _ _ _ h2)).trans (nodeM_ext _ _ _)
  ·exact ih _ _ _ h
 | g+1,.atom nest,st,r,h=>by
  have ih:=run_ext toks depth g
  rw [run] at h
  split at h
  ·injection h with h;subst h;exact PExt.refl _
  split at h
  ·injection h with h;subst h;exact (leafM_ext _ _).trans (nodeM_ext _ _ _)
  split at h
  ·injection h with h;subst h;exact (leafM_ext _ _).trans (nodeM_ext _ _ _)
  split at h
  ·injection h with h;subst h;exact (leafM_ext _ _).trans (nodeM_ext _ _ _)
  split at h
  ·obtain ⟨b,h1,h⟩:=Option.bind_eq_some_iff.1 h
   injection h with h;subst h
   exact (((leafM_ext _ _).trans (ih _ _ _ h1)).trans (mustM_ext _ _ _)).trans (nodeM_ext _ _ _)
  split at h
  ·exact ih _ _ _ h
  ·injection h with h;subst h;exact failM_ext _ _ _
 | g+1,.name nest,st,r,h=>by
  have ih:=run_ext toks depth g
  rw [run] at h
  split at h
  ·injection h with h;subst h;exact (leafM_ext _ _).trans (nodeM_ext _ _ _)
  ·obtain ⟨l,h1,h⟩:=Option.bind_eq_some_iff.1 h
   injection h with h;subst h
   exact ((((leafM_ext _ _).trans (qualM_ext _ _)).trans (mustM_ext _ _ _)).trans (listM_ext toks _ (fun s k hk=>ih _ _ _ hk) _ _ h1)).trans ((mustM_ext _ _ _).trans (nodeM_ext _ _ _))
def EndOk (toks:List Tok):Prop:=(peekF toks toks.length).kind=5
theorem EndOk.pos {toks:List Tok}(h:EndOk toks):0<toks.length:=by
 cases toks with
 | nil=>cases h
 | cons t l=>simp
theorem EndOk.before {toks:List Tok}(h:EndOk toks){u:Nat}(hu:(peekF toks u).kind≠5):u+1<toks.length:=by
 apply Classical.byContradiction
 intro q
 apply hu
 have hp:=h.pos
 rw [EndOk] at h
 unfold peekF at h ⊢
 rw [show min u (toks.length - 1)=min toks.length (toks.length - 1) by omega]
 exact h
theorem next_kind {toks:List Tok}{st:PSt}{l:List (List UInt8)}(h:nextF toks st l=true):(peekF toks st.used).kind≠5:=by
 simp only [nextF,Bool.and_eq_true,Bool.or_eq_true,beq_iff_eq] at h
 omega
theorem leafM_some {toks:List Tok}{st:PSt}(h:st.used+1<toks.length):leafM toks st=(((st.nodes.length:Nat):Int),{ st with nodes:=st.nodes++[⟨19,(st.used:Nat),[]⟩],used:=st.used+1 }):=by
 unfold leafM
 rw [if_neg (by omega)]
theorem leaf_used {toks:List Tok}(hE:EndOk toks){st:PSt}(h:(peekF toks st.used).kind≠5):(leafM toks st).2.used=st.used+1∧st.used+1<toks.length:=by
 have:=hE.before h
 rw [leafM_some this]
 exact ⟨rfl,this⟩
def lvlT:Task→Nat
 | .expr _=>18
 | .formula _=>17
 | .row l _=>if l≤1 then 16 - 2 * l else 15 - 2 * l
 | .part l _=>if l≤1 then 15 - 2 * l else 14 - 2 * l
 | .neg _=>12
 | .factor _=>5
 | .atom _=>4
 | .name _=>3
 | .loop _ _ _=>1
def okT (toks:List Tok)(st:PSt):Task→Prop
 | .row l _=>l≤4
 | .part l _=>l≤4
 | .loop l _ _=>l≤4
 | .name _=>st.used<toks.length
 | _=>True
def needT (toks:List Tok)(t:Task)(st:PSt):Nat:=20 * (toks.length - st.used)+lvlT t
theorem failM_fE {toks:List Tok}{e:Nat}(he:e≠0)(st:PSt):(failM toks e st).fE≠0:=by
 unfold failM
 split
 ·exact he
 ·assumption
theorem must_used {toks:List Tok}(hE:EndOk toks)(l:List (List UInt8))(st:PSt):st.used+1≤(mustM toks l st).2.used∨(mustM toks l st).2.fE≠0:=by
 unfold mustM
 split
 ·rename_i h
  have:=(leaf_used hE (next_kind h.2)).1
  exact .inl (by rw [this];exact Nat.le_refl _)
 ·exact .inr (failM_fE (by decide) st)
theorem listLoop_total (toks:List Tok)(one:PSt→Option (Int × PSt))(base:Nat)(h1:∀ s,base≤s.used→∃ k,one s=some k∧PExt s k.2):∀ (r:Nat) (kids:List Int) (st:PSt),base≤st.used∨st.fE≠0→∃ l,listLoop toks one r kids st=some l
 | 0,kids,st,_=>⟨_,rfl⟩
 | r+1,kids,st,hb=>by
  rw [listLoop]
  split
  ·exact ⟨_,rfl⟩
  ·rename_i hf
   obtain ⟨k,hk,hx⟩:=h1 st (hb.resolve_right hf)
   rw [hk]
   simp only [Option.bind_some]
   split
   ·exact listLoop_total toks one base h1 r _ _ (.inl (Nat.le_trans (hb.resolve_right hf) (Nat.le_trans hx.1 (leafM_ext toks k.2).1)))
   ·exact ⟨_,rfl⟩
theorem run_total (toks:List Tok)(depth:Nat)(hE:EndOk toks):∀ (g:Nat) (t:Task) (st:PSt),okT toks st t→needT toks t st≤g→∃ r,run toks depth g t st=some r
 | 0,t,st,_,h=>by
  exfalso
  have:1≤lvlT t:=by
   cases t <;> simp only [lvlT] <;> first|omega|(simp only [okT] at *;split <;> omega)
  unfold needT at h
  omega
 | g+1,.expr nest,st,_,h=>by
  have ih:=run_total toks depth hE g
  rw [run]
  have hd:=deepM_ext toks depth nest st
  generalize deepM toks depth nest st=s at hd
  have hu:=hd.1
  simp only [needT,lvlT] at h
  split
  ·exact ⟨_,rfl⟩
  split
  ·exact ih _ _ trivial (by simp only [needT,lvlT];omega)
  split
  ·rename_i hn
   obtain ⟨e1,e2⟩:=leaf_used hE (next_kind hn)
   have x1:=(kindM_ext toks 1 (leafM toks s).2).1
   have x2:=(mustM_ext toks [[61]] (kindM toks 1 (leafM toks s).2).2).1
   obtain ⟨d,hd1⟩:=ih (.expr (nest+1)) (mustM toks [[61]] (kindM toks 1 (leafM toks s).2).2).2 trivial (by simp only [needT,lvlT];omega)
   have x3:=(run_ext toks depth g _ _ _ hd1).1
   have x4:=(mustM_ext toks [tIn] d.2).1
   obtain ⟨f,hf⟩:=ih (.expr (nest+1)) (mustM toks [tIn] d.2).2 trivial (by simp only [needT,lvlT];omega)
   rw [hd1,Option.bind_some,hf,Option.bind_some]
   exact ⟨_,rfl⟩
  split
  ·rename_i hn
   obtain ⟨e1,e2⟩:=leaf_used hE (next_kind hn)
   obtain ⟨b,hb⟩:=ih (.expr (nest+1)) (leafM toks s).2 trivial (by simp only [needT,lvlT];omega)
   have x3:=(run_ext toks depth g _ _ _ hb).1
   have x4:=(mustM_ext toks [tThen] b.2).1
   obtain ⟨d,hd1⟩:=ih (.expr (nest+1)) (mustM toks [tThen] b.2).2 trivial (by simp only [needT,lvlT];omega)
   have x5:=(run_ext toks depth g _ _ _ hd1).1
   have x6:=(mustM_ext toks [tElse] d.2).1
   obtain ⟨f,hf⟩:=ih (.expr (nest+1)) (mustM toks [tElse] d.2).2 trivial (by simp only [needT,lvlT];omega)
   rw [hb,Option.bind_some,hd1,Option.bind_some,hf,Option.bind_some]
   exact ⟨_,rfl⟩
  split
  ·rename_i hn
   obtain ⟨e1,e2⟩:=leaf_used hE (next_kind hn)
   obtain ⟨b,hb⟩:=ih (.expr (nest+1)) (leafM toks s).2 trivial (by simp only [needT,lvlT];omega)
   have x3:=(run_ext toks depth g _ _ _ hb).1
   have x4:=(mustM_ext toks [tIn] b.2).1
   obtain ⟨d,hd1⟩:=ih (.expr (nest+1)) (mustM toks [tIn] b.2).2 trivial (by simp only [needT,lvlT];omega)
   rw [hb,Option.bind_some,hd1,Option.bind_some]
   exact ⟨_,rfl⟩
  ·exact ih _ _ trivial (by simp only [needT,lvlT];omega)
 | g+1,.formula nest,st,_,h=>by
  have ih:=run_total toks depth hE g
  rw [run]
  simp only [needT,lvlT] at h
  obtain ⟨a,ha⟩:=ih (.row 0 nest) st (by simp [okT]) (by simp only [needT,lvlT];simp;omega)
  have x1:=(run_ext toks depth g _ _ _ ha).1
  rw [ha,Option.bind_some]
  split
  ·rename_i hn
   obtain ⟨e1,e2⟩:=leaf_used hE (next_kind hn.2)
   have x2:=(deepM_ext toks depth (nest+1) (leafM toks a.2).2).1
   split
   ·exact ⟨_,rfl⟩
   ·obtain ⟨b,hb⟩:=ih (.formula (nest+1)) (deepM toks depth (nest+1) (leafM toks a.2).2) trivial (by simp only [needT,lvlT];omega)
    rw [hb,Option.bind_some]
    exact ⟨_,rfl⟩
  ·exact ⟨_,rfl⟩
 | g+1,.part l nest,st,hl,h=>by
  have ih:=run_total toks depth hE g
  rw [run]
  simp only [needT,lvlT] at h
  simp only [okT] at hl
  split
  ·rename_i h1;subst h1
   exact ih _ _ trivial (by simp only [needT,lvlT];simp at h;omega)
  ·split
   ·rename_i h4;subst h4
    exact ih _ _ trivial (by simp only [needT,lvlT];simp at h;omega)
   ·refine ih _ _ (by simp only [okT];omega) ?_
    simp only [needT,lvlT]
    split at h
    ·obtain rfl:l=0:=by omega
     simp;omega
    ·rw [if_neg (by omega)];omega
 | g+1,.row l nest,st,hl,h=>by
  have ih:=run_total toks depth hE g
  rw [run]
  simp only [needT,lvlT] at h
  simp only [okT] at hl
  obtain ⟨a,ha⟩:=ih (.part l nest) st hl (by simp only [needT,lvlT];split at h <;> split <;> omega)
  have x1:=(run_ext toks depth g _ _ _ ha).1
  rw [ha,Option.bind_some]
  refine ih _ _ hl ?_
  simp only [needT,lvlT]
  split at h <;> omega
 | g+1,.loop l nest a,st,hl,h=>by
  have ih:=run_total toks depth hE g
  rw [run]
  simp only [needT,lvlT] at h
  simp only [okT] at hl
  split
  ·rename_i hn
   obtain ⟨e1,e2⟩:=leaf_used hE (next_kind hn.2)
   obtain ⟨b,hb⟩:=ih (.part l nest) (leafM toks st).2 hl (by simp only [needT,lvlT];split <;> omega)
   have x1:=(run_ext toks depth g _ _ _ hb).1
   have x2:=(nodeM_ext 10 [a,(leafM toks st).1,b.1] b.2).1
   rw [hb,Option.bind_some]
   split
   ·exact ⟨_,rfl⟩
   ·exact ih _ _ hl (by simp only [needT,lvlT];omega)
  ·exact ⟨_,rfl⟩
 | g+1,.neg nest,st,_,h=>by
  have ih:=run_total toks depth hE g
  rw [run]
  simp only [needT,lvlT] at h
  split
  ·rename_i hn
   obtain ⟨e1,e2⟩:=leaf_used hE (next_kind hn.2)
   have x2:=(deepM_ext toks depth (nest+1) (leafM toks st).2).1
   split
   ·exact ⟨_,rfl⟩
   ·obtain ⟨b,hb⟩:=ih (.neg (nest+1)) (deepM toks depth (nest+1) (leafM toks st).2) trivial (by simp only [needT,lvlT];omega)
    rw [hb,Option.bind_some]
    exact ⟨_,rfl⟩
  ·exact ih _ _ (by simp [okT]) (by simp only [needT,lvlT];simp;omega)
 | g+1,.factor nest,st,_,h=>by
  have ih:=run_total toks depth hE g
  rw [run]
  simp only [needT,lvlT] at h
  split
  ·rename_i hn
   obtain ⟨e1,e2⟩:=leaf_used hE (next_kind hn.2)
   have x2:=(deepM_ext toks depth (nest+1) (leafM toks st).2).1
   split
   ·exact ⟨_,rfl⟩
   ·obtain ⟨b,hb⟩:=ih (.factor (nest+1)) (deepM toks depth (nest+1) (leafM toks st).2) trivial (by simp only [needT,lvlT];omega)
    rw [hb,Option.bind_some]
    exact ⟨_,rfl⟩
  ·exact ih _ _ trivial (by simp only [needT,lvlT];omega)
 | g+1,.atom nest,st,_,h=>by
  have ih:=run_total toks depth hE g
  rw [run]
  simp only [needT,lvlT] at h
  split
  ·exact ⟨_,rfl⟩
  split
  ·exact ⟨_,rfl⟩
  split
  ·exact ⟨_,rfl⟩
  split
  ·exact ⟨_,rfl⟩
  split
  ·rename_i hn
   obtain ⟨e1,e2⟩:=leaf_used hE (next_kind hn)
   obtain ⟨b,hb⟩:=ih (.expr (nest+1)) (leafM toks st).2 trivial (by simp only [needT,lvlT];omega)
   rw [hb,Option.bind_some]
   exact ⟨_,rfl⟩
  split
  ·rename_i hk
   have:=hE.before (u:=st.used) (by omega)
   exact ih _ _ (by simp only [okT];omega) (by simp only [needT,lvlT];omega)
  ·exact ⟨_,rfl⟩
 | g+1,.name nest,st,hl0,h=>by
  have ih:=run_total toks depth hE g
  rw [run]
  simp only [needT,lvlT] at h
  split
  ·exact ⟨_,rfl⟩
  ·have x1:=(leafM_ext toks st).1
   have x2:=(qualM_ext toks (leafM toks st)).1
   have x3:=must_used hE [[40]] (qualM toks (leafM toks st)).2
   generalize (mustM toks [[40]] (qualM toks (leafM toks st)).2)=b at x3
   have hl:∃ l,listM toks (fun s=>run toks depth g (.expr (nest+1)) s) b.2=some l:=by
    unfold listM
    split
    ·exact ⟨_,rfl⟩
    ·refine listLoop_total toks _ (st.used+1) (fun s hs=>?_) _ _ _ (x3.imp (by omega) id)
     have hlt:st.used<toks.length:=hl0
     obtain ⟨k,hk⟩:=ih (.expr (nest+1)) s trivial (by simp only [needT,lvlT];omega)
     exact ⟨k,hk,run_ext toks depth g _ _ _ hk⟩
   obtain ⟨l,hl⟩:=hl
   rw [hl,Option.bind_some]
   exact ⟨_,rfl⟩
inductive PT where
 | leaf
 | node (k:Nat) (l:List PT)
mutual
def PT.lv:PT→Nat
 | .leaf=>1
 | .node _ l=>lvL l
def lvL:List PT→Nat
 | []=>0
 | t :: l=>t.lv+lvL l
end
mutual
def PT.nd:PT→Nat
 | .leaf=>1
 | .node _ l=>ndL l+1
def ndL:List PT→Nat
 | []=>0
 | t :: l=>t.nd+ndL l
end
def idsL (b:Nat):List PT→List Int
 | []=>[]
 | t :: l=>(((b+t.nd:Nat):Int) - 1) :: idsL (b+t.nd) l
mutual
def PT.em (b u:Nat):PT→List Nd
 | .leaf=>[⟨19,(u:Nat),[]⟩]
 | .node k l=>emL b u l++[⟨k,-1,idsL b l⟩]
def emL (b u:Nat):List PT→List Nd
 | []=>[]
 | t :: l=>t.em b u++emL (b+t.nd) (u+t.lv) l
end
theorem lvL_append:∀ (l k:List PT),lvL (l++k)=lvL l+lvL k
 | [],k=>by simp [lvL]
 | t :: l,k=>by simp only [List.cons_append,lvL,lvL_append l k];omega
theorem ndL_append:∀ (l k:List PT),ndL (l++k)=ndL l+ndL k
 | [],k=>by simp [ndL]
 | t :: l,k=>by simp only [List.cons_append,ndL,ndL_append l k];omega
theorem idsL_append:∀ (b:Nat) (l k:List PT),idsL b (l++k)=idsL b l++idsL (b+ndL l) k
 | b,[],k=>by simp [idsL,ndL]
 | b,t :: l,k=>by simp only [List.cons_append,idsL,idsL_append _ l k,ndL];rw [Nat.add_assoc]
theorem emL_append:∀ (b u:Nat) (l k:List PT),emL b u (l++k)=emL b u l++emL (b+ndL l) (u+lvL l) k
 | b,u,[],k=>by simp [emL,ndL,lvL]
 | b,u,t :: l,k=>by simp only [List.cons_append,emL,emL_append _ _ l k,ndL,lvL,List.append_assoc];rw [Nat.add_assoc,Nat.add_assoc]
mutual
theorem PT.em_len (b u:Nat):∀ (t:PT),(t.em b u).length=t.nd
 | .leaf=>by simp [PT.em,PT.nd]
 | .node k l=>by simp [PT.em,PT.nd,emL_len b u l]
theorem emL_len (b u:Nat):∀ (l:List PT),(emL b u l).length=ndL l
 | []=>by simp [emL,ndL]
 | t :: l=>by rw [emL,ndL,List.length_append,PT.em_len b u t,emL_len _ _ l]
end
theorem PT.nd_pos (t:PT):0<t.nd:=by cases t <;> simp [PT.nd]
theorem idsL_range:∀ (b:Nat) (l:List PT) (k:Int),k∈idsL b l→(b:Int)≤k∧k<((b+ndL l:Nat):Int)
 | _,[],k,h=>by cases h
 | b,t :: l,k,h=>by
  have hp:=t.nd_pos
  rw [idsL,List.mem_cons] at h
  rw [ndL]
  rcases h with rfl|h
  ·omega
  ·have:=idsL_range _ l k h
   omega
def Grew (st:PSt)(l:List PT)(st':PSt):Prop:=st'={ st with nodes:=st.nodes++emL st.nodes.length st.used l,used:=st.used+lvL l }
theorem Grew.nil (st:PSt):Grew st [] st:=by simp [Grew,emL,lvL]
theorem Grew.append {a b c:PSt}{l k:List PT}(h:Grew a l b)(h2:Grew b k c):Grew a (l++k) c:=by
 rw [Grew] at h h2 ⊢
 rw [h2,h]
 simp only [List.length_append,emL_len,emL_append,lvL_append,List.append_assoc,Nat.add_assoc]
theorem Grew.len {a b:PSt}{l:List PT}(h:Grew a l b):b.nodes.length=a.nodes.length+ndL l:=by rw [h];simp [emL_len]
theorem Grew.used {a b:PSt}{l:List PT}(h:Grew a l b):b.used=a.used+lvL l:=by rw [h]
theorem Grew.clause {a b:PSt}{l:List PT}(h:Grew a l b):b.clause=a.clause:=by rw [h]
theorem Grew.fE {a b:PSt}{l:List PT}(h:Grew a l b):b.fE=a.fE:=by rw [h]
theorem Grew.leaf {toks:List Tok}{st:PSt}(h:st.used+1≤toks.length):Grew st [.leaf] (leafM toks st).2∧(leafM toks st).1=((st.nodes.length:Nat):Int):=by
 unfold leafM
 rw [if_neg (by omega)]
 exact ⟨by simp [Grew,emL,PT.em,lvL,PT.lv],rfl⟩
theorem Grew.node {a b:PSt}{l:List PT}(h:Grew a l b)(hf:b.fE=0)(k:Nat):Grew a [.node k l] (nodeM k (idsL a.nodes.length l) b).2∧(nodeM k (idsL a.nodes.length l) b).1=((a.nodes.length+ndL l:Nat):Int):=by
 have hlen:=h.len
 unfold nodeM
 rw [if_pos hf]
 unfold rawM
 rw [if_neg]
 ·refine ⟨?_,by rw [hlen]⟩
  rw [Grew] at h ⊢
  rw [h]
  simp [emL,PT.em,lvL,PT.lv]
 ·intro q
  obtain ⟨x,hx,hy⟩:=List.any_eq_true.1 q
  have:=idsL_range _ _ _ hx
  simp only [Bool.or_eq_true,decide_eq_true_eq] at hy
  omega
inductive CE where
 | num|truth|res|nam
 | group (e:CE)
 | un (e:CE)
 | bin (a b:CE)
 | iff (a b c:CE)
 | lett (a b:CE)
 | asrt (a b:CE)
 | call (q:Bool) (l:List CE)
mutual
def CE.pt:CE→PT
 | .num=>.node 15 [.leaf]
 | .truth=>.node 16 [.leaf]
 | .res=>.node 17 [.leaf]
 | .nam=>.node 14 [.leaf]
 | .group e=>.node 12 [.leaf,e.pt,.leaf]
 | .un e=>.node 11 [.leaf,e.pt]
 | .bin a b=>.node 10 [a.pt,.leaf,b.pt]
 | .iff a b c=>.node 8 [.leaf,a.pt,.leaf,b.pt,.leaf,c.pt]
 | .lett a b=>.node 7 [.leaf,.leaf,.leaf,a.pt,.leaf,b.pt]
 | .asrt a b=>.node 9 [.leaf,a.pt,.leaf,b.pt]
 | .call q l=>.node 13 ((if q then [.leaf,.leaf,.leaf] else [.leaf])++[.leaf]++argsPT l++[.leaf])
def argsPT:List CE→List PT
 | []=>[]
 | e :: l=>e.pt :: (match l with | []=>[]|_ :: _=>.leaf :: argsPT l)
end
theorem argsPT_one (e:CE):argsPT [e]=[e.pt]:=by simp [argsPT]
theorem argsPT_two (e f:CE)(l:List CE):argsPT (e :: f :: l)=e.pt :: .leaf :: argsPT (f :: l):=by
 conv=>lhs;rw [argsPT]
def textAt (toks:List Tok)(u:Nat):List UInt8:=(peekF toks u).text
def kindAt (toks:List Tok)(u:Nat):Nat:=(peekF toks u).kind
def binL:List (List UInt8):=[[43],[45],[42],[47],[37],[61],[60,62],[60],[60,61],[62],[62,61],[38,38],[124,124],[61,62]]
mutual
def CE.ok (toks:List Tok)(cl:Bool)(u:Nat):CE→Prop
 | .num=>kindAt toks u=3
 | .truth=>textAt toks u=tTrue∨textAt toks u=tFalse
 | .res=>cl=true∧textAt toks u=tRes
 | .nam=>kindAt toks u=1
 | .group e=>textAt toks u=[40]∧e.ok toks cl (u+1)
 | .un e=>(textAt toks u=tNot∨textAt toks u=[45])∧e.ok toks cl (u+1)
 | .bin a b=>textAt toks (u+a.pt.lv)∈binL∧a.ok toks cl u∧b.ok toks cl (u+a.pt.lv+1)
 | .iff a b c=>cl=false∧a.ok toks cl (u+1)∧b.ok toks cl (u+1+a.pt.lv+1)∧c.ok toks cl (u+1+a.pt.lv+1+b.pt.lv+1)
 | .lett a b=>cl=false∧kindAt toks (u+1)=1∧a.ok toks cl (u+3)∧b.ok toks cl (u+3+a.pt.lv+1)
 | .asrt a b=>cl=false∧a.ok toks cl (u+1)∧b.ok toks cl (u+1+a.pt.lv+1)
 | .call q l=>cl=false∧kindAt toks u=1∧l.length≤8∧(if q then textAt toks (u+1)=[46]∧kindAt toks (u+2)=1∧argsOk toks cl (u+4) l else textAt toks (u+1)=[40]∧argsOk toks cl (u+2) l)
def argsOk (toks:List Tok)(cl:Bool)(u:Nat):List CE→Prop
 | []=>True
 | e :: l=>e.ok toks cl u∧argsOk toks cl (u+e.pt.lv+1) l
end
def Res (toks:List Tok)(st:PSt)(r:Int × PSt)(e:CE):Prop :=
 Grew st [e.pt] r.2∧r.1=((st.nodes.length+e.pt.nd:Nat):Int) - 1∧e.ok toks st.clause st.used∧(st.used<toks.length→r.2.used<toks.length)
def formedB (nt i:Nat)(n:Nd):Bool :=
 if n.kind<1∨19<n.kind then false
 else if n.kind=19 then decide (n.kids.length=0) && (decide (0≤n.tok) && decide (n.tok<nt))
 else decide (n.tok=-1) && !(n.kids.any fun k=>decide (k<0) || decide ((i:Int)≤k))
def markF:List Bool→List Int→Option (List Bool)
 | kid,[]=>some kid
 | kid,k :: ks=>if kid.getD k.toNat false=true then none else markF (kid.set k.toNat true) ks
def marksF (nt:Nat):Nat→List Nd→List Bool→Option (List Bool)
 | _,[],kid=>some kid
 | i,n :: l,kid=>if formedB nt i n=true then (markF kid n.kids).bind (marksF nt (i+1) l) else none
def leavesM (nodes:List Nd):Nat→List Int→List Int→Option (List Int)
 | 0,_,_=>none
 | _+1,[],out=>some out
 | g+1,i :: rest,out =>
  if i<0 then none
  else match nodes[i.toNat]? with
   | none=>none
   | some x=>if x.kind=19 then leavesM nodes g rest (out++[x.tok]) else if 549755813888<(x.kids++rest).length then none else leavesM nodes g (x.kids++rest) out
def countsB:Nat→List Int→Bool
 | _,[]=>true
 | i,k :: l=>decide ((i:Int)=k) && countsB (i+1) l
def marksAll (nt:Nat)(nodes:List Nd):Option (List Bool):=marksF nt 0 nodes (List.replicate nodes.length false)
def rightB (nt:Nat)(nodes:List Nd)(l:List Int):Bool :=
 match marksAll nt nodes with
 | none=>false
 | some kid=>!(decide (kid.length=0)) && !((kid.take (nodes.length - 1)).contains false) && countsB 0 l && decide (l.length=nt)
def decF (n:Nat):List UInt8:=if h:n<10 then [UInt8.ofNat (48+n)] else decF (n / 10)++[UInt8.ofNat (48+n % 10)]
decreasing_by omega
def leafDump (t:Tok):List UInt8:=(if t.kind=5 then [36] else [])++t.text
def dumpKids (f:Int→Option (List UInt8)):List Int→Option (List UInt8)
 | []=>some []
 | k :: ks=>(f k).bind fun a=>(dumpKids f ks).bind fun b=>some ([32]++a++b)
def dumpM (toks:List Tok)(nodes:List Nd):Nat→Int→Option (List UInt8)
 | 0,_=>none
 | g+1,n =>
  if n<0 then none
  else match nodes[n.toNat]? with
   | none=>none
   | some x =>
    if x.kind=19 then (if x.tok<0 then none else (toks[x.tok.toNat]?).map leafDump)
    else (dumpKids (dumpM toks nodes g) x.kids).map fun b=>[40]++decF x.kind.toNat++b++[41]
mutual
def PT.dump (toks:List Tok)(u:Nat):PT→List UInt8
 | .leaf=>leafDump (peekF toks u)
 | .node k l=>[40]++decF k++dumpL toks u l++[41]
def dumpL (toks:List Tok)(u:Nat):List PT→List UInt8
 | []=>[]
 | t :: l=>[32]++t.dump toks u++dumpL toks (u+t.lv) l
end
mutual
def Rep (nodes:List Nd)(n:Int)(u:Nat):PT→Prop
 | .leaf=>0≤n∧nodes[n.toNat]?=some ⟨19,(u:Nat),[]⟩
 | .node k l=>∃ ks,0≤n∧nodes[n.toNat]?=some ⟨k,-1,ks⟩∧RepL nodes ks u l
def RepL (nodes:List Nd)(ks:List Int)(u:Nat):List PT→Prop
 | []=>ks=[]
 | t :: l=>∃ k ks',ks=k :: ks'∧Rep nodes k u t∧RepL nodes ks' (u+t.lv) l
end
mutual
theorem Rep.more {nodes more:List Nd}:∀ {t:PT} {n:Int} {u:Nat},Rep nodes n u t→Rep (nodes++more) n u t
 | .leaf,n,u,h=>by
  rw [Rep] at h ⊢
  exact ⟨h.1,by rw [List.getElem?_append_left (List.getElem?_eq_some_iff.1 h.2).1];exact h.2⟩
 | .node k l,n,u,h=>by
  rw [Rep] at h ⊢
  obtain ⟨ks,h0,h1,h2⟩:=h
  exact ⟨ks,h0,by rw [List.getElem?_append_left (List.getElem?_eq_some_iff.1 h1).1];exact h1,RepL.more h2⟩
theorem RepL.more {nodes more:List Nd}:∀ {l:List PT} {ks:List Int} {u:Nat},RepL nodes ks u l→RepL (nodes++more) ks u l
 | [],ks,u,h=>by rw [RepL] at h ⊢;exact h
 | t :: l,ks,u,h=>by
  rw [RepL] at h ⊢
  obtain ⟨k,ks',e,h1,h2⟩:=h
  exact ⟨k,ks',e,Rep.more h1,RepL.more h2⟩
end
mutual
theorem Rep.em {pre:List Nd}:∀ (t:PT) (b u:Nat),pre.length=b→Rep (pre++t.em b u) (((b+t.nd:Nat):Int) - 1) u t
 | .leaf,b,u,hb=>by
  rw [Rep,PT.em,PT.nd]
  refine ⟨by omega,?_⟩
  rw [show ((((b+1:Nat):Int) - 1).toNat)=pre.length by omega]
  simp
 | .node k l,b,u,hb=>by
  have hl:=RepL.em (pre:=pre) l b u hb
  have hn:(pre++emL b u l).length=b+ndL l:=by rw [List.length_append,emL_len,hb]
  rw [Rep,PT.em,PT.nd,← List.append_assoc]
  refine ⟨idsL b l,by omega,?_,hl.more⟩
  rw [show ((((b+(ndL l+1):Nat):Int) - 1).toNat)=(pre++emL b u l).length by omega]
  simp
theorem RepL.em {pre:List Nd}:∀ (l:List PT) (b u:Nat),pre.length=b→RepL (pre++emL b u l) (idsL b l) u l
 | [],b,u,hb=>by rw [RepL,idsL]
 | t :: l,b,u,hb=>by
  have h1:=Rep.em (pre:=pre) t b u hb
  have h2:=RepL.em (pre:=pre++t.em b u) l (b+t.nd) (u+t.lv) (by rw [List.length_append,PT.em_len,hb])
  rw [RepL,emL,idsL]
  refine ⟨_,_,rfl,?_,?_⟩
  ·rw [← List.append_assoc];exact h1.more
  ·rw [← List.append_assoc];exact h2
end
mutual
def PT.wf:PT→Prop
 | .leaf=>True
 | .node k l=>1≤k∧k≤18∧wfL l
def wfL:List PT→Prop
 | []=>True
 | t :: l=>t.wf∧wfL l
end
def tokR (u n:Nat):List Int:=(List.range' u n).map fun (k:Nat)=>(k:Int)
theorem tokR_add (u n m:Nat):tokR u (n+m)=tokR u n++tokR (u+n) m:=by
 unfold tokR
 rw [← List.map_append,← List.range'_append_1]
theorem repL_len {nodes:List Nd}:∀ {l:List PT} {ks:List Int} {u:Nat},RepL nodes ks u l→ks.length=l.length∧ks.length≤ndL l
 | [],ks,u,h=>by rw [RepL] at h;subst h;exact ⟨rfl,by simp⟩
 | t :: l,ks,u,h=>by
  rw [RepL] at h
  obtain ⟨k,ks',rfl,_,h2⟩:=h
  obtain ⟨a,b⟩:=repL_len h2
  have:=t.nd_pos
  rw [ndL]
  simp only [List.length_cons]
  omega
mutual
theorem leaves_rep {nodes:List Nd}:∀ (t:PT) (n:Int) (u g:Nat) (rest out:List Int),Rep nodes n u t→t.wf→rest.length+t.nd≤549755813888→leavesM nodes (g+t.nd) (n :: rest) out=leavesM nodes g rest (out++tokR u t.lv)
 | .leaf,n,u,g,rest,out,h,_,_=>by
  rw [Rep] at h
  rw [PT.nd,leavesM,if_neg (by omega),h.2,PT.lv]
  simp only [if_true]
  rfl
 | .node k l,n,u,g,rest,out,h,hw,hs=>by
  rw [Rep] at h
  obtain ⟨ks,h0,h1,h2⟩:=h
  rw [PT.wf] at hw
  obtain ⟨e1,e2⟩:=repL_len h2
  rw [PT.nd] at hs
  rw [PT.nd,← Nat.add_assoc,leavesM,if_neg (by omega),h1,PT.lv]
  simp only
  rw [if_neg (by omega),if_neg (by rw [List.length_append];omega)]
  exact leaves_repL l ks u g rest out h2 hw.2.2 (by omega)
theorem leaves_repL {nodes:List Nd}:∀ (l:List PT) (ks:List Int) (u g:Nat) (rest out:List Int),RepL nodes ks u l→wfL l→rest.length+ndL l≤549755813888→leavesM nodes (g+ndL l) (ks++rest) out=leavesM nodes g rest (out++tokR u (lvL l))
 | [],ks,u,g,rest,out,h,_,_=>by
  rw [RepL] at h
  subst h
  simp [ndL,lvL,tokR]
 | t :: l,ks,u,g,rest,out,h,hw,hs=>by
  rw [RepL] at h
  obtain ⟨k,ks',rfl,h1,h2⟩:=h
  rw [wfL] at hw
  rw [ndL] at hs
  have hp:=t.nd_pos
  have hk:=(repL_len h2).2
  rw [ndL,lvL,tokR_add,List.cons_append,show g+(t.nd+ndL l)=(g+ndL l)+t.nd by omega,leaves_rep t k u _ _ _ h1 hw.1 (by rw [List.length_append];omega),leaves_repL l ks' _ g rest _ h2 hw.2 (by omega),List.append_assoc]
end
mutual
theorem dump_rep {toks:List Tok}{nodes:List Nd}:∀ (t:PT) (n:Int) (u g:Nat),Rep nodes n u t→t.wf→u+t.lv≤toks.length→dumpM toks nodes (g+t.nd) n=some (t.dump toks u)
 | .leaf,n,u,g,h,_,hl=>by
  rw [Rep] at h
  rw [PT.lv] at hl
  rw [PT.nd,dumpM,if_neg (by omega),h.2,PT.dump]
  simp only [if_true]
  rw [if_neg (by omega),Int.toNat_natCast,peekF,Nat.min_eq_left (by omega),List.getElem?_eq_getElem (by omega),List.getD_eq_getElem?_getD,List.getElem?_eq_getElem (by omega)]
  rfl
 | .node k l,n,u,g,h,hw,hl=>by
  rw [Rep] at h
  obtain ⟨ks,h0,h1,h2⟩:=h
  rw [PT.wf] at hw
  rw [PT.lv] at hl
  rw [PT.nd,← Nat.add_assoc,dumpM,if_neg (by omega),h1,PT.dump]
  simp only
  rw [if_neg (by omega),dump_repL l ks u g h2 hw.2.2 hl]
  simp
theorem dump_repL {toks:List Tok}{nodes:List Nd}:∀ (l:List PT) (ks:List Int) (u g:Nat),RepL nodes ks u l→wfL l→u+lvL l≤toks.length→dumpKids (dumpM toks nodes (g+ndL l)) ks=some (dumpL toks u l)
 | [],ks,u,g,h,_,_=>by
  rw [RepL] at h
  subst h
  rw [dumpKids,dumpL]
 | t :: l,ks,u,g,h,hw,hl=>by
  rw [RepL] at h
  obtain ⟨k,ks',rfl,h1,h2⟩:=h
  rw [wfL] at hw
  rw [lvL] at hl
  have e1:=dump_rep (toks:=toks) t k u (g+ndL l) h1 hw.1 (by omega)
  have e2:=dump_repL (toks:=toks) l ks' (u+t.lv) (g+t.nd) h2 hw.2 (by omega)
  rw [show g+ndL l+t.nd=g+ndL (t :: l) by rw [ndL];omega] at e1
  rw [show g+t.nd+ndL l=g+ndL (t :: l) by rw [ndL];omega] at e2
  rw [dumpKids,e1,Option.bind_some,e2,Option.bind_some,dumpL]
end
def unmL:List PT→List Bool
 | []=>[]
 | t :: l=>List.replicate (t.nd - 1) true++[false]++unmL l
theorem mark_ids:∀ (l:List PT) (A R:List Bool) (b:Nat),A.length=b→markF (A++unmL l++R) (idsL b l)=some (A++List.replicate (ndL l) true++R)
 | [],A,R,b,_=>by simp [unmL,idsL,markF,ndL]
 | t :: l,A,R,b,hA=>by
  have hp:=t.nd_pos
  have e:(((b+t.nd:Nat):Int) - 1).toNat=(A++List.replicate (t.nd - 1) true).length:=by simp;omega
  rw [idsL,markF,e,unmL]
  have e2:A++(List.replicate (t.nd - 1) true++[false]++unmL l)++R=(A++List.replicate (t.nd - 1) true)++false :: (unmL l++R):=by simp
  rw [e2,if_neg (by simp),List.set_append_right _ _ (Nat.le_refl _),Nat.sub_self,List.set_cons_zero]
  have ih:=mark_ids l (A++List.replicate (t.nd - 1) true++[true]) R (b+t.nd) (by simp;omega)
  have e3:A++List.replicate (t.nd - 1) true++[true]++unmL l++R=A++List.replicate (t.nd - 1) true++true :: (unmL l++R):=by simp
  rw [e3] at ih
  rw [ih,ndL]
  have e4:List.replicate (t.nd - 1) true++[true]=List.replicate t.nd true:=by
   conv=>rhs;rw [show t.nd=(t.nd - 1)+1 by omega,List.replicate_succ']
  congr 1
  rw [List.append_assoc A,e4,← List.replicate_append_replicate,List.append_assoc,List.append_assoc,List.append_assoc,List.append_assoc]
theorem ids_any (b:Nat)(l:List PT):(idsL b l).any (fun k=>decide (k<0) || decide (((b+ndL l:Nat):Int)≤k))=false:=by
 rw [← Bool.not_eq_true,List.any_eq_true]
 rintro ⟨x,hx,hy⟩
 have:=idsL_range _ _ _ hx
 simp only [Bool.or_eq_true,decide_eq_true_eq] at hy
 omega
mutual
theorem marks_em (nt:Nat):∀ (t:PT) (b u:Nat) (A:List Bool) (m:Nat) (more:List Nd),t.wf→A.length=b→u+t.lv≤nt →
  marksF nt b (t.em b u++more) (A++List.replicate (t.nd+m) false)=marksF nt (b+t.nd) more (A++List.replicate (t.nd - 1) true++[false]++List.replicate m false)
 | .leaf,b,u,A,m,more,_,_,hu=>by
  rw [PT.lv] at hu
  rw [PT.em,PT.nd,List.cons_append,List.nil_append,marksF,if_pos]
  ·rw [markF,Option.bind_some,Nat.add_comm 1 m,List.replicate_succ]
   simp
  ·simp [formedB]
   omega
 | .node k l,b,u,A,m,more,hw,hA,hu=>by
  rw [PT.wf] at hw
  rw [PT.lv] at hu
  have h:=marks_emL nt l b u A (1+m) ([⟨k,-1,idsL b l⟩]++more) hw.2.2 hA hu
  rw [PT.em,PT.nd,List.append_assoc,show ndL l+1+m=ndL l+(1+m) by omega,h,List.cons_append,List.nil_append,marksF,if_pos]
  ·rw [mark_ids l A _ b hA,Option.bind_some,Nat.add_comm 1 m,List.replicate_succ]
   simp [Nat.add_assoc]
  ·unfold formedB
   rw [if_neg (by simp only;omega),if_neg (by simp only;omega)]
   simp only [ids_any]
   rfl
theorem marks_emL (nt:Nat):∀ (l:List PT) (b u:Nat) (A:List Bool) (m:Nat) (more:List Nd),wfL l→A.length=b→u+lvL l≤nt →
  marksF nt b (emL b u l++more) (A++List.replicate (ndL l+m) false)=marksF nt (b+ndL l) more (A++unmL l++List.replicate m false)
 | [],b,u,A,m,more,_,_,_=>by simp [emL,ndL,unmL]
 | t :: l,b,u,A,m,more,hw,hA,hu=>by
  rw [wfL] at hw
  rw [lvL] at hu
  have hp:=t.nd_pos
  have h1:=marks_em nt t b u A (ndL l+m) (emL (b+t.nd) (u+t.lv) l++more) hw.1 hA (by omega)
  have h2:=marks_emL nt l (b+t.nd) (u+t.lv) (A++List.replicate (t.nd - 1) true++[false]) m more hw.2 (by simp;omega) (by omega)
  rw [emL,ndL,List.append_assoc,Nat.add_assoc,h1,h2,unmL,Nat.add_assoc]
  simp
end
theorem counts_range:∀ (n u:Nat),countsB u (tokR u n)=true
 | 0,u=>by simp [tokR,countsB]
 | n+1,u=>by
  have h:=counts_range n (u+1)
  simp only [tokR,List.range'_succ,List.map_cons,countsB] at h ⊢
  simp [h]
theorem right_em (t:PT)(hw:t.wf)(nt:Nat)(h:t.lv=nt):rightB nt (t.em 0 0) (tokR 0 nt)=true:=by
 have hp:=t.nd_pos
 have h1:=marks_em nt t 0 0 [] 0 [] hw rfl (by omega)
 rw [List.append_nil,List.nil_append,Nat.add_zero,marksF] at h1
 have h2:marksAll nt (t.em 0 0)=some (List.replicate (t.nd - 1) true++[false]):=by
  rw [marksAll,PT.em_len,h1];simp
 unfold rightB
 rw [h2]
 simp only [PT.em_len,counts_range,Bool.and_true]
 rw [List.take_append_of_le_length (by simp),List.take_of_length_le (by simp)]
 have h3:(List.replicate (t.nd - 1) true).contains false=false:=by
  rw [← Bool.not_eq_true,List.contains_iff_mem,List.mem_replicate]
  simp
 rw [h3]
 simp [tokR]
theorem leaves_em (t:PT)(hw:t.wf)(h:t.nd≤549755813888):leavesM (t.em 0 0) (t.nd+1) [((t.nd:Nat):Int) - 1] []=some (tokR 0 t.lv):=by
 have hr:=Rep.em (pre:=[]) t 0 0 rfl
 rw [List.nil_append,Nat.zero_add] at hr
 rw [Nat.add_comm,leaves_rep t _ 0 1 [] [] hr hw (by simpa using h),leavesM,List.nil_append]
theorem dump_em (toks:List Tok)(t:PT)(hw:t.wf)(h:t.lv≤toks.length):dumpM toks (t.em 0 0) t.nd (((t.nd:Nat):Int) - 1)=some (t.dump toks 0):=by
 have hr:=Rep.em (pre:=[]) t 0 0 rfl
 rw [List.nil_append,Nat.zero_add] at hr
 have:=dump_rep (toks:=toks) t _ 0 0 hr hw (by omega)
 rw [Nat.zero_add] at this
 exact this
mutual
theorem CE.wf:∀ e:CE,e.pt.wf
 | .num=>by simp [CE.pt,PT.wf,wfL]
 | .truth=>by simp [CE.pt,PT.wf,wfL]
 | .res=>by simp [CE.pt,PT.wf,wfL]
 | .nam=>by simp [CE.pt,PT.wf,wfL]
 | .group e=>by simp [CE.pt,PT.wf,wfL,CE.wf e]
 | .un e=>by simp [CE.pt,PT.wf,wfL,CE.wf e]
 | .bin a b=>by simp [CE.pt,PT.wf,wfL,CE.wf a,CE.wf b]
 | .iff a b c=>by simp [CE.pt,PT.wf,wfL,CE.wf a,CE.wf b,CE.wf c]
 | .lett a b=>by simp [CE.pt,PT.wf,wfL,CE.wf a,CE.wf b]
 | .asrt a b=>by simp [CE.pt,PT.wf,wfL,CE.wf a,CE.wf b]
 | .call q l=>by
  have h:=argsWf l
  have e:∀ (a b:List PT),wfL a→wfL b→wfL (a++b):=fun a b ha hb=>by
   induction a with
   | nil=>exact hb
   | cons x a ih=>rw [wfL] at ha;rw [List.cons_append,wfL];exact ⟨ha.1,ih ha.2⟩
  rw [CE.pt,PT.wf]
  refine ⟨by omega,by omega,e _ _ (e _ _ (e _ _ ?_ (by simp [wfL,PT.wf])) h) (by simp [wfL,PT.wf])⟩
  cases q <;> simp [wfL,PT.wf]
theorem argsWf:∀ l:List CE,wfL (argsPT l)
 | []=>by simp [argsPT,wfL]
 | [e]=>by simp [argsPT,wfL,CE.wf e]
 | e :: f :: l=>by
  rw [argsPT_two,wfL,wfL]
  exact ⟨CE.wf e,by simp [PT.wf],argsWf (f :: l)⟩
end
end Go.Proofs.YtbodlpoomfefcaaGreatDoor
