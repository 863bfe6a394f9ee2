/- Walks and plain laws: ParseLaws1, ParseLaws4, ParseLaws5, ParseLaws2. -/
import Derived.Test.YtemkhbmkaalgdaaGreatDoorQ01
set_option maxHeartbeats 16000000
set_option maxRecDepth 100000
namespace Go.Proofs.YtemkhbmkaalgdaaGreatDoor
def PExt (a b:PSt):Prop:=a.used≤b.used∧(a.fE≠0→b.fE=a.fE)∧b.clause=a.clause∧a.nodes.length≤b.nodes.length
theorem PExt.refl (a:PSt):PExt a a:=⟨Nat.le_refl _,fun _=>rfl,rfl,Nat.le_refl _⟩
theorem PExt.trans {a b c:PSt}(h:PExt a b)(k:PExt b c):PExt a c :=
 ⟨Nat.le_trans h.1 k.1,fun q=>by have h1:=h.2.1 q;rw [k.2.1 (by rw [h1];exact q),h1],k.2.2.1.trans h.2.2.1,Nat.le_trans h.2.2.2 k.2.2.2⟩
theorem PExt.zero {a b:PSt}(h:PExt a b)(hb:b.fE=0):a.fE=0:=by
 apply Classical.byContradiction
 intro q
 exact q (by rw [← h.2.1 q];exact hb)
theorem failM_ext (toks:List Tok)(e:Nat)(st:PSt):PExt st (failM toks e st):=by
 unfold failM
 split
 ·rename_i h;exact ⟨Nat.le_refl _,fun q=>absurd h q,rfl,Nat.le_refl _⟩
 ·exact PExt.refl _
theorem leafM_ext (toks:List Tok)(st:PSt):PExt st (leafM toks st).2:=by
 unfold leafM
 split
 ·exact PExt.refl _
 ·exact ⟨Nat.le_succ _,fun _=>rfl,rfl,by simp⟩
theorem rawM_ext (k:Int)(l:List Int)(st:PSt):PExt st (rawM k l st).2:=by
 unfold rawM
 split
 ·exact PExt.refl _
 ·exact ⟨Nat.le_refl _,fun _=>rfl,rfl,by simp⟩
theorem nodeM_ext (k:Int)(l:List Int)(st:PSt):PExt st (nodeM k l st).2:=by
 unfold nodeM
 split
 ·exact rawM_ext _ _ _
 ·exact PExt.refl _
theorem mustM_ext (toks:List Tok)(l:List (List UInt8))(st:PSt):PExt st (mustM toks l st).2:=by
 unfold mustM
 split
 ·exact leafM_ext _ _
 ·exact failM_ext _ _ _
theorem kindM_ext (toks:List Tok)(k:Nat)(st:PSt):PExt st (kindM toks k st).2:=by
 unfold kindM
 split
 ·exact leafM_ext _ _
 ·exact failM_ext _ _ _
theorem deepM_ext (toks:List Tok)(d n:Nat)(st:PSt):PExt st (deepM toks d n st):=by
 unfold deepM
 split
 ·exact failM_ext _ _ _
 ·exact PExt.refl _
theorem qualM_ext (toks:List Tok)(a:Int × PSt):PExt a.2 (qualM toks a).2:=by
 unfold qualM
 split
 ·exact (leafM_ext _ _).trans (kindM_ext _ _ _)
 ·exact PExt.refl _
theorem listLoop_ext (toks:List Tok)(one:PSt→Option (Int × PSt))(h1:∀ s k,one s=some k→PExt s k.2):∀ (r:Nat) (kids:List Int) (st:PSt) (l:List Int × PSt),listLoop toks one r kids st=some l→PExt st l.2
 | 0,kids,st,l,h=>by
  rw [listLoop] at h
  injection h with h
  subst h
  show PExt st (if st.fE=0 then failM toks 15 st else st)
  split
  ·exact failM_ext _ _ _
  ·exact PExt.refl _
 | r+1,kids,st,l,h=>by
  rw [listLoop] at h
  split at h
  ·injection h with h;subst h;exact PExt.refl _
  ·obtain ⟨k,hk,h⟩:=Option.bind_eq_some_iff.1 h
   have:=h1 _ _ hk
   split at h
   ·exact (this.trans (leafM_ext _ _)).trans (listLoop_ext toks one h1 r _ _ _ h)
   ·injection h with h;subst h;exact this
theorem listM_ext (toks:List Tok)(one:PSt→Option (Int × PSt))(h1:∀ s k,one s=some k→PExt s k.2)(st:PSt)(l:List Int × PSt)(h:listM toks one st=some l):PExt st l.2:=by
 unfold listM at h
 split at h
 ·injection h with h;subst h;exact PExt.refl _
 ·exact listLoop_ext toks one h1 _ _ _ _ h
theorem run_ext (toks:List Tok)(depth:Nat):∀ (g:Nat) (t:Task) (st:PSt) (r:Int × PSt),run toks depth g t st=some r→PExt st r.2
 | 0,_,_,_,h=>by rw [run] at h;cases h
 | g+1,.expr nest,st,r,h=>by
  have ih:=run_ext toks depth g
  rw [run] at h
  have hd:=deepM_ext toks depth nest st
  generalize deepM toks depth nest st=s at h hd
  split at h
  ·injection h with h;subst h;exact hd
  split at h
  ·exact hd.trans (ih _ _ _ h)
  split at h
  ·obtain ⟨d,h1,h⟩:=Option.bind_eq_some_iff.1 h
   obtain ⟨f,h2,h⟩:=Option.bind_eq_some_iff.1 h
   injection h with h;subst h
   exact (((((hd.trans (leafM_ext _ _)).trans (kindM_ext _ _ _)).trans (mustM_ext _ _ _)).trans (ih _ _ _ h1)).trans (mustM_ext _ _ _)).trans ((ih _ _ _ h2).trans (nodeM_ext _ _ _))
  split at h
  ·obtain ⟨b,h1,h⟩:=Option.bind_eq_some_iff.1 h
   obtain ⟨d,h2,h⟩:=Option.bind_eq_some_iff.1 h
   obtain ⟨f,h3,h⟩:=Option.bind_eq_some_iff.1 h
   injection h with h;subst h
   exact (((((hd.trans (leafM_ext _ _)).trans (ih _ _ _ h1)).trans (mustM_ext _ _ _)).trans (ih _ _ _ h2)).trans (mustM_ext _ _ _)).trans ((ih _ _ _ h3).trans (nodeM_ext _ _ _))
  split at h
  ·obtain ⟨b,h1,h⟩:=Option.bind_eq_some_iff.1 h
   obtain ⟨d,h2,h⟩:=Option.bind_eq_some_iff.1 h
   injection h with h;subst h
   exact (((hd.trans (leafM_ext _ _)).trans (ih _ _ _ h1)).trans (mustM_ext _ _ _)).trans ((ih _ _ _ h2).trans (nodeM_ext _ _ _))
  ·exact hd.trans (ih _ _ _ h)
 | g+1,.formula nest,st,r,h=>by
  have ih:=run_ext toks depth g
  rw [run] at h
  obtain ⟨a,h1,h⟩:=Option.bind_eq_some_iff.1 h
  have ha:=ih _ _ _ h1
  split at h
  ·have hd:=(ha.trans (leafM_ext toks a.2)).trans (deepM_ext toks depth (nest+1) _)
   split at h
   ·injection h with h;subst h;exact hd
   ·obtain ⟨b,h2,h⟩:=Option.bind_eq_some_iff.1 h
    injection h with h;subst h
    exact (hd.trans (ih _ _ _ h2)).trans (nodeM_ext _ _ _)
  ·injection h with h;subst h;exact ha
 | g+1,.part l nest,st,r,h=>by
  have ih:=run_ext toks depth g
  rw [run] at h
  split at h
  ·exact ih _ _ _ h
  ·split at h
   ·exact ih _ _ _ h
   ·exact ih _ _ _ h
 | g+1,.row l nest,st,r,h=>by
  have ih:=run_ext toks depth g
  rw [run] at h
  obtain ⟨a,h1,h⟩:=Option.bind_eq_some_iff.1 h
  exact (ih _ _ _ h1).trans (ih _ _ _ h)
 | g+1,.loop l nest a,st,r,h=>by
  have ih:=run_ext toks depth g
  rw [run] at h
  split at h
  ·obtain ⟨b,h1,h⟩:=Option.bind_eq_some_iff.1 h
   have hb:=((leafM_ext toks st).trans (ih _ _ _ h1)).trans (nodeM_ext 10 [a,(leafM toks st).1,b.1] _)
   split at h
   ·injection h with h;subst h;exact hb
   ·exact hb.trans (ih _ _ _ h)
  ·injection h with h;subst h;exact PExt.refl _
 | g+1,.neg nest,st,r,h=>by
  have ih:=run_ext toks depth g
  rw [run] at h
  split at h
  ·have hd:=(leafM_ext toks st).trans (deepM_ext toks depth (nest+1) _)
   split at h
   ·injection h with h;subst h;exact hd
   ·obtain ⟨b,h2,h⟩:=Option.bind_eq_some_iff.1 h
    injection h with h;subst h
    exact (hd.trans (ih _ _ _ h2)).trans (nodeM_ext _ _ _)
  ·exact ih _ _ _ h
 | g+1,.factor nest,st,r,h=>by
  have ih:=run_ext toks depth g
  rw [run] at h
  split at h
  ·have hd:=(leafM_ext toks st).trans (deepM_ext toks depth (nest+1) _)
   split at h
   ·injection h with h;subst h;exact hd
   ·obtain ⟨b,h2,h⟩:=Option.bind_eq_some_iff.1 h
    injection h with h;subst h
    exact (hd.trans (ih _ _ _ h2)).trans (nodeM_ext _ _ _)
  ·exact ih _ _ _ h
 | g+1,.atom nest,st,r,h=>by
  have ih:=run_ext toks depth g
  rw [run] at h
  split at h
  ·injection h with h;subst h;exact PExt.refl _
  split at h
  ·injection h with h;subst h;exact (leafM_ext _ _).trans (nodeM_ext _ _ _)
  split at h
  ·injection h with h;subst h;exact (leafM_ext _ _).trans (nodeM_ext _ _ _)
  split at h
  ·injection h with h;subst h;exact (leafM_ext _ _).trans (nodeM_ext _ _ _)
  split at h
  ·obtain ⟨b,h1,h⟩:=Option.bind_eq_some_iff.1 h
   injection h with h;subst h
   exact (((leafM_ext _ _).trans (ih _ _ _ h1)).trans (mustM_ext _ _ _)).trans (nodeM_ext _ _ _)
  split at h
  ·exact ih _ _ _ h
  ·injection h with h;subst h;exact failM_ext _ _ _
 | g+1,.name nest,st,r,h=>by
  have ih:=run_ext toks depth g
  rw [run] at h
  split at h
  ·injection h with h;subst h;exact (leafM_ext _ _).trans (nodeM_ext _ _ _)
  ·obtain ⟨l,h1,h⟩:=Option.bind_eq_some_iff.1 h
   injection h with h;subst h
   exact ((((leafM_ext _ _).trans (qualM_ext _ _)).trans (mustM_ext _ _ _)).trans (listM_ext toks _ (fun s k hk=>ih _ _ _ hk) _ _ h1)).trans ((mustM_ext _ _ _).trans (nodeM_ext _ _ _))
def EndOk (toks:List Tok):Prop:=(peekF toks toks.length).kind=5
theorem EndOk.pos {toks:List Tok}(h:EndOk toks):0<toks.length:=by
 cases toks with
 | nil=>cases h
 | cons t l=>simp
theorem EndOk.before {toks:List Tok}(h:EndOk toks){u:Nat}(hu:(peekF toks u).kind≠5):u+1<toks.length:=by
 apply Classical.byContradiction
 intro q
 apply hu
 have hp:=h.pos
 rw [EndOk] at h
 unfold peekF at h ⊢
 rw [show min u (toks.length - 1)=min toks.length (toks.length - 1) by omega]
 exact h
theorem next_kind {toks:List Tok}{st:PSt}{l:List (List UInt8)}(h:nextF toks st l=true):(peekF toks st.used).kind≠5:=by
 simp only [nextF,Bool.and_eq_true,Bool.or_eq_true,beq_iff_eq] at h
 omega
theorem leafM_some {toks:List Tok}{st:PSt}(h:st.used+1<toks.length):leafM toks st=(((st.nodes.length:Nat):Int),{ st with nodes:=st.nodes++[⟨19,(st.used:Nat),[]⟩],used:=st.used+1 }):=by
 unfold leafM
 rw [if_neg (by omega)]
theorem leaf_used {toks:List Tok}(hE:EndOk toks){st:PSt}(h:(peekF toks st.used).kind≠5):(leafM toks st).2.used=st.used+1∧st.used+1<toks.length:=by
 have:=hE.before h
 rw [leafM_some this]
 exact ⟨rfl,this⟩
def lvlT:Task→Nat
 | .expr _=>18
 | .formula _=>17
 | .row l _=>if l≤1 then 16 - 2 * l else 15 - 2 * l
 | .part l _=>if l≤1 then 15 - 2 * l else 14 - 2 * l
 | .neg _=>12
 | .factor _=>5
 | .atom _=>4
 | .name _=>3
 | .loop _ _ _=>1
def okT (toks:List Tok)(st:PSt):Task→Prop
 | .row l _=>l≤4
 | .part l _=>l≤4
 | .loop l _ _=>l≤4
 | .name _=>st.used<toks.length
 | _=>True
def needT (toks:List Tok)(t:Task)(st:PSt):Nat:=20 * (toks.length - st.used)+lvlT t
theorem failM_fE {toks:List Tok}{e:Nat}(he:e≠0)(st:PSt):(failM toks e st).fE≠0:=by
 unfold failM
 split
 ·exact he
 ·assumption
theorem must_used {toks:List Tok}(hE:EndOk toks)(l:List (List UInt8))(st:PSt):st.used+1≤(mustM toks l st).2.used∨(mustM toks l st).2.fE≠0:=by
 unfold mustM
 split
 ·rename_i h
  have:=(leaf_used hE (next_kind h.2)).1
  exact .inl (by rw [this];exact Nat.le_refl _)
 ·exact .inr (failM_fE (by decide) st)
theorem listLoop_total (toks:List Tok)(one:PSt→Option (Int × PSt))(base:Nat)(h1:∀ s,base≤s.used→∃ k,one s=some k∧PExt s k.2):∀ (r:Nat) (kids:List Int) (st:PSt),base≤st.used∨st.fE≠0→∃ l,listLoop toks one r kids st=some l
 | 0,kids,st,_=>⟨_,rfl⟩
 | r+1,kids,st,hb=>by
  rw [listLoop]
  split
  ·exact ⟨_,rfl⟩
  ·rename_i hf
   obtain ⟨k,hk,hx⟩:=h1 st (hb.resolve_right hf)
   rw [hk]
   simp only [Option.bind_some]
   split
   ·exact listLoop_total toks one base h1 r _ _ (.inl (Nat.le_trans (hb.resolve_right hf) (Nat.le_trans hx.1 (leafM_ext toks k.2).1)))
   ·exact ⟨_,rfl⟩
theorem run_total (toks:List Tok)(depth:Nat)(hE:EndOk toks):∀ (g:Nat) (t:Task) (st:PSt),okT toks st t→needT toks t st≤g→∃ r,run toks depth g t st=some r
 | 0,t,st,_,h=>by
  exfalso
  have:1≤lvlT t:=by
   cases t <;> simp only [lvlT] <;> first|omega|(simp only [okT] at *;split <;> omega)
  unfold needT at h
  omega
 | g+1,.expr nest,st,_,h=>by
  have ih:=run_total toks depth hE g
  rw [run]
  have hd:=deepM_ext toks depth nest st
  generalize deepM toks depth nest st=s at hd
  have hu:=hd.1
  simp only [needT,lvlT] at h
  split
  ·exact ⟨_,rfl⟩
  split
  ·exact ih _ _ trivial (by simp only [needT,lvlT];omega)
  split
  ·rename_i hn
   obtain ⟨e1,e2⟩:=leaf_used hE (next_kind hn)
   have x1:=(kindM_ext toks 1 (leafM toks s).2).1
   have x2:=(mustM_ext toks [[61]] (kindM toks 1 (leafM toks s).2).2).1
   obtain ⟨d,hd1⟩:=ih (.expr (nest+1)) (mustM toks [[61]] (kindM toks 1 (leafM toks s).2).2).2 trivial (by simp only [needT,lvlT];omega)
   have x3:=(run_ext toks depth g _ _ _ hd1).1
   have x4:=(mustM_ext toks [tIn] d.2).1
   obtain ⟨f,hf⟩:=ih (.expr (nest+1)) (mustM toks [tIn] d.2).2 trivial (by simp only [needT,lvlT];omega)
   rw [hd1,Option.bind_some,hf,Option.bind_some]
   exact ⟨_,rfl⟩
  split
  ·rename_i hn
   obtain ⟨e1,e2⟩:=leaf_used hE (next_kind hn)
   obtain ⟨b,hb⟩:=ih (.expr (nest+1)) (leafM toks s).2 trivial (by simp only [needT,lvlT];omega)
   have x3:=(run_ext toks depth g _ _ _ hb).1
   have x4:=(mustM_ext toks [tThen] b.2).1
   obtain ⟨d,hd1⟩:=ih (.expr (nest+1)) (mustM toks [tThen] b.2).2 trivial (by simp only [needT,lvlT];omega)
   have x5:=(run_ext toks depth g _ _ _ hd1).1
   have x6:=(mustM_ext toks [tElse] d.2).1
   obtain ⟨f,hf⟩:=ih (.expr (nest+1)) (mustM toks [tElse] d.2).2 trivial (by simp only [needT,lvlT];omega)
   rw [hb,Option.bind_some,hd1,Option.bind_some,hf,Option.bind_some]
   exact ⟨_,rfl⟩
  split
  ·rename_i hn
   obtain ⟨e1,e2⟩:=leaf_used hE (next_kind hn)
   obtain ⟨b,hb⟩:=ih (.expr (nest+1)) (leafM toks s).2 trivial (by simp only [needT,lvlT];omega)
   have x3:=(run_ext toks depth g _ _ _ hb).1
   have x4:=(mustM_ext toks [tIn] b.2).1
   obtain ⟨d,hd1⟩:=ih (.expr (nest+1)) (mustM toks [tIn] b.2).2 trivial (by simp only [needT,lvlT];omega)
   rw [hb,Option.bind_some,hd1,Option.bind_some]
   exact ⟨_,rfl⟩
  ·exact ih _ _ trivial (by simp only [needT,lvlT];omega)
 | g+1,.formula nest,st,_,h=>by
  have ih:=run_total toks depth hE g
  rw [run]
  simp only [needT,lvlT] at h
  obtain ⟨a,ha⟩:=ih (.row 0 nest) st (by simp [okT]) (by simp only [needT,lvlT];simp;omega)
  have x1:=(run_ext toks depth g _ _ _ ha).1
  rw [ha,Option.bind_some]
  split
  ·rename_i hn
   obtain ⟨e1,e2⟩:=leaf_used hE (next_kind hn.2)
   have x2:=(deepM_ext toks depth (nest+1) (leafM toks a.2).2).1
   split
   ·exact ⟨_,rfl⟩
   ·obtain ⟨b,hb⟩:=ih (.formula (nest+1)) (deepM toks depth (nest+1) (leafM toks a.2).2) trivial (by simp only [needT,lvlT];omega)
    rw [hb,Option.bind_some]
    exact ⟨_,rfl⟩
  ·exact ⟨_,rfl⟩
 | g+1,.part l nest,st,hl,h=>by
  have ih:=run_total toks depth hE g
  rw [run]
  simp only [needT,lvlT] at h
  simp only [okT] at hl
  split
  ·rename_i h1;subst h1
   exact ih _ _ trivial (by simp only [needT,lvlT];simp at h;omega)
  ·split
   ·rename_i h4;subst h4
    exact ih _ _ trivial (by simp only [needT,lvlT];simp at h;omega)
   ·refine ih _ _ (by simp only [okT];omega) ?_
    simp only [needT,lvlT]
    split at h
    ·obtain rfl:l=0:=by omega
     simp;omega
    ·rw [if_neg (by omega)];omega
 | g+1,.row l nest,st,hl,h=>by
  have ih:=run_total toks depth hE g
  rw [run]
  simp only [needT,lvlT] at h
  simp only [okT] at hl
  obtain ⟨a,ha⟩:=ih (.part l nest) st hl (by simp only [needT,lvlT];split at h <;> split <;> omega)
  have x1:=(run_ext toks depth g _ _ _ ha).1
  rw [ha,Option.bind_some]
  refine ih _ _ hl ?_
  simp only [needT,lvlT]
  split at h <;> omega
 | g+1,.loop l nest a,st,hl,h=>by
  have ih:=run_total toks depth hE g
  rw [run]
  simp only [needT,lvlT] at h
  simp only [okT] at hl
  split
  ·rename_i hn
   obtain ⟨e1,e2⟩:=leaf_used hE (next_kind hn.2)
   obtain ⟨b,hb⟩:=ih (.part l nest) (leafM toks st).2 hl (by simp only [needT,lvlT];split <;> omega)
   have x1:=(run_ext toks depth g _ _ _ hb).1
   have x2:=(nodeM_ext 10 [a,(leafM toks st).1,b.1] b.2).1
   rw [hb,Option.bind_some]
   split
   ·exact ⟨_,rfl⟩
   ·exact ih _ _ hl (by simp only [needT,lvlT];omega)
  ·exact ⟨_,rfl⟩
 | g+1,.neg nest,st,_,h=>by
  have ih:=run_total toks depth hE g
  rw [run]
  simp only [needT,lvlT] at h
  split
  ·rename_i hn
   obtain ⟨e1,e2⟩:=leaf_used hE (next_kind hn.2)
   have x2:=(deepM_ext toks depth (nest+1) (leafM toks st).2).1
   split
   ·exact ⟨_,rfl⟩
   ·obtain ⟨b,hb⟩:=ih (.neg (nest+1)) (deepM toks depth (nest+1) (leafM toks st).2) trivial (by simp only [needT,lvlT];omega)
    rw [hb,Option.bind_some]
    exact ⟨_,rfl⟩
  ·exact ih _ _ (by simp [okT]) (by simp only [needT,lvlT];simp;omega)
 | g+1,.factor nest,st,_,h=>by
  have ih:=run_total toks depth hE g
  rw [run]
  simp only [needT,lvlT] at h
  split
  ·rename_i hn
   obtain ⟨e1,e2⟩:=leaf_used hE (next_kind hn.2)
   have x2:=(deepM_ext toks depth (nest+1) (leafM toks st).2).1
   split
   ·exact ⟨_,rfl⟩
   ·obtain ⟨b,hb⟩:=ih (.factor (nest+1)) (deepM toks depth (nest+1) (leafM toks st).2) trivial (by simp only [needT,lvlT];omega)
    rw [hb,Option.bind_some]
    exact ⟨_,rfl⟩
  ·exact ih _ _ trivial (by simp only [needT,lvlT];omega)
 | g+1,.atom nest,st,_,h=>by
  have ih:=run_total toks depth hE g
  rw [run]
  simp only [needT,lvlT] at h
  split
  ·exact ⟨_,rfl⟩
  split
  ·exact ⟨_,rfl⟩
  split
  ·exact ⟨_,rfl⟩
  split
  ·exact ⟨_,rfl⟩
  split
  ·rename_i hn
   obtain ⟨e1,e2⟩:=leaf_used hE (next_kind hn)
   obtain ⟨b,hb⟩:=ih (.expr (nest+1)) (leafM toks st).2 trivial (by simp only [needT,lvlT];omega)
   rw [hb,Option.bind_some]
   exact ⟨_,rfl⟩
  split
  ·rename_i hk
   have:=hE.before (u:=st.used) (by omega)
   exact ih _ _ (by simp only [okT];omega) (by simp only [needT,lvlT];omega)
  ·exact ⟨_,rfl⟩
 | g+1,.name nest,st,hl0,h=>by
  have ih:=run_total toks depth hE g
  rw [run]
  simp only [needT,lvlT] at h
  split
  ·exact ⟨_,rfl⟩
  ·have x1:=(leafM_ext toks st).1
   have x2:=(qualM_ext toks (leafM toks st)).1
   have x3:=must_used hE [[40]] (qualM toks (leafM toks st)).2
   generalize (mustM toks [[40]] (qualM toks (leafM toks st)).2)=b at x3
   have hl:∃ l,listM toks (fun s=>run toks depth g (.expr (nest+1)) s) b.2=some l:=by
    unfold listM
    split
    ·exact ⟨_,rfl⟩
    ·refine listLoop_total toks _ (st.used+1) (fun s hs=>?_) _ _ _ (x3.imp (by omega) id)
     have hlt:st.used<toks.length:=hl0
     obtain ⟨k,hk⟩:=ih (.expr (nest+1)) s trivial (by simp only [needT,lvlT];omega)
     exact ⟨k,hk,run_ext toks depth g _ _ _ hk⟩
   obtain ⟨l,hl⟩:=hl
   rw [hl,Option.bind_some]
   exact ⟨_,rfl⟩
def Slk (a b:PSt):Prop:=b.nodes.length+2 * a.used≤a.nodes.length+2 * b.used
theorem Slk.refl (a:PSt):Slk a a:=Nat.le_refl _
theorem Slk.trans {a b c:PSt}(h:Slk a b)(k:Slk b c):Slk a c:=by unfold Slk at *;omega
theorem failM_slk (toks:List Tok)(e:Nat)(st:PSt):Slk st (failM toks e st):=by
 unfold failM
 split <;> exact Nat.le_refl _
theorem deepM_slk (toks:List Tok)(d n:Nat)(st:PSt):Slk st (deepM toks d n st):=by
 unfold deepM
 split
 ·exact failM_slk _ _ _
 ·exact Slk.refl _
theorem leafM_two (toks:List Tok)(st:PSt):(leafM toks st=(-1,st))∨((leafM toks st).2.nodes.length=st.nodes.length+1∧(leafM toks st).2.used=st.used+1):=by
 unfold leafM
 split
 ·exact .inl rfl
 ·exact .inr ⟨by simp,rfl⟩
theorem leafM_slk (toks:List Tok)(st:PSt):Slk st (leafM toks st).2:=by
 rcases leafM_two toks st with h|⟨h1,h2⟩
 ·rw [h];exact Slk.refl _
 ·unfold Slk;omega
theorem mustM_slk (toks:List Tok)(l:List (List UInt8))(st:PSt):Slk st (mustM toks l st).2:=by
 unfold mustM
 split
 ·exact leafM_slk _ _
 ·exact failM_slk _ _ _
theorem kindM_slk (toks:List Tok)(k:Nat)(st:PSt):Slk st (kindM toks k st).2:=by
 unfold kindM
 split
 ·exact leafM_slk _ _
 ·exact failM_slk _ _ _
theorem nodeM_two (k:Int)(l:List Int)(st:PSt):(nodeM k l st).2.used=st.used∧(nodeM k l st).2.nodes.length≤st.nodes.length+1∧((-1:Int)∈l→(nodeM k l st).2.nodes.length=st.nodes.length):=by
 unfold nodeM rawM
 split
 ·split
  ·exact ⟨rfl,by simp,fun _=>rfl⟩
  ·rename_i hb
   refine ⟨rfl,by simp,fun h=>?_⟩
   exact (hb (List.any_eq_true.2 ⟨-1,h,by simp⟩)).elim
 ·exact ⟨rfl,by simp,fun _=>rfl⟩
theorem node_slk (toks:List Tok)(k:Int)(l:List Int)(st s3:PSt)(h:Slk (leafM toks st).2 s3)(hm:(leafM toks st).1∈l):Slk st (nodeM k l s3).2:=by
 obtain ⟨h1,h2,h3⟩:=nodeM_two k l s3
 rcases leafM_two toks st with hl|⟨l1,l2⟩
 ·rw [hl] at h hm
  have:=h3 hm
  unfold Slk at *
  simp only at h
  omega
 ·unfold Slk at *
  omega
theorem qualM_slk (toks:List Tok)(a:Int × PSt):Slk a.2 (qualM toks a).2:=by
 unfold qualM
 split
 ·exact (leafM_slk _ _).trans (kindM_slk _ _ _)
 ·exact Slk.refl _
theorem listLoop_slk (toks:List Tok)(one:PSt→Option (Int × PSt))(h1:∀ s k,one s=some k→Slk s k.2):∀ (r:Nat) (kids:List Int) (st:PSt) (l:List Int × PSt),listLoop toks one r kids st=some l→Slk st l.2
 | 0,kids,st,l,h=>by
  rw [listLoop] at h
  injection h with h
  subst h
  show Slk st (if st.fE=0 then failM toks 15 st else st)
  split
  ·exact failM_slk _ _ _
  ·exact Slk.refl _
 | r+1,kids,st,l,h=>by
  rw [listLoop] at h
  split at h
  ·injection h with h;subst h;exact Slk.refl _
  ·obtain ⟨k,hk,h⟩:=Option.bind_eq_some_iff.1 h
   have:=h1 _ _ hk
   split at h
   ·exact (this.trans (leafM_slk _ _)).trans (listLoop_slk toks one h1 r _ _ _ h)
   ·injection h with h;subst h;exact this
theorem listM_slk (toks:List Tok)(one:PSt→Option (Int × PSt))(h1:∀ s k,one s=some k→Slk s k.2)(st:PSt)(l:List Int × PSt)(h:listM toks one st=some l):Slk st l.2:=by
 unfold listM at h
 split at h
 ·injection h with h;subst h;exact Slk.refl _
 ·exact listLoop_slk toks one h1 _ _ _ _ h
theorem run_slk (toks:List Tok)(depth:Nat):∀ (g:Nat) (t:Task) (st:PSt) (r:Int × PSt),run toks depth g t st=some r→Slk st r.2
 | 0,_,_,_,h=>by rw [run] at h;cases h
 | g+1,.expr nest,st,r,h=>by
  have ih:=run_slk toks depth g
  rw [run] at h
  have hd:=deepM_slk toks depth nest st
  generalize deepM toks depth nest st=s at h hd
  split at h
  ·injection h with h;subst h;exact hd
  split at h
  ·exact hd.trans (ih _ _ _ h)
  split at h
  ·obtain ⟨d,h1,h⟩:=Option.bind_eq_some_iff.1 h
   obtain ⟨f,h2,h⟩:=Option.bind_eq_some_iff.1 h
   injection h with h;subst h
   exact hd.trans (node_slk toks _ _ _ _ ((((kindM_slk _ _ _).trans (mustM_slk _ _ _)).trans (ih _ _ _ h1)).trans ((mustM_slk _ _ _).trans (ih _ _ _ h2))) (by simp))
  split at h
  ·obtain ⟨b,h1,h⟩:=Option.bind_eq_some_iff.1 h
   obtain ⟨d,h2,h⟩:=Option.bind_eq_some_iff.1 h
   obtain ⟨f,h3,h⟩:=Option.bind_eq_some_iff.1 h
   injection h with h;subst h
   exact hd.trans (node_slk toks _ _ _ _ ((((ih _ _ _ h1).trans (mustM_slk _ _ _)).trans (ih _ _ _ h2)).trans ((mustM_slk _ _ _).trans (ih _ _ _ h3))) (by simp))
  split at h
  ·obtain ⟨b,h1,h⟩:=Option.bind_eq_some_iff.1 h
   obtain ⟨d,h2,h⟩:=Option.bind_eq_some_iff.1 h
   injection h with h;subst h
   exact hd.trans (node_slk toks _ _ _ _ (((ih _ _ _ h1).trans (mustM_slk _ _ _)).trans (ih _ _ _ h2)) (by simp))
  ·exact hd.trans (ih _ _ _ h)
 | g+1,.formula nest,st,r,h=>by
  have ih:=run_slk toks depth g
  rw [run] at h
  obtain ⟨a,h1,h⟩:=Option.bind_eq_some_iff.1 h
  have ha:=ih _ _ _ h1
  split at h
  ·have hd:=(ha.trans (leafM_slk toks a.2)).trans (deepM_slk toks depth (nest+1) _)
   split at h
   ·injection h with h;subst h;exact hd
   ·obtain ⟨b,h2,h⟩:=Option.bind_eq_some_iff.1 h
    injection h with h;subst h
    exact ha.trans (node_slk toks _ _ _ _ ((deepM_slk _ _ _ _).trans (ih _ _ _ h2)) (by simp))
  ·injection h with h;subst h;exact ha
 | g+1,.part l nest,st,r,h=>by
  have ih:=run_slk toks depth g
  rw [run] at h
  split at h
  ·exact ih _ _ _ h
  ·split at h
   ·exact ih _ _ _ h
   ·exact ih _ _ _ h
 | g+1,.row l nest,st,r,h=>by
  have ih:=run_slk toks depth g
  rw [run] at h
  obtain ⟨a,h1,h⟩:=Option.bind_eq_some_iff.1 h
  exact (ih _ _ _ h1).trans (ih _ _ _ h)
 | g+1,.loop l nest a,st,r,h=>by
  have ih:=run_slk toks depth g
  rw [run] at h
  split at h
  ·obtain ⟨b,h1,h⟩:=Option.bind_eq_some_iff.1 h
   have hb:=node_slk toks 10 [a,(leafM toks st).1,b.1] st _ (ih _ _ _ h1) (by simp)
   split at h
   ·injection h with h;subst h;exact hb
   ·exact hb.trans (ih _ _ _ h)
  ·injection h with h;subst h;exact Slk.refl _
 | g+1,.neg nest,st,r,h=>by
  have ih:=run_slk toks depth g
  rw [run] at h
  split at h
  ·have hd:=(leafM_slk toks st).trans (deepM_slk toks depth (nest+1) _)
   split at h
   ·injection h with h;subst h;exact hd
   ·obtain ⟨b,h2,h⟩:=Option.bind_eq_some_iff.1 h
    injection h with h;subst h
    exact node_slk toks _ _ _ _ ((deepM_slk _ _ _ _).trans (ih _ _ _ h2)) (by simp)
  ·exact ih _ _ _ h
 | g+1,.factor nest,st,r,h=>by
  have ih:=run_slk toks depth g
  rw [run] at h
  split at h
  ·have hd:=(leafM_slk toks st).trans (deepM_slk toks depth (nest+1) _)
   split at h
   ·injection h with h;subst h;exact hd
   ·obtain ⟨b,h2,h⟩:=Option.bind_eq_some_iff.1 h
    injection h with h;subst h
    exact node_slk toks _ _ _ _ ((deepM_slk _ _ _ _).trans (ih _ _ _ h2)) (by simp)
  ·exact ih _ _ _ h
 | g+1,.atom nest,st,r,h=>by
  have ih:=run_slk toks depth g
  rw [run] at h
  split at h
  ·injection h with h;subst h;exact Slk.refl _
  split at h
  ·injection h with h;subst h;exact node_slk toks _ _ _ _ (Slk.refl _) (by simp)
  split at h
  ·injection h with h;subst h;exact node_slk toks _ _ _ _ (Slk.refl _) (by simp)
  split at h
  ·injection h with h;subst h;exact node_slk toks _ _ _ _ (Slk.refl _) (by simp)
  split at h
  ·obtain ⟨b,h1,h⟩:=Option.bind_eq_some_iff.1 h
   injection h with h;subst h
   exact node_slk toks _ _ _ _ ((ih _ _ _ h1).trans (mustM_slk _ _ _)) (by simp)
  split at h
  ·exact ih _ _ _ h
  ·injection h with h;subst h;exact failM_slk _ _ _
 | g+1,.name nest,st,r,h=>by
  have ih:=run_slk toks depth g
  rw [run] at h
  split at h
  ·injection h with h;subst h;exact node_slk toks _ _ _ _ (Slk.refl _) (by simp)
  ·obtain ⟨l,h1,h⟩:=Option.bind_eq_some_iff.1 h
   injection h with h;subst h
   exact node_slk toks _ _ _ _ (((qualM_slk _ _).trans (mustM_slk _ _ _)).trans ((listM_slk toks _ (fun s k hk=>ih _ _ _ hk) _ _ h1).trans (mustM_slk _ _ _))) (by unfold qualM;split <;> simp)
def Wth (toks:List Tok)(a b:PSt):Prop:=a.used≤toks.length→b.used≤toks.length
theorem Wth.refl {toks:List Tok}(a:PSt):Wth toks a a:=fun h=>h
theorem Wth.trans {toks:List Tok}{a b c:PSt}(h:Wth toks a b)(k:Wth toks b c):Wth toks a c:=fun q=>k (h q)
theorem failM_wth (toks:List Tok)(e:Nat)(st:PSt):Wth toks st (failM toks e st):=by
 unfold failM
 split
 ·exact fun h=>h
 ·exact Wth.refl _
theorem leafM_wth (toks:List Tok)(st:PSt):Wth toks st (leafM toks st).2:=by
 intro h
 unfold leafM
 split
 ·exact h
 ·simp only;omega
theorem nodeM_wth {toks:List Tok}(k:Int)(l:List Int)(st:PSt):Wth toks st (nodeM k l st).2:=by
 unfold nodeM rawM
 split
 ·split
  ·exact Wth.refl _
  ·exact fun h=>h
 ·exact Wth.refl _
theorem mustM_wth (toks:List Tok)(l:List (List UInt8))(st:PSt):Wth toks st (mustM toks l st).2:=by
 unfold mustM
 split
 ·exact leafM_wth _ _
 ·exact failM_wth _ _ _
theorem kindM_wth (toks:List Tok)(k:Nat)(st:PSt):Wth toks st (kindM toks k st).2:=by
 unfold kindM
 split
 ·exact leafM_wth _ _
 ·exact failM_wth _ _ _
theorem deepM_wth (toks:List Tok)(d n:Nat)(st:PSt):Wth toks st (deepM toks d n st):=by
 unfold deepM
 split
 ·exact failM_wth _ _ _
 ·exact Wth.refl _
theorem qualM_wth (toks:List Tok)(a:Int × PSt):Wth toks a.2 (qualM toks a).2:=by
 unfold qualM
 split
 ·exact (leafM_wth _ _).trans (kindM_wth _ _ _)
 ·exact Wth.refl _
theorem listLoop_wth (toks:List Tok)(one:PSt→Option (Int × PSt))(h1:∀ s k,one s=some k→Wth toks s k.2):∀ (r:Nat) (kids:List Int) (st:PSt) (l:List Int × PSt),listLoop toks one r kids st=some l→Wth toks st l.2
 | 0,kids,st,l,h=>by
  rw [listLoop] at h
  injection h with h
  subst h
  show Wth toks st (if st.fE=0 then failM toks 15 st else st)
  split
  ·exact failM_wth _ _ _
  ·exact Wth.refl _
 | r+1,kids,st,l,h=>by
  rw [listLoop] at h
  split at h
  ·injection h with h;subst h;exact Wth.refl _
  ·obtain ⟨k,hk,h⟩:=Option.bind_eq_some_iff.1 h
   have:=h1 _ _ hk
   split at h
   ·exact (this.trans (leafM_wth _ _)).trans (listLoop_wth toks one h1 r _ _ _ h)
   ·injection h with h;subst h;exact this
theorem listM_wth (toks:List Tok)(one:PSt→Option (Int × PSt))(h1:∀ s k,one s=some k→Wth toks s k.2)(st:PSt)(l:List Int × PSt)(h:listM toks one st=some l):Wth toks st l.2:=by
 unfold listM at h
 split at h
 ·injection h with h;subst h;exact Wth.refl _
 ·exact listLoop_wth toks one h1 _ _ _ _ h
theorem run_wth (toks:List Tok)(depth:Nat):∀ (g:Nat) (t:Task) (st:PSt) (r:Int × PSt),run toks depth g t st=some r→Wth toks st r.2
 | 0,_,_,_,h=>by rw [run] at h;cases h
 | g+1,.expr nest,st,r,h=>by
  have ih:=run_wth toks depth g
  rw [run] at h
  have hd:=deepM_wth toks depth nest st
  generalize deepM toks depth nest st=s at h hd
  split at h
  ·injection h with h;subst h;exact hd
  split at h
  ·exact hd.trans (ih _ _ _ h)
  split at h
  ·obtain ⟨d,h1,h⟩:=Option.bind_eq_some_iff.1 h
   obtain ⟨f,h2,h⟩:=Option.bind_eq_some_iff.1 h
   injection h with h;subst h
   exact (((((hd.trans (leafM_wth _ _)).trans (kindM_wth _ _ _)).trans (mustM_wth _ _ _)).trans (ih _ _ _ h1)).trans (mustM_wth _ _ _)).trans ((ih _ _ _ h2).trans (nodeM_wth _ _ _))
  split at h
  ·obtain ⟨b,h1,h⟩:=Option.bind_eq_some_iff.1 h
   obtain ⟨d,h2,h⟩:=Option.bind_eq_some_iff.1 h
   obtain ⟨f,h3,h⟩:=Option.bind_eq_some_iff.1 h
   injection h with h;subst h
   exact (((((hd.trans (leafM_wth _ _)).trans (ih _ _ _ h1)).trans (mustM_wth _ _ _)).trans (ih _ _ _ h2)).trans (mustM_wth _ _ _)).trans ((ih _ _ _ h3).trans (nodeM_wth _ _ _))
  split at h
  ·obtain ⟨b,h1,h⟩:=Option.bind_eq_some_iff.1 h
   obtain ⟨d,h2,h⟩:=Option.bind_eq_some_iff.1 h
   injection h with h;subst h
   exact (((hd.trans (leafM_wth _ _)).trans (ih _ _ _ h1)).trans (mustM_wth _ _ _)).trans ((ih _ _ _ h2).trans (nodeM_wth _ _ _))
  ·exact hd.trans (ih _ _ _ h)
 | g+1,.formula nest,st,r,h=>by
  have ih:=run_wth toks depth g
  rw [run] at h
  obtain ⟨a,h1,h⟩:=Option.bind_eq_some_iff.1 h
  have ha:=ih _ _ _ h1
  split at h
  ·have hd:=(ha.trans (leafM_wth toks a.2)).trans (deepM_wth toks depth (nest+1) _)
   split at h
   ·injection h with h;subst h;exact hd
   ·obtain ⟨b,h2,h⟩:=Option.bind_eq_some_iff.1 h
    injection h with h;subst h
    exact (hd.trans (ih _ _ _ h2)).trans (nodeM_wth _ _ _)
  ·injection h with h;subst h;exact ha
 | g+1,.part l nest,st,r,h=>by
  have ih:=run_wth toks depth g
  rw [run] at h
  split at h
  ·exact ih _ _ _ h
  ·split at h
   ·exact ih _ _ _ h
   ·exact ih _ _ _ h
 | g+1,.row l nest,st,r,h=>by
  have ih:=run_wth toks depth g
  rw [run] at h
  obtain ⟨a,h1,h⟩:=Option.bind_eq_some_iff.1 h
  exact (ih _ _ _ h1).trans (ih _ _ _ h)
 | g+1,.loop l nest a,st,r,h=>by
  have ih:=run_wth toks depth g
  rw [run] at h
  split at h
  ·obtain ⟨b,h1,h⟩:=Option.bind_eq_some_iff.1 h
   have hb:=((leafM_wth toks st).trans (ih _ _ _ h1)).trans (nodeM_wth 10 [a,(leafM toks st).1,b.1] _)
   split at h
   ·injection h with h;subst h;exact hb
   ·exact hb.trans (ih _ _ _ h)
  ·injection h with h;subst h;exact Wth.refl _
 | g+1,.neg nest,st,r,h=>by
  have ih:=run_wth toks depth g
  rw [run] at h
  split at h
  ·have hd:=(leafM_wth toks st).trans (deepM_wth toks depth (nest+1) _)
   split at h
   ·injection h with h;subst h;exact hd
   ·obtain ⟨b,h2,h⟩:=Option.bind_eq_some_iff.1 h
    injection h with h;subst h
    exact (hd.trans (ih _ _ _ h2)).trans (nodeM_wth _ _ _)
  ·exact ih _ _ _ h
 | g+1,.factor nest,st,r,h=>by
  have ih:=run_wth toks depth g
  rw [run] at h
  split at h
  ·have hd:=(leafM_wth toks st).trans (deepM_wth toks depth (nest+1) _)
   split at h
   ·injection h with h;subst h;exact hd
   ·obtain ⟨b,h2,h⟩:=Option.bind_eq_some_iff.1 h
    injection h with h;subst h
    exact (hd.trans (ih _ _ _ h2)).trans (nodeM_wth _ _ _)
  ·exact ih _ _ _ h
 | g+1,.atom nest,st,r,h=>by
  have ih:=run_wth toks depth g
  rw [run] at h
  split at h
  ·injection h with h;subst h;exact Wth.refl _
  split at h
  ·injection h with h;subst h;exact (leafM_wth _ _).trans (nodeM_wth _ _ _)
  split at h
  ·injection h with h;subst h;exact (leafM_wth _ _).trans (nodeM_wth _ _ _)
  split at h
  ·injection h with h;subst h;exact (leafM_wth _ _).trans (nodeM_wth _ _ _)
  split at h
  ·obtain ⟨b,h1,h⟩:=Option.bind_eq_some_iff.1 h
   injection h with h;subst h
   exact (((leafM_wth _ _).trans (ih _ _ _ h1)).trans (mustM_wth _ _ _)).trans (nodeM_wth _ _ _)
  split at h
  ·exact ih _ _ _ h
  ·injection h with h;subst h;exact failM_wth _ _ _
 | g+1,.name nest,st,r,h=>by
  have ih:=run_wth toks depth g
  rw [run] at h
  split at h
  ·injection h with h;subst h;exact (leafM_wth _ _).trans (nodeM_wth _ _ _)
  ·obtain ⟨l,h1,h⟩:=Option.bind_eq_some_iff.1 h
   injection h with h;subst h
   exact ((((leafM_wth _ _).trans (qualM_wth _ _)).trans (mustM_wth _ _ _)).trans (listM_wth toks _ (fun s k hk=>ih _ _ _ hk) _ _ h1)).trans ((mustM_wth _ _ _).trans (nodeM_wth _ _ _))
theorem deep_eq {toks:List Tok}{d d' n:Nat}{st:PSt}(hdd:d≤d')(h:(deepM toks d n st).fE=0):deepM toks d' n st=deepM toks d n st:=by
 unfold deepM at h ⊢
 split at h
 ·exact absurd h (failM_fE (by decide) st)
 ·rename_i hn
  rw [if_neg hn,if_neg (by omega)]
theorem listLoop_deeper (toks:List Tok)(one one':PSt→Option (Int × PSt))(h1:∀ s k,one s=some k→PExt s k.2)(h2:∀ s k,one s=some k→k.2.fE=0→one' s=some k):∀ (r:Nat) (kids:List Int) (st:PSt) (l:List Int × PSt),listLoop toks one r kids st=some l→l.2.fE=0→listLoop toks one' r kids st=some l
 | 0,kids,st,l,h,_=>h
 | r+1,kids,st,l,h,hl=>by
  rw [listLoop] at h ⊢
  split at h
  ·rename_i hf;rw [if_pos hf];exact h
  ·rename_i hf
   rw [if_neg hf]
   obtain ⟨k,hk,h⟩:=Option.bind_eq_some_iff.1 h
   have hk0:k.2.fE=0:=by
    split at h
    ·exact ((leafM_ext toks k.2).trans (listLoop_ext toks one h1 r _ _ _ h)).zero hl
    ·injection h with h;subst h;exact hl
   rw [h2 _ _ hk hk0,Option.bind_some]
   split at h
   ·rename_i hc;rw [if_pos hc];exact listLoop_deeper toks one one' h1 h2 r _ _ _ h hl
   ·rename_i hc;rw [if_neg hc];exact h
theorem listM_deeper (toks:List Tok)(one one':PSt→Option (Int × PSt))(h1:∀ s k,one s=some k→PExt s k.2)(h2:∀ s k,one s=some k→k.2.fE=0→one' s=some k)(st:PSt)(l:List Int × PSt)(h:listM toks one st=some l)(hl:l.2.fE=0):listM toks one' st=some l:=by
 unfold listM at h ⊢
 split at h
 ·rename_i hc;rw [if_pos hc];exact h
 ·rename_i hc;rw [if_neg hc];exact listLoop_deeper toks one one' h1 h2 _ _ _ _ h hl
theorem run_deeper (toks:List Tok)(d d':Nat)(hdd:d≤d'):∀ (g:Nat) (t:Task) (st:PSt) (r:Int × PSt),run toks d g t st=some r→r.2.fE=0→run toks d' g t st=some r
 | 0,_,_,_,h,_=>by rw [run] at h;cases h
 | g+1,.expr nest,st,r,h,hr=>by
  have ih:=run_deeper toks d d' hdd g
  have ex:=run_ext toks d g
  have hd0:(deepM toks d nest st).fE=0:=by
   apply Classical.byContradiction
   intro q
   rw [run,if_pos q] at h
   injection h with h;subst h
   exact q hr
  rw [run] at h ⊢
  rw [deep_eq hdd hd0]
  generalize deepM toks d nest st=s at h hd0
  rw [if_neg (by simp [hd0])] at h ⊢
  split at h
  ·rename_i hc;rw [if_pos hc];exact ih _ _ _ h hr
  rename_i hc;rw [if_neg hc]
  split at h
  ·rename_i hc;rw [if_pos hc]
   obtain ⟨x,h1,h⟩:=Option.bind_eq_some_iff.1 h
   obtain ⟨f,h2,h⟩:=Option.bind_eq_some_iff.1 h
   injection h with h;subst h
   have z2:=(nodeM_ext _ _ _).zero hr
   have z1:=((mustM_ext _ _ _).trans (ex _ _ _ h2)).zero z2
   rw [ih _ _ _ h1 z1,Option.bind_some,ih _ _ _ h2 z2,Option.bind_some]
  rename_i hc;rw [if_neg hc]
  split at h
  ·rename_i hc;rw [if_pos hc]
   obtain ⟨x,h1,h⟩:=Option.bind_eq_some_iff.1 h
   obtain ⟨y,h2,h⟩:=Option.bind_eq_some_iff.1 h
   obtain ⟨f,h3,h⟩:=Option.bind_eq_some_iff.1 h
   injection h with h;subst h
   have z3:=(nodeM_ext _ _ _).zero hr
   have z2:=((mustM_ext _ _ _).trans (ex _ _ _ h3)).zero z3
   have z1:=((mustM_ext _ _ _).trans (ex _ _ _ h2)).zero z2
   rw [ih _ _ _ h1 z1,Option.bind_some,ih _ _ _ h2 z2,Option.bind_some,ih _ _ _ h3 z3,Option.bind_some]
  rename_i hc;rw [if_neg hc]
  split at h
  ·rename_i hc;rw [if_pos hc]
   obtain ⟨x,h1,h⟩:=Option.bind_eq_some_iff.1 h
   obtain ⟨f,h2,h⟩:=Option.bind_eq_some_iff.1 h
   injection h with h;subst h
   have z2:=(nodeM_ext _ _ _).zero hr
   have z1:=((mustM_ext _ _ _).trans (ex _ _ _ h2)).zero z2
   rw [ih _ _ _ h1 z1,Option.bind_some,ih _ _ _ h2 z2,Option.bind_some]
  ·rename_i hc;rw [if_neg hc];exact ih _ _ _ h hr
 | g+1,.formula nest,st,r,h,hr=>by
  have ih:=run_deeper toks d d' hdd g
  have ex:=run_ext toks d g
  rw [run] at h ⊢
  obtain ⟨a,h1,h⟩:=Option.bind_eq_some_iff.1 h
  split at h
  ·rename_i hn
   have hd0:(deepM toks d (nest+1) (leafM toks a.2).2).fE=0:=by
    apply Classical.byContradiction
    intro q
    rw [if_pos q] at h
    injection h with h;subst h
    exact q hr
   rw [if_neg (by simp [hd0])] at h
   obtain ⟨b,h2,h⟩:=Option.bind_eq_some_iff.1 h
   injection h with h;subst h
   have z2:=(nodeM_ext _ _ _).zero hr
   have z1:=((leafM_ext toks a.2).trans (deepM_ext _ _ _ _)).zero hd0
   rw [ih _ _ _ h1 z1,Option.bind_some,if_pos hn,deep_eq hdd hd0,if_neg (by simp [hd0]),ih _ _ _ h2 z2,Option.bind_some]
  ·rename_i hn
   injection h with h;subst h
   rw [ih _ _ _ h1 hr,Option.bind_some,if_neg hn]
 | g+1,.part l nest,st,r,h,hr=>by
  have ih:=run_deeper toks d d' hdd g
  rw [run] at h ⊢
  split at h
  ·rename_i hc;rw [if_pos hc];exact ih _ _ _ h hr
  ·rename_i hc;rw [if_neg hc]
   split at h
   ·rename_i hc;rw [if_pos hc];exact ih _ _ _ h hr
   ·rename_i hc;rw [if_neg hc];exact ih _ _ _ h hr
 | g+1,.row l nest,st,r,h,hr=>by
  have ih:=run_deeper toks d d' hdd g
  have ex:=run_ext toks d g
  rw [run] at h ⊢
  obtain ⟨a,h1,h⟩:=Option.bind_eq_some_iff.1 h
  rw [ih _ _ _ h1 ((ex _ _ _ h).zero hr),Option.bind_some]
  exact ih _ _ _ h hr
 | g+1,.loop l nest a,st,r,h,hr=>by
  have ih:=run_deeper toks d d' hdd g
  have ex:=run_ext toks d g
  rw [run] at h ⊢
  split at h
  ·rename_i hn
   rw [if_pos hn]
   obtain ⟨b,h1,h⟩:=Option.bind_eq_some_iff.1 h
   have z:(nodeM 10 [a,(leafM toks st).1,b.1] b.2).2.fE=0:=by
    split at h
    ·injection h with h;subst h;exact hr
    ·exact (ex _ _ _ h).zero hr
   rw [ih _ _ _ h1 ((nodeM_ext _ _ _).zero z),Option.bind_some]
   split at h
   ·rename_i hc;rw [if_pos hc];exact h
   ·rename_i hc;rw [if_neg hc];exact ih _ _ _ h hr
  ·rename_i hn
   rw [if_neg hn];exact h
 | g+1,.neg nest,st,r,h,hr=>by
  have ih:=run_deeper toks d d' hdd g
  rw [run] at h ⊢
  split at h
  ·rename_i hn
   rw [if_pos hn]
   have hd0:(deepM toks d (nest+1) (leafM toks st).2).fE=0:=by
    apply Classical.byContradiction
    intro q
    rw [if_pos q] at h
    injection h with h;subst h
    exact q hr
   rw [if_neg (by simp [hd0])] at h
   obtain ⟨b,h2,h⟩:=Option.bind_eq_some_iff.1 h
   injection h with h;subst h
   rw [deep_eq hdd hd0,if_neg (by simp [hd0]),ih _ _ _ h2 ((nodeM_ext _ _ _).zero hr),Option.bind_some]
  ·rename_i hn
   rw [if_neg hn];exact ih _ _ _ h hr
 | g+1,.factor nest,st,r,h,hr=>by
  have ih:=run_deeper toks d d' hdd g
  rw [run] at h ⊢
  split at h
  ·rename_i hn
   rw [if_pos hn]
   have hd0:(deepM toks d (nest+1) (leafM toks st).2).fE=0:=by
    apply Classical.byContradiction
    intro q
    rw [if_pos q] at h
    injection h with h;subst h
    exact q hr
   rw [if_neg (by simp [hd0])] at h
   obtain ⟨b,h2,h⟩:=Option.bind_eq_some_iff.1 h
   injection h with h;subst h
   rw [deep_eq hdd hd0,if_neg (by simp [hd0]),ih _ _ _ h2 ((nodeM_ext _ _ _).zero hr),Option.bind_some]
  ·rename_i hn
   rw [if_neg hn];exact ih _ _ _ h hr
 | g+1,.atom nest,st,r,h,hr=>by
  have ih:=run_deeper toks d d' hdd g
  rw [run] at h ⊢
  split at h
  ·rename_i hc;rw [if_pos hc];exact h
  rename_i hc;rw [if_neg hc]
  split at h
  ·rename_i hc;rw [if_pos hc];exact h
  rename_i hc;rw [if_neg hc]
  split at h
  ·rename_i hc;rw [if_pos hc];exact h
  rename_i hc;rw [if_neg hc]
  split at h
  ·rename_i hc;rw [if_pos hc];exact h
  rename_i hc;rw [if_neg hc]
  split at h
  ·rename_i hc;rw [if_pos hc]
   obtain ⟨b,h1,h⟩:=Option.bind_eq_some_iff.1 h
   injection h with h;subst h
   rw [ih _ _ _ h1 (((mustM_ext _ _ _).trans (nodeM_ext _ _ _)).zero hr),Option.bind_some]
  rename_i hc;rw [if_neg hc]
  split at h
  ·rename_i hc;rw [if_pos hc];exact ih _ _ _ h hr
  ·rename_i hc;rw [if_neg hc];exact h
 | g+1,.name nest,st,r,h,hr=>by
  have ih:=run_deeper toks d d' hdd g
  have ex:=run_ext toks d g
  rw [run] at h ⊢
  split at h
  ·rename_i hc;rw [if_pos hc];exact h
  ·rename_i hc;rw [if_neg hc]
   obtain ⟨l,h1,h⟩:=Option.bind_eq_some_iff.1 h
   injection h with h;subst h
   rw [listM_deeper toks _ (fun s=>run toks d' g (.expr (nest+1)) s) (fun s k hk=>ex _ _ _ hk) (fun s k hk hz=>ih _ _ _ hk hz) _ _ h1 (((mustM_ext _ _ _).trans (nodeM_ext _ _ _)).zero hr),Option.bind_some]
theorem aloneM_deeper {toks:List Tok}{d d' g:Nat}{st:PSt}(hdd:d≤d')(h:aloneM toks d g=some st)(hs:st.fE=0):aloneM toks d' g=some st:=by
 unfold aloneM at h ⊢
 obtain ⟨a,h1,h⟩:=Option.bind_eq_some_iff.1 h
 injection h with h;subst h
 rw [run_deeper toks d d' hdd g _ _ _ h1 (((kindM_ext _ _ _).trans (nodeM_ext _ _ _)).zero hs),Option.bind_some]
end Go.Proofs.YtemkhbmkaalgdaaGreatDoor
