/- Walks and plain laws: ParseLaws4, ParseLaws5, FormPlain, AtsL, Builder, LexWhole, DumpL. -/
import Derived.Maps.AppendAt
import Derived.RangeFuncBox
import Derived.Test.YtbodlpoomfefcaaGreatDoorA14
set_option maxHeartbeats 16000000
set_option maxRecDepth 100000
set_option linter.unusedVariables false
set_option linter.unusedSimpArgs false
namespace Go.Proofs.YtbodlpoomfefcaaGreatDoor
def Slk (a b:PSt):Prop:=b.nodes.length+2 * a.used≤a.nodes.length+2 * b.used
theorem Slk.refl (a:PSt):Slk a a:=Nat.le_refl _
theorem Slk.trans {a b c:PSt}(h:Slk a b)(k:Slk b c):Slk a c:=by unfold Slk at *;omega
theorem failM_slk (toks:List Tok)(e:Nat)(st:PSt):Slk st (failM toks e st):=by
 unfold failM
 split <;> exact Nat.le_refl _
theorem deepM_slk (toks:List Tok)(d n:Nat)(st:PSt):Slk st (deepM toks d n st):=by
 unfold deepM
 split
 ·exact failM_slk _ _ _
 ·exact Slk.refl _
theorem leafM_two (toks:List Tok)(st:PSt):(leafM toks st=(-1,st))∨((leafM toks st).2.nodes.length=st.nodes.length+1∧(leafM toks st).2.used=st.used+1):=by
 unfold leafM
 split
 ·exact .inl rfl
 ·exact .inr ⟨by simp,rfl⟩
theorem leafM_slk (toks:List Tok)(st:PSt):Slk st (leafM toks st).2:=by
 rcases leafM_two toks st with h|⟨h1,h2⟩
 ·rw [h];exact Slk.refl _
 ·unfold Slk;omega
theorem mustM_slk (toks:List Tok)(l:List (List UInt8))(st:PSt):Slk st (mustM toks l st).2:=by
 unfold mustM
 split
 ·exact leafM_slk _ _
 ·exact failM_slk _ _ _
theorem kindM_slk (toks:List Tok)(k:Nat)(st:PSt):Slk st (kindM toks k st).2:=by
 unfold kindM
 split
 ·exact leafM_slk _ _
 ·exact failM_slk _ _ _
theorem nodeM_two (k:Int)(l:List Int)(st:PSt):(nodeM k l st).2.used=st.used∧(nodeM k l st).2.nodes.length≤st.nodes.length+1∧((-1:Int)∈l→(nodeM k l st).2.nodes.length=st.nodes.length):=by
 unfold nodeM rawM
 split
 ·split
  ·exact ⟨rfl,by simp,fun _=>rfl⟩
  ·rename_i hb
   refine ⟨rfl,by simp,fun h=>?_⟩
   exact (hb (List.any_eq_true.2 ⟨-1,h,by simp⟩)).elim
 ·exact ⟨rfl,by simp,fun _=>rfl⟩
theorem node_slk (toks:List Tok)(k:Int)(l:List Int)(st s3:PSt)(h:Slk (leafM toks st).2 s3)(hm:(leafM toks st).1∈l):Slk st (nodeM k l s3).2:=by
 obtain ⟨h1,h2,h3⟩:=nodeM_two k l s3
 rcases leafM_two toks st with hl|⟨l1,l2⟩
 ·rw [hl] at h hm
  have:=h3 hm
  unfold Slk at *
  simp only at h
  omega
 ·unfold Slk at *
  omega
theorem qualM_slk (toks:List Tok)(a:Int × PSt):Slk a.2 (qualM toks a).2:=by
 unfold qualM
 split
 ·exact (leafM_slk _ _).trans (kindM_slk _ _ _)
 ·exact Slk.refl _
theorem listLoop_slk (toks:List Tok)(one:PSt→Option (Int × PSt))(h1:∀ s k,one s=some k→Slk s k.2):∀ (r:Nat) (kids:List Int) (st:PSt) (l:List Int × PSt),listLoop toks one r kids st=some l→Slk st l.2
 | 0,kids,st,l,h=>by
  rw [listLoop] at h
  injection h with h
  subst h
  show Slk st (if st.fE=0 then failM toks 15 st else st)
  split
  ·exact failM_slk _ _ _
  ·exact Slk.refl _
 | r+1,kids,st,l,h=>by
  rw [listLoop] at h
  split at h
  ·injection h with h;subst h;exact Slk.refl _
  ·obtain ⟨k,hk,h⟩:=Option.bind_eq_some_iff.1 h
   have:=h1 _ _ hk
   split at h
   ·exact (this.trans (leafM_slk _ _)).trans (listLoop_slk toks one h1 r _ _ _ h)
   ·injection h with h;subst h;exact this
theorem listM_slk (toks:List Tok)(one:PSt→Option (Int × PSt))(h1:∀ s k,one s=some k→Slk s k.2)(st:PSt)(l:List Int × PSt)(h:listM toks one st=some l):Slk st l.2:=by
 unfold listM at h
 split at h
 ·injection h with h;subst h;exact Slk.refl _
 ·exact listLoop_slk toks one h1 _ _ _ _ h
theorem run_slk (toks:List Tok)(depth:Nat):∀ (g:Nat) (t:Task) (st:PSt) (r:Int × PSt),run toks depth g t st=some r→Slk st r.2
 | 0,_,_,_,h=>by rw [run] at h;cases h
 | g+1,.expr nest,st,r,h=>by
  have ih:=run_slk toks depth g
  rw [run] at h
  have hd:=deepM_slk toks depth nest st
  generalize deepM toks depth nest st=s at h hd
  split at h
  ·injection h with h;subst h;exact hd
  split at h
  ·exact hd.trans (ih _ _ _ h)
  split at h
  ·obtain ⟨d,h1,h⟩:=Option.bind_eq_some_iff.1 h
   obtain ⟨f,h2,h⟩:=Option.bind_eq_some_iff.1 h
   injection h with h;subst h
   exact hd.trans (node_slk toks _ _ _ _ ((((kindM_slk _ _ _).trans (mustM_slk _ _ _)).trans (ih _ _ _ h1)).trans ((mustM_slk _ _ _).trans (ih _ _ _ h2))) (by simp))
  split at h
  ·obtain ⟨b,h1,h⟩:=Option.bind_eq_some_iff.1 h
   obtain ⟨d,h2,h⟩:=Option.bind_eq_some_iff.1 h
   obtain ⟨f,h3,h⟩:=Option.bind_eq_some_iff.1 h
   injection h with h;subst h
   exact hd.trans (node_slk toks _ _ _ _ ((((ih _ _ _ h1).trans (mustM_slk _ _ _)).trans (ih _ _ _ h2)).trans ((mustM_slk _ _ _).trans (ih _ _ _ h3))) (by simp))
  split at h
  ·obtain ⟨b,h1,h⟩:=Option.bind_eq_some_iff.1 h
   obtain ⟨d,h2,h⟩:=Option.bind_eq_some_iff.1 h
   injection h with h;subst h
   exact hd.trans (node_slk toks _ _ _ _ (((ih _ _ _ h1).trans (mustM_slk _ _ _)).trans (ih _ _ _ h2)) (by simp))
  ·exact hd.trans (ih _ _ _ h)
 | g+1,.formula nest,st,r,h=>by
  have ih:=run_slk toks depth g
  rw [run] at h
  obtain ⟨a,h1,h⟩:=Option.bind_eq_some_iff.1 h
  have ha:=ih _ _ _ h1
  split at h
  ·have hd:=(ha.trans (leafM_slk toks a.2)).trans (deepM_slk toks depth (nest+1) _)
   split at h
   ·injection h with h;subst h;exact hd
   ·obtain ⟨b,h2,h⟩:=Option.bind_eq_some_iff.1 h
    injection h with h;subst h
    exact ha.trans (node_slk toks _ _ _ _ ((deepM_slk _ _ _ _).trans (ih _ _ _ h2)) (by simp))
  ·injection h with h;subst h;exact ha
 | g+1,.part l nest,st,r,h=>by
  have ih:=run_slk toks depth g
  rw [run] at h
  split at h
  ·exact ih _ _ _ h
  ·split at h
   ·exact ih _ _ _ h
   ·exact ih _ _ _ h
 | g+1,.row l nest,st,r,h=>by
  have ih:=run_slk toks depth g
  rw [run] at h
  obtain ⟨a,h1,h⟩:=Option.bind_eq_some_iff.1 h
  exact (ih _ _ _ h1).trans (ih _ _ _ h)
 | g+1,.loop l nest a,st,r,h=>by
  have ih:=run_slk toks depth g
  rw [run] at h
  split at h
  ·obtain ⟨b,h1,h⟩:=Option.bind_eq_some_iff.1 h
   have hb:=node_slk toks 10 [a,(leafM toks st).1,b.1] st _ (ih _ _ _ h1) (by simp)
   split at h
   ·injection h with h;subst h;exact hb
   ·exact hb.trans (ih _ _ _ h)
  ·injection h with h;subst h;exact Slk.refl _
 | g+1,.neg nest,st,r,h=>by
  have ih:=run_slk toks depth g
  rw [run] at h
  split at h
  ·have hd:=(leafM_slk toks st).trans (deepM_slk toks depth (nest+1) _)
   split at h
   ·injection h with h;subst h;exact hd
   ·obtain ⟨b,h2,h⟩:=Option.bind_eq_some_iff.1 h
    injection h with h;subst h
    exact node_slk toks _ _ _ _ ((deepM_slk _ _ _ _).trans (ih _ _ _ h2)) (by simp)
  ·exact ih _ _ _ h
 | g+1,.factor nest,st,r,h=>by
  have ih:=run_slk toks depth g
  rw [run] at h
  split at h
  ·have hd:=(leafM_slk toks st).trans (deepM_slk toks depth (nest+1) _)
   split at h
   ·injection h with h;subst h;exact hd
   ·obtain ⟨b,h2,h⟩:=Option.bind_eq_some_iff.1 h
    injection h with h;subst h
    exact node_slk toks _ _ _ _ ((deepM_slk _ _ _ _).trans (ih _ _ _ h2)) (by simp)
  ·exact ih _ _ _ h
 | g+1,.atom nest,st,r,h=>by
  have ih:=run_slk toks depth g
  rw [run] at h
  split at h
  ·injection h with h;subst h;exact Slk.refl _
  split at h
  ·injection h with h;subst h;exact node_slk toks _ _ _ _ (Slk.refl _) (by simp)
  split at h
  ·injection h with h;subst h;exact node_slk toks _ _ _ _ (Slk.refl _) (by simp)
  split at h
  ·injection h with h;subst h;exact node_slk toks _ _ _ _ (Slk.refl _) (by simp)
  split at h
  ·obtain ⟨b,h1,h⟩:=Option.bind_eq_some_iff.1 h
   injection h with h;subst h
   exact node_slk toks _ _ _ _ ((ih _ _ _ h1).trans (mustM_slk _ _ _)) (by simp)
  split at h
  ·exact ih _ _ _ h
  ·injection h with h;subst h;exact failM_slk _ _ _
 | g+1,.name nest,st,r,h=>by
  have ih:=run_slk toks depth g
  rw [run] at h
  split at h
  ·injection h with h;subst h;exact node_slk toks _ _ _ _ (Slk.refl _) (by simp)
  ·obtain ⟨l,h1,h⟩:=Option.bind_eq_some_iff.1 h
   injection h with h;subst h
   exact node_slk toks _ _ _ _ (((qualM_slk _ _).trans (mustM_slk _ _ _)).trans ((listM_slk toks _ (fun s k hk=>ih _ _ _ hk) _ _ h1).trans (mustM_slk _ _ _))) (by unfold qualM;split <;> simp)
def Wth (toks:List Tok)(a b:PSt):Prop:=a.used≤toks.length→b.used≤toks.length
theorem Wth.refl {toks:List Tok}(a:PSt):Wth toks a a:=fun h=>h
theorem Wth.trans {toks:List Tok}{a b c:PSt}(h:Wth toks a b)(k:Wth toks b c):Wth toks a c:=fun q=>k (h q)
theorem failM_wth (toks:List Tok)(e:Nat)(st:PSt):Wth toks st (failM toks e st):=by
 unfold failM
 split
 ·exact fun h=>h
 ·exact Wth.refl _
theorem leafM_wth (toks:List Tok)(st:PSt):Wth toks st (leafM toks st).2:=by
 intro h
 unfold leafM
 split
 ·exact h
 ·simp only;omega
theorem nodeM_wth {toks:List Tok}(k:Int)(l:List Int)(st:PSt):Wth toks st (nodeM k l st).2:=by
 unfold nodeM rawM
 split
 ·split
  ·exact Wth.refl _
  ·exact fun h=>h
 ·exact Wth.refl _
theorem mustM_wth (toks:List Tok)(l:List (List UInt8))(st:PSt):Wth toks st (mustM toks l st).2:=by
 unfold mustM
 split
 ·exact leafM_wth _ _
 ·exact failM_wth _ _ _
theorem kindM_wth (toks:List Tok)(k:Nat)(st:PSt):Wth toks st (kindM toks k st).2:=by
 unfold kindM
 split
 ·exact leafM_wth _ _
 ·exact failM_wth _ _ _
theorem deepM_wth (toks:List Tok)(d n:Nat)(st:PSt):Wth toks st (deepM toks d n st):=by
 unfold deepM
 split
 ·exact failM_wth _ _ _
 ·exact Wth.refl _
theorem qualM_wth (toks:List Tok)(a:Int × PSt):Wth toks a.2 (qualM toks a).2:=by
 unfold qualM
 split
 ·exact (leafM_wth _ _).trans (kindM_wth _ _ _)
 ·exact Wth.refl _
theorem listLoop_wth (toks:List Tok)(one:PSt→Option (Int × PSt))(h1:∀ s k,one s=some k→Wth toks s k.2):∀ (r:Nat) (kids:List Int) (st:PSt) (l:List Int × PSt),listLoop toks one r kids st=some l→Wth toks st l.2
 | 0,kids,st,l,h=>by
  rw [listLoop] at h
  injection h with h
  subst h
  show Wth toks st (if st.fE=0 then failM toks 15 st else st)
  split
  ·exact failM_wth _ _ _
  ·exact Wth.refl _
 | r+1,kids,st,l,h=>by
  rw [listLoop] at h
  split at h
  ·injection h with h;subst h;exact Wth.refl _
  ·obtain ⟨k,hk,h⟩:=Option.bind_eq_some_iff.1 h
   have:=h1 _ _ hk
   split at h
   ·exact (this.trans (leafM_wth _ _)).trans (listLoop_wth toks one h1 r _ _ _ h)
   ·injection h with h;subst h;exact this
theorem listM_wth (toks:List Tok)(one:PSt→Option (Int × PSt))(h1:∀ s k,one s=some k→Wth toks s k.2)(st:PSt)(l:List Int × PSt)(h:listM toks one st=some l):Wth toks st l.2:=by
 unfold listM at h
 split at h
 ·injection h with h;subst h;exact Wth.refl _
 ·exact listLoop_wth toks one h1 _ _ _ _ h
theorem run_wth (toks:List Tok)(depth:Nat):∀ (g:Nat) (t:Task) (st:PSt) (r:Int × PSt),run toks depth g t st=some r→Wth toks st r.2
 | 0,_,_,_,h=>by rw [run] at h;cases h
 | g+1,.expr nest,st,r,h=>by
  have ih:=run_wth toks depth g
  rw [run] at h
  have hd:=deepM_wth toks depth nest st
  generalize deepM toks depth nest st=s at h hd
  split at h
  ·injection h with h;subst h;exact hd
  split at h
  ·exact hd.trans (ih _ _ _ h)
  split at h
  ·obtain ⟨d,h1,h⟩:=Option.bind_eq_some_iff.1 h
   obtain ⟨f,h2,h⟩:=Option.bind_eq_some_iff.1 h
   injection h with h;subst h
   exact (((((hd.trans (leafM_wth _ _)).trans (kindM_wth _ _ _)).trans (mustM_wth _ _ _)).trans (ih _ _ _ h1)).trans (mustM_wth _ _ _)).trans ((ih _ _ _ h2).trans (nodeM_wth _ _ _))
  split at h
  ·obtain ⟨b,h1,h⟩:=Option.bind_eq_some_iff.1 h
   obtain ⟨d,h2,h⟩:=Option.bind_eq_some_iff.1 h
   obtain ⟨f,h3,h⟩:=Option.bind_eq_some_iff.1 h
   injection h with h;subst h
   exact (((((hd.trans (leafM_wth _ _)).trans (ih _ _ _ h1)).trans (mustM_wth _ _ _)).trans (ih _ _ _ h2)).trans (mustM_wth _ _ _)).trans ((ih _ _ _ h3).trans (nodeM_wth _ _ _))
  split at h
  ·obtain ⟨b,h1,h⟩:=Option.bind_eq_some_iff.1 h
   obtain ⟨d,h2,h⟩:=Option.bind_eq_some_iff.1 h
   injection h with h;subst h
   exact (((hd.trans (leafM_wth _ _)).trans (ih _ _ _ h1)).trans (mustM_wth _ _ _)).trans ((ih _ _ _ h2).trans (nodeM_wth _ _ _))
  ·exact hd.trans (ih _ _ _ h)
 | g+1,.formula nest,st,r,h=>by
  have ih:=run_wth toks depth g
  rw [run] at h
  obtain ⟨a,h1,h⟩:=Option.bind_eq_some_iff.1 h
  have ha:=ih _ _ _ h1
  split at h
  ·have hd:=(ha.trans (leafM_wth toks a.2)).trans (deepM_wth toks depth (nest+1) _)
   split at h
   ·injection h with h;subst h;exact hd
   ·obtain ⟨b,h2,h⟩:=Option.bind_eq_some_iff.1 h
    injection h with h;subst h
    exact (hd.trans (ih _ _ _ h2)).trans (nodeM_wth _ _ _)
  ·injection h with h;subst h;exact ha
 | g+1,.part l nest,st,r,h=>by
  have ih:=run_wth toks depth g
  rw [run] at h
  split at h
  ·exact ih _ _ _ h
  ·split at h
   ·exact ih _ _ _ h
   ·exact ih _ _ _ h
 | g+1,.row l nest,st,r,h=>by
  have ih:=run_wth toks depth g
  rw [run] at h
  obtain ⟨a,h1,h⟩:=Option.bind_eq_some_iff.1 h
  exact (ih _ _ _ h1).trans (ih _ _ _ h)
 | g+1,.loop l nest a,st,r,h=>by
  have ih:=run_wth toks depth g
  rw [run] at h
  split at h
  ·obtain ⟨b,h1,h⟩:=Option.bind_eq_some_iff.1 h
   have hb:=((leafM_wth toks st).trans (ih _ _ _ h1)).trans (nodeM_wth 10 [a,(leafM toks st).1,b.1] _)
   split at h
   ·injection h with h;subst h;exact hb
   ·exact hb.trans (ih _ _ _ h)
  ·injection h with h;subst h;exact Wth.refl _
 | g+1,.neg nest,st,r,h=>by
  have ih:=run_wth toks depth g
  rw [run] at h
  split at h
  ·have hd:=(leafM_wth toks st).trans (deepM_wth toks depth (nest+1) _)
   split at h
   ·injection h with h;subst h;exact hd
   ·obtain ⟨b,h2,h⟩:=Option.bind_eq_some_iff.1 h
    injection h with h;subst h
    exact (hd.trans (ih _ _ _ h2)).trans (nodeM_wth _ _ _)
  ·exact ih _ _ _ h
 | g+1,.factor nest,st,r,h=>by
  have ih:=run_wth toks depth g
  rw [run] at h
  split at h
  ·have hd:=(leafM_wth toks st).trans (deepM_wth toks depth (nest+1) _)
   split at h
   ·injection h with h;subst h;exact hd
   ·obtain ⟨b,h2,h⟩:=Option.bind_eq_some_iff.1 h
    injection h with h;subst h
    exact (hd.trans (ih _ _ _ h2)).trans (nodeM_wth _ _ _)
  ·exact ih _ _ _ h
 | g+1,.atom nest,st,r,h=>by
  have ih:=run_wth toks depth g
  rw [run] at h
  split at h
  ·injection h with h;subst h;exact Wth.refl _
  split at h
  ·injection h with h;subst h;exact (leafM_wth _ _).trans (nodeM_wth _ _ _)
  split at h
  ·injection h with h;subst h;exact (leafM_wth _ _).trans (nodeM_wth _ _ _)
  split at h
  ·injection h with h;subst h;exact (leafM_wth _ _).trans (nodeM_wth _ _ _)
  split at h
  ·obtain ⟨b,h1,h⟩:=Option.bind_eq_some_iff.1 h
   injection h with h;subst h
   exact (((leafM_wth _ _).trans (ih _ _ _ h1)).trans (mustM_wth _ _ _)).trans (nodeM_wth _ _ _)
  split at h
  ·exact ih _ _ _ h
  ·injection h with h;subst h;exact failM_wth _ _ _
 | g+1,.name nest,st,r,h=>by
  have ih:=run_wth toks depth g
  rw [run] at h
  split at h
  ·injection h with h;subst h;exact (leafM_wth _ _).trans (nodeM_wth _ _ _)
  ·obtain ⟨l,h1,h⟩:=Option.bind_eq_some_iff.1 h
   injection h with h;subst h
   exact ((((leafM_wth _ _).trans (qualM_wth _ _)).trans (mustM_wth _ _ _)).trans (listM_wth toks _ (fun s k hk=>ih _ _ _ hk) _ _ h1)).trans ((mustM_wth _ _ _).trans (nodeM_wth _ _ _))
inductive FRes where
 | bad (e a:Nat)
 | good (toks:List Tok) (nodes:List Nd)
def gasA (toks:List Tok):Nat:=20 * toks.length+18
def ofSt (toks:List Tok)(st:PSt):FRes:=if st.fE=0 then .good toks st.nodes else .bad st.fE st.fAt
def formF (S:List UInt8)(d:Nat):FRes :=
 match lexAll S with
 | .error x=>.bad x.1 x.2
 | .ok toks=>match aloneM toks d (gasA toks) with
  | none=>.bad 99 0
  | some st=>ofSt toks st
def aloneT (e:CE):PT:=.node 18 [e.pt,.leaf]
theorem Laid.last5 {T:List UInt8}{p:Nat}{l:List Tok}(h:Laid T p l){u:Nat}(hu:u<l.length)(h5:kindAt l u=5):u+1=l.length:=by
 unfold kindAt peekF at h5
 rw [Nat.min_eq_left (by omega),List.getD_eq_getElem?_getD,List.getElem?_eq_getElem hu] at h5
 have:=(h.last u hu).1 h5
 omega
theorem Laid.endOk {T:List UInt8}{p:Nat}{l:List Tok}(h:Laid T p l):EndOk l:=by
 have h0:=h.some
 unfold EndOk peekF
 rw [Nat.min_eq_right (by omega),List.getD_eq_getElem?_getD,List.getElem?_eq_getElem (by omega)]
 exact (h.last _ (by omega)).2 rfl
theorem alone_total {T:List UInt8}{p:Nat}{toks:List Tok}(hL:Laid T p toks)(d:Nat) :
  ∃ a,run toks d (gasA toks) (.expr 1) { startP with clause:=true }=some a∧a.2.used≤toks.length∧a.2.nodes.length≤2 * toks.length:=by
 obtain ⟨a,ha⟩:=run_total toks d hL.endOk (gasA toks) (.expr 1) { startP with clause:=true } trivial (Nat.le_refl _)
 have h1:=run_wth toks d _ _ _ _ ha (Nat.zero_le _)
 have h2:=run_slk toks d _ _ _ _ ha
 unfold Slk at h2
 simp only [startP,List.length_nil] at h2
 exact ⟨a,ha,h1,by omega⟩
theorem nodeM_grows (k:Int)(l:List Int)(st:PSt):(nodeM k l st).2.nodes.length≤st.nodes.length+1:=(nodeM_two k l st).2.1
theorem kindM_grows (toks:List Tok)(k:Nat)(st:PSt):(kindM toks k st).2.nodes.length≤st.nodes.length+1:=by
 unfold kindM
 split
 ·rcases leafM_two toks st with h|h
  ·rw [h];simp
  ·omega
 ·unfold failM;split <;> simp
theorem alone_tree {T:List UInt8}{p:Nat}{toks:List Tok}(hL:Laid T p toks){d g:Nat}{a:Int × PSt}(ha:run toks d g (.expr 1) { startP with clause:=true }=some a)
  (hf:(nodeM 18 [a.1,(kindM toks 5 a.2).1] (kindM toks 5 a.2).2).2.fE=0) :
  ∃ e:CE,(nodeM 18 [a.1,(kindM toks 5 a.2).1] (kindM toks 5 a.2).2).2.nodes=(aloneT e).em 0 0∧e.ok toks true 0∧e.pt.lv+1=toks.length:=by
 have hk:=(nodeM_ext _ _ _).zero hf
 have h1:=(kindM_ext toks 5 a.2).zero hk
 obtain ⟨e,hg,hid,hok,hu⟩:=run_tree toks hL.endOk d g (.expr 1) _ a ha h1
 have hu':=hu hL.some
 have hku:kindM toks 5 a.2=leafM toks a.2∧kindAt toks a.2.used=5:=by
  unfold kindM at hk ⊢
  by_cases hc:a.2.fE=0∧(peekF toks a.2.used).kind=5
  ·rw [if_pos hc]
   exact ⟨rfl,hc.2⟩
  ·rw [if_neg hc] at hk
   exact (fail_no (by decide) hk).elim
 have hlast:=hL.last5 hu' hku.2
 obtain ⟨hl1,hl2⟩:=Grew.leaf (toks:=toks) (st:=a.2) (by omega)
 have hall:=hg.append hl1
 rw [hku.1] at hf hk ⊢
 have hlen:=hg.len
 have hn:=hall.node hk 18
 have hids:idsL ({ startP with clause:=true }:PSt).nodes.length ([e.pt]++[.leaf])=[a.1,(leafM toks a.2).1]:=by
  rw [hid,hl2,hlen]
  simp [idsL,startP,ndL,PT.nd]
 rw [hids] at hn
 refine ⟨e,?_,hok,?_⟩
 ·have h18:=hn.1
  simp only [Int.cast_ofNat_Int] at h18
  rw [h18]
  simp [startP,emL,aloneT]
 ·have:=hg.used
  simp only [lvL,startP] at this
  omega
theorem formF_deeper {S:List UInt8}{d d':Nat}{toks:List Tok}{nodes:List Nd}(hdd:d≤d')(h:formF S d=.good toks nodes):formF S d'=.good toks nodes:=by
 unfold formF at h ⊢
 cases hl:lexAll S with
 | error x=>rw [hl] at h;cases h
 | ok l =>
  rw [hl] at h
  simp only at h ⊢
  cases hm:aloneM l d (gasA l) with
  | none=>rw [hm] at h;cases h
  | some st =>
   rw [hm] at h
   simp only at h
   have hs:st.fE=0:=by
    unfold ofSt at h
    split at h
    ·assumption
    ·cases h
   rw [aloneM_deeper hdd hm hs]
   exact h
mutual
theorem em_kids:∀ (t:PT) (b u:Nat),∀ n∈t.em b u,n.kids.length≤t.nd
 | .leaf,b,u,n,h=>by
  rw [PT.em,List.mem_singleton] at h
  subst h
  simp
 | .node k l,b,u,n,h=>by
  rw [PT.em,List.mem_append,List.mem_singleton] at h
  rw [PT.nd]
  rcases h with h|h
  ·have:=emL_kids l b u n h
   omega
  ·subst h
   have:=ids_few l b
   simp only
   omega
theorem emL_kids:∀ (l:List PT) (b u:Nat),∀ n∈emL b u l,n.kids.length≤ndL l
 | [],b,u,n,h=>by rw [emL] at h;cases h
 | t :: l,b,u,n,h=>by
  rw [emL,List.mem_append] at h
  rw [ndL]
  rcases h with h|h
  ·have:=em_kids t _ _ n h
   omega
  ·have:=emL_kids l _ _ n h
   omega
theorem ids_few:∀ (l:List PT) (b:Nat),(idsL b l).length≤ndL l
 | [],b=>by simp [idsL]
 | t :: l,b=>by
  have:=ids_few l (b+t.nd)
  have hp:=t.nd_pos
  rw [idsL,ndL,List.length_cons]
  omega
end
end Go.Proofs.YtbodlpoomfefcaaGreatDoor

namespace Go.Proofs.YtbodlpoomfefcaaGreatDoor
open Go.RowKit Go
def StrPost (l:List UInt8)(w:World)(r:Ending)(w':World):Prop:=r=.returned (.string ⟨l.toArray⟩)∧Below w.heap.size w w'
theorem row_form {W:World}{base n:Nat}{e:TypeId}{size:Nat}{v:Value}{xs:List Value}(h:W.ownsRow base e size v n xs)(h0:0<n):∃ g cap,v=.slice (some ⟨g,0,none⟩) n cap:=by
 rcases h.2 with ⟨_,h1⟩|⟨g,cap,_,rfl,_⟩
 ·omega
 ·exact ⟨g,cap,rfl⟩
theorem take_succ_at {α:Type}{l:List α}{k:Nat}(h:k<l.length):l.take (k+1)=l.take k++[l[k]]:=List.take_succ_eq_append_getElem h
end Go.Proofs.YtbodlpoomfefcaaGreatDoor

namespace Go.Proofs.YtbodlpoomfefcaaGreatDoor
open Go.RowKit
theorem sizeBuilder:(Tryz.prog.info? 100).map (·.size)=some 2:=by kernel_rfl
class IsBT (T:TypeId):Prop where
 lies:liesAt Tryz.prog Tryz.prog.depth T (2 / Tryz.prog.cellsOf T) 0 100 1=true
 ne:T≠5
instance:IsBT 100:=⟨by kernel_rfl,by decide⟩
instance:IsBT 107:=⟨by kernel_rfl,by decide⟩
theorem Tryz.infoByte:(Tryz.prog.info? 5).map (fun i=>(i.zero,i.size,i.bytes))=some (some (.int .u8 0),1,1):=by kernel_rfl
theorem copyCheck_used (b:Nat)(w:World)(h0:w.cell? ⟨b,0,none⟩=some (.pointer (some ⟨b,0,none⟩))) :
  Calls Tryz.prog 147 #[.pointer (some ⟨b,0,none⟩)] w fun e w'=>e=.returned (.tuple #[])∧w'=w:=by
 obtain ⟨j,hj,_⟩:=Option.map_eq_some_iff.1 sizeBuilder
 go_enter Tryz.func147,Tryz.ntmps147
 go_wp2
 rw [Lib.run_neq_ptr_same w _ Tryz.underlying97 hj]
 go_wp2
 go_end0
 exact ⟨rfl,rfl⟩
theorem copyCheck_fresh {T:TypeId}[hT:IsBT T](b:Nat)(w:World)(h0:w.cell? ⟨b,0,none⟩=some (.pointer none))(hsh:w.shape? b=some (T,2))(hfz:w.frozen? ⟨b,0,none⟩=false) :
  Calls Tryz.prog 147 #[.pointer (some ⟨b,0,none⟩)] w fun e w'=>e=.returned (.tuple #[])∧w'=w.setCell ⟨b,0,none⟩ (.pointer (some ⟨b,0,none⟩)):=by
 obtain ⟨j,hj,hjs⟩:=Option.map_eq_some_iff.1 sizeBuilder
 go_enter Tryz.func147,Tryz.ntmps147
 go_wp2
 rw [Lib.run_to_unsafe w ⟨b,0,none⟩ Tryz.underlying97 Tryz.underlying282 hj (by rw [hjs];decide) hsh (Nat.zero_lt_succ 1)]
 simp only [Result.andThen]
 rw [Oper.upon_value]
 go_wp2
 rw [run_callFunc_extern Tryz.func217 (by kernel_rfl) (by kernel_rfl) (by kernel_rfl) (e:=Extern.AbiNoEscape.same) (by kernel_rfl)]
 rw [Lib.run_noEscape]
 simp only [Result.andThen]
 rw [Oper.upon_value]
 go_wp2
 rw [Lib.run_from_unsafe w ⟨b,0,none⟩ Tryz.underlying282 Tryz.underlying97 hj hsh hT.lies]
 simp only [Result.andThen]
 rw [Oper.upon_value]
 go_wp2
 go_end0
 exact ⟨rfl,rfl⟩
theorem copyCheck_k {T:TypeId}[hT:IsBT T](B b:Nat)(bs:List Value)(w:World)(h:Lib.IsBuilderF T 5 B b bs w) :
  Calls Tryz.prog 147 #[.pointer (some ⟨b,0,none⟩)] w fun e w'=>e=.returned (.tuple #[])∧(Lib.BuilderAtF T 5 B b (.pointer (some ⟨b,0,none⟩)) bs w'∧Below B w w'∧Lib.OthersKept 5 (some b) w w'):=by
 rcases h with h|h
 ·refine (copyCheck_fresh b w h.cell0 h.shape h.frozen0).mono ?_
  rintro e w' ⟨rfl,rfl⟩
  exact ⟨rfl,h.used _,(Below.refl B w).setCell (p:=⟨b,0,none⟩) h.1 _,(Lib.OthersKept.refl _ _ w).setCell ⟨b,0,none⟩ rfl _⟩
 ·refine (copyCheck_used b w h.cell0).mono ?_
  rintro e w' ⟨rfl,rfl⟩
  exact ⟨rfl,h,Below.refl B _,Lib.OthersKept.refl _ _ _⟩
theorem writeString {T:TypeId}[hT:IsBT T](B b:Nat)(bs:List Value)(s:ByteArray)(w:World)(h:Lib.IsBuilderF T 5 B b bs w)(hlen:bs.length+s.size≤140737488355328)(hBw:B≤w.heap.size) :
  Calls Tryz.prog 90 #[.pointer (some ⟨b,0,none⟩),.string s] w fun e w'=>e=.returned (.tuple #[.int .i64 s.size,.nilIface])∧(Lib.IsBuilderF T 5 B b (bs++Lib.strCells s) w'∧Below B w w'∧Lib.OthersKept 5 (some b) w w'):=by
 obtain ⟨i0,hi,hz0,hz1,hz2⟩:=info_parts Tryz.infoByte
 go_enter Tryz.func90,Tryz.ntmps90
 go_wp2_with (go_at_call 147;refine (copyCheck_k B b bs _ h).mono ?_)
 rintro e w1 ⟨rfl,h1,hb1,hk1⟩
 obtain ⟨hB,v,hbk,hown,hne⟩:=h1
 have c0:w1.cell? ⟨b,0,none⟩=some (.pointer (some ⟨b,0,none⟩)):=by rw [Lib.cell_of_heap hbk];rfl
 have c1:w1.cell? ⟨b,1,none⟩=some v:=by rw [Lib.cell_of_heap hbk];rfl
 go_wp2_with (at_builtin;refine Lib.wpList_append_own_stringF _ rfl _ _ 98 9 rfl B 5 i0 Tryz.underlying98 Tryz.underlying9 hi hz0 hz1 hz2 _ _ _ rfl hown s rfl ?c3 ?c4 ?c5 ?_)
 case c3=>unfold maxLen;omega
 case c4=>omega
 case c5=>have:=hb1.size;omega
 intro v' w2 hown' hgrow _
 have hlt:b<w1.heap.size:=by
  rcases Nat.lt_or_ge b w1.heap.size with h'|h'
  ·exact h'
  ·simp [Array.getElem?_eq_none h'] at hbk
 have hb2:w2.heap[b]?=some (.cells #[.pointer (some ⟨b,0,none⟩),v] T (0,0)):=by
  rw [hgrow.block b hlt (fun e=>hne e.symm)]
  exact hbk
 have d0:w2.cell? ⟨b,0,none⟩=some (.pointer (some ⟨b,0,none⟩)):=by rw [Lib.cell_of_heap hb2];rfl
 have d1:w2.cell? ⟨b,1,none⟩=some v:=by rw [Lib.cell_of_heap hb2];rfl
 have f1:w2.frozen? ⟨b,1,none⟩=false:=Lib.frozen_of_heap hb2 1
 obtain ⟨ao,n',cap,rfl⟩:∃ ao n' cap,v'=.slice ao n' cap:=by
  rcases hown'.2 with ⟨hv,_⟩|⟨g,cap,cur,fz,hv,_⟩
  ·exact ⟨_,_,_,hv⟩
  ·exact ⟨_,_,_,hv⟩
 go_wp2
 go_ret2
 refine ⟨rfl,?_,?_,(hk1.grown hgrow (Lib.ownsRowF_kind hown)).setCell ⟨b,1,none⟩ rfl _⟩
 ·exact Or.inr (Lib.BuilderAtF.put (T:=T) (e:=5) hB hb2 (bs':=bs++Lib.strCells s) (by simpa [Lib.strCells_length] using hown') hT.ne)
 ·exact (hb1.grown hgrow (by have:=hb1.size;omega) (fun k hk=>(hown.lt k hk).1)).setCell (p:=⟨b,1,none⟩) hB _
def Bld (B b:Nat)(acc:List UInt8)(w:World)(T:TypeId:=100):Prop:=Lib.IsBuilderF T 5 B b (Lib.byteCells acc) w
theorem Bld.at {T:TypeId}{B b:Nat}{acc:List UInt8}{w:World}(h:Bld B b acc w T):∃ p,Lib.BuilderAtF T 5 B b p (Lib.byteCells acc) w:=by
 rcases h with h|h
 ·exact ⟨_,h⟩
 ·exact ⟨_,h⟩
theorem Bld.le {T:TypeId}{B b:Nat}{acc:List UInt8}{w:World}(h:Bld B b acc w T):B≤b:=by obtain ⟨p,h⟩:=h.at;exact h.1
theorem Bld.lt {T:TypeId}{B b:Nat}{acc:List UInt8}{w:World}(h:Bld B b acc w T):b<w.heap.size:=by obtain ⟨p,h⟩:=h.at;exact h.lt
theorem Bld.alloc {T:TypeId}{B b:Nat}{acc:List UInt8}{w:World}(h:Bld B b acc w T)(o:Obj):Bld B b acc (w.alloc o) T:=by
 rcases h with h|h
 ·exact Or.inl (h.alloc o)
 ·exact Or.inr (h.alloc o)
theorem Bld.drew {T:TypeId}{B b:Nat}{acc:List UInt8}{w:World}(h:Bld B b acc w T):Bld B b acc w.drew T:=by
 rcases h with h|h
 ·exact Or.inl h.drew
 ·exact Or.inr h.drew
theorem Bld.fresh {T:TypeId}(w:World):Bld w.heap.size w.heap.size [] (w.alloc (.cells #[.pointer none,.slice none 0 0] T)) T :=
 Lib.IsBuilderF.of (Lib.fresh_isBuilder T 5 w)
theorem Bld.mono {T:TypeId}{B B' b:Nat}{acc:List UInt8}{w:World}(h:Bld B b acc w T)(hb:B'≤B):Bld B' b acc w T:=by
 have key:∀ p,Lib.BuilderAtF T 5 B b p (Lib.byteCells acc) w→Lib.BuilderAtF T 5 B' b p (Lib.byteCells acc) w:=by
  rintro p ⟨h1,v,h2,⟨h3,h4⟩,h5⟩
  refine ⟨by omega,v,h2,⟨h3,?_⟩,h5⟩
  rcases h4 with h4|⟨g,cap,cur,fz,q1,q2,q3⟩
  ·exact Or.inl h4
  ·exact Or.inr ⟨g,cap,cur,fz,q1,by omega,q3⟩
 rcases h with h|h
 ·exact Or.inl (key _ h)
 ·exact Or.inr (key _ h)
theorem Bld.ne {T:TypeId}{B b k:Nat}{acc:List UInt8}{w:World}(h:Bld B b acc w T){cs:Array Value}{T':TypeId}{fr:Nat × Nat}(hk:w.heap[k]?=some (.cells cs T' fr))(hT:T'≠T):k≠b:=by
 obtain ⟨p,_,v,hb,_⟩:=h.at
 rintro rfl
 rw [hk] at hb
 simp only [Option.some.injEq,Obj.cells.injEq] at hb
 exact hT hb.2.1
theorem Bld.block {T:TypeId}{B b k:Nat}{acc:List UInt8}{w w':World}(h:Bld B b acc w T)(ho:Lib.OthersKept 5 (some b) w w'){cs:Array Value}{T':TypeId}{fr:Nat × Nat}(hk:w.heap[k]?=some (.cells cs T' fr))
  (hT:T'≠T) (he:T'≠5):w'.heap[k]?=some (.cells cs T' fr) :=
 ho k _ hk (fun e=>h.ne hk hT (Option.some.inj e)) (fun c fz e=>he (by injection e))
theorem Bld.row {T:TypeId}{B b base e sz n:Nat}{v:Value}{xs:List Value}{acc:List UInt8}{w w':World}(h:Bld B b acc w T)(ho:Lib.OthersKept 5 (some b) w w')(hr:w.ownsRow base e sz v n xs)
  (hT:e≠T) (he:e≠5):w'.ownsRow base e sz v n xs:=by
 obtain ⟨h1,h2⟩:=hr
 refine ⟨h1,?_⟩
 rcases h2 with h2|⟨g,cap,cur,q1,q2,q3,q4⟩
 ·exact Or.inl h2
 ·exact Or.inr ⟨g,cap,cur,q1,q2,h.block ho q3 hT he,q4⟩
theorem Bld.grown {T:TypeId}{B b base e sz n:Nat}{v:Value}{xs:List Value}{acc:List UInt8}{w w':World}(h:Bld B b acc w T)(hr:w.ownsRow base e sz v n xs)(hg:w.grownBy w' v.ownBlock)
  (hT:e≠T) (he:e≠5):Bld B b acc w' T:=by
 have hrow:∀ k,v.ownBlock=some k→∃ cs,w.heap[k]?=some (.cells cs e (0,0)):=by
  intro k hk
  rcases hr.2 with ⟨rfl,_⟩|⟨g,cap,cur,rfl,_,hgg,_⟩
  ·simp [Value.ownBlock] at hk
  ·simp [Value.ownBlock] at hk;subst hk;exact ⟨_,hgg⟩
 have key:∀ p,Lib.BuilderAtF T 5 B b p (Lib.byteCells acc) w→Lib.BuilderAtF T 5 B b p (Lib.byteCells acc) w':=by
  rintro p ⟨h1,u,h2,h3,h5⟩
  have hlt:b<w.heap.size:=h.lt
  refine ⟨h1,u,?_,h3.kept hg ?_,h5⟩
  ·rw [hg.block b hlt (fun q=>?_)]
   ·exact h2
   ·obtain ⟨cs,hcs⟩:=hrow b q.symm
    exact h.ne hcs hT rfl
  ·rcases h3.2 with ⟨rfl,_⟩|⟨g,cap,cur,fz,rfl,_,hgg,_⟩
   ·exact Or.inl rfl
   ·refine Or.inr (fun q=>?_)
    obtain ⟨cs,hcs⟩:=hrow g (by rw [← q];rfl)
    rw [hcs] at hgg
    simp only [Option.some.injEq,Obj.cells.injEq] at hgg
    exact he hgg.2.1
 rcases h with h|h
 ·exact Or.inl (key _ h)
 ·exact Or.inr (key _ h)
theorem write_any {T:TypeId}[IsBT T](B b:Nat)(acc:List UInt8)(s:ByteArray)(w:World)(h:Bld B b acc w T)(hlen:acc.length+s.size≤140737488355328)(hBw:B≤w.heap.size) :
  Calls Tryz.prog 90 #[.pointer (some ⟨b,0,none⟩),.string s] w fun e w'=>e=.returned (.tuple #[.int .i64 s.size,.nilIface])∧Bld B b (acc++s.data.toList) w' T∧Below B w w'∧Lib.OthersKept 5 (some b) w w':=by
 have:=writeString B b (Lib.byteCells acc) s w h (by rw [Lib.byteCells_length];exact hlen) hBw
 rw [Lib.strCells_eq,← Lib.byteCells_append] at this
 exact this
theorem bstring_any (B b:Nat)(acc:List UInt8)(w:World)(h:Bld B b acc w)(hBw:B≤w.heap.size) :
  Calls Tryz.prog 48 #[.pointer (some ⟨b,0,none⟩)] w fun e w'=>e=.returned (.string ⟨acc.toArray⟩)∧Bld B b acc w'∧Below B w w'∧Lib.OthersKept 5 (some b) w w' :=
 Tryz.Builder_String_any_k B b acc w h hBw
def wholeF:List Tok→List UInt8
 | []=>[]
 | t :: l=>t.lead++t.text++wholeF l
theorem wholeF_len:∀ (l:List Tok),(wholeF l).length=tokAt l l.length
 | []=>rfl
 | t :: l=>by rw [wholeF,List.length_append,List.length_append,wholeF_len l,List.length_cons,tokAt_cons,tokLen]
theorem wholeF_snoc:∀ (l:List Tok) (t:Tok),wholeF (l++[t])=wholeF l++(t.lead++t.text)
 | [],t=>by simp [wholeF]
 | x :: l,t=>by simp only [List.cons_append,wholeF,wholeF_snoc l t,List.append_assoc]
theorem Laid.whole_take {T:List UInt8}{p:Nat}{l:List Tok}(h:Laid T p l):∀ k,k≤l.length→wholeF (l.take k)=T.take (tokAt l k)
 | 0,_=>by simp [wholeF,tokAt_zero]
 | k+1,hk=>by
  have hl:k<l.length:=hk
  have hle:=h.inside (k+1) hk
  rw [tokAt_succ l k hl,tokLen] at hle
  rw [List.take_succ_eq_append_getElem hl,wholeF_snoc,h.whole_take k (by omega),tokAt_succ l k hl,tokLen]
  have h1:=h.lead k hl
  have h2:=h.text k hl
  generalize tokAt l k=a at h1 h2 hle ⊢
  rw [← Nat.add_assoc,List.take_add (i:=a+l[k].lead.length),List.take_add (i:=a),h1,h2,List.append_assoc]
theorem Laid.whole_eq {T:List UInt8}{p:Nat}{l:List Tok}(h:Laid T p l):wholeF l=T:=by
 have:=h.whole_take l.length (Nat.le_refl _)
 rw [List.take_length,h.whole,List.take_length] at this
 exact this
theorem wholeF_take_len:∀ (l:List Tok) (k:Nat),k≤l.length→(wholeF (l.take k)).length=tokAt l k
 | l,0,_=>by simp [wholeF,tokAt_zero]
 | [],k+1,h=>absurd h (by simp)
 | t :: l,k+1,h=>by
  rw [List.take_succ_cons,wholeF,List.length_append,List.length_append,wholeF_take_len l k (by simpa using h),tokAt_cons,tokLen]
theorem tokAt_mono (l:List Tok):∀ (i j:Nat),i≤j→j≤l.length→tokAt l i≤tokAt l j:=by
 intro i j h hj
 induction j with
 | zero=>exact Nat.le_of_eq (by rw [Nat.le_zero.1 h])
 | succ j ih =>
  rcases Nat.lt_or_ge i (j+1) with h'|h'
  ·have:=ih (by omega) (by omega)
   rw [tokAt_succ l j (by omega)]
   omega
  ·obtain rfl:i=j+1:=by omega
   exact Nat.le_refl _
theorem bytes_of (y:List UInt8):∃ Y:ByteArray,Y.data.toList=y∧ByteArray.mk y.toArray=Y:=⟨⟨y.toArray⟩,rfl,rfl⟩
theorem whole_any (v:Value)(l:List Tok)(w:World)(hl:l.length≤1099511627776)(hn:tokAt l l.length≤1099511627776)(hv:Rec w.heap.size w v 4 tokCells l) :
  Calls Tryz.prog 45 #[v] w fun e w'=>e=.returned (.string ⟨(wholeF l).toArray⟩)∧Below w.heap.size w w':=by
 obtain ⟨ao,cap,rfl,hcap,hf⟩:=hv.form (fun _=>rfl)
 clear hv
 go_enter Tryz.func45,Tryz.ntmps45
 go_wp2
 go_loopw [8] (fun i wr=>∃ k:Nat,k≤l.length∧i=.int .i64 k∧Bld w.heap.size w.heap.size (wholeF (l.take k)) wr∧Below w.heap.size w wr) (fun i _=>l.length - (intOf i).toNat)
 case atStart=>exact ⟨0,Nat.zero_le _,rfl,Bld.fresh w,(Below.refl _ _).alloc (Nat.le_refl _) _⟩
 case round =>
  obtain ⟨k,hk,rfl,hbd,hbl⟩:=hrel
  have hz:=hbl.size
  by_cases hlt:k<l.length
  ·obtain ⟨b,off,rfl,hb,hcell⟩:=hf (by omega)
   have hx0:=(hbl.cell (p:=⟨b,off+k * 4,none⟩) hb).trans (hcell k 0 _ hlt rfl)
   have hx1:=(hbl.cell (p:=⟨b,off+k * 4+1,none⟩) hb).trans (hcell k 1 _ hlt rfl)
   have hx2:=(hbl.cell (p:=⟨b,off+k * 4+2,none⟩) hb).trans (hcell k 2 _ hlt rfl)
   have hx3:=(hbl.cell (p:=⟨b,off+k * 4+3,none⟩) hb).trans (hcell k 3 _ hlt rfl)
   have hmo:=tokAt_mono l (k+1) l.length hlt (Nat.le_refl _)
   rw [tokAt_succ l k hlt,tokLen,← wholeF_take_len l k hk] at hmo
   have hsn:wholeF (l.take (k+1))=wholeF (l.take k)++(l[k].lead++l[k].text):=by rw [List.take_succ_eq_append_getElem hlt,wholeF_snoc]
   generalize l[k]=t at hx0 hx1 hx2 hx3 hmo hsn
   obtain ⟨c,x,y,q⟩:=t
   simp only at hx0 hx1 hx2 hx3 hmo hsn
   obtain ⟨X,rfl,eX⟩:=bytes_of x
   obtain ⟨Y,rfl,eY⟩:=bytes_of y
   rw [eX] at hx1
   rw [eY] at hx2
   simp only [size_list] at hmo
   generalize wholeF (l.take k)=acc at hbd hmo hsn
   have HS:=Lib.hid hsn
   have hbd1:=hbd.alloc (.cells #[.int .i64 c,.string X,.string Y,.int .i64 q] 80)
   have hbl1:=hbl.alloc hz (.cells #[.int .i64 c,.string X,.string Y,.int .i64 q] 80)
   clear hcell hf hsn eX eY
   go_wp2_with (go_at_call 90;refine (write_any w.heap.size w.heap.size acc (X++Y) _ hbd1 ?c1 ?c2).mono ?_)
   case c1=>simp only [ByteArray.size_append];omega
   case c2=>simp;omega
   rintro e w2 ⟨rfl,hbd2,hb2,ho2⟩
   rw [append_list,← HS.out] at hbd2
   clear ho2
   go_wp2
   go_roundw
   case rel=>exact ⟨k+1,by omega,by go_num,hbd2,hbl1.trans hb2⟩
   case measure=>simp [intOf];omega
  ·have hkl:k=l.length:=by omega
   subst hkl
   rw [List.take_length] at hbd
   clear hf
   go_wp2_with (go_at_call 48;refine (bstring_any w.heap.size w.heap.size _ _ hbd hz).mono ?_;rintro e w4 ⟨rfl,hbd4,hb4,ho4⟩)
   go_ret
   exact ⟨rfl,hbl.trans hb4⟩
end Go.Proofs.YtbodlpoomfefcaaGreatDoor

namespace Go.Proofs.YtbodlpoomfefcaaGreatDoor
open Go.RowKit Go
theorem PE.dump_def (e:PE):e.dump=headF e.op e.name e.module (intF e.num) e.yes++dumpE e.kids++[93]:=by cases e;rfl
theorem dumpE_append:∀ (a b:List PE),dumpE (a++b)=dumpE a++dumpE b
 | [],b=>by simp [dumpE]
 | e :: a,b=>by simp only [List.cons_append,dumpE,dumpE_append a b,List.append_assoc]
mutual
def PE.opsOk:PE→Prop
 | .mk op _ _ _ _ _ kids _=>op<100∧opsOkE kids
def opsOkE:List PE→Prop
 | []=>True
 | e :: l=>e.opsOk∧opsOkE l
end
theorem empty_no {s:ByteArray}(h:s.data.toList≠[]):s.toList.isEmpty=false:=by
 rw [isEmpty_size]
 refine decide_eq_false fun q=>h ?_
 rw [← size_list] at q
 exact List.length_eq_zero_iff.1 q
theorem empty_yes {s:ByteArray}(h:s.data.toList=[]):s.toList.isEmpty=true:=by
 rw [isEmpty_size]
 refine decide_eq_true ?_
 rw [← size_list,h]
 rfl
def nameF (nm md:List UInt8):List UInt8:=if md≠[] then [32]++md++[46]++nm else if nm≠[] then [32]++nm else []
def numTF (op:Nat)(tx:List UInt8):List UInt8:=if op=1 then [32]++tx else []
def yesF (op:Nat)(ys:Bool):List UInt8:=if op=2 then (if ys=true then [32,116,114,117,101] else [32,102,97,108,115,101]) else []
theorem nameF_md {nm md:List UInt8}(h:md≠[]):nameF nm md=[32]++md++[46]++nm:=by rw [nameF,if_pos h]
theorem nameF_nm {nm md:List UInt8}(h:md=[])(hn:nm≠[]):nameF nm md=[32]++nm:=by rw [nameF,if_neg (by simp [h]),if_pos hn]
theorem nameF_no {nm md:List UInt8}(h:md=[])(hn:nm=[]):nameF nm md=[]:=by rw [nameF,if_neg (by simp [h]),if_neg (by simp [hn])]
theorem head_parts (op:Nat)(nm md tx:List UInt8)(ys:Bool):headF op nm md tx ys=[91]++decF op++nameF nm md++numTF op tx++yesF op ys:=rfl
end Go.Proofs.YtbodlpoomfefcaaGreatDoor
