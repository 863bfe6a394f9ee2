/- Walks and plain laws: ParseLaws5, FormPlain, ProgPlain, ProgTree, ProgTree2, LexNums, GoodLaws, ProgPE. -/
import Derived.Test.YtdednahplodojaaGreatDoorC14
set_option maxHeartbeats 16000000
set_option maxRecDepth 100000
set_option linter.unusedVariables false
set_option linter.unusedSimpArgs false
namespace Go.Proofs.YtdednahplodojaaGreatDoor
def Wth (toks:List Tok)(a b:PSt):Prop:=a.used≤toks.length→b.used≤toks.length
theorem Wth.refl {toks:List Tok}(a:PSt):Wth toks a a:=fun h=>h
theorem Wth.trans {toks:List Tok}{a b c:PSt}(h:Wth toks a b)(k:Wth toks b c):Wth toks a c:=fun q=>k (h q)
theorem failM_wth (toks:List Tok)(e:Nat)(st:PSt):Wth toks st (failM toks e st):=by
 unfold failM
 split
 ·exact fun h=>h
 ·exact Wth.refl _
theorem leafM_wth (toks:List Tok)(st:PSt):Wth toks st (leafM toks st).2:=by
 intro h
 unfold leafM
 split
 ·exact h
 ·simp only;omega
theorem nodeM_wth {toks:List Tok}(k:Int)(l:List Int)(st:PSt):Wth toks st (nodeM k l st).2:=by
 unfold nodeM rawM
 split
 ·split
  ·exact Wth.refl _
  ·exact fun h=>h
 ·exact Wth.refl _
theorem mustM_wth (toks:List Tok)(l:List (List UInt8))(st:PSt):Wth toks st (mustM toks l st).2:=by
 unfold mustM
 split
 ·exact leafM_wth _ _
 ·exact failM_wth _ _ _
theorem kindM_wth (toks:List Tok)(k:Nat)(st:PSt):Wth toks st (kindM toks k st).2:=by
 unfold kindM
 split
 ·exact leafM_wth _ _
 ·exact failM_wth _ _ _
theorem deepM_wth (toks:List Tok)(d n:Nat)(st:PSt):Wth toks st (deepM toks d n st):=by
 unfold deepM
 split
 ·exact failM_wth _ _ _
 ·exact Wth.refl _
theorem qualM_wth (toks:List Tok)(a:Int × PSt):Wth toks a.2 (qualM toks a).2:=by
 unfold qualM
 split
 ·exact (leafM_wth _ _).trans (kindM_wth _ _ _)
 ·exact Wth.refl _
theorem listLoop_wth (toks:List Tok)(one:PSt→Option (Int × PSt))(h1:∀ s k,one s=some k→Wth toks s k.2):∀ (r:Nat) (kids:List Int) (st:PSt) (l:List Int × PSt),listLoop toks one r kids st=some l→Wth toks st l.2
 | 0,kids,st,l,h=>by
  rw [listLoop] at h
  injection h with h
  subst h
  show Wth toks st (if st.fE=0 then failM toks 15 st else st)
  split
  ·exact failM_wth _ _ _
  ·exact Wth.refl _
 | r+1,kids,st,l,h=>by
  rw [listLoop] at h
  split at h
  ·injection h with h;subst h;exact Wth.refl _
  ·obtain ⟨k,hk,h⟩:=Option.bind_eq_some_iff.1 h
   have:=h1 _ _ hk
   split at h
   ·exact (this.trans (leafM_wth _ _)).trans (listLoop_wth toks one h1 r _ _ _ h)
   ·injection h with h;subst h;exact this
theorem listM_wth (toks:List Tok)(one:PSt→Option (Int × PSt))(h1:∀ s k,one s=some k→Wth toks s k.2)(st:PSt)(l:List Int × PSt)(h:listM toks one st=some l):Wth toks st l.2:=by
 unfold listM at h
 split at h
 ·injection h with h;subst h;exact Wth.refl _
 ·exact listLoop_wth toks one h1 _ _ _ _ h
theorem run_wth (toks:List Tok)(depth:Nat):∀ (g:Nat) (t:Task) (st:PSt) (r:Int × PSt),run toks depth g t st=some r→Wth toks st r.2
 | 0,_,_,_,h=>by rw [run] at h;cases h
 | g+1,.expr nest,st,r,h=>by
  have ih:=run_wth toks depth g
  rw [run] at h
  have hd:=deepM_wth toks depth nest st
  generalize deepM toks depth nest st=s at h hd
  split at h
  ·injection h with h;subst h;exact hd
  split at h
  ·exact hd.trans (ih _ _ _ h)
  split at h
  ·obtain ⟨d,h1,h⟩:=Option.bind_eq_some_iff.1 h
   obtain ⟨f,h2,h⟩:=Option.bind_eq_some_iff.1 h
   injection h with h;subst h
   exact (((((hd.trans (leafM_wth _ _)).trans (kindM_wth _ _ _)).trans (mustM_wth _ _ _)).trans (ih _ _ _ h1)).trans (mustM_wth _ _ _)).trans ((ih _ _ _ h2).trans (nodeM_wth _ _ _))
  split at h
  ·obtain ⟨b,h1,h⟩:=Option.bind_eq_some_iff.1 h
   obtain ⟨d,h2,h⟩:=Option.bind_eq_some_iff.1 h
   obtain ⟨f,h3,h⟩:=Option.bind_eq_some_iff.1 h
   injection h with h;subst h
   exact (((((hd.trans (leafM_wth _ _)).trans (ih _ _ _ h1)).trans (mustM_wth _ _ _)).trans (ih _ _ _ h2)).trans (mustM_wth _ _ _)).trans ((ih _ _ _ h3).trans (nodeM_wth _ _ _))
  split at h
  ·obtain ⟨b,h1,h⟩:=Option.bind_eq_some_iff.1 h
   obtain ⟨d,h2,h⟩:=Option.bind_eq_some_iff.1 h
   injection h with h;subst h
   exact (((hd.trans (leafM_wth _ _)).trans (ih _ _ _ h1)).trans (mustM_wth _ _ _)).trans ((ih _ _ _ h2).trans (nodeM_wth _ _ _))
  ·exact hd.trans (ih _ _ _ h)
 | g+1,.formula nest,st,r,h=>by
  have ih:=run_wth toks depth g
  rw [run] at h
  obtain ⟨a,h1,h⟩:=Option.bind_eq_some_iff.1 h
  have ha:=ih _ _ _ h1
  split at h
  ·have hd:=(ha.trans (leafM_wth toks a.2)).trans (deepM_wth toks depth (nest+1) _)
   split at h
   ·injection h with h;subst h;exact hd
   ·obtain ⟨b,h2,h⟩:=Option.bind_eq_some_iff.1 h
    injection h with h;subst h
    exact (hd.trans (ih _ _ _ h2)).trans (nodeM_wth _ _ _)
  ·injection h with h;subst h;exact ha
 | g+1,.part l nest,st,r,h=>by
  have ih:=run_wth toks depth g
  rw [run] at h
  split at h
  ·exact ih _ _ _ h
  ·split at h
   ·exact ih _ _ _ h
   ·exact ih _ _ _ h
 | g+1,.row l nest,st,r,h=>by
  have ih:=run_wth toks depth g
  rw [run] at h
  obtain ⟨a,h1,h⟩:=Option.bind_eq_some_iff.1 h
  exact (ih _ _ _ h1).trans (ih _ _ _ h)
 | g+1,.loop l nest a,st,r,h=>by
  have ih:=run_wth toks depth g
  rw [run] at h
  split at h
  ·obtain ⟨b,h1,h⟩:=Option.bind_eq_some_iff.1 h
   have hb:=((leafM_wth toks st).trans (ih _ _ _ h1)).trans (nodeM_wth 10 [a,(leafM toks st).1,b.1] _)
   split at h
   ·injection h with h;subst h;exact hb
   ·exact hb.trans (ih _ _ _ h)
  ·injection h with h;subst h;exact Wth.refl _
 | g+1,.neg nest,st,r,h=>by
  have ih:=run_wth toks depth g
  rw [run] at h
  split at h
  ·have hd:=(leafM_wth toks st).trans (deepM_wth toks depth (nest+1) _)
   split at h
   ·injection h with h;subst h;exact hd
   ·obtain ⟨b,h2,h⟩:=Option.bind_eq_some_iff.1 h
    injection h with h;subst h
    exact (hd.trans (ih _ _ _ h2)).trans (nodeM_wth _ _ _)
  ·exact ih _ _ _ h
 | g+1,.factor nest,st,r,h=>by
  have ih:=run_wth toks depth g
  rw [run] at h
  split at h
  ·have hd:=(leafM_wth toks st).trans (deepM_wth toks depth (nest+1) _)
   split at h
   ·injection h with h;subst h;exact hd
   ·obtain ⟨b,h2,h⟩:=Option.bind_eq_some_iff.1 h
    injection h with h;subst h
    exact (hd.trans (ih _ _ _ h2)).trans (nodeM_wth _ _ _)
  ·exact ih _ _ _ h
 | g+1,.atom nest,st,r,h=>by
  have ih:=run_wth toks depth g
  rw [run] at h
  split at h
  ·injection h with h;subst h;exact Wth.refl _
  split at h
  ·injection h with h;subst h;exact (leafM_wth _ _).trans (nodeM_wth _ _ _)
  split at h
  ·injection h with h;subst h;exact (leafM_wth _ _).trans (nodeM_wth _ _ _)
  split at h
  ·injection h with h;subst h;exact (leafM_wth _ _).trans (nodeM_wth _ _ _)
  split at h
  ·obtain ⟨b,h1,h⟩:=Option.bind_eq_some_iff.1 h
   injection h with h;subst h
   exact (((leafM_wth _ _).trans (ih _ _ _ h1)).trans (mustM_wth _ _ _)).trans (nodeM_wth _ _ _)
  split at h
  ·exact ih _ _ _ h
  ·injection h with h;subst h;exact failM_wth _ _ _
 | g+1,.name nest,st,r,h=>by
  have ih:=run_wth toks depth g
  rw [run] at h
  split at h
  ·injection h with h;subst h;exact (leafM_wth _ _).trans (nodeM_wth _ _ _)
  ·obtain ⟨l,h1,h⟩:=Option.bind_eq_some_iff.1 h
   injection h with h;subst h
   exact ((((leafM_wth _ _).trans (qualM_wth _ _)).trans (mustM_wth _ _ _)).trans (listM_wth toks _ (fun s k hk=>ih _ _ _ hk) _ _ h1)).trans ((mustM_wth _ _ _).trans (nodeM_wth _ _ _))
inductive FRes where
 | bad (e a:Nat)
 | good (toks:List Tok) (nodes:List Nd)
def gasA (toks:List Tok):Nat:=20 * toks.length+18
def ofSt (toks:List Tok)(st:PSt):FRes:=if st.fE=0 then .good toks st.nodes else .bad st.fE st.fAt
def formF (S:List UInt8)(d:Nat):FRes :=
 match lexAll S with
 | .error x=>.bad x.1 x.2
 | .ok toks=>match aloneM toks d (gasA toks) with
  | none=>.bad 99 0
  | some st=>ofSt toks st
def aloneT (e:CE):PT:=.node 18 [e.pt,.leaf]
theorem Laid.last5 {T:List UInt8}{p:Nat}{l:List Tok}(h:Laid T p l){u:Nat}(hu:u<l.length)(h5:kindAt l u=5):u+1=l.length:=by
 unfold kindAt peekF at h5
 rw [Nat.min_eq_left (by omega),List.getD_eq_getElem?_getD,List.getElem?_eq_getElem hu] at h5
 have:=(h.last u hu).1 h5
 omega
theorem Laid.endOk {T:List UInt8}{p:Nat}{l:List Tok}(h:Laid T p l):EndOk l:=by
 have h0:=h.some
 unfold EndOk peekF
 rw [Nat.min_eq_right (by omega),List.getD_eq_getElem?_getD,List.getElem?_eq_getElem (by omega)]
 exact (h.last _ (by omega)).2 rfl
theorem alone_total {T:List UInt8}{p:Nat}{toks:List Tok}(hL:Laid T p toks)(d:Nat) :
  ∃ a,run toks d (gasA toks) (.expr 1) { startP with clause:=true }=some a∧a.2.used≤toks.length∧a.2.nodes.length≤2 * toks.length:=by
 obtain ⟨a,ha⟩:=run_total toks d hL.endOk (gasA toks) (.expr 1) { startP with clause:=true } trivial (Nat.le_refl _)
 have h1:=run_wth toks d _ _ _ _ ha (Nat.zero_le _)
 have h2:=run_slk toks d _ _ _ _ ha
 unfold Slk at h2
 simp only [startP,List.length_nil] at h2
 exact ⟨a,ha,h1,by omega⟩
theorem nodeM_grows (k:Int)(l:List Int)(st:PSt):(nodeM k l st).2.nodes.length≤st.nodes.length+1:=(nodeM_two k l st).2.1
theorem kindM_grows (toks:List Tok)(k:Nat)(st:PSt):(kindM toks k st).2.nodes.length≤st.nodes.length+1:=by
 unfold kindM
 split
 ·rcases leafM_two toks st with h|h
  ·rw [h];simp
  ·omega
 ·unfold failM;split <;> simp
theorem alone_tree {T:List UInt8}{p:Nat}{toks:List Tok}(hL:Laid T p toks){d g:Nat}{a:Int × PSt}(ha:run toks d g (.expr 1) { startP with clause:=true }=some a)
  (hf:(nodeM 18 [a.1,(kindM toks 5 a.2).1] (kindM toks 5 a.2).2).2.fE=0) :
  ∃ e:CE,(nodeM 18 [a.1,(kindM toks 5 a.2).1] (kindM toks 5 a.2).2).2.nodes=(aloneT e).em 0 0∧e.ok toks true 0∧e.pt.lv+1=toks.length:=by
 have hk:=(nodeM_ext _ _ _).zero hf
 have h1:=(kindM_ext toks 5 a.2).zero hk
 obtain ⟨e,hg,hid,hok,hu⟩:=run_tree toks hL.endOk d g (.expr 1) _ a ha h1
 have hu':=hu hL.some
 have hku:kindM toks 5 a.2=leafM toks a.2∧kindAt toks a.2.used=5:=by
  unfold kindM at hk ⊢
  by_cases hc:a.2.fE=0∧(peekF toks a.2.used).kind=5
  ·rw [if_pos hc]
   exact ⟨rfl,hc.2⟩
  ·rw [if_neg hc] at hk
   exact (fail_no (by decide) hk).elim
 have hlast:=hL.last5 hu' hku.2
 obtain ⟨hl1,hl2⟩:=Grew.leaf (toks:=toks) (st:=a.2) (by omega)
 have hall:=hg.append hl1
 rw [hku.1] at hf hk ⊢
 have hlen:=hg.len
 have hn:=hall.node hk 18
 have hids:idsL ({ startP with clause:=true }:PSt).nodes.length ([e.pt]++[.leaf])=[a.1,(leafM toks a.2).1]:=by
  rw [hid,hl2,hlen]
  simp [idsL,startP,ndL,PT.nd]
 rw [hids] at hn
 refine ⟨e,?_,hok,?_⟩
 ·have h18:=hn.1
  simp only [Int.cast_ofNat_Int] at h18
  rw [h18]
  simp [startP,emL,aloneT]
 ·have:=hg.used
  simp only [lvL,startP] at this
  omega
theorem formF_deeper {S:List UInt8}{d d':Nat}{toks:List Tok}{nodes:List Nd}(hdd:d≤d')(h:formF S d=.good toks nodes):formF S d'=.good toks nodes:=by
 unfold formF at h ⊢
 cases hl:lexAll S with
 | error x=>rw [hl] at h;cases h
 | ok l =>
  rw [hl] at h
  simp only at h ⊢
  cases hm:aloneM l d (gasA l) with
  | none=>rw [hm] at h;cases h
  | some st =>
   rw [hm] at h
   simp only at h
   have hs:st.fE=0:=by
    unfold ofSt at h
    split at h
    ·assumption
    ·cases h
   rw [aloneM_deeper hdd hm hs]
   exact h
mutual
theorem em_kids:∀ (t:PT) (b u:Nat),∀ n∈t.em b u,n.kids.length≤t.nd
 | .leaf,b,u,n,h=>by
  rw [PT.em,List.mem_singleton] at h
  subst h
  simp
 | .node k l,b,u,n,h=>by
  rw [PT.em,List.mem_append,List.mem_singleton] at h
  rw [PT.nd]
  rcases h with h|h
  ·have:=emL_kids l b u n h
   omega
  ·subst h
   have:=ids_few l b
   simp only
   omega
theorem emL_kids:∀ (l:List PT) (b u:Nat),∀ n∈emL b u l,n.kids.length≤ndL l
 | [],b,u,n,h=>by rw [emL] at h;cases h
 | t :: l,b,u,n,h=>by
  rw [emL,List.mem_append] at h
  rw [ndL]
  rcases h with h|h
  ·have:=em_kids t _ _ n h
   omega
  ·have:=emL_kids l _ _ n h
   omega
theorem ids_few:∀ (l:List PT) (b:Nat),(idsL b l).length≤ndL l
 | [],b=>by simp [idsL]
 | t :: l,b=>by
  have:=ids_few l (b+t.nd)
  have hp:=t.nd_pos
  rw [idsL,ndL,List.length_cons]
  omega
end
def tPub:List UInt8:=[112,117,98]
def tImport:List UInt8:=[105,109,112,111,114,116]
def tFun:List UInt8:=[102,117,110]
def tInt:List UInt8:=[105,110,116]
def tBool:List UInt8:=[98,111,111,108]
def ResP (toks:List Tok)(st:PSt)(r:Int × PSt)(t:PT):Prop:=Grew st [t] r.2∧r.1=((st.nodes.length+t.nd:Nat):Int) - 1∧(st.used<toks.length→r.2.used<toks.length)
theorem Res.p {toks:List Tok}{st:PSt}{r:Int × PSt}{e:CE}(h:Res toks st r e):ResP toks st r e.pt:=⟨h.1,h.2.1,h.2.2.2⟩
def IG (a:PSt)(ids:List Int)(l:List PT)(b:PSt):Prop:=Grew a l b∧ids=idsL a.nodes.length l
theorem IG.append {a b c:PSt}{i j:List Int}{l k:List PT}(h:IG a i l b)(h2:IG b j k c):IG a (i++j) (l++k) c :=
 ⟨h.1.append h2.1,by rw [h.2,h2.2,idsL_append,h.1.len]⟩
theorem IG.leaf {a b:PSt}{x:Int}(h:Grew a [.leaf] b)(hx:x=((a.nodes.length:Nat):Int)):IG a [x] [.leaf] b:=⟨h,by simp [idsL,PT.nd,hx]⟩
theorem IG.res {a b:PSt}{t:PT}{x:Int}(h:Grew a [t] b)(hx:x=((a.nodes.length+t.nd:Nat):Int) - 1):IG a [x] [t] b:=⟨h,by simp [idsL,hx]⟩
theorem IG.nil (a:PSt):IG a [] [] a:=⟨Grew.nil a,rfl⟩
def sepPT:List PT→List PT
 | []=>[]
 | t :: l=>t :: (match l with | []=>[]|_ :: _=>.leaf :: sepPT l)
theorem sepPT_one (t:PT):sepPT [t]=[t]:=by rw [sepPT]
theorem sepPT_two (t s:PT)(l:List PT):sepPT (t :: s :: l)=t :: .leaf :: sepPT (s :: l):=by rw [sepPT]
structure TyS where
 cl:Option CE
def TyS.pts (t:TyS):List PT:=[.leaf,.node 5 [.leaf]]++(match t.cl with|none=>[]|some e=>[.node 6 [.leaf,e.pt,.leaf]])
def TyS.ok (toks:List Tok)(u:Nat)(t:TyS):Prop:=textAt toks (u+1)∈[tInt,tBool]∧(match t.cl with|none=>True|some e=>e.ok toks true (u+3))
def TyS.par (t:TyS):PT:=.node 4 (.leaf :: t.pts)
def TyS.parOk (toks:List Tok)(u:Nat)(t:TyS):Prop:=kindAt toks u=1∧t.ok toks (u+1)
def parsOk (toks:List Tok)(u:Nat):List TyS→Prop
 | []=>True
 | t :: l=>t.parOk toks u∧parsOk toks (u+t.par.lv+1) l
structure DfS where
 pub:Bool
 pars:List TyS
 ty:TyS
 body:CE
def DfS.lead (d:DfS):List PT:=if d.pub=true then [.leaf] else []
def DfS.kids (d:DfS):List PT:=d.lead++([.leaf,.leaf,.leaf]++(sepPT (d.pars.map TyS.par)++([.leaf]++(d.ty.pts++[.leaf,d.body.pt,.leaf]))))
def DfS.pt (d:DfS):PT:=.node 3 d.kids
def DfS.at1 (u:Nat)(d:DfS):Nat:=u+lvL d.lead
def DfS.at2 (u:Nat)(d:DfS):Nat:=d.at1 u+3+lvL (sepPT (d.pars.map TyS.par))+1
def DfS.at3 (u:Nat)(d:DfS):Nat:=d.at2 u+lvL d.ty.pts+1
def DfS.ok (toks:List Tok)(u:Nat)(d:DfS):Prop :=
 (d.pub=true→textAt toks u=tPub)∧textAt toks (d.at1 u)=tFun∧kindAt toks (d.at1 u+1)=1∧d.pars.length≤8∧parsOk toks (d.at1 u+3) d.pars∧d.ty.ok toks (d.at2 u)∧d.body.ok toks false (d.at3 u)
def impPT:PT:=.node 2 [.leaf,.leaf,.leaf]
def defsOk (toks:List Tok)(u:Nat):List DfS→Prop
 | []=>True
 | d :: l=>d.ok toks u∧defsOk toks (u+d.pt.lv) l
def impsOk (toks:List Tok)(u:Nat):Nat→Prop
 | 0=>True
 | n+1=>textAt toks u=tImport∧kindAt toks (u+1)=1∧impsOk toks (u+3) n
structure PgS where
 imps:Nat
 defs:List DfS
def PgS.kids (p:PgS):List PT:=List.replicate p.imps impPT++(p.defs.map DfS.pt++[.leaf])
def PgS.pt (p:PgS):PT:=.node 1 p.kids
def PgS.ok (toks:List Tok)(p:PgS):Prop:=p.imps≤16∧p.defs.length≤64∧impsOk toks 0 p.imps∧defsOk toks (3 * p.imps) p.defs
theorem wfL_app:∀ {l k:List PT},wfL l→wfL k→wfL (l++k)
 | [],k,_,h=>h
 | t :: l,k,h1,h2=>by
  rw [wfL] at h1
  rw [List.cons_append,wfL]
  exact ⟨h1.1,wfL_app h1.2 h2⟩
theorem wfL_map {α:Type}{T:α→PT}(h:∀ a,(T a).wf):∀ l:List α,wfL (l.map T)
 | []=>by rw [List.map_nil,wfL];trivial
 | a :: l=>by rw [List.map_cons,wfL];exact ⟨h a,wfL_map h l⟩
theorem wfL_sep:∀ {l:List PT},wfL l→wfL (sepPT l)
 | [],h=>by rw [sepPT];exact h
 | [t],h=>by rw [sepPT_one];exact h
 | t :: s :: l,h=>by
  rw [wfL] at h
  rw [sepPT_two,wfL,wfL,PT.wf]
  exact ⟨h.1,trivial,wfL_sep h.2⟩
theorem wfL_rep {t:PT}(h:t.wf):∀ n,wfL (List.replicate n t)
 | 0=>by rw [List.replicate_zero,wfL];trivial
 | n+1=>by rw [List.replicate_succ,wfL];exact ⟨h,wfL_rep h n⟩
theorem TyS.wf (t:TyS):wfL t.pts:=by
 unfold TyS.pts
 cases h:t.cl with
 | none=>simp [wfL,PT.wf]
 | some e=>simp [wfL,PT.wf,CE.wf e]
theorem TyS.parWf (t:TyS):t.par.wf:=by
 unfold TyS.par
 simp [wfL,PT.wf,t.wf]
theorem DfS.wf (d:DfS):d.pt.wf:=by
 rw [DfS.pt,PT.wf]
 refine ⟨by omega,by omega,?_⟩
 unfold DfS.kids DfS.lead
 refine wfL_app ?_ (wfL_app (by simp [wfL,PT.wf]) (wfL_app (wfL_sep (wfL_map TyS.parWf _)) (wfL_app (by simp [wfL,PT.wf]) (wfL_app d.ty.wf (by simp [wfL,PT.wf,CE.wf d.body])))))
 split <;> simp [wfL,PT.wf]
theorem PgS.wf (p:PgS):p.pt.wf:=by
 rw [PgS.pt,PT.wf]
 refine ⟨by omega,by omega,?_⟩
 unfold PgS.kids
 exact wfL_app (wfL_rep (by simp [impPT,wfL,PT.wf]) _) (wfL_app (wfL_map DfS.wf _) (by simp [wfL,PT.wf]))
def numTok (l:List UInt8):Prop:=digitsB l=true∧l≠[]∧l.length≤60∧(l.head?=some 48→l.length=1)
theorem digitB_nat (c:UInt8):digitB c=(decide (48≤c.toNat) && decide (c.toNat≤57)):=by
 unfold digitB
 rw [Bool.eq_iff_iff]
 simp only [Bool.and_eq_true,decide_eq_true_eq,UInt8.le_iff_toNat_le]
 exact Iff.rfl
theorem tokF_num (T:List UInt8)(h:(tokF T).1=3)(h0:(tokF T).2.2=0):numTok (T.take (tokF T).2.1):=by
 cases T with
 | nil=>simp [tokF] at h
 | cons c r =>
  rw [tokF] at h h0 ⊢
  by_cases hc:letterB c=true
  ·rw [if_pos hc] at h
   simp only [wordF] at h
   split at h
   ·cases h
   ·split at h <;> cases h
  ·rw [if_neg hc] at h h0 ⊢
   by_cases hd:digitB c=true
   ·rw [if_pos hd] at h h0 ⊢
    simp only [numF] at h h0 ⊢
    split at h
    ·cases h
    ·rename_i h60
     rw [if_neg h60]
     simp only
     have ht:(c :: r).take ((c :: r).takeWhile digitB).length=(c :: r).takeWhile digitB:=(List.prefix_iff_eq_take.1 (List.takeWhile_prefix _)).symm
     have hne:(c :: r).takeWhile digitB≠[]:=by rw [List.takeWhile_cons_of_pos hd];simp
     have hall:∀ x∈(c :: r).takeWhile digitB,digitB x=true:=fun x hx=>by
      have:=List.all_takeWhile (l:=c :: r) (p:=digitB)
      rw [List.all_eq_true] at this
      exact this x hx
     rw [ht]
     generalize (c :: r).takeWhile digitB=w at h60 hne hall
     refine ⟨?_,hne,by omega,fun q=>?_⟩
     ·rw [digitsB,List.all_eq_true]
      intro x hx
      rw [← digitB_nat]
      exact hall x hx
     ·rw [List.head?_eq_getElem?] at q
      have:=List.length_pos_iff.2 hne
      by_cases h1:1<w.length
      ·exact absurd (.inr ⟨h1,q⟩) h60
      ·omega
   ·rw [if_neg hd,symF] at h
    split at h <;> cases h
theorem lexF_nums:∀ (n:Nat) (T:List UInt8) (p:Nat) (l:List Tok),lexF n T p=.ok l→∀ t∈l,t.kind=3→numTok t.text
 | 0,T,p,l,h,t,ht,hk=>by rw [lexF] at h;cases h
 | n+1,T,p,l,h,t,ht,hk=>by
  rw [lexF] at h
  try simp only at h
  split at h
  ·cases h
  rename_i h0
  split at h
  ·injection h with h
   subst h
   rw [List.mem_singleton] at ht
   subst ht
   cases hk
  ·split at h
   ·cases h
   ·rename_i l' hl'
    injection h with h
    subst h
    rcases List.mem_cons.1 ht with rfl|ht
    ·exact tokF_num _ hk (by omega)
    ·exact lexF_nums n _ _ _ hl' t ht hk
theorem lexAll_nums {S:List UInt8}{l:List Tok}(h:lexAll S=.ok l):∀ t∈l,t.kind=3→numTok t.text:=by
 unfold lexAll at h
 split at h
 ·cases h
 ·exact lexF_nums _ _ _ _ h
theorem peek_mem {toks:List Tok}(h:0<toks.length)(u:Nat):peekF toks u∈toks:=by
 unfold peekF
 rw [List.getD_eq_getElem?_getD,List.getElem?_eq_getElem (by omega),Option.getD_some]
 exact List.getElem_mem _
theorem numTok.dec {l:List UInt8}(h:numTok l):decF (decV l)=l:=dec_text l h.1 h.2.1 h.2.2.2
theorem lexAll_numsOk {S:List UInt8}{l:List Tok}(h:lexAll S=.ok l):NumsOk l:=fun u hu =>
 (lexAll_nums h _ (peek_mem (lexAll_laid h).some u) hu).dec
theorem dec_two {n:Nat}(h:n<100):(decF n).length≤2:=by
 rw [decF]
 split
 ·simp
 ·rw [decF,dif_pos (by omega)]
  simp
mutual
theorem em_kinds:∀ (t:PT) (b u:Nat),t.wf→∀ n∈t.em b u,(0≤n.kind∧n.kind<100)∧(n.kind=19→(u:Int)≤n.tok∧n.tok<((u+t.lv:Nat):Int))
 | .leaf,b,u,_,n,h=>by
  rw [PT.em,List.mem_singleton] at h
  subst h
  rw [PT.lv]
  simp only
  omega
 | .node k l,b,u,hw,n,h=>by
  rw [PT.wf] at hw
  rw [PT.em,List.mem_append,List.mem_singleton] at h
  rcases h with h|h
  ·exact emL_kinds l b u hw.2.2 n h
  ·subst h
   simp only
   omega
theorem emL_kinds:∀ (l:List PT) (b u:Nat),wfL l→∀ n∈emL b u l,(0≤n.kind∧n.kind<100)∧(n.kind=19→(u:Int)≤n.tok∧n.tok<((u+lvL l:Nat):Int))
 | [],b,u,_,n,h=>by rw [emL] at h;cases h
 | t :: l,b,u,hw,n,h=>by
  rw [wfL] at hw
  rw [emL,List.mem_append] at h
  rw [lvL]
  rcases h with h|h
  ·have:=em_kinds t _ _ hw.1 n h
   exact ⟨this.1,fun q=>by have:=this.2 q;omega⟩
  ·have:=emL_kinds l _ _ hw.2 n h
   exact ⟨this.1,fun q=>by have:=this.2 q;omega⟩
end
mutual
theorem tdump_len {toks:List Tok}{M:Nat}(hM:∀ u,(textAt toks u).length≤M):∀ (t:PT) (u:Nat),t.wf→(t.dump toks u).length+1≤t.nd * (M+16)
 | .leaf,u,_=>by
  rw [PT.dump,leafDump,PT.nd,List.length_append]
  have:=hM u
  unfold textAt at this
  split <;> simp <;> omega
 | .node k l,u,hw=>by
  rw [PT.wf] at hw
  have h1:=tdumpL_len hM l u hw.2.2
  have h2:=dec_two (n:=k) (by omega)
  rw [PT.dump,PT.nd,Nat.succ_mul]
  simp only [List.length_append,List.length_cons,List.length_nil]
  omega
theorem tdumpL_len {toks:List Tok}{M:Nat}(hM:∀ u,(textAt toks u).length≤M):∀ (l:List PT) (u:Nat),wfL l→(dumpL toks u l).length≤ndL l * (M+16)
 | [],u,_=>by simp [dumpL]
 | t :: l,u,hw=>by
  rw [wfL] at hw
  have h1:=tdump_len hM t u hw.1
  have h2:=tdumpL_len hM l (u+t.lv) hw.2
  rw [dumpL,ndL,Nat.add_mul]
  simp only [List.length_append,List.length_cons,List.length_nil]
  omega
end
mutual
def PE.fits (M:Nat):PE→Prop
 | .mk op name module num txt _ kids _=>op<100∧name.length≤M∧module.length≤M∧txt.length≤M∧(intF num).length≤M∧num.natAbs<10 ^ 60∧fitsE M kids
def fitsE (M:Nat):List PE→Prop
 | []=>True
 | e :: l=>e.fits M∧fitsE M l
end
theorem decV_small {toks:List Tok}(hN:∀ t∈toks,t.kind=3→numTok t.text)(h0:0<toks.length){u:Nat}(hk:kindAt toks u=3):decV (textAt toks u)<10 ^ 60:=by
 have h:=hN _ (peek_mem h0 u) hk
 exact Nat.lt_of_lt_of_le (decV_lt _ h.1) (Nat.pow_le_pow_right (by omega) h.2.2.1)
mutual
theorem CE.fits {toks:List Tok}{M:Nat}(h0:0<toks.length)(hN:∀ t∈toks,t.kind=3→numTok t.text)(hM:∀ u,(textAt toks u).length≤M)(h1:1≤M){cl:Bool}:∀ (e:CE) (u:Nat),e.ok toks cl u→(e.pe toks u).fits M
 | .num,u,h=>by
  rw [CE.ok] at h
  rw [CE.pe,PE.fits,intF_nat,show decF (decV (textAt toks u))=textAt toks u from (hN _ (peek_mem h0 u) h).dec]
  have:=decV_small hN h0 h
  exact ⟨by omega,by simp,by simp,hM u,hM u,by omega,by rw [fitsE];trivial⟩
 | .truth,u,h=>by rw [CE.pe,PE.fits,fitsE];exact ⟨by omega,by simp,by simp,by simp,by simpa [intF,decF] using h1,by simp,trivial⟩
 | .res,u,h=>by rw [CE.pe,PE.fits,fitsE];exact ⟨by omega,by simp,by simp,by simp,by simpa [intF,decF] using h1,by simp,trivial⟩
 | .nam,u,h=>by rw [CE.pe,PE.fits,fitsE];exact ⟨by omega,hM u,by simp,by simp,by simpa [intF,decF] using h1,by simp,trivial⟩
 | .group e,u,h=>by
  rw [CE.ok] at h
  rw [CE.pe]
  exact CE.fits h0 hN hM h1 e _ h.2
 | .un e,u,h=>by
  rw [CE.ok] at h
  rw [CE.pe,PE.fits,fitsE,fitsE]
  exact ⟨by split <;> omega,by simp,by simp,by simp,by simpa [intF,decF] using h1,by simp,CE.fits h0 hN hM h1 e _ h.2,trivial⟩
 | .bin a b,u,h=>by
  rw [CE.ok] at h
  rw [CE.pe,PE.fits,fitsE,fitsE,fitsE]
  have hi:binL.idxOf (textAt toks (u+a.pt.lv))≤binL.length:=List.idxOf_le_length
  have hl:binL.length=14:=rfl
  exact ⟨by omega,by simp,by simp,by simp,by simpa [intF,decF] using h1,by simp,CE.fits h0 hN hM h1 a _ h.2.1,CE.fits h0 hN hM h1 b _ h.2.2,trivial⟩
 | .iff a b c,u,h=>by
  rw [CE.ok] at h
  rw [CE.pe,PE.fits,fitsE,fitsE,fitsE,fitsE]
  exact ⟨by omega,by simp,by simp,by simp,by simpa [intF,decF] using h1,by simp,CE.fits h0 hN hM h1 a _ h.2.1,CE.fits h0 hN hM h1 b _ h.2.2.1,CE.fits h0 hN hM h1 c _ h.2.2.2,trivial⟩
 | .lett a b,u,h=>by
  rw [CE.ok] at h
  rw [CE.pe,PE.fits,fitsE,fitsE,fitsE]
  exact ⟨by omega,hM _,by simp,by simp,by simpa [intF,decF] using h1,by simp,CE.fits h0 hN hM h1 a _ h.2.2.1,CE.fits h0 hN hM h1 b _ h.2.2.2,trivial⟩
 | .asrt a b,u,h=>by
  rw [CE.ok] at h
  rw [CE.pe,PE.fits,fitsE,fitsE,fitsE]
  exact ⟨by omega,by simp,by simp,by simp,by simpa [intF,decF] using h1,by simp,CE.fits h0 hN hM h1 a _ h.2.1,CE.fits h0 hN hM h1 b _ h.2.2,trivial⟩
 | .call q l,u,h=>by
  rw [CE.ok] at h
  rw [CE.pe]
  cases q with
  | true =>
   rw [if_pos rfl,PE.fits]
   exact ⟨by omega,hM _,hM _,by simp,by simpa [intF,decF] using h1,by simp,argsFits h0 hN hM h1 l _ h.2.2.2.2.2⟩
  | false =>
   rw [if_neg (by decide),PE.fits]
   exact ⟨by omega,hM _,by simp,by simp,by simpa [intF,decF] using h1,by simp,argsFits h0 hN hM h1 l _ h.2.2.2.2⟩
theorem argsFits {toks:List Tok}{M:Nat}(h0:0<toks.length)(hN:∀ t∈toks,t.kind=3→numTok t.text)(hM:∀ u,(textAt toks u).length≤M)(h1:1≤M){cl:Bool}:∀ (l:List CE) (u:Nat),argsOk toks cl u l→fitsE M (argsPE toks u l)
 | [],u,_=>by rw [argsPE,fitsE];trivial
 | e :: l,u,h=>by
  rw [argsOk] at h
  rw [argsPE,fitsE]
  exact ⟨CE.fits h0 hN hM h1 e _ h.1,argsFits h0 hN hM h1 l _ h.2⟩
end
theorem ndL_app (a b:List PT):ndL (a++b)=ndL a+ndL b:=ndL_append a b
mutual
def PE.sizeG:PE→Nat
 | .mk _ _ _ _ _ _ kids _=>1+sizeGE kids
def sizeGE:List PE→Nat
 | []=>0
 | e :: l=>e.sizeG+sizeGE l
end
mutual
theorem CE.sizeG_le (toks:List Tok):∀ (e:CE) (u:Nat),(e.pe toks u).sizeG≤e.pt.nd
 | .num,u=>by simp [CE.pe,PE.sizeG,sizeGE,CE.pt,PT.nd,ndL]
 | .truth,u=>by simp [CE.pe,PE.sizeG,sizeGE,CE.pt,PT.nd,ndL]
 | .res,u=>by simp [CE.pe,PE.sizeG,sizeGE,CE.pt,PT.nd,ndL]
 | .nam,u=>by simp [CE.pe,PE.sizeG,sizeGE,CE.pt,PT.nd,ndL]
 | .group e,u=>by
  have:=CE.sizeG_le toks e (u+1)
  simp only [CE.pe,CE.pt,PT.nd,ndL]
  omega
 | .un e,u=>by
  have:=CE.sizeG_le toks e (u+1)
  simp only [CE.pe,PE.sizeG,sizeGE,CE.pt,PT.nd,ndL]
  omega
 | .bin a b,u=>by
  have h1:=CE.sizeG_le toks a u
  have h2:=CE.sizeG_le toks b (u+a.pt.lv+1)
  simp only [CE.pe,PE.sizeG,sizeGE,CE.pt,PT.nd,ndL]
  omega
 | .iff a b c,u=>by
  have h1:=CE.sizeG_le toks a (u+1)
  have h2:=CE.sizeG_le toks b (u+1+a.pt.lv+1)
  have h3:=CE.sizeG_le toks c (u+1+a.pt.lv+1+b.pt.lv+1)
  simp only [CE.pe,PE.sizeG,sizeGE,CE.pt,PT.nd,ndL]
  omega
 | .lett a b,u=>by
  have h1:=CE.sizeG_le toks a (u+3)
  have h2:=CE.sizeG_le toks b (u+3+a.pt.lv+1)
  simp only [CE.pe,PE.sizeG,sizeGE,CE.pt,PT.nd,ndL]
  omega
 | .asrt a b,u=>by
  have h1:=CE.sizeG_le toks a (u+1)
  have h2:=CE.sizeG_le toks b (u+1+a.pt.lv+1)
  simp only [CE.pe,PE.sizeG,sizeGE,CE.pt,PT.nd,ndL]
  omega
 | .call q l,u=>by
  have h:∀ u,sizeGE (argsPE toks u l)≤ndL (argsPT l):=fun u=>argsSizeG_le toks l u
  cases q with
  | true =>
   have:=h (u+4)
   simp only [CE.pe,if_pos,PE.sizeG,CE.pt,PT.nd,ndL_app,ndL]
   omega
  | false =>
   have:=h (u+2)
   simp only [CE.pe,PE.sizeG,CE.pt,PT.nd,ndL_app,ndL,Bool.false_eq_true,if_false]
   omega
theorem argsSizeG_le (toks:List Tok):∀ (l:List CE) (u:Nat),sizeGE (argsPE toks u l)≤ndL (argsPT l)
 | [],u=>by simp [argsPE,sizeGE]
 | [e],u=>by
  have:=CE.sizeG_le toks e u
  simp only [argsPE,sizeGE,argsPT_one,ndL]
  omega
 | e :: f :: l,u=>by
  have h1:=CE.sizeG_le toks e u
  have h2:=argsSizeG_le toks (f :: l) (u+e.pt.lv+1)
  rw [argsPE,sizeGE,argsPT_two,ndL,ndL]
  simp only [PT.nd]
  omega
end
theorem head_len {op:Nat}{nm md nu:List UInt8}{ys:Bool}{M:Nat}(h1:op<100)(h2:nm.length≤M)(h3:md.length≤M)(h4:nu.length≤M):(headF op nm md nu ys).length≤3 * M+20:=by
 have:=dec_two h1
 unfold headF
 simp only [List.length_append,List.length_cons,List.length_nil]
 split <;> split <;> split <;> (try split) <;> (try split) <;> simp <;> omega
mutual
theorem dumpT_len {M:Nat}:∀ (e:PE),e.fits M→e.dumpT.length+1≤e.sizeG * (3 * M+30)
 | .mk op name module num txt yes kids a,h=>by
  rw [PE.fits] at h
  have h1:=dumpTE_len kids h.2.2.2.2.2.2
  have h2:=head_len (ys:=yes) h.1 h.2.1 h.2.2.1 h.2.2.2.1
  rw [PE.dumpT,PE.sizeG,Nat.add_mul]
  simp only [List.length_append,List.length_cons,List.length_nil]
  omega
theorem dumpTE_len {M:Nat}:∀ (l:List PE),fitsE M l→(dumpTE l).length≤sizeGE l * (3 * M+30)
 | [],_=>by simp [dumpTE]
 | e :: l,h=>by
  rw [fitsE] at h
  have h1:=dumpT_len e h.1
  have h2:=dumpTE_len l h.2
  rw [dumpTE,sizeGE,Nat.add_mul]
  simp only [List.length_append,List.length_cons,List.length_nil]
  omega
end
structure FF where
 name:List UInt8
 base:Nat
 clause:List PE
 at_:Nat
 bare:Int
structure DD where
 pub:Bool
 params:List FF
 res:FF
 body:PE
structure PP where
 imports:List (List UInt8 × Nat)
 defs:List DD
def clDump:List PE→List UInt8
 | []=>[]
 | e :: l=>e.dump++clDump l
def clDumpT:List PE→List UInt8
 | []=>[]
 | e :: l=>e.dumpT++clDumpT l
def FF.tdump (f:FF):List UInt8:=[58]++decF f.base++clDump f.clause
def FF.tdumpT (f:FF):List UInt8:=[58]++decF f.base++clDumpT f.clause
def parsDump:List FF→List UInt8
 | []=>[]
 | f :: l=>[32]++f.name++f.tdump++parsDump l
def parsDumpT:List FF→List UInt8
 | []=>[]
 | f :: l=>[32]++f.name++f.tdumpT++parsDumpT l
def DD.dump (d:DD):List UInt8:=(if d.pub=true then [112,117,98,32] else [])++d.res.name++parsDump d.params++([32]++d.res.tdump++[32,61,32]++d.body.dump++[10])
def DD.dumpT (d:DD):List UInt8:=(if d.pub=true then [112,117,98,32] else [])++d.res.name++parsDumpT d.params++([32]++d.res.tdumpT++[32,61,32]++d.body.dumpT++[10])
def defsDump:List DD→List UInt8
 | []=>[]
 | d :: l=>d.dump++defsDump l
def defsDumpT:List DD→List UInt8
 | []=>[]
 | d :: l=>d.dumpT++defsDumpT l
def impsDump:List (List UInt8 × Nat)→List UInt8
 | []=>[]
 | m :: l=>[105,109,112,111,114,116,32]++m.1++[10]++impsDump l
def PP.dump (p:PP):List UInt8:=impsDump p.imports++defsDump p.defs
def PP.dumpT (p:PP):List UInt8:=impsDump p.imports++defsDumpT p.defs
def FF.erase (f:FF):FF:={ f with clause:=[] }
def DD.erase (d:DD):DD:={ d with params:=d.params.map FF.erase,res:=d.res.erase }
def PP.erase (p:PP):PP:={ p with defs:=p.defs.map DD.erase }
def FF.bares (f:FF):List Int:=if 0≤f.bare then [f.bare] else []
def DD.bares (d:DD):List Int:=d.params.flatMap FF.bares++d.res.bares
def PP.bares (p:PP):List Int:=p.defs.flatMap DD.bares
def FF.all (P:PE→Prop)(f:FF):Prop:=∀ e∈f.clause,P e
def DD.all (P:PE→Prop)(d:DD):Prop:=(∀ f∈d.params,f.all P)∧d.res.all P∧P d.body
def PP.all (P:PE→Prop)(p:PP):Prop:=∀ d∈p.defs,d.all P
theorem clDump_told:∀ {l:List PE},(∀ e∈l,e.told)→clDumpT l=clDump l
 | [],_=>rfl
 | e :: l,h=>by
  rw [clDumpT,clDump,PE.dump_told (h e List.mem_cons_self),clDump_told fun x hx=>h x (List.mem_cons_of_mem _ hx)]
theorem FF.dump_told {f:FF}(h:f.all PE.told):f.tdumpT=f.tdump:=by rw [FF.tdumpT,FF.tdump,clDump_told h]
theorem parsDump_told:∀ {l:List FF},(∀ f∈l,f.all PE.told)→parsDumpT l=parsDump l
 | [],_=>rfl
 | f :: l,h=>by
  rw [parsDumpT,parsDump,FF.dump_told (h f List.mem_cons_self),parsDump_told fun x hx=>h x (List.mem_cons_of_mem _ hx)]
theorem DD.dump_told {d:DD}(h:d.all PE.told):d.dumpT=d.dump:=by
 rw [DD.dumpT,DD.dump,parsDump_told h.1,FF.dump_told h.2.1,PE.dump_told h.2.2]
theorem defsDump_told:∀ {l:List DD},(∀ d∈l,d.all PE.told)→defsDumpT l=defsDump l
 | [],_=>rfl
 | d :: l,h=>by
  rw [defsDumpT,defsDump,DD.dump_told (h d List.mem_cons_self),defsDump_told fun x hx=>h x (List.mem_cons_of_mem _ hx)]
theorem PP.dump_told {p:PP}(h:p.all PE.told):p.dumpT=p.dump:=by rw [PP.dumpT,PP.dump,defsDump_told h]
theorem FF.all_erase {P:PE→Prop}(f:FF):f.erase.all P:=fun e he=>by cases he
theorem DD.all_erase {P:PE→Prop}{d:DD}(h:P d.body):d.erase.all P:=by
 refine ⟨fun f hf=>?_,FF.all_erase _,h⟩
 obtain ⟨g,_,rfl⟩:=List.mem_map.1 hf
 exact FF.all_erase g
theorem PP.all_erase {P:PE→Prop}{p:PP}(h:p.all P):p.erase.all P:=fun d hd=>by
 obtain ⟨c,hc,rfl⟩:=List.mem_map.1 hd
 exact DD.all_erase (h c hc).2.2
structure FF.small (M:Nat) (f:FF):Prop where
 name:f.name.length≤M
 base:f.base=1∨f.base=2
 clause:f.clause.length≤1
structure DD.small (M:Nat) (d:DD):Prop where
 params:∀ f∈d.params,f.small M
 few:d.params.length≤8
 res:d.res.small M
structure PP.small (M:Nat) (p:PP):Prop where
 imports:∀ m∈p.imports,m.1.length≤M
 ifew:p.imports.length≤16
 defs:∀ d∈p.defs,d.small M
 dfew:p.defs.length≤64
theorem FF.small.erase {M:Nat}{f:FF}(h:f.small M):f.erase.small M:=⟨h.name,h.base,Nat.zero_le _⟩
theorem DD.small.erase {M:Nat}{d:DD}(h:d.small M):d.erase.small M:=by
 refine ⟨fun f hf=>?_,by simpa [DD.erase] using h.few,h.res.erase⟩
 obtain ⟨g,hg,rfl⟩:=List.mem_map.1 hf
 exact (h.params g hg).erase
theorem PP.small.erase {M:Nat}{p:PP}(h:p.small M):p.erase.small M:=by
 refine ⟨h.imports,h.ifew,fun d hd=>?_,by simpa [PP.erase] using h.dfew⟩
 obtain ⟨c,hc,rfl⟩:=List.mem_map.1 hd
 exact (h.defs c hc).erase
theorem clDump_len {K:Nat}:∀ {l:List PE},(∀ e∈l,e.dump.length≤K)→(clDump l).length≤l.length * K
 | [],_=>by simp [clDump]
 | e :: l,h=>by
  have h1:=h e List.mem_cons_self
  have h2:=clDump_len (l:=l) fun x hx=>h x (List.mem_cons_of_mem _ hx)
  rw [clDump,List.length_append,List.length_cons,Nat.succ_mul]
  omega
def dumpK (K:Nat)(e:PE):Prop:=e.dump.length≤K
theorem FF.tdump_len {M K:Nat}{f:FF}(h:f.small M)(hk:f.all (dumpK K)):f.tdump.length≤K+3:=by
 have h1:=clDump_len (K:=K) hk
 have h2:f.clause.length * K≤1 * K:=Nat.mul_le_mul_right _ h.clause
 have h3:=dec_two (n:=f.base) (by rcases h.base with q|q <;> omega)
 rw [FF.tdump]
 simp only [List.length_append,List.length_cons,List.length_nil]
 omega
theorem parsDump_len {M K:Nat}:∀ {l:List FF},(∀ f∈l,f.small M)→(∀ f∈l,f.all (dumpK K))→(parsDump l).length≤l.length * (M+K+4)
 | [],_,_=>by simp [parsDump]
 | f :: l,h,hk=>by
  have h0:=h f List.mem_cons_self
  have h1:=FF.tdump_len h0 (hk f List.mem_cons_self)
  have h2:=parsDump_len (l:=l) (fun x hx=>h x (List.mem_cons_of_mem _ hx)) (fun x hx=>hk x (List.mem_cons_of_mem _ hx))
  have h3:=h0.name
  rw [parsDump,List.length_cons,Nat.succ_mul]
  simp only [List.length_append,List.length_cons,List.length_nil]
  omega
theorem DD.dump_len {M K:Nat}{d:DD}(h:d.small M)(hk:d.all (dumpK K)):d.dump.length≤10 * (M+K+4)+20:=by
 have h1:=parsDump_len h.params hk.1
 have h2:d.params.length * (M+K+4)≤8 * (M+K+4):=Nat.mul_le_mul_right _ h.few
 have h3:=FF.tdump_len h.res hk.2.1
 have h4:d.body.dump.length≤K:=hk.2.2
 have h5:=h.res.name
 rw [DD.dump]
 simp only [List.length_append,List.length_cons,List.length_nil]
 split <;> simp only [List.length_cons,List.length_nil] <;> omega
theorem defsDump_len {M K:Nat}:∀ {l:List DD},(∀ d∈l,d.small M)→(∀ d∈l,d.all (dumpK K))→(defsDump l).length≤l.length * (10 * (M+K+4)+20)
 | [],_,_=>by simp [defsDump]
 | d :: l,h,hk=>by
  have h1:=DD.dump_len (h d List.mem_cons_self) (hk d List.mem_cons_self)
  have h2:=defsDump_len (l:=l) (fun x hx=>h x (List.mem_cons_of_mem _ hx)) (fun x hx=>hk x (List.mem_cons_of_mem _ hx))
  rw [defsDump,List.length_append,List.length_cons,Nat.succ_mul]
  omega
theorem impsDump_len {M:Nat}:∀ {l:List (List UInt8 × Nat)},(∀ m∈l,m.1.length≤M)→(impsDump l).length≤l.length * (M+8)
 | [],_=>by simp [impsDump]
 | m :: l,h=>by
  have h1:=h m List.mem_cons_self
  have h2:=impsDump_len (l:=l) fun x hx=>h x (List.mem_cons_of_mem _ hx)
  rw [impsDump,List.length_cons,Nat.succ_mul]
  simp only [List.length_append,List.length_cons,List.length_nil]
  omega
theorem PP.dump_len {M K:Nat}{p:PP}(h:p.small M)(hk:p.all (dumpK K)):p.dump.length≤16 * (M+8)+64 * (10 * (M+K+4)+20):=by
 have h1:=impsDump_len h.imports
 have h2:p.imports.length * (M+8)≤16 * (M+8):=Nat.mul_le_mul_right _ h.ifew
 have h3:=defsDump_len h.defs hk
 have h4:p.defs.length * (10 * (M+K+4)+20)≤64 * (10 * (M+K+4)+20):=Nat.mul_le_mul_right _ h.dfew
 rw [PP.dump,List.length_append]
 omega
end Go.Proofs.YtdednahplodojaaGreatDoor
