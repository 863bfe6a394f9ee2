/- Walks and plain laws: ProgTree, ProgTree2. -/
import Derived.Test.YtbodlpoomfefcaaGreatDoorA24
set_option maxHeartbeats 16000000
set_option maxRecDepth 100000
set_option linter.unusedVariables false
set_option linter.unusedSimpArgs false
namespace Go.Proofs.YtbodlpoomfefcaaGreatDoor
theorem expr_total {toks:List Tok}(hE:EndOk toks)(d:Nat)(st:PSt):∃ f,run toks d (gasA toks) (.expr 1) st=some f :=
 run_total toks d hE (gasA toks) (.expr 1) st trivial (by simp only [needT,lvlT,gasA];omega)
theorem clauseM_total {toks:List Tok}(hE:EndOk toks)(d:Nat)(st:PSt):∃ r,clauseM toks d (gasA toks) st=some r:=by
 obtain ⟨f,hf⟩:=expr_total hE d (setC (leafM toks st).2 true)
 unfold clauseM
 rw [hf]
 exact ⟨_,rfl⟩
theorem typedM_total {toks:List Tok}(hE:EndOk toks)(d:Nat)(kids:List Int)(st:PSt):∃ r,typedM toks d (gasA toks) kids st=some r:=by
 unfold typedM
 split
 ·obtain ⟨n,hn⟩:=clauseM_total hE d (baseM toks st).2
  rw [hn]
  exact ⟨_,rfl⟩
 ·exact ⟨_,rfl⟩
theorem paramM_total {toks:List Tok}(hE:EndOk toks)(d:Nat)(st:PSt):∃ r,paramM toks d (gasA toks) st=some r:=by
 obtain ⟨l,hl⟩:=typedM_total hE d [(kindM toks 1 st).1] (kindM toks 1 st).2
 unfold paramM
 rw [hl]
 exact ⟨_,rfl⟩
theorem defM_total {toks:List Tok}(hE:EndOk toks)(d:Nat)(st:PSt):∃ r,defM toks d (gasA toks) st=some r:=by
 have h1:∃ l,listM toks (paramM toks d (gasA toks)) (fopenM toks st).2=some l:=by
  unfold listM
  split
  ·exact ⟨_,rfl⟩
  ·exact listLoop_total toks _ 0 (fun s _=>by
    obtain ⟨k,hk⟩:=paramM_total hE d s
    exact ⟨k,hk,paramM_ext _ _ hk⟩) _ _ _ (.inl (Nat.zero_le _))
 obtain ⟨l,h1⟩:=h1
 unfold defM
 rw [h1,Option.bind_some]
 obtain ⟨t,h2⟩:=typedM_total hE d ((pubM toks st).1++[(funM toks st).1,(fnameM toks st).1,(fopenM toks st).1]++l.1++[(mustM toks [[41]] l.2).1]) (mustM toks [[41]] l.2).2
 rw [h2,Option.bind_some]
 obtain ⟨f,h3⟩:=expr_total hE d (mustM toks [[61]] t.2).2
 rw [h3,Option.bind_some]
 exact ⟨_,rfl⟩
theorem sevM_total {toks:List Tok}{one:PSt→Option (Int × PSt)}{first:List (List UInt8)}(h1:∀ s,∃ k,one s=some k):∀ (r:Nat) (kids:List Int) (st:PSt),∃ l,sevM toks one first r kids st=some l
 | 0,kids,st=>⟨_,rfl⟩
 | r+1,kids,st=>by
  rw [sevM]
  split
  ·obtain ⟨k,hk⟩:=h1 st
   rw [hk,Option.bind_some]
   exact sevM_total h1 r _ _
  ·exact ⟨_,rfl⟩
theorem progM_total {toks:List Tok}(hE:EndOk toks)(d:Nat)(st:PSt):∃ r,progM toks d (gasA toks) st=some r:=by
 obtain ⟨a,h1⟩:=sevM_total (toks:=toks) (one:=fun s=>some (importM toks s)) (first:=[tImport]) (fun s=>⟨_,rfl⟩) 16 [] st
 obtain ⟨b,h2⟩:=sevM_total (toks:=toks) (first:=[tPub,tFun]) (defM_total hE d) 64 [] a.2
 unfold progM
 rw [h1,Option.bind_some,h2,Option.bind_some]
 exact ⟨_,rfl⟩
theorem nodeM_no {k:Int}{l:List Int}{st:PSt}(h:st.fE≠0):(nodeM k l st).2=st:=by
 unfold nodeM
 rw [if_neg h]
theorem node_must {toks:List Tok}{k:Int}{l:List Int}{ts:List (List UInt8)}{st s3:PSt}(h:Slk (mustM toks ts st).2 s3)(he:PExt (mustM toks ts st).2 s3)(hm:(mustM toks ts st).1∈l):Slk st (nodeM k l s3).2:=by
 unfold mustM at h he hm
 split at h
 ·rename_i hc
  rw [if_pos hc] at he hm
  exact node_slk toks k l st s3 h hm
 ·rename_i hc
  rw [if_neg hc] at he
  have hf:=he.2.1 (failM_fE (by decide) st)
  have h0:(failM toks 22 st).fE≠0:=failM_fE (by decide) st
  rw [nodeM_no (by rw [hf];exact h0)]
  exact (failM_slk _ _ _).trans h
theorem node_kind {toks:List Tok}{k:Int}{l:List Int}{c:Nat}{st s3:PSt}(h:Slk (kindM toks c st).2 s3)(he:PExt (kindM toks c st).2 s3)(hm:(kindM toks c st).1∈l):Slk st (nodeM k l s3).2:=by
 unfold kindM at h he hm
 split at h
 ·rename_i hc
  rw [if_pos hc] at he hm
  exact node_slk toks k l st s3 h hm
 ·rename_i hc
  rw [if_neg hc] at he
  have hf:=he.2.1 (failM_fE (by decide) st)
  have h0:(failM toks 22 st).fE≠0:=failM_fE (by decide) st
  rw [nodeM_no (by rw [hf];exact h0)]
  exact (failM_slk _ _ _).trans h
theorem baseM_slk (toks:List Tok)(st:PSt):Slk st (baseM toks st).2 :=
 (mustM_slk _ _ _).trans (node_must (Slk.refl _) (PExt.refl _) (List.mem_singleton.2 rfl))
theorem clauseM_slk {toks:List Tok}{d g:Nat}{st:PSt}{r:Int × PSt}(h:clauseM toks d g st=some r):Slk st r.2:=by
 unfold clauseM at h
 obtain ⟨f,h1,h⟩:=Option.bind_eq_some_iff.1 h
 obtain rfl:=Option.some.inj h
 have e2:Slk (setC (leafM toks st).2 true) f.2:=run_slk toks d g _ _ _ h1
 have e3:Slk (leafM toks st).2 (setC f.2 st.clause):=e2
 exact node_slk toks 6 _ st _ (e3.trans (mustM_slk _ _ _)) List.mem_cons_self
theorem typedM_slk {toks:List Tok}{d g:Nat}{kids:List Int}{st:PSt}{r:List Int × PSt}(h:typedM toks d g kids st=some r):Slk st r.2∧∀ k∈kids,k∈r.1:=by
 unfold typedM at h
 split at h
 ·obtain ⟨n,h1,h⟩:=Option.bind_eq_some_iff.1 h
  obtain rfl:=Option.some.inj h
  exact ⟨(baseM_slk _ _).trans (clauseM_slk h1),fun k hk=>List.mem_append_left _ hk⟩
 ·obtain rfl:=Option.some.inj h
  exact ⟨baseM_slk _ _,fun k hk=>List.mem_append_left _ hk⟩
theorem paramM_slk {toks:List Tok}{d g:Nat}(st:PSt)(r:Int × PSt)(h:paramM toks d g st=some r):Slk st r.2:=by
 unfold paramM at h
 obtain ⟨l,h1,h⟩:=Option.bind_eq_some_iff.1 h
 obtain rfl:=Option.some.inj h
 obtain ⟨h2,h3⟩:=typedM_slk h1
 exact node_kind h2 (typedM_ext h1) (h3 _ List.mem_cons_self)
theorem importO_slk (toks:List Tok)(s:PSt)(k:Int × PSt)(h:(fun s=>some (importM toks s)) s=some k):Slk s k.2:=by
 obtain rfl:=Option.some.inj h
 exact node_slk toks 2 _ s _ ((kindM_slk _ _ _).trans (mustM_slk _ _ _)) List.mem_cons_self
theorem defM_slk {toks:List Tok}{d g:Nat}(st:PSt)(r:Int × PSt)(h:defM toks d g st=some r):Slk st r.2:=by
 unfold defM at h
 obtain ⟨l,h1,h⟩:=Option.bind_eq_some_iff.1 h
 obtain ⟨t,h2,h⟩:=Option.bind_eq_some_iff.1 h
 obtain ⟨f,h3,h⟩:=Option.bind_eq_some_iff.1 h
 obtain rfl:=Option.some.inj h
 have hp:Slk st (pubM toks st).2:=by
  unfold pubM
  split
  ·exact leafM_slk _ _
  ·exact Slk.refl _
 obtain ⟨t1,t2⟩:=typedM_slk h2
 have e1:Slk (funM toks st).2 (mustM toks [[59]] f.2).2:=(((((((kindM_slk _ _ _).trans (mustM_slk _ _ _)).trans (listM_slk toks _ paramM_slk _ _ h1)).trans (mustM_slk _ _ _)).trans t1).trans (mustM_slk _ _ _)).trans (run_slk _ _ _ _ _ _ h3)).trans (mustM_slk _ _ _)
 have e2:PExt (funM toks st).2 (mustM toks [[59]] f.2).2:=(((((((kindM_ext _ _ _).trans (mustM_ext _ _ _)).trans (listM_ext toks _ paramM_ext _ _ h1)).trans (mustM_ext _ _ _)).trans (typedM_ext h2)).trans (mustM_ext _ _ _)).trans (run_ext _ _ _ _ _ _ h3)).trans (mustM_ext _ _ _)
 exact hp.trans (node_must e1 e2 (List.mem_append_left _ (t2 _ (by show (funM toks st).1∈_;simp))))
theorem sevM_slk {toks:List Tok}{one:PSt→Option (Int × PSt)}{first:List (List UInt8)}(h1:∀ s k,one s=some k→Slk s k.2):∀ (r:Nat) (kids:List Int) (st:PSt) (l:List Int × PSt),sevM toks one first r kids st=some l→Slk st l.2
 | 0,kids,st,l,h=>by
  rw [sevM] at h
  obtain rfl:=Option.some.inj h
  show Slk st (if _ then _ else _)
  split
  ·exact failM_slk _ _ _
  ·exact Slk.refl _
 | r+1,kids,st,l,h=>by
  rw [sevM] at h
  split at h
  ·obtain ⟨k,hk,h⟩:=Option.bind_eq_some_iff.1 h
   exact (h1 _ _ hk).trans (sevM_slk h1 r _ _ _ h)
  ·obtain rfl:=Option.some.inj h
   exact Slk.refl _
theorem progM_slk {toks:List Tok}{d g:Nat}{st:PSt}{r:Int × PSt}(h:progM toks d g st=some r):Slk st r.2:=by
 unfold progM at h
 obtain ⟨a,h1,h⟩:=Option.bind_eq_some_iff.1 h
 obtain ⟨b,h2,h⟩:=Option.bind_eq_some_iff.1 h
 obtain rfl:=Option.some.inj h
 exact ((sevM_slk (importO_slk toks) _ _ _ _ h1).trans (sevM_slk defM_slk _ _ _ _ h2)).trans (node_kind (Slk.refl _) (PExt.refl _) (by simp))
theorem sevM_len {toks:List Tok}{one:PSt→Option (Int × PSt)}{first:List (List UInt8)}:∀ (r:Nat) (kids:List Int) (st:PSt) (l:List Int × PSt),sevM toks one first r kids st=some l→l.1.length≤kids.length+r
 | 0,kids,st,l,h=>by
  rw [sevM] at h
  obtain rfl:=Option.some.inj h
  exact Nat.le_refl _
 | r+1,kids,st,l,h=>by
  rw [sevM] at h
  split at h
  ·obtain ⟨k,hk,h⟩:=Option.bind_eq_some_iff.1 h
   have:=sevM_len r _ _ _ h
   rw [List.length_append,List.length_singleton] at this
   omega
  ·obtain rfl:=Option.some.inj h
   exact Nat.le_add_right _ _
def ResP (toks:List Tok)(st:PSt)(r:Int × PSt)(t:PT):Prop:=Grew st [t] r.2∧r.1=((st.nodes.length+t.nd:Nat):Int) - 1∧(st.used<toks.length→r.2.used<toks.length)
theorem Res.p {toks:List Tok}{st:PSt}{r:Int × PSt}{e:CE}(h:Res toks st r e):ResP toks st r e.pt:=⟨h.1,h.2.1,h.2.2.2⟩
theorem Grew.resP {toks:List Tok}{a b:PSt}{l:List PT}{k:Nat}{ids:List Int}(h:Grew a l b)(hids:ids=idsL a.nodes.length l)(hf:(nodeM k ids b).2.fE=0)(hu:a.used<toks.length→b.used<toks.length):ResP toks a (nodeM k ids b) (.node k l):=by
 subst hids
 obtain ⟨h1,h2⟩:=h.node (node_fE hf) k
 refine ⟨h1,by rw [h2,PT.nd];omega,fun q=>?_⟩
 have h3:=h1.used
 have h4:=h.used
 have h5:=hu q
 rw [h3]
 rw [h4] at h5
 simpa [lvL,PT.lv] using h5
def IG (a:PSt)(ids:List Int)(l:List PT)(b:PSt):Prop:=Grew a l b∧ids=idsL a.nodes.length l
theorem IG.append {a b c:PSt}{i j:List Int}{l k:List PT}(h:IG a i l b)(h2:IG b j k c):IG a (i++j) (l++k) c :=
 ⟨h.1.append h2.1,by rw [h.2,h2.2,idsL_append,h.1.len]⟩
theorem IG.leaf {a b:PSt}{x:Int}(h:Grew a [.leaf] b)(hx:x=((a.nodes.length:Nat):Int)):IG a [x] [.leaf] b:=⟨h,by simp [idsL,PT.nd,hx]⟩
theorem IG.res {a b:PSt}{t:PT}{x:Int}(h:Grew a [t] b)(hx:x=((a.nodes.length+t.nd:Nat):Int) - 1):IG a [x] [t] b:=⟨h,by simp [idsL,hx]⟩
theorem IG.nil (a:PSt):IG a [] [] a:=⟨Grew.nil a,rfl⟩
def sepPT:List PT→List PT
 | []=>[]
 | t :: l=>t :: (match l with | []=>[]|_ :: _=>.leaf :: sepPT l)
theorem sepPT_one (t:PT):sepPT [t]=[t]:=by rw [sepPT]
theorem sepPT_two (t s:PT)(l:List PT):sepPT (t :: s :: l)=t :: .leaf :: sepPT (s :: l):=by rw [sepPT]
structure TyS where
 cl:Option CE
def TyS.pts (t:TyS):List PT:=[.leaf,.node 5 [.leaf]]++(match t.cl with|none=>[]|some e=>[.node 6 [.leaf,e.pt,.leaf]])
def TyS.ok (toks:List Tok)(u:Nat)(t:TyS):Prop:=textAt toks (u+1)∈[tInt,tBool]∧(match t.cl with|none=>True|some e=>e.ok toks true (u+3))
def TyS.par (t:TyS):PT:=.node 4 (.leaf :: t.pts)
def TyS.parOk (toks:List Tok)(u:Nat)(t:TyS):Prop:=kindAt toks u=1∧t.ok toks (u+1)
def parsOk (toks:List Tok)(u:Nat):List TyS→Prop
 | []=>True
 | t :: l=>t.parOk toks u∧parsOk toks (u+t.par.lv+1) l
structure DfS where
 pub:Bool
 pars:List TyS
 ty:TyS
 body:CE
def DfS.lead (d:DfS):List PT:=if d.pub=true then [.leaf] else []
def DfS.kids (d:DfS):List PT:=d.lead++([.leaf,.leaf,.leaf]++(sepPT (d.pars.map TyS.par)++([.leaf]++(d.ty.pts++[.leaf,d.body.pt,.leaf]))))
def DfS.pt (d:DfS):PT:=.node 3 d.kids
def DfS.at1 (u:Nat)(d:DfS):Nat:=u+lvL d.lead
def DfS.at2 (u:Nat)(d:DfS):Nat:=d.at1 u+3+lvL (sepPT (d.pars.map TyS.par))+1
def DfS.at3 (u:Nat)(d:DfS):Nat:=d.at2 u+lvL d.ty.pts+1
def DfS.ok (toks:List Tok)(u:Nat)(d:DfS):Prop :=
 (d.pub=true→textAt toks u=tPub)∧textAt toks (d.at1 u)=tFun∧kindAt toks (d.at1 u+1)=1∧d.pars.length≤8∧parsOk toks (d.at1 u+3) d.pars∧d.ty.ok toks (d.at2 u)∧d.body.ok toks false (d.at3 u)
def impPT:PT:=.node 2 [.leaf,.leaf,.leaf]
def defsOk (toks:List Tok)(u:Nat):List DfS→Prop
 | []=>True
 | d :: l=>d.ok toks u∧defsOk toks (u+d.pt.lv) l
def impsOk (toks:List Tok)(u:Nat):Nat→Prop
 | 0=>True
 | n+1=>textAt toks u=tImport∧kindAt toks (u+1)=1∧impsOk toks (u+3) n
structure PgS where
 imps:Nat
 defs:List DfS
def PgS.kids (p:PgS):List PT:=List.replicate p.imps impPT++(p.defs.map DfS.pt++[.leaf])
def PgS.pt (p:PgS):PT:=.node 1 p.kids
def PgS.ok (toks:List Tok)(p:PgS):Prop:=p.imps≤16∧p.defs.length≤64∧impsOk toks 0 p.imps∧defsOk toks (3 * p.imps) p.defs
theorem setC_grew {a b:PSt}{l:List PT}{c:Bool}(h:Grew (setC a c) l b):Grew a l (setC b a.clause):=by
 rw [Grew] at h ⊢
 rw [h]
 rfl
theorem base_ok {toks:List Tok}(hE:EndOk toks){st:PSt}(h:(baseM toks st).2.fE=0) :
  Grew st [.leaf,.node 5 [.leaf]] (baseM toks st).2∧[(colonM toks st).1,(baseM toks st).1]=idsL st.nodes.length [.leaf,.node 5 [.leaf]]∧textAt toks (st.used+1)∈[tInt,tBool]∧(st.used<toks.length→(baseM toks st).2.used<toks.length):=by
 have h2:=node_fE h
 obtain ⟨b1,b2,b3,b4,b5⟩:=must_ok hE h2
 obtain ⟨a1,a2,a3,a4,a5⟩:=must_ok hE b5
 have hr:=b1.resP (k:=5) (toks:=toks) (ids:=[(bwordM toks st).1]) (by rw [show (bwordM toks st).1=_ from b2];simp [idsL,PT.nd]) h (fun _=>by have:=b1.used;simp only [lvL,PT.lv] at this;omega)
 obtain ⟨r1,r2,r3⟩:=hr
 have u1:=a1.used
 have n1:=a1.len
 simp only [lvL,PT.lv,ndL,PT.nd] at u1 n1
 refine ⟨a1.append r1,?_,by rw [show st.used+1=(colonM toks st).2.used from by rw [show (colonM toks st).2.used=_ from u1]];exact b3,fun _=>r3 (by show (mustM toks [[58]] st).2.used<_;omega)⟩
 rw [show (baseM toks st).1=_ from r2,show (colonM toks st).1=_ from a2]
 simp only [idsL,PT.nd,ndL]
 rw [show (colonM toks st).2.nodes.length=_ from n1]
 congr 1
 ·omega
theorem idsL_app (b:Nat)(l k:List PT):idsL b (l++k)=idsL b l++idsL (b+ndL l) k:=idsL_append b l k
theorem clause_ok {toks:List Tok}(hE:EndOk toks){d g:Nat}{st:PSt}{r:Int × PSt}(h:clauseM toks d g st=some r)(hr:r.2.fE=0)(hn:nextF toks st [[123]]=true) :
  ∃ e:CE,ResP toks st r (.node 6 [.leaf,e.pt,.leaf])∧e.ok toks true (st.used+1):=by
 unfold clauseM at h
 obtain ⟨f,h1,h⟩:=Option.bind_eq_some_iff.1 h
 obtain rfl:=Option.some.inj h
 have z1:=node_fE hr
 obtain ⟨m1,m2,m3,m4,m5⟩:=must_ok hE z1
 obtain ⟨l1,l2,l3⟩:=leaf_ok hE (next_kind hn)
 obtain ⟨e,e1,e2,e3,e4⟩:=run_tree toks hE d g _ _ _ h1 m5
 have l4:=l1.used
 have l5:=l1.len
 simp only [lvL,PT.lv,ndL,PT.nd] at l4 l5
 have hg2:Grew (leafM toks st).2 [e.pt] (setC f.2 st.clause):=by
  have:=setC_grew e1
  rw [l1.clause] at this
  exact this
 have hg:=(l1.append hg2).append m1
 have n2:=hg2.len
 have u2:=hg2.used
 have hu:=m1.used
 simp only [lvL,PT.lv,ndL] at n2 u2 hu
 refine ⟨e,hg.resP (k:=6) ?_ hr (fun _=>by omega),?_⟩
 ·rw [m2,e2,l2,n2]
  simp only [idsL,PT.nd,List.cons_append,List.nil_append]
  show [_,_,_]=[_,_,_]
  have:(setC (leafM toks st).2 true).nodes.length=st.nodes.length+1:=l5
  rw [this]
  congr 1
  ·omega
  ·congr 1
   congr 1
   omega
 ·have h3:e.ok toks (setC (leafM toks st).2 true).clause (setC (leafM toks st).2 true).used:=e3
  have:(setC (leafM toks st).2 true).used=st.used+1:=l4
  rw [this] at h3
  exact h3
theorem typed_ok {toks:List Tok}(hE:EndOk toks){d g:Nat}{kids:List Int}{st:PSt}{r:List Int × PSt}(h:typedM toks d g kids st=some r)(hr:r.2.fE=0) :
  ∃ t:TyS,Grew st t.pts r.2∧r.1=kids++idsL st.nodes.length t.pts∧t.ok toks st.used∧(st.used<toks.length→r.2.used<toks.length):=by
 unfold typedM at h
 split at h
 ·rename_i hc
  obtain ⟨n,h1,h⟩:=Option.bind_eq_some_iff.1 h
  obtain rfl:=Option.some.inj h
  obtain ⟨b1,b2,b3,b4⟩:=base_ok hE hc.1
  obtain ⟨e,⟨e1,e2,e3⟩,e4⟩:=clause_ok hE h1 hr hc.2
  have u1:=b1.used
  have n1:=b1.len
  simp only [lvL,PT.lv,ndL,PT.nd] at u1 n1
  refine ⟨⟨some e⟩,b1.append e1,?_,⟨b3,by rw [u1] at e4;exact e4⟩,fun q=>e3 (b4 q)⟩
  show _=kids++idsL _ ([.leaf,.node 5 [.leaf]]++[.node 6 [.leaf,e.pt,.leaf]])
  rw [idsL_app,← b2,e2,n1]
  simp only [idsL,PT.nd,ndL]
  congr 1
 ·obtain rfl:=Option.some.inj h
  obtain ⟨b1,b2,b3,b4⟩:=base_ok hE hr
  refine ⟨⟨none⟩,by simpa [TyS.pts] using b1,?_,⟨b3,trivial⟩,b4⟩
  show _=kids++idsL _ ([.leaf,.node 5 [.leaf]]++[])
  rw [List.append_nil,← b2]
theorem param_ok {toks:List Tok}(hE:EndOk toks){d g:Nat}(st:PSt)(r:Int × PSt)(h:paramM toks d g st=some r)(hr:r.2.fE=0):∃ t:TyS,ResP toks st r t.par∧t.parOk toks st.used:=by
 unfold paramM at h
 obtain ⟨l,h1,h⟩:=Option.bind_eq_some_iff.1 h
 obtain rfl:=Option.some.inj h
 have z1:=node_fE hr
 obtain ⟨t,t1,t2,t3,t4⟩:=typed_ok hE h1 z1
 obtain ⟨k1,k2,k3,k4,k5⟩:=kind_ok hE (by decide) ((typedM_ext h1).zero z1)
 have u1:=k1.used
 have n1:=k1.len
 simp only [lvL,PT.lv,ndL,PT.nd] at u1 n1
 refine ⟨t,(k1.append t1).resP (k:=4) ?_ hr (fun _=>t4 (by omega)),k3,by rw [u1] at t3;exact t3⟩
 rw [t2,k2,n1,idsL_app]
 simp [idsL,PT.nd,ndL]
theorem pars_loop {toks:List Tok}(hE:EndOk toks){d g:Nat}:∀ (r:Nat) (kids:List Int) (st:PSt) (l:List Int × PSt),listLoop toks (paramM toks d g) r kids st=some l→l.2.fE=0 →
  ∃ es:List TyS,es≠[]∧es.length≤r∧Grew st (sepPT (es.map TyS.par)) l.2∧l.1=kids++idsL st.nodes.length (sepPT (es.map TyS.par))∧parsOk toks st.used es∧(st.used<toks.length→l.2.used<toks.length)
 | 0,kids,st,l,h,hl=>by
  rw [listLoop] at h
  obtain rfl:=Option.some.inj h
  exfalso
  have hl:(if st.fE=0 then failM toks 15 st else st).fE=0:=hl
  split at hl
  ·exact fail_no (by decide) hl
  ·rename_i hf;exact hf hl
 | r+1,kids,st,l,h,hl=>by
  rw [listLoop] at h
  split at h
  ·rename_i hf
   obtain rfl:=Option.some.inj h
   exact absurd hl hf
  ·obtain ⟨k,hk,h⟩:=Option.bind_eq_some_iff.1 h
   split at h
   ·rename_i hn
    obtain ⟨g1,i1,u1⟩:=leaf_ok hE (next_kind hn.2)
    obtain ⟨e,⟨he1,he2,he4⟩,he3⟩:=param_ok hE _ _ hk hn.1
    obtain ⟨es,hne,hlen,hg,hi,hok,hu⟩:=pars_loop hE r _ _ _ h hl
    obtain ⟨f,es,rfl⟩:∃ f fs,es=f :: fs:=by cases es with
     | nil=>exact absurd rfl hne
     | cons f fs=>exact ⟨f,fs,rfl⟩
    have a1:=he1.len
    have a2:=he1.used
    have b1:=g1.len
    have b2:=g1.used
    simp only [ndL,lvL,PT.nd,PT.lv,Nat.add_zero] at a1 a2 b1 b2
    refine ⟨e :: f :: es,by simp,by simpa using hlen,?_,?_,?_,fun q=>hu (by have:=he4 q;omega)⟩
    ·rw [List.map_cons,List.map_cons,sepPT_two]
     exact (he1.append g1).append hg
    ·rw [hi,List.map_cons (a:=e),List.map_cons (a:=f),sepPT_two,ids_cons,ids_cons,he2,i1,b1,a1]
     simp only [PT.nd,List.append_assoc,List.cons_append,List.nil_append]
     congr 2
     congr 1
     omega
    ·rw [b2,a2] at hok
     exact ⟨he3,hok⟩
   ·obtain rfl:=Option.some.inj h
    obtain ⟨e,⟨he1,he2,he4⟩,he3⟩:=param_ok hE _ _ hk hl
    refine ⟨[e],by simp,by simp,by rw [List.map_cons,List.map_nil,sepPT_one];exact he1,?_,⟨he3,trivial⟩,he4⟩
    rw [List.map_cons,List.map_nil,sepPT_one,ids_cons,he2]
    simp [idsL]
theorem pars_ok {toks:List Tok}(hE:EndOk toks){d g:Nat}{st:PSt}{l:List Int × PSt}(h:listM toks (paramM toks d g) st=some l)(hl:l.2.fE=0) :
  ∃ es:List TyS,es.length≤8∧Grew st (sepPT (es.map TyS.par)) l.2∧l.1=idsL st.nodes.length (sepPT (es.map TyS.par))∧parsOk toks st.used es∧(st.used<toks.length→l.2.used<toks.length):=by
 unfold listM at h
 split at h
 ·obtain rfl:=Option.some.inj h
  exact ⟨[],by simp,by simpa [sepPT] using Grew.nil st,by simp [sepPT,idsL],trivial,id⟩
 ·obtain ⟨es,_,h1,h2,h3,h4,h5⟩:=pars_loop hE _ _ _ _ h hl
  exact ⟨es,h1,h2,by rw [h3];simp,h4,h5⟩
theorem def_ok {toks:List Tok}(hE:EndOk toks){dp g:Nat}(st:PSt)(r:Int × PSt)(h:defM toks dp g st=some r)(hr:r.2.fE=0)(hc:st.clause=false):∃ d:DfS,ResP toks st r d.pt∧d.ok toks st.used:=by
 unfold defM at h
 obtain ⟨l,h1,h⟩:=Option.bind_eq_some_iff.1 h
 obtain ⟨t,h2,h⟩:=Option.bind_eq_some_iff.1 h
 obtain ⟨f,h3,h⟩:=Option.bind_eq_some_iff.1 h
 obtain rfl:=Option.some.inj h
 have z1:=node_fE hr
 obtain ⟨m1,m2,m3,m4,m5⟩:=must_ok hE z1
 have z2:=(run_ext toks dp g _ _ _ h3).zero m5
 obtain ⟨q1,q2,q3,q4,q5⟩:=must_ok hE z2
 obtain ⟨ty,t1,t2,t3,t4⟩:=typed_ok hE h2 q5
 have z3:=(typedM_ext h2).zero q5
 obtain ⟨c1,c2,c3,c4,c5⟩:=must_ok hE z3
 obtain ⟨ps,p1,p2,p3,p4,p5⟩:=pars_ok hE h1 c5
 have z4:=(listM_ext toks _ paramM_ext _ _ h1).zero c5
 obtain ⟨o1,o2,o3,o4,o5⟩:=must_ok hE (l:=[[40]]) (st:=(fnameM toks st).2) z4
 obtain ⟨n1,n2,n3,n4,n5⟩:=kind_ok hE (k:=1) (by decide) (st:=(funM toks st).2) o5
 obtain ⟨f1,f2,f3,f4,f5⟩:=must_ok hE (l:=[tFun]) (st:=(pubM toks st).2) n5
 obtain ⟨b,b1,b2,b3,b4⟩:=run_tree toks hE dp g _ _ _ h3 m5
 have hp:∃ pub:Bool,Grew st (if pub=true then [.leaf] else []) (pubM toks st).2∧(pubM toks st).1=idsL st.nodes.length (if pub=true then [.leaf] else [])∧(pub=true→textAt toks st.used=tPub):=by
  unfold pubM
  split
  ·rename_i hx
   obtain ⟨l1,l2,_⟩:=leaf_ok hE (next_kind hx)
   refine ⟨true,by simpa using l1,by simp [idsL,PT.nd,l2],fun _=>?_⟩
   simpa using next_text hx
  ·exact ⟨false,by simpa using Grew.nil st,by simp [idsL],fun q=>by cases q⟩
 obtain ⟨pub,pb1,pb2,pb3⟩:=hp
 have g1:=(pb1.append f1)
 have g2:=(g1.append n1)
 have g3:=(g2.append o1)
 have g4:=(g3.append p2)
 have g5:=(g4.append c1)
 have g6:=(g5.append t1)
 have g7:=(g6.append q1)
 have g8:=(g7.append b1)
 have g9:=(g8.append m1)
 have u0:=pb1.used
 have u1:=f1.used
 have u2:=n1.used
 have u3:=o1.used
 have u4:=p2.used
 have u5:=c1.used
 have u6:=t1.used
 have u7:=q1.used
 have k8:=g7.clause
 simp only [lvL,PT.lv] at u1 u2 u3 u5 u7
 refine ⟨⟨pub,ps,ty,b⟩,?_,pb3,?_,?_,p1,?_,?_,?_⟩
 ·have hk:(DfS.mk pub ps ty b).kids=(if pub=true then [.leaf] else [])++[.leaf]++[.leaf]++[.leaf]++sepPT (ps.map TyS.par)++[.leaf]++ty.pts++[.leaf]++[b.pt]++[.leaf]:=by
   simp [DfS.kids,DfS.lead]
  rw [DfS.pt,hk]
  have ig:IG st _ _ _:=(((((((((show IG st _ _ _ from ⟨pb1,pb2⟩).append (IG.leaf f1 f2)).append (IG.leaf n1 n2)).append (IG.leaf o1 o2)).append (show IG _ _ _ _ from ⟨p2,p3⟩)).append (IG.leaf c1 c2)).append (show IG _ _ _ _ from ⟨t1,rfl⟩)).append (IG.leaf q1 q2)).append (IG.res b1 b2)).append (IG.leaf m1 m2)
  refine g9.resP (k:=3) ?_ hr (fun _=>by have:=m1.used;simp only [lvL,PT.lv] at this;omega)
  rw [← ig.2,t2]
  simp only [List.append_assoc,List.cons_append,List.nil_append]
  rfl
 ·show textAt toks (st.used+lvL (DfS.lead _))=tFun
  have:st.used+lvL (DfS.lead ⟨pub,ps,ty,b⟩)=(pubM toks st).2.used:=u0.symm
  rw [this]
  simpa using f3
 ·show kindAt toks (st.used+lvL (DfS.lead _)+1)=1
  have:st.used+lvL (DfS.lead ⟨pub,ps,ty,b⟩)+1=(funM toks st).2.used:=by rw [show (funM toks st).2.used=_ from u1,u0];rfl
  rw [this]
  exact n3
 ·show parsOk toks (st.used+lvL (DfS.lead _)+3) ps
  have:st.used+lvL (DfS.lead ⟨pub,ps,ty,b⟩)+3=(fopenM toks st).2.used:=by
   rw [show (fopenM toks st).2.used=_ from u3,show (fnameM toks st).2.used=_ from u2,show (funM toks st).2.used=_ from u1,u0]
   rfl
  rw [this]
  exact p4
 ·have:(DfS.mk pub ps ty b).at2 st.used=(mustM toks [[41]] l.2).2.used:=by
   rw [u5,u4,show (fopenM toks st).2.used=_ from u3,show (fnameM toks st).2.used=_ from u2,show (funM toks st).2.used=_ from u1,u0]
   rfl
  rw [this]
  exact t3
 ·have:(DfS.mk pub ps ty b).at3 st.used=(mustM toks [[61]] t.2).2.used:=by
   rw [u7,u6,u5,u4,show (fopenM toks st).2.used=_ from u3,show (fnameM toks st).2.used=_ from u2,show (funM toks st).2.used=_ from u1,u0]
   rfl
  rw [this]
  have hb:b.ok toks (mustM toks [[61]] t.2).2.clause (mustM toks [[61]] t.2).2.used:=b3
  rw [k8,hc] at hb
  exact hb
def okL {α:Type}(P:α→Nat→Prop)(T:α→PT):Nat→List α→Prop
 | _,[]=>True
 | u,a :: l=>P a u∧okL P T (u+(T a).lv) l
theorem sev_ok {α:Type}{toks:List Tok}{one:PSt→Option (Int × PSt)}{first:List (List UInt8)}(T:α→PT)(P:α→Nat→Prop)
  (hone:∀ s k,one s=some k→k.2.fE=0→nextF toks s first=true→s.clause=false→∃ a,ResP toks s k (T a)∧P a s.used) (hx:∀ s k,one s=some k→PExt s k.2) :
  ∀ (r:Nat) (kids:List Int) (st:PSt) (l:List Int × PSt),sevM toks one first r kids st=some l→l.2.fE=0→st.clause=false →
   ∃ zs9:List α,zs9.length≤r∧Grew st (zs9.map T) l.2∧l.1=kids++idsL st.nodes.length (zs9.map T)∧okL P T st.used zs9∧(st.used<toks.length→l.2.used<toks.length)
 | 0,kids,st,l,h,hl,_=>by
  rw [sevM] at h
  obtain rfl:=Option.some.inj h
  have hl:(if st.fE=0∧nextF toks st first=true then failM toks 15 st else st).fE=0:=hl
  split at hl
  ·exact (fail_no (by decide) hl).elim
  ·rename_i hc
   refine ⟨[],by simp,?_,by simp [idsL],trivial,?_⟩
   ·show Grew st [] (if _ then _ else _)
    rw [if_neg hc]
    exact Grew.nil st
   ·show _→(if _ then _ else _:PSt).used<_
    rw [if_neg hc]
    exact id
 | r+1,kids,st,l,h,hl,hc0=>by
  rw [sevM] at h
  split at h
  ·rename_i hc
   obtain ⟨k,hk,h⟩:=Option.bind_eq_some_iff.1 h
   have hz:=(sevM_ext hx r _ _ _ h).zero hl
   obtain ⟨a,⟨g1,i1,u1⟩,p1⟩:=hone _ _ hk hz hc.2 hc0
   obtain ⟨zs9,h1,h2,h3,h4,h5⟩:=sev_ok T P hone hx r _ _ _ h hl (by rw [g1.clause];exact hc0)
   have n1:=g1.len
   have s1:=g1.used
   simp only [ndL,lvL,Nat.add_zero] at n1 s1
   refine ⟨a :: zs9,by simpa using h1,?_,?_,⟨p1,by rw [← s1];exact h4⟩,fun q=>h5 (u1 q)⟩
   ·exact g1.append h2
   ·rw [h3,List.map_cons,idsL,i1,n1,List.append_assoc]
    rfl
  ·obtain rfl:=Option.some.inj h
   exact ⟨[],by simp,Grew.nil st,by simp [idsL],trivial,id⟩
theorem import_ok {toks:List Tok}(hE:EndOk toks)(st:PSt)(k:Int × PSt)(h:(fun s=>some (importM toks s)) st=some k)(hf:k.2.fE=0)(hn:nextF toks st [tImport]=true):∃ _:Unit,ResP toks st k impPT∧(textAt toks st.used=tImport∧kindAt toks (st.used+1)=1):=by
 obtain rfl:=Option.some.inj h
 have z1:=node_fE (k:=2) (show (nodeM 2 _ _).2.fE=0 from hf)
 obtain ⟨m1,m2,m3,m4,m5⟩:=must_ok hE z1
 obtain ⟨k1,k2,k3,k4,k5⟩:=kind_ok hE (by decide) m5
 obtain ⟨l1,l2,l3⟩:=leaf_ok hE (next_kind hn)
 have u1:=l1.used
 simp only [lvL,PT.lv] at u1
 have ig:IG st _ _ _:=((IG.leaf l1 l2).append (IG.leaf k1 k2)).append (IG.leaf m1 m2)
 refine ⟨(),?_,by simpa using next_text hn,by rw [u1] at k3;exact k3⟩
 exact ig.1.resP (k:=2) ig.2 hf (fun _=>by have:=m1.used;simp only [lvL,PT.lv] at this;omega)
theorem map_unit {β:Type}(c:β):∀ l:List Unit,l.map (fun _=>c)=List.replicate l.length c
 | []=>rfl
 | _ :: l=>by rw [List.map_cons,map_unit c l];rfl
theorem imps_of {toks:List Tok}:∀ (l:List Unit) (u:Nat),okL (fun (_:Unit) u=>textAt toks u=tImport∧kindAt toks (u+1)=1) (fun _=>impPT) u l→impsOk toks u l.length
 | [],_,_=>trivial
 | _ :: l,_u,h=>⟨h.1.1,h.1.2,imps_of l _ h.2⟩
theorem defs_of {toks:List Tok}:∀ (l:List DfS) (u:Nat),okL (fun (d:DfS) u=>d.ok toks u) DfS.pt u l→defsOk toks u l
 | [],_,_=>trivial
 | _ :: l,_,h=>⟨h.1,defs_of l _ h.2⟩
theorem imps_lv:∀ n,lvL (List.replicate n impPT)=3 * n
 | 0=>rfl
 | n+1=>by
  rw [List.replicate_succ,lvL,imps_lv n]
  simp only [impPT,PT.lv,lvL]
  omega
theorem prog_ok {T:List UInt8}{p:Nat}{toks:List Tok}(hL:Laid T p toks){d g:Nat}{r:Int × PSt}(h:progM toks d g startP=some r)(hf:r.2.fE=0) :
  ∃ q:PgS,r.2.nodes=q.pt.em 0 0∧q.ok toks∧q.pt.lv=toks.length:=by
 have hE:=hL.endOk
 unfold progM at h
 obtain ⟨a,h1,h⟩:=Option.bind_eq_some_iff.1 h
 obtain ⟨b,h2,h⟩:=Option.bind_eq_some_iff.1 h
 obtain rfl:=Option.some.inj h
 have hk:=node_fE hf
 have hb:=(kindM_ext toks 5 b.2).zero hk
 have ha:=(sevM_ext defM_ext _ _ _ _ h2).zero hb
 obtain ⟨us,i1,i2,i3,i4,i5⟩:=sev_ok (toks:=toks) (fun _:Unit=>impPT) (fun _ u=>textAt toks u=tImport∧kindAt toks (u+1)=1) (fun s k e1 e2 e3 _=>import_ok hE s k e1 e2 e3) (importO_ext toks) 16 [] startP a h1 ha rfl
 obtain ⟨ds,d1,d2,d3,d4,d5⟩:=sev_ok (toks:=toks) DfS.pt (fun d u=>d.ok toks u) (fun s k e1 e2 _ e4=>def_ok hE s k e1 e2 e4) defM_ext 64 [] a.2 b h2 hb (by rw [i2.clause];rfl)
 rw [map_unit] at i2 i3
 have hu:a.2.used=3 * us.length:=by
  rw [i2.used,imps_lv]
  simp [startP]
 have hu':=d5 (i5 hL.some)
 have hku:kindM toks 5 b.2=leafM toks b.2∧kindAt toks b.2.used=5:=by
  unfold kindM at hk ⊢
  by_cases hc:b.2.fE=0∧(peekF toks b.2.used).kind=5
  ·rw [if_pos hc]
   exact ⟨rfl,hc.2⟩
  ·rw [if_neg hc] at hk
   exact (fail_no (by decide) hk).elim
 have hlast:=hL.last5 hu' hku.2
 obtain ⟨hl1,hl2⟩:=Grew.leaf (toks:=toks) (st:=b.2) (by omega)
 have e1:IG startP a.1 (List.replicate us.length impPT) a.2:=⟨i2,i3⟩
 have e2:IG a.2 b.1 (ds.map DfS.pt) b.2:=⟨d2,d3⟩
 have ig:=(e1.append e2).append (IG.leaf hl1 hl2)
 rw [hku.1] at hf hk ⊢
 have hn:=ig.1.node hk 1
 rw [← ig.2] at hn
 refine ⟨⟨us.length,ds⟩,?_,⟨i1,d1,?_,?_⟩,?_⟩
 ·have h18:=hn.1
  simp only [Int.cast_ofNat_Int] at h18
  rw [h18]
  simp [startP,emL,PgS.pt,PgS.kids]
 ·exact imps_of us 0 i4
 ·have:=defs_of ds _ d4
  rw [hu] at this
  exact this
 ·have:=ig.1.used
  rw [hl1.used] at this
  simp only [startP,lvL,PT.lv] at this
  simp only [PgS.pt,PT.lv,PgS.kids]
  rw [← List.append_assoc]
  omega
theorem wfL_app:∀ {l k:List PT},wfL l→wfL k→wfL (l++k)
 | [],k,_,h=>h
 | t :: l,k,h1,h2=>by
  rw [wfL] at h1
  rw [List.cons_append,wfL]
  exact ⟨h1.1,wfL_app h1.2 h2⟩
theorem wfL_map {α:Type}{T:α→PT}(h:∀ a,(T a).wf):∀ l:List α,wfL (l.map T)
 | []=>by rw [List.map_nil,wfL];trivial
 | a :: l=>by rw [List.map_cons,wfL];exact ⟨h a,wfL_map h l⟩
theorem wfL_sep:∀ {l:List PT},wfL l→wfL (sepPT l)
 | [],h=>by rw [sepPT];exact h
 | [t],h=>by rw [sepPT_one];exact h
 | t :: s :: l,h=>by
  rw [wfL] at h
  rw [sepPT_two,wfL,wfL,PT.wf]
  exact ⟨h.1,trivial,wfL_sep h.2⟩
theorem wfL_rep {t:PT}(h:t.wf):∀ n,wfL (List.replicate n t)
 | 0=>by rw [List.replicate_zero,wfL];trivial
 | n+1=>by rw [List.replicate_succ,wfL];exact ⟨h,wfL_rep h n⟩
theorem TyS.wf (t:TyS):wfL t.pts:=by
 unfold TyS.pts
 cases h:t.cl with
 | none=>simp [wfL,PT.wf]
 | some e=>simp [wfL,PT.wf,CE.wf e]
theorem TyS.parWf (t:TyS):t.par.wf:=by
 unfold TyS.par
 simp [wfL,PT.wf,t.wf]
theorem DfS.wf (d:DfS):d.pt.wf:=by
 rw [DfS.pt,PT.wf]
 refine ⟨by omega,by omega,?_⟩
 unfold DfS.kids DfS.lead
 refine wfL_app ?_ (wfL_app (by simp [wfL,PT.wf]) (wfL_app (wfL_sep (wfL_map TyS.parWf _)) (wfL_app (by simp [wfL,PT.wf]) (wfL_app d.ty.wf (by simp [wfL,PT.wf,CE.wf d.body])))))
 split <;> simp [wfL,PT.wf]
theorem PgS.wf (p:PgS):p.pt.wf:=by
 rw [PgS.pt,PT.wf]
 refine ⟨by omega,by omega,?_⟩
 unfold PgS.kids
 exact wfL_app (wfL_rep (by simp [impPT,wfL,PT.wf]) _) (wfL_app (wfL_map DfS.wf _) (by simp [wfL,PT.wf]))
theorem progF_good {S:List UInt8}{d:Nat}{toks:List Tok}{nodes:List Nd}(h:progF S d=.good toks nodes) :
  lexAll S=.ok toks∧∃ p:PgS,nodes=p.pt.em 0 0∧p.ok toks∧p.pt.lv=toks.length∧nodes.length≤2 * toks.length:=by
 unfold progF at h
 cases hl:lexAll S with
 | error x=>rw [hl] at h;cases h
 | ok l =>
  rw [hl] at h
  simp only at h
  have hL:=lexAll_laid hl
  obtain ⟨a,ha⟩:=progM_total hL.endOk d startP
  rw [ha] at h
  simp only [ofSt] at h
  split at h
  ·rename_i hf
   injection h with h1 h2
   subst h1
   obtain ⟨q,he,hok,hlv⟩:=prog_ok hL ha hf
   have h3:=progM_slk ha
   have h4:=progM_wth ha (Nat.zero_le _)
   unfold Slk at h3
   simp only [startP,List.length_nil] at h3
   exact ⟨rfl,q,by rw [← h2,he],hok,hlv,by rw [← h2];omega⟩
  ·cases h
theorem progF_bad {S:List UInt8}{d e a:Nat}(h:progF S d=.bad e a):e≠0:=by
 unfold progF at h
 cases hl:lexAll S with
 | error x =>
  rw [hl] at h
  injection h with h1 h2
  have:=(lexAll_fault hl).2
  omega
 | ok l =>
  rw [hl] at h
  simp only at h
  split at h
  ·injection h with h1 _;omega
  ·unfold ofSt at h
   split at h
   ·cases h
   ·rename_i hf
    injection h with h1 _
    omega
theorem progF_deeper {S:List UInt8}{d d':Nat}{toks:List Tok}{nodes:List Nd}(hdd:d≤d')(h:progF S d=.good toks nodes):progF S d'=.good toks nodes:=by
 unfold progF at h ⊢
 cases hl:lexAll S with
 | error x=>rw [hl] at h;cases h
 | ok l =>
  rw [hl] at h
  simp only at h ⊢
  cases hm:progM l d (gasA l) startP with
  | none=>rw [hm] at h;cases h
  | some st =>
   rw [hm] at h
   simp only at h
   have hs:st.2.fE=0:=by
    unfold ofSt at h
    split at h
    ·assumption
    ·cases h
   rw [progM_deeper hdd hm hs]
   exact h
end Go.Proofs.YtbodlpoomfefcaaGreatDoor
