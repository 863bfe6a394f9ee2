/- Walks and plain laws: ProgPlain, ProgTree, ProgTree2, LexNums. -/
import Derived.Test.YtknicmmigbhpcaaGreatDoorF15
set_option maxHeartbeats 16000000
set_option maxRecDepth 100000
set_option linter.unusedVariables false
set_option linter.unusedSimpArgs false
namespace Go.Proofs.YtknicmmigbhpcaaGreatDoor
def zw:List UInt8:=[112,117,98]
def qh:List UInt8:=[105,109,112,111,114,116]
def Ik:List UInt8:=[102,117,110]
def OB:List UInt8:=[105,110,116]
def yc:List UInt8:=[98,111,111,108]
def jO (toks:List Tok)(st:aB):Int × aB:=aA toks [[58]] st
def wN (toks:List Tok)(st:aB):Int × aB:=aA toks [OB,yc] (jO toks st).2
def dP (toks:List Tok)(st:aB):Int × aB:=bg 5 [(wN toks st).1] (wN toks st).2
def jP (st:aB)(c:Bool):aB:={ st with clause:=c }
def ji (toks:List Tok)(d g:Nat)(st:aB):Option (Int × aB) :=
 (run toks d g (.expr 1) (jP (ay toks st).2 true)).bind fun f =>
  some (bg 6 [(ay toks st).1,f.1,(aA toks [[125]] (jP f.2 st.clause)).1] (aA toks [[125]] (jP f.2 st.clause)).2)
def gQ (toks:List Tok)(d g:Nat)(kids:List Int)(st:aB):Option (List Int × aB) :=
 if (dP toks st).2.fE=0∧aV toks (dP toks st).2 [[123]]=true then
  (ji toks d g (dP toks st).2).bind fun n=>some (kids++[(jO toks st).1,(dP toks st).1,n.1],n.2)
 else some (kids++[(jO toks st).1,(dP toks st).1],(dP toks st).2)
def iW (toks:List Tok)(d g:Nat)(st:aB):Option (Int × aB) :=
 (gQ toks d g [(aQ toks 1 st).1] (aQ toks 1 st).2).bind fun l=>some (bg 4 l.1 l.2)
def nA (toks:List Tok)(st:aB):Int × aB :=
 bg 2 [(ay toks st).1,(aQ toks 1 (ay toks st).2).1,(aA toks [[59]] (aQ toks 1 (ay toks st).2).2).1] (aA toks [[59]] (aQ toks 1 (ay toks st).2).2).2
def mQ (toks:List Tok)(st:aB):List Int × aB:=if aV toks st [zw]=true then ([(ay toks st).1],(ay toks st).2) else ([],st)
def qx (toks:List Tok)(st:aB):Int × aB:=aA toks [Ik] (mQ toks st).2
def jY (toks:List Tok)(st:aB):Int × aB:=aQ toks 1 (qx toks st).2
def iX (toks:List Tok)(st:aB):Int × aB:=aA toks [[40]] (jY toks st).2
def vK (toks:List Tok)(d g:Nat)(st:aB):Option (Int × aB) :=
 (jq toks (iW toks d g) (iX toks st).2).bind fun l =>
  (gQ toks d g ((mQ toks st).1++[(qx toks st).1,(jY toks st).1,(iX toks st).1]++l.1++[(aA toks [[41]] l.2).1]) (aA toks [[41]] l.2).2).bind fun t =>
   (run toks d g (.expr 1) (aA toks [[61]] t.2).2).bind fun f =>
    some (bg 3 (t.1++[(aA toks [[61]] t.2).1,f.1,(aA toks [[59]] f.2).1]) (aA toks [[59]] f.2).2)
def jk (toks:List Tok)(one:aB→Option (Int × aB))(first:List (List UInt8)):Nat→List Int→aB→Option (List Int × aB)
 | 0,kids,st=>some (kids,if st.fE=0∧aV toks st first=true then gG toks 15 st else st)
 | r+1,kids,st=>if st.fE=0∧aV toks st first=true then (one st).bind fun k=>jk toks one first r (kids++[k.1]) k.2 else some (kids,st)
def nZ (toks:List Tok)(d g:Nat)(st:aB):Option (Int × aB) :=
 (jk toks (fun s=>some (nA toks s)) [qh] 16 [] st).bind fun a =>
  (jk toks (vK toks d g) [zw,Ik] 64 [] a.2).bind fun b =>
   some (bg 1 (a.1++b.1++[(aQ toks 5 b.2).1]) (aQ toks 5 b.2).2)
def iK (S:List UInt8)(d:Nat):Zy :=
 match bH S with
 | .error x=>.bad x.1 x.2
 | .ok toks=>match nZ toks d (xZ toks) startP with
  | none=>.bad 99 0
  | some a=>CP toks a.2
theorem zx (toks:List Tok)(st:aB):dB st (dP toks st).2:=((aF _ _ _).trans (aF _ _ _)).trans (aD _ _ _)
theorem Ak {toks:List Tok}{d g:Nat}{st:aB}{r:Int × aB}(h:ji toks d g st=some r):dB st r.2:=by
 unfold ji at h;obtain⟨f,h1,h⟩:=bP h;obtain rfl:=Option.some.inj h;have e1:=aI toks st;have e2:=aP toks d g _ _ _ h1
 have e3:dB st (jP f.2 st.clause):=⟨Nat.le_trans e1.1 e2.1,fun q=>by
  have q1:=e1.2.1 q;have q2:=e2.2.1 (show (ay toks st).2.fE≠0 by rw[q1];exact q)
  exact q2.trans q1,rfl,Nat.le_trans e1.2.2.2 e2.2.2.2⟩
 exact(e3.trans (aF _ _ _)).trans (aD _ _ _)
theorem jl {toks:List Tok}{d g:Nat}{kids:List Int}{st:aB}{r:List Int × aB}(h:gQ toks d g kids st=some r):dB st r.2:=by
 unfold gQ at h
 split at h
 ·obtain⟨n,h1,h⟩:=bP h
  obtain rfl:=Option.some.inj h;exact(zx _ _).trans (Ak h1)
 ·injection h with h;subst h
  exact zx _ _
theorem jQ {toks:List Tok}{d g:Nat}(st:aB)(r:Int × aB)(h:iW toks d g st=some r):dB st r.2:=by
 unfold iW at h;obtain⟨l,h1,h⟩:=bP h;obtain rfl:=Option.some.inj h;exact((dZ _ _ _).trans (jl h1)).trans (aD _ _ _)
theorem Lf (toks:List Tok)(st:aB):dB st (nA toks st).2:=(((aI _ _).trans (dZ _ _ _)).trans (aF _ _ _)).trans (aD _ _ _)
theorem Lg (toks:List Tok)(st:aB):dB st (mQ toks st).2:=by
 unfold mQ
 split
 ·exact aI _ _
 ·exact dB.refl _
theorem CQ (toks:List Tok)(st:aB):dB st (iX toks st).2:=(((Lg _ _).trans (aF _ _ _)).trans (dZ _ _ _)).trans (aF _ _ _)
theorem uw {toks:List Tok}{d g:Nat}(st:aB)(r:Int × aB)(h:vK toks d g st=some r):dB st r.2:=by
 unfold vK at h;obtain⟨l,h1,h⟩:=bP h;obtain⟨t,h2,h⟩:=bP h;obtain⟨f,h3,h⟩:=bP h;obtain rfl:=Option.some.inj h;exact((((((CQ _ _).trans (kT toks _ jQ _ _ h1)).trans (aF _ _ _)).trans (jl h2)).trans (aF _ _ _)).trans (aP _ _ _ _ _ _ h3)).trans ((aF _ _ _).trans (aD _ _ _))
theorem nL {toks:List Tok}{one:aB→Option (Int × aB)}{first:List (List UInt8)}(h1:∀ s k,one s=some k→dB s k.2):∀ (r:Nat) (kids:List Int) (st:aB) (l:List Int × aB),jk toks one first r kids st=some l→dB st l.2
 | 0,kids,st,l,h=>by
  rw[jk] at h;obtain rfl:=Option.some.inj h;show dB st (if _ then _ else _)
  split
  ·exact ow _ _ _
  ·exact dB.refl _
 | r+1,kids,st,l,h=>by
  rw[jk] at h
  split at h
  ·obtain⟨k,hk,h⟩:=bP h
   exact(h1 _ _ hk).trans (nL h1 r _ _ _ h)
  ·injection h with h;subst h
   exact dB.refl _
theorem uy (toks:List Tok)(s:aB)(k:Int × aB)(h:(fun s=>some (nA toks s)) s=some k):dB s k.2:=by
 obtain rfl:=Option.some.inj h;exact Lf _ _
theorem Lh {toks:List Tok}{d g:Nat}{st:aB}{r:Int × aB}(h:ji toks d g st=some r):pR toks st r.2:=by
 unfold ji at h;obtain⟨f,h1,h⟩:=bP h;obtain rfl:=Option.some.inj h;have e2:=lV toks d g _ _ _ h1
 have e3:pR toks st (jP f.2 st.clause):=fun q=>e2 (bX toks st q)
 exact(e3.trans (dO _ _ _)).trans (dx _ _ _)
theorem CS {toks:List Tok}{d g:Nat}{kids:List Int}{st:aB}{r:List Int × aB}(h:gQ toks d g kids st=some r):pR toks st r.2:=by
 have hb:pR toks st (dP toks st).2:=((dO _ _ _).trans (dO _ _ _)).trans (dx _ _ _);unfold gQ at h
 split at h
 ·obtain⟨n,h1,h⟩:=bP h
  obtain rfl:=Option.some.inj h;exact hb.trans (Lh h1)
 ·injection h with h;subst h
  exact hb
theorem OC {toks:List Tok}{d g:Nat}(st:aB)(r:Int × aB)(h:iW toks d g st=some r):pR toks st r.2:=by
 unfold iW at h;obtain⟨l,h1,h⟩:=bP h;obtain rfl:=Option.some.inj h;exact((oF _ _ _).trans (CS h1)).trans (dx _ _ _)
theorem Li (toks:List Tok)(s:aB)(k:Int × aB)(h:(fun s=>some (nA toks s)) s=some k):pR toks s k.2:=by
 obtain rfl:=Option.some.inj h;exact(((bX _ _).trans (oF _ _ _)).trans (dO _ _ _)).trans (dx _ _ _)
theorem OD (toks:List Tok)(st:aB):pR toks st (iX toks st).2:=by
 have hp:pR toks st (mQ toks st).2:=by
  unfold mQ
  split
  ·exact bX _ _
  ·exact pR.refl _
 exact((hp.trans (dO _ _ _)).trans (oF _ _ _)).trans (dO _ _ _)
theorem V7 {toks:List Tok}{d g:Nat}(st:aB)(r:Int × aB)(h:vK toks d g st=some r):pR toks st r.2:=by
 unfold vK at h;obtain⟨l,h1,h⟩:=bP h;obtain⟨t,h2,h⟩:=bP h;obtain⟨f,h3,h⟩:=bP h;obtain rfl:=Option.some.inj h;exact((((((OD _ _).trans (F8 toks _ OC _ _ h1)).trans (dO _ _ _)).trans (CS h2)).trans (dO _ _ _)).trans (lV _ _ _ _ _ _ h3)).trans ((dO _ _ _).trans (dx _ _ _))
theorem CU {toks:List Tok}{one:aB→Option (Int × aB)}{first:List (List UInt8)}(h1:∀ s k,one s=some k→pR toks s k.2):∀ (r:Nat) (kids:List Int) (st:aB) (l:List Int × aB),jk toks one first r kids st=some l→pR toks st l.2
 | 0,kids,st,l,h=>by
  rw[jk] at h;obtain rfl:=Option.some.inj h;show pR toks st (if _ then _ else _)
  split
  ·exact oD _ _ _
  ·exact pR.refl _
 | r+1,kids,st,l,h=>by
  rw[jk] at h
  split at h
  ·obtain⟨k,hk,h⟩:=bP h
   exact(h1 _ _ hk).trans (CU h1 r _ _ _ h)
  ·injection h with h;subst h
   exact pR.refl _
theorem Ga {toks:List Tok}{d g:Nat}{st:aB}{r:Int × aB}(h:nZ toks d g st=some r):pR toks st r.2:=by
 unfold nZ at h;obtain⟨a,h1,h⟩:=bP h;obtain⟨b,h2,h⟩:=bP h;obtain rfl:=Option.some.inj h;exact(((CU (Li toks) _ _ _ _ h1).trans (CU V7 _ _ _ _ h2)).trans (oF _ _ _)).trans (dx _ _ _)
theorem CV {toks:List Tok}{d d' g:Nat}(hdd:d≤d'){st:aB}{r:Int × aB}(h:ji toks d g st=some r)(hr:r.2.fE=0):ji toks d' g st=some r:=by
 unfold ji at h ⊢;obtain⟨f,h1,h⟩:=bP h;obtain rfl:=Option.some.inj h;have h0:(jP f.2 st.clause).fE=0:=((aF _ _ _).trans (aD _ _ _)).zero hr;rw[gM toks d d' hdd g _ _ _ h1 h0,Option.bind_some]
theorem vO {toks:List Tok}{d d' g:Nat}(hdd:d≤d'){kids:List Int}{st:aB}{r:List Int × aB}(h:gQ toks d g kids st=some r)(hr:r.2.fE=0):gQ toks d' g kids st=some r:=by
 unfold gQ at h ⊢
 split at h
 ·rename_i hc
  rw[if_pos hc];obtain⟨n,h1,h⟩:=bP h;obtain rfl:=Option.some.inj h;rw[CV hdd h1 hr,Option.bind_some]
 ·rename_i hc
  rw[if_neg hc];exact h
theorem EY {toks:List Tok}{d d' g:Nat}(hdd:d≤d')(st:aB)(r:Int × aB)(h:iW toks d g st=some r)(hr:r.2.fE=0):iW toks d' g st=some r:=by
 unfold iW at h ⊢;obtain⟨l,h1,h⟩:=bP h;obtain rfl:=Option.some.inj h;rw[vO hdd h1 ((aD _ _ _).zero hr),Option.bind_some]
theorem Lj {toks:List Tok}{d d' g:Nat}(hdd:d≤d')(st:aB)(r:Int × aB)(h:vK toks d g st=some r)(hr:r.2.fE=0):vK toks d' g st=some r:=by
 unfold vK at h ⊢;obtain⟨l,h1,h⟩:=bP h;obtain⟨t,h2,h⟩:=bP h;obtain⟨f,h3,h⟩:=bP h;obtain rfl:=Option.some.inj h;have z3:f.2.fE=0:=((aF _ _ _).trans (aD _ _ _)).zero hr;have z2:t.2.fE=0:=((aF _ _ _).trans (aP _ _ _ _ _ _ h3)).zero z3;have z1:l.2.fE=0:=((aF _ _ _).trans (jl h2)).zero z2;rw[xQ toks _ _ jQ (EY hdd) _ _ h1 z1,Option.bind_some,vO hdd h2 z2,Option.bind_some,gM toks d d' hdd g _ _ _ h3 z3,Option.bind_some]
theorem Al {toks:List Tok}{one one':aB→Option (Int × aB)}{first:List (List UInt8)}(h1:∀ s k,one s=some k→dB s k.2)(h2:∀ s k,one s=some k→k.2.fE=0→one' s=some k):∀ (r:Nat) (kids:List Int) (st:aB) (l:List Int × aB),jk toks one first r kids st=some l→l.2.fE=0→jk toks one' first r kids st=some l
 | 0,kids,st,l,h,_=>by rw[jk] at h ⊢;exact h
 | r+1,kids,st,l,h,hl=>by
  rw[jk] at h ⊢
  split at h
  ·rename_i hc
   rw[if_pos hc];obtain⟨k,hk,h⟩:=bP h;rw[h2 _ _ hk ((nL h1 r _ _ _ h).zero hl),Option.bind_some];exact Al h1 h2 r _ _ _ h hl
  ·rename_i hc
   rw[if_neg hc];exact h
theorem Il {toks:List Tok}{d d' g:Nat}(hdd:d≤d'){st:aB}{r:Int × aB}(h:nZ toks d g st=some r)(hr:r.2.fE=0):nZ toks d' g st=some r:=by
 unfold nZ at h ⊢;obtain⟨a,h1,h⟩:=bP h;obtain⟨b,h2,h⟩:=bP h;obtain rfl:=Option.some.inj h;have z2:b.2.fE=0:=((dZ _ _ _).trans (aD _ _ _)).zero hr;rw[h1,Option.bind_some,Al uw (Lj hdd) _ _ _ _ h2 z2,Option.bind_some]
theorem CW {toks:List Tok}(hE:gV toks)(d:Nat)(st:aB):∃ f,run toks d (xZ toks) (.expr 1) st=some f :=
 jA toks d hE (xZ toks) (.expr 1) st trivial (by simp only[eG,jr,xZ];omega)
theorem EZ {toks:List Tok}(hE:gV toks)(d:Nat)(st:aB):∃ r,ji toks d (xZ toks) st=some r:=by
 obtain⟨f,hf⟩:=CW hE d (jP (ay toks st).2 true);unfold ji;rw[hf];exact⟨_,rfl⟩
theorem yg {toks:List Tok}(hE:gV toks)(d:Nat)(kids:List Int)(st:aB):∃ r,gQ toks d (xZ toks) kids st=some r:=by
 unfold gQ
 split
 ·obtain⟨n,hn⟩:=EZ hE d (dP toks st).2
  rw[hn];exact⟨_,rfl⟩
 ·exact⟨_,rfl⟩
theorem Im {toks:List Tok}(hE:gV toks)(d:Nat)(st:aB):∃ r,iW toks d (xZ toks) st=some r:=by
 obtain⟨l,hl⟩:=yg hE d [(aQ toks 1 st).1] (aQ toks 1 st).2;unfold iW;rw[hl];exact⟨_,rfl⟩
theorem OE {toks:List Tok}(hE:gV toks)(d:Nat)(st:aB):∃ r,vK toks d (xZ toks) st=some r:=by
 have h1:∃ l,jq toks (iW toks d (xZ toks)) (iX toks st).2=some l:=by
  unfold jq
  split
  ·exact⟨_,rfl⟩
  ·exact oJ toks _ 0 (fun s _=>by
    obtain⟨k,hk⟩:=Im hE d s
    exact⟨k,hk,jQ _ _ hk⟩) _ _ _ (.inl (Nat.zero_le _))
 obtain⟨l,h1⟩:=h1;unfold vK;rw[h1,Option.bind_some];obtain⟨t,h2⟩:=yg hE d ((mQ toks st).1++[(qx toks st).1,(jY toks st).1,(iX toks st).1]++l.1++[(aA toks [[41]] l.2).1]) (aA toks [[41]] l.2).2;rw[h2,Option.bind_some];obtain⟨f,h3⟩:=CW hE d (aA toks [[61]] t.2).2;rw[h3,Option.bind_some];exact⟨_,rfl⟩
theorem wO {toks:List Tok}{one:aB→Option (Int × aB)}{first:List (List UInt8)}(h1:∀ s,∃ k,one s=some k):∀ (r:Nat) (kids:List Int) (st:aB),∃ l,jk toks one first r kids st=some l
 | 0,kids,st=>⟨_,rfl⟩
 | r+1,kids,st=>by
  rw[jk]
  split
  ·obtain⟨k,hk⟩:=h1 st
   rw[hk,Option.bind_some];exact wO h1 r _ _
  ·exact⟨_,rfl⟩
theorem Am {toks:List Tok}(hE:gV toks)(d:Nat)(st:aB):∃ r,nZ toks d (xZ toks) st=some r:=by
 obtain⟨a,h1⟩:=wO (toks:=toks) (one:=fun s=>some (nA toks s)) (first:=[qh]) (fun s=>⟨_,rfl⟩) 16 [] st;obtain⟨b,h2⟩:=wO (toks:=toks) (first:=[zw,Ik]) (OE hE d) 64 [] a.2;unfold nZ;rw[h1,Option.bind_some,h2,Option.bind_some];exact⟨_,rfl⟩
theorem Ll {k:Int}{l:List Int}{st:aB}(h:st.fE≠0):(bg k l st).2=st:=by
 unfold bg;rw[if_neg h]
theorem Gc {toks:List Tok}{k:Int}{l:List Int}{ts:List (List UInt8)}{st s3:aB}(h:Slk (aA toks ts st).2 s3)(he:dB (aA toks ts st).2 s3)(hm:(aA toks ts st).1∈l):Slk st (bg k l s3).2:=by
 unfold aA at h he hm
 split at h
 ·rename_i hc
  rw[if_pos hc] at he hm;exact fG toks k l st s3 h hm
 ·rename_i hc
  rw[if_neg hc] at he;have hf:=he.2.1 (lI (by decide) st);have h0:(gG toks 22 st).fE≠0:=lI (by decide) st;rw[Ll (by rw[hf];exact h0)];exact(kY _ _ _).trans h
theorem Gd {toks:List Tok}{k:Int}{l:List Int}{c:Nat}{st s3:aB}(h:Slk (aQ toks c st).2 s3)(he:dB (aQ toks c st).2 s3)(hm:(aQ toks c st).1∈l):Slk st (bg k l s3).2:=by
 unfold aQ at h he hm
 split at h
 ·rename_i hc
  rw[if_pos hc] at he hm;exact fG toks k l st s3 h hm
 ·rename_i hc
  rw[if_neg hc] at he;have hf:=he.2.1 (lI (by decide) st);have h0:(gG toks 22 st).fE≠0:=lI (by decide) st;rw[Ll (by rw[hf];exact h0)];exact(kY _ _ _).trans h
theorem Gf (toks:List Tok)(st:aB):Slk st (dP toks st).2 :=
 (fq _ _ _).trans (Gc (Slk.refl _) (dB.refl _) (List.mem_singleton.2 rfl))
theorem Lm {toks:List Tok}{d g:Nat}{st:aB}{r:Int × aB}(h:ji toks d g st=some r):Slk st r.2:=by
 unfold ji at h;obtain⟨f,h1,h⟩:=bP h;obtain rfl:=Option.some.inj h;have e2:Slk (jP (ay toks st).2 true) f.2:=lU toks d g _ _ _ h1;have e3:Slk (ay toks st).2 (jP f.2 st.clause):=e2;exact fG toks 6 _ st _ (e3.trans (fq _ _ _)) List.mem_cons_self
theorem CX {toks:List Tok}{d g:Nat}{kids:List Int}{st:aB}{r:List Int × aB}(h:gQ toks d g kids st=some r):Slk st r.2∧∀ k∈kids,k∈r.1:=by
 unfold gQ at h
 split at h
 ·obtain⟨n,h1,h⟩:=bP h
  obtain rfl:=Option.some.inj h;exact⟨(Gf _ _).trans (Lm h1),fun k hk=>List.mem_append_left _ hk⟩
 ·obtain rfl:=Option.some.inj h
  exact⟨Gf _ _,fun k hk=>List.mem_append_left _ hk⟩
theorem OG {toks:List Tok}{d g:Nat}(st:aB)(r:Int × aB)(h:iW toks d g st=some r):Slk st r.2:=by
 unfold iW at h;obtain⟨l,h1,h⟩:=bP h;obtain rfl:=Option.some.inj h;obtain⟨h2,h3⟩:=CX h1;exact Gd h2 (jl h1) (h3 _ List.mem_cons_self)
theorem Lp (toks:List Tok)(s:aB)(k:Int × aB)(h:(fun s=>some (nA toks s)) s=some k):Slk s k.2:=by
 obtain rfl:=Option.some.inj h;exact fG toks 2 _ s _ ((uY _ _ _).trans (fq _ _ _)) List.mem_cons_self
theorem V8 {toks:List Tok}{d g:Nat}(st:aB)(r:Int × aB)(h:vK toks d g st=some r):Slk st r.2:=by
 unfold vK at h;obtain⟨l,h1,h⟩:=bP h;obtain⟨t,h2,h⟩:=bP h;obtain⟨f,h3,h⟩:=bP h;obtain rfl:=Option.some.inj h
 have hp:Slk st (mQ toks st).2:=by
  unfold mQ
  split
  ·exact kZ _ _
  ·exact Slk.refl _
 obtain⟨t1,t2⟩:=CX h2;have e1:Slk (qx toks st).2 (aA toks [[59]] f.2).2:=(((((((uY _ _ _).trans (fq _ _ _)).trans (F7 toks _ OG _ _ h1)).trans (fq _ _ _)).trans t1).trans (fq _ _ _)).trans (lU _ _ _ _ _ _ h3)).trans (fq _ _ _);have e2:dB (qx toks st).2 (aA toks [[59]] f.2).2:=(((((((dZ _ _ _).trans (aF _ _ _)).trans (kT toks _ jQ _ _ h1)).trans (aF _ _ _)).trans (jl h2)).trans (aF _ _ _)).trans (aP _ _ _ _ _ _ h3)).trans (aF _ _ _);exact hp.trans (Gc e1 e2 (List.mem_append_left _ (t2 _ (by show (qx toks st).1∈_;simp))))
theorem CY {toks:List Tok}{one:aB→Option (Int × aB)}{first:List (List UInt8)}(h1:∀ s k,one s=some k→Slk s k.2):∀ (r:Nat) (kids:List Int) (st:aB) (l:List Int × aB),jk toks one first r kids st=some l→Slk st l.2
 | 0,kids,st,l,h=>by
  rw[jk] at h;obtain rfl:=Option.some.inj h;show Slk st (if _ then _ else _)
  split
  ·exact kY _ _ _
  ·exact Slk.refl _
 | r+1,kids,st,l,h=>by
  rw[jk] at h
  split at h
  ·obtain⟨k,hk,h⟩:=bP h
   exact(h1 _ _ hk).trans (CY h1 r _ _ _ h)
  ·obtain rfl:=Option.some.inj h
   exact Slk.refl _
theorem Gg {toks:List Tok}{d g:Nat}{st:aB}{r:Int × aB}(h:nZ toks d g st=some r):Slk st r.2:=by
 unfold nZ at h;obtain⟨a,h1,h⟩:=bP h;obtain⟨b,h2,h⟩:=bP h;obtain rfl:=Option.some.inj h;exact((CY (Lp toks) _ _ _ _ h1).trans (CY V8 _ _ _ _ h2)).trans (Gd (Slk.refl _) (dB.refl _) (by simp))
theorem CZ {toks:List Tok}{one:aB→Option (Int × aB)}{first:List (List UInt8)}:∀ (r:Nat) (kids:List Int) (st:aB) (l:List Int × aB),jk toks one first r kids st=some l→l.1.length≤kids.length+r
 | 0,kids,st,l,h=>by
  rw[jk] at h;obtain rfl:=Option.some.inj h;exact Nat.le_refl _
 | r+1,kids,st,l,h=>by
  rw[jk] at h
  split at h
  ·obtain⟨k,hk,h⟩:=bP h
   have:=CZ r _ _ _ h;rw[bC,List.length_singleton] at this;omega
  ·obtain rfl:=Option.some.inj h
   exact Nat.le_add_right _ _
def OH (toks:List Tok)(st:aB)(r:Int × aB)(t:PT):Prop:=eD st [t] r.2∧r.1=((st.nodes.length+t.nd:Nat):Int) - 1∧(st.used<toks.length→r.2.used<toks.length)
theorem UK.p {toks:List Tok}{st:aB}{r:Int × aB}{e:CE}(h:UK toks st r e):OH toks st r e.pt:=⟨h.1,h.2.1,h.2.2.2⟩
theorem eD.V9 {toks:List Tok}{a b:aB}{l:List PT}{k:Nat}{ids:List Int}(h:eD a l b)(aaY:ids=bV a.nodes.length l)(hf:(bg k ids b).2.fE=0)(hu:a.used<toks.length→b.used<toks.length):OH toks a (bg k ids b) (.node k l):=by
 subst aaY;obtain⟨h1,h2⟩:=h.node (p9 hf) k;refine⟨h1,by rw[h2,PT.nd];omega,fun q=>?_⟩;have h3:=h1.used;have h4:=h.used;have h5:=hu q;rw[h3];rw[h4] at h5
 simpa [bJ,PT.lv] using h5
def IG (a:aB)(ids:List Int)(l:List PT)(b:aB):Prop:=eD a l b∧ids=bV a.nodes.length l
theorem IG.append {a b c:aB}{i j:List Int}{l k:List PT}(h:IG a i l b)(h2:IG b j k c):IG a (i++j) (l++k) c :=
 ⟨h.1.append h2.1,by rw[h.2,h2.2,nE,h.1.len]⟩
theorem IG.leaf {a b:aB}{x:Int}(h:eD a [.leaf] b)(hx:x=((a.nodes.length:Nat):Int)):IG a [x] [.leaf] b:=⟨h,by simp[bV,PT.nd,hx]⟩
theorem IG.res {a b:aB}{t:PT}{x:Int}(h:eD a [t] b)(hx:x=((a.nodes.length+t.nd:Nat):Int) - 1):IG a [x] [t] b:=⟨h,by simp[bV,hx]⟩
theorem IG.nil (a:aB):IG a [] [] a:=⟨eD.nil a,rfl⟩
def jR:List PT→List PT
 | []=>[]
 | t :: l=>t :: (match l with | []=>[]|_ :: _=>.leaf :: jR l)
theorem vg (t:PT):jR [t]=[t]:=by rw[jR]
theorem qQ (t s:PT)(l:List PT):jR (t :: s :: l)=t :: .leaf :: jR (s :: l):=by rw[jR]
structure fK where
 cl:Option CE
def fK.pts (t:fK):List PT:=[.leaf,.node 5 [.leaf]]++(match t.cl with|none=>[]|some e=>[.node 6 [.leaf,e.pt,.leaf]])
def fK.ok (toks:List Tok)(u:Nat)(t:fK):Prop:=aH toks (u+1)∈[OB,yc]∧(match t.cl with|none=>True|some e=>e.ok toks true (u+3))
def fK.par (t:fK):PT:=.node 4 (.leaf :: t.pts)
def fK.Lr (toks:List Tok)(u:Nat)(t:fK):Prop:=gL toks u=1∧t.ok toks (u+1)
def wP (toks:List Tok)(u:Nat):List fK→Prop
 | []=>True
 | t :: l=>t.Lr toks u∧wP toks (u+t.par.lv+1) l
structure dG where
 pub:Bool
 kJ:List fK
 ty:fK
 body:CE
def dG.lead (d:dG):List PT:=if d.pub=true then [.leaf] else []
def dG.kids (d:dG):List PT:=d.lead++([.leaf,.leaf,.leaf]++(jR (d.kJ.map fK.par)++([.leaf]++(d.ty.pts++[.leaf,d.body.pt,.leaf]))))
def dG.pt (d:dG):PT:=.node 3 d.kids
def dG.C8 (u:Nat)(d:dG):Nat:=u+bJ d.lead
def dG.at2 (u:Nat)(d:dG):Nat:=d.C8 u+3+bJ (jR (d.kJ.map fK.par))+1
def dG.at3 (u:Nat)(d:dG):Nat:=d.at2 u+bJ d.ty.pts+1
def dG.ok (toks:List Tok)(u:Nat)(d:dG):Prop :=
 (d.pub=true→aH toks u=zw)∧aH toks (d.C8 u)=Ik∧gL toks (d.C8 u+1)=1∧d.kJ.length≤8∧wP toks (d.C8 u+3) d.kJ∧d.ty.ok toks (d.at2 u)∧d.body.ok toks false (d.at3 u)
def fK.marks (toks:List Tok)(u:Nat)(t:fK):Prop:=t.cl≠none→aH toks (u+2)=[123]
def qR (toks:List Tok)(u:Nat):List fK→Prop
 | []=>True
 | t :: l=>t.marks toks (u+1)∧(l≠[]→aH toks (u+t.par.lv)=[44])∧qR toks (u+t.par.lv+1) l
def dG.marks (toks:List Tok)(u:Nat)(d:dG):Prop:=qR toks (d.C8 u+3) d.kJ∧aH toks (d.at2 u - 1)=[41]∧d.ty.marks toks (d.at2 u)
def zy (toks:List Tok)(u:Nat):List dG→Prop
 | []=>True
 | d :: l=>d.marks toks u∧zy toks (u+d.pt.lv) l
def uD:PT:=.node 2 [.leaf,.leaf,.leaf]
def zA (toks:List Tok)(u:Nat):List dG→Prop
 | []=>True
 | d :: l=>d.ok toks u∧zA toks (u+d.pt.lv) l
def OI (toks:List Tok)(u:Nat):Nat→Prop
 | 0=>True
 | n+1=>aH toks u=qh∧gL toks (u+1)=1∧OI toks (u+3) n
structure j4 where
 imps:Nat
 defs:List dG
def j4.kids (p:j4):List PT:=List.replicate p.imps uD++(p.defs.map dG.pt++[.leaf])
def j4.pt (p:j4):PT:=.node 1 p.kids
def j4.marks (toks:List Tok)(p:j4):Prop:=zy toks (3 * p.imps) p.defs
def j4.ok (toks:List Tok)(p:j4):Prop:=p.imps≤16∧p.defs.length≤64∧OI toks 0 p.imps∧zA toks (3 * p.imps) p.defs
theorem SQ {a b:aB}{l:List PT}{c:Bool}(h:eD (jP a c) l b):eD a l (jP b a.clause):=by
 rw[eD] at h ⊢;rw[h]
 rfl
theorem QJ {toks:List Tok}(hE:gV toks){st:aB}(h:(dP toks st).2.fE=0) :
  eD st [.leaf,.node 5 [.leaf]] (dP toks st).2∧[(jO toks st).1,(dP toks st).1]=bV st.nodes.length [.leaf,.node 5 [.leaf]]∧aH toks (st.used+1)∈[OB,yc]∧(st.used<toks.length→(dP toks st).2.used<toks.length):=by
 have h2:=p9 h;obtain⟨b1,b2,b3,b4,b5⟩:=iC hE h2;obtain⟨a1,a2,a3,a4,a5⟩:=iC hE b5;have hr:=b1.V9 (k:=5) (toks:=toks) (ids:=[(wN toks st).1]) (by rw[show (wN toks st).1=_ from b2];simp[bV,PT.nd]) h (fun _=>by have:=b1.used;simp only[bJ,PT.lv] at this;omega);obtain⟨r1,r2,r3⟩:=hr;have u1:=a1.used;have n1:=a1.len;simp only[bJ,PT.lv,dU,PT.nd] at u1 n1;refine⟨a1.append r1,?_,by rw[show st.used+1=(jO toks st).2.used from by rw[show (jO toks st).2.used=_ from u1]];exact b3,fun _=>r3 (by show (aA toks [[58]] st).2.used<_;omega)⟩;rw[show (dP toks st).1=_ from r2,show (jO toks st).1=_ from a2];simp only[bV,PT.nd,dU];rw[show (jO toks st).2.nodes.length=_ from n1]
 congr 1
 ·omega
theorem Ls (b:Nat)(l k:List PT):bV b (l++k)=bV b l++bV (b+dU l) k:=nE b l k
theorem SS {toks:List Tok}(hE:gV toks){d g:Nat}{st:aB}{r:Int × aB}(h:ji toks d g st=some r)(hr:r.2.fE=0)(hn:aV toks st [[123]]=true) :
  ∃ e:CE,OH toks st r (.node 6 [.leaf,e.pt,.leaf])∧e.ok toks true (st.used+1):=by
 unfold ji at h;obtain⟨f,h1,h⟩:=bP h;obtain rfl:=Option.some.inj h;have z1:=p9 hr;obtain⟨m1,m2,m3,m4,m5⟩:=iC hE z1;obtain⟨l1,l2,l3⟩:=iN hE (bq hn);obtain⟨e,e1,e2,e3,e4⟩:=jM toks hE d g _ _ _ h1 m5;have l4:=l1.used;have l5:=l1.len;simp only[bJ,PT.lv,dU,PT.nd] at l4 l5
 have hg2:eD (ay toks st).2 [e.pt] (jP f.2 st.clause):=by
  have:=SQ e1;rw[l1.clause] at this;exact this
 have hg:=(l1.append hg2).append m1;have n2:=hg2.len;have u2:=hg2.used;have hu:=m1.used;simp only[bJ,PT.lv,dU] at n2 u2 hu;refine⟨e,hg.V9 (k:=6) ?_ hr (fun _=>by omega),?_⟩
 ·rw[m2,e2,l2,n2]
  simp only[bV,PT.nd,List.cons_append,List.nil_append]
  show [_,_,_]=[_,_,_]
  have:(jP (ay toks st).2 true).nodes.length=st.nodes.length+1:=l5;rw[this]
  congr 1
  ·omega
  ·congr 1
   congr 1
   omega
 ·have h3:e.ok toks (jP (ay toks st).2 true).clause (jP (ay toks st).2 true).used:=e3
  have:(jP (ay toks st).2 true).used=st.used+1:=l4;rw[this] at h3;exact h3
theorem Lu {toks:List Tok}(hE:gV toks){d g:Nat}{kids:List Int}{st:aB}{r:List Int × aB}(h:gQ toks d g kids st=some r)(hr:r.2.fE=0) :
  ∃ t:fK,eD st t.pts r.2∧r.1=kids++bV st.nodes.length t.pts∧t.ok toks st.used∧(st.used<toks.length→r.2.used<toks.length)∧t.marks toks st.used:=by
 unfold gQ at h
 split at h
 ·rename_i hc
  obtain⟨n,h1,h⟩:=bP h;obtain rfl:=Option.some.inj h;obtain⟨b1,b2,b3,b4⟩:=QJ hE hc.1;obtain⟨e,⟨e1,e2,e3⟩,e4⟩:=SS hE h1 hr hc.2;have u1:=b1.used;have n1:=b1.len;simp only[bJ,PT.lv,dU,PT.nd] at u1 n1;refine⟨⟨some e⟩,b1.append e1,?_,⟨b3,by rw[u1] at e4;exact e4⟩,fun q=>e3 (b4 q),fun _=>by have h8:=iq hc.2;rw[u1] at h8;simpa using h8⟩;show _=kids++bV _ ([.leaf,.node 5 [.leaf]]++[.node 6 [.leaf,e.pt,.leaf]]);rw[Ls,← b2,e2,n1];simp only[bV,PT.nd,dU]
  congr 1
 ·obtain rfl:=Option.some.inj h
  obtain⟨b1,b2,b3,b4⟩:=QJ hE hr;refine⟨⟨none⟩,by simpa [fK.pts] using b1,?_,⟨b3,trivial⟩,b4,fun q=>absurd rfl q⟩;show _=kids++bV _ ([.leaf,.node 5 [.leaf]]++[]);rw[List.append_nil,← b2]
theorem Lv {toks:List Tok}(hE:gV toks){d g:Nat}(st:aB)(r:Int × aB)(h:iW toks d g st=some r)(hr:r.2.fE=0):∃ t:fK,OH toks st r t.par∧t.Lr toks st.used∧t.marks toks (st.used+1):=by
 unfold iW at h;obtain⟨l,h1,h⟩:=bP h;obtain rfl:=Option.some.inj h;have z1:=p9 hr;obtain⟨t,t1,t2,t3,t4,t5⟩:=Lu hE h1 z1;obtain⟨k1,k2,k3,k4,k5⟩:=xH hE (by decide) ((jl h1).zero z1);have u1:=k1.used;have n1:=k1.len;simp only[bJ,PT.lv,dU,PT.nd] at u1 n1;refine⟨t,(k1.append t1).V9 (k:=4) ?_ hr (fun _=>t4 (by omega)),⟨k3,by rw[u1] at t3;exact t3⟩,by rw[u1] at t5;exact t5⟩;rw[t2,k2,n1,Ls];simp[bV,PT.nd,dU]
theorem Gh {toks:List Tok}(hE:gV toks){d g:Nat}:∀ (r:Nat) (kids:List Int) (st:aB) (l:List Int × aB),aU toks (iW toks d g) r kids st=some l→l.2.fE=0 →
  ∃ es:List fK,es≠[]∧es.length≤r∧eD st (jR (es.map fK.par)) l.2∧l.1=kids++bV st.nodes.length (jR (es.map fK.par))∧wP toks st.used es∧(st.used<toks.length→l.2.used<toks.length)∧qR toks st.used es
 | 0,kids,st,l,h,hl=>by
  rw[aU] at h;obtain rfl:=Option.some.inj h
  exfalso
  have hl:(if st.fE=0 then gG toks 15 st else st).fE=0:=hl
  split at hl
  ·exact pY (by decide) hl
  ·rename_i hf;exact hf hl
 | r+1,kids,st,l,h,hl=>by
  rw[aU] at h
  split at h
  ·rename_i hf
   obtain rfl:=Option.some.inj h;exact absurd hl hf
  ·obtain⟨k,hk,h⟩:=bP h
   split at h
   ·rename_i hn
    obtain⟨g1,i1,u1⟩:=iN hE (bq hn.2);obtain⟨e,⟨he1,he2,he4⟩,he3,he5⟩:=Lv hE _ _ hk hn.1;obtain⟨es,hne,hlen,hg,hi,hok,hu,hm⟩:=Gh hE r _ _ _ h hl
    obtain⟨f,es,rfl⟩:∃ f fs,es=f :: fs:=by cases es with
     | nil=>exact absurd rfl hne
     | cons f fs=>exact⟨f,fs,rfl⟩
    have a1:=he1.len;have a2:=he1.used;have b1:=g1.len;have b2:=g1.used;simp only[dU,bJ,PT.nd,PT.lv,Nat.add_zero] at a1 a2 b1 b2;refine⟨e :: f :: es,by simp,by simpa using hlen,?_,?_,?_,fun q=>hu (by have:=he4 q;omega),?_⟩
    ·rw[List.map_cons,List.map_cons,qQ]
     exact(he1.append g1).append hg
    ·rw[hi,List.map_cons (a:=e),List.map_cons (a:=f),qQ,qK,qK,he2,i1,b1,a1]
     simp only[PT.nd,List.append_assoc,List.cons_append,List.nil_append]
     congr 2
     congr 1
     omega
    ·rw[b2,a2] at hok
     exact⟨he3,hok⟩
    ·rw[b2,a2] at hm
     exact⟨he5,fun _=>by have h8:=iq hn.2;rw[a2] at h8;simpa using h8,hm⟩
   ·obtain rfl:=Option.some.inj h
    obtain⟨e,⟨he1,he2,he4⟩,he3,he5⟩:=Lv hE _ _ hk hl;refine⟨[e],by simp,by simp,by rw[List.map_cons,List.map_nil,vg];exact he1,?_,⟨he3,trivial⟩,he4,he5,fun q=>absurd rfl q,trivial⟩;rw[List.map_cons,List.map_nil,vg,qK,he2];simp[bV]
theorem Zz {toks:List Tok}(hE:gV toks){d g:Nat}{st:aB}{l:List Int × aB}(h:jq toks (iW toks d g) st=some l)(hl:l.2.fE=0) :
  ∃ es:List fK,es.length≤8∧eD st (jR (es.map fK.par)) l.2∧l.1=bV st.nodes.length (jR (es.map fK.par))∧wP toks st.used es∧(st.used<toks.length→l.2.used<toks.length)∧qR toks st.used es:=by
 unfold jq at h
 split at h
 ·obtain rfl:=Option.some.inj h
  exact⟨[],by simp,by simpa [jR] using eD.nil st,by simp[jR,bV],trivial,id,trivial⟩
 ·obtain⟨es,_,h1,h2,h3,h4,h5,h6⟩:=Gh hE _ _ _ _ h hl
  exact⟨es,h1,h2,by rw[h3];simp,h4,h5,h6⟩
theorem abo {toks:List Tok}(hE:gV toks){dp g:Nat}(st:aB)(r:Int × aB)(h:vK toks dp g st=some r)(hr:r.2.fE=0)(hc:st.clause=false):∃ d:dG,OH toks st r d.pt∧d.ok toks st.used∧d.marks toks st.used:=by
 unfold vK at h;obtain⟨l,h1,h⟩:=bP h;obtain⟨t,h2,h⟩:=bP h;obtain⟨f,h3,h⟩:=bP h;obtain rfl:=Option.some.inj h;have z1:=p9 hr;obtain⟨m1,m2,m3,m4,m5⟩:=iC hE z1;have z2:=(aP toks dp g _ _ _ h3).zero m5;obtain⟨q1,q2,q3,q4,q5⟩:=iC hE z2;obtain⟨ty,t1,t2,t3,t4,t5⟩:=Lu hE h2 q5;have z3:=(jl h2).zero q5;obtain⟨c1,c2,c3,c4,c5⟩:=iC hE z3;obtain⟨ps,p1,p2,p3,p4,p5,p6⟩:=Zz hE h1 c5;have z4:=(kT toks _ jQ _ _ h1).zero c5;obtain⟨o1,o2,o3,o4,o5⟩:=iC hE (l:=[[40]]) (st:=(jY toks st).2) z4;obtain⟨n1,n2,n3,n4,n5⟩:=xH hE (k:=1) (by decide) (st:=(qx toks st).2) o5;obtain⟨f1,f2,f3,f4,f5⟩:=iC hE (l:=[Ik]) (st:=(mQ toks st).2) n5;obtain⟨b,b1,b2,b3,b4⟩:=jM toks hE dp g _ _ _ h3 m5
 have hp:∃ pub:Bool,eD st (if pub=true then [.leaf] else []) (mQ toks st).2∧(mQ toks st).1=bV st.nodes.length (if pub=true then [.leaf] else [])∧(pub=true→aH toks st.used=zw):=by
  unfold mQ
  split
  ·rename_i hx
   obtain⟨l1,l2,_⟩:=iN hE (bq hx);refine⟨true,by simpa using l1,by simp[bV,PT.nd,l2],fun _=>?_⟩
   simpa using iq hx
  ·exact⟨false,by simpa using eD.nil st,by simp[bV],fun q=>by cases q⟩
 obtain⟨pub,pb1,pb2,pb3⟩:=hp
 have g1:=(pb1.append f1)
 have g2:=(g1.append n1)
 have g3:=(g2.append o1)
 have g4:=(g3.append p2)
 have g5:=(g4.append c1)
 have g6:=(g5.append t1)
 have g7:=(g6.append q1)
 have g8:=(g7.append b1)
 have g9:=(g8.append m1)
 have u0:=pb1.used;have u1:=f1.used;have u2:=n1.used;have u3:=o1.used;have u4:=p2.used;have u5:=c1.used;have u6:=t1.used;have u7:=q1.used;have k8:=g7.clause;simp only[bJ,PT.lv] at u1 u2 u3 u5 u7
 have e3:st.used+bJ (dG.lead ⟨pub,ps,ty,b⟩)+3=(iX toks st).2.used:=by
  rw[show (iX toks st).2.used=_ from u3,show (jY toks st).2.used=_ from u2,show (qx toks st).2.used=_ from u1,u0]
  rfl
 have e2:(dG.mk pub ps ty b).at2 st.used=(aA toks [[41]] l.2).2.used:=by
  rw[u5,u4,show (iX toks st).2.used=_ from u3,show (jY toks st).2.used=_ from u2,show (qx toks st).2.used=_ from u1,u0]
  rfl
 refine⟨⟨pub,ps,ty,b⟩,?_,⟨pb3,?_,?_,p1,?_,?_,?_⟩,?_,?_,?_⟩
 ·have hk:(dG.mk pub ps ty b).kids=(if pub=true then [.leaf] else [])++[.leaf]++[.leaf]++[.leaf]++jR (ps.map fK.par)++[.leaf]++ty.pts++[.leaf]++[b.pt]++[.leaf]:=by
   simp[dG.kids,dG.lead]
  rw[dG.pt,hk];have ig:IG st _ _ _:=(((((((((show IG st _ _ _ from ⟨pb1,pb2⟩).append (IG.leaf f1 f2)).append (IG.leaf n1 n2)).append (IG.leaf o1 o2)).append (show IG _ _ _ _ from ⟨p2,p3⟩)).append (IG.leaf c1 c2)).append (show IG _ _ _ _ from ⟨t1,rfl⟩)).append (IG.leaf q1 q2)).append (IG.res b1 b2)).append (IG.leaf m1 m2);refine g9.V9 (k:=3) ?_ hr (fun _=>by have:=m1.used;simp only[bJ,PT.lv] at this;omega);rw[← ig.2,t2];simp only[List.append_assoc,List.cons_append,List.nil_append]
  rfl
 ·show aH toks (st.used+bJ (dG.lead _))=Ik
  have:st.used+bJ (dG.lead ⟨pub,ps,ty,b⟩)=(mQ toks st).2.used:=u0.symm;rw[this]
  simpa using f3
 ·show gL toks (st.used+bJ (dG.lead _)+1)=1
  have:st.used+bJ (dG.lead ⟨pub,ps,ty,b⟩)+1=(qx toks st).2.used:=by rw[show (qx toks st).2.used=_ from u1,u0];rfl
  rw[this];exact n3
 ·show wP toks (st.used+bJ (dG.lead _)+3) ps
  rw[e3];exact p4
 ·rw[e2]
  exact t3
 ·have:(dG.mk pub ps ty b).at3 st.used=(aA toks [[61]] t.2).2.used:=by
   rw[u7,u6,u5,u4,show (iX toks st).2.used=_ from u3,show (jY toks st).2.used=_ from u2,show (qx toks st).2.used=_ from u1,u0]
   rfl
  rw[this];have hb:b.ok toks (aA toks [[61]] t.2).2.clause (aA toks [[61]] t.2).2.used:=b3;rw[k8,hc] at hb;exact hb
 ·show qR toks (st.used+bJ (dG.lead ⟨pub,ps,ty,b⟩)+3) ps
  rw[e3];exact p6
 ·rw[e2,u5]
  simpa using c3
 ·rw[e2]
  exact t5
def okL {α:Type}(P:α→Nat→Prop)(T:α→PT):Nat→List α→Prop
 | _,[]=>True
 | u,a :: l=>P a u∧okL P T (u+(T a).lv) l
theorem OJ {α:Type}{toks:List Tok}{one:aB→Option (Int × aB)}{first:List (List UInt8)}(T:α→PT)(P:α→Nat→Prop)
  (hone:∀ s k,one s=some k→k.2.fE=0→aV toks s first=true→s.clause=false→∃ a,OH toks s k (T a)∧P a s.used) (hx:∀ s k,one s=some k→dB s k.2) :
  ∀ (r:Nat) (kids:List Int) (st:aB) (l:List Int × aB),jk toks one first r kids st=some l→l.2.fE=0→st.clause=false →
   ∃ zs9:List α,zs9.length≤r∧eD st (zs9.map T) l.2∧l.1=kids++bV st.nodes.length (zs9.map T)∧okL P T st.used zs9∧(st.used<toks.length→l.2.used<toks.length)
 | 0,kids,st,l,h,hl,_=>by
  rw[jk] at h;obtain rfl:=Option.some.inj h;have hl:(if st.fE=0∧aV toks st first=true then gG toks 15 st else st).fE=0:=hl
  split at hl
  ·exact(pY (by decide) hl).elim
  ·rename_i hc
   refine⟨[],by simp,?_,by simp[bV],trivial,?_⟩
   ·show eD st [] (if _ then _ else _)
    rw[if_neg hc];exact eD.nil st
   ·show _→(if _ then _ else _:aB).used<_
    rw[if_neg hc];exact id
 | r+1,kids,st,l,h,hl,hc0=>by
  rw[jk] at h
  split at h
  ·rename_i hc
   obtain⟨k,hk,h⟩:=bP h;have hz:=(nL hx r _ _ _ h).zero hl;obtain⟨a,⟨g1,i1,u1⟩,p1⟩:=hone _ _ hk hz hc.2 hc0;obtain⟨zs9,h1,h2,h3,h4,h5⟩:=OJ T P hone hx r _ _ _ h hl (by rw[g1.clause];exact hc0);have n1:=g1.len;have s1:=g1.used;simp only[dU,bJ,Nat.add_zero] at n1 s1;refine⟨a :: zs9,by simpa using h1,?_,?_,⟨p1,by rw[← s1];exact h4⟩,fun q=>h5 (u1 q)⟩
   ·exact g1.append h2
   ·rw[h3,List.map_cons,bV,i1,n1,List.append_assoc]
    rfl
  ·obtain rfl:=Option.some.inj h
   exact⟨[],by simp,eD.nil st,by simp[bV],trivial,id⟩
theorem SV {toks:List Tok}(hE:gV toks)(st:aB)(k:Int × aB)(h:(fun s=>some (nA toks s)) st=some k)(hf:k.2.fE=0)(hn:aV toks st [qh]=true):∃ _:Unit,OH toks st k uD∧(aH toks st.used=qh∧gL toks (st.used+1)=1):=by
 obtain rfl:=Option.some.inj h;have z1:=p9 (k:=2) (show (bg 2 _ _).2.fE=0 from hf);obtain⟨m1,m2,m3,m4,m5⟩:=iC hE z1;obtain⟨k1,k2,k3,k4,k5⟩:=xH hE (by decide) m5;obtain⟨l1,l2,l3⟩:=iN hE (bq hn);have u1:=l1.used;simp only[bJ,PT.lv] at u1;have ig:IG st _ _ _:=((IG.leaf l1 l2).append (IG.leaf k1 k2)).append (IG.leaf m1 m2);refine⟨(),?_,by simpa using iq hn,by rw[u1] at k3;exact k3⟩;exact ig.1.V9 (k:=2) ig.2 hf (fun _=>by have:=m1.used;simp only[bJ,PT.lv] at this;omega)
theorem map_unit {β:Type}(c:β):∀ l:List Unit,l.map (fun _=>c)=List.replicate l.length c
 | []=>rfl
 | _ :: l=>by rw[List.map_cons,map_unit c l];rfl
theorem QK {toks:List Tok}:∀ (l:List Unit) (u:Nat),okL (fun (_:Unit) u=>aH toks u=qh∧gL toks (u+1)=1) (fun _=>uD) u l→OI toks u l.length
 | [],_,_=>trivial
 | _ :: l,_u,h=>⟨h.1.1,h.1.2,QK l _ h.2⟩
theorem Io {toks:List Tok}:∀ (l:List dG) (u:Nat),okL (fun (d:dG) u=>d.ok toks u∧d.marks toks u) dG.pt u l→zA toks u l∧zy toks u l
 | [],_,_=>⟨trivial,trivial⟩
 | _ :: l,_,h=>⟨⟨h.1.1,(Io l _ h.2).1⟩,h.1.2,(Io l _ h.2).2⟩
theorem Br:∀ n,bJ (List.replicate n uD)=3 * n
 | 0=>rfl
 | n+1=>by
  rw[List.replicate_succ,bJ,Br n];simp only[uD,PT.lv,bJ];omega
theorem QL {T:List UInt8}{p:Nat}{toks:List Tok}(hL:Laid T p toks){d g:Nat}{r:Int × aB}(h:nZ toks d g startP=some r)(hf:r.2.fE=0) :
  ∃ q:j4,r.2.nodes=q.pt.em 0 0∧q.ok toks∧q.pt.lv=toks.length∧q.marks toks:=by
 have hE:=hL.V6;unfold nZ at h;obtain⟨a,h1,h⟩:=bP h;obtain⟨b,h2,h⟩:=bP h;obtain rfl:=Option.some.inj h;have hk:=p9 hf;have hb:=(dZ toks 5 b.2).zero hk;have ha:=(nL uw _ _ _ _ h2).zero hb;obtain⟨us,i1,i2,i3,i4,i5⟩:=OJ (toks:=toks) (fun _:Unit=>uD) (fun _ u=>aH toks u=qh∧gL toks (u+1)=1) (fun s k e1 e2 e3 _=>SV hE s k e1 e2 e3) (uy toks) 16 [] startP a h1 ha rfl;obtain⟨ds,d1,d2,d3,d4,d5⟩:=OJ (toks:=toks) dG.pt (fun d u=>d.ok toks u∧d.marks toks u) (fun s k e1 e2 _ e4=>abo hE s k e1 e2 e4) uw 64 [] a.2 b h2 hb (by rw[i2.clause];rfl);rw[map_unit] at i2 i3
 have hu:a.2.used=3 * us.length:=by
  rw[i2.used,Br];simp[startP]
 have hu':=d5 (i5 hL.some)
 have hku:aQ toks 5 b.2=ay toks b.2∧gL toks b.2.used=5:=by
  unfold aQ at hk ⊢
  by_cases hc:b.2.fE=0∧(bU toks b.2.used).kind=5
  ·rw[if_pos hc]
   exact⟨rfl,hc.2⟩
  ·rw[if_neg hc] at hk
   exact(pY (by decide) hk).elim
 have hlast:=hL.acL hu' hku.2;obtain⟨hl1,hl2⟩:=eD.leaf (toks:=toks) (st:=b.2) (by omega)
 have e1:IG startP a.1 (List.replicate us.length uD) a.2:=⟨i2,i3⟩
 have e2:IG a.2 b.1 (ds.map dG.pt) b.2:=⟨d2,d3⟩
 have ig:=(e1.append e2).append (IG.leaf hl1 hl2);rw[hku.1] at hf hk ⊢;have hn:=ig.1.node hk 1;rw[← ig.2] at hn;have hds:=Io ds _ d4;rw[hu] at hds;refine⟨⟨us.length,ds⟩,?_,⟨i1,d1,?_,hds.1⟩,?_,hds.2⟩
 ·have h18:=hn.1
  simp only[Int.cast_ofNat_Int] at h18;rw[h18];simp[startP,xu,j4.pt,j4.kids]
 ·exact QK us 0 i4
 ·have:=ig.1.used
  rw[hl1.used] at this;simp only[startP,bJ,PT.lv] at this;simp only[j4.pt,PT.lv,j4.kids];rw[← List.append_assoc];omega
theorem qj:∀ {l k:List PT},lD l→lD k→lD (l++k)
 | [],k,_,h=>h
 | t :: l,k,h1,h2=>by
  rw[lD] at h1;rw[List.cons_append,lD];exact⟨h1.1,qj h1.2 h2⟩
theorem Ip {α:Type}{T:α→PT}(h:∀ a,(T a).wf):∀ l:List α,lD (l.map T)
 | []=>by rw[List.map_nil,lD];trivial
 | a :: l=>by rw[List.map_cons,lD];exact⟨h a,Ip h l⟩
theorem QM:∀ {l:List PT},lD l→lD (jR l)
 | [],h=>by rw[jR];exact h
 | [t],h=>by rw[vg];exact h
 | t :: s :: l,h=>by
  rw[lD] at h;rw[qQ,lD,lD,PT.wf];exact⟨h.1,trivial,QM h.2⟩
theorem QN {t:PT}(h:t.wf):∀ n,lD (List.replicate n t)
 | 0=>by rw[List.replicate_zero,lD];trivial
 | n+1=>by rw[List.replicate_succ,lD];exact⟨h,QN h n⟩
theorem fK.wf (t:fK):lD t.pts:=by
 unfold fK.pts
 cases h:t.cl with
 | none=>simp[lD,PT.wf]
 | some e=>simp[lD,PT.wf,CE.wf e]
theorem fK.acM (t:fK):t.par.wf:=by
 unfold fK.par;simp[lD,PT.wf,t.wf]
theorem dG.wf (d:dG):d.pt.wf:=by
 rw[dG.pt,PT.wf];refine⟨by omega,by omega,?_⟩;unfold dG.kids dG.lead;refine qj ?_ (qj (by simp[lD,PT.wf]) (qj (QM (Ip fK.acM _)) (qj (by simp[lD,PT.wf]) (qj d.ty.wf (by simp[lD,PT.wf,CE.wf d.body])))))
 split<;>simp[lD,PT.wf]
theorem j4.wf (p:j4):p.pt.wf:=by
 rw[j4.pt,PT.wf];refine⟨by omega,by omega,?_⟩;unfold j4.kids;exact qj (QN (by simp[uD,lD,PT.wf]) _) (qj (Ip dG.wf _) (by simp[lD,PT.wf]))
theorem OL {S:List UInt8}{d:Nat}{toks:List Tok}{nodes:List Nd}(h:iK S d=.good toks nodes) :
  bH S=.ok toks∧∃ p:j4,nodes=p.pt.em 0 0∧p.ok toks∧p.pt.lv=toks.length∧nodes.length≤2 * toks.length∧p.marks toks:=by
 unfold iK at h
 cases hl:bH S with
 | error x=>rw[hl] at h;cases h
 | ok l =>
  rw[hl] at h;simp only at h;have hL:=iy hl;obtain⟨a,ha⟩:=Am hL.V6 d startP;rw[ha] at h;simp only[CP] at h
  split at h
  ·rename_i hf
   injection h with h1 h2
   subst h1;obtain⟨q,he,hok,hlv,hmk⟩:=QL hL ha hf;have h3:=Gg ha;have h4:=Ga ha (Nat.zero_le _);unfold Slk at h3;simp only[startP,List.length_nil] at h3;exact⟨rfl,q,by rw[← h2,he],hok,hlv,by rw[← h2];omega,hmk⟩
  ·cases h
theorem SX {S:List UInt8}{d e a:Nat}(h:iK S d=.bad e a):e≠0:=by
 unfold iK at h
 cases hl:bH S with
 | error x =>
  rw[hl] at h
  injection h with h1 h2
  have:=(om hl).2;omega
 | ok l =>
  rw[hl] at h;simp only at h
  split at h
  ·injection h with h1 _;omega
  ·unfold CP at h
   split at h
   ·cases h
   ·rename_i hf
    injection h with h1 _
    omega
theorem yh {S:List UInt8}{d d':Nat}{toks:List Tok}{nodes:List Nd}(hdd:d≤d')(h:iK S d=.good toks nodes):iK S d'=.good toks nodes:=by
 unfold iK at h ⊢
 cases hl:bH S with
 | error x=>rw[hl] at h;cases h
 | ok l =>
  rw[hl] at h;simp only at h ⊢
  cases hm:nZ l d (xZ l) startP with
  | none=>rw[hm] at h;cases h
  | some st =>
   rw[hm] at h;simp only at h
   have hs:st.2.fE=0:=by
    unfold CP at h
    split at h
    ·assumption
    ·cases h
   rw[Il hdd hm hs];exact h
def rZ (l:List UInt8):Prop:=fB l=true∧l≠[]∧l.length≤60∧(l.head?=some 48→l.length=1)
theorem OM (c:UInt8):aJ c=(decide (48≤c.toNat) && decide (c.toNat≤57)):=by
 unfold aJ;rw[Bool.eq_iff_iff];simp only[Bool.and_eq_true,decide_eq_true_eq,UInt8.le_iff_toNat_le];exact Iff.rfl
theorem Wh (T:List UInt8)(h:(bG T).1=3)(h0:(bG T).2.2=0):rZ (T.take (bG T).2.1):=by
 cases T with
 | nil=>simp[bG] at h
 | cons c r =>
  rw[bG] at h h0 ⊢
  by_cases hc:bT c=true
  ·rw[if_pos hc] at h
   simp only[iP] at h
   split at h
   ·cases h
   ·split at h<;>cases h
  ·rw[if_neg hc] at h h0 ⊢
   by_cases hd:aJ c=true
   ·rw[if_pos hd] at h h0 ⊢
    simp only[jc] at h h0 ⊢
    split at h
    ·cases h
    ·rename_i yU
     rw[if_neg yU];simp only;have ht:(c :: r).take ((c :: r).takeWhile aJ).length=(c :: r).takeWhile aJ:=(List.prefix_iff_eq_take.1 (List.takeWhile_prefix _)).symm
     have hne:(c :: r).takeWhile aJ≠[]:=by rw[List.takeWhile_cons_of_pos hd];simp
     have hall:∀ x∈(c :: r).takeWhile aJ,aJ x=true:=fun x hx=>by
      have:=List.all_takeWhile (l:=c :: r) (p:=aJ);rw[List.all_eq_true] at this;exact this x hx
     rw[ht];generalize (c :: r).takeWhile aJ=w at yU hne hall;refine⟨?_,hne,by omega,fun q=>?_⟩
     ·rw[fB,List.all_eq_true]
      intro x hx;rw[← OM];exact hall x hx
     ·rw[List.head?_eq_getElem?] at q
      have:=List.length_pos_iff.2 hne
      by_cases h1:1<w.length
      ·exact absurd (.inr ⟨h1,q⟩) yU
      ·omega
   ·rw[if_neg hd,vZ] at h
    split at h<;>cases h
theorem Gi:∀ (n:Nat) (T:List UInt8) (p:Nat) (l:List Tok),nD n T p=.ok l→∀ t∈l,t.kind=3→rZ t.text
 | 0,T,p,l,h,t,ht,hk=>by rw[nD] at h;cases h
 | n+1,T,p,l,h,t,ht,hk=>by
  rw[nD] at h
  try simp only at h
  split at h
  ·cases h
  rename_i h0
  split at h
  ·injection h with h
   subst h;rw[List.mem_singleton] at ht;subst ht;cases hk
  ·split at h
   ·cases h
   ·rename_i l' hl'
    injection h with h
    subst h
    rcases List.mem_cons.1 ht with rfl|ht
    ·exact Wh _ hk (by omega)
    ·exact Gi n _ _ _ hl' t ht hk
theorem ql {S:List UInt8}{l:List Tok}(h:bH S=.ok l):∀ t∈l,t.kind=3→rZ t.text:=by
 unfold bH at h
 split at h
 ·cases h
 ·exact Gi _ _ _ _ h
theorem uE {toks:List Tok}(h:0<toks.length)(u:Nat):bU toks u∈toks:=by
 unfold bU;rw[List.getD_eq_getElem?_getD,List.getElem?_eq_getElem (by omega),Option.getD_some];exact List.getElem_mem _
theorem rZ.dec {l:List UInt8}(h:rZ l):fZ (iQ l)=l:=Vd l h.1 h.2.1 h.2.2.2
theorem vP {S:List UInt8}{l:List Tok}(h:bH S=.ok l):Nz l:=fun u hu =>
 (ql h _ (uE (iy h).some u) hu).dec
end Go.Proofs.YtknicmmigbhpcaaGreatDoor
