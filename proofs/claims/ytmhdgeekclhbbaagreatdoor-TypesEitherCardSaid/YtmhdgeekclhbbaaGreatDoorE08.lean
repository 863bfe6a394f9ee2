/- Walks and plain laws, without a condition. -/
import Derived.Test.YtmhdgeekclhbbaaGreatDoorE07
set_option maxHeartbeats 16000000
set_option maxRecDepth 100000
set_option linter.unusedVariables false
set_option linter.unusedSimpArgs false
namespace Go.Proofs.YtmhdgeekclhbbaaGreatDoor
variable{r:Int × aN}{st s3 a b:aN}{d g d' u N M K:Nat}{ah:List Tok}{l:List Int}{k:Int}{t:PT}{aj:List Nd}{S:aH}{P:PE->Prop}
def CQ:aH:=[112,117,98]
def tQ:aH:=[105,109,112,111,114,116]
def JW:aH:=[102,117,110]
def oh:aH:=[105,110,116]
def jJ:aH:=[98,111,111,108]
def jC (ah:List Tok)(st:aN):Int × aN:=aM ah [[58]] st
def pX (ah:List Tok)(st:aN):Int × aN:=aM ah [oh,jJ] (jC ah st).2
def dS (ah:List Tok)(st:aN):Int × aN:=bM 5 [(pX ah st).1] (pX ah st).2
def lC (st:aN)(c:Bool):aN:={ st with aC:=c }
def iR (ah:List Tok)(d g:Nat)(st:aN):Option (Int × aN) :=
 (run ah d g (.expr 1) (lC (aD ah st).2 true)).bind λf =>
  some (bM 6 [(aD ah st).1,f.1,(aM ah [[125]] (lC f.2 st.aC)).1] (aM ah [[125]] (lC f.2 st.aC)).2)
def gL (ah:List Tok)(d g:Nat)(aA:List Int)(st:aN):Option (List Int × aN) :=
 if (dS ah st).2.fE=0/\bG ah (dS ah st).2 [[123]]=true then
  (iR ah d g (dS ah st).2).bind λn=>some (aA++[(jC ah st).1,(dS ah st).1,n.1],n.2)
 else some (aA++[(jC ah st).1,(dS ah st).1],(dS ah st).2)
def iN (ah:List Tok)(d g:Nat)(st:aN):Option (Int × aN) :=
 (gL ah d g [(bC ah 1 st).1] (bC ah 1 st).2).bind λl=>some (bM 4 l.1 l.2)
def jN (ah:List Tok)(st:aN):Int × aN :=
 bM 2 [(aD ah st).1,(bC ah 1 (aD ah st).2).1,(aM ah [[59]] (bC ah 1 (aD ah st).2).2).1] (aM ah [[59]] (bC ah 1 (aD ah st).2).2).2
def mY (ah:List Tok)(st:aN):List Int × aN:=if bG ah st [CQ]=true then ([(aD ah st).1],(aD ah st).2) else ([],st)
def qO (ah:List Tok)(st:aN):Int × aN:=aM ah [JW] (mY ah st).2
def jW (ah:List Tok)(st:aN):Int × aN:=bC ah 1 (qO ah st).2
def iA (ah:List Tok)(st:aN):Int × aN:=aM ah [[40]] (jW ah st).2
def vZ (ah:List Tok)(d g:Nat)(st:aN):Option (Int × aN) :=
 (jH ah (iN ah d g) (iA ah st).2).bind λl =>
  (gL ah d g ((mY ah st).1++[(qO ah st).1,(jW ah st).1,(iA ah st).1]++l.1++[(aM ah [[41]] l.2).1]) (aM ah [[41]] l.2).2).bind λt =>
   (run ah d g (.expr 1) (aM ah [[61]] t.2).2).bind λf =>
    some (bM 3 (t.1++[(aM ah [[61]] t.2).1,f.1,(aM ah [[59]] f.2).1]) (aM ah [[59]] f.2).2)
def jD (ah:List Tok)(one:aN->Option (Int × aN))(first:List aH):Nat->List Int->aN->Option (List Int × aN)
 | 0,aA,st=>some (aA,if st.fE=0/\bG ah st first=true then gT ah 15 st else st)
 | r+1,aA,st=>if st.fE=0/\bG ah st first=true then (one st).bind λk=>jD ah one first r (aA++[k.1]) k.2 else some (aA,st)
def nV (ah:List Tok)(d g:Nat)(st:aN):Option (Int × aN) :=
 (jD ah (λs=>some (jN ah s)) [tQ] 16 [] st).bind λa =>
  (jD ah (vZ ah d g) [CQ,JW] 64 [] a.2).bind λb =>
   some (bM 1 (a.1++b.1++[(bC ah 5 b.2).1]) (bC ah 5 b.2).2)
def gF (S:aH)(d:Nat):adH :=
 match bV S with
 | .error x=>.bad x.1 x.2
 | .ok ah=>match nV ah d (vX ah) kT with
  | none=>.bad 99 0
  | some a=>CP ah a.2
theorem CS (ah:List Tok)(st:aN):dR st (dS ah st).2:=((aK _ _ _).trans (aK _ _ _)).trans (aI _ _ _)
theorem Ea (h:iR ah d g st=some r):dR st r.2:=by
 unfold iR at h;obtain⟨f,h1,h⟩:=bS h;obtain rfl:=kE h;have e1:=aQ ah st;have e2:=aW ah d g _ _ _ h1
 have e3:dR st (lC f.2 st.aC):=⟨iY e1.1 e2.1,λq=>by
  have q1:=e1.2.1 q;have q2:=e2.2.1 (show (aD ah st).2.fE≠0 by rw[q1];exact q)
  exact q2.trans q1,rfl,iY e1.2.2.2 e2.2.2.2⟩
 exact(e3.trans (aK _ _ _)).trans (aI _ _ _)
theorem iO {aA:List Int}{r:List Int × aN}(h:gL ah d g aA st=some r):dR st r.2:=by
 unfold gL at h
 split at h
 ·obtain⟨n,h1,h⟩:=bS h
  obtain rfl:=kE h;exact(CS _ _).trans (Ea h1)
 ·injection h with h;subst h
  exact CS _ _
theorem jE (st:aN)(r:Int × aN)(h:iN ah d g st=some r):dR st r.2:=by
 unfold iN at h;obtain⟨l,h1,h⟩:=bS h;obtain rfl:=kE h;exact((eu _ _ _).trans (iO h1)).trans (aI _ _ _)
theorem O4 (ah:List Tok)(st:aN):dR st (jN ah st).2:=(((aQ _ _).trans (eu _ _ _)).trans (aK _ _ _)).trans (aI _ _ _)
theorem O8 (ah:List Tok)(st:aN):dR st (mY ah st).2:=by
 unfold mY
 split
 ·exact aQ _ _
 ·exact dR.refl _
theorem GN (ah:List Tok)(st:aN):dR st (iA ah st).2:=(((O8 _ _).trans (aK _ _ _)).trans (eu _ _ _)).trans (aK _ _ _)
theorem r9 (st:aN)(r:Int × aN)(h:vZ ah d g st=some r):dR st r.2:=by
 unfold vZ at h;obtain⟨l,h1,h⟩:=bS h;obtain⟨t,h2,h⟩:=bS h;obtain⟨f,h3,h⟩:=bS h;obtain rfl:=kE h;exact((((((GN _ _).trans (kN ah _ jE _ _ h1)).trans (aK _ _ _)).trans (iO h2)).trans (aK _ _ _)).trans (aW _ _ _ _ _ _ h3)).trans ((aK _ _ _).trans (aI _ _ _))
theorem mK {ah:List Tok}{one:aN->Option (Int × aN)}{first:List aH}(h1:∀ s k,one s=some k->dR s k.2):∀ (r:Nat) (aA:List Int) (st:aN) (l:List Int × aN),jD ah one first r aA st=some l->dR st l.2
 | 0,aA,st,l,h=>by
  rw[jD] at h;obtain rfl:=kE h;show dR st (if _ then _ else _)
  split
  ·exact rH _ _ _
  ·exact dR.refl _
 | r+1,aA,st,l,h=>by
  rw[jD] at h
  split at h
  ·obtain⟨k,hk,h⟩:=bS h
   exact(h1 _ _ hk).trans (mK h1 r _ _ _ h)
  ·injection h with h;subst h
   exact dR.refl _
theorem tT (ah:List Tok)(s:aN)(k:Int × aN)(h:(λs=>some (jN ah s)) s=some k):dR s k.2:=by
 obtain rfl:=kE h;exact O4 _ _
theorem O9 (h:iR ah d g st=some r):tu ah st r.2:=by
 unfold iR at h;obtain⟨f,h1,h⟩:=bS h;obtain rfl:=kE h;have e2:=oH ah d g _ _ _ h1
 have e3:tu ah st (lC f.2 st.aC):=λq=>e2 (dM ah st q)
 exact(e3.trans (eP _ _ _)).trans (dU _ _ _)
theorem GQ {aA:List Int}{r:List Int × aN}(h:gL ah d g aA st=some r):tu ah st r.2:=by
 have hb:tu ah st (dS ah st).2:=((eP _ _ _).trans (eP _ _ _)).trans (dU _ _ _);unfold gL at h
 split at h
 ·obtain⟨n,h1,h⟩:=bS h
  obtain rfl:=kE h;exact hb.trans (O9 h1)
 ·injection h with h;subst h
  exact hb
theorem SY (st:aN)(r:Int × aN)(h:iN ah d g st=some r):tu ah st r.2:=by
 unfold iN at h;obtain⟨l,h1,h⟩:=bS h;obtain rfl:=kE h;exact((rO _ _ _).trans (GQ h1)).trans (dU _ _ _)
theorem Pb (ah:List Tok)(s:aN)(k:Int × aN)(h:(λs=>some (jN ah s)) s=some k):tu ah s k.2:=by
 obtain rfl:=kE h;exact(((dM _ _).trans (rO _ _ _)).trans (eP _ _ _)).trans (dU _ _ _)
theorem Ta (ah:List Tok)(st:aN):tu ah st (iA ah st).2:=by
 have hp:tu ah st (mY ah st).2:=by
  unfold mY
  split
  ·exact dM _ _
  ·exact tu.refl _
 exact((hp.trans (eP _ _ _)).trans (rO _ _ _)).trans (eP _ _ _)
theorem aa1 (st:aN)(r:Int × aN)(h:vZ ah d g st=some r):tu ah st r.2:=by
 unfold vZ at h;obtain⟨l,h1,h⟩:=bS h;obtain⟨t,h2,h⟩:=bS h;obtain⟨f,h3,h⟩:=bS h;obtain rfl:=kE h;exact((((((Ta _ _).trans (KF ah _ SY _ _ h1)).trans (eP _ _ _)).trans (GQ h2)).trans (eP _ _ _)).trans (oH _ _ _ _ _ _ h3)).trans ((eP _ _ _).trans (dU _ _ _))
theorem GR {ah:List Tok}{one:aN->Option (Int × aN)}{first:List aH}(h1:∀ s k,one s=some k->tu ah s k.2):∀ (r:Nat) (aA:List Int) (st:aN) (l:List Int × aN),jD ah one first r aA st=some l->tu ah st l.2
 | 0,aA,st,l,h=>by
  rw[jD] at h;obtain rfl:=kE h;show tu ah st (if _ then _ else _)
  split
  ·exact rM _ _ _
  ·exact tu.refl _
 | r+1,aA,st,l,h=>by
  rw[jD] at h
  split at h
  ·obtain⟨k,hk,h⟩:=bS h
   exact(h1 _ _ hk).trans (GR h1 r _ _ _ h)
  ·injection h with h;subst h
   exact tu.refl _
theorem KJ (h:nV ah d g st=some r):tu ah st r.2:=by
 unfold nV at h;obtain⟨a,h1,h⟩:=bS h;obtain⟨b,h2,h⟩:=bS h;obtain rfl:=kE h;exact(((GR (Pb ah) _ _ _ _ h1).trans (GR aa1 _ _ _ _ h2)).trans (rO _ _ _)).trans (dU _ _ _)
theorem GU (hdd:d<=d')(h:iR ah d g st=some r)(hr:r.2.fE=0):iR ah d' g st=some r:=by
 unfold iR at h |-;obtain⟨f,h1,h⟩:=bS h;obtain rfl:=kE h;have h0:(lC f.2 st.aC).fE=0:=((aK _ _ _).trans (aI _ _ _)).zero hr;rw[iJ ah d d' hdd g _ _ _ h1 h0,ko]
theorem zx (hdd:d<=d'){aA:List Int}{r:List Int × aN}(h:gL ah d g aA st=some r)(hr:r.2.fE=0):gL ah d' g aA st=some r:=by
 unfold gL at h |-
 split at h
 ·rename_i hc
  rw[bq hc];obtain⟨n,h1,h⟩:=bS h;obtain rfl:=kE h;rw[GU hdd h1 hr,ko]
 ·rename_i hc
  rw[aP hc];exact h
theorem JX (hdd:d<=d')(st:aN)(r:Int × aN)(h:iN ah d g st=some r)(hr:r.2.fE=0):iN ah d' g st=some r:=by
 unfold iN at h |-;obtain⟨l,h1,h⟩:=bS h;obtain rfl:=kE h;rw[zx hdd h1 ((aI _ _ _).zero hr),ko]
theorem Pf (hdd:d<=d')(st:aN)(r:Int × aN)(h:vZ ah d g st=some r)(hr:r.2.fE=0):vZ ah d' g st=some r:=by
 unfold vZ at h |-;obtain⟨l,h1,h⟩:=bS h;obtain⟨t,h2,h⟩:=bS h;obtain⟨f,h3,h⟩:=bS h;obtain rfl:=kE h;have z3:f.2.fE=0:=((aK _ _ _).trans (aI _ _ _)).zero hr;have z2:t.2.fE=0:=((aK _ _ _).trans (aW _ _ _ _ _ _ h3)).zero z3;have z1:l.2.fE=0:=((aK _ _ _).trans (iO h2)).zero z2;rw[Bl ah _ _ jE (JX hdd) _ _ h1 z1,ko,zx hdd h2 z2,ko,iJ ah d d' hdd g _ _ _ h3 z3,ko]
theorem Eb {ah:List Tok}{one one':aN->Option (Int × aN)}{first:List aH}(h1:∀ s k,one s=some k->dR s k.2)(h2:∀ s k,one s=some k->k.2.fE=0->one' s=some k):∀ (r:Nat) (aA:List Int) (st:aN) (l:List Int × aN),jD ah one first r aA st=some l->l.2.fE=0->jD ah one' first r aA st=some l
 | 0,aA,st,l,h,_=>by rw[jD] at h |-;exact h
 | r+1,aA,st,l,h,hl=>by
  rw[jD] at h |-
  split at h
  ·rename_i hc
   rw[bq hc];obtain⟨k,hk,h⟩:=bS h;rw[h2 _ _ hk ((mK h1 r _ _ _ h).zero hl),ko];exact Eb h1 h2 r _ _ _ h hl
  ·rename_i hc
   rw[aP hc];exact h
theorem MC (hdd:d<=d')(h:nV ah d g st=some r)(hr:r.2.fE=0):nV ah d' g st=some r:=by
 unfold nV at h |-;obtain⟨a,h1,h⟩:=bS h;obtain⟨b,h2,h⟩:=bS h;obtain rfl:=kE h;have z2:b.2.fE=0:=((eu _ _ _).trans (aI _ _ _)).zero hr;rw[h1,ko,Eb r9 (Pf hdd) _ _ _ _ h2 z2,ko]
theorem GV (hE:iV ah)(d:Nat)(st:aN):∃ f,run ah d (vX ah) (.expr 1) st=some f :=
 kQ ah d hE (vX ah) (.expr 1) st trivial (by simp only[fQ,kH,vX];omega)
theorem JY (hE:iV ah)(d:Nat)(st:aN):∃ r,iR ah d (vX ah) st=some r:=by
 obtain⟨f,hf⟩:=GV hE d (lC (aD ah st).2 true);unfold iR;rw[hf];exact⟨_,rfl⟩
theorem Bv (hE:iV ah)(d:Nat)(aA:List Int)(st:aN):∃ r,gL ah d (vX ah) aA st=some r:=by
 unfold gL
 split
 ·obtain⟨n,hn⟩:=JY hE d (dS ah st).2
  rw[hn];exact⟨_,rfl⟩
 ·exact⟨_,rfl⟩
theorem ME (hE:iV ah)(d:Nat)(st:aN):∃ r,iN ah d (vX ah) st=some r:=by
 obtain⟨l,hl⟩:=Bv hE d [(bC ah 1 st).1] (bC ah 1 st).2;unfold iN;rw[hl];exact⟨_,rfl⟩
theorem Tc (hE:iV ah)(d:Nat)(st:aN):∃ r,vZ ah d (vX ah) st=some r:=by
 have h1:∃ l,jH ah (iN ah d (vX ah)) (iA ah st).2=some l:=by
  unfold jH
  split
  ·exact⟨_,rfl⟩
  ·exact rU ah _ 0 (λs _=>by
    obtain⟨k,hk⟩:=ME hE d s
    exact⟨k,hk,jE _ _ hk⟩) _ _ _ (.inl (mD _))
 obtain⟨l,h1⟩:=h1;unfold vZ;rw[h1,ko];obtain⟨t,h2⟩:=Bv hE d ((mY ah st).1++[(qO ah st).1,(jW ah st).1,(iA ah st).1]++l.1++[(aM ah [[41]] l.2).1]) (aM ah [[41]] l.2).2;rw[h2,ko];obtain⟨f,h3⟩:=GV hE d (aM ah [[61]] t.2).2;rw[h3,ko];exact⟨_,rfl⟩
theorem zY {ah:List Tok}{one:aN->Option (Int × aN)}{first:List aH}(h1:∀ s,∃ k,one s=some k):∀ (r:Nat) (aA:List Int) (st:aN),∃ l,jD ah one first r aA st=some l
 | 0,aA,st=>⟨_,rfl⟩
 | r+1,aA,st=>by
  rw[jD]
  split
  ·obtain⟨k,hk⟩:=h1 st
   rw[hk,ko];exact zY h1 r _ _
  ·exact⟨_,rfl⟩
theorem Ec (hE:iV ah)(d:Nat)(st:aN):∃ r,nV ah d (vX ah) st=some r:=by
 obtain⟨a,h1⟩:=zY (ah:=ah) (one:=λs=>some (jN ah s)) (first:=[tQ]) (λs=>⟨_,rfl⟩) 16 [] st;obtain⟨b,h2⟩:=zY (ah:=ah) (first:=[CQ,JW]) (Tc hE d) 64 [] a.2;unfold nV;rw[h1,ko,h2,ko];exact⟨_,rfl⟩
theorem Pg (h:st.fE≠0):(bM k l st).2=st:=by
 unfold bM;rw[aP h]
theorem KL {ts:List aH}(h:og (aM ah ts st).2 s3)(he:dR (aM ah ts st).2 s3)(hm:(aM ah ts st).1∈l):og st (bM k l s3).2:=by
 unfold aM at h he hm
 split at h
 ·rename_i hc
  rw[bq hc] at he hm;exact gK ah k l st s3 h hm
 ·rename_i hc
  rw[aP hc] at he;have hf:=he.2.1 (iH (by decide) st);have h0:(gT ah 22 st).fE≠0:=iH (by decide) st;rw[Pg (by rw[hf];exact h0)];exact(nT _ _ _).trans h
theorem KM {c:Nat}(h:og (bC ah c st).2 s3)(he:dR (bC ah c st).2 s3)(hm:(bC ah c st).1∈l):og st (bM k l s3).2:=by
 unfold bC at h he hm
 split at h
 ·rename_i hc
  rw[bq hc] at he hm;exact gK ah k l st s3 h hm
 ·rename_i hc
  rw[aP hc] at he;have hf:=he.2.1 (iH (by decide) st);have h0:(gT ah 22 st).fE≠0:=iH (by decide) st;rw[Pg (by rw[hf];exact h0)];exact(nT _ _ _).trans h
theorem KN (ah:List Tok)(st:aN):og st (dS ah st).2 :=
 (gy _ _ _).trans (KL (og.refl _) (dR.refl _) (DN.2 rfl))
theorem Ph (h:iR ah d g st=some r):og st r.2:=by
 unfold iR at h;obtain⟨f,h1,h⟩:=bS h;obtain rfl:=kE h;have e2:og (lC (aD ah st).2 true) f.2:=oG ah d g _ _ _ h1;have e3:og (aD ah st).2 (lC f.2 st.aC):=e2;exact gK ah 6 _ st _ (e3.trans (gy _ _ _)) xq
theorem GX {aA:List Int}{r:List Int × aN}(h:gL ah d g aA st=some r):og st r.2/\∀ k∈aA,k∈r.1:=by
 unfold gL at h
 split at h
 ·obtain⟨n,h1,h⟩:=bS h
  obtain rfl:=kE h;exact⟨(KN _ _).trans (Ph h1),λk hk=>abp _ hk⟩
 ·obtain rfl:=kE h
  exact⟨KN _ _,λk hk=>abp _ hk⟩
theorem Td (st:aN)(r:Int × aN)(h:iN ah d g st=some r):og st r.2:=by
 unfold iN at h;obtain⟨l,h1,h⟩:=bS h;obtain rfl:=kE h;obtain⟨h2,h3⟩:=GX h1;exact KM h2 (iO h1) (h3 _ xq)
theorem Pj (ah:List Tok)(s:aN)(k:Int × aN)(h:(λs=>some (jN ah s)) s=some k):og s k.2:=by
 obtain rfl:=kE h;exact gK ah 2 _ s _ ((yM _ _ _).trans (gy _ _ _)) xq
theorem aa2 (st:aN)(r:Int × aN)(h:vZ ah d g st=some r):og st r.2:=by
 unfold vZ at h;obtain⟨l,h1,h⟩:=bS h;obtain⟨t,h2,h⟩:=bS h;obtain⟨f,h3,h⟩:=bS h;obtain rfl:=kE h
 have hp:og st (mY ah st).2:=by
  unfold mY
  split
  ·exact nU _ _
  ·exact og.refl _
 obtain⟨t1,t2⟩:=GX h2;have e1:og (qO ah st).2 (aM ah [[59]] f.2).2:=(((((((yM _ _ _).trans (gy _ _ _)).trans (KE ah _ Td _ _ h1)).trans (gy _ _ _)).trans t1).trans (gy _ _ _)).trans (oG _ _ _ _ _ _ h3)).trans (gy _ _ _);have e2:dR (qO ah st).2 (aM ah [[59]] f.2).2:=(((((((eu _ _ _).trans (aK _ _ _)).trans (kN ah _ jE _ _ h1)).trans (aK _ _ _)).trans (iO h2)).trans (aK _ _ _)).trans (aW _ _ _ _ _ _ h3)).trans (aK _ _ _);exact hp.trans (KL e1 e2 (abp _ (t2 _ (by show (qO ah st).1∈_;simp))))
theorem GY {ah:List Tok}{one:aN->Option (Int × aN)}{first:List aH}(h1:∀ s k,one s=some k->og s k.2):∀ (r:Nat) (aA:List Int) (st:aN) (l:List Int × aN),jD ah one first r aA st=some l->og st l.2
 | 0,aA,st,l,h=>by
  rw[jD] at h;obtain rfl:=kE h;show og st (if _ then _ else _)
  split
  ·exact nT _ _ _
  ·exact og.refl _
 | r+1,aA,st,l,h=>by
  rw[jD] at h
  split at h
  ·obtain⟨k,hk,h⟩:=bS h
   exact(h1 _ _ hk).trans (GY h1 r _ _ _ h)
  ·obtain rfl:=kE h
   exact og.refl _
theorem KO (h:nV ah d g st=some r):og st r.2:=by
 unfold nV at h;obtain⟨a,h1,h⟩:=bS h;obtain⟨b,h2,h⟩:=bS h;obtain rfl:=kE h;exact((GY (Pj ah) _ _ _ _ h1).trans (GY aa2 _ _ _ _ h2)).trans (KM (og.refl _) (dR.refl _) (by simp))
theorem GZ {ah:List Tok}{one:aN->Option (Int × aN)}{first:List aH}:∀ (r:Nat) (aA:List Int) (st:aN) (l:List Int × aN),jD ah one first r aA st=some l->l.1.length<=aA.length+r
 | 0,aA,st,l,h=>by
  rw[jD] at h;obtain rfl:=kE h;exact bI _
 | r+1,aA,st,l,h=>by
  rw[jD] at h
  split at h
  ·obtain⟨k,hk,h⟩:=bS h
   have:=GZ r _ _ _ h;rw[bQ,List.length_singleton] at this;omega
  ·obtain rfl:=kE h
   exact Nat.le_add_right _ _
def Te (ah:List Tok)(st:aN)(r:Int × aN)(t:PT):Prop:=fK st [t] r.2/\r.1=((st.aj.length+t.nd:Nat):Int) - 1/\(st.used<ah.length->r.2.used<ah.length)
theorem YL.p {e:CE}(h:YL ah st r e):Te ah st r e.pt:=⟨h.1,h.2.1,h.2.2.2⟩
theorem fK.aa3 {l:List PT}{k:Nat}{ids:List Int}(h:fK a l b)(ae4:ids=dJ a.aj.length l)(hf:(bM k ids b).2.fE=0)(hu:a.used<ah.length->b.used<ah.length):Te ah a (bM k ids b) (.node k l):=by
 subst ae4;obtain⟨h1,h2⟩:=h.node (tL hf) k;refine⟨h1,by rw[h2,PT.nd];omega,λq=>?_⟩;have h3:=h1.used;have h4:=h.used;have h5:=hu q;rw[h3];rw[h4] at h5
 simpa [cO,PT.lv] using h5
def IG (a:aN)(ids:List Int)(l:List PT)(b:aN):Prop:=fK a l b/\ids=dJ a.aj.length l
theorem IG.append {a b c:aN}{i j:List Int}{l k:List PT}(h:IG a i l b)(h2:IG b j k c):IG a (i++j) (l++k) c :=
 ⟨h.1.append h2.1,by rw[h.2,h2.2,qA,h.1.len]⟩
theorem IG.leaf {a b:aN}{x:Int}(h:fK a [.leaf] b)(hx:x=((a.aj.length:Nat):Int)):IG a [x] [.leaf] b:=⟨h,by simp[dJ,PT.nd,hx]⟩
theorem IG.res {x:Int}(h:fK a [t] b)(hx:x=((a.aj.length+t.nd:Nat):Int) - 1):IG a [x] [t] b:=⟨h,by simp[dJ,hx]⟩
theorem IG.nil (a:aN):IG a [] [] a:=⟨fK.nil a,rfl⟩
def lN:List PT->List PT
 | []=>[]
 | t :: l=>t :: (match l with | []=>[]|_ :: _=>.leaf :: lN l)
theorem yO (t:PT):lN [t]=[t]:=by rw[lN]
theorem uW (t s:PT)(l:List PT):lN (t :: s :: l)=t :: .leaf :: lN (s :: l):=by rw[lN]
structure gN where
 cl:Option CE
def gN.pts (t:gN):List PT:=[.leaf,.node 5 [.leaf]]++(match t.cl with|none=>[]|some e=>[.node 6 [.leaf,e.pt,.leaf]])
def gN.ok (ah:List Tok)(u:Nat)(t:gN):Prop:=aJ ah (u+1)∈[oh,jJ]/\(match t.cl with|none=>True|some e=>e.ok ah true (u+3))
def gN.par (t:gN):PT:=.node 4 (.leaf :: t.pts)
def gN.Pk (ah:List Tok)(u:Nat)(t:gN):Prop:=gq ah u=1/\t.ok ah (u+1)
def zZ (ah:List Tok)(u:Nat):List gN->Prop
 | []=>True
 | t :: l=>t.Pk ah u/\zZ ah (u+t.par.lv+1) l
structure dY where
 pub:Bool
 mG:List gN
 ty:gN
 body:CE
def dY.lead (d:dY):List PT:=if d.pub=true then [.leaf] else []
def dY.aA (d:dY):List PT:=d.lead++([.leaf,.leaf,.leaf]++(lN (d.mG.map gN.par)++([.leaf]++(d.ty.pts++[.leaf,d.body.pt,.leaf]))))
def dY.pt (d:dY):PT:=.node 3 d.aA
def dY.G5 (u:Nat)(d:dY):Nat:=u+cO d.lead
def dY.at2 (u:Nat)(d:dY):Nat:=d.G5 u+3+cO (lN (d.mG.map gN.par))+1
def dY.at3 (u:Nat)(d:dY):Nat:=d.at2 u+cO d.ty.pts+1
def dY.ok (ah:List Tok)(u:Nat)(d:dY):Prop :=
 (d.pub=true->aJ ah u=CQ)/\aJ ah (d.G5 u)=JW/\gq ah (d.G5 u+1)=1/\d.mG.length<=8/\zZ ah (d.G5 u+3) d.mG/\d.ty.ok ah (d.at2 u)/\d.body.ok ah false (d.at3 u)
def gN.marks (ah:List Tok)(u:Nat)(t:gN):Prop:=t.cl≠none->aJ ah (u+2)=[123]
def uX (ah:List Tok)(u:Nat):List gN->Prop
 | []=>True
 | t :: l=>t.marks ah (u+1)/\(l≠[]->aJ ah (u+t.par.lv)=[44])/\uX ah (u+t.par.lv+1) l
def dY.marks (ah:List Tok)(u:Nat)(d:dY):Prop:=uX ah (d.G5 u+3) d.mG/\aJ ah (d.at2 u - 1)=[41]/\d.ty.marks ah (d.at2 u)
def CU (ah:List Tok)(u:Nat):List dY->Prop
 | []=>True
 | d :: l=>d.marks ah u/\CU ah (u+d.pt.lv) l
def xP:PT:=.node 2 [.leaf,.leaf,.leaf]
def CV (ah:List Tok)(u:Nat):List dY->Prop
 | []=>True
 | d :: l=>d.ok ah u/\CV ah (u+d.pt.lv) l
def Tf (ah:List Tok)(u:Nat):Nat->Prop
 | 0=>True
 | n+1=>aJ ah u=tQ/\gq ah (u+1)=1/\Tf ah (u+3) n
structure lD where
 imps:Nat
 defs:List dY
def lD.aA (p:lD):List PT:=List.replicate p.imps xP++(p.defs.map dY.pt++[.leaf])
def lD.pt (p:lD):PT:=.node 1 p.aA
def lD.marks (ah:List Tok)(p:lD):Prop:=CU ah (3 * p.imps) p.defs
def lD.ok (ah:List Tok)(p:lD):Prop:=p.imps<=16/\p.defs.length<=64/\Tf ah 0 p.imps/\CV ah (3 * p.imps) p.defs
theorem Xb {l:List PT}{c:Bool}(h:fK (lC a c) l b):fK a l (lC b a.aC):=by
 rw[fK] at h |-;rw[h]
 rfl
theorem Vg (hE:iV ah)(h:(dS ah st).2.fE=0) :
  fK st [.leaf,.node 5 [.leaf]] (dS ah st).2/\[(jC ah st).1,(dS ah st).1]=dJ st.aj.length [.leaf,.node 5 [.leaf]]/\aJ ah (st.used+1)∈[oh,jJ]/\(st.used<ah.length->(dS ah st).2.used<ah.length):=by
 have h2:=tL h;obtain⟨b1,b2,b3,b4,b5⟩:=jm hE h2;obtain⟨a1,a2,a3,a4,a5⟩:=jm hE b5;have hr:=b1.aa3 (k:=5) (ah:=ah) (ids:=[(pX ah st).1]) (by rw[show (pX ah st).1=_ from b2];simp[dJ,PT.nd]) h (λ_=>by have:=b1.used;simp only[cO,PT.lv] at this;omega);obtain⟨r1,r2,r3⟩:=hr;have u1:=a1.used;have n1:=a1.len;simp only[cO,PT.lv,fC,PT.nd] at u1 n1;refine⟨a1.append r1,?_,by rw[show st.used+1=(jC ah st).2.used from by rw[show (jC ah st).2.used=_ from u1]];exact b3,λ_=>r3 (by show (aM ah [[58]] st).2.used<_;omega)⟩;rw[show (dS ah st).1=_ from r2,show (jC ah st).1=_ from a2];simp only[dJ,PT.nd,fC];rw[show (jC ah st).2.aj.length=_ from n1]
 congr 1
 ·omega
theorem Pm (b:Nat)(l k:List PT):dJ b (l++k)=dJ b l++dJ (b+fC l) k:=qA b l k
theorem Xc (hE:iV ah)(h:iR ah d g st=some r)(hr:r.2.fE=0)(hn:bG ah st [[123]]=true) :
  ∃ e:CE,Te ah st r (.node 6 [.leaf,e.pt,.leaf])/\e.ok ah true (st.used+1):=by
 unfold iR at h;obtain⟨f,h1,h⟩:=bS h;obtain rfl:=kE h;have z1:=tL hr;obtain⟨m1,m2,m3,m4,m5⟩:=jm hE z1;obtain⟨l1,l2,l3⟩:=jL hE (bO hn);obtain⟨e,e1,e2,e3,e4⟩:=lK ah hE d g _ _ _ h1 m5;have l4:=l1.used;have l5:=l1.len;simp only[cO,PT.lv,fC,PT.nd] at l4 l5
 have hg2:fK (aD ah st).2 [e.pt] (lC f.2 st.aC):=by
  have:=Xb e1;rw[l1.aC] at this;exact this
 have hg:=(l1.append hg2).append m1;have n2:=hg2.len;have u2:=hg2.used;have hu:=m1.used;simp only[cO,PT.lv,fC] at n2 u2 hu;refine⟨e,hg.aa3 (k:=6) ?_ hr (λ_=>by omega),?_⟩
 ·rw[m2,e2,l2,n2]
  simp only[dJ,PT.nd,kF,qW]
  show [_,_,_]=[_,_,_]
  have:(lC (aD ah st).2 true).aj.length=st.aj.length+1:=l5;rw[this]
  congr 1
  ·omega
  ·congr 1
   congr 1
   omega
 ·have h3:e.ok ah (lC (aD ah st).2 true).aC (lC (aD ah st).2 true).used:=e3
  have:(lC (aD ah st).2 true).used=st.used+1:=l4;rw[this] at h3;exact h3
theorem Pn (hE:iV ah){aA:List Int}{r:List Int × aN}(h:gL ah d g aA st=some r)(hr:r.2.fE=0) :
  ∃ t:gN,fK st t.pts r.2/\r.1=aA++dJ st.aj.length t.pts/\t.ok ah st.used/\(st.used<ah.length->r.2.used<ah.length)/\t.marks ah st.used:=by
 unfold gL at h
 split at h
 ·rename_i hc
  obtain⟨n,h1,h⟩:=bS h;obtain rfl:=kE h;obtain⟨b1,b2,b3,b4⟩:=Vg hE hc.1;obtain⟨e,⟨e1,e2,e3⟩,e4⟩:=Xc hE h1 hr hc.2;have u1:=b1.used;have n1:=b1.len;simp only[cO,PT.lv,fC,PT.nd] at u1 n1;refine⟨⟨some e⟩,b1.append e1,?_,⟨b3,by rw[u1] at e4;exact e4⟩,λq=>e3 (b4 q),λ_=>by have h8:=jg hc.2;rw[u1] at h8;simpa using h8⟩;show _=aA++dJ _ ([.leaf,.node 5 [.leaf]]++[.node 6 [.leaf,e.pt,.leaf]]);rw[Pm,<- b2,e2,n1];simp only[dJ,PT.nd,fC]
  congr 1
 ·obtain rfl:=kE h
  obtain⟨b1,b2,b3,b4⟩:=Vg hE hr;refine⟨⟨none⟩,by simpa [gN.pts] using b1,?_,⟨b3,trivial⟩,b4,λq=>absurd rfl q⟩;show _=aA++dJ _ ([.leaf,.node 5 [.leaf]]++[]);rw[List.append_nil,<- b2]
theorem Po (hE:iV ah)(st:aN)(r:Int × aN)(h:iN ah d g st=some r)(hr:r.2.fE=0):∃ t:gN,Te ah st r t.par/\t.Pk ah st.used/\t.marks ah (st.used+1):=by
 unfold iN at h;obtain⟨l,h1,h⟩:=bS h;obtain rfl:=kE h;have z1:=tL hr;obtain⟨t,t1,t2,t3,t4,t5⟩:=Pn hE h1 z1;obtain⟨k1,k2,k3,k4,k5⟩:=Bc hE (by decide) ((iO h1).zero z1);have u1:=k1.used;have n1:=k1.len;simp only[cO,PT.lv,fC,PT.nd] at u1 n1;refine⟨t,(k1.append t1).aa3 (k:=4) ?_ hr (λ_=>t4 (by omega)),⟨k3,by rw[u1] at t3;exact t3⟩,by rw[u1] at t5;exact t5⟩;rw[t2,k2,n1,Pm];simp[dJ,PT.nd,fC]
theorem KP {ah:List Tok}(hE:iV ah){d g:Nat}:∀ (r:Nat) (aA:List Int) (st:aN) (l:List Int × aN),bD ah (iN ah d g) r aA st=some l->l.2.fE=0 ->
  ∃ es:List gN,es≠[]/\es.length<=r/\fK st (lN (es.map gN.par)) l.2/\l.1=aA++dJ st.aj.length (lN (es.map gN.par))/\zZ ah st.used es/\(st.used<ah.length->l.2.used<ah.length)/\uX ah st.used es
 | 0,aA,st,l,h,hl=>by
  rw[bD] at h;obtain rfl:=kE h
  exfalso
  have hl:(if st.fE=0 then gT ah 15 st else st).fE=0:=hl
  split at hl
  ·exact tK (by decide) hl
  ·rename_i hf;exact hf hl
 | r+1,aA,st,l,h,hl=>by
  rw[bD] at h
  split at h
  ·rename_i hf
   obtain rfl:=kE h;exact absurd hl hf
  ·obtain⟨k,hk,h⟩:=bS h
   split at h
   ·rename_i hn
    obtain⟨g1,i1,u1⟩:=jL hE (bO hn.2);obtain⟨e,⟨he1,he2,he4⟩,he3,he5⟩:=Po hE _ _ hk hn.1;obtain⟨es,hne,hlen,hg,hi,hok,hu,hm⟩:=KP hE r _ _ _ h hl
    obtain⟨f,es,rfl⟩:∃ f fs,es=f :: fs:=by cases es with
     | nil=>exact absurd rfl hne
     | cons f fs=>exact⟨f,fs,rfl⟩
    have a1:=he1.len;have a2:=he1.used;have b1:=g1.len;have b2:=g1.used;simp only[fC,cO,PT.nd,PT.lv,qp] at a1 a2 b1 b2;refine⟨e :: f :: es,by simp,by simpa using hlen,?_,?_,?_,λq=>hu (by have:=he4 q;omega),?_⟩
    ·rw[mE,mE,uW]
     exact(he1.append g1).append hg
    ·rw[hi,mE (a:=e),mE (a:=f),uW,uQ,uQ,he2,i1,b1,a1]
     simp only[PT.nd,om,kF,qW]
     congr 2
     congr 1
     omega
    ·rw[b2,a2] at hok
     exact⟨he3,hok⟩
    ·rw[b2,a2] at hm
     exact⟨he5,λ_=>by have h8:=jg hn.2;rw[a2] at h8;simpa using h8,hm⟩
   ·obtain rfl:=kE h
    obtain⟨e,⟨he1,he2,he4⟩,he3,he5⟩:=Po hE _ _ hk hl;refine⟨[e],by simp,by simp,by rw[mE,List.map_nil,yO];exact he1,?_,⟨he3,trivial⟩,he4,he5,λq=>absurd rfl q,trivial⟩;rw[mE,List.map_nil,yO,uQ,he2];simp[dJ]
theorem adI (hE:iV ah){l:List Int × aN}(h:jH ah (iN ah d g) st=some l)(hl:l.2.fE=0) :
  ∃ es:List gN,es.length<=8/\fK st (lN (es.map gN.par)) l.2/\l.1=dJ st.aj.length (lN (es.map gN.par))/\zZ ah st.used es/\(st.used<ah.length->l.2.used<ah.length)/\uX ah st.used es:=by
 unfold jH at h
 split at h
 ·obtain rfl:=kE h
  exact⟨[],by simp,by simpa [lN] using fK.nil st,by simp[lN,dJ],trivial,id,trivial⟩
 ·obtain⟨es,_,h1,h2,h3,h4,h5,h6⟩:=KP hE _ _ _ _ h hl
  exact⟨es,h1,h2,by rw[h3];simp,h4,h5,h6⟩
theorem afn (hE:iV ah){dp:Nat}(st:aN)(r:Int × aN)(h:vZ ah dp g st=some r)(hr:r.2.fE=0)(hc:st.aC=false):∃ d:dY,Te ah st r d.pt/\d.ok ah st.used/\d.marks ah st.used:=by
 unfold vZ at h;obtain⟨l,h1,h⟩:=bS h;obtain⟨t,h2,h⟩:=bS h;obtain⟨f,h3,h⟩:=bS h;obtain rfl:=kE h;have z1:=tL hr;obtain⟨m1,m2,m3,m4,m5⟩:=jm hE z1;have z2:=(aW ah dp g _ _ _ h3).zero m5;obtain⟨q1,q2,q3,q4,q5⟩:=jm hE z2;obtain⟨ty,t1,t2,t3,t4,t5⟩:=Pn hE h2 q5;have z3:=(iO h2).zero q5;obtain⟨c1,c2,c3,c4,c5⟩:=jm hE z3;obtain⟨ps,p1,p2,p3,p4,p5,p6⟩:=adI hE h1 c5;have z4:=(kN ah _ jE _ _ h1).zero c5;obtain⟨o1,o2,o3,o4,o5⟩:=jm hE (l:=[[40]]) (st:=(jW ah st).2) z4;obtain⟨n1,n2,n3,n4,n5⟩:=Bc hE (k:=1) (by decide) (st:=(qO ah st).2) o5;obtain⟨f1,f2,f3,f4,f5⟩:=jm hE (l:=[JW]) (st:=(mY ah st).2) n5;obtain⟨b,b1,b2,b3,b4⟩:=lK ah hE dp g _ _ _ h3 m5
 have hp:∃ pub:Bool,fK st (if pub=true then [.leaf] else []) (mY ah st).2/\(mY ah st).1=dJ st.aj.length (if pub=true then [.leaf] else [])/\(pub=true->aJ ah st.used=CQ):=by
  unfold mY
  split
  ·rename_i hx
   obtain⟨l1,l2,_⟩:=jL hE (bO hx);refine⟨true,by simpa using l1,by simp[dJ,PT.nd,l2],λ_=>?_⟩
   simpa using jg hx
  ·exact⟨false,by simpa using fK.nil st,by simp[dJ],λq=>by cases q⟩
 obtain⟨pub,pb1,pb2,pb3⟩:=hp
 have g1:=(pb1.append f1)
 have g2:=(g1.append n1)
 have g3:=(g2.append o1)
 have g4:=(g3.append p2)
 have g5:=(g4.append c1)
 have g6:=(g5.append t1)
 have g7:=(g6.append q1)
 have g8:=(g7.append b1)
 have g9:=(g8.append m1)
 have u0:=pb1.used;have u1:=f1.used;have u2:=n1.used;have u3:=o1.used;have u4:=p2.used;have u5:=c1.used;have u6:=t1.used;have u7:=q1.used;have k8:=g7.aC;simp only[cO,PT.lv] at u1 u2 u3 u5 u7
 have e3:st.used+cO (dY.lead ⟨pub,ps,ty,b⟩)+3=(iA ah st).2.used:=by
  rw[show (iA ah st).2.used=_ from u3,show (jW ah st).2.used=_ from u2,show (qO ah st).2.used=_ from u1,u0]
  rfl
 have e2:(dY.mk pub ps ty b).at2 st.used=(aM ah [[41]] l.2).2.used:=by
  rw[u5,u4,show (iA ah st).2.used=_ from u3,show (jW ah st).2.used=_ from u2,show (qO ah st).2.used=_ from u1,u0]
  rfl
 refine⟨⟨pub,ps,ty,b⟩,?_,⟨pb3,?_,?_,p1,?_,?_,?_⟩,?_,?_,?_⟩
 ·have hk:(dY.mk pub ps ty b).aA=(if pub=true then [.leaf] else [])++[.leaf]++[.leaf]++[.leaf]++lN (ps.map gN.par)++[.leaf]++ty.pts++[.leaf]++[b.pt]++[.leaf]:=by
   simp[dY.aA,dY.lead]
  rw[dY.pt,hk];have ig:IG st _ _ _:=(((((((((show IG st _ _ _ from ⟨pb1,pb2⟩).append (IG.leaf f1 f2)).append (IG.leaf n1 n2)).append (IG.leaf o1 o2)).append (show IG _ _ _ _ from ⟨p2,p3⟩)).append (IG.leaf c1 c2)).append (show IG _ _ _ _ from ⟨t1,rfl⟩)).append (IG.leaf q1 q2)).append (IG.res b1 b2)).append (IG.leaf m1 m2);refine g9.aa3 (k:=3) ?_ hr (λ_=>by have:=m1.used;simp only[cO,PT.lv] at this;omega);rw[<- ig.2,t2];simp only[om,kF,qW]
  rfl
 ·show aJ ah (st.used+cO (dY.lead _))=JW
  have:st.used+cO (dY.lead ⟨pub,ps,ty,b⟩)=(mY ah st).2.used:=u0.symm;rw[this]
  simpa using f3
 ·show gq ah (st.used+cO (dY.lead _)+1)=1
  have:st.used+cO (dY.lead ⟨pub,ps,ty,b⟩)+1=(qO ah st).2.used:=by rw[show (qO ah st).2.used=_ from u1,u0];rfl
  rw[this];exact n3
 ·show zZ ah (st.used+cO (dY.lead _)+3) ps
  rw[e3];exact p4
 ·rw[e2]
  exact t3
 ·have:(dY.mk pub ps ty b).at3 st.used=(aM ah [[61]] t.2).2.used:=by
   rw[u7,u6,u5,u4,show (iA ah st).2.used=_ from u3,show (jW ah st).2.used=_ from u2,show (qO ah st).2.used=_ from u1,u0]
   rfl
  rw[this];have hb:b.ok ah (aM ah [[61]] t.2).2.aC (aM ah [[61]] t.2).2.used:=b3;rw[k8,hc] at hb;exact hb
 ·show uX ah (st.used+cO (dY.lead ⟨pub,ps,ty,b⟩)+3) ps
  rw[e3];exact p6
 ·rw[e2,u5]
  simpa using c3
 ·rw[e2]
  exact t5
def okL {α:Type}(P:α->Nat->Prop)(T:α->PT):Nat->List α->Prop
 | _,[]=>True
 | u,a :: l=>P a u/\okL P T (u+(T a).lv) l
theorem Tg {α:Type}{ah:List Tok}{one:aN->Option (Int × aN)}{first:List aH}(T:α->PT)(P:α->Nat->Prop)
  (hone:∀ s k,one s=some k->k.2.fE=0->bG ah s first=true->s.aC=false->∃ a,Te ah s k (T a)/\P a s.used) (hx:∀ s k,one s=some k->dR s k.2) :
  ∀ (r:Nat) (aA:List Int) (st:aN) (l:List Int × aN),jD ah one first r aA st=some l->l.2.fE=0->st.aC=false ->
   ∃ zs9:List α,zs9.length<=r/\fK st (zs9.map T) l.2/\l.1=aA++dJ st.aj.length (zs9.map T)/\okL P T st.used zs9/\(st.used<ah.length->l.2.used<ah.length)
 | 0,aA,st,l,h,hl,_=>by
  rw[jD] at h;obtain rfl:=kE h;have hl:(if st.fE=0/\bG ah st first=true then gT ah 15 st else st).fE=0:=hl
  split at hl
  ·exact(tK (by decide) hl).elim
  ·rename_i hc
   refine⟨[],by simp,?_,by simp[dJ],trivial,?_⟩
   ·show fK st [] (if _ then _ else _)
    rw[aP hc];exact fK.nil st
   ·show _->(if _ then _ else _:aN).used<_
    rw[aP hc];exact id
 | r+1,aA,st,l,h,hl,hc0=>by
  rw[jD] at h
  split at h
  ·rename_i hc
   obtain⟨k,hk,h⟩:=bS h;have hz:=(mK hx r _ _ _ h).zero hl;obtain⟨a,⟨g1,i1,u1⟩,p1⟩:=hone _ _ hk hz hc.2 hc0;obtain⟨zs9,h1,h2,h3,h4,h5⟩:=Tg T P hone hx r _ _ _ h hl (by rw[g1.aC];exact hc0);have n1:=g1.len;have s1:=g1.used;simp only[fC,cO,qp] at n1 s1;refine⟨a :: zs9,by simpa using h1,?_,?_,⟨p1,by rw[<- s1];exact h4⟩,λq=>h5 (u1 q)⟩
   ·exact g1.append h2
   ·rw[h3,mE,dJ,i1,n1,om]
    rfl
  ·obtain rfl:=kE h
   exact⟨[],by simp,fK.nil st,by simp[dJ],trivial,id⟩
theorem Xd (hE:iV ah)(st:aN)(k:Int × aN)(h:(λs=>some (jN ah s)) st=some k)(hf:k.2.fE=0)(hn:bG ah st [tQ]=true):∃ _:Unit,Te ah st k xP/\(aJ ah st.used=tQ/\gq ah (st.used+1)=1):=by
 obtain rfl:=kE h;have z1:=tL (k:=2) (show (bM 2 _ _).2.fE=0 from hf);obtain⟨m1,m2,m3,m4,m5⟩:=jm hE z1;obtain⟨k1,k2,k3,k4,k5⟩:=Bc hE (by decide) m5;obtain⟨l1,l2,l3⟩:=jL hE (bO hn);have u1:=l1.used;simp only[cO,PT.lv] at u1;have ig:IG st _ _ _:=((IG.leaf l1 l2).append (IG.leaf k1 k2)).append (IG.leaf m1 m2);refine⟨(),?_,by simpa using jg hn,by rw[u1] at k3;exact k3⟩;exact ig.1.aa3 (k:=2) ig.2 hf (λ_=>by have:=m1.used;simp only[cO,PT.lv] at this;omega)
theorem map_unit {β:Type}(c:β):∀ l:List Unit,l.map (λ_=>c)=List.replicate l.length c
 | []=>rfl
 | _ :: l=>by rw[mE,map_unit c l];rfl
theorem Vh {ah:List Tok}:∀ (l:List Unit) (u:Nat),okL (λ(_:Unit) u=>aJ ah u=tQ/\gq ah (u+1)=1) (λ_=>xP) u l->Tf ah u l.length
 | [],_,_=>trivial
 | _ :: l,_u,h=>⟨h.1.1,h.1.2,Vh l _ h.2⟩
theorem MF {ah:List Tok}:∀ (l:List dY) (u:Nat),okL (λ(d:dY) u=>d.ok ah u/\d.marks ah u) dY.pt u l->CV ah u l/\CU ah u l
 | [],_,_=>⟨trivial,trivial⟩
 | _ :: l,_,h=>⟨⟨h.1.1,(MF l _ h.2).1⟩,h.1.2,(MF l _ h.2).2⟩
theorem Fp:∀ n,cO (List.replicate n xP)=3 * n
 | 0=>rfl
 | n+1=>by
  rw[List.replicate_succ,cO,Fp n];simp only[xP,PT.lv,cO];omega
theorem Vi {T:aH}{p:Nat}(hL:Laid T p ah)(h:nV ah d g kT=some r)(hf:r.2.fE=0) :
  ∃ q:lD,r.2.aj=q.pt.em 0 0/\q.ok ah/\q.pt.lv=ah.length/\q.marks ah:=by
 have hE:=hL.Z8;unfold nV at h;obtain⟨a,h1,h⟩:=bS h;obtain⟨b,h2,h⟩:=bS h;obtain rfl:=kE h;have hk:=tL hf;have hb:=(eu ah 5 b.2).zero hk;have ha:=(mK r9 _ _ _ _ h2).zero hb;obtain⟨us,i1,i2,i3,i4,i5⟩:=Tg (ah:=ah) (λ_:Unit=>xP) (λ_ u=>aJ ah u=tQ/\gq ah (u+1)=1) (λs k e1 e2 e3 _=>Xd hE s k e1 e2 e3) (tT ah) 16 [] kT a h1 ha rfl;obtain⟨ds,d1,d2,d3,d4,d5⟩:=Tg (ah:=ah) dY.pt (λd u=>d.ok ah u/\d.marks ah u) (λs k e1 e2 _ e4=>afn hE s k e1 e2 e4) r9 64 [] a.2 b h2 hb (by rw[i2.aC];rfl);rw[map_unit] at i2 i3
 have hu:a.2.used=3 * us.length:=by
  rw[i2.used,Fp];simp[kT]
 have hu':=d5 (i5 hL.some)
 have hku:bC ah 5 b.2=aD ah b.2/\gq ah b.2.used=5:=by
  unfold bC at hk |-
  by_cases hc:b.2.fE=0/\(dh ah b.2.used).kind=5
  ·rw[bq hc]
   exact⟨rfl,hc.2⟩
  ·rw[aP hc] at hk
   exact(tK (by decide) hk).elim
 have hlast:=hL.ag1 hu' hku.2;obtain⟨hl1,hl2⟩:=fK.leaf (ah:=ah) (st:=b.2) (by omega)
 have e1:IG kT a.1 (List.replicate us.length xP) a.2:=⟨i2,i3⟩
 have e2:IG a.2 b.1 (ds.map dY.pt) b.2:=⟨d2,d3⟩
 have ig:=(e1.append e2).append (IG.leaf hl1 hl2);rw[hku.1] at hf hk |-;have hn:=ig.1.node hk 1;rw[<- ig.2] at hn;have hds:=MF ds _ d4;rw[hu] at hds;refine⟨⟨us.length,ds⟩,?_,⟨i1,d1,?_,hds.1⟩,?_,hds.2⟩
 ·have h18:=hn.1
  simp only[Int.cast_ofNat_Int] at h18;rw[h18];simp[kT,AV,lD.pt,lD.aA]
 ·exact Vh us 0 i4
 ·have:=ig.1.used
  rw[hl1.used] at this;simp only[kT,cO,PT.lv] at this;simp only[lD.pt,PT.lv,lD.aA];rw[<- om];omega
theorem tV:∀ {l k:List PT},nY l->nY k->nY (l++k)
 | [],k,_,h=>h
 | t :: l,k,h1,h2=>by
  rw[nY] at h1;rw[kF,nY];exact⟨h1.1,tV h1.2 h2⟩
theorem MG {α:Type}{T:α->PT}(h:∀ a,(T a).wf):∀ l:List α,nY (l.map T)
 | []=>by rw[List.map_nil,nY];trivial
 | a :: l=>by rw[mE,nY];exact⟨h a,MG h l⟩
theorem Vj:∀ {l:List PT},nY l->nY (lN l)
 | [],h=>by rw[lN];exact h
 | [t],h=>by rw[yO];exact h
 | t :: s :: l,h=>by
  rw[nY] at h;rw[uW,nY,nY,PT.wf];exact⟨h.1,trivial,Vj h.2⟩
theorem Vk {t:PT}(h:t.wf):∀ n,nY (List.replicate n t)
 | 0=>by rw[List.replicate_zero,nY];trivial
 | n+1=>by rw[List.replicate_succ,nY];exact⟨h,Vk h n⟩
theorem gN.wf (t:gN):nY t.pts:=by
 unfold gN.pts
 cases h:t.cl with
 | none=>simp[nY,PT.wf]
 | some e=>simp[nY,PT.wf,CE.wf e]
theorem gN.ag2 (t:gN):t.par.wf:=by
 unfold gN.par;simp[nY,PT.wf,t.wf]
theorem dY.wf (d:dY):d.pt.wf:=by
 rw[dY.pt,PT.wf];refine⟨by omega,by omega,?_⟩;unfold dY.aA dY.lead;refine tV ?_ (tV (by simp[nY,PT.wf]) (tV (Vj (MG gN.ag2 _)) (tV (by simp[nY,PT.wf]) (tV d.ty.wf (by simp[nY,PT.wf,CE.wf d.body])))))
 split<;>simp[nY,PT.wf]
theorem lD.wf (p:lD):p.pt.wf:=by
 rw[lD.pt,PT.wf];refine⟨by omega,by omega,?_⟩;unfold lD.aA;exact tV (Vk (by simp[xP,nY,PT.wf]) _) (tV (MG dY.wf _) (by simp[nY,PT.wf]))
theorem G8 (h:gF S d=.good ah aj) :
  bV S=.ok ah/\∃ p:lD,aj=p.pt.em 0 0/\p.ok ah/\p.pt.lv=ah.length/\aj.length<=2 * ah.length/\p.marks ah:=by
 unfold gF at h
 cases hl:bV S with
 | error x=>rw[hl] at h;cases h
 | ok l =>
  rw[hl] at h;simp only at h;have hL:=ji hl;obtain⟨a,ha⟩:=Ec hL.Z8 d kT;rw[ha] at h;simp only[CP] at h
  split at h
  ·rename_i hf
   injection h with h1 h2
   subst h1;obtain⟨q,he,hok,hlv,hmk⟩:=Vi hL ha hf;have h3:=KO ha;have h4:=KJ ha (mD _);unfold og at h3;simp only[kT,iF] at h3;exact⟨rfl,q,by rw[<- h2,he],hok,hlv,by rw[<- h2];omega,hmk⟩
  ·cases h
theorem Xe {e a:Nat}(h:gF S d=.bad e a):e≠0:=by
 unfold gF at h
 cases hl:bV S with
 | error x =>
  rw[hl] at h
  injection h with h1 h2
  have:=(vN hl).2;omega
 | ok l =>
  rw[hl] at h;simp only at h
  split at h
  ·injection h with h1 _;omega
  ·unfold CP at h
   split at h
   ·cases h
   ·rename_i hf
    injection h with h1 _
    omega
theorem Bw (hdd:d<=d')(h:gF S d=.good ah aj):gF S d'=.good ah aj:=by
 unfold gF at h |-
 cases hl:bV S with
 | error x=>rw[hl] at h;cases h
 | ok l =>
  rw[hl] at h;simp only at h |-
  cases hm:nV l d (vX l) kT with
  | none=>rw[hm] at h;cases h
  | some st =>
   rw[hm] at h;simp only at h
   have hs:st.2.fE=0:=by
    unfold CP at h
    split at h
    ·assumption
    ·cases h
   rw[MC hdd hm hs];exact h
structure FF where
 name:aH
 base:Nat
 aC:List PE
 at_:Nat
 bare:Int
structure DD where
 pub:Bool
 params:List FF
 res:FF
 body:PE
structure PP where
 aG:List (aH × Nat)
 defs:List DD
def gN.ff (ah:List Tok)(u:Nat)(name:aH)(at_:Nat)(t:gN):FF where
 name:=name
 base:=if aJ ah (u+1)=jJ then 2 else 1
 aC:=match t.cl with|none=>[]|some e=>[e.pe ah (u+3)]
 at_:=at_
 bare:=match t.cl with|none=>((bN ah (u+1)+(aJ ah (u+1)).length:Nat):Int)|some _=>-1
def gN.xQ (ah:List Tok)(u:Nat)(t:gN):FF:=t.ff ah (u+1) (aJ ah u) (bN ah u)
def pY (ah:List Tok)(u:Nat):List gN->List FF
 | []=>[]
 | t :: l=>t.xQ ah u :: pY ah (u+t.par.lv+1) l
def dY.dd (ah:List Tok)(u:Nat)(d:dY):DD where
 pub:=d.pub
 params:=pY ah (d.G5 u+3) d.mG
 res:=d.ty.ff ah (d.at2 u) (aJ ah (d.G5 u+1)) (bN ah (d.G5 u+1))
 body:=d.body.pe ah (d.at3 u)
def mZ (ah:List Tok)(u:Nat):List dY->List DD
 | []=>[]
 | d :: l=>d.dd ah u :: mZ ah (u+d.pt.lv) l
def qP (ah:List Tok)(u:Nat):Nat->List (aH × Nat)
 | 0=>[]
 | n+1=>(aJ ah (u+1),bN ah (u+1)) :: qP ah (u+3) n
def lD.pp (ah:List Tok)(p:lD):PP:=⟨qP ah 0 p.imps,mZ ah (3 * p.imps) p.defs⟩
def z8:List PE->aH
 | []=>[]
 | e :: l=>e.dump++z8 l
def Fq:List PE->aH
 | []=>[]
 | e :: l=>e.tJ++Fq l
def FF.KQ (f:FF):aH:=[58]++iw f.base++z8 f.aC
def FF.MH (f:FF):aH:=[58]++iw f.base++Fq f.aC
def sj:List FF->aH
 | []=>[]
 | f :: l=>[32]++f.name++f.KQ++sj l
def yP:List FF->aH
 | []=>[]
 | f :: l=>[32]++f.name++f.MH++yP l
def DD.dump (d:DD):aH:=(if d.pub=true then [112,117,98,32] else [])++d.res.name++sj d.params++([32]++d.res.KQ++[32,61,32]++d.body.dump++[10])
def DD.tJ (d:DD):aH:=(if d.pub=true then [112,117,98,32] else [])++d.res.name++yP d.params++([32]++d.res.MH++[32,61,32]++d.body.tJ++[10])
def su:List DD->aH
 | []=>[]
 | d :: l=>d.dump++su l
def yQ:List DD->aH
 | []=>[]
 | d :: l=>d.tJ++yQ l
def uY:List (aH × Nat)->aH
 | []=>[]
 | m :: l=>[105,109,112,111,114,116,32]++m.1++[10]++uY l
def PP.dump (p:PP):aH:=uY p.aG++su p.defs
def PP.tJ (p:PP):aH:=uY p.aG++yQ p.defs
def FF.erase (f:FF):FF:={ f with aC:=[] }
def DD.erase (d:DD):DD:={ d with params:=d.params.map FF.erase,res:=d.res.erase }
def PP.erase (p:PP):PP:={ p with defs:=p.defs.map DD.erase }
def FF.Pp (f:FF):List Int:=if 0<=f.bare then [f.bare] else []
def DD.Pp (d:DD):List Int:=d.params.flatMap FF.Pp++d.res.Pp
def PP.Pp (p:PP):List Int:=p.defs.flatMap DD.Pp
def FF.all (P:PE->Prop)(f:FF):Prop:=∀ e∈f.aC,P e
def DD.all (P:PE->Prop)(d:DD):Prop:=(∀ f∈d.params,f.all P)/\d.res.all P/\P d.body
def PP.all (P:PE->Prop)(p:PP):Prop:=∀ d∈p.defs,d.all P
theorem Ed:∀ {l:List PE},(∀ e∈l,e.told)->Fq l=z8 l
 | [],_=>rfl
 | e :: l,h=>by
  rw[Fq,z8,PE.kR (h e xq),Ed λx hx=>h x (xu _ hx)]
theorem FF.kR {f:FF}(h:f.all PE.told):f.MH=f.KQ:=by rw[FF.MH,FF.KQ,Ed h]
theorem zy:∀ {l:List FF},(∀ f∈l,f.all PE.told)->yP l=sj l
 | [],_=>rfl
 | f :: l,h=>by
  rw[yP,sj,FF.kR (h f xq),zy λx hx=>h x (xu _ hx)]
theorem DD.kR {d:DD}(h:d.all PE.told):d.tJ=d.dump:=by
 rw[DD.tJ,DD.dump,zy h.1,FF.kR h.2.1,PE.kR h.2.2]
theorem zC:∀ {l:List DD},(∀ d∈l,d.all PE.told)->yQ l=su l
 | [],_=>rfl
 | d :: l,h=>by
  rw[yQ,su,DD.kR (h d xq),zC λx hx=>h x (xu _ hx)]
theorem PP.kR {p:PP}(h:p.all PE.told):p.tJ=p.dump:=by rw[PP.tJ,PP.dump,zC h]
theorem FF.uZ (f:FF):f.erase.all P:=λe he=>by cases he
theorem DD.uZ {P:PE->Prop}{d:DD}(h:P d.body):d.erase.all P:=by
 refine⟨λf hf=>?_,FF.uZ _,h⟩;obtain⟨g,_,rfl⟩:=List.mem_map.1 hf;exact FF.uZ g
theorem PP.uZ {P:PE->Prop}{p:PP}(h:p.all P):p.erase.all P:=λd hd=>by
 obtain⟨c,hc,rfl⟩:=List.mem_map.1 hd;exact DD.uZ (h c hc).2.2
theorem aa4:∀ l:List PT,fC l<=fC (lN l)
 | []=>by rw[lN];exact bI _
 | [t]=>by rw[yO];exact bI _
 | t :: s :: l=>by
  have:=aa4 (s :: l)
  have h2:fC (t :: .leaf :: lN (s :: l))=t.nd+(1+fC (lN (s :: l))):=by rw[fC,fC,PT.nd]
  rw[uW,h2,fC];omega
theorem dY.aa5 (d:dY):fC (d.mG.map gN.par)<=d.pt.nd/\fC d.ty.pts<=d.pt.nd/\d.body.pt.nd<=d.pt.nd:=by
 have:=aa4 (d.mG.map gN.par);rw[dY.pt,PT.nd,dY.aA];simp only[pI,fC];omega
theorem lD.adJ (p:lD):fC (p.defs.map dY.pt)<=p.pt.nd:=by
 rw[lD.pt,PT.nd,lD.aA];simp only[pI,fC];omega
def PeN (ah:List Tok)(N:Nat)(P:PE->Prop):Prop:=∀ (cl:Bool) (e:CE) (u:Nat),e.ok ah cl u->e.pt.nd<=N->P (e.pe ah u)
theorem gN.aa6 (h:PeN ah N P){t:gN}{name:aH}{a:Nat}(ho:t.ok ah u)(hn:fC t.pts<=N):(t.ff ah u name a).all P:=by
 intro x hx;obtain⟨_,ho⟩:=ho;unfold gN.ff at hx;unfold gN.pts at hn
 cases hc:t.cl with
 | none=>rw[hc] at hx;cases hx
 | some e =>
  rw[hc] at hx ho hn;simp only[DN] at hx;subst hx;simp only[fC,PT.nd,kF,qW] at hn;exact h true e _ ho (by omega)
theorem gN.afo (t:gN):fC t.pts<=t.par.nd:=by
 have:t.par.nd=fC (.leaf :: t.pts)+1:=by rw[gN.par,PT.nd]
 rw[fC] at this;omega
theorem Pq {ah:List Tok}{N:Nat}{P:PE->Prop}(h:PeN ah N P):∀ (l:List gN) (u:Nat),zZ ah u l->fC (l.map gN.par)<=N->∀ f∈pY ah u l,f.all P
 | [],_,_,_,f,hf=>by cases hf
 | t :: l,u,ho,hn,f,hf=>by
  have:=t.afo;rw[mE,fC] at hn;rw[pY,oo] at hf
  rcases hf with rfl|hf
  ·exact gN.aa6 h ho.1.2 (by omega)
  ·exact Pq h l _ ho.2 (by omega) f hf
theorem dY.afp (h:PeN ah N P){d:dY}(ho:d.ok ah u)(hn:d.pt.nd<=N):(d.dd ah u).all P:=by
 obtain⟨_,_,_,_,h5,h6,h7⟩:=ho;obtain⟨n1,n2,n3⟩:=d.aa5;exact⟨Pq h _ _ h5 (by omega),gN.aa6 h h6 (by omega),h _ _ _ h7 (by omega)⟩
theorem Pt {ah:List Tok}{N:Nat}{P:PE->Prop}(h:PeN ah N P):∀ (l:List dY) (u:Nat),CV ah u l->fC (l.map dY.pt)<=N->∀ d∈mZ ah u l,d.all P
 | [],_,_,_,d,hd=>by cases hd
 | x :: l,u,ho,hn,d,hd=>by
  rw[mE,fC] at hn;rw[mZ,oo] at hd
  rcases hd with rfl|hd
  ·exact dY.afp h ho.1 (by omega)
  ·exact Pt h l _ ho.2 (by omega) d hd
theorem lD.CW {p:lD}(h:PeN ah p.pt.nd P)(ho:p.ok ah):(p.pp ah).all P:=Pt h _ _ ho.2.2.2 p.adJ
theorem G9 (ah:List Tok):∀ (l:List gN) (u:Nat),(pY ah u l).length=l.length
 | [],_=>rfl
 | t :: l,u=>by rw[pY,dN,dN,G9 ah l]
theorem Aa (ah:List Tok):∀ (l:List dY) (u:Nat),(mZ ah u l).length=l.length
 | [],_=>rfl
 | t :: l,u=>by rw[mZ,dN,dN,Aa ah l]
theorem Ab (ah:List Tok):∀ (n u:Nat),(qP ah u n).length=n
 | 0,_=>rfl
 | n+1,u=>by rw[qP,dN,Ab ah n]
structure FF.small (M:Nat) (f:FF):Prop where
 name:f.name.length<=M
 base:f.base=1\/f.base=2
 aC:f.aC.length<=1
structure DD.small (M:Nat) (d:DD):Prop where
 params:∀ f∈d.params,f.small M
 few:d.params.length<=8
 res:d.res.small M
structure PP.small (M:Nat) (p:PP):Prop where
 aG:∀ m∈p.aG,m.1.length<=M
 Xf:p.aG.length<=16
 defs:∀ d∈p.defs,d.small M
 MI:p.defs.length<=64
theorem FF.small.erase {M:Nat}{f:FF}(h:f.small M):f.erase.small M:=⟨h.name,h.base,mD _⟩
theorem DD.small.erase {M:Nat}{d:DD}(h:d.small M):d.erase.small M:=by
 refine⟨λf hf=>?_,by simpa [DD.erase] using h.few,h.res.erase⟩;obtain⟨g,hg,rfl⟩:=List.mem_map.1 hf;exact(h.params g hg).erase
theorem PP.small.erase {M:Nat}{p:PP}(h:p.small M):p.erase.small M:=by
 refine⟨h.aG,h.Xf,λd hd=>?_,by simpa [PP.erase] using h.MI⟩;obtain⟨c,hc,rfl⟩:=List.mem_map.1 hd;exact(h.defs c hc).erase
theorem gN.Pv (hM:∀ u,(aJ ah u).length<=M)(t:gN)(u v a:Nat):(t.ff ah u (aJ ah v) a).small M:=by
 refine⟨hM v,?_,?_⟩
 ·show (if _ then _ else _)=1\/_
  split
  ·right;show (if _ then _ else _)=2;rw[bq (by assumption)]
  ·left;rfl
 ·unfold gN.ff
  cases t.cl<;>simp
theorem He {ah:List Tok}{M:Nat}(hM:∀ u,(aJ ah u).length<=M):∀ (l:List gN) (u:Nat),∀ f∈pY ah u l,f.small M
 | [],_,f,hf=>by cases hf
 | t :: l,u,f,hf=>by
  rw[pY,oo] at hf
  rcases hf with rfl|hf
  ·exact gN.Pv hM _ _ _ _
  ·exact He hM l _ f hf
theorem dY.aa7 (hM:∀ u,(aJ ah u).length<=M){d:dY}(ho:d.ok ah u):(d.dd ah u).small M :=
 ⟨He hM _ _,by show (pY _ _ _).length<=8;rw[G9];exact ho.2.2.2.1,gN.Pv hM _ _ _ _⟩
theorem Hf {ah:List Tok}{M:Nat}(hM:∀ u,(aJ ah u).length<=M):∀ (l:List dY) (u:Nat),CV ah u l->∀ d∈mZ ah u l,d.small M
 | [],_,_,d,hd=>by cases hd
 | x :: l,u,ho,d,hd=>by
  rw[mZ,oo] at hd
  rcases hd with rfl|hd
  ·exact dY.aa7 hM ho.1
  ·exact Hf hM l _ ho.2 d hd
theorem Hg {ah:List Tok}{M:Nat}(hM:∀ u,(aJ ah u).length<=M):∀ (n u:Nat),∀ m∈qP ah u n,m.1.length<=M
 | 0,_,m,hm=>by cases hm
 | n+1,u,m,hm=>by
  rw[qP,oo] at hm
  rcases hm with rfl|hm
  ·exact hM _
  ·exact Hg hM n _ m hm
theorem lD.Pw {p:lD}(hM:∀ u,(aJ ah u).length<=M)(ho:p.ok ah):(p.pp ah).small M :=
 ⟨Hg hM _ _,by show (qP _ _ _).length<=16;rw[Ab];exact ho.1,Hf hM _ _ ho.2.2.2,by show (mZ _ _ _).length<=64;rw[Aa];exact ho.2.1⟩
theorem Hl {K:Nat}:∀ {l:List PE},(∀ e∈l,e.dump.length<=K)->(z8 l).length<=l.length * K
 | [],_=>by simp[z8]
 | e :: l,h=>by
  have h1:=h e xq
  have h2:=Hl (l:=l) λx hx=>h x (xu _ hx)
  rw[z8,bQ,dN,Nat.succ_mul];omega
def Ho (K:Nat)(e:PE):Prop:=e.dump.length<=K
theorem FF.uV {f:FF}(h:f.small M)(hk:f.all (Ho K)):f.KQ.length<=K+3:=by
 have h1:=Hl (K:=K) hk;have h2:f.aC.length * K<=1 * K:=Nat.mul_le_mul_right _ h.aC;have h3:=MB (n:=f.base) (by rcases h.base with q|q<;>omega);rw[FF.KQ];simp only[bQ,dN,iF];omega
theorem Bz {M K:Nat}:∀ {l:List FF},(∀ f∈l,f.small M)->(∀ f∈l,f.all (Ho K))->(sj l).length<=l.length * (M+K+4)
 | [],_,_=>by simp[sj]
 | f :: l,h,hk=>by
  have h0:=h f xq;have h1:=FF.uV h0 (hk f xq);have h2:=Bz (l:=l) (λx hx=>h x (xu _ hx)) (λx hx=>hk x (xu _ hx));have h3:=h0.name;rw[sj,dN,Nat.succ_mul];simp only[bQ,dN,iF];omega
theorem DD.BA {d:DD}(h:d.small M)(hk:d.all (Ho K)):d.dump.length<=10 * (M+K+4)+20:=by
 have h1:=Bz h.params hk.1;have h2:d.params.length * (M+K+4)<=8 * (M+K+4):=Nat.mul_le_mul_right _ h.few;have h3:=FF.uV h.res hk.2.1;have h4:d.body.dump.length<=K:=hk.2.2;have h5:=h.res.name;rw[DD.dump];simp only[bQ,dN,iF]
 split<;>simp only[dN,iF]<;>omega
theorem BD {M K:Nat}:∀ {l:List DD},(∀ d∈l,d.small M)->(∀ d∈l,d.all (Ho K))->(su l).length<=l.length * (10 * (M+K+4)+20)
 | [],_,_=>by simp[su]
 | d :: l,h,hk=>by
  have h1:=DD.BA (h d xq) (hk d xq);have h2:=BD (l:=l) (λx hx=>h x (xu _ hx)) (λx hx=>hk x (xu _ hx));rw[su,bQ,dN,Nat.succ_mul];omega
theorem BF {M:Nat}:∀ {l:List (aH × Nat)},(∀ m∈l,m.1.length<=M)->(uY l).length<=l.length * (M+8)
 | [],_=>by simp[uY]
 | m :: l,h=>by
  have h1:=h m xq
  have h2:=BF (l:=l) λx hx=>h x (xu _ hx)
  rw[uY,dN,Nat.succ_mul];simp only[bQ,dN,iF];omega
theorem PP.BA {p:PP}(h:p.small M)(hk:p.all (Ho K)):p.dump.length<=16 * (M+8)+64 * (10 * (M+K+4)+20):=by
 have h1:=BF h.aG;have h2:p.aG.length * (M+8)<=16 * (M+8):=Nat.mul_le_mul_right _ h.Xf;have h3:=BD h.defs hk;have h4:p.defs.length * (10 * (M+K+4)+20)<=64 * (10 * (M+K+4)+20):=Nat.mul_le_mul_right _ h.MI;rw[PP.dump,bQ];omega
theorem Px (hl:bV S=.ok ah)(he:aj=t.em 0 0)(hw:t.wf)(hlv:t.lv=ah.length)(hn:aj.length<=2 * ah.length+2):D9 ah aj (t.dump ah 0):=by
 have hs:S.length<=65536:=by
  unfold bV at hl
  split at hl
  ·cases hl
  ·omega
 have hL:=ji hl;have hc:=hL.count
 have hnd:aj.length=t.nd:=by rw[he,PT.vO]
 have hnp:=t.iI
 have hM:∀ u,(aJ ah u).length<=65536:=λu=>iY (GK hl u) hs
 have hdl:=uV hM t 0 hw;refine⟨by omega,by omega,λn hm=>?_,by omega,?_,?_,?_,?_,λn hm=>?_,λn hm h19=>?_⟩
 ·rw[he] at hm
  have:=Mx _ _ _ n hm;omega
 ·rw[he];exact Y6 _ hw _ hlv
 ·rw[hnd,he,Wh _ hw (by omega),hlv]
 ·rw[hnd,he];exact adf ah _ hw (by omega)
 ·have:t.nd * (65536+16)<=200000 * (65536+16):=Nat.mul_le_mul_right _ (by omega)
  omega
 ·rw[he] at hm
  exact(GD _ _ _ hw n hm).1
 ·rw[he] at hm
  have:=(GD _ _ _ hw n hm).2 h19;omega
structure mM (S:aH) (ah:List Tok) (aj:List Nd) (p:lD):Prop where
 small:S.length<=65536
 GL:bV S=.ok ah
 Bu:aj=p.pt.em 0 0
 okk:p.ok ah
 lv:p.pt.lv=ah.length
 count:ah.length<=S.length+1
 nd:p.pt.nd<=2 * ah.length
 good:D9 ah aj (p.pt.dump ah 0)
 whole:iL ah=S
 deep:gF S 200=.good ah aj
 fits:(p.pp ah).all (PE.fits (S.length+1))
 told:(p.pp ah).all PE.told
 few:(p.pp ah).all λe=>e.kX<=p.pt.nd
 aa8:(p.pp ah).small (S.length+1)
theorem Ac (hd:d<=200)(h:gF S d=.good ah aj):∃ p,mM S ah aj p/\p.marks ah:=by
 obtain⟨hl,p,he,hok,hlv,hn,hmk⟩:=G8 h
 have hs:S.length<=65536:=by
  unfold bV at hl
  split at hl
  ·cases hl
  ·omega
 have hL:=ji hl
 have hM:∀ u,(aJ ah u).length<=S.length+1:=λu=>Nat.le_succ_of_le (GK hl u)
 have hN:=tO hl
 have hnd:aj.length=p.pt.nd:=by rw[he,PT.vO]
 refine⟨p,⟨hs,hl,he,hok,hlv,hL.count,by omega,Px hl he p.wf hlv (by omega),hL.OY,Bw hd h,lD.CW (λcl e u ho _=>CE.fits hL.some hN hM (by omega) e u ho) hok,lD.CW (λcl e u ho _=>CE.told (zw hl) e u ho) hok,lD.CW (λcl e u ho hn=>iY (CE.iM ah e u) hn) hok,lD.Pw hM hok⟩,hmk⟩
theorem Xg (hd:d<=200)(h:gF S d=.good ah aj):∃ p,mM S ah aj p:=(Ac hd h).imp λ_ q=>q.1
theorem PP.Vl {Q R T:PE->Prop}{p:PP}(h1:p.all P)(h2:p.all Q)(h3:p.all R)(h:∀ e,P e->Q e->R e->T e):p.all T:=λd hd =>
 ⟨λf hf e he=>h e ((h1 d hd).1 f hf e he) ((h2 d hd).1 f hf e he) ((h3 d hd).1 f hf e he),λe he=>h e ((h1 d hd).2.1 e he) ((h2 d hd).2.1 e he) ((h3 d hd).2.1 e he),h _ (h1 d hd).2.2 (h2 d hd).2.2 (h3 d hd).2.2⟩
theorem mM.dumps {p:lD}(h:mM S ah aj p)(hs:S.length<=1500):(p.pp ah).all (Ho 20000000):=by
 refine PP.Vl h.fits h.told h.few λe h1 h2 h3=>?_
 have h4:=KI e h1;rw[PE.kR h2] at h4;have h5:=h.nd;have h6:=h.count;have h7:e.kX * (3 * (S.length+1)+30)<=3002 * (3 * (S.length+1)+30):=Nat.mul_le_mul_right _ (by omega);unfold Ho;omega
theorem mM.BA {S:aH}{ah:List Tok}{aj:List Nd}{p:lD}(h:mM S ah aj p)(hs:S.length<=1500):(p.pp ah).dump.length<=20000000000:=by
 obtain⟨K,hK⟩:∃ K,K=20000000:=⟨_,rfl⟩
 have hd:=h.dumps hs;rw[<- hK] at hd;have:=PP.BA h.aa8 hd;clear hd;generalize (p.pp ah).dump.length=n at this |-;generalize S.length=m at *;subst hK;exact iY this (by omega)
structure Pc where
  lead:aH
  kind:Nat
  text:aH
def aX:List Pc->aH
  | []=>[]
  | p :: l=>p.lead++p.text++aX l
theorem dQ:∀ a b:List Pc,aX (a++b)=aX a++aX b
  | [],b=>rfl
  | p :: a,b=>by rw[kF,aX,aX,dQ a b];simp
def qG (k:Nat)(t:aH)(c:Option UInt8):Bool :=
  match c with
  | none=>true
  | some c=>if k=4 then decide (uN (t++[c])=some t) && !(decide (t=[45]) && decide (c=45)) else if k=3 then !bf c else !bJ c
def ny (p:Pc):Bool :=
  p.lead.all eH &&
  (if p.kind=4 then decide (p.text∈jQ)
   else if p.kind=3 then p.text.all bf && decide (0<p.text.length) && decide (p.text.length<=60) && (decide (p.text.length=1) || !decide (p.text[0]?=some 48))
   else p.text.all bJ && (p.text.headD 0 |> fq) && decide (0<p.text.length) && decide (p.text.length<=40) && decide (p.kind=if p.text∈uy then 2 else 1))
def NY:List Pc->aH->Prop
  | [],_=>True
  | p :: l,e=>ny p=true/\qG p.kind p.text (aX l++e).head?=true/\NY l e
def oI (p:Nat):List Pc->List Tok
  | []=>[]
  | x :: l=>⟨x.kind,x.lead,x.text,p+x.lead.length⟩ :: oI (p+x.lead.length+x.text.length) l
theorem jF:∀ {a b:List Pc} {e:aH},NY (a++b) e↔NY a (aX b++e)/\NY b e
  | [],b,e=>by simp[NY]
  | p :: a,b,e=>by
    rw[kF,NY,NY,jF (a:=a),dQ,om]
    constructor
    · rintro⟨h1,h2,h3,h4⟩;exact⟨⟨h1,h2,h3⟩,h4⟩
    · rintro⟨⟨h1,h2,h3⟩,h4⟩;exact⟨h1,h2,h3,h4⟩
theorem Ti {p:UInt8->Bool}:∀ {t r:aH},t.all p=true->(∀ c,r.head?=some c->p c=false)->(t++r).takeWhile p=t
  | [],[],_,_=>rfl
  | [],c :: r,_,h=>by rw[qW,List.takeWhile_cons_of_neg (by rw[h c rfl];decide)]
  | x :: t,r,h,h2=>by
    rw[List.all_cons,qM] at h;rw[kF,List.takeWhile_cons_of_pos h.1,Ti h.2 h2]
theorem KR (a b:UInt8)(r:aH):uN (a :: b :: r)=uN [a,b]:=by
  simp[uN,jQ,agu,agv,List.find?,List.isPrefixOf]
theorem aa9:∀ t∈jQ,(∃ a,t=[a])\/∃ a b,t=[a,b]:=by
  have:∀ t∈jQ,t.length=1\/t.length=2:=by decide
  intro t ht
  rcases this t ht with h|h
  · exact .inl (List.length_eq_one_iff.1 h)
  · match t,h with
    | [a,b],_=>exact .inr ⟨a,b,rfl⟩
theorem Hq:∀ t∈jQ,uN t=some t:=by decide
theorem Xh:∀ t∈jQ,∀ c,t.head?=some c->fq c=false/\bf c=false/\eH c=false:=by
  have:∀ t∈jQ,fq (t.headD 0)=false/\bf (t.headD 0)=false/\eH (t.headD 0)=false:=by decide
  intro t ht c hc
  cases t with
  | nil=>cases hc
  | cons x r=>cases hc;exact this _ ht
theorem abh {t r:aH}(ht:t∈jQ)(h:∀ c,r.head?=some c->uN (t++[c])=some t):uN (t++r)=some t:=by
  cases r with
  | nil=>rw[List.append_nil];exact Hq t ht
  | cons c r =>
    have hc:=h c rfl
    rcases aa9 t ht with ⟨a,rfl⟩|⟨a,b,rfl⟩
    · rw[kF,qW,KR];exact hc
    · rw[kF,kF,qW,KR];exact Hq _ ht
theorem CX (c:UInt8)(h:fq c=true):bf c=false/\eH c=false/\c≠45:=by
  have:∀ n:Fin 256,fq (UInt8.ofNat n.val)=true->bf (UInt8.ofNat n.val)=false/\eH (UInt8.ofNat n.val)=false/\UInt8.ofNat n.val≠45:=by decide +kernel
  have h1:=this ⟨c.toNat,c.toNat_lt⟩;rw[UInt8.ofNat_toNat] at h1;exact h1 h
theorem Py (c:UInt8)(h:bf c=true):fq c=false/\eH c=false/\c≠45:=by
  have:∀ n:Fin 256,bf (UInt8.ofNat n.val)=true->fq (UInt8.ofNat n.val)=false/\eH (UInt8.ofNat n.val)=false/\UInt8.ofNat n.val≠45:=by decide +kernel
  have h1:=this ⟨c.toNat,c.toNat_lt⟩;rw[UInt8.ofNat_toNat] at h1;exact h1 h
theorem KS {p:Pc}{r:aH}(h:ny p=true)(he:qG p.kind p.text r.head?=true):fP (p.text++r)=(p.kind,p.text.length,0)/\p.kind≠5/\0<p.text.length/\cK false (p.text++r)=0:=by
  obtain⟨ld,k,t⟩:=p;simp only[ny,qM] at h he |-;obtain⟨_,h⟩:=h
  by_cases h4:k=4
  · subst h4
    rw[bq rfl,uK] at h
    have hs:uN (t++r)=some t:=abh h λc hc=>by
      rw[hc,qG,bq rfl,qM,uK] at he;exact he.1
    have h45:¬ (t=[45]/\r.head?=some 45):=by
      rintro⟨rfl,q⟩;rw[q,qG,bq rfl,qM] at he;exact absurd he.2 (by decide)
    cases t with
    | nil=>exact absurd h (by decide)
    | cons c t =>
      obtain⟨h1,h2,h3⟩:=Xh _ h c rfl;refine⟨?_,by decide,by simp,?_⟩
      · rw[kF,fP,h1,h2,aP (by decide),aP (by decide),EG]
        rw[kF] at hs;rw[hs]
      · rw[kF,cK,h3,aP (by decide),aP]
        rintro⟨rfl,q⟩
        have:∀ x∈jQ,x.head?=some 45->x=[45]:=by decide
        have h5:=this _ h rfl;simp only[List.cons.injEq,true_and] at h5;subst h5;exact h45 ⟨rfl,q⟩
  rw[aP h4] at h
  by_cases h3:k=3
  · subst h3
    rw[bq rfl] at h;simp only[qM,uK] at h;obtain⟨⟨⟨hd,h0⟩,L6⟩,hz⟩:=h;rw[Bool.or_eq_true,uK] at hz
    have htw:(t++r).takeWhile bf=t:=Ti hd λc hc=>by
      rw[hc,qG,aP (by decide),bq rfl] at he
      simpa using he
    cases t with
    | nil=>simp at h0
    | cons c t =>
      have hc:bf c=true:=by rw[List.all_cons,qM] at hd;exact hd.1
      obtain⟨h1,h2,h45⟩:=Py c hc;refine⟨?_,by decide,h0,?_⟩
      · rw[kF,fP,h1,aP (by decide),bq hc]
        rw[kF] at htw;rw[rT,htw,aP];rintro(q|⟨q,q2⟩)
        · omega
        · rcases hz with hz|hz
          · omega
          · rw[q2] at hz;exact absurd hz (by decide)
      · rw[kF,cK,h2,aP (by decide),aP (λq=>h45 q.1)]
  · rw[aP h3] at h
    simp only[qM,uK] at h;obtain⟨⟨⟨⟨hd,hl⟩,h0⟩,h40⟩,hk⟩:=h
    have htw:(t++r).takeWhile bJ=t:=Ti hd λc hc=>by
      rw[hc,qG,aP h4,aP h3] at he
      simpa using he
    cases t with
    | nil=>simp at h0
    | cons c t =>
      have hc:fq c=true:=hl;obtain⟨h1,h2,h45⟩:=CX c hc;refine⟨?_,by rw[hk];split<;>decide,h0,?_⟩
      · rw[kF,fP,bq hc]
        rw[kF] at htw;rw[pq,htw,aP (by omega),hk]
        split<;>rfl
      · rw[kF,cK,h2,aP (by decide),aP (λq=>h45 q.1)]
theorem Ee:∀ {ld t:aH},ld.all eH=true->cK false (ld++t)=ld.length+cK false t
  | [],t,_=>by simp
  | c :: ld,t,h=>by
    rw[List.all_cons,qM] at h;rw[kF,cK,bq h.1,Ee h.2,dN];omega
theorem Hr:∀ (l:List Pc) (e:aH) (n p:Nat) (L:List Tok),NY l e->kZ n (aX l++e) p=.ok L->∃ L',L=oI p l++L'/\kZ (n - l.length) e (p+(aX l).length)=.ok L'
 | [],e,n,p,L,_,h=>⟨L,rfl,by simpa [aX] using h⟩
 | x :: l,e,0,p,L,_,h=>by rw[kZ] at h;cases h
 | x :: l,e,n+1,p,L,hk,h=>by
  obtain⟨h1,h2,h3⟩:=hk;obtain⟨t1,t2,t3,t4⟩:=KS h1 h2
  have hld:x.lead.all eH=true:=by rw[ny,qM] at h1;exact h1.1
  have hB:aX (x :: l)++e=x.lead++(x.text++(aX l++e)):=by rw[aX];simp
  have e1:cK false (x.lead++(x.text++(aX l++e)))=x.lead.length:=by rw[Ee hld,t4];rfl
  rw[hB,kZ,e1] at h;simp only[List.drop_left,t1,ne_eq,not_true,if_false] at h;rw[aP t2] at h
  split at h
  ·cases h
  ·rename_i L1 hL1
   obtain⟨L',rfl,h5⟩:=Hr l e n _ L1 h3 hL1
   injection h with h
   subst h;refine⟨L',?_,?_⟩
   ·simp only[List.take_left,oI,kF]
   ·rw[dN,Nat.add_sub_add_right,show p+(aX (x :: l)).length=p+x.lead.length+x.text.length+(aX l).length by rw[aX];simp only[bQ];omega]
    exact h5
