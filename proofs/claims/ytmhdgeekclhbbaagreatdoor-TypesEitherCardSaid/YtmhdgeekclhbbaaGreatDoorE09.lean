/- Walks and plain laws, without a condition. -/
import Derived.Test.YtmhdgeekclhbbaaGreatDoorE08
import Derived.Lib.SlicesCompact
import Derived.Lib.RowBridge
set_option maxHeartbeats 16000000
set_option maxRecDepth 100000
set_option linter.unusedVariables false
set_option linter.unusedSimpArgs false
namespace Go.Proofs.YtmhdgeekclhbbaaGreatDoor
variable{a b:List Tok}{l:List aH}{st:aN}{d g:Nat}{r:Int × aN}{x y:aH}
def TkA (s t:Tok):Prop:=t.kind=s.kind/\(t.text=s.text\/(s.text=oh/\t.text=jJ))
def cZ:List Tok->List Tok->Prop
 | [],[]=>True
 | s :: a,t :: b=>TkA s t/\cZ a b
 | _,_=>False
theorem cZ.len:∀ {a b:List Tok},cZ a b->b.length=a.length
 | [],[],_=>rfl
 | s :: a,t :: b,h=>by rw[dN,dN,cZ.len h.2]
 | [],_ :: _,h=>h.elim
 | _ :: _,[],h=>h.elim
theorem TkA.refl (s:Tok):TkA s s:=⟨rfl,.inl rfl⟩
theorem cZ.at:∀ {a b:List Tok},cZ a b->∀ i,TkA (a.getD i FI) (b.getD i FI)
 | [],[],_,i=>TkA.refl _
 | s :: a,t :: b,h,0=>h.1
 | s :: a,t :: b,h,i+1=>by rw[List.getD_cons_succ,List.getD_cons_succ];exact cZ.at h.2 i
 | [],_ :: _,h,_=>h.elim
 | _ :: _,[],h,_=>h.elim
theorem cZ.peek (h:cZ a b)(u:Nat):TkA (dh a u) (dh b u):=by
 unfold dh;rw[h.len];exact h.at _
theorem cZ.append:∀ {a b c d:List Tok},cZ a b->cZ c d->cZ (a++c) (b++d)
 | [],[],_,_,_,h=>h
 | _ :: _,_ :: _,_,_,h,k=>⟨h.1,cZ.append h.2 k⟩
 | [],_ :: _,_,_,h,_=>h.elim
 | _ :: _,[],_,_,h,_=>h.elim
def KT (l:List aH):Bool:=decide (oh∈l) == decide (jJ∈l)
theorem bK (A:cZ a b)(hl:KT l=true)(st:aN):bG b st l=bG a st l:=by
 obtain⟨h1,h2⟩:=A.peek st.used;unfold bG;rw[h1]
 rcases h2 with h2|⟨h2,h3⟩
 ·rw[h2]
 ·rw[h2,h3]
  rw[KT,beq_iff_eq] at hl;rw[hl]
theorem Ad (A:cZ a b)(u:Nat):(dh b u).kind=(dh a u).kind:=(A.peek u).1
theorem dZ (A:cZ a b):aD b=aD a:=by
 funext st
 unfold aD;rw[A.len]
theorem dA (A:cZ a b)(hl:KT l=true)(h:(aM a l st).2.fE=0):aM b l st=aM a l st:=by
 unfold aM at h |-;rw[bK A hl,dZ A]
 split at h
 ·rename_i hc;rw[bq hc,bq hc]
 ·exact absurd h (iH (by decide) st)
theorem nW (A:cZ a b){k:Nat}(h:(bC a k st).2.fE=0):bC b k st=bC a k st:=by
 unfold bC at h |-;rw[Ad A,dZ A]
 split at h
 ·rename_i hc;rw[bq hc,bq hc]
 ·exact absurd h (iH (by decide) st)
theorem tX {n:Nat}(h:(aV a d n st).fE=0):aV b d n st=aV a d n st:=by
 unfold aV at h |-
 split at h
 ·exact absurd h (iH (by decide) st)
 ·rename_i hn
  rw[aP hn,aP hn]
theorem Tj (l:Nat):KT (zL l)=true:=by
 match l with
 | 0=>decide
 | 1=>decide
 | 2=>decide
 | 3=>decide
 | _+4=>show KT [[42],[47],[37]]=true;decide
theorem Pz (A:cZ a b){x:Int × aN}(h:(mq a x).2.fE=0):mq b x=mq a x:=by
 unfold mq at h |-;rw[bK A (by decide),dZ A]
 split at h
 ·rename_i hc;rw[bq hc,bq hc,nW A h]
 ·rename_i hc;rw[aP hc,aP hc]
theorem xR {a b:List Tok}(A:cZ a b)(one one':aN->Option (Int × aN))(h1:∀ s k,one s=some k->dR s k.2)(h2:∀ s k,one s=some k->k.2.fE=0->one' s=some k):∀ (r:Nat) (aA:List Int) (st:aN) (l:List Int × aN),bD a one r aA st=some l->l.2.fE=0->bD b one' r aA st=some l
 | 0,aA,st,l,h,hl=>by
  rw[bD] at h |-;obtain rfl:=kE h;have hl:(if st.fE=0 then gT a 15 st else st).fE=0:=hl
  split at hl
  ·exact absurd hl (iH (by decide) st)
  ·rename_i hf;rw[aP hf,aP hf]
 | r+1,aA,st,l,h,hl=>by
  rw[bD] at h |-
  split at h
  ·rename_i hf;rw[bq hf];exact h
  ·rename_i hf
   rw[aP hf];obtain⟨k,hk,h⟩:=bS h
   have hk0:k.2.fE=0:=by
    split at h
    ·exact((aQ a k.2).trans (lZ a one h1 r _ _ _ h)).zero hl
    ·injection h with h;subst h;exact hl
   rw[h2 _ _ hk hk0,ko,bK A (by decide),dZ A]
   split at h
   ·rename_i hc;rw[bq hc];exact xR A one one' h1 h2 r _ _ _ h hl
   ·rename_i hc;rw[aP hc];exact h
theorem Ef (A:cZ a b)(one one':aN->Option (Int × aN))(h1:∀ s k,one s=some k->dR s k.2)(h2:∀ s k,one s=some k->k.2.fE=0->one' s=some k){l:List Int × aN}(h:jH a one st=some l)(hl:l.2.fE=0):jH b one' st=some l:=by
 unfold jH at h |-;rw[bK A (by decide)]
 split at h
 ·rename_i hc;rw[bq hc];exact h
 ·rename_i hc;rw[aP hc];exact xR A one one' h1 h2 _ _ _ _ h hl
theorem jX {a b:List Tok}(A:cZ a b)(d:Nat):∀ (g:Nat) (t:Task) (st:aN) (r:Int × aN),run a d g t st=some r->r.2.fE=0->run b d g t st=some r
 | 0,_,_,_,h,_=>by rw[run] at h;cases h
 | g+1,.expr aF,st,r,h,hr=>by
  have ih:=jX A d g;have ex:=aW a d g
  have hd0:(aV a d aF st).fE=0:=by
   apply LY
   intro q;rw[run,bq q] at h
   injection h with h;subst h
   exact q hr
  rw[run] at h |-;rw[tX hd0];generalize aV a d aF st=s at h hd0;rw[aP (by simp[hd0])] at h |-;rw[dZ A,bK A (l:=[aeY]) (by decide),bK A (l:=[tIf]) (by decide),bK A (l:=[L8]) (by decide)]
  split at h
  ·rename_i hc;rw[bq hc];exact ih _ _ _ h hr
  rename_i hc;rw[aP hc]
  split at h
  ·rename_i hc;rw[bq hc]
   obtain⟨x,h1,h⟩:=bS h;obtain⟨f,h2,h⟩:=bS h
   injection h with h;subst h
   have z2:=(aI _ _ _).zero hr;have y2:=(ex _ _ _ h2).zero z2;have z1:=(aK _ _ _).zero y2;have y1:=(ex _ _ _ h1).zero z1;rw[nW A ((aK _ _ _).zero y1),dA A (by decide) y1,ih _ _ _ h1 z1,ko,dA A (by decide) y2,ih _ _ _ h2 z2,ko]
  rename_i hc;rw[aP hc]
  split at h
  ·rename_i hc;rw[bq hc]
   obtain⟨x,h1,h⟩:=bS h;obtain⟨y,h2,h⟩:=bS h;obtain⟨f,h3,h⟩:=bS h
   injection h with h;subst h
   have z3:=(aI _ _ _).zero hr;have y3:=(ex _ _ _ h3).zero z3;have z2:=(aK _ _ _).zero y3;have y2:=(ex _ _ _ h2).zero z2;have z1:=(aK _ _ _).zero y2;rw[ih _ _ _ h1 z1,ko,dA A (by decide) y2,ih _ _ _ h2 z2,ko,dA A (by decide) y3,ih _ _ _ h3 z3,ko]
  rename_i hc;rw[aP hc]
  split at h
  ·rename_i hc;rw[bq hc]
   obtain⟨x,h1,h⟩:=bS h;obtain⟨f,h2,h⟩:=bS h
   injection h with h;subst h
   have z2:=(aI _ _ _).zero hr;have y2:=(ex _ _ _ h2).zero z2;have z1:=(aK _ _ _).zero y2;rw[ih _ _ _ h1 z1,ko,dA A (by decide) y2,ih _ _ _ h2 z2,ko]
  ·rename_i hc;rw[aP hc];exact ih _ _ _ h hr
 | g+1,.formula aF,st,r,h,hr=>by
  have ih:=jX A d g;have ex:=aW a d g;rw[run] at h |-;obtain⟨x,h1,h⟩:=bS h
  split at h
  ·rename_i hn
   have hd0:(aV a d (aF+1) (aD a x.2).2).fE=0:=by
    apply LY
    intro q;rw[bq q] at h
    injection h with h;subst h
    exact q hr
   rw[aP (by simp[hd0])] at h;obtain⟨y,h2,h⟩:=bS h
   injection h with h;subst h
   have z2:=(aI _ _ _).zero hr;have z1:=((aQ a x.2).trans (fH _ _ _ _)).zero hd0;rw[ih _ _ _ h1 z1,ko,dZ A,bK A (by decide),bq hn,tX hd0,aP (by simp[hd0]),ih _ _ _ h2 z2,ko]
  ·rename_i hn
   injection h with h;subst h
   rw[ih _ _ _ h1 hr,ko,bK A (by decide),aP hn]
 | g+1,.part l aF,st,r,h,hr=>by
  have ih:=jX A d g;rw[run] at h |-
  split at h
  ·rename_i hc;rw[bq hc];exact ih _ _ _ h hr
  ·rename_i hc;rw[aP hc]
   split at h
   ·rename_i hc;rw[bq hc];exact ih _ _ _ h hr
   ·rename_i hc;rw[aP hc];exact ih _ _ _ h hr
 | g+1,.row l aF,st,r,h,hr=>by
  have ih:=jX A d g;have ex:=aW a d g;rw[run] at h |-;obtain⟨x,h1,h⟩:=bS h;rw[ih _ _ _ h1 ((ex _ _ _ h).zero hr),ko];exact ih _ _ _ h hr
 | g+1,.loop l aF k,st,r,h,hr=>by
  have ih:=jX A d g;have ex:=aW a d g;rw[run] at h |-;rw[dZ A,bK A (Tj l)]
  split at h
  ·rename_i hn
   rw[bq hn];obtain⟨y,h1,h⟩:=bS h
   have z:(bM 10 [k,(aD a st).1,y.1] y.2).2.fE=0:=by
    split at h
    ·injection h with h;subst h;exact hr
    ·exact(ex _ _ _ h).zero hr
   rw[ih _ _ _ h1 ((aI _ _ _).zero z),ko]
   split at h
   ·rename_i hc;rw[bq hc];exact h
   ·rename_i hc;rw[aP hc];exact ih _ _ _ h hr
  ·rename_i hn
   rw[aP hn];exact h
 | g+1,.neg aF,st,r,h,hr=>by
  have ih:=jX A d g;rw[run] at h |-;rw[dZ A,bK A (by decide)]
  split at h
  ·rename_i hn
   rw[bq hn]
   have hd0:(aV a d (aF+1) (aD a st).2).fE=0:=by
    apply LY
    intro q;rw[bq q] at h
    injection h with h;subst h
    exact q hr
   rw[aP (by simp[hd0])] at h;obtain⟨y,h2,h⟩:=bS h
   injection h with h;subst h
   rw[tX hd0,aP (by simp[hd0]),ih _ _ _ h2 ((aI _ _ _).zero hr),ko]
  ·rename_i hn
   rw[aP hn];exact ih _ _ _ h hr
 | g+1,.factor aF,st,r,h,hr=>by
  have ih:=jX A d g;rw[run] at h |-;rw[dZ A,bK A (by decide)]
  split at h
  ·rename_i hn
   rw[bq hn]
   have hd0:(aV a d (aF+1) (aD a st).2).fE=0:=by
    apply LY
    intro q;rw[bq q] at h
    injection h with h;subst h
    exact q hr
   rw[aP (by simp[hd0])] at h;obtain⟨y,h2,h⟩:=bS h
   injection h with h;subst h
   rw[tX hd0,aP (by simp[hd0]),ih _ _ _ h2 ((aI _ _ _).zero hr),ko]
  ·rename_i hn
   rw[aP hn];exact ih _ _ _ h hr
 | g+1,.atom aF,st,r,h,hr=>by
  have ih:=jX A d g;rw[run] at h |-;rw[dZ A,Ad A,bK A (l:=[Oa,L9]) (by decide),bK A (l:=[adb]) (by decide),bK A (l:=[[40]]) (by decide)]
  split at h
  ·rename_i hc;rw[bq hc];exact h
  rename_i hc;rw[aP hc]
  split at h
  ·rename_i hc;rw[bq hc];exact h
  rename_i hc;rw[aP hc]
  split at h
  ·rename_i hc;rw[bq hc];exact h
  rename_i hc;rw[aP hc]
  split at h
  ·rename_i hc;rw[bq hc];exact h
  rename_i hc;rw[aP hc]
  split at h
  ·rename_i hc;rw[bq hc]
   obtain⟨y,h1,h⟩:=bS h
   injection h with h;subst h
   have z1:=(aI _ _ _).zero hr;rw[ih _ _ _ h1 ((aK _ _ _).zero z1),ko,dA A (by decide) z1]
  rename_i hc;rw[aP hc]
  split at h
  ·rename_i hc;rw[bq hc];exact ih _ _ _ h hr
  ·injection h with h;subst h
   exact absurd hr (iH (by decide) st)
 | g+1,.name aF,st,r,h,hr=>by
  have ih:=jX A d g;have ex:=aW a d g;rw[run] at h |-;rw[dZ A,bK A (by decide)]
  split at h
  ·rename_i hc;rw[bq hc];exact h
  ·rename_i hc;rw[aP hc]
   obtain⟨l,h1,h⟩:=bS h
   injection h with h;subst h
   have z2:=(aI _ _ _).zero hr;have z1:=(aK _ _ _).zero z2;have y1:=(kN a _ (λs k hk=>ex _ _ _ hk) _ _ h1).zero z1;rw[Pz A ((aK _ _ _).zero y1),dA A (by decide) y1,Ef A _ (λs=>run b d g (.expr (aF+1)) s) (λs k hk=>ex _ _ _ hk) (λs k hk hz=>ih _ _ _ hk hz) h1 z1,ko,dA A (by decide) z2]
theorem Eh (A:cZ a b)(h:(dS a st).2.fE=0):jC b st=jC a st/\pX b st=pX a st/\dS b st=dS a st:=by
 have z1:(pX a st).2.fE=0:=(aI _ _ _).zero h;have e1:jC b st=jC a st:=dA A (by decide) ((aK _ _ _).zero z1)
 have e2:pX b st=pX a st:=by rw[pX,e1];exact dA A (by decide) z1
 exact⟨e1,e2,by rw[dS,dS,e2]⟩
theorem JZ (A:cZ a b)(h:iR a d g st=some r)(hr:r.2.fE=0):iR b d g st=some r:=by
 unfold iR at h |-;obtain⟨f,h1,h⟩:=bS h;obtain rfl:=kE h;have z1:=(aI _ _ _).zero hr;have h0:(lC f.2 st.aC).fE=0:=(aK _ _ _).zero z1;rw[dZ A,jX A d g _ _ _ h1 h0,ko,dA A (by decide) z1]
theorem BG (A:cZ a b){aA:List Int}{r:List Int × aN}(h:gL a d g aA st=some r)(hr:r.2.fE=0):gL b d g aA st=some r:=by
 unfold gL at h |-
 split at h
 ·rename_i hc
  obtain⟨e1,_,e2⟩:=Eh A hc.1;rw[e2,e1,bK A (by decide),bq hc];obtain⟨n,h1,h⟩:=bS h;obtain rfl:=kE h;rw[JZ A h1 hr,ko]
 ·rename_i hc
  obtain rfl:=kE h;obtain⟨e1,_,e2⟩:=Eh A hr;rw[e2,e1,bK A (by decide),aP hc]
theorem MJ (A:cZ a b)(st:aN)(r:Int × aN)(h:iN a d g st=some r)(hr:r.2.fE=0):iN b d g st=some r:=by
 unfold iN at h |-;obtain⟨l,h1,h⟩:=bS h;obtain rfl:=kE h;have z1:=(aI _ _ _).zero hr;rw[nW A ((iO h1).zero z1),BG A h1 z1,ko]
theorem J2 (A:cZ a b)(st:aN)(r:Int × aN)(h:(λs=>some (jN a s)) st=some r)(hr:r.2.fE=0):(λs=>some (jN b s)) st=some r:=by
 have h:some (jN a st)=some r:=h;obtain rfl:=kE h;have z1:(aM a [[59]] (bC a 1 (aD a st).2).2).2.fE=0:=(aI _ _ _).zero hr;show some (jN b st)=_;rw[jN,jN,dZ A,nW A ((aK _ _ _).zero z1),dA A (by decide) z1]
theorem Tk (A:cZ a b)(st:aN)(r:Int × aN)(h:vZ a d g st=some r)(hr:r.2.fE=0):vZ b d g st=some r:=by
 unfold vZ at h |-;obtain⟨l,h1,h⟩:=bS h;obtain⟨t,h2,h⟩:=bS h;obtain⟨f,h3,h⟩:=bS h;obtain rfl:=kE h;have z4:=(aI _ _ _).zero hr;have z3:f.2.fE=0:=(aK _ _ _).zero z4;have y3:=(aW _ _ _ _ _ _ h3).zero z3;have z2:t.2.fE=0:=(aK _ _ _).zero y3;have y2:=(iO h2).zero z2;have z1:l.2.fE=0:=(aK _ _ _).zero y2;have y1:(iA a st).2.fE=0:=(kN a _ jE _ _ h1).zero z1;have y0:(jW a st).2.fE=0:=(aK _ _ _).zero y1;have yf:(qO a st).2.fE=0:=(eu _ _ _).zero y0
 have e0:mY b st=mY a st:=by rw[mY,mY,bK A (by decide),dZ A]
 have e1:qO b st=qO a st:=by rw[qO,e0];exact dA A (by decide) yf
 have e2:jW b st=jW a st:=by rw[jW,e1];exact nW A y0
 have e3:iA b st=iA a st:=by rw[iA,e2];exact dA A (by decide) y1
 rw[e0,e1,e2,e3,Ef A _ _ jE (MJ A) h1 z1,ko,dA A (by decide) y2,BG A h2 z2,ko,dA A (by decide) y3,jX A d g _ _ _ h3 z3,ko,dA A (by decide) z4]
theorem Ae {a b:List Tok}(A:cZ a b){one one':aN->Option (Int × aN)}{first:List aH}(hf:KT first=true)(h1:∀ s k,one s=some k->dR s k.2)(h2:∀ s k,one s=some k->k.2.fE=0->one' s=some k):∀ (r:Nat) (aA:List Int) (st:aN) (l:List Int × aN),jD a one first r aA st=some l->l.2.fE=0->jD b one' first r aA st=some l
 | 0,aA,st,l,h,hl=>by
  rw[jD] at h |-;obtain rfl:=kE h;have hl:(if st.fE=0/\bG a st first=true then gT a 15 st else st).fE=0:=hl;rw[bK A hf]
  split at hl
  ·exact absurd hl (iH (by decide) st)
  ·rename_i hc;rw[aP hc,aP hc]
 | r+1,aA,st,l,h,hl=>by
  rw[jD] at h |-;rw[bK A hf]
  split at h
  ·rename_i hc
   rw[bq hc];obtain⟨k,hk,h⟩:=bS h;rw[h2 _ _ hk ((mK h1 r _ _ _ h).zero hl),ko];exact Ae A hf h1 h2 r _ _ _ h hl
  ·rename_i hc
   rw[aP hc];exact h
theorem PD (A:cZ a b)(h:nV a d g st=some r)(hr:r.2.fE=0):nV b d g st=some r:=by
 unfold nV at h |-;obtain⟨x,h1,h⟩:=bS h;obtain⟨y,h2,h⟩:=bS h;obtain rfl:=kE h;have z3:=(aI _ _ _).zero hr;have z2:y.2.fE=0:=(eu _ _ _).zero z3;have z1:x.2.fE=0:=(mK r9 _ _ _ _ h2).zero z2;rw[Ae A (by decide) (tT a) (J2 A) _ _ _ _ h1 z1,ko,Ae A (by decide) r9 (Tk A) _ _ _ _ h2 z2,ko,nW A z3]
theorem PG {S S':aH}{aj:List Nd}(hb:bV S'=.ok b)(A:cZ a b)(h:gF S d=.good a aj):gF S' d=.good b aj:=by
 unfold gF at h |-
 cases hl:bV S with
 | error x=>rw[hl] at h;cases h
 | ok l =>
  rw[hl] at h;rw[hb];simp only at h |-
  cases hm:nV l d (vX l) kT with
  | none=>rw[hm] at h;cases h
  | some x =>
   rw[hm] at h;simp only[CP] at h
   split at h
   ·rename_i hx
    injection h with h1 h2
    subst h1 h2
    have hg:vX b=vX l:=by rw[vX,vX,A.len]
    rw[hg,PD A hm hx];simp only[CP];rw[bq hx]
   ·cases h
theorem qZ (h1:x<=y)(h2:y<=x):x=y:=List.le_antisymm h1 h2
theorem KU {z:aH}(h1:x<=y)(h2:y<=z):x<=z:=List.le_trans h1 h2
theorem Xi (x y:aH):x<=y\/y<=x:=List.le_total x y
theorem MK:x<y↔x<=y/\x≠y:=by
 constructor
 ·intro h
  exact⟨List.le_of_lt h,λq=>by subst q;exact List.lt_irrefl _ h⟩
 ·rintro⟨h1,h2⟩
  apply LY
  intro q;exact h2 (qZ h1 (List.not_lt.1 q))
theorem Xj {z:aH}(h1:x<=y)(h2:y<z):x<z:=by
 rw[MK] at h2 |-;exact⟨KU h1 h2.1,λq=>by subst q;exact h2.2 (qZ h2.1 h1)⟩
def gU (l:List aH):List aH:=l.mergeSort λx y=>decide (x<=y)
theorem Tm (l:List aH):(gU l).Perm l:=List.mergeSort_perm _ _
theorem rP (l:List aH):(gU l).length=l.length:=List.length_mergeSort l
theorem MN (l:List aH):(gU l).Pairwise (·<=·):=by
 have:=List.pairwise_mergeSort (le:=λx y:aH=>decide (x<=y)) (λa b c h1 h2=>by simp only[uK] at *;exact KU h1 h2) (λa b=>by simp only[Bool.or_eq_true,uK];exact Xi a b) l
 exact this.imp λh=>by simpa using h
def gB (l:List aH):List aH:=Lib.compact (gU l)
theorem qQ (d:Array aH):∀ (m:Nat) (j:Nat),j<m->d[j]!∈Lib.compactUpTo d m
 | 0,j,h=>absurd h (by omega)
 | m+1,j,h=>by
  rw[Lib.compactUpTo_succ,List.mem_append]
  by_cases q:j<m
  ·exact .inl (qQ d m j q)
  ·obtain rfl:j=m:=by omega
   by_cases k:Lib.keeps d j=true
   ·rw[bq k];exact .inr (by simp)
   ·left
    unfold Lib.keeps at k;simp only[uK,not_or,Classical.not_not,ne_eq] at k;rw[k.2];exact qQ d j (j - 1) (by omega)
theorem xS (d:Array aH)(m:Nat)(x:aH)(h:x∈Lib.compactUpTo d m):∃ j,j<m/\x=d[j]!:=by
 unfold Lib.compactUpTo at h;obtain⟨j,hj,rfl⟩:=List.mem_map.1 h;exact⟨j,List.mem_range.1 (List.mem_filter.1 hj).1,rfl⟩
theorem abm:x∈gB l↔x∈l:=by
 rw[<- (Tm l).mem_iff];unfold gB Lib.compact
 constructor
 ·intro h
  obtain⟨j,hj,rfl⟩:=xS _ _ _ h;rw[getElem!_pos _ _ (by simpa using hj)]
  simp
 ·intro h
  obtain⟨j,hj,rfl⟩:=List.getElem_of_mem h;have:=qQ (gU l).toArray (gU l).length j hj;rw[getElem!_pos _ _ (by simpa using hj)] at this
  simpa using this
theorem sw (zs:List aH)(hs:zs.Pairwise (·<=·)):∀ m,m<=zs.length->(Lib.compactUpTo zs.toArray m).Pairwise (· < ·)
 | 0,_=>by simp[Lib.compactUpTo]
 | m+1,h=>by
  rw[Lib.compactUpTo_succ,List.pairwise_append];refine⟨sw zs hs m (by omega),by split<;>simp,λx hx y hy=>?_⟩
  split at hy
  ·rename_i k
   rw[DN] at hy;subst hy;obtain⟨j,hj,rfl⟩:=xS _ _ _ hx;unfold Lib.keeps at k;rw[uK] at k;have hne:zs.toArray[m]!≠zs.toArray[m - 1]!:=k.resolve_left (by omega)
   have e:∀ i,(hi:i<zs.length)->zs.toArray[i]! = zs[i]:=λi hi=>by rw[getElem!_pos _ _ (by simpa using hi)];simp
   rw[e m (by omega),e (m - 1) (by omega)] at hne;rw[e j (by omega),e m (by omega)]
   have h1:zs[j]<=zs[m - 1]:=by
    by_cases q:j=m - 1
    ·subst q;exact List.le_refl _
    ·exact List.pairwise_iff_getElem.1 hs j (m - 1) (by omega) (by omega) (by omega)
   have h2:zs[m - 1]<=zs[m]:=List.pairwise_iff_getElem.1 hs (m - 1) m (by omega) (by omega) (by omega);exact Xj h1 (MK.2 ⟨h2,λq=>hne q.symm⟩)
  ·cases hy
theorem xU (l:List aH):(gB l).Pairwise (· < ·):=sw _ (MN l) _ (bI _)
theorem vg (l:List aH):(gB l).length<=l.length:=by
 have:=Lib.compact_length_le (gU l);rw[rP] at this;exact this
theorem PI:gB []=[]:=List.eq_nil_of_length_eq_zero (by have:=vg [];simpa using this)
open Go.RowKit
open Go.RowKit
open Go.RowKit
open Go.RowKit
open Go.RowKit
open Go.RowKit
inductive PZ where
 | mk (op:Int) (name module:aH) (num:Int) (yes:Bool) (aA:List PZ) (at_:Int)
def PZ.op:PZ->Int | .mk o _ _ _ _ _ _=>o
def PZ.name:PZ->aH | .mk _ n _ _ _ _ _=>n
def PZ.module:PZ->aH | .mk _ _ m _ _ _ _=>m
def PZ.num:PZ->Int | .mk _ _ _ n _ _ _=>n
def PZ.yes:PZ->Bool | .mk _ _ _ _ y _ _=>y
def PZ.aA:PZ->List PZ | .mk _ _ _ _ _ k _=>k
def PZ.at_:PZ->Int | .mk _ _ _ _ _ _ a=>a
def bZ (w:aH):Bool:=match bV w with
 | .ok [t,_]=>decide (t.kind=1) && decide (t.text=w)
 | _=>false
def KV (op:Int):Int :=
 if op=5 then 8 else if op=6 then 4 else if op=7\/op=8 then 6 else if 9<=op/\op<=11 then 7 else if 12<=op/\op<=17 then 5
 else if op=18 then 3 else if op=19 then 2 else if op=20 then 1 else if 21<=op/\op<=23 then 0 else 9
def xV (op:Int):Int:=if KV op=5 then 6 else if KV op=1 then 2 else KV op
def BH (op:Int):Int:=if KV op=1 then 1 else KV op+1
def countB (op:Int)(n:Nat):Bool :=
 if op<=4 then decide (n=0) else if op<=6 then decide (n=1) else if op<=20\/op=22\/op=23 then decide (n=2) else if op=21 then decide (n=3) else decide (n<=8)
def p9 (op:Int)(nm md:aH):Bool :=
 if op=3\/op=22 then bZ nm && decide (md=[]) else if op=24 then bZ nm && (decide (md=[]) || bZ md) else decide (nm=[]) && decide (md=[])
def tY (op num:Int)(yes:Bool):Bool :=
 if op=1 then decide (0<=num) && decide ((kr num).length<=60) && !yes else decide (num=0) && (decide (op=2) || !yes)
def Tn (fm:Bool)(op:Int):Bool:=if fm=true then decide (op<=20) else decide (op≠4)
def PK (fm:Bool)(op:Int)(nm md:aH)(num:Int)(yes:Bool)(n:Nat):Bool :=
 decide (1<=op) && decide (op<=24) && Tn fm op && p9 op nm md && tY op num yes && countB op n
mutual
def PZ.right (fm:Bool):PZ->Bool
 | .mk op nm md num yes aA _=>PK fm op nm md num yes aA.length && jO fm aA
def jO (fm:Bool):List PZ->Bool
 | []=>true
 | e :: l=>e.right fm && jO fm l
end
def vk (op:Int):aH:=([[43],[45],[42],[47],[37],[61],[60,62],[60],[60,61],[62],[62,61],[38,38],[124,124],[61,62]]:List aH).getD (op.toNat - 7) []
def tC (least:Int)(k:Int × aH):aH:=if KV k.1<least then [40]++k.2++[41] else k.2
def bR:List aH->aH
 | []=>[]
 | [t]=>t
 | t :: s :: l=>t++[44,32]++bR (s :: l)
def pE (op:Int)(nm md:aH)(num:Int)(yes:Bool)(ks:List (Int × aH)):aH :=
 if op=1 then kr num
 else if op=2 then (if yes=true then [116,114,117,101] else [102,97,108,115,101])
 else if op=3 then nm
 else if op=4 then [114,101,115]
 else if op=5 then [45]++tC 9 (ks.getD 0 (0,[]))
 else if op=6 then [110,111,116,32]++tC 4 (ks.getD 0 (0,[]))
 else if op=21 then [105,102,32]++(ks.getD 0 (0,[])).2++[32,116,104,101,110,32]++(ks.getD 1 (0,[])).2++[32,101,108,115,101,32]++(ks.getD 2 (0,[])).2
 else if op=22 then [108,101,116,32]++nm++[32,61,32]++(ks.getD 0 (0,[])).2++[32,105,110,32]++(ks.getD 1 (0,[])).2
 else if op=23 then [97,115,115,101,114,116,32]++(ks.getD 0 (0,[])).2++[32,105,110,32]++(ks.getD 1 (0,[])).2
 else if op=24 then (if md=[] then [] else md++[46])++nm++[40]++bR (ks.map Prod.snd)++[41]
 else tC (xV op) (ks.getD 0 (0,[]))++[32]++vk op++[32]++tC (BH op) (ks.getD 1 (0,[]))
mutual
def PZ.text:PZ->aH
 | .mk op nm md num yes aA _=>pE op nm md num yes (je aA)
def je:List PZ->List (Int × aH)
 | []=>[]
 | e :: l=>(e.op,e.text) :: je l
end
theorem PZ.KW (fm:Bool)(e:PZ):e.right fm=(PK fm e.op e.name e.module e.num e.yes e.aA.length && jO fm e.aA):=by cases e;rw[PZ.right];rfl
theorem PZ.qH (e:PZ):e.text=pE e.op e.name e.module e.num e.yes (je e.aA):=by cases e;rw[PZ.text];rfl
theorem xW {fm:Bool}:∀ {l:List PZ},jO fm l=true↔∀ e∈l,e.right fm=true
 | []=>by simp[jO]
 | e :: l=>by rw[jO,qM,xW];simp
theorem sD:∀ l:List PZ,je l=l.map λe=>(e.op,e.text)
 | []=>rfl
 | e :: l=>by rw[je,sD l];rfl
theorem nA {l:List PZ}{i:Nat}(h:i<l.length):(je l).getD i (0,[])=(l[i].op,l[i].text):=by
 rw[sD,Fb,abl,AB h];rfl
mutual
def PE.z:PE->PZ
 | .mk op nm md num _ yes aA a=>.mk op nm md num yes (Ht aA) a
def Ht:List PE->List PZ
 | []=>[]
 | e :: l=>e.z :: Ht l
end
theorem MO:∀ l:List PE,Ht l=l.map PE.z
 | []=>rfl
 | e :: l=>by rw[Ht,MO l];rfl
open Go.RowKit Go
variable{ws:List Nat}{w w0 w':World}{P:Nat->Prop}{k b:Nat}{e:Ending}{x:PE}{l:aH}
theorem Xk (a:aH)(s:ByteArray):(a == s.toList)=decide (a=s.data.toList):=by
 rw[Go.ByteArray.toList_eq]
 by_cases h:a=s.data.toList
 ·rw[kS h,beq_iff_eq];exact h
 ·rw[fu h,<- wT,beq_iff_eq];exact h
theorem abq (k:Nat):((k:Int) == 1)=decide (k=1):=by
 by_cases h:k=1
 ·subst h;rfl
 ·rw[fu h];exact Fa.2 (by omega)
theorem Tp {s:aH}{l:List Tok}(h:bV s=.ok l)(hl:l.length≠2):bZ s=false:=by
 unfold bZ;rw[h]
 match l,hl with
 | [],_=>rfl
 | [_],_=>rfl
 | [_,_],h=>exact absurd rfl h
 | _ :: _ :: _ :: _,_=>rfl
theorem nC (s:ByteArray)(w:World)(hs:s.size<=1099511627776) :
  Calls Tryz.prog 42 #[.string s] w λe w'=>e=.returned (.bool (bZ s.data.toList))/\Below w.heap.size w w':=by
 have hL:=Mg s w hs;unfold U6 at hL
 cases hl:bV s.data.toList with
 | error x =>
  rw[hl] at hL
  have hp:bZ s.data.toList=false:=by unfold bZ;rw[hl]
  have h0:((x.1:Int) == 0)=false:=Fa.2 (by have:=(vN hl).2;omega);rw[hp];have HL:=ay hL;clear hl hp hL;go_enter Tryz.func42,Tryz.ntmps42;go_wp2_with (go_at_call 69;refine HL.out.mono ?_;rintro e w1 ⟨hb1,rfl⟩);go_ret;exact⟨rfl,hb1.trans ((aB w1 _).mono hb1.size)⟩
 | ok l =>
  rw[hl] at hL
  by_cases h2:l.length=2
  ·match l,h2 with
   | [t,u],_ =>
    have hp:bZ s.data.toList=(decide (t.kind=1) && decide (t.text=s.data.toList)):=by unfold bZ;rw[hl]
    rw[hp];have HL:=ay hL;clear hl hp hL;have hk1:=abq t.kind;have hs1:=Xk t.text s;generalize decide (t.kind=1)=kb at hk1 |-;generalize decide (t.text=s.data.toList)=tb at hs1 |-;go_enter Tryz.func42,Tryz.ntmps42
    go_upto_region 2 with (go_at_call 69;refine HL.out.mono ?_;rintro e w1 ⟨hb1,v,rfl,hv⟩;obtain⟨ao,cap,rfl,hcap,hf⟩:=hv.form (λ_=>rfl);obtain⟨b,off,rfl,hb,hcell⟩:=hf (by simp);have hal:=aB w1 (.cells #[.int .i64 0,.int .i64 0] 71);have x0:=(hal.cell (p:=⟨b,off,none⟩) hb).trans (by simpa using hcell 0 0 _ (by simp) rfl);have x2:=(hal.cell (p:=⟨b,off+2,none⟩) hb).trans (by simpa using hcell 0 2 _ (by simp) rfl))
    clear hcell hf hv
    cases kb<;>cases tb<;>(go_wp2;go_ret;exact⟨rfl,hb1.trans (hal.mono hb1.size)⟩)
  ·have hp:=Tp hl h2
   have h2I:((l.length:Int) == 2)=false:=Fa.2 (by omega);rw[hp];have HL:=ay hL;clear hl hp hL h2;go_enter Tryz.func42,Tryz.ntmps42;go_wp2_with (go_at_call 69;refine HL.out.mono ?_;rintro e w1 ⟨hb1,v,rfl,hv⟩;obtain⟨ao,cap,rfl,hcap,hf⟩:=hv.form (λ_=>rfl);clear hf hv);go_ret;exact⟨rfl,hb1.trans ((aB w1 _).mono hb1.size)⟩
def Wd (P:Nat->Prop)(w:World)(m:Value)(ws:List Nat):Prop:=pO P w m 1 ws.length (ws.map λd=>.int .u32 (d:Nat))
theorem Wd.form {m:Value}(h:Wd P w m ws):∃ ao cap,m=.slice ao ws.length cap/\ws.length<=cap /\
  (0<ws.length->∃ b off,ao=some ⟨b,off,none⟩/\P b/\b<w.heap.size/\∀ j,(hj:j<ws.length)->w.cell? ⟨b,off+j,none⟩=some (.int .u32 (ws[j]:Nat))):=by
 obtain⟨ao,cap,hv,hn,hl,hc⟩:=h;refine⟨ao,cap,hv,hn,λh0=>?_⟩;obtain⟨b,off,ha,hP,hlt,hcell⟩:=hc h0;exact⟨b,off,ha,hP,hlt,λj hj=>by rw[hcell j (by simpa using hj)];simp⟩
theorem Wd.take {P:Nat->Prop}{w:World}{ao:Option Addr}{cap k:Nat}{ws:List Nat}(h:Wd P w (.slice ao ws.length cap) ws)(hk:k<=ws.length):Wd P w (.slice ao k cap) (ws.take k):=by
 obtain⟨ao',jc,hv,hn,hl,hc⟩:=h;simp only[Value.slice.injEq] at hv;obtain⟨rfl,_,rfl⟩:=hv
 have hlen:(ws.take k).length=k:=by rw[qX];omega
 refine⟨ao,cap,by rw[hlen],by omega,by simp,λh0=>?_⟩;obtain⟨b,off,ha,hP,hlt,hcell⟩:=hc (by omega);refine⟨b,off,ha,hP,hlt,λj hj=>?_⟩;simp only[vL] at hj;rw[hcell j (by simp only[vL];omega)]
 simp
theorem PL (ws:List Nat)(k:Nat)(hk:k<=ws.length)(h0:∀ j,k<=j->(h:j<ws.length)->ws[j]=0)(h1:∀ j,j+1=k->(h:j<ws.length)->ws[j]≠0):(dK ws).length=k/\ws.take k=dK ws:=by
 obtain⟨n,n1,n2,n3,n4⟩:=vQ ws
 have:n=k:=by
  rcases Nat.lt_trichotomy n k with h|h|h
  ·exact absurd (n3 (k - 1) (by omega) (by omega)) (h1 (k - 1) (by omega) (by omega))
  ·exact h
  ·exact absurd (h0 (n - 1) (by omega) (by omega)) (n4 (n - 1) (by omega) (by omega))
 subst this;exact⟨by rw[n2,qX];omega,n2.symm⟩
theorem CY (P:Nat->Prop)(ao:Option Addr)(cap:Nat)(ws:List Nat)(w:World)(h:Wd P w (.slice ao ws.length cap) ws)(hn:ws.length<=1099511627776) :
  Calls Tryz.prog 178 #[.slice ao ws.length cap] w λe w'=>e=.returned (.slice ao (dK ws).length cap)/\w'=w:=by
 obtain⟨ao',jc,hv,hc1,hf⟩:=h.form;simp only[Value.slice.injEq] at hv;obtain⟨rfl,-,rfl⟩:=hv;have HF:=ay hf;clear hf h;go_enter Tryz.func178,Tryz.ntmps178;go_wp2
 go_loop [3] (λq=>∃ k:Nat,k<=ws.length/\q=.int .i64 k/\∀ j,k<=j->(hj:j<ws.length)->ws[j]=0) (λq=>(intOf q).toNat)
 case atStart=>exact⟨ws.length,bI _,rfl,λj h1 h2=>absurd h2 (by omega)⟩
 case round =>
  obtain⟨k,hk,rfl,h0⟩:=hrel;have H0:=ay h0;clear h0
  by_cases hk0:k=0
  ·subst hk0
   obtain⟨t1,_⟩:=PL ws 0 (mD _) H0.out (λj hj=>by omega);have HT:=ay t1;clear t1;go_wp2;go_ret;exact⟨by rw[HT.out];rfl,rfl⟩
  ·obtain⟨k',rfl⟩:∃ k',k=k'+1:=⟨k - 1,by omega⟩
   obtain⟨b,off,rfl,_,_,hcell⟩:=HF.out (by omega);have hx:=hcell k' (by omega)
   have hw:(((k'+1:Nat):Int) - 1)=(k':Int):=by omega
   have qF:(k':Int)<(ws.length:Int):=by omega
   have hpos:(0:Int)<((k'+1:Nat):Int):=by omega
   by_cases hz:ws[k']=0
   ·have HZ:=ay hz
    rw[hz] at hx;clear hz hcell;go_wp2
    go_round
    case rel=>exact⟨k',by omega,by go_num,λj h1 h2=>by
     rcases Nat.lt_or_ge k' j with h|h
     ·exact H0.out j h h2
     ·obtain rfl:j=k':=by omega
      exact HZ.out⟩
    case measure=>simp[intOf]
   ·have hz1:((ws[k']:Int) == 0)=false:=by simpa using hz
    have hz2:∀ j,j+1=k'+1->(h:j<ws.length)->ws[j]≠0:=λj hj hj2=>by
     have e:j=k':=by omega
     subst e;exact hz
    obtain⟨t1,_⟩:=PL ws (k'+1) hk H0.out hz2;clear hz2;have HT:=ay t1;clear t1 hz hcell;generalize ws[k']=d at hx hz1
    have hkc:((k'+1:Nat):Int)<=(cap:Int):=by omega
    go_wp2;go_ret;exact⟨by rw[HT.out];rfl,rfl⟩
theorem Tryz.Vm:(Tryz.prog.info? 255).map (λi=>(i.zero,i.size,i.bytes))=some (some (.int .u32 0),1,4):=by kernel_rfl
theorem MP {α:Type}{l t:List α}{r:α}(h:l=l.take k++r :: t)(hk:(l.take k).length=k):l.take (k+1)=l.take k++[r]/\l=l.take (k+1)++t:=by
 have h1:l.take (k+1)=l.take k++[r]:=by
  conv=>lhs;rw[h]
  rw[List.take_append,hk,DL (by omega),Nat.add_sub_cancel_left,List.take_succ_cons,List.take_zero]
 exact⟨h1,by rw[h1,om];exact h⟩
theorem KX (c x b:Nat):((c:Int)+(x:Int) * (b:Int)) % 4294967296=(((c+x * b) % 4294967296:Nat):Int)/\((c:Int)+(x:Int) * (b:Int)) / 4294967296=(((c+x * b) / 4294967296:Nat):Int):=by
 rw[<- Int.natCast_mul];generalize x * b=y;omega
def ag3 (ws:List Nat)(w:World)(e:Ending)(w':World):Prop:=∃ v,e=.returned v/\w'.ownsRow w.heap.size 255 1 v ws.length (ws.map λd=>.int .u32 (d:Nat))/\Below w.heap.size w w'
theorem Xl (P:Nat->Prop)(m:Value)(ws:List Nat)(Ma more:Nat)(w:World)(h:Wd P w m ws)(hw:∀ x∈ws,x<4294967296)(hb:Ma<=1000000000)(hm:more<=1000000000)(hn:ws.length<=1000) :
  Calls Tryz.prog 239 #[m,.int .u64 Ma,.int .u64 more] w (ag3 (gu Ma ws more) w):=by
 obtain⟨i0,hi,hz0,hz1,hz2⟩:=info_parts Tryz.Vm;obtain⟨ao,cap,rfl,hc1,hf⟩:=h.form;have HF:=ay hf;have HW:=ay hw;clear hf h hw;obtain⟨wm,hmk,hown0,ag4⟩:=run_make_own (P:=Tryz.prog) w w.heap.size 60 255 i0 (.int .u32 0) 1 Tryz.underlying60 hi hz0 hz1 .i64 .i64 (ws.length+1) (by rw[hz2];omega) (by unfold maxLen;omega) (bI _);rw[show (((ws.length+1:Nat)):Int)=(ws.length:Int)+1 by omega] at hmk;have hbm:Below w.heap.size w wm:=(bY _ _).grown ag4 (bI _) (λk hk=>by cases hk);clear ag4;go_enter Tryz.func239,Tryz.ntmps239;go_wp2;clear hmk
 go_loopw [2,7,16] (λmv v q wr=>∃ k c:Nat,k<=ws.length/\q=.int .i64 k/\mv=.int .u64 c/\c<=1000000000/\wr.ownsRow w.heap.size 255 1 v k (((gu Ma ws more).take k).map λd=>.int .u32 (d:Nat))/\gu Ma ws more=(gu Ma ws more).take k++gu Ma (ws.drop k) c/\Below w.heap.size w wr) (λ_ _ q _=>ws.length - (intOf q).toNat)
 case atStart=>exact⟨0,more,mD _,rfl,rfl,hm,hown0,by simp,hbm⟩
 case round =>
  obtain⟨k,c,hk,rfl,rfl,hc,hown,heq,hbl⟩:=hrel;have hz:=hbl.size
  by_cases hlt:k<ws.length
  ·obtain⟨b,off,rfl,_,hb',hcell⟩:=HF.out (by omega)
   have hx:=(hbl.cell (p:=⟨b,off+k,none⟩) hb').trans (hcell k hlt);have hxw:=HW.out ws[k] (oQ hlt)
   have qF:(k:Int)<(ws.length:Int):=by omega
   have hdr:ws.drop k=ws[k] :: ws.drop (k+1):=List.drop_eq_getElem_cons hlt;rw[hdr,gu] at heq;generalize ws[k]=x at hx hxw heq;have hcar:=Oe hxw hb hc;have hE:=ay heq;clear heq hcell hdr
   have hlt2:((gu Ma ws more).take k).length=k:=by rw[qX,lI];omega
   have HL:=ay hlt2;clear hlt2;go_wp2_with (at_builtin;refine wpList_append_own _ rfl _ _ 60 rfl w.heap.size 255 i0 (.int .u32 0) 1 4 Tryz.underlying60 hi hz0 hz1 hz2 rfl (by decide) _ _ _ rfl (hown.alloc _) ⟨wr.heap.size,0,none⟩ 1 1 [.int .u32 (((c:Int)+(x:Int) * (Ma:Int)) % 4294967296)] rfl rfl ?c1 ?c2 ?c3 ?c4 ?c5 ?_)
   case c1 =>
    intro j' u hj';exact wS (cs:=#[.int .u32 (((c:Int)+(x:Int) * (Ma:Int)) % 4294967296)]) (t:=255) (fr:=(0,0)) (aZ wr _) j' u (by simpa using hj')
   case c2=>simp[Value.oneCell']
   case c3=>unfold maxLen;omega
   case c4=>omega
   case c5=>simp;omega
   intro v' w2 hown2 hgrow2 _;have hb2:Below w.heap.size w w2:=(hbl.alloc hz _).grown hgrow2 (by simp;omega) (λq hq=>by have:=(hown.lt q hq).1;omega);have H2:=ay hown2;clear hgrow2 hown2 hown;go_wp2
   go_roundw
   case rel =>
    refine⟨k+1,(c+x * Ma) / 4294967296,by omega,by go_num,?_,hcar.2,?_,?_,hb2⟩
    ·rw[(KX c x Ma).2]
    ·rw[(MP hE.out HL.out).1,zJ,List.map_singleton,<- (KX c x Ma).1,List.map_take]
     exact H2.out
    ·exact(MP hE.out HL.out).2
   case measure=>simp[intOf];omega
  ·have hkl:k=ws.length:=by omega
   subst hkl;rw[List.drop_length,gu] at heq
   have hlt2:((gu Ma ws more).take ws.length).length=ws.length:=by rw[qX,lI];omega
   have hfin:=(MP heq hlt2).1;rw[DL (by rw[lI];exact bI _)] at hfin;have HE:=ay hfin;clear hfin hlt2 heq;generalize (gu Ma ws more).take ws.length=acc at hown HE;go_wp2_with (at_builtin;refine wpList_append_own _ rfl _ _ 60 rfl w.heap.size 255 i0 (.int .u32 0) 1 4 Tryz.underlying60 hi hz0 hz1 hz2 rfl (by decide) _ _ _ rfl (hown.alloc _) ⟨wr.heap.size,0,none⟩ 1 1 [.int .u32 (c:Int)] rfl rfl ?e1 ?e2 ?e3 ?e4 ?e5 ?_)
   case e1 =>
    intro j' u hj';exact wS (cs:=#[.int .u32 (c:Int)]) (t:=255) (fr:=(0,0)) (aZ wr _) j' u (by simpa using hj')
   case e2=>simp[Value.oneCell']
   case e3=>unfold maxLen;omega
   case e4=>omega
   case e5=>simp;omega
   intro v' w2 hown2 hgrow2 _;have hb2:Below w.heap.size w w2:=(hbl.alloc hz _).grown hgrow2 (by simp;omega) (λq hq=>by have:=(hown.lt q hq).1;omega);have H2:=ay hown2;clear hgrow2 hown2 hown;go_wp2;go_ret;refine⟨v',rfl,?_,hb2⟩;rw[HE.out,zJ,List.map_singleton,Nat.mod_eq_of_lt (show c<4294967296 by omega),<- Nat.mod_eq_of_lt (show c<4294967296 by omega),<- HE.out,lI,Nat.mod_eq_of_lt (show c<4294967296 by omega)];exact H2.out
theorem Af {c0 c1 c2 c3:Value}{T:TypeId}(h:w.heap[b]?=some (.cells #[c0,c1,c2,c3] T (0,0)))(v0 v1 v2 v3:Value) :
  ((((w.setCell ⟨b,0,none⟩ v0).setCell ⟨b,1,none⟩ v1).setCell ⟨b,2,none⟩ v2).setCell ⟨b,3,none⟩ v3).heap[b]?=some (.cells #[v0,v1,v2,v3] T (0,0)) /\
  (∀ k,k≠b->((((w.setCell ⟨b,0,none⟩ v0).setCell ⟨b,1,none⟩ v1).setCell ⟨b,2,none⟩ v2).setCell ⟨b,3,none⟩ v3).heap[k]?=w.heap[k]?) /\
  ((((w.setCell ⟨b,0,none⟩ v0).setCell ⟨b,1,none⟩ v1).setCell ⟨b,2,none⟩ v2).setCell ⟨b,3,none⟩ v3).heap.size=w.heap.size:=by
 have h1:=kG w b 0 _ _ v0 h;have h2:=kG _ b 1 _ _ v1 h1;have h3:=kG _ b 2 _ _ v2 h2;have h4:=kG _ b 3 _ _ v3 h3;refine⟨h4,λk hk=>?_,by simp⟩;rw[qo _ _ _ _ hk,qo _ _ _ _ hk,qo _ _ _ _ hk,qo _ _ _ _ hk]
def Xm (w:World)(b:Nat)(v0 v1 v2 v3 v4 v5 v6 v7:Value):World :=
 (((((((w.setCell ⟨b,0,none⟩ v0).setCell ⟨b,1,none⟩ v1).setCell ⟨b,2,none⟩ v2).setCell ⟨b,3,none⟩ v3).setCell ⟨b,4,none⟩ v4).setCell ⟨b,5,none⟩ v5).setCell ⟨b,6,none⟩ v6).setCell ⟨b,7,none⟩ v7
theorem xX (P:Nat->Prop)(w:World)(b:Nat)(v0 v1 v2 v3 v4 v5 v6 v7:Value)(hP:∀ k,P k->k≠b):bA P w (Xm w b v0 v1 v2 v3 v4 v5 v6 v7):=by
 have hs:∀ (W:World) (j:Nat) (u:Value),bA P W (W.setCell ⟨b,j,none⟩ u):=λW j u=>bA.set u hP
 exact(((((((hs _ _ _).trans (hs _ _ _)).trans (hs _ _ _)).trans (hs _ _ _)).trans (hs _ _ _)).trans (hs _ _ _)).trans (hs _ _ _)).trans (hs _ _ _)
theorem ku {B:Nat}(h:Below B w0 w)(hb:B<=b)(v0 v1 v2 v3 v4 v5 v6 v7:Value):Below B w0 (Xm w b v0 v1 v2 v3 v4 v5 v6 v7) :=
 (((((((h.setCell hb _).setCell hb _).setCell hb _).setCell hb _).setCell hb _).setCell hb _).setCell hb _).setCell hb _
def afq (op at_:Nat)(aA:List PE)(w:World)(e:Ending)(w':World):Prop :=
 ∃ am wn cm ae ce,e=.returned (.agg #[.int .i64 op,.string ⟨#[]⟩,.string ⟨#[]⟩,.bool false,.slice am wn cm,.bool false,.slice ae aA.length ce,.int .i64 at_]) /\
  qC XA (λb=>w.heap.size<=b) w' (.slice am wn cm) (.slice ae aA.length ce) (.mk op [] [] 0 [] false aA at_)/\Below w.heap.size w w'
theorem EPost.m {op at_:Nat}{aA:List PE}(h:EPost XA (.mk op [] [] 0 [] false aA at_) w e w'):afq op at_ aA w e w':=by
 obtain⟨am,wn,cm,ae,ce,h1,h2,h3⟩:=h.a;exact⟨am,wn,cm,ae,ce,h1,h2,h3⟩
theorem qC.rename {S:Shape}{m k:Value}{op op' a a':Nat}{n n' md md' t t':aH}{num:Int}{y y':Bool}{aA:List PE}(h:qC S P w m k (.mk op n md num t y aA a)):qC S P w m k (.mk op' n' md' num t' y' aA a'):=by
 rw[qC] at h |-;exact h
def abv (x:PE)(w:World)(e:Ending)(w':World):Prop :=
 ∃ am wn cm ae ce,e=.returned (.agg #[.int .i64 x.op,.string ⟨x.name.toArray⟩,.string ⟨x.module.toArray⟩,.bool (decide (x.num<0)),.slice am wn cm,.bool x.yes,.slice ae x.aA.length ce,.int .i64 x.at_]) /\
  qC XA (λb=>w.heap.size<=b) w' (.slice am wn cm) (.slice ae x.aA.length ce) x/\Below w.heap.size w w'
theorem EPost.s (h:EPost XA x w e w'):abv x w e w':=h.a
def abw (n:Nat)(w:World)(e:Ending)(w':World):Prop :=
 ∃ am wn cm,e=.returned (.tuple #[.agg #[.bool false,.slice am wn cm],.int .i64 0])/\ow (λb=>w.heap.size<=b) w' (n:Nat) (.slice am wn cm)/\Below w.heap.size w w'
theorem afr (n:Nat)(txt:aH)(at_:Nat)(m k:Value):Ending.returned (.agg #[.int .i64 1,.string ⟨#[]⟩,.string ⟨#[]⟩,.bool false,m,.bool false,k,.int .i64 at_])=.returned (XA.agg (.mk 1 [] [] (n:Nat) txt false [] at_) m k):=by
 have hd:decide ((n:Int)<0)=false:=fu (by omega);show _=Ending.returned (.agg #[.int .i64 1,.string ⟨#[]⟩,.string ⟨#[]⟩,.bool (decide ((n:Int)<0)),m,.bool false,k,.int .i64 at_]);rw[hd]
theorem fI (w:World)(b i:Nat)(v:Value){j:Nat}(h:k≠b):(w.setCell ⟨b,i,none⟩ v).cell? ⟨k,j,none⟩=w.cell? ⟨k,j,none⟩ :=
 AJ (a:=⟨k,j,none⟩) (qo _ _ _ _ h)
theorem EPost.store {W:World}{m k:Value}(hx:qC XA (λb=>W.heap.size<=b) w' m k x)(hb:Below W.heap.size W w')(h0:Below w0.heap.size w0 W)(h1:w0.heap.size<=b)(h2:b<W.heap.size)(v0 v1 v2 v3 v4 v5 v6 v7:Value) :
  qC XA (λb=>w0.heap.size<=b) (Xm w' b v0 v1 v2 v3 v4 v5 v6 v7) m k x/\Below w0.heap.size w0 (Xm w' b v0 v1 v2 v3 v4 v5 v6 v7):=by
 have hs:=h0.size;exact⟨(hx.frame (xX _ _ _ _ _ _ _ _ _ _ _ λk hk=>by omega)).imp λb hb _=>by omega,ku (h0.trans (hb.mono hs)) h1 _ _ _ _ _ _ _ _⟩
theorem Xn (P:Nat->Prop)(ng:Bool)(ao:Option Addr)(cap:Nat)(ws:List Nat)(w:World)(h:Wd P w (.slice ao ws.length cap) ws)(hn:ws.length<=1099511627776) :
  Calls Tryz.prog 240 #[.bool ng,.slice ao ws.length cap] w λe w'=>e=.returned (.agg #[.bool (ng && decide (0<(dK ws).length)),.slice ao (dK ws).length cap])/\Below w.heap.size w w':=by
 have h1:Wd P (w.alloc (.cells #[.bool false,.slice none 0 0] 62)) (.slice ao ws.length cap) ws:=h.frame (bA.of (aB w _));have HT:=ay (CY P ao cap ws _ h1 hn);clear h h1;generalize (dK ws).length=k at *
 cases ng with
 | false =>
  go_enter Tryz.func240,Tryz.ntmps240;go_wp2_with (go_at_call 178;refine HT.out.mono ?_;rintro e w1 ⟨rfl,rfl⟩);refine o9 (v:=.agg #[.bool false,.slice ao k cap]) (by simp[results,Tryz.results240,go_sem]) rfl ⟨rfl,?_⟩;exact aB w _
 | true =>
  by_cases hk:0<k
  ·have hkd:decide (0<k)=true:=kS hk
   rw[hkd]
   have qF:(0:Int)<(k:Int):=by omega
   go_enter Tryz.func240,Tryz.ntmps240;go_wp2_with (go_at_call 178;refine HT.out.mono ?_;rintro e w1 ⟨rfl,rfl⟩);refine o9 (v:=.agg #[.bool true,.slice ao k cap]) (by simp[results,Tryz.results240,go_sem]) rfl ⟨rfl,?_⟩;exact aB w _
  ·obtain rfl:k=0:=by omega
   go_enter Tryz.func240,Tryz.ntmps240;go_wp2_with (go_at_call 178;refine HT.out.mono ?_;rintro e w1 ⟨rfl,rfl⟩);refine o9 (v:=.agg #[.bool false,.slice ao 0 cap]) (by simp[results,Tryz.results240,go_sem]) rfl ⟨rfl,?_⟩;exact aB w _
theorem Tryz.adK:(Tryz.prog.info? 259).map (λi=>(i.zero,i.size))=some (some (.agg (Array.replicate 256 (.bool false))),256):=by kernel_rfl
def Xo:aH:=[48,49,50,51,52,53,54,55,56,57]
theorem adL {c:UInt8}(h:(decide (48<=c.toNat) && decide (c.toNat<=57))=true):Xo.contains c=true:=by
 have:∀ n:Fin 256,(decide (48<=(UInt8.ofNat n.val).toNat) && decide ((UInt8.ofNat n.val).toNat<=57))=true->Xo.contains (UInt8.ofNat n.val)=true:=by decide
 have h1:=this ⟨c.toNat,c.toNat_lt⟩;rw[UInt8.ofNat_toNat] at h1;exact h1 h
theorem abx {α:Type}(p:α->Bool):∀ (l:List α),(∀ x∈l,p x=true)->l.dropWhile p=[]
 | [],_=>rfl
 | x :: l,h=>by rw[List.dropWhile_cons_of_pos (h x xq),abx p l λy hy=>h y (xu _ hy)]
theorem PN (h:gH l=true):Lib.trimS l Xo=[]:=by
 have h1:Lib.trimRightS l Xo=[]:=by
  unfold Lib.trimRightS
  have:l.reverse.dropWhile (Xo.contains ·)=[]:=abx _ _ λx hx=>adL ((List.all_eq_true.1 h) x (List.mem_reverse.1 hx))
  rw[this,List.reverse_nil]
 unfold Lib.trimS;rw[h1]
 rfl
theorem Tq (h:gH l=true):Lib.hasPrefix l [45]=false:=by
 cases l with
 | nil=>rfl
 | cons c l =>
  rw[gH,List.all_cons,qM] at h;have hc:=h.1;simp only[qM,uK] at hc
  have:(45 == c)=false:=by
   rw[<- wT,beq_iff_eq];rintro rfl;simp at hc
  simp[Lib.hasPrefix,List.isPrefixOf,this]
theorem Fu {k:IntKind}{a b:Int}(h:a=b):Value.int k a=Value.int k b:=by rw[h]
theorem PO {R T:aH}{n:Nat}(_hn:n<=9)(hR:n<=R.length)(hT:T=R.take n)(hd:gH R=true)(hw:∀ x∈ws,x<4294967296)(hp:10 ^ n<=1000000000) :
  gH (R.drop n)=true/\jk (dK (gu (10 ^ n) ws (jR T))) * 10 ^ (R.drop n).length+jR (R.drop n)=jk ws * 10 ^ R.length+jR R:=by
 have e1:R=R.take n++R.drop n:=(List.take_append_drop n R).symm
 have ed:gH (R.take n)=true/\gH (R.drop n)=true:=by
  rw[e1,gH,List.all_append,qM] at hd;exact hd
 have hl:(R.take n).length=n:=by rw[qX];omega
 have hv:=Fg _ ed.1;rw[hl] at hv;refine⟨ed.2,?_⟩;rw[hT,yF,FN _ hp _ _ hw (by omega)]
 have e2:jR R=jR (R.take n) * 10 ^ (R.drop n).length+jR (R.drop n):=by
  conv=>lhs;rw[e1]
  exact Og _ _
 rw[e2,Nat.add_mul,Nat.mul_assoc,<- Nat.pow_add,zh,show n+(R.length - n)=R.length by omega];omega
def afs (n:Int)(w:World)(e:Ending)(w':World):Prop :=
 ∃ am wn cm,e=.returned (.tuple #[.agg #[.bool (decide (n<0)),.slice am wn cm],.int .i64 0])/\ow (λb=>w.heap.size<=b) w' n (.slice am wn cm)/\Below w.heap.size w w'
def MQ (ng:Bool)(n:Nat):Int:=if ng=true then -(n:Int) else (n:Int)
theorem aby (ng:Bool)(n:Nat):(MQ ng n).natAbs=n:=by unfold MQ;split<;>omega
theorem abz (ng:Bool)(h:dK ws=ws):decide (MQ ng (jk ws)<0)=(ng && decide (0<ws.length)):=by
 cases ng with
 | false=>exact fu (by simp[MQ])
 | true =>
  by_cases hw:ws=[]
  ·subst hw;rfl
  ·have h1:=yG h hw
   have h2:0<ws.length:=List.length_pos_iff.2 hw;rw[kS (by simp[MQ];omega),kS h2];rfl
theorem PS (s0 s:ByteArray)(ng:Bool)(w:World)(e1:Lib.hasPrefix s0.data.toList (ByteArray.mk #[45]).data.toList=ng)(e2:Lib.trimPrefix s0.data.toList (ByteArray.mk #[45]).data.toList=s.data.toList)(h0:0<s.size)(L6:s.size<=60)(hd:gH s.data.toList=true)(hz:s.data.toList.head?=some 48->s.size=1/\ng=false) :
  Calls Tryz.prog 176 #[.string s0] w (afs (MQ ng (jR s.data.toList)) w):=by
 have hcut:=Tryz.strings_CutPrefix s0 ⟨#[45]⟩ (w.alloc (.cells #[.bool false,.slice none 0 0] 62));rw[e1,e2,show ByteArray.mk s.data.toList.toArray=s by cases s;simp] at hcut;have HC:=ay hcut
 have htr:∀ W:World,Calls Tryz.prog 238 #[.string s,.string ⟨#[48,49,50,51,52,53,54,55,56,57]⟩] W λe w'=>e=.returned (.string ⟨#[]⟩)/\Below W.heap.size W w':=λW=>by
  have:=Any.strings_Trim_laid Tryz.ado Tryz.adK s ⟨#[48,49,50,51,52,53,54,55,56,57]⟩ W (by omega) (by decide) (ascii_of_all (by decide));rw[show (ByteArray.mk #[48,49,50,51,52,53,54,55,56,57]).data.toList=Xo from rfl,PN hd] at this;exact this
 have HTr:=ay htr
 have hne:s.toList.isEmpty=false:=by rw[vM];exact fu (by omega)
 have hne2:(s.toList == [])=false:=by
  rw[<- wT,beq_iff_eq];intro q;rw[q] at hne;cases hne
 have HD:=ay hd
 have hlast:((((s[0]'h0).toNat:Int) == 48)=false\/((((s[0]'h0).toNat:Int) == 48)=true/\decide ((1:Int)<(s.size:Int))=false/\ng=false)):=by
  by_cases q:((s[0]'h0).toNat:Int)=48
  ·right
   have:s.size=1/\ng=false:=by
    apply hz
    obtain⟨r,hr⟩:=head_cons h0;rw[hr,List.head?_cons]
    congr 1
    exact UInt8.toNat_inj.1 (show (s[0]'h0).toNat=48 by omega)
   exact⟨by simpa using q,fu (by omega),this.2⟩
  ·left;simpa using q
 clear hcut e1 e2 htr hz hd
 have h0I:(0:Int)<(s.size:Int):=by omega
 have ajU:(s.size:Int)<=60:=by omega
 have hg:=aZ w (.cells #[.bool false,.slice none 0 0] 62);have hbw:=aB w (.cells #[.bool false,.slice none 0 0] 62);go_enter Tryz.func176,Tryz.ntmps176
 go_upto_region 4 with (go_at_call 237;refine HC.out.mono ?_;rintro e w1 ⟨rfl,rfl⟩)
 generalize w.alloc _=w2 at hg hbw |-
 go_cut [4,5,22] (λr n1 t wx=>r=.string s/\n1=.bool ng/\t=.bool false/\wx.heap[w.heap.size]?=some (.cells #[.bool false,.slice none 0 0] 62 (0,0))/\Below w.heap.size w wx)
 case first =>
  rcases hlast with hl|⟨hl,hl2,rfl⟩
  ·go_wp2_with (go_at_call 238;refine(HTr.out _).mono ?_;rintro e w1 ⟨rfl,hb1⟩)
   go_meet
   exact⟨rfl,rfl,rfl,(hb1.block _ (bU hg).1).trans hg,hbw.trans (hb1.mono hbw.size)⟩
  ·go_wp2_with (go_at_call 238;refine(HTr.out _).mono ?_;rintro e w1 ⟨rfl,hb1⟩)
   go_meet
   exact⟨rfl,rfl,rfl,(hb1.block _ (bU hg).1).trans hg,hbw.trans (hb1.mono hbw.size)⟩
 case rest =>
  obtain⟨rfl,rfl,rfl,hg2,hbc⟩:=hcut;clear hne hne2 hlast hg hbw HTr HC
  obtain⟨wo,rfl⟩:∃ wo:World,wo=wc:=⟨_,rfl⟩
  go_wp2
  go_loopw [4,6] (λrv mv wr=>∃ (R:ByteArray) (ws:List Nat) (ao:Option Addr) (cap:Nat),rv=.string R/\mv=.slice ao ws.length cap/\Wd (λb=>w.heap.size<b) wr (.slice ao ws.length cap) ws/\dK ws=ws/\(∀ x∈ws,x<4294967296)/\ws.length+R.size<=60/\gH R.data.toList=true/\jk ws * 10 ^ R.size+jR R.data.toList=jR s.data.toList/\wr.heap[w.heap.size]?=some (.cells #[.bool false,.slice none 0 0] 62 (0,0))/\Below w.heap.size w wr) (λrv _ _=>RD rv)
  case atStart=>exact⟨s,[],none,0,rfl,rfl,pO.nil _ _ _,rfl,λx hx=>(by cases hx),by simpa using L6,HD.out,by simp[jk],hg2,hbc⟩
  case round =>
   obtain⟨R,ws,ao,cap,rfl,rfl,hW,htr,hlt,hsz,hdg,hval,hg3,hbl⟩:=hrel
   by_cases hR:0<R.size
   ·obtain⟨n,hn⟩:∃ n,n=min 9 R.size:=⟨_,rfl⟩
    have hn9:n<=9:=by omega
    have hnR:n<=R.size:=by omega
    have hn0:0<n:=by omega
    have hmin:min (9:Int) (R.size:Int)=(n:Int):=by omega
    have hRI:(0:Int)<(R.size:Int):=by omega
    have ajV:(R.size:Int)<=60:=by omega
    have HN:=ay hn
    have hcv:=λ(W:World)=>run_bytes_of_string (P:=Tryz.prog) W 9 147 5 (R.extract 0 n) Tryz.underlying9 Tryz.underlying147 Tryz.underlying5
    have hTs:(R.extract 0 n).size=n:=by rw[ByteArray.size_extract];omega
    rw[hTs] at hcv;have HTs:=ay hTs;have HV:=ay hval;have HDG:=ay hdg;have HLT:=ay hlt;have Tt:=ay htr;clear hTs hn hval hdg hlt htr;have hz:=hbl.size;have YO:=(bU hg3).1
    have hTl:(R.extract 0 n).data.toList=R.data.toList.take n:=by rw[jh,List.drop_zero]
    have ag5:∀ (jc:Nat) (fr:Nat × Nat) (j:Nat) (hj:j<n),(wr.alloc (.cells (bytesRow (R.extract 0 n) jc) 5 fr)).drew.cell? ⟨wr.heap.size,j,none⟩=some (.int .u8 (((R.extract 0 n).data[j]'(by have:=HTs.out;show j<(R.extract 0 n).size;omega)).toNat:Nat)):=λjc fr j hj=>by
     have hs:j<(R.extract 0 n).data.size:=by have:=HTs.out;show j<(R.extract 0 n).size;omega
     rw[bg (show (wr.alloc (.cells (bytesRow (R.extract 0 n) jc) 5 fr)).drew.heap[wr.heap.size]?=some (.cells (bytesRow (R.extract 0 n) jc) 5 fr) from aZ wr _)];exact bytesRow_at _ _ _ hs
    have KY:=ay ag5;clear ag5;go_wp2;clear hcv;have hcl:=KY.out (grownCap wr n 0 5) ((bytesRow (R.extract 0 n) (grownCap wr n 0 5)).size,(bytesRow (R.extract 0 n) (grownCap wr n 0 5)).size+1);have hbx:Below wr.heap.size wr (wr.alloc (.cells (bytesRow (R.extract 0 n) (grownCap wr n 0 5)) 5 ((bytesRow (R.extract 0 n) (grownCap wr n 0 5)).size,(bytesRow (R.extract 0 n) (grownCap wr n 0 5)).size+1))).drew:=((bY _ _).alloc (bI _) _).drew
    have hsx:wr.heap.size<(wr.alloc (.cells (bytesRow (R.extract 0 n) (grownCap wr n 0 5)) 5 ((bytesRow (R.extract 0 n) (grownCap wr n 0 5)).size,(bytesRow (R.extract 0 n) (grownCap wr n 0 5)).size+1))).drew.heap.size:=by simp
    generalize (wr.alloc (.cells (bytesRow (R.extract 0 n) (grownCap wr n 0 5)) 5 _)).drew=wx at hcl hbx hsx |-;have CJ:=ay hcl;clear hcl KY
    have hTd:gH (R.extract 0 n).data.toList=true:=by
     have:=HDG.out;rw[hTl,gH,List.all_eq_true];rw[gH,List.all_eq_true] at this
     exact λx hx=>this x (List.mem_of_mem_take hx)
    have HTd:=ay hTd;have HTl:=ay hTl;clear hTd hTl
    go_loop [8,9,55] (λbv pv q=>∃ k:Nat,k<=n/\q=.int .i64 k/\bv=.int .u64 ((10 ^ k:Nat):Nat)/\pv=.int .u64 (jR ((R.extract 0 n).data.toList.take k):Nat)) (λ_ _ q=>n - (intOf q).toNat)
    case atStart=>exact⟨0,mD _,rfl,rfl,by rw[List.take_zero];rfl⟩
    case round =>
     obtain⟨k,hk,rfl,rfl,rfl⟩:=hrel;have hT1:=HTs.out
     have Rv:(R.extract 0 n).data.toList.length=n:=by rw[aS];exact hT1
     by_cases hkn:k<n
     ·have hx:=CJ.out k hkn
      have hkd:k<(R.extract 0 n).data.toList.length:=by omega
      have hgk:(R.extract 0 n).data[k]'(by have:=HTs.out;show k<(R.extract 0 n).size;omega)=(R.extract 0 n).data.toList[k]'hkd:=by simp
      have hcb:=(List.all_eq_true.1 HTd.out) _ (oQ hkd);simp only[qM,uK] at hcb
      have hsn:jR ((R.extract 0 n).data.toList.take (k+1))=jR ((R.extract 0 n).data.toList.take k) * 10+(((R.extract 0 n).data.toList[k]'hkd).toNat - 48):=by
       rw[EF hkd,uO]
      have hpw:(10:Nat) ^ (k+1)=10 ^ k * 10:=Nat.pow_succ ..;have WJ:(10:Nat) ^ k<=100000000:=Nat.pow_le_pow_right (by omega) (by omega:k<=8)
      have hdl:jR ((R.extract 0 n).data.toList.take k)<10 ^ ((R.extract 0 n).data.toList.take k).length:=Fg _ (by
       rw[gH,List.all_eq_true]
       exact λx hx=>(List.all_eq_true.1 HTd.out) x (List.mem_of_mem_take hx))
      rw[qX,Nat.min_eq_left (by omega)] at hdl;rw[hgk] at hx;generalize (R.extract 0 n).data.toList[k]'hkd=ch at hx hcb hsn
      obtain⟨cn,hcn⟩:∃ cn,ch.toNat=cn:=⟨_,rfl⟩
      rw[hcn] at hx hcb hsn;have HS:=ay hsn;have HP:=ay hpw;clear hsn hpw hgk hcn hT1 Rv hkd;generalize jR ((R.extract 0 n).data.toList.take k)=p at hdl HS;generalize (10:Nat) ^ k=a at WJ hdl HP
      have qF:(k:Int)<(n:Int):=by omega
      go_wp2;exact⟨⟨k+1,by omega,by go_num,by rw[HP.out];exact Fu (by omega),by rw[HS.out];exact Fu (by omega)⟩,by simp[intOf];omega⟩
     ·obtain rfl:k=n:=by omega
      have hTk:(R.extract 0 k).data.toList.take k=(R.extract 0 k).data.toList:=DL (by omega);have hdl:=Fg _ HTd.out;rw[Rv] at hdl;have hp9:=adg hn9;have hWx:Wd (λb=>w.heap.size<b) wx (.slice ao ws.length cap) ws:=pO.frame hW (bA.of hbx);have HSC:=ay (Xl (λb=>w.heap.size<b) (.slice ao ws.length cap) ws (10 ^ k) (jR (R.extract 0 k).data.toList) wx hWx HLT.out hp9 (by omega) (by omega))
      have aiv:k<=R.data.toList.length:=by rw[aS];exact hnR
      have hstep:=PO (ws:=ws) hn9 aiv HTl.out HDG.out HLT.out hp9;have HST:=ay hstep;rw[hTk];clear hstep hTk hdl hWx hT1 Rv;generalize (10:Nat) ^ k=a at HSC HST hp9 |-;generalize jR (R.extract 0 k).data.toList=p at HSC HST |-;have qF:decide ((k:Int)<(k:Int))=false:=fu (by omega);go_wp2_with (go_at_call 239;refine HSC.out.mono ?_);rintro e w7 ⟨v,rfl,hown,BI⟩;obtain⟨g,cap2,rfl,_,_⟩:=hown.form (by rw[lI];omega)
      have hWs:Wd (λb=>w.heap.size<b) w7 (.slice (some ⟨g,0,none⟩) (gu a ws p).length cap2) (gu a ws p):=pO.fZ hown λb hb=>by omega
      have HT:=ay (CY _ (some ⟨g,0,none⟩) cap2 (gu a ws p) w7 hWs (by rw[lI];omega));have HWs:=ay hWs;have G:=(BI.block w.heap.size (by omega)).trans ((hbx.block w.heap.size YO).trans hg3);have aiw:=hbl.trans ((hbx.trans (BI.mono (Nat.le_of_lt hsx))).mono hz);clear hown hWs HSC;go_wp2_with (go_at_call 178;refine HT.out.mono ?_;rintro e w8 ⟨rfl,rfl⟩)
      go_roundw
      case rel =>
       have hex:(R.extract k R.size).size=R.size - k:=by rw[ByteArray.size_extract];omega
       have hel:(R.extract k R.size).data.toList=R.data.toList.drop k:=by rw[jh,DL (by rw[aS];exact bI _)]
       have htl:=Kk (gu a ws p);rw[lI] at htl;obtain⟨s1,s2⟩:=HST.out
       have e1:(R.data.toList.drop k).length=R.size - k:=by rw[zh,aS]
       rw[e1,aS] at s2;refine⟨R.extract k R.size,dK (gu a ws p),some ⟨g,0,none⟩,cap2,rfl,rfl,?_,zO _,λx hx=>Kl _ _ _ _ (Cv _ _ hx),by omega,by rw[hel];exact s1,by rw[hex,hel,s2];exact HV.out,G,aiw⟩;obtain⟨n',n1,n2,_,_⟩:=vQ (gu a ws p)
       have hl:(dK (gu a ws p)).length=n':=by rw[n2,qX];omega
       rw[hl,n2];exact HWs.out.take n1
      case measure =>
       show (R.extract k R.size).size<R.size;rw[ByteArray.size_extract];omega
   ·have hR0:R.size=0:=by omega
    have hRl:R.data.toList=[]:=List.length_eq_zero_iff.1 (by rw[aS];exact hR0);rw[hRl,hR0] at hval
    have hv2:jk ws=jR s.data.toList:=by simpa [jR] using hval
    have HV:=ay hv2;have HLT:=ay hlt;have Tt:=ay htr;have hM:=Xn (λb=>w.heap.size<b) ng ao cap ws wr hW (by omega);rw[htr,<- abz ng htr,hv2] at hM;generalize hng:decide (MQ ng (jR s.data.toList)<0)=nb at hM;have HNG:=ay hng;have HM:=ay hM
    have hRI:(R.size:Int)<=0:=by omega
    have hz:=hbl.size;clear hv2 hval hRl hdg hlt htr hM hng;go_wp2_with (go_at_call 240;refine HM.out.mono ?_);rintro e w6 ⟨rfl,hb6⟩;have G:=(hb6.block w.heap.size (bU hg3).1).trans hg3
    have d0:w6.cell? ⟨w.heap.size,0,none⟩=some (.bool false):=by rw[bg G];rfl
    have d1:w6.cell? ⟨w.heap.size,1,none⟩=some (.slice none 0 0):=by rw[bg G];rfl
    have dz:∀ j,w6.frozen? ⟨w.heap.size,j,none⟩=false:=by intro j;simp[World.frozen?,G]
    go_wp2;have hs2:=hb6.size;refine o9 (v:=.tuple #[.agg #[.bool nb,.slice ao ws.length cap],.int .i64 0]) (by simp[results,Tryz.results176,go_sem,d0,d1]) rfl ⟨ao,ws.length,cap,by rw[HNG.out],⟨ws,?_,Tt.out,HLT.out,by rw[HV.out,aby]⟩,?_⟩
    ·have h1:=hW.frame (bA.of hb6)
     have h2:=h1.frame (bA.set (a:=⟨w.heap.size,0,none⟩) (.bool nb) λb hb=>by show b≠w.heap.size;omega);have h3:=h2.frame (bA.set (a:=⟨w.heap.size,1,none⟩) (.slice ao ws.length cap) λb hb=>by show b≠w.heap.size;omega)
     exact h3.imp λb hb _=>Nat.le_of_lt hb
    ·exact((hbl.trans (hb6.mono hz)).setCell (bI _) _).setCell (bI _) _
theorem Tv (s:ByteArray)(w:World)(h0:0<s.size)(L6:s.size<=60)(hd:gH s.data.toList=true)(hz:s.data.toList.head?=some 48->s.size=1) :
  Calls Tryz.prog 176 #[.string s] w (abw (jR s.data.toList) w):=by
 have e1:Lib.hasPrefix s.data.toList (ByteArray.mk #[45]).data.toList=false:=Tq hd
 refine(PS s s false w e1 (by rw[Lib.trimPrefix,e1];rfl) h0 L6 hd λh=>⟨hz h,rfl⟩).mono λe w' h=>?_
 obtain⟨am,wn,cm,he,h1,h2⟩:=h;exact⟨am,wn,cm,by rw[he,show decide (MQ false (jR s.data.toList)<0)=false from fu (by simp[MQ])],h1,h2⟩
structure aeC where
 op:Int
 aA:Int
 name:aH
 module:aH
 num:aH
 yes:Bool
def aeC.fits (c:aeC):Bool:=decide (c.name.length<=60) && decide (c.module.length<=60) && decide (c.num.length<=80)
mutual
def PZ.size:PZ->Nat
 | .mk _ _ _ _ _ aA _=>qI aA+1
def qI:List PZ->Nat
 | []=>0
 | e :: l=>e.size+qI l
end
theorem Xp (P:Nat->Prop)(am:Option Addr)(wn cm:Nat)(n:Int)(w:World)(h:ow P w n (.slice am wn cm)) :
  Calls Tryz.prog 253 #[.agg #[.bool (decide (n<0)),.slice am wn cm]] w λe w'=>e=.returned (.int .i64 n.sign)/\Below w.heap.size w w':=by
 obtain⟨ws,hws,htr,_,hv⟩:=h;obtain⟨NZ,N7,hq⟩:=hws.form;simp only[Value.slice.injEq] at hq;obtain⟨-,rfl,-⟩:=hq
 have hb0:∀ b,Below w.heap.size w (w.alloc (.cells #[.bool b,.slice am ws.length cm] 62)):=λb=>aB w _
 rcases Int.lt_trichotomy n 0 with hn|hn|hn
 ·have h0:0<ws.length:=List.length_pos_iff.2 λq=>by subst q;simp[jk] at hv;omega
  rw[kS hn,Int.sign_eq_neg_one_of_neg hn];have h0I:((ws.length:Int) == 0)=false:=Fa.2 (by omega);clear hws htr hv;go_enter Tryz.func253,Tryz.ntmps253;go_wp2;go_ret;exact⟨rfl,hb0 _⟩
 ·subst hn
  obtain rfl:ws=[]:=by
   rw[<- htr];exact zN _ (by rw[hv];rfl)
  clear hws htr hv;go_enter Tryz.func253,Tryz.ntmps253;go_wp2;go_ret;exact⟨rfl,hb0 _⟩
 ·have h0:0<ws.length:=List.length_pos_iff.2 λq=>by subst q;simp[jk] at hv;omega
  rw[fu (by omega:¬ n<0),Int.sign_eq_one_of_pos hn];have h0I:((ws.length:Int) == 0)=false:=Fa.2 (by omega);clear hws htr hv;go_enter Tryz.func253,Tryz.ntmps253;go_wp2;go_ret;exact⟨rfl,hb0 _⟩
variable{v:Value}{C e:Nat}
structure RK (α β:Type) where
 sz:Nat
 cells:α->β->List Value
 inn:(Nat->Prop)->World->α->β->Prop
 len:∀ a b,(cells a b).length=sz
 frame:∀ {P:Nat->Prop} {w w':World} {a:α} {b:β},inn P w a b->bA P w w'->inn P w' a b
 imp:∀ {P Q:Nat->Prop} {w:World} {a:α} {b:β},inn P w a b->(∀ k,P k->k<w.heap.size->Q k)->inn Q w a b
section
variable {α β:Type}
def RK.flat (K:RK α β)(l:List (α × β)):List Value:=l.flatMap λp=>K.cells p.1 p.2
theorem RK.PU (K:RK α β):∀ l:List (α × β),(K.flat l).length=l.length * K.sz
 | []=>by simp[RK.flat]
 | p :: l=>by
  have:=RK.PU K l;unfold RK.flat at this |-;rw[List.flatMap_cons,bQ,K.len,this,dN,Nat.succ_mul,Nat.add_comm]
theorem RK.KZ (K:RK α β)(l:List (α × β))(p:α × β):K.flat (l++[p])=K.flat l++K.cells p.1 p.2:=by
 unfold RK.flat;rw[abo,List.flatMap_singleton]
theorem RK.AL (K:RK α β):∀ (l:List (α × β)) (i j:Nat) (h:i<l.length),j<K.sz->(K.flat l)[i * K.sz+j]?=(K.cells l[i].1 l[i].2)[j]?
 | [],i,j,h,_=>absurd h (by simp)
 | p :: l,0,j,_,hj=>by
  unfold RK.flat;rw[List.flatMap_cons,List.getElem?_append_left (by rw[K.len];omega)]
  simp
 | p :: l,i+1,j,h,hj=>by
  have:=RK.AL K l i j (by simpa using h) hj;unfold RK.flat at this |-;rw[List.flatMap_cons,abj (by rw[K.len,Nat.succ_mul];omega),K.len,show (i+1) * K.sz+j - K.sz=i * K.sz+j by rw[Nat.succ_mul];omega,this]
  simp
def RowK (K:RK α β)(P:Nat->Prop)(w:World)(v:Value)(zs:List α):Prop :=
 ∃ l:List (α × β),l.map Prod.fst=zs/\pO P w v K.sz zs.length (K.flat l)/\∀ p∈l,K.inn P w p.1 p.2
theorem RowK.frame {K:RK α β}{P:Nat->Prop}{w w':World}{v:Value}{zs:List α}(h:RowK K P w v zs)(ha:bA P w w'):RowK K P w' v zs:=by
 obtain⟨l,h1,h2,h3⟩:=h;exact⟨l,h1,h2.frame ha,λp hp=>K.frame (h3 p hp) ha⟩
theorem RowK.imp {K:RK α β}{P Q:Nat->Prop}{w:World}{v:Value}{zs:List α}(h:RowK K P w v zs)(hq:∀ b,P b->b<w.heap.size->Q b):RowK K Q w v zs:=by
 obtain⟨l,h1,h2,h3⟩:=h;exact⟨l,h1,h2.imp hq,λp hp=>K.imp (h3 p hp) hq⟩
theorem RowK.nil (K:RK α β)(P:Nat->Prop)(w:World):RowK K P w (.slice none 0 0) []:=⟨[],rfl,pO.nil P w K.sz,λp hp=>by cases hp⟩
theorem RowK.slice {K:RK α β}{P:Nat->Prop}{w:World}{v:Value}{zs:List α}(h:RowK K P w v zs):∃ ao cap,v=.slice ao zs.length cap:=by
 obtain⟨l,h1,h2,h3⟩:=h;exact h2.form
theorem RowK.form {K:RK α β}{P:Nat->Prop}{zs:List α}(h:RowK K P w v zs):∃ ao cap,v=.slice ao zs.length cap/\zs.length<=cap /\
  (0<zs.length->∃ b off,ao=some ⟨b,off,none⟩/\P b/\b<w.heap.size/\∀ i,(hi:i<zs.length)->∃ x,K.inn P w zs[i] x/\∀ j u,(K.cells zs[i] x)[j]?=some u->w.cell? ⟨b,off+i * K.sz+j,none⟩=some u):=by
 obtain⟨l,rfl,⟨ao,cap,hv,hn,hl,hc⟩,h3⟩:=h;refine⟨ao,cap,hv,hn,λh0=>?_⟩;obtain⟨b,off,ha,hP,hlt,hcell⟩:=hc h0;refine⟨b,off,ha,hP,hlt,λi hi=>?_⟩;rw[vL] at hi;rw[List.getElem_map];refine⟨_,h3 _ (oQ hi),λj u hu=>?_⟩
 have hj:j<K.sz:=by
  rcases Nat.lt_or_ge j K.sz with h'|h'
  ·exact h'
  ·rw[List.getElem?_eq_none (by rw[K.len];exact h')] at hu;cases hu
 have hu':=(K.AL l i j hi hj).trans hu;obtain⟨h',e⟩:=qm hu';have:=hcell (i * K.sz+j) h';rw[e] at this;rw[wU];exact this
def gP (K:RK α β)(C e:Nat)(w:World)(v:Value)(zs:List α):Prop :=
 ∃ l:List (α × β),l.map Prod.fst=zs/\w.ownsRow C e K.sz v zs.length (K.flat l)/\∀ p∈l,K.inn (λb=>C<=b/\some b≠v.ownBlock) w p.1 p.2
theorem gP.nil (K:RK α β)(C e:Nat)(w:World):gP K C e w (.slice none 0 0) []:=⟨[],rfl,World.ownsRow_nil _ _ _ _,λp hp=>by cases hp⟩
theorem gP.below {K:RK α β}{zs:List α}(h:gP K C e w v zs)(hb:Below w.heap.size w w'):gP K C e w' v zs:=by
 obtain⟨l,h1,h2,h3⟩:=h;exact⟨l,h1,own_below h2 hb,λp hp=>K.frame (h3 p hp) (bA.of hb)⟩
theorem gP.set {K:RK α β}{C e:Nat}{w:World}{v:Value}{zs:List α}(h:gP K C e w v zs){a:Addr}(ha:a.block<C)(u:Value):gP K C e (w.setCell a u) v zs:=by
 obtain⟨l,h1,h2,h3⟩:=h;refine⟨l,h1,iQ h2 (λq=>?_) u,λp hp=>K.frame (h3 p hp) (bA.set u λb hb=>by have:=hb.1;omega)⟩;have:=(h2.lt a.block q.symm).1;omega
theorem gP.drew {K:RK α β}{C e:Nat}{w:World}{v:Value}{zs:List α}(h:gP K C e w v zs):gP K C e w.drew v zs:=h.below ((bY _ _).drew)
theorem gP.row {K:RK α β}{zs:List α}(h:gP K C e w v zs):RowK K (λb=>C<=b) w v zs:=by
 obtain⟨l,h1,h2,h3⟩:=h;exact⟨l,h1,pO.fZ h2 λb hb=>hb,λp hp=>K.imp (h3 p hp) λb hb _=>hb.1⟩
theorem gP.slice {K:RK α β}{C e:Nat}{w:World}{v:Value}{zs:List α}(h:gP K C e w v zs):∃ ao cap,v=.slice ao zs.length cap:=h.row.slice
theorem gP.snoc {K:RK α β}{kv kv':Value}{zs:List α}{a:α}{x:β}{g H:Nat}{l:List (α × β)}(h1:l.map Prod.fst=zs)(h2:∀ p∈l,K.inn (λb=>C<=b/\some b≠kv.ownBlock) w p.1 p.2)(hx:K.inn (λb=>C<=b/\some b≠kv.ownBlock) w a x)
  (hown:w'.ownsRow C e K.sz kv' (zs.length+1) (K.flat l++K.cells a x)) (hgrow:w.grownBy w' kv.ownBlock) (hv:kv'.ownBlock=some g) (hor:kv.ownBlock=some g\/g=H) (hH:w.heap.size<=H):gP K C e w' kv' (zs++[a]):=by
 have himp:∀ b,(C<=b/\some b≠kv.ownBlock)->b<w.heap.size->((C<=b/\some b≠kv'.ownBlock)/\some b≠kv.ownBlock):=λb hb hlt=>by
  refine⟨⟨hb.1,λq=>?_⟩,hb.2⟩;rw[hv] at q;simp only[Option.some.injEq] at q
  rcases hor with h|h
  ·exact hb.2 (by rw[h,q])
  ·omega
 have hall:∀ {a:α} {x:β},K.inn (λb=>C<=b/\some b≠kv.ownBlock) w a x->K.inn (λb=>C<=b/\some b≠kv'.ownBlock) w' a x:=λh =>
  K.imp (K.frame (K.imp h himp) (bA.grown hgrow λb hb=>hb.2)) λb hb _=>hb.1
 refine⟨l++[(a,x)],by rw[zJ,h1];rfl,?_,λp hp=>?_⟩
 ·rw[K.KZ,bQ,List.length_singleton];exact hown
 ·rcases List.mem_append.1 hp with hp|hp
  ·exact hall (h2 p hp)
  ·rw[DN] at hp
   subst hp;exact hall hx
end
def EK (S:Shape):RK PE (Value × Value) where
 sz:=S.sz
 cells e p:=S.cells e p.1 p.2
 inn P w e p:=qC S P w p.1 p.2 e
 len e p:=S.len e p.1 p.2
 frame h ha:=h.frame ha
 imp h hq:=h.imp hq
def FK (S:Shape):RK FF Value where
 sz:=5
 cells f cv:=[dX f.name,.int .i64 f.base,cv,.int .i64 f.at_,.int .i64 f.bare]
 inn P w f cv:=RowK (EK S) P w cv f.aC
 len _ _:=rfl
 frame h ha:=h.frame ha
 imp h hq:=h.imp hq
structure DV where
 pv:Value
 cv:Value
 m:Value
 k:Value
def DA:RK DD DV where
 sz:=15
 cells d x:=[.bool d.pub,dX d.res.name,x.pv,.int .i64 d.res.base,x.cv,.int .i64 d.body.op,dX d.body.name,dX d.body.module,.bool (decide (d.body.num<0)),x.m,.bool d.body.yes,x.k,.int .i64 d.body.at_,.int .i64 d.res.at_,.int .i64 d.res.bare]
 inn P w d x:=RowK (FK XA) P w x.pv d.params/\RowK (EK XA) P w x.cv d.res.aC/\qC XA P w x.m x.k d.body
 len _ _:=rfl
 frame h ha:=⟨h.1.frame ha,h.2.1.frame ha,h.2.2.frame ha⟩
 imp h hq:=⟨h.1.imp hq,h.2.1.imp hq,h.2.2.imp hq⟩
def DR:RK DD DV where
 sz:=14
 cells d x:=[.bool d.pub,x.pv,dX d.res.name,.int .i64 d.res.base,x.cv,.int .i64 d.res.at_,.int .i64 d.res.bare,.int .i64 d.body.op,dX d.body.name,dX d.body.module,dX d.body.txt,.bool d.body.yes,x.k,.int .i64 d.body.at_]
 inn P w d x:=RowK (FK XR) P w x.pv d.params/\RowK (EK XR) P w x.cv d.res.aC/\qC XR P w x.m x.k d.body
 len _ _:=rfl
 frame h ha:=⟨h.1.frame ha,h.2.1.frame ha,h.2.2.frame ha⟩
 imp h hq:=⟨h.1.imp hq,h.2.1.imp hq,h.2.2.imp hq⟩
def IA:RK (aH × Nat) Unit where
 sz:=2
 cells m _:=[dX m.1,.int .i64 m.2]
 inn _ _ _ _:=True
 len _ _:=rfl
 frame _ _:=trivial
 imp _ _:=trivial
def IR:RK (aH × Nat) Unit where
 sz:=1
 cells m _:=[dX m.1]
 inn _ _ _ _:=True
 len _ _:=rfl
 frame _ _:=trivial
 imp _ _:=trivial
def MR (P:Nat->Prop)(w:World)(iv dv:Value)(p:PP):Prop:=RowK IA P w iv p.aG/\RowK DA P w dv p.defs
def Xq (P:Nat->Prop)(w:World)(iv dv:Value)(p:PP):Prop:=RowK IR P w iv p.aG/\RowK DR P w dv p.defs
theorem MR.frame {P:Nat->Prop}{w w':World}{iv dv:Value}{p:PP}(h:MR P w iv dv p)(ha:bA P w w'):MR P w' iv dv p:=⟨h.1.frame ha,h.2.frame ha⟩
theorem MR.imp {P Q:Nat->Prop}{w:World}{iv dv:Value}{p:PP}(h:MR P w iv dv p)(hq:∀ b,P b->b<w.heap.size->Q b):MR Q w iv dv p:=⟨h.1.imp hq,h.2.imp hq⟩
theorem Xq.frame {P:Nat->Prop}{w w':World}{iv dv:Value}{p:PP}(h:Xq P w iv dv p)(ha:bA P w w'):Xq P w' iv dv p:=⟨h.1.frame ha,h.2.frame ha⟩
theorem Xq.imp {P Q:Nat->Prop}{w:World}{iv dv:Value}{p:PP}(h:Xq P w iv dv p)(hq:∀ b,P b->b<w.heap.size->Q b):Xq Q w iv dv p:=⟨h.1.imp hq,h.2.imp hq⟩
