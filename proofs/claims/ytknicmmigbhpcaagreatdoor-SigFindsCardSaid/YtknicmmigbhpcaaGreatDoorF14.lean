/- Walks and plain laws: ProgPlain, ProgTree, ProgTree2, LexNums. -/
import Derived.Test.YtknicmmigbhpcaaGreatDoorF13
set_option maxHeartbeats 16000000
set_option maxRecDepth 100000
set_option linter.unusedVariables false
set_option linter.unusedSimpArgs false
namespace Go.Proofs.YtknicmmigbhpcaaGreatDoor
def yS:List UInt8:=[112,117,98]
def oZ:List UInt8:=[105,109,112,111,114,116]
def G8:List UInt8:=[102,117,110]
def MS:List UInt8:=[105,110,116]
def xB:List UInt8:=[98,111,111,108]
def jD (toks:List Tok)(st:aB):Int × aB:=aA toks [[58]] st
def vL (toks:List Tok)(st:aB):Int × aB:=aA toks [MS,xB] (jD toks st).2
def dB (toks:List Tok)(st:aB):Int × aB:=aY 5 [(vL toks st).1] (vL toks st).2
def jE (st:aB)(c:Bool):aB:={ st with clause:=c }
def iY (toks:List Tok)(d g:Nat)(st:aB):Option (Int × aB) :=
 (run toks d g (.expr 1) (jE (ay toks st).2 true)).bind fun f =>
  some (aY 6 [(ay toks st).1,f.1,(aA toks [[125]] (jE f.2 st.clause)).1] (aA toks [[125]] (jE f.2 st.clause)).2)
def gD (toks:List Tok)(d g:Nat)(kids:List Int)(st:aB):Option (List Int × aB) :=
 if (dB toks st).2.fE=0∧aS toks (dB toks st).2 [[123]]=true then
  (iY toks d g (dB toks st).2).bind fun n=>some (kids++[(jD toks st).1,(dB toks st).1,n.1],n.2)
 else some (kids++[(jD toks st).1,(dB toks st).1],(dB toks st).2)
def iK (toks:List Tok)(d g:Nat)(st:aB):Option (Int × aB) :=
 (gD toks d g [(aO toks 1 st).1] (aO toks 1 st).2).bind fun l=>some (aY 4 l.1 l.2)
def mq (toks:List Tok)(st:aB):Int × aB :=
 aY 2 [(ay toks st).1,(aO toks 1 (ay toks st).2).1,(aA toks [[59]] (aO toks 1 (ay toks st).2).2).1] (aA toks [[59]] (aO toks 1 (ay toks st).2).2).2
def lW (toks:List Tok)(st:aB):List Int × aB:=if aS toks st [yS]=true then ([(ay toks st).1],(ay toks st).2) else ([],st)
def pJ (toks:List Tok)(st:aB):Int × aB:=aA toks [G8] (lW toks st).2
def jP (toks:List Tok)(st:aB):Int × aB:=aO toks 1 (pJ toks st).2
def iL (toks:List Tok)(st:aB):Int × aB:=aA toks [[40]] (jP toks st).2
def uN (toks:List Tok)(d g:Nat)(st:aB):Option (Int × aB) :=
 (jf toks (iK toks d g) (iL toks st).2).bind fun l =>
  (gD toks d g ((lW toks st).1++[(pJ toks st).1,(jP toks st).1,(iL toks st).1]++l.1++[(aA toks [[41]] l.2).1]) (aA toks [[41]] l.2).2).bind fun t =>
   (run toks d g (.expr 1) (aA toks [[61]] t.2).2).bind fun f =>
    some (aY 3 (t.1++[(aA toks [[61]] t.2).1,f.1,(aA toks [[59]] f.2).1]) (aA toks [[59]] f.2).2)
def iZ (toks:List Tok)(one:aB→Option (Int × aB))(first:List (List UInt8)):Nat→List Int→aB→Option (List Int × aB)
 | 0,kids,st=>some (kids,if st.fE=0∧aS toks st first=true then fQ toks 15 st else st)
 | r+1,kids,st=>if st.fE=0∧aS toks st first=true then (one st).bind fun k=>iZ toks one first r (kids++[k.1]) k.2 else some (kids,st)
def ny (toks:List Tok)(d g:Nat)(st:aB):Option (Int × aB) :=
 (iZ toks (fun s=>some (mq toks s)) [oZ] 16 [] st).bind fun a =>
  (iZ toks (uN toks d g) [yS,G8] 64 [] a.2).bind fun b =>
   some (aY 1 (a.1++b.1++[(aO toks 5 b.2).1]) (aO toks 5 b.2).2)
def nA (S:List UInt8)(d:Nat):Yz :=
 match bW S with
 | .error x=>.bad x.1 x.2
 | .ok toks=>match ny toks d (xA toks) startP with
  | none=>.bad 99 0
  | some a=>GZ toks a.2
theorem yT (toks:List Tok)(st:aB):bX st (dB toks st).2:=((aF _ _ _).trans (aF _ _ _)).trans (aD _ _ _)
theorem zQ {toks:List Tok}{d g:Nat}{st:aB}{r:Int × aB}(h:iY toks d g st=some r):bX st r.2:=by
 unfold iY at h;obtain⟨f,h1,h⟩:=bH h;obtain rfl:=Option.some.inj h;have e1:=aJ toks st;have e2:=aN toks d g _ _ _ h1
 have e3:bX st (jE f.2 st.clause):=⟨Nat.le_trans e1.1 e2.1,fun q=>by
  have q1:=e1.2.1 q;have q2:=e2.2.1 (show (ay toks st).2.fE≠0 by rw[q1];exact q)
  exact q2.trans q1,rfl,Nat.le_trans e1.2.2.2 e2.2.2.2⟩
 exact(e3.trans (aF _ _ _)).trans (aD _ _ _)
theorem jc {toks:List Tok}{d g:Nat}{kids:List Int}{st:aB}{r:List Int × aB}(h:gD toks d g kids st=some r):bX st r.2:=by
 unfold gD at h
 split at h
 ·obtain⟨n,h1,h⟩:=bH h
  obtain rfl:=Option.some.inj h;exact(yT _ _).trans (zQ h1)
 ·injection h with h;subst h
  exact yT _ _
theorem jF {toks:List Tok}{d g:Nat}(st:aB)(r:Int × aB)(h:iK toks d g st=some r):bX st r.2:=by
 unfold iK at h;obtain⟨l,h1,h⟩:=bH h;obtain rfl:=Option.some.inj h;exact((dO _ _ _).trans (jc h1)).trans (aD _ _ _)
theorem JN (toks:List Tok)(st:aB):bX st (mq toks st).2:=(((aJ _ _).trans (dO _ _ _)).trans (aF _ _ _)).trans (aD _ _ _)
theorem JO (toks:List Tok)(st:aB):bX st (lW toks st).2:=by
 unfold lW
 split
 ·exact aJ _ _
 ·exact bX.refl _
theorem BZ (toks:List Tok)(st:aB):bX st (iL toks st).2:=(((JO _ _).trans (aF _ _ _)).trans (dO _ _ _)).trans (aF _ _ _)
theorem sQ {toks:List Tok}{d g:Nat}(st:aB)(r:Int × aB)(h:uN toks d g st=some r):bX st r.2:=by
 unfold uN at h;obtain⟨l,h1,h⟩:=bH h;obtain⟨t,h2,h⟩:=bH h;obtain⟨f,h3,h⟩:=bH h;obtain rfl:=Option.some.inj h;exact((((((BZ _ _).trans (kg toks _ jF _ _ h1)).trans (aF _ _ _)).trans (jc h2)).trans (aF _ _ _)).trans (aN _ _ _ _ _ _ h3)).trans ((aF _ _ _).trans (aD _ _ _))
theorem mO {toks:List Tok}{one:aB→Option (Int × aB)}{first:List (List UInt8)}(h1:∀ s k,one s=some k→bX s k.2):∀ (r:Nat) (kids:List Int) (st:aB) (l:List Int × aB),iZ toks one first r kids st=some l→bX st l.2
 | 0,kids,st,l,h=>by
  rw[iZ] at h;obtain rfl:=Option.some.inj h;show bX st (if _ then _ else _)
  split
  ·exact nI _ _ _
  ·exact bX.refl _
 | r+1,kids,st,l,h=>by
  rw[iZ] at h
  split at h
  ·obtain⟨k,hk,h⟩:=bH h
   exact(h1 _ _ hk).trans (mO h1 r _ _ _ h)
  ·injection h with h;subst h
   exact bX.refl _
theorem sS (toks:List Tok)(s:aB)(k:Int × aB)(h:(fun s=>some (mq toks s)) s=some k):bX s k.2:=by
 obtain rfl:=Option.some.inj h;exact JN _ _
theorem JQ {toks:List Tok}{d g:Nat}{st:aB}{r:Int × aB}(h:iY toks d g st=some r):oK toks st r.2:=by
 unfold iY at h;obtain⟨f,h1,h⟩:=bH h;obtain rfl:=Option.some.inj h;have e2:=kT toks d g _ _ _ h1
 have e3:oK toks st (jE f.2 st.clause):=fun q=>e2 (bO toks st q)
 exact(e3.trans (dA _ _ _)).trans (bU _ _ _)
theorem Ca {toks:List Tok}{d g:Nat}{kids:List Int}{st:aB}{r:List Int × aB}(h:gD toks d g kids st=some r):oK toks st r.2:=by
 have hb:oK toks st (dB toks st).2:=((dA _ _ _).trans (dA _ _ _)).trans (bU _ _ _);unfold gD at h
 split at h
 ·obtain⟨n,h1,h⟩:=bH h
  obtain rfl:=Option.some.inj h;exact hb.trans (JQ h1)
 ·injection h with h;subst h
  exact hb
theorem MU {toks:List Tok}{d g:Nat}(st:aB)(r:Int × aB)(h:iK toks d g st=some r):oK toks st r.2:=by
 unfold iK at h;obtain⟨l,h1,h⟩:=bH h;obtain rfl:=Option.some.inj h;exact((nL _ _ _).trans (Ca h1)).trans (bU _ _ _)
theorem JR (toks:List Tok)(s:aB)(k:Int × aB)(h:(fun s=>some (mq toks s)) s=some k):oK toks s k.2:=by
 obtain rfl:=Option.some.inj h;exact(((bO _ _).trans (nL _ _ _)).trans (dA _ _ _)).trans (bU _ _ _)
theorem MV (toks:List Tok)(st:aB):oK toks st (iL toks st).2:=by
 have hp:oK toks st (lW toks st).2:=by
  unfold lW
  split
  ·exact bO _ _
  ·exact oK.refl _
 exact((hp.trans (dA _ _ _)).trans (nL _ _ _)).trans (dA _ _ _)
theorem UC {toks:List Tok}{d g:Nat}(st:aB)(r:Int × aB)(h:uN toks d g st=some r):oK toks st r.2:=by
 unfold uN at h;obtain⟨l,h1,h⟩:=bH h;obtain⟨t,h2,h⟩:=bH h;obtain⟨f,h3,h⟩:=bH h;obtain rfl:=Option.some.inj h;exact((((((MV _ _).trans (Fq toks _ MU _ _ h1)).trans (dA _ _ _)).trans (Ca h2)).trans (dA _ _ _)).trans (kT _ _ _ _ _ _ h3)).trans ((dA _ _ _).trans (bU _ _ _))
theorem Cb {toks:List Tok}{one:aB→Option (Int × aB)}{first:List (List UInt8)}(h1:∀ s k,one s=some k→oK toks s k.2):∀ (r:Nat) (kids:List Int) (st:aB) (l:List Int × aB),iZ toks one first r kids st=some l→oK toks st l.2
 | 0,kids,st,l,h=>by
  rw[iZ] at h;obtain rfl:=Option.some.inj h;show oK toks st (if _ then _ else _)
  split
  ·exact nK _ _ _
  ·exact oK.refl _
 | r+1,kids,st,l,h=>by
  rw[iZ] at h
  split at h
  ·obtain⟨k,hk,h⟩:=bH h
   exact(h1 _ _ hk).trans (Cb h1 r _ _ _ h)
  ·injection h with h;subst h
   exact oK.refl _
theorem QZ {toks:List Tok}{d g:Nat}{st:aB}{r:Int × aB}(h:ny toks d g st=some r):oK toks st r.2:=by
 unfold ny at h;obtain⟨a,h1,h⟩:=bH h;obtain⟨b,h2,h⟩:=bH h;obtain rfl:=Option.some.inj h;exact(((Cb (JR toks) _ _ _ _ h1).trans (Cb UC _ _ _ _ h2)).trans (nL _ _ _)).trans (bU _ _ _)
theorem Cc {toks:List Tok}{d d' g:Nat}(hdd:d≤d'){st:aB}{r:Int × aB}(h:iY toks d g st=some r)(hr:r.2.fE=0):iY toks d' g st=some r:=by
 unfold iY at h ⊢;obtain⟨f,h1,h⟩:=bH h;obtain rfl:=Option.some.inj h;have h0:(jE f.2 st.clause).fE=0:=((aF _ _ _).trans (aD _ _ _)).zero hr;rw[gy toks d d' hdd g _ _ _ h1 h0,Option.bind_some]
theorem uP {toks:List Tok}{d d' g:Nat}(hdd:d≤d'){kids:List Int}{st:aB}{r:List Int × aB}(h:gD toks d g kids st=some r)(hr:r.2.fE=0):gD toks d' g kids st=some r:=by
 unfold gD at h ⊢
 split at h
 ·rename_i hc
  rw[if_pos hc];obtain⟨n,h1,h⟩:=bH h;obtain rfl:=Option.some.inj h;rw[Cc hdd h1 hr,Option.bind_some]
 ·rename_i hc
  rw[if_neg hc];exact h
theorem Es {toks:List Tok}{d d' g:Nat}(hdd:d≤d')(st:aB)(r:Int × aB)(h:iK toks d g st=some r)(hr:r.2.fE=0):iK toks d' g st=some r:=by
 unfold iK at h ⊢;obtain⟨l,h1,h⟩:=bH h;obtain rfl:=Option.some.inj h;rw[uP hdd h1 ((aD _ _ _).zero hr),Option.bind_some]
theorem JU {toks:List Tok}{d d' g:Nat}(hdd:d≤d')(st:aB)(r:Int × aB)(h:uN toks d g st=some r)(hr:r.2.fE=0):uN toks d' g st=some r:=by
 unfold uN at h ⊢;obtain⟨l,h1,h⟩:=bH h;obtain⟨t,h2,h⟩:=bH h;obtain⟨f,h3,h⟩:=bH h;obtain rfl:=Option.some.inj h;have z3:f.2.fE=0:=((aF _ _ _).trans (aD _ _ _)).zero hr;have z2:t.2.fE=0:=((aF _ _ _).trans (aN _ _ _ _ _ _ h3)).zero z3;have z1:l.2.fE=0:=((aF _ _ _).trans (jc h2)).zero z2;rw[xg toks _ _ jF (Es hdd) _ _ h1 z1,Option.bind_some,uP hdd h2 z2,Option.bind_some,gy toks d d' hdd g _ _ _ h3 z3,Option.bind_some]
theorem zR {toks:List Tok}{one one':aB→Option (Int × aB)}{first:List (List UInt8)}(h1:∀ s k,one s=some k→bX s k.2)(h2:∀ s k,one s=some k→k.2.fE=0→one' s=some k):∀ (r:Nat) (kids:List Int) (st:aB) (l:List Int × aB),iZ toks one first r kids st=some l→l.2.fE=0→iZ toks one' first r kids st=some l
 | 0,kids,st,l,h,_=>by rw[iZ] at h ⊢;exact h
 | r+1,kids,st,l,h,hl=>by
  rw[iZ] at h ⊢
  split at h
  ·rename_i hc
   rw[if_pos hc];obtain⟨k,hk,h⟩:=bH h;rw[h2 _ _ hk ((mO h1 r _ _ _ h).zero hl),Option.bind_some];exact zR h1 h2 r _ _ _ h hl
  ·rename_i hc
   rw[if_neg hc];exact h
theorem G9 {toks:List Tok}{d d' g:Nat}(hdd:d≤d'){st:aB}{r:Int × aB}(h:ny toks d g st=some r)(hr:r.2.fE=0):ny toks d' g st=some r:=by
 unfold ny at h ⊢;obtain⟨a,h1,h⟩:=bH h;obtain⟨b,h2,h⟩:=bH h;obtain rfl:=Option.some.inj h;have z2:b.2.fE=0:=((dO _ _ _).trans (aD _ _ _)).zero hr;rw[h1,Option.bind_some,zR sQ (JU hdd) _ _ _ _ h2 z2,Option.bind_some]
theorem Ce {toks:List Tok}(hE:gH toks)(d:Nat)(st:aB):∃ f,run toks d (xA toks) (.expr 1) st=some f :=
 jk toks d hE (xA toks) (.expr 1) st trivial (by simp only[dU,jg,xA];omega)
theorem Et {toks:List Tok}(hE:gH toks)(d:Nat)(st:aB):∃ r,iY toks d (xA toks) st=some r:=by
 obtain⟨f,hf⟩:=Ce hE d (jE (ay toks st).2 true);unfold iY;rw[hf];exact⟨_,rfl⟩
theorem xC {toks:List Tok}(hE:gH toks)(d:Nat)(kids:List Int)(st:aB):∃ r,gD toks d (xA toks) kids st=some r:=by
 unfold gD
 split
 ·obtain⟨n,hn⟩:=Et hE d (dB toks st).2
  rw[hn];exact⟨_,rfl⟩
 ·exact⟨_,rfl⟩
theorem He {toks:List Tok}(hE:gH toks)(d:Nat)(st:aB):∃ r,iK toks d (xA toks) st=some r:=by
 obtain⟨l,hl⟩:=xC hE d [(aO toks 1 st).1] (aO toks 1 st).2;unfold iK;rw[hl];exact⟨_,rfl⟩
theorem MW {toks:List Tok}(hE:gH toks)(d:Nat)(st:aB):∃ r,uN toks d (xA toks) st=some r:=by
 have h1:∃ l,jf toks (iK toks d (xA toks)) (iL toks st).2=some l:=by
  unfold jf
  split
  ·exact⟨_,rfl⟩
  ·exact nR toks _ 0 (fun s _=>by
    obtain⟨k,hk⟩:=He hE d s
    exact⟨k,hk,jF _ _ hk⟩) _ _ _ (.inl (Nat.zero_le _))
 obtain⟨l,h1⟩:=h1;unfold uN;rw[h1,Option.bind_some];obtain⟨t,h2⟩:=xC hE d ((lW toks st).1++[(pJ toks st).1,(jP toks st).1,(iL toks st).1]++l.1++[(aA toks [[41]] l.2).1]) (aA toks [[41]] l.2).2;rw[h2,Option.bind_some];obtain⟨f,h3⟩:=Ce hE d (aA toks [[61]] t.2).2;rw[h3,Option.bind_some];exact⟨_,rfl⟩
theorem vM {toks:List Tok}{one:aB→Option (Int × aB)}{first:List (List UInt8)}(h1:∀ s,∃ k,one s=some k):∀ (r:Nat) (kids:List Int) (st:aB),∃ l,iZ toks one first r kids st=some l
 | 0,kids,st=>⟨_,rfl⟩
 | r+1,kids,st=>by
  rw[iZ]
  split
  ·obtain⟨k,hk⟩:=h1 st
   rw[hk,Option.bind_some];exact vM h1 r _ _
  ·exact⟨_,rfl⟩
theorem JV {toks:List Tok}(hE:gH toks)(d:Nat)(st:aB):∃ r,ny toks d (xA toks) st=some r:=by
 obtain⟨a,h1⟩:=vM (toks:=toks) (one:=fun s=>some (mq toks s)) (first:=[oZ]) (fun s=>⟨_,rfl⟩) 16 [] st;obtain⟨b,h2⟩:=vM (toks:=toks) (first:=[yS,G8]) (MW hE d) 64 [] a.2;unfold ny;rw[h1,Option.bind_some,h2,Option.bind_some];exact⟨_,rfl⟩
theorem JW {k:Int}{l:List Int}{st:aB}(h:st.fE≠0):(aY k l st).2=st:=by
 unfold aY;rw[if_neg h]
theorem Fu {toks:List Tok}{k:Int}{l:List Int}{ts:List (List UInt8)}{st s3:aB}(h:Slk (aA toks ts st).2 s3)(he:bX (aA toks ts st).2 s3)(hm:(aA toks ts st).1∈l):Slk st (aY k l s3).2:=by
 unfold aA at h he hm
 split at h
 ·rename_i hc
  rw[if_pos hc] at he hm;exact eU toks k l st s3 h hm
 ·rename_i hc
  rw[if_neg hc] at he;have hf:=he.2.1 (kK (by decide) st);have h0:(fQ toks 22 st).fE≠0:=kK (by decide) st;rw[JW (by rw[hf];exact h0)];exact(ku _ _ _).trans h
theorem Fv {toks:List Tok}{k:Int}{l:List Int}{c:Nat}{st s3:aB}(h:Slk (aO toks c st).2 s3)(he:bX (aO toks c st).2 s3)(hm:(aO toks c st).1∈l):Slk st (aY k l s3).2:=by
 unfold aO at h he hm
 split at h
 ·rename_i hc
  rw[if_pos hc] at he hm;exact eU toks k l st s3 h hm
 ·rename_i hc
  rw[if_neg hc] at he;have hf:=he.2.1 (kK (by decide) st);have h0:(fQ toks 22 st).fE≠0:=kK (by decide) st;rw[JW (by rw[hf];exact h0)];exact(ku _ _ _).trans h
theorem Fw (toks:List Tok)(st:aB):Slk st (dB toks st).2 :=
 (eB _ _ _).trans (Fu (Slk.refl _) (bX.refl _) (List.mem_singleton.2 rfl))
theorem JX {toks:List Tok}{d g:Nat}{st:aB}{r:Int × aB}(h:iY toks d g st=some r):Slk st r.2:=by
 unfold iY at h;obtain⟨f,h1,h⟩:=bH h;obtain rfl:=Option.some.inj h;have e2:Slk (jE (ay toks st).2 true) f.2:=kS toks d g _ _ _ h1;have e3:Slk (ay toks st).2 (jE f.2 st.clause):=e2;exact eU toks 6 _ st _ (e3.trans (eB _ _ _)) List.mem_cons_self
theorem Cg {toks:List Tok}{d g:Nat}{kids:List Int}{st:aB}{r:List Int × aB}(h:gD toks d g kids st=some r):Slk st r.2∧∀ k∈kids,k∈r.1:=by
 unfold gD at h
 split at h
 ·obtain⟨n,h1,h⟩:=bH h
  obtain rfl:=Option.some.inj h;exact⟨(Fw _ _).trans (JX h1),fun k hk=>List.mem_append_left _ hk⟩
 ·obtain rfl:=Option.some.inj h
  exact⟨Fw _ _,fun k hk=>List.mem_append_left _ hk⟩
theorem MX {toks:List Tok}{d g:Nat}(st:aB)(r:Int × aB)(h:iK toks d g st=some r):Slk st r.2:=by
 unfold iK at h;obtain⟨l,h1,h⟩:=bH h;obtain rfl:=Option.some.inj h;obtain⟨h2,h3⟩:=Cg h1;exact Fv h2 (jc h1) (h3 _ List.mem_cons_self)
theorem JY (toks:List Tok)(s:aB)(k:Int × aB)(h:(fun s=>some (mq toks s)) s=some k):Slk s k.2:=by
 obtain rfl:=Option.some.inj h;exact eU toks 2 _ s _ ((uE _ _ _).trans (eB _ _ _)) List.mem_cons_self
theorem UD {toks:List Tok}{d g:Nat}(st:aB)(r:Int × aB)(h:uN toks d g st=some r):Slk st r.2:=by
 unfold uN at h;obtain⟨l,h1,h⟩:=bH h;obtain⟨t,h2,h⟩:=bH h;obtain⟨f,h3,h⟩:=bH h;obtain rfl:=Option.some.inj h
 have hp:Slk st (lW toks st).2:=by
  unfold lW
  split
  ·exact kC _ _
  ·exact Slk.refl _
 obtain⟨t1,t2⟩:=Cg h2;have e1:Slk (pJ toks st).2 (aA toks [[59]] f.2).2:=(((((((uE _ _ _).trans (eB _ _ _)).trans (Fp toks _ MX _ _ h1)).trans (eB _ _ _)).trans t1).trans (eB _ _ _)).trans (kS _ _ _ _ _ _ h3)).trans (eB _ _ _);have e2:bX (pJ toks st).2 (aA toks [[59]] f.2).2:=(((((((dO _ _ _).trans (aF _ _ _)).trans (kg toks _ jF _ _ h1)).trans (aF _ _ _)).trans (jc h2)).trans (aF _ _ _)).trans (aN _ _ _ _ _ _ h3)).trans (aF _ _ _);exact hp.trans (Fu e1 e2 (List.mem_append_left _ (t2 _ (by show (pJ toks st).1∈_;simp))))
theorem Ch {toks:List Tok}{one:aB→Option (Int × aB)}{first:List (List UInt8)}(h1:∀ s k,one s=some k→Slk s k.2):∀ (r:Nat) (kids:List Int) (st:aB) (l:List Int × aB),iZ toks one first r kids st=some l→Slk st l.2
 | 0,kids,st,l,h=>by
  rw[iZ] at h;obtain rfl:=Option.some.inj h;show Slk st (if _ then _ else _)
  split
  ·exact ku _ _ _
  ·exact Slk.refl _
 | r+1,kids,st,l,h=>by
  rw[iZ] at h
  split at h
  ·obtain⟨k,hk,h⟩:=bH h
   exact(h1 _ _ hk).trans (Ch h1 r _ _ _ h)
  ·obtain rfl:=Option.some.inj h
   exact Slk.refl _
theorem Q0 {toks:List Tok}{d g:Nat}{st:aB}{r:Int × aB}(h:ny toks d g st=some r):Slk st r.2:=by
 unfold ny at h;obtain⟨a,h1,h⟩:=bH h;obtain⟨b,h2,h⟩:=bH h;obtain rfl:=Option.some.inj h;exact((Ch (JY toks) _ _ _ _ h1).trans (Ch UD _ _ _ _ h2)).trans (Fv (Slk.refl _) (bX.refl _) (by simp))
theorem Ci {toks:List Tok}{one:aB→Option (Int × aB)}{first:List (List UInt8)}:∀ (r:Nat) (kids:List Int) (st:aB) (l:List Int × aB),iZ toks one first r kids st=some l→l.1.length≤kids.length+r
 | 0,kids,st,l,h=>by
  rw[iZ] at h;obtain rfl:=Option.some.inj h;exact Nat.le_refl _
 | r+1,kids,st,l,h=>by
  rw[iZ] at h
  split at h
  ·obtain⟨k,hk,h⟩:=bH h
   have:=Ci r _ _ _ h;rw[bP,List.length_singleton] at this;omega
  ·obtain rfl:=Option.some.inj h
   exact Nat.le_add_right _ _
def MZ (toks:List Tok)(st:aB)(r:Int × aB)(t:PT):Prop:=dR st [t] r.2∧r.1=((st.nodes.length+t.nd:Nat):Int) - 1∧(st.used<toks.length→r.2.used<toks.length)
theorem Te.p {toks:List Tok}{st:aB}{r:Int × aB}{e:CE}(h:Te toks st r e):MZ toks st r e.pt:=⟨h.1,h.2.1,h.2.2.2⟩
theorem dR.UE {toks:List Tok}{a b:aB}{l:List PT}{k:Nat}{ids:List Int}(h:dR a l b)(aay:ids=bM a.nodes.length l)(hf:(aY k ids b).2.fE=0)(hu:a.used<toks.length→b.used<toks.length):MZ toks a (aY k ids b) (.node k l):=by
 subst aay;obtain⟨h1,h2⟩:=h.node (oV hf) k;refine⟨h1,by rw[h2,PT.nd];omega,fun q=>?_⟩;have h3:=h1.used;have h4:=h.used;have h5:=hu q;rw[h3];rw[h4] at h5
 simpa [bB,PT.lv] using h5
def IG (a:aB)(ids:List Int)(l:List PT)(b:aB):Prop:=dR a l b∧ids=bM a.nodes.length l
theorem IG.append {a b c:aB}{i j:List Int}{l k:List PT}(h:IG a i l b)(h2:IG b j k c):IG a (i++j) (l++k) c :=
 ⟨h.1.append h2.1,by rw[h.2,h2.2,mH,h.1.len]⟩
theorem IG.leaf {a b:aB}{x:Int}(h:dR a [.leaf] b)(hx:x=((a.nodes.length:Nat):Int)):IG a [x] [.leaf] b:=⟨h,by simp[bM,PT.nd,hx]⟩
theorem IG.res {a b:aB}{t:PT}{x:Int}(h:dR a [t] b)(hx:x=((a.nodes.length+t.nd:Nat):Int) - 1):IG a [x] [t] b:=⟨h,by simp[bM,hx]⟩
theorem IG.nil (a:aB):IG a [] [] a:=⟨dR.nil a,rfl⟩
def jG:List PT→List PT
 | []=>[]
 | t :: l=>t :: (match l with | []=>[]|_ :: _=>.leaf :: jG l)
theorem uG (t:PT):jG [t]=[t]:=by rw[jG]
theorem qm (t s:PT)(l:List PT):jG (t :: s :: l)=t :: .leaf :: jG (s :: l):=by rw[jG]
structure fu where
 cl:Option CE
def fu.pts (t:fu):List PT:=[.leaf,.node 5 [.leaf]]++(match t.cl with|none=>[]|some e=>[.node 6 [.leaf,e.pt,.leaf]])
def fu.ok (toks:List Tok)(u:Nat)(t:fu):Prop:=aI toks (u+1)∈[MS,xB]∧(match t.cl with|none=>True|some e=>e.ok toks true (u+3))
def fu.par (t:fu):PT:=.node 4 (.leaf :: t.pts)
def fu.JZ (toks:List Tok)(u:Nat)(t:fu):Prop:=gu toks u=1∧t.ok toks (u+1)
def vN (toks:List Tok)(u:Nat):List fu→Prop
 | []=>True
 | t :: l=>t.JZ toks u∧vN toks (u+t.par.lv+1) l
structure cB where
 pub:Bool
 jS:List fu
 ty:fu
 body:CE
def cB.lead (d:cB):List PT:=if d.pub=true then [.leaf] else []
def cB.kids (d:cB):List PT:=d.lead++([.leaf,.leaf,.leaf]++(jG (d.jS.map fu.par)++([.leaf]++(d.ty.pts++[.leaf,d.body.pt,.leaf]))))
def cB.pt (d:cB):PT:=.node 3 d.kids
def cB.Cj (u:Nat)(d:cB):Nat:=u+bB d.lead
def cB.at2 (u:Nat)(d:cB):Nat:=d.Cj u+3+bB (jG (d.jS.map fu.par))+1
def cB.at3 (u:Nat)(d:cB):Nat:=d.at2 u+bB d.ty.pts+1
def cB.ok (toks:List Tok)(u:Nat)(d:cB):Prop :=
 (d.pub=true→aI toks u=yS)∧aI toks (d.Cj u)=G8∧gu toks (d.Cj u+1)=1∧d.jS.length≤8∧vN toks (d.Cj u+3) d.jS∧d.ty.ok toks (d.at2 u)∧d.body.ok toks false (d.at3 u)
def fu.marks (toks:List Tok)(u:Nat)(t:fu):Prop:=t.cl≠none→aI toks (u+2)=[123]
def qo (toks:List Tok)(u:Nat):List fu→Prop
 | []=>True
 | t :: l=>t.marks toks (u+1)∧(l≠[]→aI toks (u+t.par.lv)=[44])∧qo toks (u+t.par.lv+1) l
def cB.marks (toks:List Tok)(u:Nat)(d:cB):Prop:=qo toks (d.Cj u+3) d.jS∧aI toks (d.at2 u - 1)=[41]∧d.ty.marks toks (d.at2 u)
def yU (toks:List Tok)(u:Nat):List cB→Prop
 | []=>True
 | d :: l=>d.marks toks u∧yU toks (u+d.pt.lv) l
def sU:PT:=.node 2 [.leaf,.leaf,.leaf]
def yV (toks:List Tok)(u:Nat):List cB→Prop
 | []=>True
 | d :: l=>d.ok toks u∧yV toks (u+d.pt.lv) l
def M0 (toks:List Tok)(u:Nat):Nat→Prop
 | 0=>True
 | n+1=>aI toks u=oZ∧gu toks (u+1)=1∧M0 toks (u+3) n
structure kG where
 imps:Nat
 defs:List cB
def kG.kids (p:kG):List PT:=List.replicate p.imps sU++(p.defs.map cB.pt++[.leaf])
def kG.pt (p:kG):PT:=.node 1 p.kids
def kG.marks (toks:List Tok)(p:kG):Prop:=yU toks (3 * p.imps) p.defs
def kG.ok (toks:List Tok)(p:kG):Prop:=p.imps≤16∧p.defs.length≤64∧M0 toks 0 p.imps∧yV toks (3 * p.imps) p.defs
theorem Q6 {a b:aB}{l:List PT}{c:Bool}(h:dR (jE a c) l b):dR a l (jE b a.clause):=by
 rw[dR] at h ⊢;rw[h]
 rfl
theorem Pf {toks:List Tok}(hE:gH toks){st:aB}(h:(dB toks st).2.fE=0) :
  dR st [.leaf,.node 5 [.leaf]] (dB toks st).2∧[(jD toks st).1,(dB toks st).1]=bM st.nodes.length [.leaf,.node 5 [.leaf]]∧aI toks (st.used+1)∈[MS,xB]∧(st.used<toks.length→(dB toks st).2.used<toks.length):=by
 have h2:=oV h;obtain⟨b1,b2,b3,b4,b5⟩:=gN hE h2;obtain⟨a1,a2,a3,a4,a5⟩:=gN hE b5;have hr:=b1.UE (k:=5) (toks:=toks) (ids:=[(vL toks st).1]) (by rw[show (vL toks st).1=_ from b2];simp[bM,PT.nd]) h (fun _=>by have:=b1.used;simp only[bB,PT.lv] at this;omega);obtain⟨r1,r2,r3⟩:=hr;have u1:=a1.used;have n1:=a1.len;simp only[bB,PT.lv,dI,PT.nd] at u1 n1;refine⟨a1.append r1,?_,by rw[show st.used+1=(jD toks st).2.used from by rw[show (jD toks st).2.used=_ from u1]];exact b3,fun _=>r3 (by show (aA toks [[58]] st).2.used<_;omega)⟩;rw[show (dB toks st).1=_ from r2,show (jD toks st).1=_ from a2];simp only[bM,PT.nd,dI];rw[show (jD toks st).2.nodes.length=_ from n1]
 congr 1
 ·omega
theorem J2 (b:Nat)(l k:List PT):bM b (l++k)=bM b l++bM (b+dI l) k:=mH b l k
theorem Q7 {toks:List Tok}(hE:gH toks){d g:Nat}{st:aB}{r:Int × aB}(h:iY toks d g st=some r)(hr:r.2.fE=0)(hn:aS toks st [[123]]=true) :
  ∃ e:CE,MZ toks st r (.node 6 [.leaf,e.pt,.leaf])∧e.ok toks true (st.used+1):=by
 unfold iY at h;obtain⟨f,h1,h⟩:=bH h;obtain rfl:=Option.some.inj h;have z1:=oV hr;obtain⟨m1,m2,m3,m4,m5⟩:=gN hE z1;obtain⟨l1,l2,l3⟩:=iC hE (aZ hn);obtain⟨e,e1,e2,e3,e4⟩:=jB toks hE d g _ _ _ h1 m5;have l4:=l1.used;have l5:=l1.len;simp only[bB,PT.lv,dI,PT.nd] at l4 l5
 have hg2:dR (ay toks st).2 [e.pt] (jE f.2 st.clause):=by
  have:=Q6 e1;rw[l1.clause] at this;exact this
 have hg:=(l1.append hg2).append m1;have n2:=hg2.len;have u2:=hg2.used;have hu:=m1.used;simp only[bB,PT.lv,dI] at n2 u2 hu;refine⟨e,hg.UE (k:=6) ?_ hr (fun _=>by omega),?_⟩
 ·rw[m2,e2,l2,n2]
  simp only[bM,PT.nd,List.cons_append,List.nil_append]
  show [_,_,_]=[_,_,_]
  have:(jE (ay toks st).2 true).nodes.length=st.nodes.length+1:=l5;rw[this]
  congr 1
  ·omega
  ·congr 1
   congr 1
   omega
 ·have h3:e.ok toks (jE (ay toks st).2 true).clause (jE (ay toks st).2 true).used:=e3
  have:(jE (ay toks st).2 true).used=st.used+1:=l4;rw[this] at h3;exact h3
theorem J3 {toks:List Tok}(hE:gH toks){d g:Nat}{kids:List Int}{st:aB}{r:List Int × aB}(h:gD toks d g kids st=some r)(hr:r.2.fE=0) :
  ∃ t:fu,dR st t.pts r.2∧r.1=kids++bM st.nodes.length t.pts∧t.ok toks st.used∧(st.used<toks.length→r.2.used<toks.length)∧t.marks toks st.used:=by
 unfold gD at h
 split at h
 ·rename_i hc
  obtain⟨n,h1,h⟩:=bH h;obtain rfl:=Option.some.inj h;obtain⟨b1,b2,b3,b4⟩:=Pf hE hc.1;obtain⟨e,⟨e1,e2,e3⟩,e4⟩:=Q7 hE h1 hr hc.2;have u1:=b1.used;have n1:=b1.len;simp only[bB,PT.lv,dI,PT.nd] at u1 n1;refine⟨⟨some e⟩,b1.append e1,?_,⟨b3,by rw[u1] at e4;exact e4⟩,fun q=>e3 (b4 q),fun _=>by have h8:=gK hc.2;rw[u1] at h8;simpa using h8⟩;show _=kids++bM _ ([.leaf,.node 5 [.leaf]]++[.node 6 [.leaf,e.pt,.leaf]]);rw[J2,← b2,e2,n1];simp only[bM,PT.nd,dI]
  congr 1
 ·obtain rfl:=Option.some.inj h
  obtain⟨b1,b2,b3,b4⟩:=Pf hE hr;refine⟨⟨none⟩,by simpa [fu.pts] using b1,?_,⟨b3,trivial⟩,b4,fun q=>absurd rfl q⟩;show _=kids++bM _ ([.leaf,.node 5 [.leaf]]++[]);rw[List.append_nil,← b2]
theorem J4 {toks:List Tok}(hE:gH toks){d g:Nat}(st:aB)(r:Int × aB)(h:iK toks d g st=some r)(hr:r.2.fE=0):∃ t:fu,MZ toks st r t.par∧t.JZ toks st.used∧t.marks toks (st.used+1):=by
 unfold iK at h;obtain⟨l,h1,h⟩:=bH h;obtain rfl:=Option.some.inj h;have z1:=oV hr;obtain⟨t,t1,t2,t3,t4,t5⟩:=J3 hE h1 z1;obtain⟨k1,k2,k3,k4,k5⟩:=wW hE (by decide) ((jc h1).zero z1);have u1:=k1.used;have n1:=k1.len;simp only[bB,PT.lv,dI,PT.nd] at u1 n1;refine⟨t,(k1.append t1).UE (k:=4) ?_ hr (fun _=>t4 (by omega)),⟨k3,by rw[u1] at t3;exact t3⟩,by rw[u1] at t5;exact t5⟩;rw[t2,k2,n1,J2];simp[bM,PT.nd,dI]
theorem Fx {toks:List Tok}(hE:gH toks){d g:Nat}:∀ (r:Nat) (kids:List Int) (st:aB) (l:List Int × aB),aR toks (iK toks d g) r kids st=some l→l.2.fE=0 →
  ∃ es:List fu,es≠[]∧es.length≤r∧dR st (jG (es.map fu.par)) l.2∧l.1=kids++bM st.nodes.length (jG (es.map fu.par))∧vN toks st.used es∧(st.used<toks.length→l.2.used<toks.length)∧qo toks st.used es
 | 0,kids,st,l,h,hl=>by
  rw[aR] at h;obtain rfl:=Option.some.inj h
  exfalso
  have hl:(if st.fE=0 then fQ toks 15 st else st).fE=0:=hl
  split at hl
  ·exact oU (by decide) hl
  ·rename_i hf;exact hf hl
 | r+1,kids,st,l,h,hl=>by
  rw[aR] at h
  split at h
  ·rename_i hf
   obtain rfl:=Option.some.inj h;exact absurd hl hf
  ·obtain⟨k,hk,h⟩:=bH h
   split at h
   ·rename_i hn
    obtain⟨g1,i1,u1⟩:=iC hE (aZ hn.2);obtain⟨e,⟨he1,he2,he4⟩,he3,he5⟩:=J4 hE _ _ hk hn.1;obtain⟨es,hne,hlen,hg,hi,hok,hu,hm⟩:=Fx hE r _ _ _ h hl
    obtain⟨f,es,rfl⟩:∃ f fs,es=f :: fs:=by cases es with
     | nil=>exact absurd rfl hne
     | cons f fs=>exact⟨f,fs,rfl⟩
    have a1:=he1.len;have a2:=he1.used;have b1:=g1.len;have b2:=g1.used;simp only[dI,bB,PT.nd,PT.lv,Nat.add_zero] at a1 a2 b1 b2;refine⟨e :: f :: es,by simp,by simpa using hlen,?_,?_,?_,fun q=>hu (by have:=he4 q;omega),?_⟩
    ·rw[List.map_cons,List.map_cons,qm]
     exact(he1.append g1).append hg
    ·rw[hi,List.map_cons (a:=e),List.map_cons (a:=f),qm,qh,qh,he2,i1,b1,a1]
     simp only[PT.nd,List.append_assoc,List.cons_append,List.nil_append]
     congr 2
     congr 1
     omega
    ·rw[b2,a2] at hok
     exact⟨he3,hok⟩
    ·rw[b2,a2] at hm
     exact⟨he5,fun _=>by have h8:=gK hn.2;rw[a2] at h8;simpa using h8,hm⟩
   ·obtain rfl:=Option.some.inj h
    obtain⟨e,⟨he1,he2,he4⟩,he3,he5⟩:=J4 hE _ _ hk hl;refine⟨[e],by simp,by simp,by rw[List.map_cons,List.map_nil,uG];exact he1,?_,⟨he3,trivial⟩,he4,he5,fun q=>absurd rfl q,trivial⟩;rw[List.map_cons,List.map_nil,uG,qh,he2];simp[bM]
theorem YB {toks:List Tok}(hE:gH toks){d g:Nat}{st:aB}{l:List Int × aB}(h:jf toks (iK toks d g) st=some l)(hl:l.2.fE=0) :
  ∃ es:List fu,es.length≤8∧dR st (jG (es.map fu.par)) l.2∧l.1=bM st.nodes.length (jG (es.map fu.par))∧vN toks st.used es∧(st.used<toks.length→l.2.used<toks.length)∧qo toks st.used es:=by
 unfold jf at h
 split at h
 ·obtain rfl:=Option.some.inj h
  exact⟨[],by simp,by simpa [jG] using dR.nil st,by simp[jG,bM],trivial,id,trivial⟩
 ·obtain⟨es,_,h1,h2,h3,h4,h5,h6⟩:=Fx hE _ _ _ _ h hl
  exact⟨es,h1,h2,by rw[h3];simp,h4,h5,h6⟩
theorem aaS {toks:List Tok}(hE:gH toks){dp g:Nat}(st:aB)(r:Int × aB)(h:uN toks dp g st=some r)(hr:r.2.fE=0)(hc:st.clause=false):∃ d:cB,MZ toks st r d.pt∧d.ok toks st.used∧d.marks toks st.used:=by
 unfold uN at h;obtain⟨l,h1,h⟩:=bH h;obtain⟨t,h2,h⟩:=bH h;obtain⟨f,h3,h⟩:=bH h;obtain rfl:=Option.some.inj h;have z1:=oV hr;obtain⟨m1,m2,m3,m4,m5⟩:=gN hE z1;have z2:=(aN toks dp g _ _ _ h3).zero m5;obtain⟨q1,q2,q3,q4,q5⟩:=gN hE z2;obtain⟨ty,t1,t2,t3,t4,t5⟩:=J3 hE h2 q5;have z3:=(jc h2).zero q5;obtain⟨c1,c2,c3,c4,c5⟩:=gN hE z3;obtain⟨ps,p1,p2,p3,p4,p5,p6⟩:=YB hE h1 c5;have z4:=(kg toks _ jF _ _ h1).zero c5;obtain⟨o1,o2,o3,o4,o5⟩:=gN hE (l:=[[40]]) (st:=(jP toks st).2) z4;obtain⟨n1,n2,n3,n4,n5⟩:=wW hE (k:=1) (by decide) (st:=(pJ toks st).2) o5;obtain⟨f1,f2,f3,f4,f5⟩:=gN hE (l:=[G8]) (st:=(lW toks st).2) n5;obtain⟨b,b1,b2,b3,b4⟩:=jB toks hE dp g _ _ _ h3 m5
 have hp:∃ pub:Bool,dR st (if pub=true then [.leaf] else []) (lW toks st).2∧(lW toks st).1=bM st.nodes.length (if pub=true then [.leaf] else [])∧(pub=true→aI toks st.used=yS):=by
  unfold lW
  split
  ·rename_i hx
   obtain⟨l1,l2,_⟩:=iC hE (aZ hx);refine⟨true,by simpa using l1,by simp[bM,PT.nd,l2],fun _=>?_⟩
   simpa using gK hx
  ·exact⟨false,by simpa using dR.nil st,by simp[bM],fun q=>by cases q⟩
 obtain⟨pub,pb1,pb2,pb3⟩:=hp
 have g1:=(pb1.append f1)
 have g2:=(g1.append n1)
 have g3:=(g2.append o1)
 have g4:=(g3.append p2)
 have g5:=(g4.append c1)
 have g6:=(g5.append t1)
 have g7:=(g6.append q1)
 have g8:=(g7.append b1)
 have g9:=(g8.append m1)
 have u0:=pb1.used;have u1:=f1.used;have u2:=n1.used;have u3:=o1.used;have u4:=p2.used;have u5:=c1.used;have u6:=t1.used;have u7:=q1.used;have k8:=g7.clause;simp only[bB,PT.lv] at u1 u2 u3 u5 u7
 have e3:st.used+bB (cB.lead ⟨pub,ps,ty,b⟩)+3=(iL toks st).2.used:=by
  rw[show (iL toks st).2.used=_ from u3,show (jP toks st).2.used=_ from u2,show (pJ toks st).2.used=_ from u1,u0]
  rfl
 have e2:(cB.mk pub ps ty b).at2 st.used=(aA toks [[41]] l.2).2.used:=by
  rw[u5,u4,show (iL toks st).2.used=_ from u3,show (jP toks st).2.used=_ from u2,show (pJ toks st).2.used=_ from u1,u0]
  rfl
 refine⟨⟨pub,ps,ty,b⟩,?_,⟨pb3,?_,?_,p1,?_,?_,?_⟩,?_,?_,?_⟩
 ·have hk:(cB.mk pub ps ty b).kids=(if pub=true then [.leaf] else [])++[.leaf]++[.leaf]++[.leaf]++jG (ps.map fu.par)++[.leaf]++ty.pts++[.leaf]++[b.pt]++[.leaf]:=by
   simp[cB.kids,cB.lead]
  rw[cB.pt,hk];have ig:IG st _ _ _:=(((((((((show IG st _ _ _ from ⟨pb1,pb2⟩).append (IG.leaf f1 f2)).append (IG.leaf n1 n2)).append (IG.leaf o1 o2)).append (show IG _ _ _ _ from ⟨p2,p3⟩)).append (IG.leaf c1 c2)).append (show IG _ _ _ _ from ⟨t1,rfl⟩)).append (IG.leaf q1 q2)).append (IG.res b1 b2)).append (IG.leaf m1 m2);refine g9.UE (k:=3) ?_ hr (fun _=>by have:=m1.used;simp only[bB,PT.lv] at this;omega);rw[← ig.2,t2];simp only[List.append_assoc,List.cons_append,List.nil_append]
  rfl
 ·show aI toks (st.used+bB (cB.lead _))=G8
  have:st.used+bB (cB.lead ⟨pub,ps,ty,b⟩)=(lW toks st).2.used:=u0.symm;rw[this]
  simpa using f3
 ·show gu toks (st.used+bB (cB.lead _)+1)=1
  have:st.used+bB (cB.lead ⟨pub,ps,ty,b⟩)+1=(pJ toks st).2.used:=by rw[show (pJ toks st).2.used=_ from u1,u0];rfl
  rw[this];exact n3
 ·show vN toks (st.used+bB (cB.lead _)+3) ps
  rw[e3];exact p4
 ·rw[e2]
  exact t3
 ·have:(cB.mk pub ps ty b).at3 st.used=(aA toks [[61]] t.2).2.used:=by
   rw[u7,u6,u5,u4,show (iL toks st).2.used=_ from u3,show (jP toks st).2.used=_ from u2,show (pJ toks st).2.used=_ from u1,u0]
   rfl
  rw[this];have hb:b.ok toks (aA toks [[61]] t.2).2.clause (aA toks [[61]] t.2).2.used:=b3;rw[k8,hc] at hb;exact hb
 ·show qo toks (st.used+bB (cB.lead ⟨pub,ps,ty,b⟩)+3) ps
  rw[e3];exact p6
 ·rw[e2,u5]
  simpa using c3
 ·rw[e2]
  exact t5
def okL {α:Type}(P:α→Nat→Prop)(T:α→PT):Nat→List α→Prop
 | _,[]=>True
 | u,a :: l=>P a u∧okL P T (u+(T a).lv) l
theorem M4 {α:Type}{toks:List Tok}{one:aB→Option (Int × aB)}{first:List (List UInt8)}(T:α→PT)(P:α→Nat→Prop)
  (hone:∀ s k,one s=some k→k.2.fE=0→aS toks s first=true→s.clause=false→∃ a,MZ toks s k (T a)∧P a s.used) (hx:∀ s k,one s=some k→bX s k.2) :
  ∀ (r:Nat) (kids:List Int) (st:aB) (l:List Int × aB),iZ toks one first r kids st=some l→l.2.fE=0→st.clause=false →
   ∃ zs9:List α,zs9.length≤r∧dR st (zs9.map T) l.2∧l.1=kids++bM st.nodes.length (zs9.map T)∧okL P T st.used zs9∧(st.used<toks.length→l.2.used<toks.length)
 | 0,kids,st,l,h,hl,_=>by
  rw[iZ] at h;obtain rfl:=Option.some.inj h;have hl:(if st.fE=0∧aS toks st first=true then fQ toks 15 st else st).fE=0:=hl
  split at hl
  ·exact(oU (by decide) hl).elim
  ·rename_i hc
   refine⟨[],by simp,?_,by simp[bM],trivial,?_⟩
   ·show dR st [] (if _ then _ else _)
    rw[if_neg hc];exact dR.nil st
   ·show _→(if _ then _ else _:aB).used<_
    rw[if_neg hc];exact id
 | r+1,kids,st,l,h,hl,hc0=>by
  rw[iZ] at h
  split at h
  ·rename_i hc
   obtain⟨k,hk,h⟩:=bH h;have hz:=(mO hx r _ _ _ h).zero hl;obtain⟨a,⟨g1,i1,u1⟩,p1⟩:=hone _ _ hk hz hc.2 hc0;obtain⟨zs9,h1,h2,h3,h4,h5⟩:=M4 T P hone hx r _ _ _ h hl (by rw[g1.clause];exact hc0);have n1:=g1.len;have s1:=g1.used;simp only[dI,bB,Nat.add_zero] at n1 s1;refine⟨a :: zs9,by simpa using h1,?_,?_,⟨p1,by rw[← s1];exact h4⟩,fun q=>h5 (u1 q)⟩
   ·exact g1.append h2
   ·rw[h3,List.map_cons,bM,i1,n1,List.append_assoc]
    rfl
  ·obtain rfl:=Option.some.inj h
   exact⟨[],by simp,dR.nil st,by simp[bM],trivial,id⟩
theorem Q8 {toks:List Tok}(hE:gH toks)(st:aB)(k:Int × aB)(h:(fun s=>some (mq toks s)) st=some k)(hf:k.2.fE=0)(hn:aS toks st [oZ]=true):∃ _:Unit,MZ toks st k sU∧(aI toks st.used=oZ∧gu toks (st.used+1)=1):=by
 obtain rfl:=Option.some.inj h;have z1:=oV (k:=2) (show (aY 2 _ _).2.fE=0 from hf);obtain⟨m1,m2,m3,m4,m5⟩:=gN hE z1;obtain⟨k1,k2,k3,k4,k5⟩:=wW hE (by decide) m5;obtain⟨l1,l2,l3⟩:=iC hE (aZ hn);have u1:=l1.used;simp only[bB,PT.lv] at u1;have ig:IG st _ _ _:=((IG.leaf l1 l2).append (IG.leaf k1 k2)).append (IG.leaf m1 m2);refine⟨(),?_,by simpa using gK hn,by rw[u1] at k3;exact k3⟩;exact ig.1.UE (k:=2) ig.2 hf (fun _=>by have:=m1.used;simp only[bB,PT.lv] at this;omega)
theorem map_unit {β:Type}(c:β):∀ l:List Unit,l.map (fun _=>c)=List.replicate l.length c
 | []=>rfl
 | _ :: l=>by rw[List.map_cons,map_unit c l];rfl
theorem Pg {toks:List Tok}:∀ (l:List Unit) (u:Nat),okL (fun (_:Unit) u=>aI toks u=oZ∧gu toks (u+1)=1) (fun _=>sU) u l→M0 toks u l.length
 | [],_,_=>trivial
 | _ :: l,_u,h=>⟨h.1.1,h.1.2,Pg l _ h.2⟩
theorem Hf {toks:List Tok}:∀ (l:List cB) (u:Nat),okL (fun (d:cB) u=>d.ok toks u∧d.marks toks u) cB.pt u l→yV toks u l∧yU toks u l
 | [],_,_=>⟨trivial,trivial⟩
 | _ :: l,_,h=>⟨⟨h.1.1,(Hf l _ h.2).1⟩,h.1.2,(Hf l _ h.2).2⟩
theorem AJ:∀ n,bB (List.replicate n sU)=3 * n
 | 0=>rfl
 | n+1=>by
  rw[List.replicate_succ,bB,AJ n];simp only[sU,PT.lv,bB];omega
theorem YC {T:List UInt8}{p:Nat}{toks:List Tok}(hL:Laid T p toks){d g:Nat}{r:Int × aB}(h:ny toks d g startP=some r)(hf:r.2.fE=0) :
  ∃ q:kG,r.2.nodes=q.pt.em 0 0∧q.ok toks∧q.pt.lv=toks.length∧q.marks toks:=by
 have hE:=hL.ZX;unfold ny at h;obtain⟨a,h1,h⟩:=bH h;obtain⟨b,h2,h⟩:=bH h;obtain rfl:=Option.some.inj h;have hk:=oV hf;have hb:=(dO toks 5 b.2).zero hk;have ha:=(mO sQ _ _ _ _ h2).zero hb;obtain⟨us,i1,i2,i3,i4,i5⟩:=M4 (toks:=toks) (fun _:Unit=>sU) (fun _ u=>aI toks u=oZ∧gu toks (u+1)=1) (fun s k e1 e2 e3 _=>Q8 hE s k e1 e2 e3) (sS toks) 16 [] startP a h1 ha rfl;obtain⟨ds,d1,d2,d3,d4,d5⟩:=M4 (toks:=toks) cB.pt (fun d u=>d.ok toks u∧d.marks toks u) (fun s k e1 e2 _ e4=>aaS hE s k e1 e2 e4) sQ 64 [] a.2 b h2 hb (by rw[i2.clause];rfl);rw[map_unit] at i2 i3
 have hu:a.2.used=3 * us.length:=by
  rw[i2.used,AJ];simp[startP]
 have hu':=d5 (i5 hL.some)
 have hku:aO toks 5 b.2=ay toks b.2∧gu toks b.2.used=5:=by
  unfold aO at hk ⊢
  by_cases hc:b.2.fE=0∧(bL toks b.2.used).kind=5
  ·rw[if_pos hc]
   exact⟨rfl,hc.2⟩
  ·rw[if_neg hc] at hk
   exact(oU (by decide) hk).elim
 have hlast:=hL.acd hu' hku.2;obtain⟨hl1,hl2⟩:=dR.leaf (toks:=toks) (st:=b.2) (by omega)
 have e1:IG startP a.1 (List.replicate us.length sU) a.2:=⟨i2,i3⟩
 have e2:IG a.2 b.1 (ds.map cB.pt) b.2:=⟨d2,d3⟩
 have ig:=(e1.append e2).append (IG.leaf hl1 hl2);rw[hku.1] at hf hk ⊢;have hn:=ig.1.node hk 1;rw[← ig.2] at hn;have hds:=Hf ds _ d4;rw[hu] at hds;refine⟨⟨us.length,ds⟩,?_,⟨i1,d1,?_,hds.1⟩,?_,hds.2⟩
 ·have h18:=hn.1
  simp only[Int.cast_ofNat_Int] at h18;rw[h18];simp[startP,wL,kG.pt,kG.kids]
 ·exact Pg us 0 i4
 ·have:=ig.1.used
  rw[hl1.used] at this;simp only[startP,bB,PT.lv] at this;simp only[kG.pt,PT.lv,kG.kids];rw[← List.append_assoc];omega
theorem o8:∀ {l k:List PT},kF l→kF k→kF (l++k)
 | [],k,_,h=>h
 | t :: l,k,h1,h2=>by
  rw[kF] at h1;rw[List.cons_append,kF];exact⟨h1.1,o8 h1.2 h2⟩
theorem Hg {α:Type}{T:α→PT}(h:∀ a,(T a).wf):∀ l:List α,kF (l.map T)
 | []=>by rw[List.map_nil,kF];trivial
 | a :: l=>by rw[List.map_cons,kF];exact⟨h a,Hg h l⟩
theorem Ph:∀ {l:List PT},kF l→kF (jG l)
 | [],h=>by rw[jG];exact h
 | [t],h=>by rw[uG];exact h
 | t :: s :: l,h=>by
  rw[kF] at h;rw[qm,kF,kF,PT.wf];exact⟨h.1,trivial,Ph h.2⟩
theorem Pj {t:PT}(h:t.wf):∀ n,kF (List.replicate n t)
 | 0=>by rw[List.replicate_zero,kF];trivial
 | n+1=>by rw[List.replicate_succ,kF];exact⟨h,Pj h n⟩
theorem fu.wf (t:fu):kF t.pts:=by
 unfold fu.pts
 cases h:t.cl with
 | none=>simp[kF,PT.wf]
 | some e=>simp[kF,PT.wf,CE.wf e]
theorem fu.ace (t:fu):t.par.wf:=by
 unfold fu.par;simp[kF,PT.wf,t.wf]
theorem cB.wf (d:cB):d.pt.wf:=by
 rw[cB.pt,PT.wf];refine⟨by omega,by omega,?_⟩;unfold cB.kids cB.lead;refine o8 ?_ (o8 (by simp[kF,PT.wf]) (o8 (Ph (Hg fu.ace _)) (o8 (by simp[kF,PT.wf]) (o8 d.ty.wf (by simp[kF,PT.wf,CE.wf d.body])))))
 split<;>simp[kF,PT.wf]
theorem kG.wf (p:kG):p.pt.wf:=by
 rw[kG.pt,PT.wf];refine⟨by omega,by omega,?_⟩;unfold kG.kids;exact o8 (Pj (by simp[sU,kF,PT.wf]) _) (o8 (Hg cB.wf _) (by simp[kF,PT.wf]))
theorem Hl {S:List UInt8}{d d':Nat}{toks:List Tok}{nodes:List Nd}(hdd:d≤d')(h:nA S d=.good toks nodes):nA S d'=.good toks nodes:=by
 unfold nA at h ⊢
 cases hl:bW S with
 | error x=>rw[hl] at h;cases h
 | ok l =>
  rw[hl] at h;simp only at h ⊢
  cases hm:ny l d (xA l) startP with
  | none=>rw[hm] at h;cases h
  | some st =>
   rw[hm] at h;simp only at h
   have hs:st.2.fE=0:=by
    unfold GZ at h
    split at h
    ·assumption
    ·cases h
   rw[G9 hdd hm hs];exact h
def qZ (l:List UInt8):Prop:=eH l=true∧l≠[]∧l.length≤60∧(l.head?=some 48→l.length=1)
theorem M8 (c:UInt8):aL c=(decide (48≤c.toNat) && decide (c.toNat≤57)):=by
 unfold aL;rw[Bool.eq_iff_iff];simp only[Bool.and_eq_true,decide_eq_true_eq,UInt8.le_iff_toNat_le];exact Iff.rfl
theorem UF (T:List UInt8)(h:(dY T).1=3)(h0:(dY T).2.2=0):qZ (T.take (dY T).2.1):=by
 cases T with
 | nil=>simp[dY] at h
 | cons c r =>
  rw[dY] at h h0 ⊢
  by_cases hc:dG c=true
  ·rw[if_pos hc] at h
   simp only[lC] at h
   split at h
   ·cases h
   ·split at h<;>cases h
  ·rw[if_neg hc] at h h0 ⊢
   by_cases hd:aL c=true
   ·rw[if_pos hd] at h h0 ⊢
    simp only[nP] at h h0 ⊢
    split at h
    ·cases h
    ·rename_i Gy
     rw[if_neg Gy];simp only;have ht:(c :: r).take ((c :: r).takeWhile aL).length=(c :: r).takeWhile aL:=(List.prefix_iff_eq_take.1 (List.takeWhile_prefix _)).symm
     have hne:(c :: r).takeWhile aL≠[]:=by rw[List.takeWhile_cons_of_pos hd];simp
     have hall:∀ x∈(c :: r).takeWhile aL,aL x=true:=fun x hx=>by
      have:=List.all_takeWhile (l:=c :: r) (p:=aL);rw[List.all_eq_true] at this;exact this x hx
     rw[ht];generalize (c :: r).takeWhile aL=w at Gy hne hall;refine⟨?_,hne,by omega,fun q=>?_⟩
     ·rw[eH,List.all_eq_true]
      intro x hx;rw[← M8];exact hall x hx
     ·rw[List.head?_eq_getElem?] at q
      have:=List.length_pos_iff.2 hne
      by_cases h1:1<w.length
      ·exact absurd (.inr ⟨h1,q⟩) Gy
      ·omega
   ·rw[if_neg hd,Aj] at h
    split at h<;>cases h
theorem Fy:∀ (n:Nat) (T:List UInt8) (p:Nat) (l:List Tok),nQ n T p=.ok l→∀ t∈l,t.kind=3→qZ t.text
 | 0,T,p,l,h,t,ht,hk=>by rw[nQ] at h;cases h
 | n+1,T,p,l,h,t,ht,hk=>by
  rw[nQ] at h
  try simp only at h
  split at h
  ·cases h
  rename_i h0
  split at h
  ·injection h with h
   subst h;rw[List.mem_singleton] at ht;subst ht;cases hk
  ·split at h
   ·cases h
   ·rename_i l' hl'
    injection h with h
    subst h
    rcases List.mem_cons.1 ht with rfl|ht
    ·exact UF _ hk (by omega)
    ·exact Fy n _ _ _ hl' t ht hk
theorem sV {S:List UInt8}{l:List Tok}(h:bW S=.ok l):∀ t∈l,t.kind=3→qZ t.text:=by
 unfold bW at h
 split at h
 ·cases h
 ·exact Fy _ _ _ _ h
theorem sW {toks:List Tok}(h:0<toks.length)(u:Nat):bL toks u∈toks:=by
 unfold bL;rw[List.getD_eq_getElem?_getD,List.getElem?_eq_getElem (by omega),Option.getD_some];exact List.getElem_mem _
theorem qZ.dec {l:List UInt8}(h:qZ l):fK (iG l)=l:=TR l h.1 h.2.1 h.2.2.2
theorem Eu {S:List UInt8}{l:List Tok}(h:bW S=.ok l):Mj l:=fun u hu =>
 (sV h _ (sW (jy h).some u) hu).dec
end Go.Proofs.YtknicmmigbhpcaaGreatDoor
