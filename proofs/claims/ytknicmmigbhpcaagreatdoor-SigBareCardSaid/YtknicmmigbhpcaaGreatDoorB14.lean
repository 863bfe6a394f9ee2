/- Walks and plain laws: ProgPlain, ProgTree, ProgTree2, LexNums. -/
import Derived.Test.YtknicmmigbhpcaaGreatDoorB13
set_option maxHeartbeats 16000000
set_option maxRecDepth 100000
set_option linter.unusedVariables false
set_option linter.unusedSimpArgs false
namespace Go.Proofs.YtknicmmigbhpcaaGreatDoor
def yU:List UInt8:=[112,117,98]
def oZ:List UInt8:=[105,109,112,111,114,116]
def Hy:List UInt8:=[102,117,110]
def Nb:List UInt8:=[105,110,116]
def xC:List UInt8:=[98,111,111,108]
def jE (toks:List Tok)(st:aB):Int × aB:=aA toks [[58]] st
def vN (toks:List Tok)(st:aB):Int × aB:=aA toks [Nb,xC] (jE toks st).2
def dD (toks:List Tok)(st:aB):Int × aB:=aY 5 [(vN toks st).1] (vN toks st).2
def jF (st:aB)(c:Bool):aB:={ st with clause:=c }
def je (toks:List Tok)(d g:Nat)(st:aB):Option (Int × aB) :=
 (run toks d g (.expr 1) (jF (ay toks st).2 true)).bind fun f =>
  some (aY 6 [(ay toks st).1,f.1,(aA toks [[125]] (jF f.2 st.clause)).1] (aA toks [[125]] (jF f.2 st.clause)).2)
def gB (toks:List Tok)(d g:Nat)(kids:List Int)(st:aB):Option (List Int × aB) :=
 if (dD toks st).2.fE=0∧aS toks (dD toks st).2 [[123]]=true then
  (je toks d g (dD toks st).2).bind fun n=>some (kids++[(jE toks st).1,(dD toks st).1,n.1],n.2)
 else some (kids++[(jE toks st).1,(dD toks st).1],(dD toks st).2)
def iQ (toks:List Tok)(d g:Nat)(st:aB):Option (Int × aB) :=
 (gB toks d g [(aP toks 1 st).1] (aP toks 1 st).2).bind fun l=>some (aY 4 l.1 l.2)
def mh (toks:List Tok)(st:aB):Int × aB :=
 aY 2 [(ay toks st).1,(aP toks 1 (ay toks st).2).1,(aA toks [[59]] (aP toks 1 (ay toks st).2).2).1] (aA toks [[59]] (aP toks 1 (ay toks st).2).2).2
def lX (toks:List Tok)(st:aB):List Int × aB:=if aS toks st [yU]=true then ([(ay toks st).1],(ay toks st).2) else ([],st)
def pJ (toks:List Tok)(st:aB):Int × aB:=aA toks [Hy] (lX toks st).2
def jQ (toks:List Tok)(st:aB):Int × aB:=aP toks 1 (pJ toks st).2
def iR (toks:List Tok)(st:aB):Int × aB:=aA toks [[40]] (jQ toks st).2
def uQ (toks:List Tok)(d g:Nat)(st:aB):Option (Int × aB) :=
 (jh toks (iQ toks d g) (iR toks st).2).bind fun l =>
  (gB toks d g ((lX toks st).1++[(pJ toks st).1,(jQ toks st).1,(iR toks st).1]++l.1++[(aA toks [[41]] l.2).1]) (aA toks [[41]] l.2).2).bind fun t =>
   (run toks d g (.expr 1) (aA toks [[61]] t.2).2).bind fun f =>
    some (aY 3 (t.1++[(aA toks [[61]] t.2).1,f.1,(aA toks [[59]] f.2).1]) (aA toks [[59]] f.2).2)
def jf (toks:List Tok)(one:aB→Option (Int × aB))(first:List (List UInt8)):Nat→List Int→aB→Option (List Int × aB)
 | 0,kids,st=>some (kids,if st.fE=0∧aS toks st first=true then fQ toks 15 st else st)
 | r+1,kids,st=>if st.fE=0∧aS toks st first=true then (one st).bind fun k=>jf toks one first r (kids++[k.1]) k.2 else some (kids,st)
def nC (toks:List Tok)(d g:Nat)(st:aB):Option (Int × aB) :=
 (jf toks (fun s=>some (mh toks s)) [oZ] 16 [] st).bind fun a =>
  (jf toks (uQ toks d g) [yU,Hy] 64 [] a.2).bind fun b =>
   some (aY 1 (a.1++b.1++[(aP toks 5 b.2).1]) (aP toks 5 b.2).2)
def gX (S:List UInt8)(d:Nat):YL :=
 match bO S with
 | .error x=>.bad x.1 x.2
 | .ok toks=>match nC toks d (xB toks) startP with
  | none=>.bad 99 0
  | some a=>Ce toks a.2
theorem yV (toks:List Tok)(st:aB):bZ st (dD toks st).2:=((aF _ _ _).trans (aF _ _ _)).trans (aD _ _ _)
theorem zU {toks:List Tok}{d g:Nat}{st:aB}{r:Int × aB}(h:je toks d g st=some r):bZ st r.2:=by
 unfold je at h;obtain⟨f,h1,h⟩:=bH h;obtain rfl:=Option.some.inj h;have e1:=aJ toks st;have e2:=aO toks d g _ _ _ h1
 have e3:bZ st (jF f.2 st.clause):=⟨Nat.le_trans e1.1 e2.1,fun q=>by
  have q1:=e1.2.1 q;have q2:=e2.2.1 (show (ay toks st).2.fE≠0 by rw[q1];exact q)
  exact q2.trans q1,rfl,Nat.le_trans e1.2.2.2 e2.2.2.2⟩
 exact(e3.trans (aF _ _ _)).trans (aD _ _ _)
theorem jg {toks:List Tok}{d g:Nat}{kids:List Int}{st:aB}{r:List Int × aB}(h:gB toks d g kids st=some r):bZ st r.2:=by
 unfold gB at h
 split at h
 ·obtain⟨n,h1,h⟩:=bH h
  obtain rfl:=Option.some.inj h;exact(yV _ _).trans (zU h1)
 ·injection h with h;subst h
  exact yV _ _
theorem jG {toks:List Tok}{d g:Nat}(st:aB)(r:Int × aB)(h:iQ toks d g st=some r):bZ st r.2:=by
 unfold iQ at h;obtain⟨l,h1,h⟩:=bH h;obtain rfl:=Option.some.inj h;exact((dO _ _ _).trans (jg h1)).trans (aD _ _ _)
theorem J6 (toks:List Tok)(st:aB):bZ st (mh toks st).2:=(((aJ _ _).trans (dO _ _ _)).trans (aF _ _ _)).trans (aD _ _ _)
theorem J7 (toks:List Tok)(st:aB):bZ st (lX toks st).2:=by
 unfold lX
 split
 ·exact aJ _ _
 ·exact bZ.refl _
theorem Cg (toks:List Tok)(st:aB):bZ st (iR toks st).2:=(((J7 _ _).trans (aF _ _ _)).trans (dO _ _ _)).trans (aF _ _ _)
theorem tu {toks:List Tok}{d g:Nat}(st:aB)(r:Int × aB)(h:uQ toks d g st=some r):bZ st r.2:=by
 unfold uQ at h;obtain⟨l,h1,h⟩:=bH h;obtain⟨t,h2,h⟩:=bH h;obtain⟨f,h3,h⟩:=bH h;obtain rfl:=Option.some.inj h;exact((((((Cg _ _).trans (kr toks _ jG _ _ h1)).trans (aF _ _ _)).trans (jg h2)).trans (aF _ _ _)).trans (aO _ _ _ _ _ _ h3)).trans ((aF _ _ _).trans (aD _ _ _))
theorem mK {toks:List Tok}{one:aB→Option (Int × aB)}{first:List (List UInt8)}(h1:∀ s k,one s=some k→bZ s k.2):∀ (r:Nat) (kids:List Int) (st:aB) (l:List Int × aB),jf toks one first r kids st=some l→bZ st l.2
 | 0,kids,st,l,h=>by
  rw[jf] at h;obtain rfl:=Option.some.inj h;show bZ st (if _ then _ else _)
  split
  ·exact nJ _ _ _
  ·exact bZ.refl _
 | r+1,kids,st,l,h=>by
  rw[jf] at h
  split at h
  ·obtain⟨k,hk,h⟩:=bH h
   exact(h1 _ _ hk).trans (mK h1 r _ _ _ h)
  ·injection h with h;subst h
   exact bZ.refl _
theorem tC (toks:List Tok)(s:aB)(k:Int × aB)(h:(fun s=>some (mh toks s)) s=some k):bZ s k.2:=by
 obtain rfl:=Option.some.inj h;exact J6 _ _
theorem J8 {toks:List Tok}{d g:Nat}{st:aB}{r:Int × aB}(h:je toks d g st=some r):oK toks st r.2:=by
 unfold je at h;obtain⟨f,h1,h⟩:=bH h;obtain rfl:=Option.some.inj h;have e2:=kW toks d g _ _ _ h1
 have e3:oK toks st (jF f.2 st.clause):=fun q=>e2 (bS toks st q)
 exact(e3.trans (dB _ _ _)).trans (bX _ _ _)
theorem Ch {toks:List Tok}{d g:Nat}{kids:List Int}{st:aB}{r:List Int × aB}(h:gB toks d g kids st=some r):oK toks st r.2:=by
 have hb:oK toks st (dD toks st).2:=((dB _ _ _).trans (dB _ _ _)).trans (bX _ _ _);unfold gB at h
 split at h
 ·obtain⟨n,h1,h⟩:=bH h
  obtain rfl:=Option.some.inj h;exact hb.trans (J8 h1)
 ·injection h with h;subst h
  exact hb
theorem Nc {toks:List Tok}{d g:Nat}(st:aB)(r:Int × aB)(h:iQ toks d g st=some r):oK toks st r.2:=by
 unfold iQ at h;obtain⟨l,h1,h⟩:=bH h;obtain rfl:=Option.some.inj h;exact((nL _ _ _).trans (Ch h1)).trans (bX _ _ _)
theorem J9 (toks:List Tok)(s:aB)(k:Int × aB)(h:(fun s=>some (mh toks s)) s=some k):oK toks s k.2:=by
 obtain rfl:=Option.some.inj h;exact(((bS _ _).trans (nL _ _ _)).trans (dB _ _ _)).trans (bX _ _ _)
theorem Nf (toks:List Tok)(st:aB):oK toks st (iR toks st).2:=by
 have hp:oK toks st (lX toks st).2:=by
  unfold lX
  split
  ·exact bS _ _
  ·exact oK.refl _
 exact((hp.trans (dB _ _ _)).trans (nL _ _ _)).trans (dB _ _ _)
theorem UU {toks:List Tok}{d g:Nat}(st:aB)(r:Int × aB)(h:uQ toks d g st=some r):oK toks st r.2:=by
 unfold uQ at h;obtain⟨l,h1,h⟩:=bH h;obtain⟨t,h2,h⟩:=bH h;obtain⟨f,h3,h⟩:=bH h;obtain rfl:=Option.some.inj h;exact((((((Nf _ _).trans (FB toks _ Nc _ _ h1)).trans (dB _ _ _)).trans (Ch h2)).trans (dB _ _ _)).trans (kW _ _ _ _ _ _ h3)).trans ((dB _ _ _).trans (bX _ _ _))
theorem Ci {toks:List Tok}{one:aB→Option (Int × aB)}{first:List (List UInt8)}(h1:∀ s k,one s=some k→oK toks s k.2):∀ (r:Nat) (kids:List Int) (st:aB) (l:List Int × aB),jf toks one first r kids st=some l→oK toks st l.2
 | 0,kids,st,l,h=>by
  rw[jf] at h;obtain rfl:=Option.some.inj h;show oK toks st (if _ then _ else _)
  split
  ·exact nK _ _ _
  ·exact oK.refl _
 | r+1,kids,st,l,h=>by
  rw[jf] at h
  split at h
  ·obtain⟨k,hk,h⟩:=bH h
   exact(h1 _ _ hk).trans (Ci h1 r _ _ _ h)
  ·injection h with h;subst h
   exact oK.refl _
theorem FC {toks:List Tok}{d g:Nat}{st:aB}{r:Int × aB}(h:nC toks d g st=some r):oK toks st r.2:=by
 unfold nC at h;obtain⟨a,h1,h⟩:=bH h;obtain⟨b,h2,h⟩:=bH h;obtain rfl:=Option.some.inj h;exact(((Ci (J9 toks) _ _ _ _ h1).trans (Ci UU _ _ _ _ h2)).trans (nL _ _ _)).trans (bX _ _ _)
theorem Cj {toks:List Tok}{d d' g:Nat}(hdd:d≤d'){st:aB}{r:Int × aB}(h:je toks d g st=some r)(hr:r.2.fE=0):je toks d' g st=some r:=by
 unfold je at h ⊢;obtain⟨f,h1,h⟩:=bH h;obtain rfl:=Option.some.inj h;have h0:(jF f.2 st.clause).fE=0:=((aF _ _ _).trans (aD _ _ _)).zero hr;rw[gu toks d d' hdd g _ _ _ h1 h0,Option.bind_some]
theorem uS {toks:List Tok}{d d' g:Nat}(hdd:d≤d'){kids:List Int}{st:aB}{r:List Int × aB}(h:gB toks d g kids st=some r)(hr:r.2.fE=0):gB toks d' g kids st=some r:=by
 unfold gB at h ⊢
 split at h
 ·rename_i hc
  rw[if_pos hc];obtain⟨n,h1,h⟩:=bH h;obtain rfl:=Option.some.inj h;rw[Cj hdd h1 hr,Option.bind_some]
 ·rename_i hc
  rw[if_neg hc];exact h
theorem EB {toks:List Tok}{d d' g:Nat}(hdd:d≤d')(st:aB)(r:Int × aB)(h:iQ toks d g st=some r)(hr:r.2.fE=0):iQ toks d' g st=some r:=by
 unfold iQ at h ⊢;obtain⟨l,h1,h⟩:=bH h;obtain rfl:=Option.some.inj h;rw[uS hdd h1 ((aD _ _ _).zero hr),Option.bind_some]
theorem Ka {toks:List Tok}{d d' g:Nat}(hdd:d≤d')(st:aB)(r:Int × aB)(h:uQ toks d g st=some r)(hr:r.2.fE=0):uQ toks d' g st=some r:=by
 unfold uQ at h ⊢;obtain⟨l,h1,h⟩:=bH h;obtain⟨t,h2,h⟩:=bH h;obtain⟨f,h3,h⟩:=bH h;obtain rfl:=Option.some.inj h;have z3:f.2.fE=0:=((aF _ _ _).trans (aD _ _ _)).zero hr;have z2:t.2.fE=0:=((aF _ _ _).trans (aO _ _ _ _ _ _ h3)).zero z3;have z1:l.2.fE=0:=((aF _ _ _).trans (jg h2)).zero z2;rw[xk toks _ _ jG (EB hdd) _ _ h1 z1,Option.bind_some,uS hdd h2 z2,Option.bind_some,gu toks d d' hdd g _ _ _ h3 z3,Option.bind_some]
theorem zV {toks:List Tok}{one one':aB→Option (Int × aB)}{first:List (List UInt8)}(h1:∀ s k,one s=some k→bZ s k.2)(h2:∀ s k,one s=some k→k.2.fE=0→one' s=some k):∀ (r:Nat) (kids:List Int) (st:aB) (l:List Int × aB),jf toks one first r kids st=some l→l.2.fE=0→jf toks one' first r kids st=some l
 | 0,kids,st,l,h,_=>by rw[jf] at h ⊢;exact h
 | r+1,kids,st,l,h,hl=>by
  rw[jf] at h ⊢
  split at h
  ·rename_i hc
   rw[if_pos hc];obtain⟨k,hk,h⟩:=bH h;rw[h2 _ _ hk ((mK h1 r _ _ _ h).zero hl),Option.bind_some];exact zV h1 h2 r _ _ _ h hl
  ·rename_i hc
   rw[if_neg hc];exact h
theorem Hz {toks:List Tok}{d d' g:Nat}(hdd:d≤d'){st:aB}{r:Int × aB}(h:nC toks d g st=some r)(hr:r.2.fE=0):nC toks d' g st=some r:=by
 unfold nC at h ⊢;obtain⟨a,h1,h⟩:=bH h;obtain⟨b,h2,h⟩:=bH h;obtain rfl:=Option.some.inj h;have z2:b.2.fE=0:=((dO _ _ _).trans (aD _ _ _)).zero hr;rw[h1,Option.bind_some,zV tu (Ka hdd) _ _ _ _ h2 z2,Option.bind_some]
theorem Ck {toks:List Tok}(hE:gI toks)(d:Nat)(st:aB):∃ f,run toks d (xB toks) (.expr 1) st=some f :=
 jm toks d hE (xB toks) (.expr 1) st trivial (by simp only[dV,ji,xB];omega)
theorem EC {toks:List Tok}(hE:gI toks)(d:Nat)(st:aB):∃ r,je toks d (xB toks) st=some r:=by
 obtain⟨f,hf⟩:=Ck hE d (jF (ay toks st).2 true);unfold je;rw[hf];exact⟨_,rfl⟩
theorem xD {toks:List Tok}(hE:gI toks)(d:Nat)(kids:List Int)(st:aB):∃ r,gB toks d (xB toks) kids st=some r:=by
 unfold gB
 split
 ·obtain⟨n,hn⟩:=EC hE d (dD toks st).2
  rw[hn];exact⟨_,rfl⟩
 ·exact⟨_,rfl⟩
theorem H7 {toks:List Tok}(hE:gI toks)(d:Nat)(st:aB):∃ r,iQ toks d (xB toks) st=some r:=by
 obtain⟨l,hl⟩:=xD hE d [(aP toks 1 st).1] (aP toks 1 st).2;unfold iQ;rw[hl];exact⟨_,rfl⟩
theorem Ng {toks:List Tok}(hE:gI toks)(d:Nat)(st:aB):∃ r,uQ toks d (xB toks) st=some r:=by
 have h1:∃ l,jh toks (iQ toks d (xB toks)) (iR toks st).2=some l:=by
  unfold jh
  split
  ·exact⟨_,rfl⟩
  ·exact nR toks _ 0 (fun s _=>by
    obtain⟨k,hk⟩:=H7 hE d s
    exact⟨k,hk,jG _ _ hk⟩) _ _ _ (.inl (Nat.zero_le _))
 obtain⟨l,h1⟩:=h1;unfold uQ;rw[h1,Option.bind_some];obtain⟨t,h2⟩:=xD hE d ((lX toks st).1++[(pJ toks st).1,(jQ toks st).1,(iR toks st).1]++l.1++[(aA toks [[41]] l.2).1]) (aA toks [[41]] l.2).2;rw[h2,Option.bind_some];obtain⟨f,h3⟩:=Ck hE d (aA toks [[61]] t.2).2;rw[h3,Option.bind_some];exact⟨_,rfl⟩
theorem vO {toks:List Tok}{one:aB→Option (Int × aB)}{first:List (List UInt8)}(h1:∀ s,∃ k,one s=some k):∀ (r:Nat) (kids:List Int) (st:aB),∃ l,jf toks one first r kids st=some l
 | 0,kids,st=>⟨_,rfl⟩
 | r+1,kids,st=>by
  rw[jf]
  split
  ·obtain⟨k,hk⟩:=h1 st
   rw[hk,Option.bind_some];exact vO h1 r _ _
  ·exact⟨_,rfl⟩
theorem zW {toks:List Tok}(hE:gI toks)(d:Nat)(st:aB):∃ r,nC toks d (xB toks) st=some r:=by
 obtain⟨a,h1⟩:=vO (toks:=toks) (one:=fun s=>some (mh toks s)) (first:=[oZ]) (fun s=>⟨_,rfl⟩) 16 [] st;obtain⟨b,h2⟩:=vO (toks:=toks) (first:=[yU,Hy]) (Ng hE d) 64 [] a.2;unfold nC;rw[h1,Option.bind_some,h2,Option.bind_some];exact⟨_,rfl⟩
theorem Kc {k:Int}{l:List Int}{st:aB}(h:st.fE≠0):(aY k l st).2=st:=by
 unfold aY;rw[if_neg h]
theorem FD {toks:List Tok}{k:Int}{l:List Int}{ts:List (List UInt8)}{st s3:aB}(h:Slk (aA toks ts st).2 s3)(he:bZ (aA toks ts st).2 s3)(hm:(aA toks ts st).1∈l):Slk st (aY k l s3).2:=by
 unfold aA at h he hm
 split at h
 ·rename_i hc
  rw[if_pos hc] at he hm;exact fq toks k l st s3 h hm
 ·rename_i hc
  rw[if_neg hc] at he;have hf:=he.2.1 (kM (by decide) st);have h0:(fQ toks 22 st).fE≠0:=kM (by decide) st;rw[Kc (by rw[hf];exact h0)];exact(kE _ _ _).trans h
theorem FE {toks:List Tok}{k:Int}{l:List Int}{c:Nat}{st s3:aB}(h:Slk (aP toks c st).2 s3)(he:bZ (aP toks c st).2 s3)(hm:(aP toks c st).1∈l):Slk st (aY k l s3).2:=by
 unfold aP at h he hm
 split at h
 ·rename_i hc
  rw[if_pos hc] at he hm;exact fq toks k l st s3 h hm
 ·rename_i hc
  rw[if_neg hc] at he;have hf:=he.2.1 (kM (by decide) st);have h0:(fQ toks 22 st).fE≠0:=kM (by decide) st;rw[Kc (by rw[hf];exact h0)];exact(kE _ _ _).trans h
theorem FH (toks:List Tok)(st:aB):Slk st (dD toks st).2 :=
 (eB _ _ _).trans (FD (Slk.refl _) (bZ.refl _) (List.mem_singleton.2 rfl))
theorem Ke {toks:List Tok}{d g:Nat}{st:aB}{r:Int × aB}(h:je toks d g st=some r):Slk st r.2:=by
 unfold je at h;obtain⟨f,h1,h⟩:=bH h;obtain rfl:=Option.some.inj h;have e2:Slk (jF (ay toks st).2 true) f.2:=kV toks d g _ _ _ h1;have e3:Slk (ay toks st).2 (jF f.2 st.clause):=e2;exact fq toks 6 _ st _ (e3.trans (eB _ _ _)) List.mem_cons_self
theorem Cm {toks:List Tok}{d g:Nat}{kids:List Int}{st:aB}{r:List Int × aB}(h:gB toks d g kids st=some r):Slk st r.2∧∀ k∈kids,k∈r.1:=by
 unfold gB at h
 split at h
 ·obtain⟨n,h1,h⟩:=bH h
  obtain rfl:=Option.some.inj h;exact⟨(FH _ _).trans (Ke h1),fun k hk=>List.mem_append_left _ hk⟩
 ·obtain rfl:=Option.some.inj h
  exact⟨FH _ _,fun k hk=>List.mem_append_left _ hk⟩
theorem Nh {toks:List Tok}{d g:Nat}(st:aB)(r:Int × aB)(h:iQ toks d g st=some r):Slk st r.2:=by
 unfold iQ at h;obtain⟨l,h1,h⟩:=bH h;obtain rfl:=Option.some.inj h;obtain⟨h2,h3⟩:=Cm h1;exact FE h2 (jg h1) (h3 _ List.mem_cons_self)
theorem Kg (toks:List Tok)(s:aB)(k:Int × aB)(h:(fun s=>some (mh toks s)) s=some k):Slk s k.2:=by
 obtain rfl:=Option.some.inj h;exact fq toks 2 _ s _ ((uD _ _ _).trans (eB _ _ _)) List.mem_cons_self
theorem UW {toks:List Tok}{d g:Nat}(st:aB)(r:Int × aB)(h:uQ toks d g st=some r):Slk st r.2:=by
 unfold uQ at h;obtain⟨l,h1,h⟩:=bH h;obtain⟨t,h2,h⟩:=bH h;obtain⟨f,h3,h⟩:=bH h;obtain rfl:=Option.some.inj h
 have hp:Slk st (lX toks st).2:=by
  unfold lX
  split
  ·exact kF _ _
  ·exact Slk.refl _
 obtain⟨t1,t2⟩:=Cm h2;have e1:Slk (pJ toks st).2 (aA toks [[59]] f.2).2:=(((((((uD _ _ _).trans (eB _ _ _)).trans (Fz toks _ Nh _ _ h1)).trans (eB _ _ _)).trans t1).trans (eB _ _ _)).trans (kV _ _ _ _ _ _ h3)).trans (eB _ _ _);have e2:bZ (pJ toks st).2 (aA toks [[59]] f.2).2:=(((((((dO _ _ _).trans (aF _ _ _)).trans (kr toks _ jG _ _ h1)).trans (aF _ _ _)).trans (jg h2)).trans (aF _ _ _)).trans (aO _ _ _ _ _ _ h3)).trans (aF _ _ _);exact hp.trans (FD e1 e2 (List.mem_append_left _ (t2 _ (by show (pJ toks st).1∈_;simp))))
theorem Cn {toks:List Tok}{one:aB→Option (Int × aB)}{first:List (List UInt8)}(h1:∀ s k,one s=some k→Slk s k.2):∀ (r:Nat) (kids:List Int) (st:aB) (l:List Int × aB),jf toks one first r kids st=some l→Slk st l.2
 | 0,kids,st,l,h=>by
  rw[jf] at h;obtain rfl:=Option.some.inj h;show Slk st (if _ then _ else _)
  split
  ·exact kE _ _ _
  ·exact Slk.refl _
 | r+1,kids,st,l,h=>by
  rw[jf] at h
  split at h
  ·obtain⟨k,hk,h⟩:=bH h
   exact(h1 _ _ hk).trans (Cn h1 r _ _ _ h)
  ·obtain rfl:=Option.some.inj h
   exact Slk.refl _
theorem FI {toks:List Tok}{d g:Nat}{st:aB}{r:Int × aB}(h:nC toks d g st=some r):Slk st r.2:=by
 unfold nC at h;obtain⟨a,h1,h⟩:=bH h;obtain⟨b,h2,h⟩:=bH h;obtain rfl:=Option.some.inj h;exact((Cn (Kg toks) _ _ _ _ h1).trans (Cn UW _ _ _ _ h2)).trans (FE (Slk.refl _) (bZ.refl _) (by simp))
theorem Co {toks:List Tok}{one:aB→Option (Int × aB)}{first:List (List UInt8)}:∀ (r:Nat) (kids:List Int) (st:aB) (l:List Int × aB),jf toks one first r kids st=some l→l.1.length≤kids.length+r
 | 0,kids,st,l,h=>by
  rw[jf] at h;obtain rfl:=Option.some.inj h;exact Nat.le_refl _
 | r+1,kids,st,l,h=>by
  rw[jf] at h
  split at h
  ·obtain⟨k,hk,h⟩:=bH h
   have:=Co r _ _ _ h;rw[bN,List.length_singleton] at this;omega
  ·obtain rfl:=Option.some.inj h
   exact Nat.le_add_right _ _
def Ni (toks:List Tok)(st:aB)(r:Int × aB)(t:PT):Prop:=dR st [t] r.2∧r.1=((st.nodes.length+t.nd:Nat):Int) - 1∧(st.used<toks.length→r.2.used<toks.length)
theorem Tt.p {toks:List Tok}{st:aB}{r:Int × aB}{e:CE}(h:Tt toks st r e):Ni toks st r e.pt:=⟨h.1,h.2.1,h.2.2.2⟩
theorem dR.UY {toks:List Tok}{a b:aB}{l:List PT}{k:Nat}{ids:List Int}(h:dR a l b)(aaC:ids=bQ a.nodes.length l)(hf:(aY k ids b).2.fE=0)(hu:a.used<toks.length→b.used<toks.length):Ni toks a (aY k ids b) (.node k l):=by
 subst aaC;obtain⟨h1,h2⟩:=h.node (oV hf) k;refine⟨h1,by rw[h2,PT.nd];omega,fun q=>?_⟩;have h3:=h1.used;have h4:=h.used;have h5:=hu q;rw[h3];rw[h4] at h5
 simpa [bB,PT.lv] using h5
def IG (a:aB)(ids:List Int)(l:List PT)(b:aB):Prop:=dR a l b∧ids=bQ a.nodes.length l
theorem IG.append {a b c:aB}{i j:List Int}{l k:List PT}(h:IG a i l b)(h2:IG b j k c):IG a (i++j) (l++k) c :=
 ⟨h.1.append h2.1,by rw[h.2,h2.2,mF,h.1.len]⟩
theorem IG.leaf {a b:aB}{x:Int}(h:dR a [.leaf] b)(hx:x=((a.nodes.length:Nat):Int)):IG a [x] [.leaf] b:=⟨h,by simp[bQ,PT.nd,hx]⟩
theorem IG.res {a b:aB}{t:PT}{x:Int}(h:dR a [t] b)(hx:x=((a.nodes.length+t.nd:Nat):Int) - 1):IG a [x] [t] b:=⟨h,by simp[bQ,hx]⟩
theorem IG.nil (a:aB):IG a [] [] a:=⟨dR.nil a,rfl⟩
def jH:List PT→List PT
 | []=>[]
 | t :: l=>t :: (match l with | []=>[]|_ :: _=>.leaf :: jH l)
theorem uF (t:PT):jH [t]=[t]:=by rw[jH]
theorem qj (t s:PT)(l:List PT):jH (t :: s :: l)=t :: .leaf :: jH (s :: l):=by rw[jH]
structure eD where
 cl:Option CE
def eD.pts (t:eD):List PT:=[.leaf,.node 5 [.leaf]]++(match t.cl with|none=>[]|some e=>[.node 6 [.leaf,e.pt,.leaf]])
def eD.ok (toks:List Tok)(u:Nat)(t:eD):Prop:=aI toks (u+1)∈[Nb,xC]∧(match t.cl with|none=>True|some e=>e.ok toks true (u+3))
def eD.par (t:eD):PT:=.node 4 (.leaf :: t.pts)
def eD.Kh (toks:List Tok)(u:Nat)(t:eD):Prop:=fZ toks u=1∧t.ok toks (u+1)
def vP (toks:List Tok)(u:Nat):List eD→Prop
 | []=>True
 | t :: l=>t.Kh toks u∧vP toks (u+t.par.lv+1) l
structure cK where
 pub:Bool
 jR:List eD
 ty:eD
 body:CE
def cK.lead (d:cK):List PT:=if d.pub=true then [.leaf] else []
def cK.kids (d:cK):List PT:=d.lead++([.leaf,.leaf,.leaf]++(jH (d.jR.map eD.par)++([.leaf]++(d.ty.pts++[.leaf,d.body.pt,.leaf]))))
def cK.pt (d:cK):PT:=.node 3 d.kids
def cK.Cq (u:Nat)(d:cK):Nat:=u+bB d.lead
def cK.at2 (u:Nat)(d:cK):Nat:=d.Cq u+3+bB (jH (d.jR.map eD.par))+1
def cK.at3 (u:Nat)(d:cK):Nat:=d.at2 u+bB d.ty.pts+1
def cK.ok (toks:List Tok)(u:Nat)(d:cK):Prop :=
 (d.pub=true→aI toks u=yU)∧aI toks (d.Cq u)=Hy∧fZ toks (d.Cq u+1)=1∧d.jR.length≤8∧vP toks (d.Cq u+3) d.jR∧d.ty.ok toks (d.at2 u)∧d.body.ok toks false (d.at3 u)
def eD.marks (toks:List Tok)(u:Nat)(t:eD):Prop:=t.cl≠none→aI toks (u+2)=[123]
def ql (toks:List Tok)(u:Nat):List eD→Prop
 | []=>True
 | t :: l=>t.marks toks (u+1)∧(l≠[]→aI toks (u+t.par.lv)=[44])∧ql toks (u+t.par.lv+1) l
def cK.marks (toks:List Tok)(u:Nat)(d:cK):Prop:=ql toks (d.Cq u+3) d.jR∧aI toks (d.at2 u - 1)=[41]∧d.ty.marks toks (d.at2 u)
def yX (toks:List Tok)(u:Nat):List cK→Prop
 | []=>True
 | d :: l=>d.marks toks u∧yX toks (u+d.pt.lv) l
def tF:PT:=.node 2 [.leaf,.leaf,.leaf]
def yY (toks:List Tok)(u:Nat):List cK→Prop
 | []=>True
 | d :: l=>d.ok toks u∧yY toks (u+d.pt.lv) l
def Nj (toks:List Tok)(u:Nat):Nat→Prop
 | 0=>True
 | n+1=>aI toks u=oZ∧fZ toks (u+1)=1∧Nj toks (u+3) n
structure jP where
 imps:Nat
 defs:List cK
def jP.kids (p:jP):List PT:=List.replicate p.imps tF++(p.defs.map cK.pt++[.leaf])
def jP.pt (p:jP):PT:=.node 1 p.kids
def jP.marks (toks:List Tok)(p:jP):Prop:=yX toks (3 * p.imps) p.defs
def jP.ok (toks:List Tok)(p:jP):Prop:=p.imps≤16∧p.defs.length≤64∧Nj toks 0 p.imps∧yY toks (3 * p.imps) p.defs
theorem Rl {a b:aB}{l:List PT}{c:Bool}(h:dR (jF a c) l b):dR a l (jF b a.clause):=by
 rw[dR] at h ⊢;rw[h]
 rfl
theorem Pt {toks:List Tok}(hE:gI toks){st:aB}(h:(dD toks st).2.fE=0) :
  dR st [.leaf,.node 5 [.leaf]] (dD toks st).2∧[(jE toks st).1,(dD toks st).1]=bQ st.nodes.length [.leaf,.node 5 [.leaf]]∧aI toks (st.used+1)∈[Nb,xC]∧(st.used<toks.length→(dD toks st).2.used<toks.length):=by
 have h2:=oV h;obtain⟨b1,b2,b3,b4,b5⟩:=gU hE h2;obtain⟨a1,a2,a3,a4,a5⟩:=gU hE b5;have hr:=b1.UY (k:=5) (toks:=toks) (ids:=[(vN toks st).1]) (by rw[show (vN toks st).1=_ from b2];simp[bQ,PT.nd]) h (fun _=>by have:=b1.used;simp only[bB,PT.lv] at this;omega);obtain⟨r1,r2,r3⟩:=hr;have u1:=a1.used;have n1:=a1.len;simp only[bB,PT.lv,dJ,PT.nd] at u1 n1;refine⟨a1.append r1,?_,by rw[show st.used+1=(jE toks st).2.used from by rw[show (jE toks st).2.used=_ from u1]];exact b3,fun _=>r3 (by show (aA toks [[58]] st).2.used<_;omega)⟩;rw[show (dD toks st).1=_ from r2,show (jE toks st).1=_ from a2];simp only[bQ,PT.nd,dJ];rw[show (jE toks st).2.nodes.length=_ from n1]
 congr 1
 ·omega
theorem Kj (b:Nat)(l k:List PT):bQ b (l++k)=bQ b l++bQ (b+dJ l) k:=mF b l k
theorem Rm {toks:List Tok}(hE:gI toks){d g:Nat}{st:aB}{r:Int × aB}(h:je toks d g st=some r)(hr:r.2.fE=0)(hn:aS toks st [[123]]=true) :
  ∃ e:CE,Ni toks st r (.node 6 [.leaf,e.pt,.leaf])∧e.ok toks true (st.used+1):=by
 unfold je at h;obtain⟨f,h1,h⟩:=bH h;obtain rfl:=Option.some.inj h;have z1:=oV hr;obtain⟨m1,m2,m3,m4,m5⟩:=gU hE z1;obtain⟨l1,l2,l3⟩:=iF hE (aZ hn);obtain⟨e,e1,e2,e3,e4⟩:=jC toks hE d g _ _ _ h1 m5;have l4:=l1.used;have l5:=l1.len;simp only[bB,PT.lv,dJ,PT.nd] at l4 l5
 have hg2:dR (ay toks st).2 [e.pt] (jF f.2 st.clause):=by
  have:=Rl e1;rw[l1.clause] at this;exact this
 have hg:=(l1.append hg2).append m1;have n2:=hg2.len;have u2:=hg2.used;have hu:=m1.used;simp only[bB,PT.lv,dJ] at n2 u2 hu;refine⟨e,hg.UY (k:=6) ?_ hr (fun _=>by omega),?_⟩
 ·rw[m2,e2,l2,n2]
  simp only[bQ,PT.nd,List.cons_append,List.nil_append]
  show [_,_,_]=[_,_,_]
  have:(jF (ay toks st).2 true).nodes.length=st.nodes.length+1:=l5;rw[this]
  congr 1
  ·omega
  ·congr 1
   congr 1
   omega
 ·have h3:e.ok toks (jF (ay toks st).2 true).clause (jF (ay toks st).2 true).used:=e3
  have:(jF (ay toks st).2 true).used=st.used+1:=l4;rw[this] at h3;exact h3
theorem Kk {toks:List Tok}(hE:gI toks){d g:Nat}{kids:List Int}{st:aB}{r:List Int × aB}(h:gB toks d g kids st=some r)(hr:r.2.fE=0) :
  ∃ t:eD,dR st t.pts r.2∧r.1=kids++bQ st.nodes.length t.pts∧t.ok toks st.used∧(st.used<toks.length→r.2.used<toks.length)∧t.marks toks st.used:=by
 unfold gB at h
 split at h
 ·rename_i hc
  obtain⟨n,h1,h⟩:=bH h;obtain rfl:=Option.some.inj h;obtain⟨b1,b2,b3,b4⟩:=Pt hE hc.1;obtain⟨e,⟨e1,e2,e3⟩,e4⟩:=Rm hE h1 hr hc.2;have u1:=b1.used;have n1:=b1.len;simp only[bB,PT.lv,dJ,PT.nd] at u1 n1;refine⟨⟨some e⟩,b1.append e1,?_,⟨b3,by rw[u1] at e4;exact e4⟩,fun q=>e3 (b4 q),fun _=>by have h8:=gM hc.2;rw[u1] at h8;simpa using h8⟩;show _=kids++bQ _ ([.leaf,.node 5 [.leaf]]++[.node 6 [.leaf,e.pt,.leaf]]);rw[Kj,← b2,e2,n1];simp only[bQ,PT.nd,dJ]
  congr 1
 ·obtain rfl:=Option.some.inj h
  obtain⟨b1,b2,b3,b4⟩:=Pt hE hr;refine⟨⟨none⟩,by simpa [eD.pts] using b1,?_,⟨b3,trivial⟩,b4,fun q=>absurd rfl q⟩;show _=kids++bQ _ ([.leaf,.node 5 [.leaf]]++[]);rw[List.append_nil,← b2]
theorem Kl {toks:List Tok}(hE:gI toks){d g:Nat}(st:aB)(r:Int × aB)(h:iQ toks d g st=some r)(hr:r.2.fE=0):∃ t:eD,Ni toks st r t.par∧t.Kh toks st.used∧t.marks toks (st.used+1):=by
 unfold iQ at h;obtain⟨l,h1,h⟩:=bH h;obtain rfl:=Option.some.inj h;have z1:=oV hr;obtain⟨t,t1,t2,t3,t4,t5⟩:=Kk hE h1 z1;obtain⟨k1,k2,k3,k4,k5⟩:=wX hE (by decide) ((jg h1).zero z1);have u1:=k1.used;have n1:=k1.len;simp only[bB,PT.lv,dJ,PT.nd] at u1 n1;refine⟨t,(k1.append t1).UY (k:=4) ?_ hr (fun _=>t4 (by omega)),⟨k3,by rw[u1] at t3;exact t3⟩,by rw[u1] at t5;exact t5⟩;rw[t2,k2,n1,Kj];simp[bQ,PT.nd,dJ]
theorem FJ {toks:List Tok}(hE:gI toks){d g:Nat}:∀ (r:Nat) (kids:List Int) (st:aB) (l:List Int × aB),aR toks (iQ toks d g) r kids st=some l→l.2.fE=0 →
  ∃ es:List eD,es≠[]∧es.length≤r∧dR st (jH (es.map eD.par)) l.2∧l.1=kids++bQ st.nodes.length (jH (es.map eD.par))∧vP toks st.used es∧(st.used<toks.length→l.2.used<toks.length)∧ql toks st.used es
 | 0,kids,st,l,h,hl=>by
  rw[aR] at h;obtain rfl:=Option.some.inj h
  exfalso
  have hl:(if st.fE=0 then fQ toks 15 st else st).fE=0:=hl
  split at hl
  ·exact oU (by decide) hl
  ·rename_i hf;exact hf hl
 | r+1,kids,st,l,h,hl=>by
  rw[aR] at h
  split at h
  ·rename_i hf
   obtain rfl:=Option.some.inj h;exact absurd hl hf
  ·obtain⟨k,hk,h⟩:=bH h
   split at h
   ·rename_i hn
    obtain⟨g1,i1,u1⟩:=iF hE (aZ hn.2);obtain⟨e,⟨he1,he2,he4⟩,he3,he5⟩:=Kl hE _ _ hk hn.1;obtain⟨es,hne,hlen,hg,hi,hok,hu,hm⟩:=FJ hE r _ _ _ h hl
    obtain⟨f,es,rfl⟩:∃ f fs,es=f :: fs:=by cases es with
     | nil=>exact absurd rfl hne
     | cons f fs=>exact⟨f,fs,rfl⟩
    have a1:=he1.len;have a2:=he1.used;have b1:=g1.len;have b2:=g1.used;simp only[dJ,bB,PT.nd,PT.lv,Nat.add_zero] at a1 a2 b1 b2;refine⟨e :: f :: es,by simp,by simpa using hlen,?_,?_,?_,fun q=>hu (by have:=he4 q;omega),?_⟩
    ·rw[List.map_cons,List.map_cons,qj]
     exact(he1.append g1).append hg
    ·rw[hi,List.map_cons (a:=e),List.map_cons (a:=f),qj,qd,qd,he2,i1,b1,a1]
     simp only[PT.nd,List.append_assoc,List.cons_append,List.nil_append]
     congr 2
     congr 1
     omega
    ·rw[b2,a2] at hok
     exact⟨he3,hok⟩
    ·rw[b2,a2] at hm
     exact⟨he5,fun _=>by have h8:=gM hn.2;rw[a2] at h8;simpa using h8,hm⟩
   ·obtain rfl:=Option.some.inj h
    obtain⟨e,⟨he1,he2,he4⟩,he3,he5⟩:=Kl hE _ _ hk hl;refine⟨[e],by simp,by simp,by rw[List.map_cons,List.map_nil,uF];exact he1,?_,⟨he3,trivial⟩,he4,he5,fun q=>absurd rfl q,trivial⟩;rw[List.map_cons,List.map_nil,uF,qd,he2];simp[bQ]
theorem YM {toks:List Tok}(hE:gI toks){d g:Nat}{st:aB}{l:List Int × aB}(h:jh toks (iQ toks d g) st=some l)(hl:l.2.fE=0) :
  ∃ es:List eD,es.length≤8∧dR st (jH (es.map eD.par)) l.2∧l.1=bQ st.nodes.length (jH (es.map eD.par))∧vP toks st.used es∧(st.used<toks.length→l.2.used<toks.length)∧ql toks st.used es:=by
 unfold jh at h
 split at h
 ·obtain rfl:=Option.some.inj h
  exact⟨[],by simp,by simpa [jH] using dR.nil st,by simp[jH,bQ],trivial,id,trivial⟩
 ·obtain⟨es,_,h1,h2,h3,h4,h5,h6⟩:=FJ hE _ _ _ _ h hl
  exact⟨es,h1,h2,by rw[h3];simp,h4,h5,h6⟩
theorem aaW {toks:List Tok}(hE:gI toks){dp g:Nat}(st:aB)(r:Int × aB)(h:uQ toks dp g st=some r)(hr:r.2.fE=0)(hc:st.clause=false):∃ d:cK,Ni toks st r d.pt∧d.ok toks st.used∧d.marks toks st.used:=by
 unfold uQ at h;obtain⟨l,h1,h⟩:=bH h;obtain⟨t,h2,h⟩:=bH h;obtain⟨f,h3,h⟩:=bH h;obtain rfl:=Option.some.inj h;have z1:=oV hr;obtain⟨m1,m2,m3,m4,m5⟩:=gU hE z1;have z2:=(aO toks dp g _ _ _ h3).zero m5;obtain⟨q1,q2,q3,q4,q5⟩:=gU hE z2;obtain⟨ty,t1,t2,t3,t4,t5⟩:=Kk hE h2 q5;have z3:=(jg h2).zero q5;obtain⟨c1,c2,c3,c4,c5⟩:=gU hE z3;obtain⟨ps,p1,p2,p3,p4,p5,p6⟩:=YM hE h1 c5;have z4:=(kr toks _ jG _ _ h1).zero c5;obtain⟨o1,o2,o3,o4,o5⟩:=gU hE (l:=[[40]]) (st:=(jQ toks st).2) z4;obtain⟨n1,n2,n3,n4,n5⟩:=wX hE (k:=1) (by decide) (st:=(pJ toks st).2) o5;obtain⟨f1,f2,f3,f4,f5⟩:=gU hE (l:=[Hy]) (st:=(lX toks st).2) n5;obtain⟨b,b1,b2,b3,b4⟩:=jC toks hE dp g _ _ _ h3 m5
 have hp:∃ pub:Bool,dR st (if pub=true then [.leaf] else []) (lX toks st).2∧(lX toks st).1=bQ st.nodes.length (if pub=true then [.leaf] else [])∧(pub=true→aI toks st.used=yU):=by
  unfold lX
  split
  ·rename_i hx
   obtain⟨l1,l2,_⟩:=iF hE (aZ hx);refine⟨true,by simpa using l1,by simp[bQ,PT.nd,l2],fun _=>?_⟩
   simpa using gM hx
  ·exact⟨false,by simpa using dR.nil st,by simp[bQ],fun q=>by cases q⟩
 obtain⟨pub,pb1,pb2,pb3⟩:=hp
 have g1:=(pb1.append f1)
 have g2:=(g1.append n1)
 have g3:=(g2.append o1)
 have g4:=(g3.append p2)
 have g5:=(g4.append c1)
 have g6:=(g5.append t1)
 have g7:=(g6.append q1)
 have g8:=(g7.append b1)
 have g9:=(g8.append m1)
 have u0:=pb1.used;have u1:=f1.used;have u2:=n1.used;have u3:=o1.used;have u4:=p2.used;have u5:=c1.used;have u6:=t1.used;have u7:=q1.used;have k8:=g7.clause;simp only[bB,PT.lv] at u1 u2 u3 u5 u7
 have e3:st.used+bB (cK.lead ⟨pub,ps,ty,b⟩)+3=(iR toks st).2.used:=by
  rw[show (iR toks st).2.used=_ from u3,show (jQ toks st).2.used=_ from u2,show (pJ toks st).2.used=_ from u1,u0]
  rfl
 have e2:(cK.mk pub ps ty b).at2 st.used=(aA toks [[41]] l.2).2.used:=by
  rw[u5,u4,show (iR toks st).2.used=_ from u3,show (jQ toks st).2.used=_ from u2,show (pJ toks st).2.used=_ from u1,u0]
  rfl
 refine⟨⟨pub,ps,ty,b⟩,?_,⟨pb3,?_,?_,p1,?_,?_,?_⟩,?_,?_,?_⟩
 ·have hk:(cK.mk pub ps ty b).kids=(if pub=true then [.leaf] else [])++[.leaf]++[.leaf]++[.leaf]++jH (ps.map eD.par)++[.leaf]++ty.pts++[.leaf]++[b.pt]++[.leaf]:=by
   simp[cK.kids,cK.lead]
  rw[cK.pt,hk];have ig:IG st _ _ _:=(((((((((show IG st _ _ _ from ⟨pb1,pb2⟩).append (IG.leaf f1 f2)).append (IG.leaf n1 n2)).append (IG.leaf o1 o2)).append (show IG _ _ _ _ from ⟨p2,p3⟩)).append (IG.leaf c1 c2)).append (show IG _ _ _ _ from ⟨t1,rfl⟩)).append (IG.leaf q1 q2)).append (IG.res b1 b2)).append (IG.leaf m1 m2);refine g9.UY (k:=3) ?_ hr (fun _=>by have:=m1.used;simp only[bB,PT.lv] at this;omega);rw[← ig.2,t2];simp only[List.append_assoc,List.cons_append,List.nil_append]
  rfl
 ·show aI toks (st.used+bB (cK.lead _))=Hy
  have:st.used+bB (cK.lead ⟨pub,ps,ty,b⟩)=(lX toks st).2.used:=u0.symm;rw[this]
  simpa using f3
 ·show fZ toks (st.used+bB (cK.lead _)+1)=1
  have:st.used+bB (cK.lead ⟨pub,ps,ty,b⟩)+1=(pJ toks st).2.used:=by rw[show (pJ toks st).2.used=_ from u1,u0];rfl
  rw[this];exact n3
 ·show vP toks (st.used+bB (cK.lead _)+3) ps
  rw[e3];exact p4
 ·rw[e2]
  exact t3
 ·have:(cK.mk pub ps ty b).at3 st.used=(aA toks [[61]] t.2).2.used:=by
   rw[u7,u6,u5,u4,show (iR toks st).2.used=_ from u3,show (jQ toks st).2.used=_ from u2,show (pJ toks st).2.used=_ from u1,u0]
   rfl
  rw[this];have hb:b.ok toks (aA toks [[61]] t.2).2.clause (aA toks [[61]] t.2).2.used:=b3;rw[k8,hc] at hb;exact hb
 ·show ql toks (st.used+bB (cK.lead ⟨pub,ps,ty,b⟩)+3) ps
  rw[e3];exact p6
 ·rw[e2,u5]
  simpa using c3
 ·rw[e2]
  exact t5
def okL {α:Type}(P:α→Nat→Prop)(T:α→PT):Nat→List α→Prop
 | _,[]=>True
 | u,a :: l=>P a u∧okL P T (u+(T a).lv) l
theorem Nk {α:Type}{toks:List Tok}{one:aB→Option (Int × aB)}{first:List (List UInt8)}(T:α→PT)(P:α→Nat→Prop)
  (hone:∀ s k,one s=some k→k.2.fE=0→aS toks s first=true→s.clause=false→∃ a,Ni toks s k (T a)∧P a s.used) (hx:∀ s k,one s=some k→bZ s k.2) :
  ∀ (r:Nat) (kids:List Int) (st:aB) (l:List Int × aB),jf toks one first r kids st=some l→l.2.fE=0→st.clause=false →
   ∃ zs9:List α,zs9.length≤r∧dR st (zs9.map T) l.2∧l.1=kids++bQ st.nodes.length (zs9.map T)∧okL P T st.used zs9∧(st.used<toks.length→l.2.used<toks.length)
 | 0,kids,st,l,h,hl,_=>by
  rw[jf] at h;obtain rfl:=Option.some.inj h;have hl:(if st.fE=0∧aS toks st first=true then fQ toks 15 st else st).fE=0:=hl
  split at hl
  ·exact(oU (by decide) hl).elim
  ·rename_i hc
   refine⟨[],by simp,?_,by simp[bQ],trivial,?_⟩
   ·show dR st [] (if _ then _ else _)
    rw[if_neg hc];exact dR.nil st
   ·show _→(if _ then _ else _:aB).used<_
    rw[if_neg hc];exact id
 | r+1,kids,st,l,h,hl,hc0=>by
  rw[jf] at h
  split at h
  ·rename_i hc
   obtain⟨k,hk,h⟩:=bH h;have hz:=(mK hx r _ _ _ h).zero hl;obtain⟨a,⟨g1,i1,u1⟩,p1⟩:=hone _ _ hk hz hc.2 hc0;obtain⟨zs9,h1,h2,h3,h4,h5⟩:=Nk T P hone hx r _ _ _ h hl (by rw[g1.clause];exact hc0);have n1:=g1.len;have s1:=g1.used;simp only[dJ,bB,Nat.add_zero] at n1 s1;refine⟨a :: zs9,by simpa using h1,?_,?_,⟨p1,by rw[← s1];exact h4⟩,fun q=>h5 (u1 q)⟩
   ·exact g1.append h2
   ·rw[h3,List.map_cons,bQ,i1,n1,List.append_assoc]
    rfl
  ·obtain rfl:=Option.some.inj h
   exact⟨[],by simp,dR.nil st,by simp[bQ],trivial,id⟩
theorem Rn {toks:List Tok}(hE:gI toks)(st:aB)(k:Int × aB)(h:(fun s=>some (mh toks s)) st=some k)(hf:k.2.fE=0)(hn:aS toks st [oZ]=true):∃ _:Unit,Ni toks st k tF∧(aI toks st.used=oZ∧fZ toks (st.used+1)=1):=by
 obtain rfl:=Option.some.inj h;have z1:=oV (k:=2) (show (aY 2 _ _).2.fE=0 from hf);obtain⟨m1,m2,m3,m4,m5⟩:=gU hE z1;obtain⟨k1,k2,k3,k4,k5⟩:=wX hE (by decide) m5;obtain⟨l1,l2,l3⟩:=iF hE (aZ hn);have u1:=l1.used;simp only[bB,PT.lv] at u1;have ig:IG st _ _ _:=((IG.leaf l1 l2).append (IG.leaf k1 k2)).append (IG.leaf m1 m2);refine⟨(),?_,by simpa using gM hn,by rw[u1] at k3;exact k3⟩;exact ig.1.UY (k:=2) ig.2 hf (fun _=>by have:=m1.used;simp only[bB,PT.lv] at this;omega)
theorem map_unit {β:Type}(c:β):∀ l:List Unit,l.map (fun _=>c)=List.replicate l.length c
 | []=>rfl
 | _ :: l=>by rw[List.map_cons,map_unit c l];rfl
theorem Pv {toks:List Tok}:∀ (l:List Unit) (u:Nat),okL (fun (_:Unit) u=>aI toks u=oZ∧fZ toks (u+1)=1) (fun _=>tF) u l→Nj toks u l.length
 | [],_,_=>trivial
 | _ :: l,_u,h=>⟨h.1.1,h.1.2,Pv l _ h.2⟩
theorem H8 {toks:List Tok}:∀ (l:List cK) (u:Nat),okL (fun (d:cK) u=>d.ok toks u∧d.marks toks u) cK.pt u l→yY toks u l∧yX toks u l
 | [],_,_=>⟨trivial,trivial⟩
 | _ :: l,_,h=>⟨⟨h.1.1,(H8 l _ h.2).1⟩,h.1.2,(H8 l _ h.2).2⟩
theorem AV:∀ n,bB (List.replicate n tF)=3 * n
 | 0=>rfl
 | n+1=>by
  rw[List.replicate_succ,bB,AV n];simp only[tF,PT.lv,bB];omega
theorem Pw {T:List UInt8}{p:Nat}{toks:List Tok}(hL:Laid T p toks){d g:Nat}{r:Int × aB}(h:nC toks d g startP=some r)(hf:r.2.fE=0) :
  ∃ q:jP,r.2.nodes=q.pt.em 0 0∧q.ok toks∧q.pt.lv=toks.length∧q.marks toks:=by
 have hE:=hL.UR;unfold nC at h;obtain⟨a,h1,h⟩:=bH h;obtain⟨b,h2,h⟩:=bH h;obtain rfl:=Option.some.inj h;have hk:=oV hf;have hb:=(dO toks 5 b.2).zero hk;have ha:=(mK tu _ _ _ _ h2).zero hb;obtain⟨us,i1,i2,i3,i4,i5⟩:=Nk (toks:=toks) (fun _:Unit=>tF) (fun _ u=>aI toks u=oZ∧fZ toks (u+1)=1) (fun s k e1 e2 e3 _=>Rn hE s k e1 e2 e3) (tC toks) 16 [] startP a h1 ha rfl;obtain⟨ds,d1,d2,d3,d4,d5⟩:=Nk (toks:=toks) cK.pt (fun d u=>d.ok toks u∧d.marks toks u) (fun s k e1 e2 _ e4=>aaW hE s k e1 e2 e4) tu 64 [] a.2 b h2 hb (by rw[i2.clause];rfl);rw[map_unit] at i2 i3
 have hu:a.2.used=3 * us.length:=by
  rw[i2.used,AV];simp[startP]
 have hu':=d5 (i5 hL.some)
 have hku:aP toks 5 b.2=ay toks b.2∧fZ toks b.2.used=5:=by
  unfold aP at hk ⊢
  by_cases hc:b.2.fE=0∧(bP toks b.2.used).kind=5
  ·rw[if_pos hc]
   exact⟨rfl,hc.2⟩
  ·rw[if_neg hc] at hk
   exact(oU (by decide) hk).elim
 have hlast:=hL.aci hu' hku.2;obtain⟨hl1,hl2⟩:=dR.leaf (toks:=toks) (st:=b.2) (by omega)
 have e1:IG startP a.1 (List.replicate us.length tF) a.2:=⟨i2,i3⟩
 have e2:IG a.2 b.1 (ds.map cK.pt) b.2:=⟨d2,d3⟩
 have ig:=(e1.append e2).append (IG.leaf hl1 hl2);rw[hku.1] at hf hk ⊢;have hn:=ig.1.node hk 1;rw[← ig.2] at hn;have hds:=H8 ds _ d4;rw[hu] at hds;refine⟨⟨us.length,ds⟩,?_,⟨i1,d1,?_,hds.1⟩,?_,hds.2⟩
 ·have h18:=hn.1
  simp only[Int.cast_ofNat_Int] at h18;rw[h18];simp[startP,wL,jP.pt,jP.kids]
 ·exact Pv us 0 i4
 ·have:=ig.1.used
  rw[hl1.used] at this;simp only[startP,bB,PT.lv] at this;simp only[jP.pt,PT.lv,jP.kids];rw[← List.append_assoc];omega
theorem o8:∀ {l k:List PT},kH l→kH k→kH (l++k)
 | [],k,_,h=>h
 | t :: l,k,h1,h2=>by
  rw[kH] at h1;rw[List.cons_append,kH];exact⟨h1.1,o8 h1.2 h2⟩
theorem H9 {α:Type}{T:α→PT}(h:∀ a,(T a).wf):∀ l:List α,kH (l.map T)
 | []=>by rw[List.map_nil,kH];trivial
 | a :: l=>by rw[List.map_cons,kH];exact⟨h a,H9 h l⟩
theorem Px:∀ {l:List PT},kH l→kH (jH l)
 | [],h=>by rw[jH];exact h
 | [t],h=>by rw[uF];exact h
 | t :: s :: l,h=>by
  rw[kH] at h;rw[qj,kH,kH,PT.wf];exact⟨h.1,trivial,Px h.2⟩
theorem Py {t:PT}(h:t.wf):∀ n,kH (List.replicate n t)
 | 0=>by rw[List.replicate_zero,kH];trivial
 | n+1=>by rw[List.replicate_succ,kH];exact⟨h,Py h n⟩
theorem eD.wf (t:eD):kH t.pts:=by
 unfold eD.pts
 cases h:t.cl with
 | none=>simp[kH,PT.wf]
 | some e=>simp[kH,PT.wf,CE.wf e]
theorem eD.acj (t:eD):t.par.wf:=by
 unfold eD.par;simp[kH,PT.wf,t.wf]
theorem cK.wf (d:cK):d.pt.wf:=by
 rw[cK.pt,PT.wf];refine⟨by omega,by omega,?_⟩;unfold cK.kids cK.lead;refine o8 ?_ (o8 (by simp[kH,PT.wf]) (o8 (Px (H9 eD.acj _)) (o8 (by simp[kH,PT.wf]) (o8 d.ty.wf (by simp[kH,PT.wf,CE.wf d.body])))))
 split<;>simp[kH,PT.wf]
theorem jP.wf (p:jP):p.pt.wf:=by
 rw[jP.pt,PT.wf];refine⟨by omega,by omega,?_⟩;unfold jP.kids;exact o8 (Py (by simp[tF,kH,PT.wf]) _) (o8 (H9 cK.wf _) (by simp[kH,PT.wf]))
theorem Nl {S:List UInt8}{d:Nat}{toks:List Tok}{nodes:List Nd}(h:gX S d=.good toks nodes) :
  bO S=.ok toks∧∃ p:jP,nodes=p.pt.em 0 0∧p.ok toks∧p.pt.lv=toks.length∧nodes.length≤2 * toks.length∧p.marks toks:=by
 unfold gX at h
 cases hl:bO S with
 | error x=>rw[hl] at h;cases h
 | ok l =>
  rw[hl] at h;simp only at h;have hL:=gP hl;obtain⟨a,ha⟩:=zW hL.UR d startP;rw[ha] at h;simp only[Ce] at h
  split at h
  ·rename_i hf
   injection h with h1 h2
   subst h1;obtain⟨q,he,hok,hlv,hmk⟩:=Pw hL ha hf;have h3:=FI ha;have h4:=FC ha (Nat.zero_le _);unfold Slk at h3;simp only[startP,List.length_nil] at h3;exact⟨rfl,q,by rw[← h2,he],hok,hlv,by rw[← h2];omega,hmk⟩
  ·cases h
theorem Ro {S:List UInt8}{d e a:Nat}(h:gX S d=.bad e a):e≠0:=by
 unfold gX at h
 cases hl:bO S with
 | error x =>
  rw[hl] at h
  injection h with h1 h2
  have:=(qP hl).2;omega
 | ok l =>
  rw[hl] at h;simp only at h
  split at h
  ·injection h with h1 _;omega
  ·unfold Ce at h
   split at h
   ·cases h
   ·rename_i hf
    injection h with h1 _
    omega
theorem xE {S:List UInt8}{d d':Nat}{toks:List Tok}{nodes:List Nd}(hdd:d≤d')(h:gX S d=.good toks nodes):gX S d'=.good toks nodes:=by
 unfold gX at h ⊢
 cases hl:bO S with
 | error x=>rw[hl] at h;cases h
 | ok l =>
  rw[hl] at h;simp only at h ⊢
  cases hm:nC l d (xB l) startP with
  | none=>rw[hm] at h;cases h
  | some st =>
   rw[hm] at h;simp only at h
   have hs:st.2.fE=0:=by
    unfold Ce at h
    split at h
    ·assumption
    ·cases h
   rw[Hz hdd hm hs];exact h
def ru (l:List UInt8):Prop:=eO l=true∧l≠[]∧l.length≤60∧(l.head?=some 48→l.length=1)
theorem Nn (c:UInt8):aL c=(decide (48≤c.toNat) && decide (c.toNat≤57)):=by
 unfold aL;rw[Bool.eq_iff_iff];simp only[Bool.and_eq_true,decide_eq_true_eq,UInt8.le_iff_toNat_le];exact Iff.rfl
theorem UZ (T:List UInt8)(h:(dY T).1=3)(h0:(dY T).2.2=0):ru (T.take (dY T).2.1):=by
 cases T with
 | nil=>simp[dY] at h
 | cons c r =>
  rw[dY] at h h0 ⊢
  by_cases hc:dH c=true
  ·rw[if_pos hc] at h
   simp only[lu] at h
   split at h
   ·cases h
   ·split at h<;>cases h
  ·rw[if_neg hc] at h h0 ⊢
   by_cases hd:aL c=true
   ·rw[if_pos hd] at h h0 ⊢
    simp only[nP] at h h0 ⊢
    split at h
    ·cases h
    ·rename_i GQ
     rw[if_neg GQ];simp only;have ht:(c :: r).take ((c :: r).takeWhile aL).length=(c :: r).takeWhile aL:=(List.prefix_iff_eq_take.1 (List.takeWhile_prefix _)).symm
     have hne:(c :: r).takeWhile aL≠[]:=by rw[List.takeWhile_cons_of_pos hd];simp
     have hall:∀ x∈(c :: r).takeWhile aL,aL x=true:=fun x hx=>by
      have:=List.all_takeWhile (l:=c :: r) (p:=aL);rw[List.all_eq_true] at this;exact this x hx
     rw[ht];generalize (c :: r).takeWhile aL=w at GQ hne hall;refine⟨?_,hne,by omega,fun q=>?_⟩
     ·rw[eO,List.all_eq_true]
      intro x hx;rw[← Nn];exact hall x hx
     ·rw[List.head?_eq_getElem?] at q
      have:=List.length_pos_iff.2 hne
      by_cases h1:1<w.length
      ·exact absurd (.inr ⟨h1,q⟩) GQ
      ·omega
   ·rw[if_neg hd,Aq] at h
    split at h<;>cases h
theorem FL:∀ (n:Nat) (T:List UInt8) (p:Nat) (l:List Tok),nQ n T p=.ok l→∀ t∈l,t.kind=3→ru t.text
 | 0,T,p,l,h,t,ht,hk=>by rw[nQ] at h;cases h
 | n+1,T,p,l,h,t,ht,hk=>by
  rw[nQ] at h
  try simp only at h
  split at h
  ·cases h
  rename_i h0
  split at h
  ·injection h with h
   subst h;rw[List.mem_singleton] at ht;subst ht;cases hk
  ·split at h
   ·cases h
   ·rename_i l' hl'
    injection h with h
    subst h
    rcases List.mem_cons.1 ht with rfl|ht
    ·exact UZ _ hk (by omega)
    ·exact FL n _ _ _ hl' t ht hk
theorem o9 {S:List UInt8}{l:List Tok}(h:bO S=.ok l):∀ t∈l,t.kind=3→ru t.text:=by
 unfold bO at h
 split at h
 ·cases h
 ·exact FL _ _ _ _ h
theorem tH {toks:List Tok}(h:0<toks.length)(u:Nat):bP toks u∈toks:=by
 unfold bP;rw[List.getD_eq_getElem?_getD,List.getElem?_eq_getElem (by omega),Option.getD_some];exact List.getElem_mem _
theorem ru.dec {l:List UInt8}(h:ru l):fJ (iJ l)=l:=TU l h.1 h.2.1 h.2.2.2
theorem uT {S:List UInt8}{l:List Tok}(h:bO S=.ok l):Mk l:=fun u hu =>
 (o9 h _ (tH (gP h).some u) hu).dec
end Go.Proofs.YtknicmmigbhpcaaGreatDoor
