/- Walks and plain laws: PrintParse4, PrintRead, PrintForm, PrintBack, DumpX. -/
import Derived.Test.YtdednahplodojaaGreatDoorD33
set_option maxHeartbeats 16000000
set_option maxRecDepth 100000
set_option linter.unusedVariables false
set_option linter.unusedSimpArgs false
namespace Go.Proofs.YtdednahplodojaaGreatDoor
inductive FamZ:Int→Prop where
 | row {op} (j:Nat):j≤4→j≠2→lvZ op=(rowK j:Nat)→firstZ op=(rowK j:Nat)→thenZ op=((rowK j+1:Nat):Int)→signZ op∈signsF j→FamZ op
 | cmp {op}:lvZ op=5→firstZ op=6→thenZ op=6→signZ op∈signsF 2→FamZ op
 | imp:FamZ 20
theorem fam_of {op:Int}(h1:7≤op)(h2:op≤20):FamZ op:=by
 have:op=7∨op=8∨op=9∨op=10∨op=11∨op=12∨op=13∨op=14∨op=15∨op=16∨op=17∨op=18∨op=19∨op=20:=by omega
 rcases this with rfl|rfl|rfl|rfl|rfl|rfl|rfl|rfl|rfl|rfl|rfl|rfl|rfl|rfl
 ·exact .row 3 (by decide) (by decide) (by decide) (by decide) (by decide) (by decide)
 ·exact .row 3 (by decide) (by decide) (by decide) (by decide) (by decide) (by decide)
 ·exact .row 4 (by decide) (by decide) (by decide) (by decide) (by decide) (by decide)
 ·exact .row 4 (by decide) (by decide) (by decide) (by decide) (by decide) (by decide)
 ·exact .row 4 (by decide) (by decide) (by decide) (by decide) (by decide) (by decide)
 ·exact .cmp (by decide) (by decide) (by decide) (by decide)
 ·exact .cmp (by decide) (by decide) (by decide) (by decide)
 ·exact .cmp (by decide) (by decide) (by decide) (by decide)
 ·exact .cmp (by decide) (by decide) (by decide) (by decide)
 ·exact .cmp (by decide) (by decide) (by decide) (by decide)
 ·exact .cmp (by decide) (by decide) (by decide) (by decide)
 ·exact .row 1 (by decide) (by decide) (by decide) (by decide) (by decide) (by decide)
 ·exact .row 0 (by decide) (by decide) (by decide) (by decide) (by decide) (by decide)
 ·exact .imp
structure Prt (toks:List Tok) (d:Nat) (fm:Bool) (e:PZ) (k:Nat):Prop where
 lev:lvZ e.op=(k:Nat)
 hd:Hd e.pcs k
 pars:∀ j,j≤k→Pars toks d fm e.pcs e.ce j
 rows:∀ j,j≤4→j≠2→rowK j=k→Rows toks d fm e.pcs e.ce j
theorem Prt.of {toks:List Tok}{d:Nat}{fm:Bool}{e:PZ}{k:Nat}(hk:k≤9)(lev:lvZ e.op=(k:Nat))(hd:Hd e.pcs k)(p:Pars toks d fm e.pcs e.ce k)(hn:∀ j,j≤4→rowK j≠k):Prt toks d fm e k:=⟨lev,hd,fun _ hj=>p.to hk hd hj,fun j hj _ q=>absurd q (hn j hj)⟩
theorem hd_par {l:List Pc}{op:Int}{least k:Nat}(h:∀ j,lvZ op=(j:Nat)→Hd l j)(hl:∃ j:Nat,lvZ op=(j:Nat)):Hd (parQ (least:Nat) (op,l)) least:=by
 obtain ⟨j,hj⟩:=hl
 unfold parQ
 split
 ·exact ⟨_,_,rfl,by show ([40]:List UInt8)≠[41];decide,fun _=>by show ([40]:List UInt8) ∉ [tLet,tIf,tAssert];decide,fun _=>by show ([40]:List UInt8)≠tNot;decide,fun _=>by show ([40]:List UInt8)≠[45];decide⟩
 ·rename_i q
  exact (h j hj).mono (by simp only at q;omega)
theorem Hd.append {l r:List Pc}{k:Nat}(h:Hd l k):Hd (l++r) k:=by
 obtain ⟨p,q,rfl,h0⟩:=h
 exact ⟨p,q++r,rfl,h0⟩
theorem par_pars {toks:List Tok}(hE:EndOk toks){d:Nat}{fm:Bool}{e:PZ}{k least:Nat}(h:Prt toks d fm e k)(hl:least≤9):Pars toks d fm (parQ (least:Nat) (e.op,e.pcs)) (parC (least:Nat) (e.op,e.ce)) least∧Hd (parQ (least:Nat) (e.op,e.pcs)) least:=by
 have hh:=hd_par (l:=e.pcs) (op:=e.op) (least:=least) (k:=k) (fun j hj=>(by have:=h.lev;omega:j=k) ▸ h.hd) ⟨k,h.lev⟩
 refine ⟨?_,hh⟩
 unfold parQ parC at *
 by_cases q:lvZ e.op<(least:Nat)
 ·simp only [q,if_true] at hh ⊢
  refine (Pars.group hE (h.pars 0 (by omega))).to (by omega) ?_ hl
  exact ⟨_,_,rfl,by show ([40]:List UInt8)≠[41];decide,fun _=>by show ([40]:List UInt8) ∉ [tLet,tIf,tAssert];decide,fun _=>by show ([40]:List UInt8)≠tNot;decide,fun _=>by show ([40]:List UInt8)≠[45];decide⟩
 ·simp only [q,if_false]
  exact h.pars least (by have:=h.lev;omega)
theorem par_rows {toks:List Tok}(hE:EndOk toks){d:Nat}{fm:Bool}{e:PZ}{k j:Nat}(h:Prt toks d fm e k)(hj:j≤4)(h2:j≠2):Rows toks d fm (parQ (rowK j:Nat) (e.op,e.pcs)) (parC (rowK j:Nat) (e.op,e.ce)) j:=by
 have hr9:rowK j+1≤9:=by
  have:j=0∨j=1∨j=2∨j=3∨j=4:=by omega
  rcases this with rfl|rfl|rfl|rfl|rfl <;> decide
 by_cases q:lvZ e.op<(rowK j:Nat)
 ·unfold parQ parC
  simp only [q,if_true]
  refine Pars.rows hj ((Pars.group hE (h.pars 0 (by omega))).to (by omega) ?_ hr9)
  exact ⟨_,_,rfl,by show ([40]:List UInt8)≠[41];decide,fun _=>by show ([40]:List UInt8) ∉ [tLet,tIf,tAssert];decide,fun _=>by show ([40]:List UInt8)≠tNot;decide,fun _=>by show ([40]:List UInt8)≠[45];decide⟩
 ·unfold parQ parC
  simp only [q,if_false]
  have:=h.lev
  by_cases q2:rowK j=k
  ·exact h.rows j hj h2 q2
  ·exact Pars.rows hj (h.pars (rowK j+1) (by omega))
theorem name_hd {t:List UInt8}(h:nameB t=true)(k:Nat)(r:List Pc):Hd (wordP t :: r) k:=by
 have hn:=h
 simp only [nameB,Bool.and_eq_true,decide_eq_true_eq] at hn
 have hk:=hn.2
 have hne:∀ x∈keyL,t≠x:=fun x hx q=>hk (by rw [q];exact hx)
 have hc:∀ c,letterB c=false→t≠[c]:=by
  intro c hc q
  rw [q] at hn
  have:=hn.1.1.1.2
  rw [List.headD_cons,hc] at this
  cases this
 refine ⟨wordP t,r,rfl,?_,fun _=>?_,fun _=>?_,fun _=>?_⟩ <;> rw [(name_word h).2]
 ·exact hc 41 (by decide)
 ·intro q
  simp only [List.mem_cons,List.not_mem_nil,or_false] at q
  rcases q with q|q|q
  ·exact hne tLet (by decide) q
  ·exact hne tIf (by decide) q
  ·exact hne tAssert (by decide) q
 ·exact hne tNot (by decide)
 ·exact hc 45 (by decide)
theorem num_hd {n:Int}(h0:0≤n)(k:Nat):Hd [numP (intF n)] k:=by
 obtain ⟨m,rfl⟩:=Int.eq_ofNat_of_zero_le h0
 have hd:=digits_in (n:=m)
 have hp:=decF_pos m
 rw [intF_nat]
 have hc:∀ (c:UInt8) (r:List UInt8),digitB c=false→decF m≠c :: r:=by
  intro c r hc q
  rw [q,List.all_cons,hc] at hd
  cases hd
 refine ⟨_,_,rfl,?_,fun _=>?_,fun _=>?_,fun _=>?_⟩ <;> simp only [numP]
 ·exact hc _ _ (by decide)
 ·intro q
  simp only [List.mem_cons,List.not_mem_nil,or_false] at q
  rcases q with q|q|q <;> exact hc _ _ (by decide) q
 ·exact hc _ _ (by decide)
 ·exact hc _ _ (by decide)
theorem PZ.prt {toks:List Tok}(hE:EndOk toks)(d:Nat){fm:Bool}:∀ (n:Nat) (e:PZ),SizeOf.sizeOf e<n→e.right fm=true→∃ k,k≤9∧Prt toks d fm e k
 | 0,_,h,_=>absurd h (by omega)
 | n+1,e,hs,hr=>by
  have R:=PZ.rightZ hr
  have ih:∀ x∈e.kids,∃ k,k≤9∧Prt toks d fm x k:=fun x hx=>PZ.prt hE d n x (by have:=e.kids_sizeOf x hx;omega) (R.kids x hx)
  have F:=R.form
  have hnm:=R.names
  have hv:=R.values
  have hmay:=R.may
  have hpd:=e.pcs_def
  have hcd:=e.ce_def
  have hk:∀ i,(h:i<e.kids.length)→(pcsZ e.kids).getD i (0,[])=(e.kids[i].op,e.kids[i].pcs)∧(cesZ e.kids).getD i (0,.num)=(e.kids[i].op,e.kids[i].ce)∧∃ k,k≤9∧Prt toks d fm e.kids[i] k:=fun i h=>⟨pcsZ_get h,cesZ_get h,ih _ (List.getElem_mem h)⟩
  have hm:(pcsZ e.kids).map Prod.snd=e.kids.map PZ.pcs∧(cesZ e.kids).map Prod.snd=e.kids.map PZ.ce:=by rw [pcsZ_map,cesZ_map];simp
  have key:∀ (op:Int) (ks:List PZ),e.op=op→e.kids=ks→ks.length=e.kids.length:=fun _ _ _ h=>by rw [h]
  generalize hop:e.op=op at *
  generalize hks:e.kids=ks at *
  generalize hn:ks.length=c at F
  cases F with
  | none h1 h2 =>
   have:op=1∨op=2∨op=3∨op=4:=by omega
   rcases this with rfl|rfl|rfl|rfl
   ·simp only [valuesB,if_pos,Bool.and_eq_true,decide_eq_true_eq] at hv
    have p:e.pcs=[numP (intF e.num)]:=by rw [hpd];rfl
    have q:e.ce=.num:=by rw [hcd];rfl
    exact ⟨9,by omega,Prt.of (by omega) (by rw [hop];decide) (by rw [p];exact num_hd hv.1.1 9) (by rw [p,q];exact Pars.num toks hE d fm _) (by intro j hj;have:j=0∨j=1∨j=2∨j=3∨j=4:=(by omega);rcases this with rfl|rfl|rfl|rfl|rfl <;> decide)⟩
   ·have p:e.pcs=[wordP (if e.yes=true then tTrue else tFalse)]:=by rw [hpd];rfl
    have q:e.ce=.truth:=by rw [hcd];rfl
    refine ⟨9,by omega,Prt.of (by omega) (by rw [hop];decide) (by rw [p];exact ⟨_,_,rfl,by cases e.yes <;> decide,fun _=>by cases e.yes <;> decide,fun _=>by cases e.yes <;> decide,fun _=>by cases e.yes <;> decide⟩) (by rw [p,q];exact Pars.truth toks hE d fm _ (by cases e.yes <;> simp)) (by intro j hj;have:j=0∨j=1∨j=2∨j=3∨j=4:=(by omega);rcases this with rfl|rfl|rfl|rfl|rfl <;> decide)⟩
   ·simp only [namesB] at hnm
    rw [if_pos (by decide),Bool.and_eq_true] at hnm
    have hN:=plain_name hnm.1
    have p:e.pcs=[wordP e.name]:=by rw [hpd];rfl
    have q:e.ce=.nam:=by rw [hcd];rfl
    exact ⟨9,by omega,Prt.of (by omega) (by rw [hop];decide) (by rw [p];exact name_hd hN 9 []) (by rw [p,q];exact Pars.nam toks hE d fm _ hN) (by intro j hj;have:j=0∨j=1∨j=2∨j=3∨j=4:=(by omega);rcases this with rfl|rfl|rfl|rfl|rfl <;> decide)⟩
   ·have hfm:fm=true:=by
     cases fm with
     | true=>rfl
     | false=>exact absurd hmay (by decide)
    subst hfm
    have p:e.pcs=[wordP tRes]:=by rw [hpd];rfl
    have q:e.ce=.res:=by rw [hcd];rfl
    exact ⟨9,by omega,Prt.of (by omega) (by rw [hop];decide) (by rw [p];exact ⟨_,_,rfl,by decide,fun _=>by decide,fun _=>by decide,fun _=>by decide⟩) (by rw [p,q];exact Pars.res toks hE d) (by intro j hj;have:j=0∨j=1∨j=2∨j=3∨j=4:=(by omega);rcases this with rfl|rfl|rfl|rfl|rfl <;> decide)⟩
  | one h =>
   obtain ⟨a1,a2,ka,hka,a3⟩:=hk 0 (by omega)
   rcases h with rfl|rfl
   ·have p:e.pcs=sgnP [45] :: parQ ((9:Nat):Int) (ks[0].op,ks[0].pcs):=by rw [hpd,← a1];rfl
    have q:e.ce=.un (parC ((9:Nat):Int) (ks[0].op,ks[0].ce)):=by rw [hcd,← a2];rfl
    obtain ⟨p9,h9⟩:=par_pars hE a3 (least:=9) (by omega)
    exact ⟨8,by omega,Prt.of (by omega) (by rw [hop];decide) (by rw [p];exact ⟨_,_,rfl,by decide,fun _=>by decide,fun _=>by decide,fun q=>by omega⟩) (by rw [p,q];exact Pars.un hE (.inr ⟨rfl,rfl⟩) (p9.down (by omega) h9)) (by intro j hj;have:j=0∨j=1∨j=2∨j=3∨j=4:=(by omega);rcases this with rfl|rfl|rfl|rfl|rfl <;> decide)⟩
   ·have p:e.pcs=wordP tNot :: spP (parQ ((4:Nat):Int) (ks[0].op,ks[0].pcs)):=by rw [hpd,← a1];rfl
    have q:e.ce=.un (parC ((4:Nat):Int) (ks[0].op,ks[0].ce)):=by rw [hcd,← a2];rfl
    obtain ⟨p4,h4⟩:=par_pars hE a3 (least:=4) (by omega)
    have p4':Pars toks d fm (spP (parQ ((4:Nat):Int) (ks[0].op,ks[0].pcs))) (parC ((4:Nat):Int) (ks[0].op,ks[0].ce)) 4:=⟨by rw [sp_len];exact p4.len,fun g nest st r hr hf hc hA hS=>p4.does g nest st r hr hf hc hA.sp (by rw [sp_len] at hS;exact hS)⟩
    exact ⟨4,by omega,Prt.of (by omega) (by rw [hop];decide) (by rw [p];exact ⟨_,_,rfl,by decide,fun _=>by decide,fun q=>by omega,fun q=>by omega⟩) (by rw [p,q];exact Pars.un hE (.inl ⟨rfl,rfl⟩) p4') (by intro j hj;have:j=0∨j=1∨j=2∨j=3∨j=4:=(by omega);rcases this with rfl|rfl|rfl|rfl|rfl <;> decide)⟩
  | two h1 h2 =>
   obtain ⟨a1,a2,ka,hka,a3⟩:=hk 0 (by omega)
   obtain ⟨b1,b2,kb,hkb,b3⟩:=hk 1 (by omega)
   have e1:∀ k:Int,(k≤6∨21≤k)→¬ op=k:=fun k hk q=>by omega
   have p:e.pcs=parQ (firstZ op) (ks[0].op,ks[0].pcs)++(spP [sgnP (signZ op)]++spP (parQ (thenZ op) (ks[1].op,ks[1].pcs))):=by
    rw [hpd,← a1,← b1]
    simp only [showQ]
    rw [if_neg (e1 1 (by omega)),if_neg (e1 2 (by omega)),if_neg (e1 3 (by omega)),if_neg (e1 4 (by omega)),if_neg (e1 5 (by omega)),if_neg (e1 6 (by omega)),if_neg (e1 21 (by omega)),if_neg (e1 22 (by omega)),if_neg (e1 23 (by omega)),if_neg (e1 24 (by omega))]
   have q:e.ce=.bin (parC (firstZ op) (ks[0].op,ks[0].ce)) (parC (thenZ op) (ks[1].op,ks[1].ce)):=by
    rw [hcd,← a2,← b2]
    simp only [ceF]
    rw [if_neg (e1 1 (by omega)),if_neg (e1 2 (by omega)),if_neg (e1 3 (by omega)),if_neg (e1 4 (by omega)),if_neg (e1 5 (by omega)),if_neg (e1 6 (by omega)),if_neg (e1 21 (by omega)),if_neg (e1 22 (by omega)),if_neg (e1 23 (by omega)),if_neg (e1 24 (by omega))]
   cases fam_of h1 h2 with
   | row j hj j2 f1 f2 f3 f4 =>
    rw [f2,f3] at p q
    have hr9:rowK j+1≤9:=by
     have:j=0∨j=1∨j=2∨j=3∨j=4:=by omega
     rcases this with rfl|rfl|rfl|rfl|rfl <;> decide
    have ra:=par_rows hE a3 hj j2
    have hda:=(par_pars hE a3 (least:=rowK j) (by omega)).2
    have pb:=(par_pars hE b3 (least:=rowK j+1) hr9).1
    have rb:=ra.bin hE hj j2 pb f4
    rw [← p,← q] at rb
    have hdp:Hd e.pcs (rowK j):=by rw [p];exact hda.append
    refine ⟨rowK j,by omega,⟨by rw [hop,f1],hdp,fun i hi=>(rb.stop hj).to (by omega) hdp hi,fun i hi _ hij=>?_⟩⟩
    have:i=j:=by
     have e1:i=0∨i=1∨i=2∨i=3∨i=4:=by omega
     have e2:j=0∨j=1∨j=2∨j=3∨j=4:=by omega
     rcases e1 with rfl|rfl|rfl|rfl|rfl <;> rcases e2 with rfl|rfl|rfl|rfl|rfl <;> first|rfl|exact absurd hij (by decide)
    rw [this];exact rb
   | cmp f1 f2 f3 f4 =>
    rw [f2,f3] at p q
    obtain ⟨pa,hda⟩:=par_pars hE a3 (least:=6) (by omega)
    have pb:=(par_pars hE b3 (least:=6) (by omega)).1
    have pc:=Pars.cmp hE pa pb f4
    have p':e.pcs=_:=p
    have hdp:Hd e.pcs 5:=by rw [p];exact (hda.mono (by omega)).append
    have pc':Pars toks d fm e.pcs e.ce 5:=by rw [p,q];exact pc
    refine ⟨5,by omega,⟨by rw [hop,f1];rfl,hdp,fun i hi=>pc'.to (by omega) hdp hi,fun i hi hi2 hij=>?_⟩⟩
    have:i=2:=by
     have e1:i=0∨i=1∨i=2∨i=3∨i=4:=by omega
     rcases e1 with rfl|rfl|rfl|rfl|rfl <;> first|rfl|exact absurd hij (by decide)
    exact absurd this hi2
   | imp =>
    have p2:e.pcs=parQ ((2:Nat):Int) (ks[0].op,ks[0].pcs)++(spP [sgnP [61,62]]++spP (parQ ((1:Nat):Int) (ks[1].op,ks[1].pcs))):=p
    have q2:e.ce=.bin (parC ((2:Nat):Int) (ks[0].op,ks[0].ce)) (parC ((1:Nat):Int) (ks[1].op,ks[1].ce)):=q
    obtain ⟨pa,hda⟩:=par_pars hE a3 (least:=2) (by omega)
    have pb:=(par_pars hE b3 (least:=1) (by omega)).1
    have pc:=Pars.imp hE pa pb
    rw [← p2,← q2] at pc
    have hdp:Hd e.pcs 1:=by rw [p2];exact (hda.mono (by omega)).append
    exact ⟨1,by omega,Prt.of (by omega) (by rw [hop];decide) hdp pc (by intro j hj;have:j=0∨j=1∨j=2∨j=3∨j=4:=(by omega);rcases this with rfl|rfl|rfl|rfl|rfl <;> decide)⟩
  | iff =>
   have hfm:fm=false:=by
    cases fm with
    | false=>rfl
    | true=>exact absurd hmay (by decide)
   subst hfm
   obtain ⟨a1,a2,ka,hka,a3⟩:=hk 0 (by omega)
   obtain ⟨b1,b2,kb,hkb,b3⟩:=hk 1 (by omega)
   obtain ⟨c1,c2,kc,hkc,c3⟩:=hk 2 (by omega)
   have p:e.pcs=wordP tIf :: (spP ks[0].pcs++spP [wordP tThen]++spP ks[1].pcs++spP [wordP tElse]++spP ks[2].pcs):=by
    rw [hpd]
    have:∀ A B C:Int × List Pc,(pcsZ ks).getD 0 (0,[])=A→(pcsZ ks).getD 1 (0,[])=B→(pcsZ ks).getD 2 (0,[])=C→showQ 21 e.name e.module e.num e.yes (pcsZ ks)=wordP tIf :: (spP A.2++spP [wordP tThen]++spP B.2++spP [wordP tElse]++spP C.2):=by rintro A B C rfl rfl rfl;rfl
    exact this _ _ _ a1 b1 c1
   have q:e.ce=.iff ks[0].ce ks[1].ce ks[2].ce:=by
    rw [hcd]
    have:∀ A B C:Int × CE,(cesZ ks).getD 0 (0,.num)=A→(cesZ ks).getD 1 (0,.num)=B→(cesZ ks).getD 2 (0,.num)=C→ceF 21 e.module (cesZ ks)=.iff A.2 B.2 C.2:=by rintro A B C rfl rfl rfl;rfl
    exact this _ _ _ a2 b2 c2
   exact ⟨0,by omega,Prt.of (by omega) (by rw [hop];decide) (by rw [p];exact ⟨_,_,rfl,by decide,fun q=>by omega,fun q=>by omega,fun q=>by omega⟩) (by rw [p,q];exact Pars.iff hE (a3.pars 0 (by omega)) (b3.pars 0 (by omega)) (c3.pars 0 (by omega))) (by intro j hj;have:j=0∨j=1∨j=2∨j=3∨j=4:=(by omega);rcases this with rfl|rfl|rfl|rfl|rfl <;> decide)⟩
  | lett =>
   have hfm:fm=false:=by
    cases fm with
    | false=>rfl
    | true=>exact absurd hmay (by decide)
   subst hfm
   simp only [namesB] at hnm
   rw [if_pos (by decide),Bool.and_eq_true] at hnm
   have hN:=plain_name hnm.1
   obtain ⟨a1,a2,ka,hka,a3⟩:=hk 0 (by omega)
   obtain ⟨b1,b2,kb,hkb,b3⟩:=hk 1 (by omega)
   have p:e.pcs=wordP tLet :: (spP [wordP e.name]++spP [sgnP [61]]++spP ks[0].pcs++spP [wordP tIn]++spP ks[1].pcs):=by
    rw [hpd]
    have:∀ A B:Int × List Pc,(pcsZ ks).getD 0 (0,[])=A→(pcsZ ks).getD 1 (0,[])=B→showQ 22 e.name e.module e.num e.yes (pcsZ ks)=wordP tLet :: (spP [wordP e.name]++spP [sgnP [61]]++spP A.2++spP [wordP tIn]++spP B.2):=by rintro A B rfl rfl;rfl
    exact this _ _ a1 b1
   have q:e.ce=.lett ks[0].ce ks[1].ce:=by
    rw [hcd]
    have:∀ A B:Int × CE,(cesZ ks).getD 0 (0,.num)=A→(cesZ ks).getD 1 (0,.num)=B→ceF 22 e.module (cesZ ks)=.lett A.2 B.2:=by rintro A B rfl rfl;rfl
    exact this _ _ a2 b2
   exact ⟨0,by omega,Prt.of (by omega) (by rw [hop];decide) (by rw [p];exact ⟨_,_,rfl,by decide,fun q=>by omega,fun q=>by omega,fun q=>by omega⟩) (by rw [p,q];exact Pars.lett hE hN (a3.pars 0 (by omega)) (b3.pars 0 (by omega))) (by intro j hj;have:j=0∨j=1∨j=2∨j=3∨j=4:=(by omega);rcases this with rfl|rfl|rfl|rfl|rfl <;> decide)⟩
  | asrt =>
   have hfm:fm=false:=by
    cases fm with
    | false=>rfl
    | true=>exact absurd hmay (by decide)
   subst hfm
   obtain ⟨a1,a2,ka,hka,a3⟩:=hk 0 (by omega)
   obtain ⟨b1,b2,kb,hkb,b3⟩:=hk 1 (by omega)
   have p:e.pcs=wordP tAssert :: (spP ks[0].pcs++spP [wordP tIn]++spP ks[1].pcs):=by
    rw [hpd]
    have:∀ A B:Int × List Pc,(pcsZ ks).getD 0 (0,[])=A→(pcsZ ks).getD 1 (0,[])=B→showQ 23 e.name e.module e.num e.yes (pcsZ ks)=wordP tAssert :: (spP A.2++spP [wordP tIn]++spP B.2):=by rintro A B rfl rfl;rfl
    exact this _ _ a1 b1
   have q:e.ce=.asrt ks[0].ce ks[1].ce:=by
    rw [hcd]
    have:∀ A B:Int × CE,(cesZ ks).getD 0 (0,.num)=A→(cesZ ks).getD 1 (0,.num)=B→ceF 23 e.module (cesZ ks)=.asrt A.2 B.2:=by rintro A B rfl rfl;rfl
    exact this _ _ a2 b2
   exact ⟨0,by omega,Prt.of (by omega) (by rw [hop];decide) (by rw [p];exact ⟨_,_,rfl,by decide,fun q=>by omega,fun q=>by omega,fun q=>by omega⟩) (by rw [p,q];exact Pars.asrt hE (a3.pars 0 (by omega)) (b3.pars 0 (by omega))) (by intro j hj;have:j=0∨j=1∨j=2∨j=3∨j=4:=(by omega);rcases this with rfl|rfl|rfl|rfl|rfl <;> decide)⟩
  | call h8 =>
   have hfm:fm=false:=by
    cases fm with
    | false=>rfl
    | true=>exact absurd hmay (by decide)
   subst hfm
   simp only [namesB] at hnm
   rw [if_neg (by decide),if_pos trivial,Bool.and_eq_true,Bool.or_eq_true,decide_eq_true_eq] at hnm
   have hN:=plain_name hnm.1
   have hM:e.module=[]∨nameB e.module=true:=hnm.2.imp id plain_name
   have p:e.pcs=(if e.module=[] then [] else [wordP e.module,sgnP [46]])++([wordP e.name,sgnP [40]]++(commaQ (ks.map PZ.pcs)++[sgnP [41]])):=by rw [hpd,← hm.1];rfl
   have q:e.ce=.call (decide (e.module≠[])) (ks.map PZ.ce):=by rw [hcd,← hm.2];rfl
   have hh:Hd e.pcs 9:=by
    rw [p]
    by_cases hq:e.module=[]
    ·rw [if_pos hq];exact name_hd hN 9 _
    ·rw [if_neg hq];exact name_hd (hM.resolve_left hq) 9 _
   have hc:=Pars.call hE (d:=d) (es:=ks) hN hM (by omega) fun x hx=>(show Pars toks d false x.pcs x.ce 0∧Hd x.pcs 0 from by
    obtain ⟨k,_,hp⟩:=ih x hx
    exact ⟨hp.pars 0 (by omega),hp.hd.mono (by omega)⟩)
   rw [← p,← q] at hc
   exact ⟨9,by omega,Prt.of (by omega) (by rw [hop];decide) hh hc (by intro j hj;have:j=0∨j=1∨j=2∨j=3∨j=4:=(by omega);rcases this with rfl|rfl|rfl|rfl|rfl <;> decide)⟩
mutual
def PZ.noat:PZ→PZ
 | .mk op nm md num yes kids _=>.mk op nm md num yes (noatZ kids) 0
def noatZ:List PZ→List PZ
 | []=>[]
 | e :: l=>e.noat :: noatZ l
end
theorem noatZ_map:∀ l:List PZ,noatZ l=l.map PZ.noat
 | []=>rfl
 | e :: l=>by rw [noatZ,noatZ_map l];rfl
theorem PZ.noat_def (e:PZ):e.noat=.mk e.op e.name e.module e.num e.yes (e.kids.map PZ.noat) 0:=by cases e;rw [PZ.noat,noatZ_map];rfl
theorem PZ.noat_op (e:PZ):e.noat.op=e.op:=by rw [e.noat_def];rfl
mutual
theorem PZ.noat_text:∀ e:PZ,e.noat.text=e.text
 | .mk op nm md num yes kids _=>by rw [PZ.noat,PZ.text,PZ.text,noatZ_texts kids]
theorem noatZ_texts:∀ l:List PZ,textsZ (noatZ l)=textsZ l
 | []=>rfl
 | e :: l=>by rw [noatZ,textsZ,textsZ,noatZ_texts l,PZ.noat_text e,PZ.noat_op]
end
mutual
theorem PZ.noat_right (fm:Bool):∀ e:PZ,e.noat.right fm=e.right fm
 | .mk op nm md num yes kids _=>by rw [PZ.noat,PZ.right,PZ.right,noatZ_rights fm kids,noatZ_map,List.length_map]
theorem noatZ_rights (fm:Bool):∀ l:List PZ,rightsZ fm (noatZ l)=rightsZ fm l
 | []=>rfl
 | e :: l=>by rw [noatZ,rightsZ,rightsZ,noatZ_rights fm l,PZ.noat_right fm e]
end
def Rdz (toks:List Tok)(l:List Pc)(c:CE)(x:PZ):Prop:=c.pt.lv=l.length∧∀ u,AtP toks u l→(c.pe toks u).z.noat=x.noat
theorem Rdz.par {toks:List Tok}{x:PZ}(h:Rdz toks x.pcs x.ce x)(least:Int):Rdz toks (parQ least (x.op,x.pcs)) (parC least (x.op,x.ce)) x:=by
 unfold parQ parC
 by_cases q:lvZ x.op<least
 ·simp only [q,if_true]
  refine ⟨?_,fun u hA=>?_⟩
  ·have:=h.1
   simp only [CE.pt,PT.lv,lvL,this,List.length_cons,List.length_append,List.length_nil];omega
  ·rw [CE.pe]
   exact h.2 _ hA.tail.left
 ·simp only [q,if_false]
  exact h
theorem Rdz.sp {toks:List Tok}{l:List Pc}{c:CE}{x:PZ}(h:Rdz toks l c x):Rdz toks (spP l) c x:=⟨by rw [sp_len];exact h.1,fun u hA=>h.2 u hA.sp⟩
theorem len1 {α:Type}{l:List α}(h:l.length=1):∃ a,l=[a]:=by
 match l,h with
 | [a],_=>exact ⟨a,rfl⟩
theorem len2 {α:Type}{l:List α}(h:l.length=2):∃ a b,l=[a,b]:=by
 match l,h with
 | [a,b],_=>exact ⟨a,b,rfl⟩
theorem len3 {α:Type}{l:List α}(h:l.length=3):∃ a b c,l=[a,b,c]:=by
 match l,h with
 | [a,b,c],_=>exact ⟨a,b,c,rfl⟩
theorem args_rd {toks:List Tok}:∀ (ks:List PZ),(∀ x∈ks,Rdz toks x.pcs x.ce x)→∀ u,AtP toks u (commaQ (ks.map PZ.pcs))→(argsPE toks u (ks.map PZ.ce)).map (fun x=>x.z.noat)=ks.map PZ.noat
 | [],_,u,_=>by simp [argsPE]
 | [e],h,u,hA=>by
  simp only [List.map_cons,List.map_nil,commaQ] at hA ⊢
  rw [argsPE,argsPE]
  simp only [List.map_cons,List.map_nil,(h e (by simp)).2 u hA]
 | e :: f :: l,h,u,hA=>by
  have he:=h e (by simp)
  have ih:=args_rd (f :: l) (fun x hx=>h x (List.mem_cons_of_mem _ hx))
  simp only [List.map_cons,commaQ] at hA ih ⊢
  rw [argsPE]
  have A1:=hA.right.tail.sp
  have h2:=ih _ A1
  simp only [List.map_cons,he.2 u hA.left]
  rw [he.1,h2]
theorem decV_decF (n:Nat):decV (decF n)=n:=by
 have:∀ (m n:Nat),n≤m→decV (decF n)=n:=by
  intro m
  induction m with
  | zero =>
   intro n hn
   obtain rfl:n=0:=by omega
   rw [decF,dif_pos (by omega)];rfl
  | succ m ih =>
   intro n hn
   rw [decF]
   split
   ·rename_i h
    have:n=0∨n=1∨n=2∨n=3∨n=4∨n=5∨n=6∨n=7∨n=8∨n=9:=by omega
    rcases this with rfl|rfl|rfl|rfl|rfl|rfl|rfl|rfl|rfl|rfl <;> rfl
   ·rename_i h
    rw [decV_snoc,ih (n / 10) (by omega)]
    have hd:n % 10<10:=Nat.mod_lt _ (by omega)
    have:(48+UInt8.ofNat (n % 10)).toNat - 48=n % 10∧(UInt8.ofNat (48+n % 10)).toNat - 48=n % 10:=by
     generalize n % 10=d at *
     have:d=0∨d=1∨d=2∨d=3∨d=4∨d=5∨d=6∨d=7∨d=8∨d=9:=by omega
     rcases this with rfl|rfl|rfl|rfl|rfl|rfl|rfl|rfl|rfl|rfl <;> exact ⟨rfl,rfl⟩
    first
     | rw [this.1];omega
     | rw [this.2];omega
 exact this n n (Nat.le_refl n)
theorem sign_idx {op:Int}(h1:7≤op)(h2:op≤20):((7+binL.idxOf (signZ op):Nat):Int)=op:=by
 have:op=7∨op=8∨op=9∨op=10∨op=11∨op=12∨op=13∨op=14∨op=15∨op=16∨op=17∨op=18∨op=19∨op=20:=by omega
 rcases this with rfl|rfl|rfl|rfl|rfl|rfl|rfl|rfl|rfl|rfl|rfl|rfl|rfl|rfl <;> decide
theorem values_num {op num:Int}{yes:Bool}(h:valuesB op num yes=true)(h1:op≠1):num=0:=by
 unfold valuesB at h
 rw [if_neg h1,Bool.and_eq_true,decide_eq_true_eq] at h
 exact h.1
theorem values_yes {op num:Int}{yes:Bool}(h:valuesB op num yes=true)(h2:op≠2):yes=false:=by
 unfold valuesB at h
 split at h
 ·rw [Bool.and_eq_true] at h;simpa using h.2
 ·rw [Bool.and_eq_true] at h;simpa [h2] using h.2
theorem names_none {op:Int}{nm md:List UInt8}(h:namesB op nm md=true)(h1:¬ (op=3∨op=22))(h2:op≠24):nm=[]∧md=[]:=by
 unfold namesB at h
 rw [if_neg h1,if_neg h2,Bool.and_eq_true,decide_eq_true_eq,decide_eq_true_eq] at h
 exact h
theorem names_mod {op:Int}{nm md:List UInt8}(h:namesB op nm md=true)(h2:op≠24):md=[]:=by
 unfold namesB at h
 split at h
 ·rw [Bool.and_eq_true,decide_eq_true_eq] at h;exact h.2
 ·first
  | (rw [if_neg h2,Bool.and_eq_true,decide_eq_true_eq,decide_eq_true_eq] at h;exact h.2)
  | (rw [Bool.and_eq_true,decide_eq_true_eq,decide_eq_true_eq] at h;exact h.2)
theorem PZ.reads {toks:List Tok}(hE:EndOk toks){fm:Bool}:∀ (n:Nat) (e:PZ),SizeOf.sizeOf e<n→e.right fm=true→Rdz toks e.pcs e.ce e
 | 0,_,h,_=>absurd h (by omega)
 | n+1,e,hs,hr=>by
  have R:=PZ.rightZ hr
  have ih:∀ x∈e.kids,Rdz toks x.pcs x.ce x:=fun x hx=>PZ.reads hE n x (by have:=e.kids_sizeOf x hx;omega) (R.kids x hx)
  have F:=R.form
  obtain ⟨k,hk,hp⟩:=PZ.prt hE 0 (n+1) e hs hr
  refine ⟨(hp.pars 0 (by omega)).len,fun u hA=>?_⟩
  clear hp hk
  have hnm:=R.names
  have hv:=R.values
  rw [e.noat_def]
  rw [e.pcs_def] at hA
  rw [e.ce_def]
  generalize e.op=op at *
  generalize e.kids=ks at *
  generalize e.name=nm at *
  generalize e.module=md at *
  generalize e.num=num at *
  generalize e.yes=yes at *
  generalize hn:ks.length=c at F
  cases F with
  | none h1 h2 =>
   obtain rfl:ks=[]:=List.eq_nil_of_length_eq_zero hn
   have:op=1∨op=2∨op=3∨op=4:=by omega
   rcases this with rfl|rfl|rfl|rfl
   ·obtain ⟨rfl,rfl⟩:=names_none hnm (by decide) (by decide)
    obtain rfl:=values_yes hv (by decide)
    have ht:textAt toks u=intF num:=hA.head.2.1
    have h0:0≤num:=by
     simp only [valuesB,if_pos,Bool.and_eq_true,decide_eq_true_eq] at hv
     exact hv.1.1
    obtain ⟨m,rfl⟩:=Int.eq_ofNat_of_zero_le h0
    show ((CE.num).pe toks u).z.noat=_
    rw [CE.pe,ht,intF_nat,decV_decF]
    rfl
   ·obtain ⟨rfl,rfl⟩:=names_none hnm (by decide) (by decide)
    obtain rfl:=values_num hv (by decide)
    have ht:textAt toks u=if yes=true then tTrue else tFalse:=hA.head.2.1
    show ((CE.truth).pe toks u).z.noat=_
    rw [CE.pe,ht]
    cases yes <;> rfl
   ·obtain rfl:=names_mod hnm (by decide)
    obtain rfl:=values_num hv (by decide)
    obtain rfl:=values_yes hv (by decide)
    have ht:textAt toks u=nm:=hA.head.2.1
    show ((CE.nam).pe toks u).z.noat=_
    rw [CE.pe,ht]
    rfl
   ·obtain ⟨rfl,rfl⟩:=names_none hnm (by decide) (by decide)
    obtain rfl:=values_num hv (by decide)
    obtain rfl:=values_yes hv (by decide)
    show ((CE.res).pe toks u).z.noat=_
    rw [CE.pe]
    rfl
  | one h =>
   obtain ⟨a,rfl⟩:=len1 hn
   have ha:=ih a (by simp)
   obtain ⟨rfl,rfl⟩:=names_none hnm (by omega) (by omega)
   obtain rfl:=values_num hv (by omega)
   obtain rfl:=values_yes hv (by omega)
   rcases h with rfl|rfl
   ·have hA':AtP toks u (sgnP [45] :: parQ 9 (a.op,a.pcs)):=hA
    have ht:textAt toks u=[45]:=hA'.head.2.1
    have h9:=(ha.par 9).2 _ hA'.tail
    show ((CE.un (parC 9 (a.op,a.ce))).pe toks u).z.noat=_
    rw [CE.pe,ht,PE.z,zsE,zsE,PZ.noat,noatZ,noatZ,h9]
    rfl
   ·have hA':AtP toks u (wordP tNot :: spP (parQ 4 (a.op,a.pcs))):=hA
    have ht:textAt toks u=tNot:=hA'.head.2.1
    have h9:=(ha.par 4).sp.2 _ hA'.tail
    show ((CE.un (parC 4 (a.op,a.ce))).pe toks u).z.noat=_
    rw [CE.pe,ht,PE.z,zsE,zsE,PZ.noat,noatZ,noatZ,h9]
    rfl
  | two h1 h2 =>
   obtain ⟨a,b,rfl⟩:=len2 hn
   obtain ⟨rfl,rfl⟩:=names_none hnm (by omega) (by omega)
   obtain rfl:=values_num hv (by omega)
   obtain rfl:=values_yes hv (by omega)
   have e1:∀ k:Int,(k≤6∨21≤k)→¬ op=k:=fun k hk q=>by omega
   have p:showQ op [] [] 0 false (pcsZ [a,b])=parQ (firstZ op) (a.op,a.pcs)++(spP [sgnP (signZ op)]++spP (parQ (thenZ op) (b.op,b.pcs))):=by
    simp only [showQ]
    rw [if_neg (e1 1 (by omega)),if_neg (e1 2 (by omega)),if_neg (e1 3 (by omega)),if_neg (e1 4 (by omega)),if_neg (e1 5 (by omega)),if_neg (e1 6 (by omega)),if_neg (e1 21 (by omega)),if_neg (e1 22 (by omega)),if_neg (e1 23 (by omega)),if_neg (e1 24 (by omega))]
    rfl
   have q:ceF op [] (cesZ [a,b])=.bin (parC (firstZ op) (a.op,a.ce)) (parC (thenZ op) (b.op,b.ce)):=by
    simp only [ceF]
    rw [if_neg (e1 1 (by omega)),if_neg (e1 2 (by omega)),if_neg (e1 3 (by omega)),if_neg (e1 4 (by omega)),if_neg (e1 5 (by omega)),if_neg (e1 6 (by omega)),if_neg (e1 21 (by omega)),if_neg (e1 22 (by omega)),if_neg (e1 23 (by omega)),if_neg (e1 24 (by omega))]
    rfl
   rw [p] at hA
   rw [q]
   have ha:=(ih a (by simp)).par (firstZ op)
   have hb:=((ih b (by simp)).par (thenZ op)).sp
   have x1:=ha.2 _ hA.left
   have A1:=hA.right
   have ht:textAt toks (u+(parQ (firstZ op) (a.op,a.pcs)).length)=signZ op:=A1.left.sp.head.2.1
   have A2:=A1.right
   rw [sp_len,List.length_singleton] at A2
   have x2:=hb.2 _ A2
   rw [CE.pe,ha.1,ht,PE.z,zsE,zsE,zsE,PZ.noat,noatZ,noatZ,noatZ,x1,x2,sign_idx h1 h2]
   rfl
  | iff =>
   obtain ⟨a,b,c,rfl⟩:=len3 hn
   obtain ⟨rfl,rfl⟩:=names_none hnm (by decide) (by decide)
   obtain rfl:=values_num hv (by decide)
   obtain rfl:=values_yes hv (by decide)
   have hA':AtP toks u (wordP tIf :: (spP a.pcs++spP [wordP tThen]++spP b.pcs++spP [wordP tElse]++spP c.pcs)):=hA
   simp only [List.append_assoc] at hA'
   have ha:=(ih a (by simp)).sp
   have hb:=(ih b (by simp)).sp
   have hc:=(ih c (by simp)).sp
   have A1:=hA'.tail
   have A2:=A1.right.right
   have A3:=A2.right.right
   have x1:=ha.2 _ A1.left
   have x2:=hb.2 _ A2.left
   have x3:=hc.2 _ A3
   have l1:=ha.1
   have l2:=hb.1
   rw [sp_len [wordP tThen],List.length_singleton,← l1] at x2
   rw [sp_len [wordP tThen],List.length_singleton,sp_len [wordP tElse],List.length_singleton,← l1,← l2] at x3
   show ((CE.iff a.ce b.ce c.ce).pe toks u).z.noat=_
   rw [CE.pe,PE.z,zsE,zsE,zsE,zsE,PZ.noat,noatZ,noatZ,noatZ,noatZ,x1,x2,x3]
   rfl
  | lett =>
   obtain ⟨a,b,rfl⟩:=len2 hn
   obtain rfl:=names_mod hnm (by decide)
   obtain rfl:=values_num hv (by decide)
   obtain rfl:=values_yes hv (by decide)
   have hA':AtP toks u (wordP tLet :: (spP [wordP nm]++spP [sgnP [61]]++spP a.pcs++spP [wordP tIn]++spP b.pcs)):=hA
   simp only [List.append_assoc] at hA'
   have ha:=(ih a (by simp)).sp
   have hb:=(ih b (by simp)).sp
   have A1:=hA'.tail
   have ht:textAt toks (u+1)=nm:=A1.left.sp.head.2.1
   have A2:=A1.right.right
   have A3:=A2.right.right
   have x1:=ha.2 _ A2.left
   have x2:=hb.2 _ A3
   have l1:=ha.1
   rw [sp_len [wordP nm],List.length_singleton,sp_len [sgnP [61]],List.length_singleton] at x1 x2
   rw [sp_len [wordP tIn],List.length_singleton,← l1] at x2
   show ((CE.lett a.ce b.ce).pe toks u).z.noat=_
   rw [CE.pe,ht,PE.z,zsE,zsE,zsE,PZ.noat,noatZ,noatZ,noatZ,show u+3=u+1+1+1 by omega,x1,x2]
   rfl
  | asrt =>
   obtain ⟨a,b,rfl⟩:=len2 hn
   obtain ⟨rfl,rfl⟩:=names_none hnm (by decide) (by decide)
   obtain rfl:=values_num hv (by decide)
   obtain rfl:=values_yes hv (by decide)
   have hA':AtP toks u (wordP tAssert :: (spP a.pcs++spP [wordP tIn]++spP b.pcs)):=hA
   simp only [List.append_assoc] at hA'
   have ha:=(ih a (by simp)).sp
   have hb:=(ih b (by simp)).sp
   have A1:=hA'.tail
   have A2:=A1.right.right
   have x1:=ha.2 _ A1.left
   have x2:=hb.2 _ A2
   have l1:=ha.1
   rw [sp_len [wordP tIn],List.length_singleton,← l1] at x2
   show ((CE.asrt a.ce b.ce).pe toks u).z.noat=_
   rw [CE.pe,PE.z,zsE,zsE,zsE,PZ.noat,noatZ,noatZ,noatZ,x1,x2]
   rfl
  | call h8 =>
   obtain rfl:=values_num hv (by decide)
   obtain rfl:=values_yes hv (by decide)
   have hm:(pcsZ ks).map Prod.snd=ks.map PZ.pcs∧(cesZ ks).map Prod.snd=ks.map PZ.ce:=by rw [pcsZ_map,cesZ_map];simp
   have hA':AtP toks u ((if md=[] then [] else [wordP md,sgnP [46]])++([wordP nm,sgnP [40]]++(commaQ (ks.map PZ.pcs)++[sgnP [41]]))):=by rw [← hm.1];exact hA
   show ((CE.call (decide (md≠[])) ((cesZ ks).map Prod.snd)).pe toks u).z.noat=_
   rw [hm.2,CE.pe]
   by_cases q:md=[]
   ·subst q
    rw [if_pos rfl,List.nil_append] at hA'
    have ht:textAt toks u=nm:=hA'.left.head.2.1
    have x:=args_rd ks ih _ hA'.right.left
    rw [if_neg (by decide),ht,PE.z,zsE_map,PZ.noat,noatZ_map,List.map_map]
    rw [← x]
    rfl
   ·rw [if_neg q] at hA'
    have ht:textAt toks u=md:=hA'.left.head.2.1
    have A1:=hA'.right
    have ht2:textAt toks (u+2)=nm:=A1.left.head.2.1
    have x:=args_rd ks ih _ A1.right.left
    rw [if_pos (by simpa using q),ht,ht2,PE.z,zsE_map,PZ.noat,noatZ_map,List.map_map]
    rw [← x]
    rfl
theorem peekF_at {toks:List Tok}{u:Nat}(h:u<toks.length):peekF toks u=toks[u]:=by
 unfold peekF
 rw [Nat.min_eq_left (by omega),List.getD_eq_getElem?_getD,List.getElem?_eq_getElem h]
 rfl
theorem atP_pieces (l:List Pc)(p:Nat)(t:Tok):AtP (toksP p l++[t]) 0 l:=by
 have hl:=toksP_len l p
 refine ⟨by simp [hl],fun i hi=>?_⟩
 rw [Nat.zero_add]
 obtain ⟨q,ld,e⟩:=toksP_get l p i hi
 have hp:=peekF_at (toks:=toksP p l++[t]) (u:=i) (by simp [hl];omega)
 have he:(toksP p l++[t])[i]'(by simp [hl];omega)=⟨l[i].kind,ld,l[i].text,q⟩:=by
  rw [List.getElem_append_left (by omega)]
  have:=(List.getElem?_eq_some_iff.1 e).2
  exact this
 unfold kindAt textAt
 rw [hp,he]
 exact ⟨rfl,rfl⟩
theorem kind_end (l:List Pc)(p:Nat)(t:Tok):kindAt (toksP p l++[t]) l.length=t.kind:=by
 have hl:=toksP_len l p
 unfold kindAt
 rw [peekF_at (by simp [hl]),List.getElem_append_right (by omega)]
 simp [hl]
theorem plain_len {w:List UInt8}(h:plainB w=true):w.length≤40:=by
 have:=plain_name h
 simp only [nameB,Bool.and_eq_true,decide_eq_true_eq] at this
 exact this.1.2
theorem names_len {op:Int}{nm md:List UInt8}(h:namesB op nm md=true):nm.length≤40∧md.length≤40:=by
 unfold namesB at h
 split at h
 ·rw [Bool.and_eq_true,decide_eq_true_eq] at h
  exact ⟨plain_len h.1,by rw [h.2];simp⟩
 ·split at h
  ·rw [Bool.and_eq_true,Bool.or_eq_true,decide_eq_true_eq] at h
   refine ⟨plain_len h.1,?_⟩
   rcases h.2 with q|q
   ·rw [q];simp
   ·exact plain_len q
  ·rw [Bool.and_eq_true,decide_eq_true_eq,decide_eq_true_eq] at h
   rw [h.1,h.2]
   simp
theorem intF_zlen:(intF 0).length=1:=by
 have:intF (0:Nat)=decF 0:=intF_nat 0
 rw [show (0:Int)=((0:Nat):Int) from rfl,this,decF,dif_pos (by omega)]
 rfl
theorem values_len {op num:Int}{yes:Bool}(h:valuesB op num yes=true):(intF num).length≤60:=by
 by_cases q:op=1
 ·unfold valuesB at h
  rw [if_pos q,Bool.and_eq_true,Bool.and_eq_true,decide_eq_true_eq,decide_eq_true_eq] at h
  exact h.1.2
 ·rw [values_num h q,intF_zlen];omega
theorem count_len {op:Int}{n:Nat}(h1:1≤op)(h2:op≤24)(h:countB op n=true):n≤8:=by
 unfold countB at h
 repeat' split at h
 all_goals (rw [decide_eq_true_eq] at h;omega)
theorem showF_short (op:Int)(nm md:List UInt8)(num:Int)(yes:Bool)(ks:List (Int × List UInt8))(h1:nm.length≤40)(h2:md.length≤40)(h3:(intF num).length≤60)(h4:ks.length≤8):(showF op nm md num yes ks).length≤sumT ks+200:=by
 have h5:=sumT_three ks
 have h6:=commaZ_len ks
 have h7:=signZ_len op
 have p1:=parZ_len 9 (ks.getD 0 (0,[]))
 have p2:=parZ_len 4 (ks.getD 0 (0,[]))
 have p3:=parZ_len (firstZ op) (ks.getD 0 (0,[]))
 have p4:=parZ_len (thenZ op) (ks.getD 1 (0,[]))
 have hm:(if md=[] then [] else md++[46]).length≤41:=by
  split
  ·simp
  ·simp only [List.length_append,List.length_cons,List.length_nil];omega
 unfold showF
 generalize (if md=[] then [] else md++[46])=mm at hm ⊢
 repeat' split
 all_goals ((try simp only [List.length_append,List.length_cons,List.length_nil]);omega)
mutual
theorem PZ.text_short {fm:Bool}:∀ e:PZ,e.right fm=true→e.text.length≤200 * e.size
 | .mk op nm md num yes kids at_,h=>by
  have R:=PZ.rightZ h
  have hn:=names_len R.names
  have hv:=values_len R.values
  have hc:=count_len R.op1 R.op24 R.count
  simp only [PZ.name,PZ.module,PZ.num,PZ.kids] at hn hv hc
  have hs:=textsZ_short kids (rightsZ_all.2 R.kids)
  have hl:(textsZ kids).length=kids.length:=by rw [textsZ_map,List.length_map]
  have:=showF_short op nm md num yes (textsZ kids) hn.1 hn.2 hv (by omega)
  rw [PZ.text,PZ.size]
  omega
theorem textsZ_short {fm:Bool}:∀ l:List PZ,rightsZ fm l=true→sumT (textsZ l)≤200 * sizeZ l
 | [],_=>by simp [textsZ,sumT]
 | e :: l,h=>by
  rw [rightsZ,Bool.and_eq_true] at h
  have h1:=PZ.text_short e h.1
  have h2:=textsZ_short l h.2
  rw [textsZ,sumT,sizeZ]
  simp only
  omega
end
theorem bothF_short {fm:Bool}{t:List CellZ}{e:PZ}(h:bothF t=some e)(hr:e.right fm=true):e.text.length≤6000:=by
 have h1:=PZ.text_short e hr
 have h2:=bothF_size h
 omega
mutual
def PZ.toE:PZ→PE
 | .mk op nm md num yes kids _=>.mk op.toNat nm md num (intF num) yes (toEs kids) 0
def toEs:List PZ→List PE
 | []=>[]
 | e :: l=>e.toE :: toEs l
end
mutual
theorem PZ.toE_z {fm:Bool}:∀ e:PZ,e.right fm=true→e.toE.z=e.noat
 | .mk op nm md num yes kids at_,h=>by
  have R:=PZ.rightZ h
  have h1:1≤op:=R.op1
  rw [PZ.toE,PE.z,PZ.noat,toEs_z kids (rightsZ_all.2 R.kids),Int.toNat_of_nonneg (by omega)]
  rfl
theorem toEs_z {fm:Bool}:∀ l:List PZ,rightsZ fm l=true→zsE (toEs l)=noatZ l
 | [],_=>rfl
 | e :: l,h=>by
  rw [rightsZ,Bool.and_eq_true] at h
  rw [toEs,zsE,noatZ,PZ.toE_z e h.1,toEs_z l h.2]
end
mutual
theorem dump_noat:∀ {x y:PE},x.z.noat=y.z.noat→x.dump=y.dump
 | .mk op nm md num txt yes kids a,.mk op' nm' md' num' txt' yes' kids' a',h=>by
  rw [PE.z,PE.z,PZ.noat,PZ.noat] at h
  injection h with h1 h2 h3 h4 h5 h6 _
  obtain rfl:op=op':=by omega
  subst h2 h3 h4 h5
  rw [PE.dump,PE.dump,dumpE_noat h6]
theorem dumpE_noat:∀ {x y:List PE},noatZ (zsE x)=noatZ (zsE y)→dumpE x=dumpE y
 | [],[],_=>rfl
 | [],y :: l,h=>by rw [zsE,zsE,noatZ,noatZ] at h;cases h
 | x :: k,[],h=>by rw [zsE,zsE,noatZ,noatZ] at h;cases h
 | x :: k,y :: l,h=>by
  rw [zsE,zsE,noatZ,noatZ] at h
  injection h with h1 h2
  rw [dumpE,dumpE,dump_noat h1,dumpE_noat h2]
end
mutual
theorem PZ.noat_fit:∀ e:PZ,e.noat.fit↔e.fit
 | .mk op nm md num yes kids _=>by
  rw [PZ.noat,PZ.fit,PZ.fit,noatZ_fit kids,noatZ_map,List.length_map]
theorem noatZ_fit:∀ l:List PZ,fitZ (noatZ l)↔fitZ l
 | []=>by rw [noatZ]
 | e :: l=>by rw [noatZ,fitZ,fitZ,noatZ_fit l,PZ.noat_fit e]
end
mutual
theorem PZ.noat_size:∀ e:PZ,e.noat.size=e.size
 | .mk op nm md num yes kids _=>by rw [PZ.noat,PZ.size,PZ.size,noatZ_size kids]
theorem noatZ_size:∀ l:List PZ,sizeZ (noatZ l)=sizeZ l
 | []=>by rw [noatZ]
 | e :: l=>by rw [noatZ,sizeZ,sizeZ,noatZ_size l,PZ.noat_size e]
end
mutual
theorem PZ.noat_id:∀ e:PZ,e.noat.noat=e.noat
 | .mk op nm md num yes kids _=>by rw [PZ.noat,PZ.noat,noatZ_id kids]
theorem noatZ_id:∀ l:List PZ,noatZ (noatZ l)=noatZ l
 | []=>rfl
 | e :: l=>by rw [noatZ,noatZ,noatZ_id l,PZ.noat_id e]
end
end Go.Proofs.YtdednahplodojaaGreatDoor

namespace Go.Proofs.YtdednahplodojaaGreatDoor
open Go.RowKit Go
theorem dumpX_any {M:Nat}(x:PE)(hf:x.fits M)(B:Nat)(am:Option Addr)(wn cm:Nat)(ae:Option Addr)(ce:Nat)(w:World)(h:EAt XA (fun b=>b<B) w (.slice am wn cm) (.slice ae x.kids.length ce) x)(hB:B≤w.heap.size)(hd:x.dump.length≤1099511627776)(hz:x.size≤1099511627776) :
  Calls Tryz.prog 25 #[.agg #[.int .i64 x.op,.string ⟨x.name.toArray⟩,.string ⟨x.module.toArray⟩,.bool (decide (x.num<0)),.slice am wn cm,.bool x.yes,.slice ae x.kids.length ce,.int .i64 x.at_]] w (StrPost x.dump w):=by
 have hbb:=(below_new w (.cells (boxA x.op ⟨x.name.toArray⟩ ⟨x.module.toArray⟩ (decide (x.num<0)) (.slice am wn cm) x.yes (.slice ae x.kids.length ce) x.at_) 40))
 have hbd:=Bld.fresh (T:=99) (w.alloc (.cells (boxA x.op ⟨x.name.toArray⟩ ⟨x.module.toArray⟩ (decide (x.num<0)) (.slice am wn cm) x.yes (.slice ae x.kids.length ce) x.at_) 40))
 rw [World.size_alloc] at hbd
 have hb2:=hbb.alloc hbb.size (.cells #[.pointer none,.slice none 0 0] 99)
 have hbox:=(Lib.alloc_old _ (.cells #[.pointer none,.slice none 0 0] 99) w.heap.size (by simp)).trans (heap_alloc_new w (.cells (boxA x.op ⟨x.name.toArray⟩ ⟨x.module.toArray⟩ (decide (x.num<0)) (.slice am wn cm) x.yes (.slice ae x.kids.length ce) x.at_) 40))
 have hHD:=fun W hW hWB=>edump_any (SizeOf.sizeOf x+1) x (by omega) hf B (w.heap.size+1) (w.heap.size+1) am wn cm ae ce [] W hW (by omega) hWB
 have HD:=Lib.hid hHD
 have HE:=Lib.hid (fun W (hW:Below w.heap.size w W)=>EAt.frame (Alk.ofB hW (fun b hb=>by omega)) h)
 have hs2:w.heap.size+1≤((w.alloc (.cells (boxA x.op ⟨x.name.toArray⟩ ⟨x.module.toArray⟩ (decide (x.num<0)) (.slice am wn cm) x.yes (.slice ae x.kids.length ce) x.at_) 40)).alloc (.cells #[.pointer none,.slice none 0 0] 99)).heap.size:=by simp
 clear hbb hHD h
 go_enter Tryz.func25,Tryz.ntmps25
 go_upto_region 2 with fail
 change Code.wp _ _ _ _ ((w.alloc (.cells (boxA x.op ⟨x.name.toArray⟩ ⟨x.module.toArray⟩ (decide (x.num<0)) (.slice am wn cm) x.yes (.slice ae x.kids.length ce) x.at_) 40)).alloc (.cells #[.pointer none,.slice none 0 0] 99))
 generalize (w.alloc _).alloc _=w2 at hbd hb2 hbox hs2 ⊢
 obtain ⟨y0,y1,y2,y3,y4,y5,y6,y7⟩:=boxA_cells hbox
 have HC:=Lib.hid (HD.out w2 (HE.out w2 hb2) hbd hs2 (by simpa using hd) hz)
 clear hbd hbox HD HE
 go_wp2_with (first|(go_at_call 54;refine HC.out.mono ?_;rintro e w3 ⟨rfl,hbd3,hl3,ho3⟩;rw [List.nil_append] at hbd3;have hz3:=hl3.size)|(go_at_call 40;refine (bstring_any _ _ x.dump _ hbd3 (by omega)).mono ?_;rintro e w4 ⟨rfl,hbd4,hl4,ho4⟩))
 go_ret
 exact ⟨rfl,hb2.trans ((hl3.trans hl4).mono (by omega))⟩
end Go.Proofs.YtdednahplodojaaGreatDoor
