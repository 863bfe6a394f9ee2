/- Walks and plain laws: ProgTree2, LexNums, GoodLaws, ProgPE, OfL. -/
import Derived.Test.YtemkhbmkaalgdaaGreatDoorQ05
set_option maxHeartbeats 16000000
set_option maxRecDepth 100000
namespace Go.Proofs.YtemkhbmkaalgdaaGreatDoor
def okL {α:Type}(P:α→Nat→Prop)(T:α→PT):Nat→List α→Prop
 | _,[]=>True
 | u,a :: l=>P a u∧okL P T (u+(T a).lv) l
theorem sev_ok {α:Type}{toks:List Tok}{one:PSt→Option (Int × PSt)}{first:List (List UInt8)}(T:α→PT)(P:α→Nat→Prop)
  (hone:∀ s k,one s=some k→k.2.fE=0→nextF toks s first=true→s.clause=false→∃ a,ResP toks s k (T a)∧P a s.used) (hx:∀ s k,one s=some k→PExt s k.2) :
  ∀ (r:Nat) (kids:List Int) (st:PSt) (l:List Int × PSt),sevM toks one first r kids st=some l→l.2.fE=0→st.clause=false →
   ∃ as:List α,as.length≤r∧Grew st (as.map T) l.2∧l.1=kids++idsL st.nodes.length (as.map T)∧okL P T st.used as∧(st.used<toks.length→l.2.used<toks.length)
 | 0,kids,st,l,h,hl,_=>by
  rw [sevM] at h
  obtain rfl:=Option.some.inj h
  have hl:(if st.fE=0∧nextF toks st first=true then failM toks 15 st else st).fE=0:=hl
  split at hl
  ·exact (fail_no (by decide) hl).elim
  ·rename_i hc
   refine ⟨[],by simp,?_,by simp [idsL],trivial,?_⟩
   ·show Grew st [] (if _ then _ else _)
    rw [if_neg hc]
    exact Grew.nil st
   ·show _→(if _ then _ else _:PSt).used<_
    rw [if_neg hc]
    exact id
 | r+1,kids,st,l,h,hl,hc0=>by
  rw [sevM] at h
  split at h
  ·rename_i hc
   obtain ⟨k,hk,h⟩:=Option.bind_eq_some_iff.1 h
   have hz:=(sevM_ext hx r _ _ _ h).zero hl
   obtain ⟨a,⟨g1,i1,u1⟩,p1⟩:=hone _ _ hk hz hc.2 hc0
   obtain ⟨as,h1,h2,h3,h4,h5⟩:=sev_ok T P hone hx r _ _ _ h hl (by rw [g1.clause];exact hc0)
   have n1:=g1.len
   have s1:=g1.used
   simp only [ndL,lvL,Nat.add_zero] at n1 s1
   refine ⟨a :: as,by simpa using h1,?_,?_,⟨p1,by rw [← s1];exact h4⟩,fun q=>h5 (u1 q)⟩
   ·exact g1.append h2
   ·rw [h3,List.map_cons,idsL,i1,n1,List.append_assoc]
    rfl
  ·obtain rfl:=Option.some.inj h
   exact ⟨[],by simp,Grew.nil st,by simp [idsL],trivial,id⟩
theorem import_ok {toks:List Tok}(hE:EndOk toks)(st:PSt)(k:Int × PSt)(h:(fun s=>some (importM toks s)) st=some k)(hf:k.2.fE=0)(hn:nextF toks st [tImport]=true):∃ _:Unit,ResP toks st k impPT∧(textAt toks st.used=tImport∧kindAt toks (st.used+1)=1):=by
 obtain rfl:=Option.some.inj h
 have z1:=node_fE (k:=2) (show (nodeM 2 _ _).2.fE=0 from hf)
 obtain ⟨m1,m2,m3,m4,m5⟩:=must_ok hE z1
 obtain ⟨k1,k2,k3,k4,k5⟩:=kind_ok hE (by decide) m5
 obtain ⟨l1,l2,l3⟩:=leaf_ok hE (next_kind hn)
 have u1:=l1.used
 simp only [lvL,PT.lv] at u1
 have ig:IG st _ _ _:=((IG.leaf l1 l2).append (IG.leaf k1 k2)).append (IG.leaf m1 m2)
 refine ⟨(),?_,by simpa using next_text hn,by rw [u1] at k3;exact k3⟩
 exact ig.1.resP (k:=2) ig.2 hf (fun _=>by have:=m1.used;simp only [lvL,PT.lv] at this;omega)
theorem map_unit {β:Type}(c:β):∀ l:List Unit,l.map (fun _=>c)=List.replicate l.length c
 | []=>rfl
 | _ :: l=>by rw [List.map_cons,map_unit c l];rfl
theorem imps_of {toks:List Tok}:∀ (l:List Unit) (u:Nat),okL (fun (_:Unit) u=>textAt toks u=tImport∧kindAt toks (u+1)=1) (fun _=>impPT) u l→impsOk toks u l.length
 | [],_,_=>trivial
 | _ :: l,_u,h=>⟨h.1.1,h.1.2,imps_of l _ h.2⟩
theorem defs_of {toks:List Tok}:∀ (l:List DfS) (u:Nat),okL (fun (d:DfS) u=>d.ok toks u) DfS.pt u l→defsOk toks u l
 | [],_,_=>trivial
 | _ :: l,_,h=>⟨h.1,defs_of l _ h.2⟩
theorem imps_lv:∀ n,lvL (List.replicate n impPT)=3 * n
 | 0=>rfl
 | n+1=>by
  rw [List.replicate_succ,lvL,imps_lv n]
  simp only [impPT,PT.lv,lvL]
  omega
theorem prog_ok {T:List UInt8}{p:Nat}{toks:List Tok}(hL:Laid T p toks){d g:Nat}{r:Int × PSt}(h:progM toks d g startP=some r)(hf:r.2.fE=0) :
  ∃ q:PgS,r.2.nodes=q.pt.em 0 0∧q.ok toks∧q.pt.lv=toks.length:=by
 have hE:=hL.endOk
 unfold progM at h
 obtain ⟨a,h1,h⟩:=Option.bind_eq_some_iff.1 h
 obtain ⟨b,h2,h⟩:=Option.bind_eq_some_iff.1 h
 obtain rfl:=Option.some.inj h
 have hk:=node_fE hf
 have hb:=(kindM_ext toks 5 b.2).zero hk
 have ha:=(sevM_ext defM_ext _ _ _ _ h2).zero hb
 obtain ⟨us,i1,i2,i3,i4,i5⟩:=sev_ok (toks:=toks) (fun _:Unit=>impPT) (fun _ u=>textAt toks u=tImport∧kindAt toks (u+1)=1) (fun s k e1 e2 e3 _=>import_ok hE s k e1 e2 e3) (importO_ext toks) 16 [] startP a h1 ha rfl
 obtain ⟨ds,d1,d2,d3,d4,d5⟩:=sev_ok (toks:=toks) DfS.pt (fun d u=>d.ok toks u) (fun s k e1 e2 _ e4=>def_ok hE s k e1 e2 e4) defM_ext 64 [] a.2 b h2 hb (by rw [i2.clause];rfl)
 rw [map_unit] at i2 i3
 have hu:a.2.used=3 * us.length:=by
  rw [i2.used,imps_lv]
  simp [startP]
 have hu':=d5 (i5 hL.some)
 have hku:kindM toks 5 b.2=leafM toks b.2∧kindAt toks b.2.used=5:=by
  unfold kindM at hk ⊢
  by_cases hc:b.2.fE=0∧(peekF toks b.2.used).kind=5
  ·rw [if_pos hc]
   exact ⟨rfl,hc.2⟩
  ·rw [if_neg hc] at hk
   exact (fail_no (by decide) hk).elim
 have hlast:=hL.last5 hu' hku.2
 obtain ⟨hl1,hl2⟩:=Grew.leaf (toks:=toks) (st:=b.2) (by omega)
 have e1:IG startP a.1 (List.replicate us.length impPT) a.2:=⟨i2,i3⟩
 have e2:IG a.2 b.1 (ds.map DfS.pt) b.2:=⟨d2,d3⟩
 have ig:=(e1.append e2).append (IG.leaf hl1 hl2)
 rw [hku.1] at hf hk ⊢
 have hn:=ig.1.node hk 1
 rw [← ig.2] at hn
 refine ⟨⟨us.length,ds⟩,?_,⟨i1,d1,?_,?_⟩,?_⟩
 ·have h18:=hn.1
  simp only [Int.cast_ofNat_Int] at h18
  rw [h18]
  simp [startP,emL,PgS.pt,PgS.kids]
 ·exact imps_of us 0 i4
 ·have:=defs_of ds _ d4
  rw [hu] at this
  exact this
 ·have:=ig.1.used
  rw [hl1.used] at this
  simp only [startP,lvL,PT.lv] at this
  simp only [PgS.pt,PT.lv,PgS.kids]
  rw [← List.append_assoc]
  omega
theorem wfL_app:∀ {l k:List PT},wfL l→wfL k→wfL (l++k)
 | [],k,_,h=>h
 | t :: l,k,h1,h2=>by
  rw [wfL] at h1
  rw [List.cons_append,wfL]
  exact ⟨h1.1,wfL_app h1.2 h2⟩
theorem wfL_map {α:Type}{T:α→PT}(h:∀ a,(T a).wf):∀ l:List α,wfL (l.map T)
 | []=>by rw [List.map_nil,wfL];trivial
 | a :: l=>by rw [List.map_cons,wfL];exact ⟨h a,wfL_map h l⟩
theorem wfL_sep:∀ {l:List PT},wfL l→wfL (sepPT l)
 | [],h=>by rw [sepPT];exact h
 | [t],h=>by rw [sepPT_one];exact h
 | t :: s :: l,h=>by
  rw [wfL] at h
  rw [sepPT_two,wfL,wfL,PT.wf]
  exact ⟨h.1,trivial,wfL_sep h.2⟩
theorem wfL_rep {t:PT}(h:t.wf):∀ n,wfL (List.replicate n t)
 | 0=>by rw [List.replicate_zero,wfL];trivial
 | n+1=>by rw [List.replicate_succ,wfL];exact ⟨h,wfL_rep h n⟩
theorem TyS.wf (t:TyS):wfL t.pts:=by
 unfold TyS.pts
 cases h:t.cl with
 | none=>simp [wfL,PT.wf]
 | some e=>simp [wfL,PT.wf,CE.wf e]
theorem TyS.parWf (t:TyS):t.par.wf:=by
 unfold TyS.par
 simp [wfL,PT.wf,t.wf]
theorem DfS.wf (d:DfS):d.pt.wf:=by
 rw [DfS.pt,PT.wf]
 refine ⟨by omega,by omega,?_⟩
 unfold DfS.kids DfS.lead
 refine wfL_app ?_ (wfL_app (by simp [wfL,PT.wf]) (wfL_app (wfL_sep (wfL_map TyS.parWf _)) (wfL_app (by simp [wfL,PT.wf]) (wfL_app d.ty.wf (by simp [wfL,PT.wf,CE.wf d.body])))))
 split <;> simp [wfL,PT.wf]
theorem PgS.wf (p:PgS):p.pt.wf:=by
 rw [PgS.pt,PT.wf]
 refine ⟨by omega,by omega,?_⟩
 unfold PgS.kids
 exact wfL_app (wfL_rep (by simp [impPT,wfL,PT.wf]) _) (wfL_app (wfL_map DfS.wf _) (by simp [wfL,PT.wf]))
theorem progF_good {S:List UInt8}{d:Nat}{toks:List Tok}{nodes:List Nd}(h:progF S d=.good toks nodes) :
  lexAll S=.ok toks∧∃ p:PgS,nodes=p.pt.em 0 0∧p.ok toks∧p.pt.lv=toks.length∧nodes.length≤2 * toks.length:=by
 unfold progF at h
 cases hl:lexAll S with
 | error x=>rw [hl] at h;cases h
 | ok l =>
  rw [hl] at h
  simp only at h
  have hL:=lexAll_laid hl
  obtain ⟨a,ha⟩:=progM_total hL.endOk d startP
  rw [ha] at h
  simp only [ofSt] at h
  split at h
  ·rename_i hf
   injection h with h1 h2
   subst h1
   obtain ⟨q,he,hok,hlv⟩:=prog_ok hL ha hf
   have h3:=progM_slk ha
   have h4:=progM_wth ha (Nat.zero_le _)
   unfold Slk at h3
   simp only [startP,List.length_nil] at h3
   exact ⟨rfl,q,by rw [← h2,he],hok,hlv,by rw [← h2];omega⟩
  ·cases h
theorem progF_bad {S:List UInt8}{d e a:Nat}(h:progF S d=.bad e a):e≠0:=by
 unfold progF at h
 cases hl:lexAll S with
 | error x =>
  rw [hl] at h
  injection h with h1 h2
  have:=(lexAll_fault hl).2
  omega
 | ok l =>
  rw [hl] at h
  simp only at h
  split at h
  ·injection h with h1 _;omega
  ·unfold ofSt at h
   split at h
   ·cases h
   ·rename_i hf
    injection h with h1 _
    omega
theorem progF_deeper {S:List UInt8}{d d':Nat}{toks:List Tok}{nodes:List Nd}(hdd:d≤d')(h:progF S d=.good toks nodes):progF S d'=.good toks nodes:=by
 unfold progF at h ⊢
 cases hl:lexAll S with
 | error x=>rw [hl] at h;cases h
 | ok l =>
  rw [hl] at h
  simp only at h ⊢
  cases hm:progM l d (gasA l) startP with
  | none=>rw [hm] at h;cases h
  | some st =>
   rw [hm] at h
   simp only at h
   have hs:st.2.fE=0:=by
    unfold ofSt at h
    split at h
    ·assumption
    ·cases h
   rw [progM_deeper hdd hm hs]
   exact h
def numTok (l:List UInt8):Prop:=digitsB l=true∧l≠[]∧l.length≤60∧(l.head?=some 48→l.length=1)
theorem digitB_nat (c:UInt8):digitB c=(decide (48≤c.toNat) && decide (c.toNat≤57)):=by
 unfold digitB
 rw [Bool.eq_iff_iff]
 simp only [Bool.and_eq_true,decide_eq_true_eq,UInt8.le_iff_toNat_le]
 exact Iff.rfl
theorem tokF_num (T:List UInt8)(h:(tokF T).1=3)(h0:(tokF T).2.2=0):numTok (T.take (tokF T).2.1):=by
 cases T with
 | nil=>simp [tokF] at h
 | cons c r =>
  rw [tokF] at h h0 ⊢
  by_cases hc:letterB c=true
  ·rw [if_pos hc] at h
   simp only [wordF] at h
   split at h
   ·cases h
   ·split at h <;> cases h
  ·rw [if_neg hc] at h h0 ⊢
   by_cases hd:digitB c=true
   ·rw [if_pos hd] at h h0 ⊢
    simp only [numF] at h h0 ⊢
    split at h
    ·cases h
    ·rename_i h60
     rw [if_neg h60]
     simp only
     have ht:(c :: r).take ((c :: r).takeWhile digitB).length=(c :: r).takeWhile digitB:=(List.prefix_iff_eq_take.1 (List.takeWhile_prefix _)).symm
     have hne:(c :: r).takeWhile digitB≠[]:=by rw [List.takeWhile_cons_of_pos hd];simp
     have hall:∀ x∈(c :: r).takeWhile digitB,digitB x=true:=fun x hx=>by
      have:=List.all_takeWhile (l:=c :: r) (p:=digitB)
      rw [List.all_eq_true] at this
      exact this x hx
     rw [ht]
     generalize (c :: r).takeWhile digitB=w at h60 hne hall
     refine ⟨?_,hne,by omega,fun q=>?_⟩
     ·rw [digitsB,List.all_eq_true]
      intro x hx
      rw [← digitB_nat]
      exact hall x hx
     ·rw [List.head?_eq_getElem?] at q
      have:=List.length_pos_iff.2 hne
      by_cases h1:1<w.length
      ·exact absurd (.inr ⟨h1,q⟩) h60
      ·omega
   ·rw [if_neg hd,symF] at h
    split at h <;> cases h
theorem lexF_nums:∀ (n:Nat) (T:List UInt8) (p:Nat) (l:List Tok),lexF n T p=.ok l→∀ t∈l,t.kind=3→numTok t.text
 | 0,T,p,l,h,t,ht,hk=>by rw [lexF] at h;cases h
 | n+1,T,p,l,h,t,ht,hk=>by
  rw [lexF] at h
  try simp only at h
  split at h
  ·cases h
  rename_i h0
  split at h
  ·injection h with h
   subst h
   rw [List.mem_singleton] at ht
   subst ht
   cases hk
  ·split at h
   ·cases h
   ·rename_i l' hl'
    injection h with h
    subst h
    rcases List.mem_cons.1 ht with rfl|ht
    ·exact tokF_num _ hk (by omega)
    ·exact lexF_nums n _ _ _ hl' t ht hk
theorem lexAll_nums {S:List UInt8}{l:List Tok}(h:lexAll S=.ok l):∀ t∈l,t.kind=3→numTok t.text:=by
 unfold lexAll at h
 split at h
 ·cases h
 ·exact lexF_nums _ _ _ _ h
theorem peek_mem {toks:List Tok}(h:0<toks.length)(u:Nat):peekF toks u∈toks:=by
 unfold peekF
 rw [List.getD_eq_getElem?_getD,List.getElem?_eq_getElem (by omega),Option.getD_some]
 exact List.getElem_mem _
theorem numTok.dec {l:List UInt8}(h:numTok l):decF (decV l)=l:=dec_text l h.1 h.2.1 h.2.2.2
theorem lexAll_numsOk {S:List UInt8}{l:List Tok}(h:lexAll S=.ok l):NumsOk l:=fun u hu =>
 (lexAll_nums h _ (peek_mem (lexAll_laid h).some u) hu).dec
theorem dec_two {n:Nat}(h:n<100):(decF n).length≤2:=by
 rw [decF]
 split
 ·simp
 ·rw [decF,dif_pos (by omega)]
  simp
mutual
theorem em_kinds:∀ (t:PT) (b u:Nat),t.wf→∀ n∈t.em b u,(0≤n.kind∧n.kind<100)∧(n.kind=19→(u:Int)≤n.tok∧n.tok<((u+t.lv:Nat):Int))
 | .leaf,b,u,_,n,h=>by
  rw [PT.em,List.mem_singleton] at h
  subst h
  rw [PT.lv]
  simp only
  omega
 | .node k l,b,u,hw,n,h=>by
  rw [PT.wf] at hw
  rw [PT.em,List.mem_append,List.mem_singleton] at h
  rcases h with h|h
  ·exact emL_kinds l b u hw.2.2 n h
  ·subst h
   simp only
   omega
theorem emL_kinds:∀ (l:List PT) (b u:Nat),wfL l→∀ n∈emL b u l,(0≤n.kind∧n.kind<100)∧(n.kind=19→(u:Int)≤n.tok∧n.tok<((u+lvL l:Nat):Int))
 | [],b,u,_,n,h=>by rw [emL] at h;cases h
 | t :: l,b,u,hw,n,h=>by
  rw [wfL] at hw
  rw [emL,List.mem_append] at h
  rw [lvL]
  rcases h with h|h
  ·have:=em_kinds t _ _ hw.1 n h
   exact ⟨this.1,fun q=>by have:=this.2 q;omega⟩
  ·have:=emL_kinds l _ _ hw.2 n h
   exact ⟨this.1,fun q=>by have:=this.2 q;omega⟩
end
mutual
theorem tdump_len {toks:List Tok}{M:Nat}(hM:∀ u,(textAt toks u).length≤M):∀ (t:PT) (u:Nat),t.wf→(t.dump toks u).length+1≤t.nd * (M+16)
 | .leaf,u,_=>by
  rw [PT.dump,leafDump,PT.nd,List.length_append]
  have:=hM u
  unfold textAt at this
  split <;> simp <;> omega
 | .node k l,u,hw=>by
  rw [PT.wf] at hw
  have h1:=tdumpL_len hM l u hw.2.2
  have h2:=dec_two (n:=k) (by omega)
  rw [PT.dump,PT.nd,Nat.succ_mul]
  simp only [List.length_append,List.length_cons,List.length_nil]
  omega
theorem tdumpL_len {toks:List Tok}{M:Nat}(hM:∀ u,(textAt toks u).length≤M):∀ (l:List PT) (u:Nat),wfL l→(dumpL toks u l).length≤ndL l * (M+16)
 | [],u,_=>by simp [dumpL]
 | t :: l,u,hw=>by
  rw [wfL] at hw
  have h1:=tdump_len hM t u hw.1
  have h2:=tdumpL_len hM l (u+t.lv) hw.2
  rw [dumpL,ndL,Nat.add_mul]
  simp only [List.length_append,List.length_cons,List.length_nil]
  omega
end
mutual
def PE.fits (M:Nat):PE→Prop
 | .mk op name module num txt _ kids _=>op<100∧name.length≤M∧module.length≤M∧txt.length≤M∧(intF num).length≤M∧num.natAbs<10 ^ 60∧fitsE M kids
def fitsE (M:Nat):List PE→Prop
 | []=>True
 | e :: l=>e.fits M∧fitsE M l
end
theorem decV_small {toks:List Tok}(hN:∀ t∈toks,t.kind=3→numTok t.text)(h0:0<toks.length){u:Nat}(hk:kindAt toks u=3):decV (textAt toks u)<10 ^ 60:=by
 have h:=hN _ (peek_mem h0 u) hk
 exact Nat.lt_of_lt_of_le (decV_lt _ h.1) (Nat.pow_le_pow_right (by omega) h.2.2.1)
mutual
theorem CE.fits {toks:List Tok}{M:Nat}(h0:0<toks.length)(hN:∀ t∈toks,t.kind=3→numTok t.text)(hM:∀ u,(textAt toks u).length≤M)(h1:1≤M){cl:Bool}:∀ (e:CE) (u:Nat),e.ok toks cl u→(e.pe toks u).fits M
 | .num,u,h=>by
  rw [CE.ok] at h
  rw [CE.pe,PE.fits,intF_nat,show decF (decV (textAt toks u))=textAt toks u from (hN _ (peek_mem h0 u) h).dec]
  have:=decV_small hN h0 h
  exact ⟨by omega,by simp,by simp,hM u,hM u,by omega,by rw [fitsE];trivial⟩
 | .truth,u,h=>by rw [CE.pe,PE.fits,fitsE];exact ⟨by omega,by simp,by simp,by simp,by simpa [intF,decF] using h1,by simp,trivial⟩
 | .res,u,h=>by rw [CE.pe,PE.fits,fitsE];exact ⟨by omega,by simp,by simp,by simp,by simpa [intF,decF] using h1,by simp,trivial⟩
 | .nam,u,h=>by rw [CE.pe,PE.fits,fitsE];exact ⟨by omega,hM u,by simp,by simp,by simpa [intF,decF] using h1,by simp,trivial⟩
 | .group e,u,h=>by
  rw [CE.ok] at h
  rw [CE.pe]
  exact CE.fits h0 hN hM h1 e _ h.2
 | .un e,u,h=>by
  rw [CE.ok] at h
  rw [CE.pe,PE.fits,fitsE,fitsE]
  exact ⟨by split <;> omega,by simp,by simp,by simp,by simpa [intF,decF] using h1,by simp,CE.fits h0 hN hM h1 e _ h.2,trivial⟩
 | .bin a b,u,h=>by
  rw [CE.ok] at h
  rw [CE.pe,PE.fits,fitsE,fitsE,fitsE]
  have hi:binL.idxOf (textAt toks (u+a.pt.lv))≤binL.length:=List.idxOf_le_length
  have hl:binL.length=14:=rfl
  exact ⟨by omega,by simp,by simp,by simp,by simpa [intF,decF] using h1,by simp,CE.fits h0 hN hM h1 a _ h.2.1,CE.fits h0 hN hM h1 b _ h.2.2,trivial⟩
 | .iff a b c,u,h=>by
  rw [CE.ok] at h
  rw [CE.pe,PE.fits,fitsE,fitsE,fitsE,fitsE]
  exact ⟨by omega,by simp,by simp,by simp,by simpa [intF,decF] using h1,by simp,CE.fits h0 hN hM h1 a _ h.2.1,CE.fits h0 hN hM h1 b _ h.2.2.1,CE.fits h0 hN hM h1 c _ h.2.2.2,trivial⟩
 | .lett a b,u,h=>by
  rw [CE.ok] at h
  rw [CE.pe,PE.fits,fitsE,fitsE,fitsE]
  exact ⟨by omega,hM _,by simp,by simp,by simpa [intF,decF] using h1,by simp,CE.fits h0 hN hM h1 a _ h.2.2.1,CE.fits h0 hN hM h1 b _ h.2.2.2,trivial⟩
 | .asrt a b,u,h=>by
  rw [CE.ok] at h
  rw [CE.pe,PE.fits,fitsE,fitsE,fitsE]
  exact ⟨by omega,by simp,by simp,by simp,by simpa [intF,decF] using h1,by simp,CE.fits h0 hN hM h1 a _ h.2.1,CE.fits h0 hN hM h1 b _ h.2.2,trivial⟩
 | .call q l,u,h=>by
  rw [CE.ok] at h
  rw [CE.pe]
  cases q with
  | true =>
   rw [if_pos rfl,PE.fits]
   exact ⟨by omega,hM _,hM _,by simp,by simpa [intF,decF] using h1,by simp,argsFits h0 hN hM h1 l _ h.2.2.2.2.2⟩
  | false =>
   rw [if_neg (by decide),PE.fits]
   exact ⟨by omega,hM _,by simp,by simp,by simpa [intF,decF] using h1,by simp,argsFits h0 hN hM h1 l _ h.2.2.2.2⟩
theorem argsFits {toks:List Tok}{M:Nat}(h0:0<toks.length)(hN:∀ t∈toks,t.kind=3→numTok t.text)(hM:∀ u,(textAt toks u).length≤M)(h1:1≤M){cl:Bool}:∀ (l:List CE) (u:Nat),argsOk toks cl u l→fitsE M (argsPE toks u l)
 | [],u,_=>by rw [argsPE,fitsE];trivial
 | e :: l,u,h=>by
  rw [argsOk] at h
  rw [argsPE,fitsE]
  exact ⟨CE.fits h0 hN hM h1 e _ h.1,argsFits h0 hN hM h1 l _ h.2⟩
end
theorem ndL_app (a b:List PT):ndL (a++b)=ndL a+ndL b:=ndL_append a b
mutual
def PE.sizeG:PE→Nat
 | .mk _ _ _ _ _ _ kids _=>1+sizeGE kids
def sizeGE:List PE→Nat
 | []=>0
 | e :: l=>e.sizeG+sizeGE l
end
mutual
theorem CE.sizeG_le (toks:List Tok):∀ (e:CE) (u:Nat),(e.pe toks u).sizeG≤e.pt.nd
 | .num,u=>by simp [CE.pe,PE.sizeG,sizeGE,CE.pt,PT.nd,ndL]
 | .truth,u=>by simp [CE.pe,PE.sizeG,sizeGE,CE.pt,PT.nd,ndL]
 | .res,u=>by simp [CE.pe,PE.sizeG,sizeGE,CE.pt,PT.nd,ndL]
 | .nam,u=>by simp [CE.pe,PE.sizeG,sizeGE,CE.pt,PT.nd,ndL]
 | .group e,u=>by
  have:=CE.sizeG_le toks e (u+1)
  simp only [CE.pe,CE.pt,PT.nd,ndL]
  omega
 | .un e,u=>by
  have:=CE.sizeG_le toks e (u+1)
  simp only [CE.pe,PE.sizeG,sizeGE,CE.pt,PT.nd,ndL]
  omega
 | .bin a b,u=>by
  have h1:=CE.sizeG_le toks a u
  have h2:=CE.sizeG_le toks b (u+a.pt.lv+1)
  simp only [CE.pe,PE.sizeG,sizeGE,CE.pt,PT.nd,ndL]
  omega
 | .iff a b c,u=>by
  have h1:=CE.sizeG_le toks a (u+1)
  have h2:=CE.sizeG_le toks b (u+1+a.pt.lv+1)
  have h3:=CE.sizeG_le toks c (u+1+a.pt.lv+1+b.pt.lv+1)
  simp only [CE.pe,PE.sizeG,sizeGE,CE.pt,PT.nd,ndL]
  omega
 | .lett a b,u=>by
  have h1:=CE.sizeG_le toks a (u+3)
  have h2:=CE.sizeG_le toks b (u+3+a.pt.lv+1)
  simp only [CE.pe,PE.sizeG,sizeGE,CE.pt,PT.nd,ndL]
  omega
 | .asrt a b,u=>by
  have h1:=CE.sizeG_le toks a (u+1)
  have h2:=CE.sizeG_le toks b (u+1+a.pt.lv+1)
  simp only [CE.pe,PE.sizeG,sizeGE,CE.pt,PT.nd,ndL]
  omega
 | .call q l,u=>by
  have h:∀ u,sizeGE (argsPE toks u l)≤ndL (argsPT l):=fun u=>argsSizeG_le toks l u
  cases q with
  | true =>
   have:=h (u+4)
   simp only [CE.pe,if_pos,PE.sizeG,CE.pt,PT.nd,ndL_app,ndL]
   omega
  | false =>
   have:=h (u+2)
   simp only [CE.pe,PE.sizeG,CE.pt,PT.nd,ndL_app,ndL,Bool.false_eq_true,if_false]
   omega
theorem argsSizeG_le (toks:List Tok):∀ (l:List CE) (u:Nat),sizeGE (argsPE toks u l)≤ndL (argsPT l)
 | [],u=>by simp [argsPE,sizeGE]
 | [e],u=>by
  have:=CE.sizeG_le toks e u
  simp only [argsPE,sizeGE,argsPT_one,ndL]
  omega
 | e :: f :: l,u=>by
  have h1:=CE.sizeG_le toks e u
  have h2:=argsSizeG_le toks (f :: l) (u+e.pt.lv+1)
  rw [argsPE,sizeGE,argsPT_two,ndL,ndL]
  simp only [PT.nd]
  omega
end
theorem head_len {op:Nat}{nm md nu:List UInt8}{ys:Bool}{M:Nat}(h1:op<100)(h2:nm.length≤M)(h3:md.length≤M)(h4:nu.length≤M):(headF op nm md nu ys).length≤3 * M+20:=by
 have:=dec_two h1
 unfold headF
 simp only [List.length_append,List.length_cons,List.length_nil]
 split <;> split <;> split <;> (try split) <;> (try split) <;> simp <;> omega
mutual
theorem dumpT_len {M:Nat}:∀ (e:PE),e.fits M→e.dumpT.length+1≤e.sizeG * (3 * M+30)
 | .mk op name module num txt yes kids a,h=>by
  rw [PE.fits] at h
  have h1:=dumpTE_len kids h.2.2.2.2.2.2
  have h2:=head_len (ys:=yes) h.1 h.2.1 h.2.2.1 h.2.2.2.1
  rw [PE.dumpT,PE.sizeG,Nat.add_mul]
  simp only [List.length_append,List.length_cons,List.length_nil]
  omega
theorem dumpTE_len {M:Nat}:∀ (l:List PE),fitsE M l→(dumpTE l).length≤sizeGE l * (3 * M+30)
 | [],_=>by simp [dumpTE]
 | e :: l,h=>by
  rw [fitsE] at h
  have h1:=dumpT_len e h.1
  have h2:=dumpTE_len l h.2
  rw [dumpTE,sizeGE,Nat.add_mul]
  simp only [List.length_append,List.length_cons,List.length_nil]
  omega
end
structure FF where
 name:List UInt8
 base:Nat
 clause:List PE
 at_:Nat
 bare:Int
structure DD where
 pub:Bool
 params:List FF
 res:FF
 body:PE
structure PP where
 imports:List (List UInt8 × Nat)
 defs:List DD
def TyS.ff (toks:List Tok)(u:Nat)(name:List UInt8)(at_:Nat)(t:TyS):FF where
 name:=name
 base:=if textAt toks (u+1)=tBool then 2 else 1
 clause:=match t.cl with|none=>[]|some e=>[e.pe toks (u+3)]
 at_:=at_
 bare:=match t.cl with|none=>((placeAt toks (u+1)+(textAt toks (u+1)).length:Nat):Int)|some _=>-1
def TyS.parFF (toks:List Tok)(u:Nat)(t:TyS):FF:=t.ff toks (u+1) (textAt toks u) (placeAt toks u)
def parsFF (toks:List Tok)(u:Nat):List TyS→List FF
 | []=>[]
 | t :: l=>t.parFF toks u :: parsFF toks (u+t.par.lv+1) l
def DfS.dd (toks:List Tok)(u:Nat)(d:DfS):DD where
 pub:=d.pub
 params:=parsFF toks (d.at1 u+3) d.pars
 res:=d.ty.ff toks (d.at2 u) (textAt toks (d.at1 u+1)) (placeAt toks (d.at1 u+1))
 body:=d.body.pe toks (d.at3 u)
def defsDD (toks:List Tok)(u:Nat):List DfS→List DD
 | []=>[]
 | d :: l=>d.dd toks u :: defsDD toks (u+d.pt.lv) l
def impsPP (toks:List Tok)(u:Nat):Nat→List (List UInt8 × Nat)
 | 0=>[]
 | n+1=>(textAt toks (u+1),placeAt toks (u+1)) :: impsPP toks (u+3) n
def PgS.pp (toks:List Tok)(p:PgS):PP:=⟨impsPP toks 0 p.imps,defsDD toks (3 * p.imps) p.defs⟩
def clDump:List PE→List UInt8
 | []=>[]
 | e :: l=>e.dump++clDump l
def clDumpT:List PE→List UInt8
 | []=>[]
 | e :: l=>e.dumpT++clDumpT l
def FF.tdump (f:FF):List UInt8:=[58]++decF f.base++clDump f.clause
def FF.tdumpT (f:FF):List UInt8:=[58]++decF f.base++clDumpT f.clause
def parsDump:List FF→List UInt8
 | []=>[]
 | f :: l=>[32]++f.name++f.tdump++parsDump l
def parsDumpT:List FF→List UInt8
 | []=>[]
 | f :: l=>[32]++f.name++f.tdumpT++parsDumpT l
def DD.dump (d:DD):List UInt8:=(if d.pub=true then [112,117,98,32] else [])++d.res.name++parsDump d.params++([32]++d.res.tdump++[32,61,32]++d.body.dump++[10])
def DD.dumpT (d:DD):List UInt8:=(if d.pub=true then [112,117,98,32] else [])++d.res.name++parsDumpT d.params++([32]++d.res.tdumpT++[32,61,32]++d.body.dumpT++[10])
def defsDump:List DD→List UInt8
 | []=>[]
 | d :: l=>d.dump++defsDump l
def defsDumpT:List DD→List UInt8
 | []=>[]
 | d :: l=>d.dumpT++defsDumpT l
def impsDump:List (List UInt8 × Nat)→List UInt8
 | []=>[]
 | m :: l=>[105,109,112,111,114,116,32]++m.1++[10]++impsDump l
def PP.dump (p:PP):List UInt8:=impsDump p.imports++defsDump p.defs
def PP.dumpT (p:PP):List UInt8:=impsDump p.imports++defsDumpT p.defs
def FF.erase (f:FF):FF:={ f with clause:=[] }
def DD.erase (d:DD):DD:={ d with params:=d.params.map FF.erase,res:=d.res.erase }
def PP.erase (p:PP):PP:={ p with defs:=p.defs.map DD.erase }
def FF.bares (f:FF):List Int:=if 0≤f.bare then [f.bare] else []
def DD.bares (d:DD):List Int:=d.params.flatMap FF.bares++d.res.bares
def PP.bares (p:PP):List Int:=p.defs.flatMap DD.bares
def FF.all (P:PE→Prop)(f:FF):Prop:=∀ e∈f.clause,P e
def DD.all (P:PE→Prop)(d:DD):Prop:=(∀ f∈d.params,f.all P)∧d.res.all P∧P d.body
def PP.all (P:PE→Prop)(p:PP):Prop:=∀ d∈p.defs,d.all P
theorem clDump_told:∀ {l:List PE},(∀ e∈l,e.told)→clDumpT l=clDump l
 | [],_=>rfl
 | e :: l,h=>by
  rw [clDumpT,clDump,PE.dump_told (h e List.mem_cons_self),clDump_told fun x hx=>h x (List.mem_cons_of_mem _ hx)]
theorem FF.dump_told {f:FF}(h:f.all PE.told):f.tdumpT=f.tdump:=by rw [FF.tdumpT,FF.tdump,clDump_told h]
theorem parsDump_told:∀ {l:List FF},(∀ f∈l,f.all PE.told)→parsDumpT l=parsDump l
 | [],_=>rfl
 | f :: l,h=>by
  rw [parsDumpT,parsDump,FF.dump_told (h f List.mem_cons_self),parsDump_told fun x hx=>h x (List.mem_cons_of_mem _ hx)]
theorem DD.dump_told {d:DD}(h:d.all PE.told):d.dumpT=d.dump:=by
 rw [DD.dumpT,DD.dump,parsDump_told h.1,FF.dump_told h.2.1,PE.dump_told h.2.2]
theorem defsDump_told:∀ {l:List DD},(∀ d∈l,d.all PE.told)→defsDumpT l=defsDump l
 | [],_=>rfl
 | d :: l,h=>by
  rw [defsDumpT,defsDump,DD.dump_told (h d List.mem_cons_self),defsDump_told fun x hx=>h x (List.mem_cons_of_mem _ hx)]
theorem PP.dump_told {p:PP}(h:p.all PE.told):p.dumpT=p.dump:=by rw [PP.dumpT,PP.dump,defsDump_told h]
theorem FF.all_erase {P:PE→Prop}(f:FF):f.erase.all P:=fun e he=>by cases he
theorem DD.all_erase {P:PE→Prop}{d:DD}(h:P d.body):d.erase.all P:=by
 refine ⟨fun f hf=>?_,FF.all_erase _,h⟩
 obtain ⟨g,_,rfl⟩:=List.mem_map.1 hf
 exact FF.all_erase g
theorem PP.all_erase {P:PE→Prop}{p:PP}(h:p.all P):p.erase.all P:=fun d hd=>by
 obtain ⟨c,hc,rfl⟩:=List.mem_map.1 hd
 exact DD.all_erase (h c hc).2.2
theorem nd_sep:∀ l:List PT,ndL l≤ndL (sepPT l)
 | []=>by rw [sepPT];exact Nat.le_refl _
 | [t]=>by rw [sepPT_one];exact Nat.le_refl _
 | t :: s :: l=>by
  have:=nd_sep (s :: l)
  have h2:ndL (t :: .leaf :: sepPT (s :: l))=t.nd+(1+ndL (sepPT (s :: l))):=by rw [ndL,ndL,PT.nd]
  rw [sepPT_two,h2,ndL]
  omega
theorem DfS.nd_parts (d:DfS):ndL (d.pars.map TyS.par)≤d.pt.nd∧ndL d.ty.pts≤d.pt.nd∧d.body.pt.nd≤d.pt.nd:=by
 have:=nd_sep (d.pars.map TyS.par)
 rw [DfS.pt,PT.nd,DfS.kids]
 simp only [ndL_append,ndL]
 omega
theorem PgS.nd_defs (p:PgS):ndL (p.defs.map DfS.pt)≤p.pt.nd:=by
 rw [PgS.pt,PT.nd,PgS.kids]
 simp only [ndL_append,ndL]
 omega
def PeN (toks:List Tok)(N:Nat)(P:PE→Prop):Prop:=∀ (cl:Bool) (e:CE) (u:Nat),e.ok toks cl u→e.pt.nd≤N→P (e.pe toks u)
theorem TyS.all_ff {toks:List Tok}{N:Nat}{P:PE→Prop}(h:PeN toks N P){t:TyS}{u:Nat}{name:List UInt8}{a:Nat}(ho:t.ok toks u)(hn:ndL t.pts≤N):(t.ff toks u name a).all P:=by
 intro x hx
 obtain ⟨_,ho⟩:=ho
 unfold TyS.ff at hx
 unfold TyS.pts at hn
 cases hc:t.cl with
 | none=>rw [hc] at hx;cases hx
 | some e =>
  rw [hc] at hx ho hn
  simp only [List.mem_singleton] at hx
  subst hx
  simp only [ndL,PT.nd,List.cons_append,List.nil_append] at hn
  exact h true e _ ho (by omega)
theorem TyS.nd_par (t:TyS):ndL t.pts≤t.par.nd:=by
 have:t.par.nd=ndL (.leaf :: t.pts)+1:=by rw [TyS.par,PT.nd]
 rw [ndL] at this
 omega
theorem pars_all {toks:List Tok}{N:Nat}{P:PE→Prop}(h:PeN toks N P):∀ (l:List TyS) (u:Nat),parsOk toks u l→ndL (l.map TyS.par)≤N→∀ f∈parsFF toks u l,f.all P
 | [],_,_,_,f,hf=>by cases hf
 | t :: l,u,ho,hn,f,hf=>by
  have:=t.nd_par
  rw [List.map_cons,ndL] at hn
  rw [parsFF,List.mem_cons] at hf
  rcases hf with rfl|hf
  ·exact TyS.all_ff h ho.1.2 (by omega)
  ·exact pars_all h l _ ho.2 (by omega) f hf
theorem DfS.all_dd {toks:List Tok}{N:Nat}{P:PE→Prop}(h:PeN toks N P){d:DfS}{u:Nat}(ho:d.ok toks u)(hn:d.pt.nd≤N):(d.dd toks u).all P:=by
 obtain ⟨_,_,_,_,h5,h6,h7⟩:=ho
 obtain ⟨n1,n2,n3⟩:=d.nd_parts
 exact ⟨pars_all h _ _ h5 (by omega),TyS.all_ff h h6 (by omega),h _ _ _ h7 (by omega)⟩
theorem defs_all {toks:List Tok}{N:Nat}{P:PE→Prop}(h:PeN toks N P):∀ (l:List DfS) (u:Nat),defsOk toks u l→ndL (l.map DfS.pt)≤N→∀ d∈defsDD toks u l,d.all P
 | [],_,_,_,d,hd=>by cases hd
 | x :: l,u,ho,hn,d,hd=>by
  rw [List.map_cons,ndL] at hn
  rw [defsDD,List.mem_cons] at hd
  rcases hd with rfl|hd
  ·exact DfS.all_dd h ho.1 (by omega)
  ·exact defs_all h l _ ho.2 (by omega) d hd
theorem PgS.all_pp {toks:List Tok}{P:PE→Prop}{p:PgS}(h:PeN toks p.pt.nd P)(ho:p.ok toks):(p.pp toks).all P:=defs_all h _ _ ho.2.2.2 p.nd_defs
theorem parsFF_len (toks:List Tok):∀ (l:List TyS) (u:Nat),(parsFF toks u l).length=l.length
 | [],_=>rfl
 | t :: l,u=>by rw [parsFF,List.length_cons,List.length_cons,parsFF_len toks l]
theorem defsDD_len (toks:List Tok):∀ (l:List DfS) (u:Nat),(defsDD toks u l).length=l.length
 | [],_=>rfl
 | t :: l,u=>by rw [defsDD,List.length_cons,List.length_cons,defsDD_len toks l]
theorem impsPP_len (toks:List Tok):∀ (n u:Nat),(impsPP toks u n).length=n
 | 0,_=>rfl
 | n+1,u=>by rw [impsPP,List.length_cons,impsPP_len toks n]
structure FF.small (M:Nat) (f:FF):Prop where
 name:f.name.length≤M
 base:f.base=1∨f.base=2
 clause:f.clause.length≤1
structure DD.small (M:Nat) (d:DD):Prop where
 params:∀ f∈d.params,f.small M
 few:d.params.length≤8
 res:d.res.small M
structure PP.small (M:Nat) (p:PP):Prop where
 imports:∀ m∈p.imports,m.1.length≤M
 ifew:p.imports.length≤16
 defs:∀ d∈p.defs,d.small M
 dfew:p.defs.length≤64
theorem FF.small.erase {M:Nat}{f:FF}(h:f.small M):f.erase.small M:=⟨h.name,h.base,Nat.zero_le _⟩
theorem DD.small.erase {M:Nat}{d:DD}(h:d.small M):d.erase.small M:=by
 refine ⟨fun f hf=>?_,by simpa [DD.erase] using h.few,h.res.erase⟩
 obtain ⟨g,hg,rfl⟩:=List.mem_map.1 hf
 exact (h.params g hg).erase
theorem PP.small.erase {M:Nat}{p:PP}(h:p.small M):p.erase.small M:=by
 refine ⟨h.imports,h.ifew,fun d hd=>?_,by simpa [PP.erase] using h.dfew⟩
 obtain ⟨c,hc,rfl⟩:=List.mem_map.1 hd
 exact (h.defs c hc).erase
theorem TyS.ff_small {toks:List Tok}{M:Nat}(hM:∀ u,(textAt toks u).length≤M)(t:TyS)(u v a:Nat):(t.ff toks u (textAt toks v) a).small M:=by
 refine ⟨hM v,?_,?_⟩
 ·show (if _ then _ else _)=1∨_
  split
  ·right;show (if _ then _ else _)=2;rw [if_pos (by assumption)]
  ·left;rfl
 ·unfold TyS.ff
  cases t.cl <;> simp
theorem pars_small {toks:List Tok}{M:Nat}(hM:∀ u,(textAt toks u).length≤M):∀ (l:List TyS) (u:Nat),∀ f∈parsFF toks u l,f.small M
 | [],_,f,hf=>by cases hf
 | t :: l,u,f,hf=>by
  rw [parsFF,List.mem_cons] at hf
  rcases hf with rfl|hf
  ·exact TyS.ff_small hM _ _ _ _
  ·exact pars_small hM l _ f hf
theorem DfS.dd_small {toks:List Tok}{M:Nat}(hM:∀ u,(textAt toks u).length≤M){d:DfS}{u:Nat}(ho:d.ok toks u):(d.dd toks u).small M :=
 ⟨pars_small hM _ _,by show (parsFF _ _ _).length≤8;rw [parsFF_len];exact ho.2.2.2.1,TyS.ff_small hM _ _ _ _⟩
theorem defs_small {toks:List Tok}{M:Nat}(hM:∀ u,(textAt toks u).length≤M):∀ (l:List DfS) (u:Nat),defsOk toks u l→∀ d∈defsDD toks u l,d.small M
 | [],_,_,d,hd=>by cases hd
 | x :: l,u,ho,d,hd=>by
  rw [defsDD,List.mem_cons] at hd
  rcases hd with rfl|hd
  ·exact DfS.dd_small hM ho.1
  ·exact defs_small hM l _ ho.2 d hd
theorem imps_small {toks:List Tok}{M:Nat}(hM:∀ u,(textAt toks u).length≤M):∀ (n u:Nat),∀ m∈impsPP toks u n,m.1.length≤M
 | 0,_,m,hm=>by cases hm
 | n+1,u,m,hm=>by
  rw [impsPP,List.mem_cons] at hm
  rcases hm with rfl|hm
  ·exact hM _
  ·exact imps_small hM n _ m hm
theorem PgS.pp_small {toks:List Tok}{M:Nat}{p:PgS}(hM:∀ u,(textAt toks u).length≤M)(ho:p.ok toks):(p.pp toks).small M :=
 ⟨imps_small hM _ _,by show (impsPP _ _ _).length≤16;rw [impsPP_len];exact ho.1,defs_small hM _ _ ho.2.2.2,by show (defsDD _ _ _).length≤64;rw [defsDD_len];exact ho.2.1⟩
theorem clDump_len {K:Nat}:∀ {l:List PE},(∀ e∈l,e.dump.length≤K)→(clDump l).length≤l.length * K
 | [],_=>by simp [clDump]
 | e :: l,h=>by
  have h1:=h e List.mem_cons_self
  have h2:=clDump_len (l:=l) fun x hx=>h x (List.mem_cons_of_mem _ hx)
  rw [clDump,List.length_append,List.length_cons,Nat.succ_mul]
  omega
def dumpK (K:Nat)(e:PE):Prop:=e.dump.length≤K
theorem FF.tdump_len {M K:Nat}{f:FF}(h:f.small M)(hk:f.all (dumpK K)):f.tdump.length≤K+3:=by
 have h1:=clDump_len (K:=K) hk
 have h2:f.clause.length * K≤1 * K:=Nat.mul_le_mul_right _ h.clause
 have h3:=dec_two (n:=f.base) (by rcases h.base with q|q <;> omega)
 rw [FF.tdump]
 simp only [List.length_append,List.length_cons,List.length_nil]
 omega
theorem parsDump_len {M K:Nat}:∀ {l:List FF},(∀ f∈l,f.small M)→(∀ f∈l,f.all (dumpK K))→(parsDump l).length≤l.length * (M+K+4)
 | [],_,_=>by simp [parsDump]
 | f :: l,h,hk=>by
  have h0:=h f List.mem_cons_self
  have h1:=FF.tdump_len h0 (hk f List.mem_cons_self)
  have h2:=parsDump_len (l:=l) (fun x hx=>h x (List.mem_cons_of_mem _ hx)) (fun x hx=>hk x (List.mem_cons_of_mem _ hx))
  have h3:=h0.name
  rw [parsDump,List.length_cons,Nat.succ_mul]
  simp only [List.length_append,List.length_cons,List.length_nil]
  omega
theorem DD.dump_len {M K:Nat}{d:DD}(h:d.small M)(hk:d.all (dumpK K)):d.dump.length≤10 * (M+K+4)+20:=by
 have h1:=parsDump_len h.params hk.1
 have h2:d.params.length * (M+K+4)≤8 * (M+K+4):=Nat.mul_le_mul_right _ h.few
 have h3:=FF.tdump_len h.res hk.2.1
 have h4:d.body.dump.length≤K:=hk.2.2
 have h5:=h.res.name
 rw [DD.dump]
 simp only [List.length_append,List.length_cons,List.length_nil]
 split <;> simp only [List.length_cons,List.length_nil] <;> omega
theorem defsDump_len {M K:Nat}:∀ {l:List DD},(∀ d∈l,d.small M)→(∀ d∈l,d.all (dumpK K))→(defsDump l).length≤l.length * (10 * (M+K+4)+20)
 | [],_,_=>by simp [defsDump]
 | d :: l,h,hk=>by
  have h1:=DD.dump_len (h d List.mem_cons_self) (hk d List.mem_cons_self)
  have h2:=defsDump_len (l:=l) (fun x hx=>h x (List.mem_cons_of_mem _ hx)) (fun x hx=>hk x (List.mem_cons_of_mem _ hx))
  rw [defsDump,List.length_append,List.length_cons,Nat.succ_mul]
  omega
theorem impsDump_len {M:Nat}:∀ {l:List (List UInt8 × Nat)},(∀ m∈l,m.1.length≤M)→(impsDump l).length≤l.length * (M+8)
 | [],_=>by simp [impsDump]
 | m :: l,h=>by
  have h1:=h m List.mem_cons_self
  have h2:=impsDump_len (l:=l) fun x hx=>h x (List.mem_cons_of_mem _ hx)
  rw [impsDump,List.length_cons,Nat.succ_mul]
  simp only [List.length_append,List.length_cons,List.length_nil]
  omega
theorem PP.dump_len {M K:Nat}{p:PP}(h:p.small M)(hk:p.all (dumpK K)):p.dump.length≤16 * (M+8)+64 * (10 * (M+K+4)+20):=by
 have h1:=impsDump_len h.imports
 have h2:p.imports.length * (M+8)≤16 * (M+8):=Nat.mul_le_mul_right _ h.ifew
 have h3:=defsDump_len h.defs hk
 have h4:p.defs.length * (10 * (M+K+4)+20)≤64 * (10 * (M+K+4)+20):=Nat.mul_le_mul_right _ h.dfew
 rw [PP.dump,List.length_append]
 omega
theorem repL_at {nodes:List Nd}:∀ (l:List PT) (ks:List Int) (u:Nat),RepL nodes ks u l→ks.length=l.length∧∀ j,(h1:j<ks.length)→(h2:j<l.length)→Rep nodes ks[j] (u+lvL (l.take j)) l[j]
 | [],ks,u,h=>by
  rw [RepL] at h
  subst h
  exact ⟨rfl,fun j h1=>absurd h1 (by simp)⟩
 | i :: l,ks,u,h=>by
  rw [RepL] at h
  obtain ⟨k,ks',rfl,h1,h2⟩:=h
  obtain ⟨h3,h4⟩:=repL_at l ks' _ h2
  refine ⟨by simp [h3],fun j q1 q2=>?_⟩
  cases j with
  | zero=>simpa [lvL] using h1
  | succ j =>
   have:=h4 j (by simpa using q1) (by simpa using q2)
   rw [List.take_succ_cons,lvL,← Nat.add_assoc]
   exact this
theorem lvL_take:∀ (l:List PT) (j:Nat) (h:j<l.length),lvL (l.take j)+l[j].lv≤lvL l
 | [],j,h=>absurd h (by simp)
 | i :: l,0,h=>by simp [lvL]
 | i :: l,j+1,h=>by
  have:=lvL_take l j (by simpa using h)
  rw [List.take_succ_cons,lvL,lvL]
  simp only [List.getElem_cons_succ]
  omega
theorem impsPP_get (toks:List Tok):∀ (n u j:Nat) (h:j<(impsPP toks u n).length),(impsPP toks u n)[j]=(textAt toks (u+3 * j+1),placeAt toks (u+3 * j+1))
 | 0,u,j,h=>absurd h (by simp [impsPP])
 | n+1,u,0,h=>rfl
 | n+1,u,j+1,h=>by
  have:=impsPP_get toks n (u+3) j (by simpa [impsPP] using h)
  simp only [impsPP,List.getElem_cons_succ,this]
  rw [show u+3+3 * j+1=u+3 * (j+1)+1 by omega]
theorem defsDD_get (toks:List Tok):∀ (l:List DfS) (u j:Nat) (h:j<l.length) (h2:j<(defsDD toks u l).length),(defsDD toks u l)[j]=l[j].dd toks (u+lvL ((l.take j).map DfS.pt))
 | [],u,j,h,_=>absurd h (by simp)
 | d :: l,u,0,h,_=>by simp [defsDD,lvL]
 | d :: l,u,j+1,h,h2=>by
  have:=defsDD_get toks l (u+d.pt.lv) j (by simpa using h) (by simpa [defsDD] using h2)
  simp only [defsDD,List.getElem_cons_succ,this,List.take_succ_cons,List.map_cons,lvL,Nat.add_assoc]
theorem defsOk_get {toks:List Tok}:∀ (l:List DfS) (u j:Nat) (h:j<l.length),defsOk toks u l→l[j].ok toks (u+lvL ((l.take j).map DfS.pt))
 | [],u,j,h,_=>absurd h (by simp)
 | d :: l,u,0,h,ho=>by simpa [lvL] using ho.1
 | d :: l,u,j+1,h,ho=>by
  have:=defsOk_get l (u+d.pt.lv) j (by simpa using h) ho.2
  simpa [lvL,Nat.add_assoc] using this
theorem PgS.kid_imp (p:PgS)(j:Nat)(h:j<p.imps):∃ h2:j<p.kids.length,p.kids[j]=impPT∧lvL (p.kids.take j)=3 * j:=by
 have h2:j<p.kids.length:=by simp only [PgS.kids,List.length_append,List.length_replicate];omega
 refine ⟨h2,?_,?_⟩
 ·simp only [PgS.kids]
  rw [List.getElem_append_left (by simpa using h),List.getElem_replicate]
 ·simp only [PgS.kids]
  rw [List.take_append_of_le_length (by simp;omega),List.take_replicate,imps_lv,Nat.min_eq_left (by omega)]
theorem PgS.kid_def (p:PgS)(j:Nat)(h:j<p.defs.length):∃ h2:p.imps+j<p.kids.length,p.kids[p.imps+j]=p.defs[j].pt∧lvL (p.kids.take (p.imps+j))=3 * p.imps+lvL ((p.defs.take j).map DfS.pt):=by
 have h2:p.imps+j<p.kids.length:=by simp only [PgS.kids,List.length_append,List.length_replicate,List.length_map];omega
 refine ⟨h2,?_,?_⟩
 ·simp only [PgS.kids]
  rw [List.getElem_append_right (by simp),List.getElem_append_left (by simp;omega)]
  simp
 ·simp only [PgS.kids]
  rw [List.take_append,List.take_of_length_le (by simp),lvL_append,imps_lv,List.length_replicate,Nat.add_sub_cancel_left,List.take_append_of_le_length (by simp;omega),List.map_take]
theorem PgS.kid_end (p:PgS):∃ h2:p.imps+p.defs.length<p.kids.length,p.kids[p.imps+p.defs.length]=.leaf:=by
 have h2:p.imps+p.defs.length<p.kids.length:=by simp only [PgS.kids,List.length_append,List.length_replicate,List.length_map,List.length_singleton];omega
 refine ⟨h2,?_⟩
 simp only [PgS.kids]
 rw [List.getElem_append_right (by simp),List.getElem_append_right (by simp)]
 simp
theorem PgS.kids_len (p:PgS):p.kids.length=p.imps+p.defs.length+1:=by
 simp only [PgS.kids,List.length_append,List.length_replicate,List.length_map,List.length_singleton]
 omega
end Go.Proofs.YtemkhbmkaalgdaaGreatDoor
