/- Walks and plain laws: PrintParse3. -/
import Derived.Test.YtdednahplodojaaGreatDoorD32
set_option maxHeartbeats 16000000
set_option maxRecDepth 100000
set_option linter.unusedVariables false
set_option linter.unusedSimpArgs false
namespace Go.Proofs.YtdednahplodojaaGreatDoor
theorem Pars.expr {toks:List Tok}{d g nest:Nat}{st:PSt}{r:Int × PSt}(hr:run toks d (g+1) (.expr nest) st=some r)(hf:st.fE=0)(hc:st.clause=false):r.2.fE=23∨(run toks d (g+1) (.expr nest) st=some r∧deepM toks d nest st=st):=by
 rcases deep_case toks d nest hf with e|e
 ·rw [run,if_pos (by rw [e];decide)] at hr
  injection hr with hr
  subst hr
  exact .inl e
 ·exact .inr ⟨hr,e⟩
theorem Pars.asrt {toks:List Tok}(hE:EndOk toks){d:Nat}{la lb:List Pc}{ca cb:CE}(ha:Pars toks d false la ca 0)(hb:Pars toks d false lb cb 0) :
  Pars toks d false (wordP tAssert :: (spP la++spP [wordP tIn]++spP lb)) (.asrt ca cb) 0:=⟨by
 rw [CE.pt,PT.lv,lvL,lvL,lvL,lvL,lvL,PT.lv,ha.len,hb.len,List.length_cons,List.length_append,List.length_append,sp_len,sp_len,sp_len];simp <;> omega,fun g nest st r hr hf hc hA hS=>by
 have hA':=hA
 rw [List.append_assoc] at hA
 have A1:=hA.tail
 have A2:=A1.right
 rw [sp_len] at A2
 have A3:=A2.right
 cases g with
 | zero=>rw [tk,run] at hr;cases hr
 | succ g =>
  rcases Pars.expr hr hf hc with h|⟨hr,e⟩
  ·exact .inl h
  obtain ⟨k0,t0,u0⟩:=hA.head
  have k0':kindAt toks st.used=2:=k0
  have no:∀ x,x≠tAssert→nextF toks st [x]=false:=fun x hx=>next_no (by rw [t0,List.mem_singleton];exact fun q=>hx q.symm)
  rw [run,e,if_neg (by rw [hf];decide),if_neg (by rw [hc];decide),if_neg (by rw [no tLet (by decide)];decide),if_neg (by rw [no tIf (by decide)];decide),if_pos (next_yes (.inl k0') (by rw [t0];exact List.mem_singleton.2 rfl))] at hr
  obtain ⟨a,har,hr⟩:=Option.bind_eq_some_iff.1 hr
  obtain ⟨b,hbr,hr⟩:=Option.bind_eq_some_iff.1 hr
  injection hr with hr
  subst hr
  have L:=(Lay.nil st).leaf hE (by rw [k0'];decide)
  have hu:=L.used
  simp only [lvL,PT.lv,List.nil_append,Nat.add_zero] at hu
  obtain ⟨k2,t2,u2⟩:=A2.left.sp.head
  have h1:=ha.does g (nest+1) _ a har (by rw [L.fE,hf]) (by rw [L.cl,hc]) (by rw [hu];exact A1.left.sp) (by rw [hu];exact stop_text t2 (by decide))
  rcases h1 with h1|⟨h0,h1⟩
  ·left
   have x1:=((mustM_ext toks [tIn] a.2).trans (run_ext toks d g _ _ _ hbr)).2.1 (by rw [h1];decide)
   exact node_fault (by rw [x1,h1])
  have L2:=L.sub h1
  have hu2:=h1.end_
  rw [hu,ha.len] at hu2
  have hm:mustM toks [tIn] a.2=leafM toks a.2:=must_yes h0 (next_yes (.inl (by rw [hu2,k2];rfl)) (by rw [hu2,t2];decide))
  rw [hm] at hbr ⊢
  have L3:=L2.leaf hE (by rw [hu2,k2];decide)
  have hu3:=L3.used
  simp only [lvL,lvL_append,PT.lv,List.nil_append,Nat.add_zero] at hu3
  rw [ha.len] at hu3
  have e3:(leafM toks a.2).2.used=st.used+1+la.length+1:=by omega
  have e4:st.used+(wordP tAssert :: (spP la++spP [wordP tIn]++spP lb)).length=st.used+1+la.length+1+lb.length:=by
   rw [List.length_cons,List.length_append,List.length_append,sp_len,sp_len,sp_len];simp <;> omega
  rw [e4] at hS
  have h2:=hb.does g (nest+1) _ b hbr (by rw [L3.fE,hf]) (by rw [L3.cl,hc]) (by rw [e3];exact A3.sp) (by rw [e3];exact hS)
  rcases h2 with h2|⟨h20,h2⟩
  ·exact .inl (node_fault h2)
  ·have L4:=L3.sub h2
   refine L4.node 9 hf (by simp [CE.pt]) ⟨hc,?_,?_⟩ (h2.2.2.2 (by have:=A3.1;rw [sp_len] at this;simp at this;omega))
   ·have:=h1.2.2.1
    rwa [L.cl,hu] at this
   ·have:=h2.2.2.1
    rw [L3.cl,e3] at this
    rw [ha.len];exact this⟩
theorem Pars.iff {toks:List Tok}(hE:EndOk toks){d:Nat}{la lb lc:List Pc}{ca cb cc:CE}(ha:Pars toks d false la ca 0)(hb:Pars toks d false lb cb 0)(hcc:Pars toks d false lc cc 0) :
  Pars toks d false (wordP tIf :: (spP la++spP [wordP tThen]++spP lb++spP [wordP tElse]++spP lc)) (.iff ca cb cc) 0:=⟨by
 rw [CE.pt,PT.lv,lvL,lvL,lvL,lvL,lvL,lvL,lvL,PT.lv,ha.len,hb.len,hcc.len,List.length_cons,List.length_append,List.length_append,List.length_append,List.length_append,sp_len,sp_len,sp_len,sp_len,sp_len];simp <;> omega,fun g nest st r hr hf hc hA hS=>by
 rw [List.append_assoc,List.append_assoc,List.append_assoc] at hA
 have A1:=hA.tail
 have A2:=A1.right
 rw [sp_len] at A2
 have A3:=A2.right
 have A4:=A3.right
 have A5:=A4.right
 simp only [sp_len,List.length_singleton] at A3 A4 A5
 cases g with
 | zero=>rw [tk,run] at hr;cases hr
 | succ g =>
  rcases Pars.expr hr hf hc with h|⟨hr,e⟩
  ·exact .inl h
  obtain ⟨k0,t0,u0⟩:=hA.head
  have k0':kindAt toks st.used=2:=k0
  have no:∀ x,x≠tIf→nextF toks st [x]=false:=fun x hx=>next_no (by rw [t0,List.mem_singleton];exact fun q=>hx q.symm)
  rw [run,e,if_neg (by rw [hf];decide),if_neg (by rw [hc];decide),if_neg (by rw [no tLet (by decide)];decide),if_pos (next_yes (.inl k0') (by rw [t0];exact List.mem_singleton.2 rfl))] at hr
  obtain ⟨a,har,hr⟩:=Option.bind_eq_some_iff.1 hr
  obtain ⟨b,hbr,hr⟩:=Option.bind_eq_some_iff.1 hr
  obtain ⟨c,hcr,hr⟩:=Option.bind_eq_some_iff.1 hr
  injection hr with hr
  subst hr
  have L:=(Lay.nil st).leaf hE (by rw [k0'];decide)
  have hu:=L.used
  simp only [lvL,PT.lv,List.nil_append,Nat.add_zero] at hu
  obtain ⟨k2,t2,u2⟩:=A2.left.sp.head
  obtain ⟨k4,t4,u4⟩:=A4.left.sp.head
  have h1:=ha.does g (nest+1) _ a har (by rw [L.fE,hf]) (by rw [L.cl,hc]) (by rw [hu];exact A1.left.sp) (by rw [hu];exact stop_text t2 (by decide))
  rcases h1 with h1|⟨h0,h1⟩
  ·left
   have x1:=((((mustM_ext toks [tThen] a.2).trans (run_ext toks d g _ _ _ hbr)).trans (mustM_ext toks [tElse] b.2)).trans (run_ext toks d g _ _ _ hcr)).2.1 (by rw [h1];decide)
   exact node_fault (by rw [x1,h1])
  have L2:=L.sub h1
  have hu2:=h1.end_
  rw [hu,ha.len] at hu2
  have hm:mustM toks [tThen] a.2=leafM toks a.2:=must_yes h0 (next_yes (.inl (by rw [hu2,k2];rfl)) (by rw [hu2,t2];decide))
  rw [hm] at hbr ⊢
  have L3:=L2.leaf hE (by rw [hu2,k2];decide)
  have hu3:=L3.used
  simp only [lvL,lvL_append,PT.lv,List.nil_append,Nat.add_zero] at hu3
  rw [ha.len] at hu3
  have e3:(leafM toks a.2).2.used=st.used+1+la.length+1:=by omega
  have h2:=hb.does g (nest+1) _ b hbr (by rw [L3.fE,hf]) (by rw [L3.cl,hc]) (by rw [e3];exact A3.left.sp) (by rw [e3];exact stop_text t4 (by decide))
  rcases h2 with h2|⟨h20,h2⟩
  ·left
   have x1:=((mustM_ext toks [tElse] b.2).trans (run_ext toks d g _ _ _ hcr)).2.1 (by rw [h2];decide)
   exact node_fault (by rw [x1,h2])
  have L4:=L3.sub h2
  have hu4:=h2.end_
  rw [e3,hb.len] at hu4
  have hm2:mustM toks [tElse] b.2=leafM toks b.2:=must_yes h20 (next_yes (.inl (by rw [hu4];exact k4)) (by rw [hu4];rw [show textAt toks (st.used+1+la.length+1+lb.length)=tElse from t4];decide))
  rw [hm2] at hcr ⊢
  have L5:=L4.leaf hE (by rw [hu4];rw [show kindAt toks (st.used+1+la.length+1+lb.length)=2 from k4];decide)
  have hu5:=L5.used
  simp only [lvL,lvL_append,PT.lv,List.nil_append,Nat.add_zero] at hu5
  rw [ha.len,hb.len] at hu5
  have e5:(leafM toks b.2).2.used=st.used+1+la.length+1+lb.length+1:=by omega
  have e6:st.used+(wordP tIf :: (spP la++spP [wordP tThen]++spP lb++spP [wordP tElse]++spP lc)).length=st.used+1+la.length+1+lb.length+1+lc.length:=by
   rw [List.length_cons,List.length_append,List.length_append,List.length_append,List.length_append,sp_len,sp_len,sp_len,sp_len,sp_len];simp <;> omega
  rw [e6] at hS
  have h3:=hcc.does g (nest+1) _ c hcr (by rw [L5.fE,hf]) (by rw [L5.cl,hc]) (by rw [e5];exact A5.sp) (by rw [e5];exact hS)
  rcases h3 with h3|⟨h30,h3⟩
  ·exact .inl (node_fault h3)
  ·have L6:=L5.sub h3
   refine L6.node 8 hf (by simp [CE.pt]) ⟨hc,?_,?_,?_⟩ (h3.2.2.2 (by have:=A5.1;rw [sp_len] at this;omega))
   ·have:=h1.2.2.1
    rwa [L.cl,hu] at this
   ·have:=h2.2.2.1
    rw [L3.cl,e3] at this
    rw [ha.len];exact this
   ·have:=h3.2.2.1
    rw [L5.cl,e5] at this
    rw [ha.len,hb.len];exact this⟩
theorem Pars.lett {toks:List Tok}(hE:EndOk toks){d:Nat}{nm:List UInt8}{la lb:List Pc}{ca cb:CE}(hnm:nameB nm=true)(ha:Pars toks d false la ca 0)(hb:Pars toks d false lb cb 0) :
  Pars toks d false (wordP tLet :: (spP [wordP nm]++spP [sgnP [61]]++spP la++spP [wordP tIn]++spP lb)) (.lett ca cb) 0:=⟨by
 rw [CE.pt,PT.lv,lvL,lvL,lvL,lvL,lvL,lvL,lvL,PT.lv,ha.len,hb.len,List.length_cons,List.length_append,List.length_append,List.length_append,List.length_append,sp_len,sp_len,sp_len,sp_len,sp_len];simp <;> omega,fun g nest st r hr hf hc hA hS=>by
 rw [List.append_assoc,List.append_assoc,List.append_assoc] at hA
 have A1:=hA.tail
 have A2:=A1.right
 have A3:=A2.right
 have A4:=A3.right
 have A5:=A4.right
 simp only [sp_len,List.length_singleton] at A2 A3 A4 A5
 cases g with
 | zero=>rw [tk,run] at hr;cases hr
 | succ g =>
  rcases Pars.expr hr hf hc with h|⟨hr,e⟩
  ·exact .inl h
  obtain ⟨k0,t0,u0⟩:=hA.head
  have k0':kindAt toks st.used=2:=k0
  rw [run,e,if_neg (by rw [hf];decide),if_neg (by rw [hc];decide),if_pos (next_yes (.inl k0') (by rw [t0];exact List.mem_singleton.2 rfl))] at hr
  have L:=(Lay.nil st).leaf hE (by rw [k0'];decide)
  have hu:=L.used
  simp only [lvL,PT.lv,List.nil_append,Nat.add_zero] at hu
  obtain ⟨k1,t1,u1⟩:=A1.left.sp.head
  rw [(name_word hnm).1] at k1
  rw [(name_word hnm).2] at t1
  have m1:kindM toks 1 (leafM toks st).2=leafM toks (leafM toks st).2:=kind_yes (by rw [L.fE,hf]) (by rw [hu];exact k1)
  rw [m1] at hr
  have L1:=L.leaf hE (by rw [hu,k1];decide)
  have hu1:=L1.used
  simp only [lvL,PT.lv,List.nil_append,List.cons_append,Nat.add_zero] at hu1
  obtain ⟨k2,t2,u2⟩:=A2.left.sp.head
  have k2':kindAt toks (st.used+(1+1))=4:=k2
  have t2':textAt toks (st.used+(1+1))=[61]:=t2
  have m2:mustM toks [[61]] (leafM toks (leafM toks st).2).2=leafM toks (leafM toks (leafM toks st).2).2:=must_yes (by rw [L1.fE,hf]) (next_yes (.inr (by rw [hu1];exact k2')) (by rw [hu1,t2'];decide))
  rw [m2] at hr
  have L2:=L1.leaf hE (by rw [hu1,k2'];decide)
  have hu2:=L2.used
  simp only [lvL,PT.lv,List.nil_append,List.cons_append,Nat.add_zero] at hu2
  obtain ⟨a,har,hr⟩:=Option.bind_eq_some_iff.1 hr
  obtain ⟨b,hbr,hr⟩:=Option.bind_eq_some_iff.1 hr
  injection hr with hr
  subst hr
  obtain ⟨k4,t4,u4⟩:=A4.left.sp.head
  have e2:(leafM toks (leafM toks (leafM toks st).2).2).2.used=st.used+1+1+1:=by omega
  have h1:=ha.does g (nest+1) _ a har (by rw [L2.fE,hf]) (by rw [L2.cl,hc]) (by rw [e2];exact A3.left.sp) (by rw [e2];exact stop_text t4 (by decide))
  rcases h1 with h1|⟨h0,h1⟩
  ·left
   have x1:=((mustM_ext toks [tIn] a.2).trans (run_ext toks d g _ _ _ hbr)).2.1 (by rw [h1];decide)
   exact node_fault (by rw [x1,h1])
  have L3:=L2.sub h1
  have hu3:=h1.end_
  rw [e2,ha.len] at hu3
  have hm:mustM toks [tIn] a.2=leafM toks a.2:=must_yes h0 (next_yes (.inl (by rw [hu3];exact k4)) (by rw [hu3];rw [show textAt toks (st.used+1+1+1+la.length)=tIn from t4];decide))
  rw [hm] at hbr ⊢
  have L4:=L3.leaf hE (by rw [hu3];rw [show kindAt toks (st.used+1+1+1+la.length)=2 from k4];decide)
  have hu4:=L4.used
  simp only [lvL,lvL_append,PT.lv,List.nil_append,List.cons_append,Nat.add_zero] at hu4
  rw [ha.len] at hu4
  have e4:(leafM toks a.2).2.used=st.used+1+1+1+la.length+1:=by omega
  have e6:st.used+(wordP tLet :: (spP [wordP nm]++spP [sgnP [61]]++spP la++spP [wordP tIn]++spP lb)).length=st.used+1+1+1+la.length+1+lb.length:=by
   rw [List.length_cons,List.length_append,List.length_append,List.length_append,List.length_append,sp_len,sp_len,sp_len,sp_len,sp_len];simp <;> omega
  rw [e6] at hS
  have h2:=hb.does g (nest+1) _ b hbr (by rw [L4.fE,hf]) (by rw [L4.cl,hc]) (by rw [e4];exact A5.sp) (by rw [e4];exact hS)
  rcases h2 with h2|⟨h20,h2⟩
  ·exact .inl (node_fault h2)
  ·have L5:=L4.sub h2
   refine L5.node 7 hf (by simp [CE.pt]) ⟨hc,k1,?_,?_⟩ (h2.2.2.2 (by have:=A5.1;rw [sp_len] at this;omega))
   ·have:=h1.2.2.1
    rwa [L2.cl,e2] at this
   ·have:=h2.2.2.1
    rw [L4.cl,e4] at this
    rw [ha.len];exact this⟩
def parC (least:Int)(k:Int × CE):CE:=if lvZ k.1<least then .group k.2 else k.2
def ceF (op:Int)(md:List UInt8)(ks:List (Int × CE)):CE :=
 if op=1 then .num
 else if op=2 then .truth
 else if op=3 then .nam
 else if op=4 then .res
 else if op=5 then .un (parC 9 (ks.getD 0 (0,.num)))
 else if op=6 then .un (parC 4 (ks.getD 0 (0,.num)))
 else if op=21 then .iff (ks.getD 0 (0,.num)).2 (ks.getD 1 (0,.num)).2 (ks.getD 2 (0,.num)).2
 else if op=22 then .lett (ks.getD 0 (0,.num)).2 (ks.getD 1 (0,.num)).2
 else if op=23 then .asrt (ks.getD 0 (0,.num)).2 (ks.getD 1 (0,.num)).2
 else if op=24 then .call (decide (md≠[])) (ks.map Prod.snd)
 else .bin (parC (firstZ op) (ks.getD 0 (0,.num))) (parC (thenZ op) (ks.getD 1 (0,.num)))
mutual
def PZ.ce:PZ→CE
 | .mk op _ md _ _ kids _=>ceF op md (cesZ kids)
def cesZ:List PZ→List (Int × CE)
 | []=>[]
 | e :: l=>(e.op,e.ce) :: cesZ l
end
theorem PZ.ce_def (e:PZ):e.ce=ceF e.op e.module (cesZ e.kids):=by cases e;rw [PZ.ce];rfl
theorem cesZ_map:∀ l:List PZ,cesZ l=l.map fun e=>(e.op,e.ce)
 | []=>rfl
 | e :: l=>by rw [cesZ,cesZ_map l];rfl
theorem cesZ_get {l:List PZ}{i:Nat}(h:i<l.length):(cesZ l).getD i (0,.num)=(l[i].op,l[i].ce):=by
 rw [cesZ_map,List.getD_eq_getElem?_getD,List.getElem?_map,List.getElem?_eq_getElem h];rfl
theorem args_lv {toks:List Tok}{d:Nat}:∀ (es:List PZ),(∀ x∈es,Pars toks d false x.pcs x.ce 0)→lvL (argsPT (es.map PZ.ce))=(commaQ (es.map PZ.pcs)).length
 | [],_=>by simp [argsPT,lvL,commaQ]
 | [e],h=>by simp only [List.map_cons,List.map_nil,argsPT_one,lvL,commaQ,(h e (by simp)).len];omega
 | e :: f :: l,h=>by
  have ih:=args_lv (f :: l) fun x hx=>h x (List.mem_cons_of_mem _ hx)
  simp only [List.map_cons] at ih ⊢
  rw [argsPT_two,commaQ,lvL,lvL,ih,PT.lv,(h e (by simp)).len,List.length_append,List.length_cons,sp_len]
  omega
theorem args_pars {toks:List Tok}(hE:EndOk toks){d g nest:Nat}:∀ (es:List PZ),es≠[]→(∀ x∈es,Pars toks d false x.pcs x.ce 0)→∀ (r:Nat) (kids:List Int) (st:PSt) (l:List Int × PSt),es.length≤r →
  listLoop toks (fun s=>run toks d g (.expr nest) s) r kids st=some l→st.fE=0→st.clause=false→AtP toks st.used (commaQ (es.map PZ.pcs)++[sgnP [41]]) →
  l.2.fE=23∨(l.2.fE=0∧∃ ids,l.1=kids++ids∧Lay st (argsPT (es.map PZ.ce)) ids l.2∧argsOk toks st.clause st.used (es.map PZ.ce))
 | [],h,_,_,_,_,_,_,_,_,_,_=>absurd rfl h
 | e :: es,_,h,0,_,_,_,hr,_,_,_,_=>absurd hr (by simp)
 | e :: es,_,h,r+1,kids,st,l,hr,hl,hf,hc,hA=>by
  rw [listLoop,if_neg (by simp [hf])] at hl
  obtain ⟨k,hk,hl⟩:=Option.bind_eq_some_iff.1 hl
  have he:=h e (by simp)
  cases es with
  | nil =>
   simp only [List.map_cons,List.map_nil,commaQ] at hA ⊢
   obtain ⟨k1,t1,u1⟩:=hA.right.head
   have h1:=he.does g nest st k hk hf hc hA.left (stop_text t1 (by decide))
   rcases h1 with h1|⟨h0,h1⟩
   ·left
    rw [if_neg (by rintro ⟨q,-⟩;rw [h1] at q;cases q)] at hl
    injection hl with hl
    subst hl
    exact h1
   ·right
    have hu:=h1.end_
    rw [he.len] at hu
    rw [if_neg (by rintro ⟨-,q⟩;rw [next_no (by rw [hu,t1];decide)] at q;cases q)] at hl
    injection hl with hl
    subst hl
    refine ⟨h0,[k.1],rfl,?_,?_⟩
    ·have:=(Lay.nil st).sub h1
     rw [argsPT_one];simpa using this
    ·rw [argsOk,argsOk];exact ⟨h1.2.2.1,trivial⟩
  | cons f es =>
   have ihh:∀ x∈f :: es,Pars toks d false x.pcs x.ce 0:=fun x hx=>h x (List.mem_cons_of_mem _ hx)
   have hA2:AtP toks st.used (e.pcs++([sgnP [44]]++(spP (commaQ ((f :: es).map PZ.pcs))++[sgnP [41]]))):=by
    have:commaQ ((e :: f :: es).map PZ.pcs)++[sgnP [41]]=e.pcs++([sgnP [44]]++(spP (commaQ ((f :: es).map PZ.pcs))++[sgnP [41]])):=by
     simp only [List.map_cons];rw [commaQ];simp
    rw [this] at hA
    exact hA
   obtain ⟨k1,t1,u1⟩:=hA2.right.left.head
   have h1:=he.does g nest st k hk hf hc hA2.left (stop_text t1 (by decide))
   rcases h1 with h1|⟨h0,h1⟩
   ·left
    rw [if_neg (by rintro ⟨q,-⟩;rw [h1] at q;cases q)] at hl
    injection hl with hl
    subst hl
    exact h1
   ·have hu:=h1.end_
    rw [he.len] at hu
    have hn:nextF toks k.2 [[44]]=true:=next_yes (.inr (by rw [hu,k1];rfl)) (by rw [hu,t1];decide)
    rw [if_pos ⟨h0,hn⟩] at hl
    have L1:=(Lay.nil st).sub h1
    have L2:=L1.leaf hE (next_kind hn)
    have hu2:=L2.used
    simp only [lvL,PT.lv,List.nil_append,List.cons_append,Nat.add_zero] at hu2
    rw [he.len] at hu2
    have e2:(leafM toks k.2).2.used=st.used+e.pcs.length+1:=by omega
    have hA3:AtP toks (leafM toks k.2).2.used (commaQ ((f :: es).map PZ.pcs)++[sgnP [41]]):=by
     rw [e2]
     have:=hA2.right.right
     have h3:=this.left.sp
     have h4:=this.right
     rw [sp_len] at h4
     simp only [List.length_singleton] at h3 h4
     refine ⟨?_,fun i hi=>?_⟩
     ·have:=this.1
      rw [List.length_append,sp_len] at this
      rw [List.length_append]
      exact this
     ·by_cases q:i<(commaQ ((f :: es).map PZ.pcs)).length
      ·rw [List.getElem_append_left q];exact h3.2 i q
      ·rw [List.getElem_append_right (by omega)]
       have h5:=h4.2 (i - (commaQ ((f :: es).map PZ.pcs)).length) (by rw [List.length_append] at hi;omega)
       rw [show st.used+e.pcs.length+1+(commaQ ((f :: es).map PZ.pcs)).length+(i - (commaQ ((f :: es).map PZ.pcs)).length)=st.used+e.pcs.length+1+i by omega] at h5
       exact h5
    rcases args_pars hE (f :: es) (by simp) ihh r _ _ l (by simpa using hr) hl (by rw [L2.fE,hf]) (by rw [L2.cl,hc]) hA3 with h3|⟨h30,ids,h3,h4,h5⟩
    ·exact .inl h3
    ·right
     refine ⟨h30,[k.1,(leafM toks k.2).1]++ids,by rw [h3];simp,?_,?_⟩
     ·simp only [List.map_cons] at h4 ⊢
      rw [argsPT_two]
      refine ⟨?_,?_⟩
      ·have:=L2.1.append h4.1
       simpa using this
      ·have i1:=L2.2
       have i2:=h4.2
       rw [L2.1.len] at i2
       rw [show e.ce.pt :: .leaf :: argsPT (f.ce :: es.map PZ.ce)=([]++[e.ce.pt]++[.leaf])++argsPT (f.ce :: es.map PZ.ce) by simp,idsL_append,← i1,← i2]
       simp
     ·simp only [List.map_cons] at h5 ⊢
      rw [argsOk]
      refine ⟨h1.2.2.1,?_⟩
      rw [L2.cl,e2] at h5
      rw [he.len]
      exact h5
theorem Pars.call {toks:List Tok}(hE:EndOk toks){d:Nat}{nm md:List UInt8}{es:List PZ}(hnm:nameB nm=true)(hmd:md=[]∨nameB md=true)(h8:es.length≤8)(h:∀ x∈es,Pars toks d false x.pcs x.ce 0∧Hd x.pcs 0) :
  Pars toks d false ((if md=[] then [] else [wordP md,sgnP [46]])++([wordP nm,sgnP [40]]++(commaQ (es.map PZ.pcs)++[sgnP [41]]))) (.call (decide (md≠[])) (es.map PZ.ce)) 9:=⟨by
 have hl:=args_lv es fun x hx=>(h x hx).1
 rw [CE.pt,PT.lv]
 by_cases hm:md=[]
 ·simp only [hm,ne_eq,not_true,decide_false,Bool.false_eq_true,if_false,if_true,lvL_append,lvL,PT.lv,hl,List.length_append,List.length_cons,List.length_nil];omega
 ·simp only [hm,ne_eq,not_false_eq_true,decide_true,if_true,if_false,lvL_append,lvL,PT.lv,hl,List.length_append,List.length_cons,List.length_nil];omega,fun g nest st r hr hf hc hA hS=>by
 have hp:=fun x hx=>(h x hx).1
 have hlv:=args_lv es hp
 obtain ⟨c0,hc0⟩:∃ c0:List Pc,c0=if md=[] then [] else [wordP md,sgnP [46]]:=⟨_,rfl⟩
 -- the first word
 have hk0:kindAt toks st.used=1:=by
  by_cases hm:md=[]
  ·rw [if_pos hm] at hA
   have:=(hA.right (a:=[])).head.1
   rw [(name_word hnm).1] at this
   simpa using this
  ·rw [if_neg hm] at hA
   have:=hA.left.head.1
   rw [(name_word (hmd.resolve_left hm)).1] at this
   exact this
 have hu1:st.used+1<toks.length:=by
  have:=hA.1
  simp only [List.length_append,List.length_cons,List.length_nil] at this
  omega
 cases g with
 | zero=>rw [tk9,run] at hr;cases hr
 | succ g =>
  have hr:=atom_name hr hf hk0
  cases g with
  | zero=>rw [run] at hr;cases hr
  | succ g =>
   have L:=(Lay.nil st).leaf hE (by rw [hk0];decide)
   have hu:=L.used
   simp only [lvL,PT.lv,List.nil_append,Nat.add_zero] at hu
   -- what stands behind the name's words
   obtain ⟨q,hq,q1,ids,q2,q3,q4,q5⟩:∃ q,qualM toks (leafM toks st)=q∧nextF toks (leafM toks st).2 [[46],[40]]=true∧∃ ids,q.1=ids∧Lay st (if md=[] then [.leaf] else [.leaf,.leaf,.leaf]) ids q.2 ∧
     AtP toks q.2.used ([sgnP [40]]++(commaQ (es.map PZ.pcs)++[sgnP [41]]))∧(if md=[] then textAt toks (st.used+1)=[40]∧q.2.used=st.used+1 else textAt toks (st.used+1)=[46]∧kindAt toks (st.used+2)=1∧q.2.used=st.used+3):=by
    by_cases hm:md=[]
    ·rw [if_pos hm,List.nil_append] at hA
     have A1:=hA.tail
     obtain ⟨k1,t1,u1⟩:=A1.head
     have k1':kindAt toks (st.used+1)=4:=k1
     have t1':textAt toks (st.used+1)=[40]:=t1
     have hno:nextF toks (leafM toks st).2 [[46]]=false:=next_no (by rw [hu,t1'];decide)
     refine ⟨_,rfl,next_yes (.inr (by rw [hu];exact k1')) (by rw [hu,t1'];decide),?_⟩
     rw [qualM,if_neg (by rw [hno];decide)]
     refine ⟨_,rfl,?_,?_,?_⟩
     ·rw [if_pos hm];exact L
     ·simp only [hu];exact A1
     ·rw [if_pos hm];exact ⟨t1',hu⟩
    ·rw [if_neg hm] at hA
     have A1:=hA.left.tail
     have A2:=hA.right
     obtain ⟨k1,t1,u1⟩:=A1.head
     have k1':kindAt toks (st.used+1)=4:=k1
     have t1':textAt toks (st.used+1)=[46]:=t1
     obtain ⟨k2,t2,u2⟩:=A2.head
     rw [(name_word hnm).1] at k2
     have k2':kindAt toks (st.used+2)=1:=k2
     have hn:nextF toks (leafM toks st).2 [[46]]=true:=next_yes (.inr (by rw [hu];exact k1')) (by rw [hu,t1'];decide)
     refine ⟨_,rfl,next_yes (.inr (by rw [hu];exact k1')) (by rw [hu,t1'];decide),?_⟩
     have L1:=L.leaf hE (next_kind hn)
     have hu2:=L1.used
     simp only [lvL,PT.lv,List.nil_append,List.cons_append,Nat.add_zero] at hu2
     have m1:kindM toks 1 (leafM toks (leafM toks st).2).2=leafM toks (leafM toks (leafM toks st).2).2:=kind_yes (by rw [L1.fE,hf]) (by rw [hu2];exact k2')
     have L2:=L1.leaf hE (by rw [hu2,show kindAt toks (st.used+(1+1))=1 from k2'];decide)
     have hu3:=L2.used
     simp only [lvL,PT.lv,List.nil_append,List.cons_append,Nat.add_zero] at hu3
     rw [qualM,if_pos hn,m1]
     refine ⟨_,rfl,?_,?_,?_⟩
     ·rw [if_neg hm];simpa using L2
     ·simp only [hu3];exact A2.tail
     ·rw [if_neg hm];exact ⟨t1',k2',by simp only [hu3]⟩
   rw [run,if_neg (by rintro (e|e);(rw [L.cl,hc] at e;cases e);(rw [q1] at e;cases e)),hq] at hr
   obtain ⟨l,hl,hr⟩:=Option.bind_eq_some_iff.1 hr
   injection hr with hr
   subst hr
   obtain ⟨k3,t3,u3⟩:=q4.head
   have m3:mustM toks [[40]] q.2=leafM toks q.2:=must_yes (by rw [q3.fE,hf]) (next_yes (.inr k3) (by rw [t3];decide))
   rw [m3] at hl ⊢
   have L3:=q3.leaf hE (by rw [k3];decide)
   have hu3:(leafM toks q.2).2.used=q.2.used+1:=by
    have a:=L3.used
    have b:=q3.used
    rw [lvL_append] at a
    simp only [lvL,PT.lv] at a
    omega
   have A4:AtP toks (q.2.used+1) (commaQ (es.map PZ.pcs)++[sgnP [41]]):=q4.tail
   rw [← hu3] at A4
   -- the arguments
   have key:l.2.fE=23∨(l.2.fE=0∧Lay (leafM toks q.2).2 (argsPT (es.map PZ.ce)) l.1 l.2∧argsOk toks (leafM toks q.2).2.clause (leafM toks q.2).2.used (es.map PZ.ce)):=by
    cases es with
    | nil =>
     simp only [List.map_nil,commaQ,List.nil_append] at A4
     obtain ⟨k5,t5,u5⟩:=A4.head
     rw [listM,if_pos (next_yes (.inr k5) (by rw [t5];decide))] at hl
     injection hl with hl
     subst hl
     right
     refine ⟨by rw [L3.fE,hf],?_,?_⟩
     ·simpa [argsPT] using Lay.nil _
     ·simp only [List.map_nil];rw [argsOk];trivial
    | cons e es =>
     obtain ⟨p,rr,e1,e2,-⟩:=(h e (by simp)).2
     have hhd:textAt toks (leafM toks q.2).2.used≠[41]:=by
      have:∃ z,commaQ ((e :: es).map PZ.pcs)++[sgnP [41]]=p :: z:=by
       cases es with
       | nil=>exact ⟨_,by simp only [List.map_cons,List.map_nil,commaQ];rw [e1,List.cons_append]⟩
       | cons f es=>exact ⟨_,by simp only [List.map_cons,commaQ];rw [e1,List.cons_append,List.cons_append]⟩
      obtain ⟨z,hz⟩:=this
      rw [hz] at A4
      rw [A4.head.2.1];exact e2
     rw [listM,if_neg (by rw [next_no (by rw [List.mem_singleton];exact hhd)];decide)] at hl
     rcases args_pars hE (e :: es) (by simp) hp 8 [] _ l h8 hl (by rw [L3.fE,hf]) (by rw [L3.cl,hc]) A4 with k|⟨k0,ids2,k1,k2,k3⟩
     ·exact .inl k
     ·rw [List.nil_append] at k1
      exact .inr ⟨k0,by rw [k1];exact k2,k3⟩
   rcases key with key|⟨key0,key1,key2⟩
   ·left
    have:=(mustM_ext toks [[41]] l.2).2.1 (by rw [key];decide)
    exact node_fault (by rw [this,key])
   ·have hul:=key1.used
    rw [hlv] at hul
    have A5:=A4.right
    obtain ⟨k6,t6,u6⟩:=A5.head
    rw [← hul] at k6 t6 u6
    have m6:mustM toks [[41]] l.2=leafM toks l.2:=must_yes key0 (next_yes (.inr k6) (by rw [t6];decide))
    rw [m6]
    have L4:Lay st ((if md=[] then [.leaf] else [.leaf,.leaf,.leaf])++[.leaf]++argsPT (es.map PZ.ce)) (ids++[(leafM toks q.2).1]++l.1) l.2:=⟨L3.1.append key1.1,by
     rw [idsL_append,← L3.2,key1.2,L3.1.len]⟩
    have L5:=L4.leaf hE (by rw [k6];decide)
    have hu5:(leafM toks l.2).2.used=l.2.used+1:=by
     have a:=L5.used
     have b:=L4.used
     rw [lvL_append] at a
     simp only [lvL,PT.lv] at a
     omega
    rw [q2]
    refine L5.node 13 hf ?_ ?_ (by rw [hu5];exact u6)
    ·rw [CE.pt]
     by_cases hm:md=[]
     ·simp [hm]
     ·simp [hm]
    ·rw [CE.ok]
     rw [L3.cl] at key2
     refine ⟨hc,hk0,by simpa using h8,?_⟩
     by_cases hm:md=[]
     ·rw [if_pos hm] at q5
      simp only [hm,ne_eq,not_true,decide_false,Bool.false_eq_true,if_false]
      rw [hu3,q5.2] at key2
      exact ⟨q5.1,key2⟩
     ·rw [if_neg hm] at q5
      simp only [hm,ne_eq,not_false_eq_true,decide_true,if_true]
      rw [hu3,q5.2.2] at key2
      exact ⟨q5.1,q5.2.1,key2⟩⟩
end Go.Proofs.YtdednahplodojaaGreatDoor
