/- Walks and plain laws: TreeLaws, ZedPlain, ExprPlain, FormPlain. -/
import Derived.Test.YtemkhbmkaalgdaaGreatDoorQ03
set_option maxHeartbeats 16000000
set_option maxRecDepth 100000
namespace Go.Proofs.YtemkhbmkaalgdaaGreatDoor
mutual
def PT.wf:PT→Prop
 | .leaf=>True
 | .node k l=>1≤k∧k≤18∧wfL l
def wfL:List PT→Prop
 | []=>True
 | t :: l=>t.wf∧wfL l
end
def tokR (u n:Nat):List Int:=(List.range' u n).map fun (k:Nat)=>(k:Int)
theorem tokR_add (u n m:Nat):tokR u (n+m)=tokR u n++tokR (u+n) m:=by
 unfold tokR
 rw [← List.map_append,← List.range'_append_1]
theorem repL_len {nodes:List Nd}:∀ {l:List PT} {ks:List Int} {u:Nat},RepL nodes ks u l→ks.length=l.length∧ks.length≤ndL l
 | [],ks,u,h=>by rw [RepL] at h;subst h;exact ⟨rfl,by simp⟩
 | t :: l,ks,u,h=>by
  rw [RepL] at h
  obtain ⟨k,ks',rfl,_,h2⟩:=h
  obtain ⟨a,b⟩:=repL_len h2
  have:=t.nd_pos
  rw [ndL]
  simp only [List.length_cons]
  omega
mutual
theorem leaves_rep {nodes:List Nd}:∀ (t:PT) (n:Int) (u g:Nat) (rest out:List Int),Rep nodes n u t→t.wf→rest.length+t.nd≤549755813888→leavesM nodes (g+t.nd) (n :: rest) out=leavesM nodes g rest (out++tokR u t.lv)
 | .leaf,n,u,g,rest,out,h,_,_=>by
  rw [Rep] at h
  rw [PT.nd,leavesM,if_neg (by omega),h.2,PT.lv]
  simp only [if_true]
  rfl
 | .node k l,n,u,g,rest,out,h,hw,hs=>by
  rw [Rep] at h
  obtain ⟨ks,h0,h1,h2⟩:=h
  rw [PT.wf] at hw
  obtain ⟨e1,e2⟩:=repL_len h2
  rw [PT.nd] at hs
  rw [PT.nd,← Nat.add_assoc,leavesM,if_neg (by omega),h1,PT.lv]
  simp only
  rw [if_neg (by omega),if_neg (by rw [List.length_append];omega)]
  exact leaves_repL l ks u g rest out h2 hw.2.2 (by omega)
theorem leaves_repL {nodes:List Nd}:∀ (l:List PT) (ks:List Int) (u g:Nat) (rest out:List Int),RepL nodes ks u l→wfL l→rest.length+ndL l≤549755813888→leavesM nodes (g+ndL l) (ks++rest) out=leavesM nodes g rest (out++tokR u (lvL l))
 | [],ks,u,g,rest,out,h,_,_=>by
  rw [RepL] at h
  subst h
  simp [ndL,lvL,tokR]
 | t :: l,ks,u,g,rest,out,h,hw,hs=>by
  rw [RepL] at h
  obtain ⟨k,ks',rfl,h1,h2⟩:=h
  rw [wfL] at hw
  rw [ndL] at hs
  have hp:=t.nd_pos
  have hk:=(repL_len h2).2
  rw [ndL,lvL,tokR_add,List.cons_append,show g+(t.nd+ndL l)=(g+ndL l)+t.nd by omega,leaves_rep t k u _ _ _ h1 hw.1 (by rw [List.length_append];omega),leaves_repL l ks' _ g rest _ h2 hw.2 (by omega),List.append_assoc]
end
mutual
theorem dump_rep {toks:List Tok}{nodes:List Nd}:∀ (t:PT) (n:Int) (u g:Nat),Rep nodes n u t→t.wf→u+t.lv≤toks.length→dumpM toks nodes (g+t.nd) n=some (t.dump toks u)
 | .leaf,n,u,g,h,_,hl=>by
  rw [Rep] at h
  rw [PT.lv] at hl
  rw [PT.nd,dumpM,if_neg (by omega),h.2,PT.dump]
  simp only [if_true]
  rw [if_neg (by omega),Int.toNat_natCast,peekF,Nat.min_eq_left (by omega),List.getElem?_eq_getElem (by omega),List.getD_eq_getElem?_getD,List.getElem?_eq_getElem (by omega)]
  rfl
 | .node k l,n,u,g,h,hw,hl=>by
  rw [Rep] at h
  obtain ⟨ks,h0,h1,h2⟩:=h
  rw [PT.wf] at hw
  rw [PT.lv] at hl
  rw [PT.nd,← Nat.add_assoc,dumpM,if_neg (by omega),h1,PT.dump]
  simp only
  rw [if_neg (by omega),dump_repL l ks u g h2 hw.2.2 hl]
  simp
theorem dump_repL {toks:List Tok}{nodes:List Nd}:∀ (l:List PT) (ks:List Int) (u g:Nat),RepL nodes ks u l→wfL l→u+lvL l≤toks.length→dumpKids (dumpM toks nodes (g+ndL l)) ks=some (dumpL toks u l)
 | [],ks,u,g,h,_,_=>by
  rw [RepL] at h
  subst h
  rw [dumpKids,dumpL]
 | t :: l,ks,u,g,h,hw,hl=>by
  rw [RepL] at h
  obtain ⟨k,ks',rfl,h1,h2⟩:=h
  rw [wfL] at hw
  rw [lvL] at hl
  have e1:=dump_rep (toks:=toks) t k u (g+ndL l) h1 hw.1 (by omega)
  have e2:=dump_repL (toks:=toks) l ks' (u+t.lv) (g+t.nd) h2 hw.2 (by omega)
  rw [show g+ndL l+t.nd=g+ndL (t :: l) by rw [ndL];omega] at e1
  rw [show g+t.nd+ndL l=g+ndL (t :: l) by rw [ndL];omega] at e2
  rw [dumpKids,e1,Option.bind_some,e2,Option.bind_some,dumpL]
end
def unmL:List PT→List Bool
 | []=>[]
 | t :: l=>List.replicate (t.nd - 1) true++[false]++unmL l
theorem mark_ids:∀ (l:List PT) (A R:List Bool) (b:Nat),A.length=b→markF (A++unmL l++R) (idsL b l)=some (A++List.replicate (ndL l) true++R)
 | [],A,R,b,_=>by simp [unmL,idsL,markF,ndL]
 | t :: l,A,R,b,hA=>by
  have hp:=t.nd_pos
  have e:(((b+t.nd:Nat):Int) - 1).toNat=(A++List.replicate (t.nd - 1) true).length:=by simp;omega
  rw [idsL,markF,e,unmL]
  have e2:A++(List.replicate (t.nd - 1) true++[false]++unmL l)++R=(A++List.replicate (t.nd - 1) true)++false :: (unmL l++R):=by simp
  rw [e2,if_neg (by simp),List.set_append_right _ _ (Nat.le_refl _),Nat.sub_self,List.set_cons_zero]
  have ih:=mark_ids l (A++List.replicate (t.nd - 1) true++[true]) R (b+t.nd) (by simp;omega)
  have e3:A++List.replicate (t.nd - 1) true++[true]++unmL l++R=A++List.replicate (t.nd - 1) true++true :: (unmL l++R):=by simp
  rw [e3] at ih
  rw [ih,ndL]
  have e4:List.replicate (t.nd - 1) true++[true]=List.replicate t.nd true:=by
   conv=>rhs;rw [show t.nd=(t.nd - 1)+1 by omega,List.replicate_succ']
  congr 1
  rw [List.append_assoc A,e4,← List.replicate_append_replicate,List.append_assoc,List.append_assoc,List.append_assoc,List.append_assoc]
theorem ids_any (b:Nat)(l:List PT):(idsL b l).any (fun k=>decide (k<0) || decide (((b+ndL l:Nat):Int)≤k))=false:=by
 rw [← Bool.not_eq_true,List.any_eq_true]
 rintro ⟨x,hx,hy⟩
 have:=idsL_range _ _ _ hx
 simp only [Bool.or_eq_true,decide_eq_true_eq] at hy
 omega
mutual
theorem marks_em (nt:Nat):∀ (t:PT) (b u:Nat) (A:List Bool) (m:Nat) (more:List Nd),t.wf→A.length=b→u+t.lv≤nt →
  marksF nt b (t.em b u++more) (A++List.replicate (t.nd+m) false)=marksF nt (b+t.nd) more (A++List.replicate (t.nd - 1) true++[false]++List.replicate m false)
 | .leaf,b,u,A,m,more,_,_,hu=>by
  rw [PT.lv] at hu
  rw [PT.em,PT.nd,List.cons_append,List.nil_append,marksF,if_pos]
  ·rw [markF,Option.bind_some,Nat.add_comm 1 m,List.replicate_succ]
   simp
  ·simp [formedB]
   omega
 | .node k l,b,u,A,m,more,hw,hA,hu=>by
  rw [PT.wf] at hw
  rw [PT.lv] at hu
  have h:=marks_emL nt l b u A (1+m) ([⟨k,-1,idsL b l⟩]++more) hw.2.2 hA hu
  rw [PT.em,PT.nd,List.append_assoc,show ndL l+1+m=ndL l+(1+m) by omega,h,List.cons_append,List.nil_append,marksF,if_pos]
  ·rw [mark_ids l A _ b hA,Option.bind_some,Nat.add_comm 1 m,List.replicate_succ]
   simp [Nat.add_assoc]
  ·unfold formedB
   rw [if_neg (by simp only;omega),if_neg (by simp only;omega)]
   simp only [ids_any]
   rfl
theorem marks_emL (nt:Nat):∀ (l:List PT) (b u:Nat) (A:List Bool) (m:Nat) (more:List Nd),wfL l→A.length=b→u+lvL l≤nt →
  marksF nt b (emL b u l++more) (A++List.replicate (ndL l+m) false)=marksF nt (b+ndL l) more (A++unmL l++List.replicate m false)
 | [],b,u,A,m,more,_,_,_=>by simp [emL,ndL,unmL]
 | t :: l,b,u,A,m,more,hw,hA,hu=>by
  rw [wfL] at hw
  rw [lvL] at hu
  have hp:=t.nd_pos
  have h1:=marks_em nt t b u A (ndL l+m) (emL (b+t.nd) (u+t.lv) l++more) hw.1 hA (by omega)
  have h2:=marks_emL nt l (b+t.nd) (u+t.lv) (A++List.replicate (t.nd - 1) true++[false]) m more hw.2 (by simp;omega) (by omega)
  rw [emL,ndL,List.append_assoc,Nat.add_assoc,h1,h2,unmL,Nat.add_assoc]
  simp
end
theorem counts_range:∀ (n u:Nat),countsB u (tokR u n)=true
 | 0,u=>by simp [tokR,countsB]
 | n+1,u=>by
  have h:=counts_range n (u+1)
  simp only [tokR,List.range'_succ,List.map_cons,countsB] at h ⊢
  simp [h]
theorem right_em (t:PT)(hw:t.wf)(nt:Nat)(h:t.lv=nt):rightB nt (t.em 0 0) (tokR 0 nt)=true:=by
 have hp:=t.nd_pos
 have h1:=marks_em nt t 0 0 [] 0 [] hw rfl (by omega)
 rw [List.append_nil,List.nil_append,Nat.add_zero,marksF] at h1
 have h2:marksAll nt (t.em 0 0)=some (List.replicate (t.nd - 1) true++[false]):=by
  rw [marksAll,PT.em_len,h1];simp
 unfold rightB
 rw [h2]
 simp only [PT.em_len,counts_range,Bool.and_true]
 rw [List.take_append_of_le_length (by simp),List.take_of_length_le (by simp)]
 have h3:(List.replicate (t.nd - 1) true).contains false=false:=by
  rw [← Bool.not_eq_true,List.contains_iff_mem,List.mem_replicate]
  simp
 rw [h3]
 simp [tokR]
theorem leaves_em (t:PT)(hw:t.wf)(h:t.nd≤549755813888):leavesM (t.em 0 0) (t.nd+1) [((t.nd:Nat):Int) - 1] []=some (tokR 0 t.lv):=by
 have hr:=Rep.em (pre:=[]) t 0 0 rfl
 rw [List.nil_append,Nat.zero_add] at hr
 rw [Nat.add_comm,leaves_rep t _ 0 1 [] [] hr hw (by simpa using h),leavesM,List.nil_append]
theorem dump_em (toks:List Tok)(t:PT)(hw:t.wf)(h:t.lv≤toks.length):dumpM toks (t.em 0 0) t.nd (((t.nd:Nat):Int) - 1)=some (t.dump toks 0):=by
 have hr:=Rep.em (pre:=[]) t 0 0 rfl
 rw [List.nil_append,Nat.zero_add] at hr
 have:=dump_rep (toks:=toks) t _ 0 0 hr hw (by omega)
 rw [Nat.zero_add] at this
 exact this
mutual
theorem CE.wf:∀ e:CE,e.pt.wf
 | .num=>by simp [CE.pt,PT.wf,wfL]
 | .truth=>by simp [CE.pt,PT.wf,wfL]
 | .res=>by simp [CE.pt,PT.wf,wfL]
 | .nam=>by simp [CE.pt,PT.wf,wfL]
 | .group e=>by simp [CE.pt,PT.wf,wfL,CE.wf e]
 | .un e=>by simp [CE.pt,PT.wf,wfL,CE.wf e]
 | .bin a b=>by simp [CE.pt,PT.wf,wfL,CE.wf a,CE.wf b]
 | .iff a b c=>by simp [CE.pt,PT.wf,wfL,CE.wf a,CE.wf b,CE.wf c]
 | .lett a b=>by simp [CE.pt,PT.wf,wfL,CE.wf a,CE.wf b]
 | .asrt a b=>by simp [CE.pt,PT.wf,wfL,CE.wf a,CE.wf b]
 | .call q l=>by
  have h:=argsWf l
  have e:∀ (a b:List PT),wfL a→wfL b→wfL (a++b):=fun a b ha hb=>by
   induction a with
   | nil=>exact hb
   | cons x a ih=>rw [wfL] at ha;rw [List.cons_append,wfL];exact ⟨ha.1,ih ha.2⟩
  rw [CE.pt,PT.wf]
  refine ⟨by omega,by omega,e _ _ (e _ _ (e _ _ ?_ (by simp [wfL,PT.wf])) h) (by simp [wfL,PT.wf])⟩
  cases q <;> simp [wfL,PT.wf]
theorem argsWf:∀ l:List CE,wfL (argsPT l)
 | []=>by simp [argsPT,wfL]
 | [e]=>by simp [argsPT,wfL,CE.wf e]
 | e :: f :: l=>by
  rw [argsPT_two,wfL,wfL]
  exact ⟨CE.wf e,by simp [PT.wf],argsWf (f :: l)⟩
end
def wB:Nat:=4294967296
def magV:List Nat→Nat
 | []=>0
 | d :: l=>d+4294967296 * magV l
def trimW:List Nat→List Nat
 | []=>[]
 | d :: l=>if trimW l=[]∧d=0 then [] else d :: trimW l
theorem magV_trim:∀ l,magV (trimW l)=magV l
 | []=>rfl
 | d :: l=>by
  rw [trimW]
  split
  ·rename_i h
   have:=magV_trim l
   rw [h.1] at this
   rw [magV,magV,← this,h.2]
   rfl
  ·rw [magV,magV_trim l,magV]
theorem trimW_zero:∀ l,magV l=0→trimW l=[]
 | [],_=>rfl
 | d :: l,h=>by
  rw [magV] at h
  rw [trimW,if_pos ⟨trimW_zero l (by omega),by omega⟩]
theorem trimW_len:∀ l,(trimW l).length≤l.length
 | []=>Nat.le_refl _
 | d :: l=>by
  have:=trimW_len l
  rw [trimW]
  split <;> simp
  exact this
theorem trimW_mem:∀ (l:List Nat) (x:Nat),x∈trimW l→x∈l
 | [],x,h=>h
 | d :: l,x,h=>by
  rw [trimW] at h
  split at h
  ·cases h
  ·rcases List.mem_cons.1 h with rfl|h
   ·exact List.mem_cons_self
   ·exact List.mem_cons_of_mem _ (trimW_mem l x h)
theorem trimW_idem:∀ l,trimW (trimW l)=trimW l
 | []=>rfl
 | d :: l=>by
  rw [trimW]
  split
  ·rfl
  ·rename_i h
   rw [trimW,trimW_idem l,if_neg h]
theorem trimW_pos {l:List Nat}(h:trimW l=l)(hl:l≠[]):0<magV l:=by
 apply Nat.pos_of_ne_zero
 intro q
 exact hl (by rw [← h,trimW_zero l q])
theorem trimW_take:∀ (l:List Nat),∃ n,n≤l.length∧trimW l=l.take n∧(∀ j,n≤j→(h:j<l.length)→l[j]=0)∧(∀ j,j+1=n→(h:j<l.length)→l[j]≠0)
 | []=>⟨0,Nat.le_refl _,rfl,fun j _ h=>absurd h (by simp),fun j h=>by omega⟩
 | d :: l=>by
  obtain ⟨n,h1,h2,h3,h4⟩:=trimW_take l
  rw [trimW]
  split
  ·rename_i h
   have hn:n=0∨l=[]:=by
    have:(l.take n).length=0:=by rw [← h2,h.1];rfl
    rw [List.length_take] at this
    rcases Nat.eq_zero_or_pos n with q|q
    ·exact .inl q
    ·exact .inr (List.length_eq_zero_iff.1 (by omega))
   refine ⟨0,Nat.zero_le _,rfl,fun j _ hj=>?_,fun j hj=>by omega⟩
   cases j with
   | zero=>exact h.2
   | succ j =>
    simp only [List.length_cons] at hj
    rcases hn with q|q
    ·simpa using h3 j (by omega) (by omega)
    ·subst q;simp at hj
  ·rename_i h
   refine ⟨n+1,by simpa using h1,by rw [h2,List.take_succ_cons],fun j hj hl=>?_,fun j hj hl=>?_⟩
   ·cases j with
    | zero=>omega
    | succ j=>simpa using h3 j (by omega) (by simpa using hl)
   ·cases j with
    | zero =>
     obtain rfl:n=0:=by omega
     intro q
     exact h ⟨by rw [h2];rfl,q⟩
    | succ j=>simpa using h4 j (by omega) (by simpa using hl)
def scaleF (by_:Nat):List Nat→Nat→List Nat
 | [],more=>[more % 4294967296]
 | d :: l,more=>(more+d * by_) % 4294967296 :: scaleF by_ l ((more+d * by_) / 4294967296)
theorem scaleF_len (b:Nat):∀ (l:List Nat) (m:Nat),(scaleF b l m).length=l.length+1
 | [],_=>rfl
 | d :: l,m=>by rw [scaleF,List.length_cons,scaleF_len b l,List.length_cons]
theorem scaleF_lt (b:Nat):∀ (l:List Nat) (m x:Nat),x∈scaleF b l m→x<4294967296
 | [],m,x,h=>by rw [scaleF,List.mem_singleton] at h;omega
 | d :: l,m,x,h=>by
  rw [scaleF] at h
  rcases List.mem_cons.1 h with rfl|h
  ·omega
  ·exact scaleF_lt b l _ x h
theorem carry_le {d b m:Nat}(hd:d<4294967296)(hb:b≤1000000000)(hm:m≤1000000000):m+d * b≤4294967295000000000+1000000000∧(m+d * b) / 4294967296≤1000000000:=by
 have h1:d * b≤4294967295 * 1000000000:=Nat.mul_le_mul (by omega) hb
 omega
theorem magV_scale (b:Nat)(hb:b≤1000000000):∀ (l:List Nat) (m:Nat),(∀ x∈l,x<4294967296)→m≤1000000000→magV (scaleF b l m)=magV l * b+m
 | [],m,_,hm=>by
  rw [scaleF,magV,magV,magV,Nat.mod_eq_of_lt (by omega)]
  omega
 | d :: l,m,hl,hm=>by
  have hc:=carry_le (hl d List.mem_cons_self) hb hm
  have ih:=magV_scale b hb l _ (fun x hx=>hl x (List.mem_cons_of_mem _ hx)) hc.2
  rw [scaleF,magV,ih,magV]
  have:=Nat.div_add_mod (m+d * b) 4294967296
  generalize (m+d * b) / 4294967296=q at *
  generalize (m+d * b) % 4294967296=r at *
  have e:(d+4294967296 * magV l) * b+m=m+d * b+4294967296 * (magV l * b):=by
   rw [Nat.add_mul,Nat.mul_assoc];omega
  rw [e,← this]
  omega
theorem snoc_ind {α:Type}{P:List α→Prop}(h0:P [])(h1:∀ (l:List α) (c:α),P l→P (l++[c]))(l:List α):P l:=by
 have h:∀ (r:List α),P r.reverse:=fun r=>by
  induction r with
  | nil=>exact h0
  | cons c r ih=>rw [List.reverse_cons];exact h1 _ _ ih
 have:=h l.reverse
 rwa [List.reverse_reverse] at this
def decV (l:List UInt8):Nat:=l.foldl (fun a c=>a * 10+(c.toNat - 48)) 0
theorem decV_snoc (l:List UInt8)(c:UInt8):decV (l++[c])=decV l * 10+(c.toNat - 48):=by
 unfold decV;rw [List.foldl_append];rfl
theorem decV_append:∀ (b a:List UInt8),decV (a++b)=decV a * 10 ^ b.length+decV b:=by
 refine snoc_ind ?_ ?_
 ·intro a;simp [decV]
 ·intro b c ih a
  rw [← List.append_assoc,decV_snoc,ih,decV_snoc,List.length_append,List.length_singleton,Nat.pow_succ,Nat.add_mul,← Nat.mul_assoc,Nat.add_assoc]
def digitsB (l:List UInt8):Bool:=l.all fun c=>decide (48≤c.toNat) && decide (c.toNat≤57)
theorem decV_lt:∀ (l:List UInt8),digitsB l=true→decV l<10 ^ l.length:=by
 refine snoc_ind ?_ ?_
 ·intro _;decide
 ·intro l c ih h
  rw [digitsB,List.all_append,Bool.and_eq_true] at h
  have h1:=ih h.1
  have h2:=h.2
  simp only [List.all_cons,List.all_nil,Bool.and_true,Bool.and_eq_true,decide_eq_true_eq] at h2
  rw [decV_snoc,List.length_append,List.length_singleton,Nat.pow_succ]
  omega
theorem pow_le9 {n:Nat}(h:n≤9):10 ^ n≤1000000000:=Nat.pow_le_pow_right (by omega) h
def shortF (b:Nat):List Nat→List Nat × Nat
 | []=>([],0)
 | d :: l=>(((shortF b l).2 * 4294967296+d) / b :: (shortF b l).1,((shortF b l).2 * 4294967296+d) % b)
theorem shortF_len (b:Nat):∀ l,(shortF b l).1.length=l.length
 | []=>rfl
 | d :: l=>by rw [shortF,List.length_cons,shortF_len b l,List.length_cons]
theorem shortF_rest (b:Nat)(hb:0<b):∀ l,(shortF b l).2<b
 | []=>hb
 | _d :: _l=>Nat.mod_lt _ hb
theorem shortF_val (b:Nat):∀ l,magV l=magV (shortF b l).1 * b+(shortF b l).2
 | []=>by simp [shortF,magV]
 | d :: l=>by
  rw [shortF]
  simp only
  have ih:=shortF_val b l
  have:=Nat.div_add_mod ((shortF b l).2 * 4294967296+d) b
  rw [magV,magV,ih]
  generalize ((shortF b l).2 * 4294967296+d) / b=q at *
  generalize ((shortF b l).2 * 4294967296+d) % b=r at *
  generalize magV (shortF b l).1=M at *
  generalize (shortF b l).2=s at *
  rw [Nat.add_mul,Nat.mul_assoc,Nat.mul_comm q b]
  omega
theorem shortF_lt (b:Nat)(hb:0<b):∀ l,(∀ x∈l,x<4294967296)→∀ x∈(shortF b l).1,x<4294967296
 | [],_,x,h=>by cases h
 | d :: l,hl,x,h=>by
  rw [shortF] at h
  simp only at h
  rcases List.mem_cons.1 h with rfl|h
  ·have h1:=shortF_rest b hb l
   have h2:=hl d List.mem_cons_self
   rw [Nat.div_lt_iff_lt_mul hb]
   have:((shortF b l).2+1) * 4294967296≤b * 4294967296:=Nat.mul_le_mul_right _ h1
   rw [Nat.mul_comm 4294967296 b]
   omega
  ·exact shortF_lt b hb l (fun x hx=>hl x (List.mem_cons_of_mem _ hx)) x h
def lowD:Nat→Nat→List UInt8
 | 0,_=>[]
 | k+1,n=>UInt8.ofNat (48+n % 10) :: lowD k (n / 10)
theorem lowD_add:∀ (k j n:Nat),lowD (k+j) n=lowD k n++lowD j (n / 10 ^ k)
 | 0,j,n=>by simp [lowD]
 | k+1,j,n=>by
  rw [show k+1+j=(k+j)+1 by omega,lowD,lowD,lowD_add k j,List.cons_append,Nat.div_div_eq_div_mul,← Nat.pow_succ']
theorem lowD_snoc (k n:Nat):lowD (k+1) n=lowD k n++[UInt8.ofNat (48+n / 10 ^ k % 10)]:=by
 rw [lowD_add k 1];rfl
theorem lowD_mod:∀ (k j n:Nat),k≤j→lowD k (n % 10 ^ j)=lowD k n
 | 0,_,_,_=>rfl
 | k+1,0,_,h=>absurd h (by omega)
 | k+1,j+1,n,h=>by
  have e1:n % 10 ^ (j+1) % 10=n % 10:=Nat.mod_mod_of_dvd _ ⟨10 ^ j,by rw [Nat.pow_succ,Nat.mul_comm]⟩
  have e2:n % 10 ^ (j+1) / 10=n / 10 % 10 ^ j:=by
   rw [Nat.pow_succ,Nat.mul_comm,Nat.mod_mul_right_div_self]
  rw [lowD,lowD,e1,e2,lowD_mod k j _ (by omega)]
theorem lowD_zero:∀ k,lowD k 0=List.replicate k 48
 | 0=>rfl
 | k+1=>by rw [lowD,Nat.zero_div,lowD_zero k,List.replicate_succ];rfl
theorem decF_rev (n:Nat):∃ k,decF n=(lowD (k+1) n).reverse∧n<10 ^ (k+1)∧(n=0→k=0)∧(0<n→10 ^ k≤n):=by
 induction n using Nat.strongRecOn with
 | _ n ih =>
  rw [decF]
  split
  ·rename_i h
   refine ⟨0,?_,by omega,fun _=>rfl,fun h=>by omega⟩
   rw [lowD,lowD,Nat.mod_eq_of_lt h]
   rfl
  ·rename_i h
   obtain ⟨k,h1,h2,h3,h4⟩:=ih (n / 10) (by omega)
   refine ⟨k+1,?_,?_,fun q=>by omega,fun _=>?_⟩
   ·rw [lowD,List.reverse_cons,h1]
   ·rw [Nat.pow_succ];omega
   ·have:=h4 (by omega)
    rw [Nat.pow_succ];omega
def trimZ (l:List UInt8):List UInt8:=(l.reverse.dropWhile (· == 48)).reverse
theorem digit_byte {d:Nat}(h:d<10):(UInt8.ofNat (48+d)).toNat=48+d:=by
 rw [UInt8.toNat_ofNat'];omega
theorem low_text (n k:Nat)(h0:0<n)(hk:n<10 ^ k):(trimZ (lowD k n)).reverse=decF n:=by
 obtain ⟨j,h1,h2,_,h4⟩:=decF_rev n
 have hj:j+1≤k:=by
  have:=h4 h0
  have h5:10 ^ j<10 ^ k:=by omega
  have:=(Nat.pow_lt_pow_iff_right (by omega:1<10)).1 h5
  omega
 rw [trimZ,List.reverse_reverse,h1]
 have e:lowD k n=lowD (j+1) n++List.replicate (k - (j+1)) 48:=by
  conv=>lhs;rw [show k=(j+1)+(k - (j+1)) by omega,lowD_add,Nat.div_eq_of_lt h2,lowD_zero]
 rw [e,List.reverse_append,List.reverse_replicate]
 have e2:∀ (m:Nat) (l:List UInt8),(List.replicate m (48:UInt8)++l).dropWhile (· == 48)=l.dropWhile (· == 48):=fun m l=>by
  induction m with
  | zero=>simp
  | succ m ih=>rw [List.replicate_succ,List.cons_append,List.dropWhile_cons_of_pos (by decide),ih]
 rw [e2,lowD_snoc,List.reverse_append,List.reverse_singleton,List.singleton_append,List.dropWhile_cons_of_neg]
 have h6:0<n / 10 ^ j:=Nat.div_pos (h4 h0) (Nat.pow_pos (by omega))
 have h7:n / 10 ^ j<10:=by rw [Nat.div_lt_iff_lt_mul (Nat.pow_pos (by omega)),Nat.mul_comm,← Nat.pow_succ];exact h2
 rw [Nat.mod_eq_of_lt h7]
 intro q
 have:=congrArg UInt8.toNat (eq_of_beq q)
 rw [digit_byte h7] at this
 simp at this
 omega
theorem dec_text:∀ (l:List UInt8),digitsB l=true→l≠[]→(l.head?=some 48→l.length=1)→decF (decV l)=l:=by
 refine snoc_ind ?_ ?_
 ·intro _ h;exact absurd rfl h
 ·intro l c ih hd _ hh
  rw [digitsB,List.all_append,Bool.and_eq_true] at hd
  have hc:=hd.2
  simp only [List.all_cons,List.all_nil,Bool.and_true,Bool.and_eq_true,decide_eq_true_eq] at hc
  have e:UInt8.ofNat (48+(c.toNat - 48))=c:=by
   rw [show 48+(c.toNat - 48)=c.toNat by omega];exact UInt8.ofNat_toNat
  rw [decV_snoc,decF]
  by_cases hl:l=[]
  ·subst hl
   have:decV []=0:=rfl
   rw [this,dif_pos (by omega),Nat.zero_mul,Nat.zero_add,e]
   rfl
  ·have hne:l.head?≠some 48:=fun q=>by
    have:=hh (by rw [List.head?_append,q];rfl)
    rw [List.length_append,List.length_singleton] at this
    exact hl (List.length_eq_zero_iff.1 (by omega))
   have ih':=ih hd.1 hl (fun q=>absurd q hne)
   have hpos:0<decV l:=by
    apply Nat.pos_of_ne_zero
    intro q
    rw [q] at ih'
    have:l=[48]:=by rw [← ih'];rw [decF];simp
    exact hne (by rw [this];rfl)
   rw [dif_neg (by omega),show (decV l * 10+(c.toNat - 48)) / 10=decV l by omega,show (decV l * 10+(c.toNat - 48)) % 10=c.toNat - 48 by omega,ih',e]
inductive PE where
 | mk (op:Nat) (name module:List UInt8) (num:Int) (txt:List UInt8) (yes:Bool) (kids:List PE) (at_:Nat)
def PE.op:PE→Nat | .mk o _ _ _ _ _ _ _=>o
def PE.name:PE→List UInt8 | .mk _ n _ _ _ _ _ _=>n
def PE.module:PE→List UInt8 | .mk _ _ m _ _ _ _ _=>m
def PE.num:PE→Int | .mk _ _ _ n _ _ _ _=>n
def PE.txt:PE→List UInt8 | .mk _ _ _ _ t _ _ _=>t
def PE.yes:PE→Bool | .mk _ _ _ _ _ y _ _=>y
def PE.kids:PE→List PE | .mk _ _ _ _ _ _ k _=>k
def PE.at_:PE→Nat | .mk _ _ _ _ _ _ _ a=>a
def intF (n:Int):List UInt8:=(if n<0 then [45] else [])++decF n.natAbs
def headF (op:Nat)(name module num:List UInt8)(yes:Bool):List UInt8 :=
 [91]++decF op++(if module≠[] then [32]++module++[46]++name else if name≠[] then [32]++name else [])
  ++ (if op=1 then [32]++num else [])++(if op=2 then (if yes=true then [32,116,114,117,101] else [32,102,97,108,115,101]) else [])
mutual
def PE.dump:PE→List UInt8
 | .mk op name module num _ yes kids _=>headF op name module (intF num) yes++dumpE kids++[93]
def dumpE:List PE→List UInt8
 | []=>[]
 | e :: l=>[32]++e.dump++dumpE l
end
mutual
def PE.dumpT:PE→List UInt8
 | .mk op name module _ txt yes kids _=>headF op name module txt yes++dumpTE kids++[93]
def dumpTE:List PE→List UInt8
 | []=>[]
 | e :: l=>[32]++e.dumpT++dumpTE l
end
mutual
def PE.ats:PE→List Int
 | .mk _ _ _ _ _ _ kids a=>(a:Int) :: atsE kids
def atsE:List PE→List Int
 | []=>[]
 | e :: l=>e.ats++atsE l
end
mutual
def PE.told:PE→Prop
 | .mk op _ _ num txt _ kids _=>(op=1→txt=intF num)∧toldE kids
def toldE:List PE→Prop
 | []=>True
 | e :: l=>e.told∧toldE l
end
mutual
theorem PE.dump_told:∀ {e:PE},e.told→e.dumpT=e.dump
 | .mk op name module num txt yes kids a,h=>by
  rw [PE.told] at h
  rw [PE.dumpT,PE.dump,dumpE_told h.2]
  by_cases h1:op=1
  ·rw [h.1 h1]
  ·simp only [headF,if_neg h1]
theorem dumpE_told:∀ {l:List PE},toldE l→dumpTE l=dumpE l
 | [],_=>by rw [dumpTE,dumpE]
 | e :: l,h=>by
  rw [toldE] at h
  rw [dumpTE,dumpE,PE.dump_told h.1,dumpE_told h.2]
end
def placeAt (toks:List Tok)(u:Nat):Nat:=(peekF toks u).place
mutual
def CE.pe (toks:List Tok)(u:Nat):CE→PE
 | .num=>.mk 1 [] [] (decV (textAt toks u):Nat) (textAt toks u) false [] (placeAt toks u)
 | .truth=>.mk 2 [] [] 0 [] (decide (textAt toks u=tTrue)) [] (placeAt toks u)
 | .res=>.mk 4 [] [] 0 [] false [] (placeAt toks u)
 | .nam=>.mk 3 (textAt toks u) [] 0 [] false [] (placeAt toks u)
 | .group e=>e.pe toks (u+1)
 | .un e=>.mk (if textAt toks u=tNot then 6 else 5) [] [] 0 [] false [e.pe toks (u+1)] (placeAt toks u)
 | .bin a b=>.mk (7+binL.idxOf (textAt toks (u+a.pt.lv))) [] [] 0 [] false [a.pe toks u,b.pe toks (u+a.pt.lv+1)] (placeAt toks (u+a.pt.lv))
 | .iff a b c=>.mk 21 [] [] 0 [] false [a.pe toks (u+1),b.pe toks (u+1+a.pt.lv+1),c.pe toks (u+1+a.pt.lv+1+b.pt.lv+1)] (placeAt toks u)
 | .lett a b=>.mk 22 (textAt toks (u+1)) [] 0 [] false [a.pe toks (u+3),b.pe toks (u+3+a.pt.lv+1)] (placeAt toks u)
 | .asrt a b=>.mk 23 [] [] 0 [] false [a.pe toks (u+1),b.pe toks (u+1+a.pt.lv+1)] (placeAt toks u)
 | .call q l=>if q=true then .mk 24 (textAt toks (u+2)) (textAt toks u) 0 [] false (argsPE toks (u+4) l) (placeAt toks u) else .mk 24 (textAt toks u) [] 0 [] false (argsPE toks (u+2) l) (placeAt toks u)
def argsPE (toks:List Tok)(u:Nat):List CE→List PE
 | []=>[]
 | e :: l=>e.pe toks u :: argsPE toks (u+e.pt.lv+1) l
end
def NumsOk (toks:List Tok):Prop:=∀ u,kindAt toks u=3→decF (decV (textAt toks u))=textAt toks u
theorem intF_nat (n:Nat):intF (n:Int)=decF n:=by
 unfold intF
 rw [if_neg (by omega),List.nil_append,Int.natAbs_natCast]
mutual
theorem CE.told {toks:List Tok}(hN:NumsOk toks){cl:Bool}:∀ (e:CE) (u:Nat),e.ok toks cl u→(e.pe toks u).told
 | .num,u,h=>by
  rw [CE.ok] at h
  rw [CE.pe,PE.told]
  exact ⟨fun _=>by rw [intF_nat,hN u h],trivial⟩
 | .truth,u,h=>by rw [CE.pe,PE.told];exact ⟨fun q=>absurd q (by decide),trivial⟩
 | .res,u,h=>by rw [CE.pe,PE.told];exact ⟨fun q=>absurd q (by decide),trivial⟩
 | .nam,u,h=>by rw [CE.pe,PE.told];exact ⟨fun q=>absurd q (by decide),trivial⟩
 | .group e,u,h=>by rw [CE.ok] at h;rw [CE.pe];exact CE.told hN e _ h.2
 | .un e,u,h=>by
  rw [CE.ok] at h
  rw [CE.pe,PE.told]
  exact ⟨fun q=>by split at q <;> omega,CE.told hN e _ h.2,trivial⟩
 | .bin a b,u,h=>by
  rw [CE.ok] at h
  rw [CE.pe,PE.told]
  exact ⟨fun q=>by omega,CE.told hN a _ h.2.1,CE.told hN b _ h.2.2,trivial⟩
 | .iff a b c,u,h=>by
  rw [CE.ok] at h
  rw [CE.pe,PE.told]
  exact ⟨fun q=>by omega,CE.told hN a _ h.2.1,CE.told hN b _ h.2.2.1,CE.told hN c _ h.2.2.2,trivial⟩
 | .lett a b,u,h=>by
  rw [CE.ok] at h
  rw [CE.pe,PE.told]
  exact ⟨fun q=>by omega,CE.told hN a _ h.2.2.1,CE.told hN b _ h.2.2.2,trivial⟩
 | .asrt a b,u,h=>by
  rw [CE.ok] at h
  rw [CE.pe,PE.told]
  exact ⟨fun q=>by omega,CE.told hN a _ h.2.1,CE.told hN b _ h.2.2,trivial⟩
 | .call q l,u,h=>by
  rw [CE.ok] at h
  rw [CE.pe]
  cases q with
  | true =>
   rw [if_pos rfl,PE.told]
   exact ⟨fun q=>by omega,argsTold hN l _ h.2.2.2.2.2⟩
  | false =>
   rw [if_neg (by decide),PE.told]
   exact ⟨fun q=>by omega,argsTold hN l _ h.2.2.2.2⟩
theorem argsTold {toks:List Tok}(hN:NumsOk toks){cl:Bool}:∀ (l:List CE) (u:Nat),argsOk toks cl u l→toldE (argsPE toks u l)
 | [],u,_=>by rw [argsPE,toldE];trivial
 | e :: l,u,h=>by
  rw [argsOk] at h
  rw [argsPE,toldE]
  exact ⟨CE.told hN e _ h.1,argsTold hN l _ h.2⟩
end
def partsF (nodes:List Nd)(ks:List Int):List Int:=ks.filter fun k=>(nodes[k.toNat]?.map (·.kind)).getD 19 != 19
theorem parts_leaf {nodes:List Nd}{k:Int}{ks:List Int}{u:Nat}(h:Rep nodes k u .leaf):partsF nodes (k :: ks)=partsF nodes ks:=by
 rw [Rep] at h
 rw [partsF,List.filter_cons_of_neg (by rw [h.2];simp)]
 rfl
theorem CE.node (e:CE):∃ k l,e.pt=.node k l∧7≤k∧k≤17:=by
 cases e with
 | call q l=>exact ⟨13,_,by rw [CE.pt],by omega,by omega⟩
 | num=>exact ⟨15,_,by rw [CE.pt],by omega,by omega⟩
 | truth=>exact ⟨16,_,by rw [CE.pt],by omega,by omega⟩
 | res=>exact ⟨17,_,by rw [CE.pt],by omega,by omega⟩
 | nam=>exact ⟨14,_,by rw [CE.pt],by omega,by omega⟩
 | group e=>exact ⟨12,_,by rw [CE.pt],by omega,by omega⟩
 | un e=>exact ⟨11,_,by rw [CE.pt],by omega,by omega⟩
 | bin a b=>exact ⟨10,_,by rw [CE.pt],by omega,by omega⟩
 | iff a b c=>exact ⟨8,_,by rw [CE.pt],by omega,by omega⟩
 | lett a b=>exact ⟨7,_,by rw [CE.pt],by omega,by omega⟩
 | asrt a b=>exact ⟨9,_,by rw [CE.pt],by omega,by omega⟩
theorem parts_node {nodes:List Nd}{k:Int}{ks:List Int}{u:Nat}{e:CE}(h:Rep nodes k u e.pt):partsF nodes (k :: ks)=k :: partsF nodes ks:=by
 obtain ⟨c,l,he,h1,h2⟩:=e.node
 rw [he,Rep] at h
 obtain ⟨ks',_,h3,_⟩:=h
 rw [partsF,List.filter_cons_of_pos (by rw [h3];simp;omega)]
 rfl
inductive FRes where
 | bad (e a:Nat)
 | good (toks:List Tok) (nodes:List Nd)
def gasA (toks:List Tok):Nat:=20 * toks.length+18
def ofSt (toks:List Tok)(st:PSt):FRes:=if st.fE=0 then .good toks st.nodes else .bad st.fE st.fAt
def formF (S:List UInt8)(d:Nat):FRes :=
 match lexAll S with
 | .error x=>.bad x.1 x.2
 | .ok toks=>match aloneM toks d (gasA toks) with
  | none=>.bad 99 0
  | some st=>ofSt toks st
def aloneT (e:CE):PT:=.node 18 [e.pt,.leaf]
theorem Laid.last5 {T:List UInt8}{p:Nat}{l:List Tok}(h:Laid T p l){u:Nat}(hu:u<l.length)(h5:kindAt l u=5):u+1=l.length:=by
 unfold kindAt peekF at h5
 rw [Nat.min_eq_left (by omega),List.getD_eq_getElem?_getD,List.getElem?_eq_getElem hu] at h5
 have:=(h.last u hu).1 h5
 omega
theorem Laid.endOk {T:List UInt8}{p:Nat}{l:List Tok}(h:Laid T p l):EndOk l:=by
 have h0:=h.some
 unfold EndOk peekF
 rw [Nat.min_eq_right (by omega),List.getD_eq_getElem?_getD,List.getElem?_eq_getElem (by omega)]
 exact (h.last _ (by omega)).2 rfl
theorem alone_total {T:List UInt8}{p:Nat}{toks:List Tok}(hL:Laid T p toks)(d:Nat) :
  ∃ a,run toks d (gasA toks) (.expr 1) { startP with clause:=true }=some a∧a.2.used≤toks.length∧a.2.nodes.length≤2 * toks.length:=by
 obtain ⟨a,ha⟩:=run_total toks d hL.endOk (gasA toks) (.expr 1) { startP with clause:=true } trivial (Nat.le_refl _)
 have h1:=run_wth toks d _ _ _ _ ha (Nat.zero_le _)
 have h2:=run_slk toks d _ _ _ _ ha
 unfold Slk at h2
 simp only [startP,List.length_nil] at h2
 exact ⟨a,ha,h1,by omega⟩
theorem nodeM_grows (k:Int)(l:List Int)(st:PSt):(nodeM k l st).2.nodes.length≤st.nodes.length+1:=(nodeM_two k l st).2.1
theorem kindM_grows (toks:List Tok)(k:Nat)(st:PSt):(kindM toks k st).2.nodes.length≤st.nodes.length+1:=by
 unfold kindM
 split
 ·rcases leafM_two toks st with h|h
  ·rw [h];simp
  ·omega
 ·unfold failM;split <;> simp
theorem alone_tree {T:List UInt8}{p:Nat}{toks:List Tok}(hL:Laid T p toks){d g:Nat}{a:Int × PSt}(ha:run toks d g (.expr 1) { startP with clause:=true }=some a)
  (hf:(nodeM 18 [a.1,(kindM toks 5 a.2).1] (kindM toks 5 a.2).2).2.fE=0) :
  ∃ e:CE,(nodeM 18 [a.1,(kindM toks 5 a.2).1] (kindM toks 5 a.2).2).2.nodes=(aloneT e).em 0 0∧e.ok toks true 0∧e.pt.lv+1=toks.length:=by
 have hk:=(nodeM_ext _ _ _).zero hf
 have h1:=(kindM_ext toks 5 a.2).zero hk
 obtain ⟨e,hg,hid,hok,hu⟩:=run_tree toks hL.endOk d g (.expr 1) _ a ha h1
 have hu':=hu hL.some
 have hku:kindM toks 5 a.2=leafM toks a.2∧kindAt toks a.2.used=5:=by
  unfold kindM at hk ⊢
  by_cases hc:a.2.fE=0∧(peekF toks a.2.used).kind=5
  ·rw [if_pos hc]
   exact ⟨rfl,hc.2⟩
  ·rw [if_neg hc] at hk
   exact (fail_no (by decide) hk).elim
 have hlast:=hL.last5 hu' hku.2
 obtain ⟨hl1,hl2⟩:=Grew.leaf (toks:=toks) (st:=a.2) (by omega)
 have hall:=hg.append hl1
 rw [hku.1] at hf hk ⊢
 have hlen:=hg.len
 have hn:=hall.node hk 18
 have hids:idsL ({ startP with clause:=true }:PSt).nodes.length ([e.pt]++[.leaf])=[a.1,(leafM toks a.2).1]:=by
  rw [hid,hl2,hlen]
  simp [idsL,startP,ndL,PT.nd]
 rw [hids] at hn
 refine ⟨e,?_,hok,?_⟩
 ·have h18:=hn.1
  simp only [Int.cast_ofNat_Int] at h18
  rw [h18]
  simp [startP,emL,aloneT]
 ·have:=hg.used
  simp only [lvL,startP] at this
  omega
theorem formF_deeper {S:List UInt8}{d d':Nat}{toks:List Tok}{nodes:List Nd}(hdd:d≤d')(h:formF S d=.good toks nodes):formF S d'=.good toks nodes:=by
 unfold formF at h ⊢
 cases hl:lexAll S with
 | error x=>rw [hl] at h;cases h
 | ok l =>
  rw [hl] at h
  simp only at h ⊢
  cases hm:aloneM l d (gasA l) with
  | none=>rw [hm] at h;cases h
  | some st =>
   rw [hm] at h
   simp only at h
   have hs:st.fE=0:=by
    unfold ofSt at h
    split at h
    ·assumption
    ·cases h
   rw [aloneM_deeper hdd hm hs]
   exact h
mutual
theorem em_kids:∀ (t:PT) (b u:Nat),∀ n∈t.em b u,n.kids.length≤t.nd
 | .leaf,b,u,n,h=>by
  rw [PT.em,List.mem_singleton] at h
  subst h
  simp
 | .node k l,b,u,n,h=>by
  rw [PT.em,List.mem_append,List.mem_singleton] at h
  rw [PT.nd]
  rcases h with h|h
  ·have:=emL_kids l b u n h
   omega
  ·subst h
   have:=ids_few l b
   simp only
   omega
theorem emL_kids:∀ (l:List PT) (b u:Nat),∀ n∈emL b u l,n.kids.length≤ndL l
 | [],b,u,n,h=>by rw [emL] at h;cases h
 | t :: l,b,u,n,h=>by
  rw [emL,List.mem_append] at h
  rw [ndL]
  rcases h with h|h
  ·have:=em_kids t _ _ n h
   omega
  ·have:=emL_kids l _ _ n h
   omega
theorem ids_few:∀ (l:List PT) (b:Nat),(idsL b l).length≤ndL l
 | [],b=>by simp [idsL]
 | t :: l,b=>by
  have:=ids_few l (b+t.nd)
  have hp:=t.nd_pos
  rw [idsL,ndL,List.length_cons]
  omega
end
end Go.Proofs.YtemkhbmkaalgdaaGreatDoor
