/- Walks and plain laws: TreePlain, TreeLaws, ZedPlain, ExprPlain, ShowPlain. -/
import Derived.Test.YtknicmmigbhpcaaGreatDoorF04
set_option maxHeartbeats 16000000
set_option maxRecDepth 100000
set_option linter.unusedVariables false
set_option linter.unusedSimpArgs false
namespace Go.Proofs.YtknicmmigbhpcaaGreatDoor
def iB (nt i:Nat)(n:Nd):Bool :=
 if n.kind<1∨19<n.kind then false
 else if n.kind=19 then decide (n.kids.length=0) && (decide (0≤n.tok) && decide (n.tok<nt))
 else decide (n.tok=-1) && !(n.kids.any fun k=>decide (k<0) || decide ((i:Int)≤k))
def wO:List Bool→List Int→Option (List Bool)
 | kid,[]=>some kid
 | kid,k :: ks=>if kid.getD k.toNat false=true then none else wO (kid.set k.toNat true) ks
def lK (nt:Nat):Nat→List Nd→List Bool→Option (List Bool)
 | _,[],kid=>some kid
 | i,n :: l,kid=>if iB nt i n=true then (wO kid n.kids).bind (lK nt (i+1) l) else none
def eG (nodes:List Nd):Nat→List Int→List Int→Option (List Int)
 | 0,_,_=>none
 | _+1,[],out=>some out
 | g+1,i :: rest,out =>
  if i<0 then none
  else match nodes[i.toNat]? with
   | none=>none
   | some x=>if x.kind=19 then eG nodes g rest (out++[x.tok]) else if 549755813888<(x.kids++rest).length then none else eG nodes g (x.kids++rest) out
def mh:Nat→List Int→Bool
 | _,[]=>true
 | i,k :: l=>decide ((i:Int)=k) && mh (i+1) l
def p9 (nt:Nat)(nodes:List Nd):Option (List Bool):=lK nt 0 nodes (List.replicate nodes.length false)
def kL (nt:Nat)(nodes:List Nd)(l:List Int):Bool :=
 match p9 nt nodes with
 | none=>false
 | some kid=>!(decide (kid.length=0)) && !((kid.take (nodes.length - 1)).contains false) && mh 0 l && decide (l.length=nt)
def fK (n:Nat):List UInt8:=if h:n<10 then [UInt8.ofNat (48+n)] else fK (n / 10)++[UInt8.ofNat (48+n % 10)]
decreasing_by omega
def mI (t:Tok):List UInt8:=(if t.kind=5 then [36] else [])++t.text
def kM (f:Int→Option (List UInt8)):List Int→Option (List UInt8)
 | []=>some []
 | k :: ks=>(f k).bind fun a=>(kM f ks).bind fun b=>some ([32]++a++b)
def rF (toks:List Tok)(nodes:List Nd):Nat→Int→Option (List UInt8)
 | 0,_=>none
 | g+1,n =>
  if n<0 then none
  else match nodes[n.toNat]? with
   | none=>none
   | some x =>
    if x.kind=19 then (if x.tok<0 then none else (toks[x.tok.toNat]?).map mI)
    else (kM (rF toks nodes g) x.kids).map fun b=>[40]++fK x.kind.toNat++b++[41]
mutual
def PT.dump (toks:List Tok)(u:Nat):PT→List UInt8
 | .leaf=>mI (bL toks u)
 | .node k l=>[40]++fK k++zN toks u l++[41]
def zN (toks:List Tok)(u:Nat):List PT→List UInt8
 | []=>[]
 | t :: l=>[32]++t.dump toks u++zN toks (u+t.lv) l
end
mutual
def lM (nodes:List Nd)(n:Int)(u:Nat):PT→Prop
 | .leaf=>0≤n∧nodes[n.toNat]?=some ⟨19,(u:Nat),[]⟩
 | .node k l=>∃ ks,0≤n∧nodes[n.toNat]?=some ⟨k,-1,ks⟩∧dV nodes ks u l
def dV (nodes:List Nd)(ks:List Int)(u:Nat):List PT→Prop
 | []=>ks=[]
 | t :: l=>∃ k ks',ks=k :: ks'∧lM nodes k u t∧dV nodes ks' (u+t.lv) l
end
mutual
theorem lM.more {nodes more:List Nd}:∀ {t:PT} {n:Int} {u:Nat},lM nodes n u t→lM (nodes++more) n u t
 | .leaf,n,u,h=>by
  rw[lM] at h ⊢;exact⟨h.1,by rw[List.getElem?_append_left (mR h.2).1];exact h.2⟩
 | .node k l,n,u,h=>by
  rw[lM] at h ⊢;obtain⟨ks,h0,h1,h2⟩:=h;exact⟨ks,h0,by rw[List.getElem?_append_left (mR h1).1];exact h1,dV.more h2⟩
theorem dV.more {nodes more:List Nd}:∀ {l:List PT} {ks:List Int} {u:Nat},dV nodes ks u l→dV (nodes++more) ks u l
 | [],ks,u,h=>by rw[dV] at h ⊢;exact h
 | t :: l,ks,u,h=>by
  rw[dV] at h ⊢;obtain⟨k,ks',e,h1,h2⟩:=h;exact⟨k,ks',e,lM.more h1,dV.more h2⟩
end
mutual
theorem lM.em {pre:List Nd}:∀ (t:PT) (b u:Nat),pre.length=b→lM (pre++t.em b u) (((b+t.nd:Nat):Int) - 1) u t
 | .leaf,b,u,hb=>by
  rw[lM,PT.em,PT.nd];refine⟨by omega,?_⟩;rw[show ((((b+1:Nat):Int) - 1).toNat)=pre.length by omega]
  simp
 | .node k l,b,u,hb=>by
  have hl:=dV.em (pre:=pre) l b u hb
  have hn:(pre++wL b u l).length=b+dI l:=by rw[bP,wM,hb]
  rw[lM,PT.em,PT.nd,← List.append_assoc];refine⟨bM b l,by omega,?_,hl.more⟩;rw[show ((((b+(dI l+1):Nat):Int) - 1).toNat)=(pre++wL b u l).length by omega]
  simp
theorem dV.em {pre:List Nd}:∀ (l:List PT) (b u:Nat),pre.length=b→dV (pre++wL b u l) (bM b l) u l
 | [],b,u,hb=>by rw[dV,bM]
 | t :: l,b,u,hb=>by
  have h1:=lM.em (pre:=pre) t b u hb;have h2:=dV.em (pre:=pre++t.em b u) l (b+t.nd) (u+t.lv) (by rw[bP,PT.sj,hb]);rw[dV,wL,bM];refine⟨_,_,rfl,?_,?_⟩
  ·rw[← List.append_assoc];exact h1.more
  ·rw[← List.append_assoc];exact h2
end
mutual
def PT.wf:PT→Prop
 | .leaf=>True
 | .node k l=>1≤k∧k≤18∧kF l
def kF:List PT→Prop
 | []=>True
 | t :: l=>t.wf∧kF l
end
def su (u n:Nat):List Int:=(List.range' u n).map fun (k:Nat)=>(k:Int)
theorem TL (u n m:Nat):su u (n+m)=su u n++su (u+n) m:=by
 unfold su;rw[← List.map_append,← List.range'_append_1]
theorem wP {nodes:List Nd}:∀ {l:List PT} {ks:List Int} {u:Nat},dV nodes ks u l→ks.length=l.length∧ks.length≤dI l
 | [],ks,u,h=>by rw[dV] at h;subst h;exact⟨rfl,by simp⟩
 | t :: l,ks,u,h=>by
  rw[dV] at h;obtain⟨k,ks',rfl,_,h2⟩:=h;obtain⟨a,b⟩:=wP h2;have:=t.gq;rw[dI];simp only[dX];omega
mutual
theorem Bg {nodes:List Nd}:∀ (t:PT) (n:Int) (u g:Nat) (rest out:List Int),lM nodes n u t→t.wf→rest.length+t.nd≤549755813888→eG nodes (g+t.nd) (n :: rest) out=eG nodes g rest (out++su u t.lv)
 | .leaf,n,u,g,rest,out,h,_,_=>by
  rw[lM] at h;rw[PT.nd,eG,if_neg (by omega),h.2,PT.lv];simp only[if_true]
  rfl
 | .node k l,n,u,g,rest,out,h,hw,hs=>by
  rw[lM] at h;obtain⟨ks,h0,h1,h2⟩:=h;rw[PT.wf] at hw;obtain⟨e1,e2⟩:=wP h2;rw[PT.nd] at hs;rw[PT.nd,← Nat.add_assoc,eG,if_neg (by omega),h1,PT.lv];simp only;rw[if_neg (by omega),if_neg (by rw[bP];omega)];exact zO l ks u g rest out h2 hw.2.2 (by omega)
theorem zO {nodes:List Nd}:∀ (l:List PT) (ks:List Int) (u g:Nat) (rest out:List Int),dV nodes ks u l→kF l→rest.length+dI l≤549755813888→eG nodes (g+dI l) (ks++rest) out=eG nodes g rest (out++su u (bB l))
 | [],ks,u,g,rest,out,h,_,_=>by
  rw[dV] at h;subst h;simp[dI,bB,su]
 | t :: l,ks,u,g,rest,out,h,hw,hs=>by
  rw[dV] at h;obtain⟨k,ks',rfl,h1,h2⟩:=h;rw[kF] at hw;rw[dI] at hs;have hp:=t.gq;have hk:=(wP h2).2;rw[dI,bB,TL,List.cons_append,show g+(t.nd+dI l)=(g+dI l)+t.nd by omega,Bg t k u _ _ _ h1 hw.1 (by rw[bP];omega),zO l ks' _ g rest _ h2 hw.2 (by omega),List.append_assoc]
end
mutual
theorem Jk {toks:List Tok}{nodes:List Nd}:∀ (t:PT) (n:Int) (u g:Nat),lM nodes n u t→t.wf→u+t.lv≤toks.length→rF toks nodes (g+t.nd) n=some (t.dump toks u)
 | .leaf,n,u,g,h,_,hl=>by
  rw[lM] at h;rw[PT.lv] at hl;rw[PT.nd,rF,if_neg (by omega),h.2,PT.dump];simp only[if_true];rw[if_neg (by omega),Int.toNat_natCast,bL,Nat.min_eq_left (by omega),List.getElem?_eq_getElem (by omega),List.getD_eq_getElem?_getD,List.getElem?_eq_getElem (by omega)]
  rfl
 | .node k l,n,u,g,h,hw,hl=>by
  rw[lM] at h;obtain⟨ks,h0,h1,h2⟩:=h;rw[PT.wf] at hw;rw[PT.lv] at hl;rw[PT.nd,← Nat.add_assoc,rF,if_neg (by omega),h1,PT.dump];simp only;rw[if_neg (by omega),EL l ks u g h2 hw.2.2 hl]
  simp
theorem EL {toks:List Tok}{nodes:List Nd}:∀ (l:List PT) (ks:List Int) (u g:Nat),dV nodes ks u l→kF l→u+bB l≤toks.length→kM (rF toks nodes (g+dI l)) ks=some (zN toks u l)
 | [],ks,u,g,h,_,_=>by
  rw[dV] at h;subst h;rw[kM,zN]
 | t :: l,ks,u,g,h,hw,hl=>by
  rw[dV] at h;obtain⟨k,ks',rfl,h1,h2⟩:=h;rw[kF] at hw;rw[bB] at hl;have e1:=Jk (toks:=toks) t k u (g+dI l) h1 hw.1 (by omega);have e2:=EL (toks:=toks) l ks' (u+t.lv) (g+t.nd) h2 hw.2 (by omega);rw[show g+dI l+t.nd=g+dI (t :: l) by rw[dI];omega] at e1;rw[show g+t.nd+dI l=g+dI (t :: l) by rw[dI];omega] at e2;rw[kM,e1,Option.bind_some,e2,Option.bind_some,zN]
end
def Bh:List PT→List Bool
 | []=>[]
 | t :: l=>List.replicate (t.nd - 1) true++[false]++Bh l
theorem Jl:∀ (l:List PT) (A R:List Bool) (b:Nat),A.length=b→wO (A++Bh l++R) (bM b l)=some (A++List.replicate (dI l) true++R)
 | [],A,R,b,_=>by simp[Bh,bM,wO,dI]
 | t :: l,A,R,b,hA=>by
  have hp:=t.gq
  have e:(((b+t.nd:Nat):Int) - 1).toNat=(A++List.replicate (t.nd - 1) true).length:=by simp;omega
  rw[bM,wO,e,Bh]
  have e2:A++(List.replicate (t.nd - 1) true++[false]++Bh l)++R=(A++List.replicate (t.nd - 1) true)++false :: (Bh l++R):=by simp
  rw[e2,if_neg (by simp),List.set_append_right _ _ (Nat.le_refl _),Nat.sub_self,List.set_cons_zero];have ih:=Jl l (A++List.replicate (t.nd - 1) true++[true]) R (b+t.nd) (by simp;omega)
  have e3:A++List.replicate (t.nd - 1) true++[true]++Bh l++R=A++List.replicate (t.nd - 1) true++true :: (Bh l++R):=by simp
  rw[e3] at ih;rw[ih,dI]
  have e4:List.replicate (t.nd - 1) true++[true]=List.replicate t.nd true:=by
   conv=>rhs;rw[show t.nd=(t.nd - 1)+1 by omega,List.replicate_succ']
  congr 1
  rw[List.append_assoc A,e4,← List.replicate_append_replicate,List.append_assoc,List.append_assoc,List.append_assoc,List.append_assoc]
theorem Yd (b:Nat)(l:List PT):(bM b l).any (fun k=>decide (k<0) || decide (((b+dI l:Nat):Int)≤k))=false:=by
 rw[← Bool.not_eq_true,List.any_eq_true];rintro⟨x,hx,hy⟩;have:=vv _ _ _ hx;simp only[Bool.or_eq_true,decide_eq_true_eq] at hy;omega
mutual
theorem Jm (nt:Nat):∀ (t:PT) (b u:Nat) (A:List Bool) (m:Nat) (more:List Nd),t.wf→A.length=b→u+t.lv≤nt →
  lK nt b (t.em b u++more) (A++List.replicate (t.nd+m) false)=lK nt (b+t.nd) more (A++List.replicate (t.nd - 1) true++[false]++List.replicate m false)
 | .leaf,b,u,A,m,more,_,_,hu=>by
  rw[PT.lv] at hu;rw[PT.em,PT.nd,List.cons_append,List.nil_append,lK,if_pos]
  ·rw[wO,Option.bind_some,Nat.add_comm 1 m,List.replicate_succ]
   simp
  ·simp[iB]
   omega
 | .node k l,b,u,A,m,more,hw,hA,hu=>by
  rw[PT.wf] at hw;rw[PT.lv] at hu;have h:=EM nt l b u A (1+m) ([⟨k,-1,bM b l⟩]++more) hw.2.2 hA hu;rw[PT.em,PT.nd,List.append_assoc,show dI l+1+m=dI l+(1+m) by omega,h,List.cons_append,List.nil_append,lK,if_pos]
  ·rw[Jl l A _ b hA,Option.bind_some,Nat.add_comm 1 m,List.replicate_succ]
   simp[Nat.add_assoc]
  ·unfold iB
   rw[if_neg (by simp only;omega),if_neg (by simp only;omega)];simp only[Yd]
   rfl
theorem EM (nt:Nat):∀ (l:List PT) (b u:Nat) (A:List Bool) (m:Nat) (more:List Nd),kF l→A.length=b→u+bB l≤nt →
  lK nt b (wL b u l++more) (A++List.replicate (dI l+m) false)=lK nt (b+dI l) more (A++Bh l++List.replicate m false)
 | [],b,u,A,m,more,_,_,_=>by simp[wL,dI,Bh]
 | t :: l,b,u,A,m,more,hw,hA,hu=>by
  rw[kF] at hw;rw[bB] at hu;have hp:=t.gq;have h1:=Jm nt t b u A (dI l+m) (wL (b+t.nd) (u+t.lv) l++more) hw.1 hA (by omega);have h2:=EM nt l (b+t.nd) (u+t.lv) (A++List.replicate (t.nd - 1) true++[false]) m more hw.2 (by simp;omega) (by omega);rw[wL,dI,List.append_assoc,Nat.add_assoc,h1,h2,Bh,Nat.add_assoc]
  simp
end
theorem wQ:∀ (n u:Nat),mh u (su u n)=true
 | 0,u=>by simp[su,mh]
 | n+1,u=>by
  have h:=wQ n (u+1);simp only[su,List.range'_succ,List.map_cons,mh] at h ⊢;simp[h]
theorem TM (t:PT)(hw:t.wf)(nt:Nat)(h:t.lv=nt):kL nt (t.em 0 0) (su 0 nt)=true:=by
 have hp:=t.gq;have h1:=Jm nt t 0 0 [] 0 [] hw rfl (by omega);rw[List.append_nil,List.nil_append,Nat.add_zero,lK] at h1
 have h2:p9 nt (t.em 0 0)=some (List.replicate (t.nd - 1) true++[false]):=by
  rw[p9,PT.sj,h1];simp
 unfold kL;rw[h2];simp only[PT.sj,wQ,Bool.and_true];rw[List.take_append_of_le_length (by simp),List.take_of_length_le (by simp)]
 have h3:(List.replicate (t.nd - 1) true).contains false=false:=by
  rw[← Bool.not_eq_true,List.contains_iff_mem,List.mem_replicate]
  simp
 rw[h3];simp[su]
theorem Qs (t:PT)(hw:t.wf)(h:t.nd≤549755813888):eG (t.em 0 0) (t.nd+1) [((t.nd:Nat):Int) - 1] []=some (su 0 t.lv):=by
 have hr:=lM.em (pre:=[]) t 0 0 rfl;rw[List.nil_append,Nat.zero_add] at hr;rw[Nat.add_comm,Bg t _ 0 1 [] [] hr hw (by simpa using h),eG,List.nil_append]
theorem Ye (toks:List Tok)(t:PT)(hw:t.wf)(h:t.lv≤toks.length):rF toks (t.em 0 0) t.nd (((t.nd:Nat):Int) - 1)=some (t.dump toks 0):=by
 have hr:=lM.em (pre:=[]) t 0 0 rfl;rw[List.nil_append,Nat.zero_add] at hr;have:=Jk (toks:=toks) t _ 0 0 hr hw (by omega);rw[Nat.zero_add] at this;exact this
mutual
theorem CE.wf:∀ e:CE,e.pt.wf
 | .num=>by simp[CE.pt,PT.wf,kF]
 | .truth=>by simp[CE.pt,PT.wf,kF]
 | .res=>by simp[CE.pt,PT.wf,kF]
 | .Jj=>by simp[CE.pt,PT.wf,kF]
 | .group e=>by simp[CE.pt,PT.wf,kF,CE.wf e]
 | .un e=>by simp[CE.pt,PT.wf,kF,CE.wf e]
 | .bin a b=>by simp[CE.pt,PT.wf,kF,CE.wf a,CE.wf b]
 | .iff a b c=>by simp[CE.pt,PT.wf,kF,CE.wf a,CE.wf b,CE.wf c]
 | .pF a b=>by simp[CE.pt,PT.wf,kF,CE.wf a,CE.wf b]
 | .pG a b=>by simp[CE.pt,PT.wf,kF,CE.wf a,CE.wf b]
 | .call q l=>by
  have h:=TN l
  have e:∀ (a b:List PT),kF a→kF b→kF (a++b):=fun a b ha hb=>by
   induction a with
   | nil=>exact hb
   | cons x a ih=>rw[kF] at ha;rw[List.cons_append,kF];exact⟨ha.1,ih ha.2⟩
  rw[CE.pt,PT.wf];refine⟨by omega,by omega,e _ _ (e _ _ (e _ _ ?_ (by simp[kF,PT.wf])) h) (by simp[kF,PT.wf])⟩
  cases q<;>simp[kF,PT.wf]
theorem TN:∀ l:List CE,kF (dS l)
 | []=>by simp[dS,kF]
 | [e]=>by simp[dS,kF,CE.wf e]
 | e :: f :: l=>by
  rw[lJ,kF,kF];exact⟨CE.wf e,by simp[PT.wf],TN (f :: l)⟩
end
def gM:List Nat→Nat
 | []=>0
 | d :: l=>d+4294967296 * gM l
def bN:List Nat→List Nat
 | []=>[]
 | d :: l=>if bN l=[]∧d=0 then [] else d :: bN l
theorem um:∀ l,gM (bN l)=gM l
 | []=>rfl
 | d :: l=>by
  rw[bN]
  split
  ·rename_i h
   have:=um l;rw[h.1] at this;rw[gM,gM,← this,h.2]
   rfl
  ·rw[gM,um l,gM]
theorem vw:∀ l,gM l=0→bN l=[]
 | [],_=>rfl
 | d :: l,h=>by
  rw[gM] at h;rw[bN,if_pos ⟨vw l (by omega),by omega⟩]
theorem EN:∀ l,(bN l).length≤l.length
 | []=>Nat.le_refl _
 | d :: l=>by
  have:=EN l;rw[bN]
  split<;>simp
  exact this
theorem yK:∀ (l:List Nat) (x:Nat),x∈bN l→x∈l
 | [],x,h=>h
 | d :: l,x,h=>by
  rw[bN] at h
  split at h
  ·cases h
  ·rcases List.mem_cons.1 h with rfl|h
   ·exact List.mem_cons_self
   ·exact List.mem_cons_of_mem _ (yK l x h)
theorem vB:∀ l,bN (bN l)=bN l
 | []=>rfl
 | d :: l=>by
  rw[bN]
  split
  ·rfl
  ·rename_i h
   rw[bN,vB l,if_neg h]
theorem uo {l:List Nat}(h:bN l=l)(hl:l≠[]):0<gM l:=by
 apply Nat.pos_of_ne_zero
 intro q;exact hl (by rw[← h,vw l q])
theorem qR:∀ (l:List Nat),∃ n,n≤l.length∧bN l=l.take n∧(∀ j,n≤j→(h:j<l.length)→l[j]=0)∧(∀ j,j+1=n→(h:j<l.length)→l[j]≠0)
 | []=>⟨0,Nat.le_refl _,rfl,fun j _ h=>absurd h (by simp),fun j h=>by omega⟩
 | d :: l=>by
  obtain⟨n,h1,h2,h3,h4⟩:=qR l;rw[bN]
  split
  ·rename_i h
   have hn:n=0∨l=[]:=by
    have:(l.take n).length=0:=by rw[← h2,h.1];rfl
    rw[List.length_take] at this
    rcases Nat.eq_zero_or_pos n with q|q
    ·exact .inl q
    ·exact .inr (List.length_eq_zero_iff.1 (by omega))
   refine⟨0,Nat.zero_le _,rfl,fun j _ hj=>?_,fun j hj=>by omega⟩
   cases j with
   | zero=>exact h.2
   | succ j =>
    simp only[dX] at hj
    rcases hn with q|q
    ·simpa using h3 j (by omega) (by omega)
    ·subst q;simp at hj
  ·rename_i h
   refine⟨n+1,by simpa using h1,by rw[h2,List.take_succ_cons],fun j hj hl=>?_,fun j hj hl=>?_⟩
   ·cases j with
    | zero=>omega
    | succ j=>simpa using h3 j (by omega) (by simpa using hl)
   ·cases j with
    | zero =>
     obtain rfl:n=0:=by omega
     intro q;exact h ⟨by rw[h2];rfl,q⟩
    | succ j=>simpa using h4 j (by omega) (by simpa using hl)
def eu (GI:Nat):List Nat→Nat→List Nat
 | [],more=>[more % 4294967296]
 | d :: l,more=>(more+d * GI) % 4294967296 :: eu GI l ((more+d * GI) / 4294967296)
theorem jA (b:Nat):∀ (l:List Nat) (m:Nat),(eu b l m).length=l.length+1
 | [],_=>rfl
 | d :: l,m=>by rw[eu,dX,jA b l,dX]
theorem EO (b:Nat):∀ (l:List Nat) (m x:Nat),x∈eu b l m→x<4294967296
 | [],m,x,h=>by rw[eu,List.mem_singleton] at h;omega
 | d :: l,m,x,h=>by
  rw[eu] at h
  rcases List.mem_cons.1 h with rfl|h
  ·omega
  ·exact EO b l _ x h
theorem Jo {d b m:Nat}(hd:d<4294967296)(hb:b≤1000000000)(hm:m≤1000000000):m+d * b≤4294967295000000000+1000000000∧(m+d * b) / 4294967296≤1000000000:=by
 have h1:d * b≤4294967295 * 1000000000:=Nat.mul_le_mul (by omega) hb;omega
theorem Bj (b:Nat)(hb:b≤1000000000):∀ (l:List Nat) (m:Nat),(∀ x∈l,x<4294967296)→m≤1000000000→gM (eu b l m)=gM l * b+m
 | [],m,_,hm=>by
  rw[eu,gM,gM,gM,Nat.mod_eq_of_lt (by omega)];omega
 | d :: l,m,hl,hm=>by
  have hc:=Jo (hl d List.mem_cons_self) hb hm;have ih:=Bj b hb l _ (fun x hx=>hl x (List.mem_cons_of_mem _ hx)) hc.2;rw[eu,gM,ih,gM];have:=Nat.div_add_mod (m+d * b) 4294967296;generalize (m+d * b) / 4294967296=q at *;generalize (m+d * b) % 4294967296=r at *
  have e:(d+4294967296 * gM l) * b+m=m+d * b+4294967296 * (gM l * b):=by
   rw[Nat.add_mul,Nat.mul_assoc];omega
  rw[e,← this];omega
theorem Bl {α:Type}{P:List α→Prop}(h0:P [])(h1:∀ (l:List α) (c:α),P l→P (l++[c]))(l:List α):P l:=by
 have h:∀ (r:List α),P r.reverse:=fun r=>by
  induction r with
  | nil=>exact h0
  | cons c r ih=>rw[List.reverse_cons];exact h1 _ _ ih
 have:=h l.reverse
 rwa [List.reverse_reverse] at this
def iG (l:List UInt8):Nat:=l.foldl (fun a c=>a * 10+(c.toNat - 48)) 0
theorem qd (l:List UInt8)(c:UInt8):iG (l++[c])=iG l * 10+(c.toNat - 48):=by
 unfold iG;rw[List.foldl_append];rfl
theorem Jp:∀ (b a:List UInt8),iG (a++b)=iG a * 10 ^ b.length+iG b:=by
 refine Bl ?_ ?_
 ·intro a;simp[iG]
 ·intro b c ih a
  rw[← List.append_assoc,qd,ih,qd,bP,List.length_singleton,Nat.pow_succ,Nat.add_mul,← Nat.mul_assoc,Nat.add_assoc]
def eH (l:List UInt8):Bool:=l.all fun c=>decide (48≤c.toNat) && decide (c.toNat≤57)
theorem Ay:∀ (l:List UInt8),eH l=true→iG l<10 ^ l.length:=by
 refine Bl ?_ ?_
 ·intro _;decide
 ·intro l c ih h
  rw[eH,List.all_append,Bool.and_eq_true] at h;have h1:=ih h.1;have h2:=h.2;simp only[List.all_cons,List.all_nil,Bool.and_true,Bool.and_eq_true,decide_eq_true_eq] at h2;rw[qd,bP,List.length_singleton,Nat.pow_succ];omega
theorem Yf {n:Nat}(h:n≤9):10 ^ n≤1000000000:=Nat.pow_le_pow_right (by omega) h
def aW (b:Nat):List Nat→List Nat × Nat
 | []=>([],0)
 | d :: l=>(((aW b l).2 * 4294967296+d) / b :: (aW b l).1,((aW b l).2 * 4294967296+d) % b)
theorem Bn (b:Nat):∀ l,(aW b l).1.length=l.length
 | []=>rfl
 | d :: l=>by rw[aW,dX,Bn b l,dX]
theorem oO (b:Nat)(hb:0<b):∀ l,(aW b l).2<b
 | []=>hb
 | _d :: _l=>Nat.mod_lt _ hb
theorem Bo (b:Nat):∀ l,gM l=gM (aW b l).1 * b+(aW b l).2
 | []=>by simp[aW,gM]
 | d :: l=>by
  rw[aW];simp only;have ih:=Bo b l;have:=Nat.div_add_mod ((aW b l).2 * 4294967296+d) b;rw[gM,gM,ih];generalize ((aW b l).2 * 4294967296+d) / b=q at *;generalize ((aW b l).2 * 4294967296+d) % b=r at *;generalize gM (aW b l).1=M at *;generalize (aW b l).2=s at *;rw[Nat.add_mul,Nat.mul_assoc,Nat.mul_comm q b];omega
theorem EP (b:Nat)(hb:0<b):∀ l,(∀ x∈l,x<4294967296)→∀ x∈(aW b l).1,x<4294967296
 | [],_,x,h=>by cases h
 | d :: l,hl,x,h=>by
  rw[aW] at h;simp only at h
  rcases List.mem_cons.1 h with rfl|h
  ·have h1:=oO b hb l
   have h2:=hl d List.mem_cons_self;rw[Nat.div_lt_iff_lt_mul hb];have:((aW b l).2+1) * 4294967296≤b * 4294967296:=Nat.mul_le_mul_right _ h1;rw[Nat.mul_comm 4294967296 b];omega
  ·exact EP b hb l (fun x hx=>hl x (List.mem_cons_of_mem _ hx)) x h
def jq:Nat→Nat→List UInt8
 | 0,_=>[]
 | k+1,n=>UInt8.ofNat (48+n % 10) :: jq k (n / 10)
theorem wR:∀ (k j n:Nat),jq (k+j) n=jq k n++jq j (n / 10 ^ k)
 | 0,j,n=>by simp[jq]
 | k+1,j,n=>by
  rw[show k+1+j=(k+j)+1 by omega,jq,jq,wR k j,List.cons_append,Nat.div_div_eq_div_mul,← Nat.pow_succ']
theorem ER (k n:Nat):jq (k+1) n=jq k n++[UInt8.ofNat (48+n / 10 ^ k % 10)]:=by
 rw[wR k 1];rfl
theorem Jq:∀ (k j n:Nat),k≤j→jq k (n % 10 ^ j)=jq k n
 | 0,_,_,_=>rfl
 | k+1,0,_,h=>absurd h (by omega)
 | k+1,j+1,n,h=>by
  have e1:n % 10 ^ (j+1) % 10=n % 10:=Nat.mod_mod_of_dvd _ ⟨10 ^ j,by rw[Nat.pow_succ,Nat.mul_comm]⟩
  have e2:n % 10 ^ (j+1) / 10=n / 10 % 10 ^ j:=by
   rw[Nat.pow_succ,Nat.mul_comm,Nat.mod_mul_right_div_self]
  rw[jq,jq,e1,e2,Jq k j _ (by omega)]
theorem ES:∀ k,jq k 0=List.replicate k 48
 | 0=>rfl
 | k+1=>by rw[jq,Nat.zero_div,ES k,List.replicate_succ];rfl
theorem TP (n:Nat):∃ k,fK n=(jq (k+1) n).reverse∧n<10 ^ (k+1)∧(n=0→k=0)∧(0<n→10 ^ k≤n):=by
 induction n using Nat.strongRecOn with
 | _ n ih =>
  rw[fK]
  split
  ·rename_i h
   refine⟨0,?_,by omega,fun _=>rfl,fun h=>by omega⟩;rw[jq,jq,Nat.mod_eq_of_lt h]
   rfl
  ·rename_i h
   obtain⟨k,h1,h2,h3,h4⟩:=ih (n / 10) (by omega);refine⟨k+1,?_,?_,fun q=>by omega,fun _=>?_⟩
   ·rw[jq,List.reverse_cons,h1]
   ·rw[Nat.pow_succ];omega
   ·have:=h4 (by omega)
    rw[Nat.pow_succ];omega
def wS (l:List UInt8):List UInt8:=(l.reverse.dropWhile (· == 48)).reverse
theorem Mi {d:Nat}(h:d<10):(UInt8.ofNat (48+d)).toNat=48+d:=by
 rw[UInt8.toNat_ofNat'];omega
theorem TQ (n k:Nat)(h0:0<n)(hk:n<10 ^ k):(wS (jq k n)).reverse=fK n:=by
 obtain⟨j,h1,h2,_,h4⟩:=TP n
 have hj:j+1≤k:=by
  have:=h4 h0
  have h5:10 ^ j<10 ^ k:=by omega
  have:=(Nat.pow_lt_pow_iff_right (by omega:1<10)).1 h5;omega
 rw[wS,List.reverse_reverse,h1]
 have e:jq k n=jq (j+1) n++List.replicate (k - (j+1)) 48:=by
  conv=>lhs;rw[show k=(j+1)+(k - (j+1)) by omega,wR,Nat.div_eq_of_lt h2,ES]
 rw[e,List.reverse_append,List.reverse_replicate]
 have e2:∀ (m:Nat) (l:List UInt8),(List.replicate m (48:UInt8)++l).dropWhile (· == 48)=l.dropWhile (· == 48):=fun m l=>by
  induction m with
  | zero=>simp
  | succ m ih=>rw[List.replicate_succ,List.cons_append,List.dropWhile_cons_of_pos (by decide),ih]
 rw[e2,ER,List.reverse_append,List.reverse_singleton,List.singleton_append,List.dropWhile_cons_of_neg];have h6:0<n / 10 ^ j:=Nat.div_pos (h4 h0) (Nat.pow_pos (by omega))
 have h7:n / 10 ^ j<10:=by rw[Nat.div_lt_iff_lt_mul (Nat.pow_pos (by omega)),Nat.mul_comm,← Nat.pow_succ];exact h2
 rw[Nat.mod_eq_of_lt h7];intro q;have:=congrArg UInt8.toNat (eq_of_beq q);rw[Mi h7] at this;simp at this;omega
theorem TR:∀ (l:List UInt8),eH l=true→l≠[]→(l.head?=some 48→l.length=1)→fK (iG l)=l:=by
 refine Bl ?_ ?_
 ·intro _ h;exact absurd rfl h
 ·intro l c ih hd _ hh
  rw[eH,List.all_append,Bool.and_eq_true] at hd;have hc:=hd.2;simp only[List.all_cons,List.all_nil,Bool.and_true,Bool.and_eq_true,decide_eq_true_eq] at hc
  have e:UInt8.ofNat (48+(c.toNat - 48))=c:=by
   rw[show 48+(c.toNat - 48)=c.toNat by omega];exact UInt8.ofNat_toNat
  rw[qd,fK]
  by_cases hl:l=[]
  ·subst hl
   have:iG []=0:=rfl;rw[this,dif_pos (by omega),Nat.zero_mul,Nat.zero_add,e]
   rfl
  ·have hne:l.head?≠some 48:=fun q=>by
    have:=hh (by rw[List.head?_append,q];rfl);rw[bP,List.length_singleton] at this;exact hl (List.length_eq_zero_iff.1 (by omega))
   have ih':=ih hd.1 hl (fun q=>absurd q hne)
   have hpos:0<iG l:=by
    apply Nat.pos_of_ne_zero
    intro q;rw[q] at ih'
    have:l=[48]:=by rw[← ih'];rw[fK];simp
    exact hne (by rw[this];rfl)
   rw[dif_neg (by omega),show (iG l * 10+(c.toNat - 48)) / 10=iG l by omega,show (iG l * 10+(c.toNat - 48)) % 10=c.toNat - 48 by omega,ih',e]
inductive PE where
 | mk (op:Nat) (name module:List UInt8) (num:Int) (txt:List UInt8) (yes:Bool) (kids:List PE) (at_:Nat)
def PE.op:PE→Nat | .mk o _ _ _ _ _ _ _=>o
def PE.name:PE→List UInt8 | .mk _ n _ _ _ _ _ _=>n
def PE.module:PE→List UInt8 | .mk _ _ m _ _ _ _ _=>m
def PE.num:PE→Int | .mk _ _ _ n _ _ _ _=>n
def PE.txt:PE→List UInt8 | .mk _ _ _ _ t _ _ _=>t
def PE.yes:PE→Bool | .mk _ _ _ _ _ y _ _=>y
def PE.kids:PE→List PE | .mk _ _ _ _ _ _ k _=>k
def PE.at_:PE→Nat | .mk _ _ _ _ _ _ _ a=>a
def iW (n:Int):List UInt8:=(if n<0 then [45] else [])++fK n.natAbs
def Jr (op:Nat)(name module num:List UInt8)(yes:Bool):List UInt8 :=
 [91]++fK op++(if module≠[] then [32]++module++[46]++name else if name≠[] then [32]++name else [])
  ++ (if op=1 then [32]++num else [])++(if op=2 then (if yes=true then [32,116,114,117,101] else [32,102,97,108,115,101]) else [])
mutual
def PE.dump:PE→List UInt8
 | .mk op name module num _ yes kids _=>Jr op name module (iW num) yes++Js kids++[93]
def Js:List PE→List UInt8
 | []=>[]
 | e :: l=>[32]++e.dump++Js l
end
mutual
def PE.oP:PE→List UInt8
 | .mk op name module _ txt yes kids _=>Jr op name module txt yes++sw kids++[93]
def sw:List PE→List UInt8
 | []=>[]
 | e :: l=>[32]++e.oP++sw l
end
mutual
def PE.ats:PE→List Int
 | .mk _ _ _ _ _ _ kids a=>(a:Int) :: Yg kids
def Yg:List PE→List Int
 | []=>[]
 | e :: l=>e.ats++Yg l
end
mutual
def PE.told:PE→Prop
 | .mk op _ _ num txt _ kids _=>(op=1→txt=iW num)∧Bp kids
def Bp:List PE→Prop
 | []=>True
 | e :: l=>e.told∧Bp l
end
mutual
theorem PE.jl:∀ {e:PE},e.told→e.oP=e.dump
 | .mk op name module num txt yes kids a,h=>by
  rw[PE.told] at h;rw[PE.oP,PE.dump,Bq h.2]
  by_cases h1:op=1
  ·rw[h.1 h1]
  ·simp only[Jr,if_neg h1]
theorem Bq:∀ {l:List PE},Bp l→sw l=Js l
 | [],_=>by rw[sw,Js]
 | e :: l,h=>by
  rw[Bp] at h;rw[sw,Js,PE.jl h.1,Bq h.2]
end
def bZ (toks:List Tok)(u:Nat):Nat:=(bL toks u).place
mutual
def CE.pe (toks:List Tok)(u:Nat):CE→PE
 | .num=>.mk 1 [] [] (iG (aI toks u):Nat) (aI toks u) false [] (bZ toks u)
 | .truth=>.mk 2 [] [] 0 [] (decide (aI toks u=OX)) [] (bZ toks u)
 | .res=>.mk 4 [] [] 0 [] false [] (bZ toks u)
 | .Jj=>.mk 3 (aI toks u) [] 0 [] false [] (bZ toks u)
 | .group e=>e.pe toks (u+1)
 | .un e=>.mk (if aI toks u=Yb then 6 else 5) [] [] 0 [] false [e.pe toks (u+1)] (bZ toks u)
 | .bin a b=>.mk (7+nS.idxOf (aI toks (u+a.pt.lv))) [] [] 0 [] false [a.pe toks u,b.pe toks (u+a.pt.lv+1)] (bZ toks (u+a.pt.lv))
 | .iff a b c=>.mk 21 [] [] 0 [] false [a.pe toks (u+1),b.pe toks (u+1+a.pt.lv+1),c.pe toks (u+1+a.pt.lv+1+b.pt.lv+1)] (bZ toks u)
 | .pF a b=>.mk 22 (aI toks (u+1)) [] 0 [] false [a.pe toks (u+3),b.pe toks (u+3+a.pt.lv+1)] (bZ toks u)
 | .pG a b=>.mk 23 [] [] 0 [] false [a.pe toks (u+1),b.pe toks (u+1+a.pt.lv+1)] (bZ toks u)
 | .call q l=>if q=true then .mk 24 (aI toks (u+2)) (aI toks u) 0 [] false (iq toks (u+4) l) (bZ toks u) else .mk 24 (aI toks u) [] 0 [] false (iq toks (u+2) l) (bZ toks u)
def iq (toks:List Tok)(u:Nat):List CE→List PE
 | []=>[]
 | e :: l=>e.pe toks u :: iq toks (u+e.pt.lv+1) l
end
def Mj (toks:List Tok):Prop:=∀ u,gu toks u=3→fK (iG (aI toks u))=aI toks u
theorem wT (n:Nat):iW (n:Int)=fK n:=by
 unfold iW;rw[if_neg (by omega),List.nil_append,Int.natAbs_natCast]
mutual
theorem CE.told {toks:List Tok}(hN:Mj toks){cl:Bool}:∀ (e:CE) (u:Nat),e.ok toks cl u→(e.pe toks u).told
 | .num,u,h=>by
  rw[CE.ok] at h;rw[CE.pe,PE.told];exact⟨fun _=>by rw[wT,hN u h],trivial⟩
 | .truth,u,h=>by rw[CE.pe,PE.told];exact⟨fun q=>absurd q (by decide),trivial⟩
 | .res,u,h=>by rw[CE.pe,PE.told];exact⟨fun q=>absurd q (by decide),trivial⟩
 | .Jj,u,h=>by rw[CE.pe,PE.told];exact⟨fun q=>absurd q (by decide),trivial⟩
 | .group e,u,h=>by rw[CE.ok] at h;rw[CE.pe];exact CE.told hN e _ h.2
 | .un e,u,h=>by
  rw[CE.ok] at h;rw[CE.pe,PE.told];exact⟨fun q=>by split at q<;>omega,CE.told hN e _ h.2,trivial⟩
 | .bin a b,u,h=>by
  rw[CE.ok] at h;rw[CE.pe,PE.told];exact⟨fun q=>by omega,CE.told hN a _ h.2.1,CE.told hN b _ h.2.2,trivial⟩
 | .iff a b c,u,h=>by
  rw[CE.ok] at h;rw[CE.pe,PE.told];exact⟨fun q=>by omega,CE.told hN a _ h.2.1,CE.told hN b _ h.2.2.1,CE.told hN c _ h.2.2.2,trivial⟩
 | .pF a b,u,h=>by
  rw[CE.ok] at h;rw[CE.pe,PE.told];exact⟨fun q=>by omega,CE.told hN a _ h.2.2.1,CE.told hN b _ h.2.2.2,trivial⟩
 | .pG a b,u,h=>by
  rw[CE.ok] at h;rw[CE.pe,PE.told];exact⟨fun q=>by omega,CE.told hN a _ h.2.1,CE.told hN b _ h.2.2,trivial⟩
 | .call q l,u,h=>by
  rw[CE.ok] at h;rw[CE.pe]
  cases q with
  | true =>
   rw[if_pos rfl,PE.told];exact⟨fun q=>by omega,Br hN l _ h.2.2.2.2.2⟩
  | false =>
   rw[if_neg (by decide),PE.told];exact⟨fun q=>by omega,Br hN l _ h.2.2.2.2⟩
theorem Br {toks:List Tok}(hN:Mj toks){cl:Bool}:∀ (l:List CE) (u:Nat),mU toks cl u l→Bp (iq toks u l)
 | [],u,_=>by rw[iq,Bp];trivial
 | e :: l,u,h=>by
  rw[mU] at h;rw[iq,Bp];exact⟨CE.told hN e _ h.1,Br hN l _ h.2⟩
end
def fG (nodes:List Nd)(ks:List Int):List Int:=ks.filter fun k=>(nodes[k.toNat]?.map (·.kind)).getD 19 != 19
theorem Mk {nodes:List Nd}{k:Int}{ks:List Int}{u:Nat}(h:lM nodes k u .leaf):fG nodes (k :: ks)=fG nodes ks:=by
 rw[lM] at h;rw[fG,List.filter_cons_of_neg (by rw[h.2];simp)]
 rfl
theorem CE.node (e:CE):∃ k l,e.pt=.node k l∧7≤k∧k≤17:=by
 cases e with
 | call q l=>exact⟨13,_,by rw[CE.pt],by omega,by omega⟩
 | num=>exact⟨15,_,by rw[CE.pt],by omega,by omega⟩
 | truth=>exact⟨16,_,by rw[CE.pt],by omega,by omega⟩
 | res=>exact⟨17,_,by rw[CE.pt],by omega,by omega⟩
 | Jj=>exact⟨14,_,by rw[CE.pt],by omega,by omega⟩
 | group e=>exact⟨12,_,by rw[CE.pt],by omega,by omega⟩
 | un e=>exact⟨11,_,by rw[CE.pt],by omega,by omega⟩
 | bin a b=>exact⟨10,_,by rw[CE.pt],by omega,by omega⟩
 | iff a b c=>exact⟨8,_,by rw[CE.pt],by omega,by omega⟩
 | pF a b=>exact⟨7,_,by rw[CE.pt],by omega,by omega⟩
 | pG a b=>exact⟨9,_,by rw[CE.pt],by omega,by omega⟩
theorem Ml {nodes:List Nd}{k:Int}{ks:List Int}{u:Nat}{e:CE}(h:lM nodes k u e.pt):fG nodes (k :: ks)=k :: fG nodes ks:=by
 obtain⟨c,l,he,h1,h2⟩:=e.node;rw[he,lM] at h;obtain⟨ks',_,h3,_⟩:=h;rw[fG,List.filter_cons_of_pos (by rw[h3];simp;omega)]
 rfl
inductive PZ where
 | mk (op:Int) (name module:List UInt8) (num:Int) (yes:Bool) (kids:List PZ) (at_:Int)
def PZ.op:PZ→Int | .mk o _ _ _ _ _ _=>o
def PZ.name:PZ→List UInt8 | .mk _ n _ _ _ _ _=>n
def PZ.module:PZ→List UInt8 | .mk _ _ m _ _ _ _=>m
def PZ.num:PZ→Int | .mk _ _ _ n _ _ _=>n
def PZ.yes:PZ→Bool | .mk _ _ _ _ y _ _=>y
def PZ.kids:PZ→List PZ | .mk _ _ _ _ _ k _=>k
def PZ.at_:PZ→Int | .mk _ _ _ _ _ _ a=>a
def dK (w:List UInt8):Bool:=match bW w with
 | .ok [t,_]=>decide (t.kind=1) && decide (t.text=w)
 | _=>false
def ET (op:Int):Int :=
 if op=5 then 8 else if op=6 then 4 else if op=7∨op=8 then 6 else if 9≤op∧op≤11 then 7 else if 12≤op∧op≤17 then 5
 else if op=18 then 3 else if op=19 then 2 else if op=20 then 1 else if 21≤op∧op≤23 then 0 else 9
def sD (op:Int):Int:=if ET op=5 then 6 else if ET op=1 then 2 else ET op
def wU (op:Int):Int:=if ET op=1 then 1 else ET op+1
def countB (op:Int)(n:Nat):Bool :=
 if op≤4 then decide (n=0) else if op≤6 then decide (n=1) else if op≤20∨op=22∨op=23 then decide (n=2) else if op=21 then decide (n=3) else decide (n≤8)
def lN (op:Int)(nm md:List UInt8):Bool :=
 if op=3∨op=22 then dK nm && decide (md=[]) else if op=24 then dK nm && (decide (md=[]) || dK md) else decide (nm=[]) && decide (md=[])
def oQ (op num:Int)(yes:Bool):Bool :=
 if op=1 then decide (0≤num) && decide ((iW num).length≤60) && !yes else decide (num=0) && (decide (op=2) || !yes)
def Qt (fm:Bool)(op:Int):Bool:=if fm=true then decide (op≤20) else decide (op≠4)
def OY (fm:Bool)(op:Int)(nm md:List UInt8)(num:Int)(yes:Bool)(n:Nat):Bool :=
 decide (1≤op) && decide (op≤24) && Qt fm op && lN op nm md && oQ op num yes && countB op n
mutual
def PZ.right (fm:Bool):PZ→Bool
 | .mk op nm md num yes kids _=>OY fm op nm md num yes kids.length && mo fm kids
def mo (fm:Bool):List PZ→Bool
 | []=>true
 | e :: l=>e.right fm && mo fm l
end
def qg (op:Int):List UInt8:=([[43],[45],[42],[47],[37],[61],[60,62],[60],[60,61],[62],[62,61],[38,38],[124,124],[61,62]]:List (List UInt8)).getD (op.toNat - 7) []
def oJ (least:Int)(k:Int × List UInt8):List UInt8:=if ET k.1<least then [40]++k.2++[41] else k.2
def bg:List (List UInt8)→List UInt8
 | []=>[]
 | [t]=>t
 | t :: s :: l=>t++[44,32]++bg (s :: l)
def lF (op:Int)(nm md:List UInt8)(num:Int)(yes:Bool)(ks:List (Int × List UInt8)):List UInt8 :=
 if op=1 then iW num
 else if op=2 then (if yes=true then [116,114,117,101] else [102,97,108,115,101])
 else if op=3 then nm
 else if op=4 then [114,101,115]
 else if op=5 then [45]++oJ 9 (ks.getD 0 (0,[]))
 else if op=6 then [110,111,116,32]++oJ 4 (ks.getD 0 (0,[]))
 else if op=21 then [105,102,32]++(ks.getD 0 (0,[])).2++[32,116,104,101,110,32]++(ks.getD 1 (0,[])).2++[32,101,108,115,101,32]++(ks.getD 2 (0,[])).2
 else if op=22 then [108,101,116,32]++nm++[32,61,32]++(ks.getD 0 (0,[])).2++[32,105,110,32]++(ks.getD 1 (0,[])).2
 else if op=23 then [97,115,115,101,114,116,32]++(ks.getD 0 (0,[])).2++[32,105,110,32]++(ks.getD 1 (0,[])).2
 else if op=24 then (if md=[] then [] else md++[46])++nm++[40]++bg (ks.map Prod.snd)++[41]
 else oJ (sD op) (ks.getD 0 (0,[]))++[32]++qg op++[32]++oJ (wU op) (ks.getD 1 (0,[]))
mutual
def PZ.text:PZ→List UInt8
 | .mk op nm md num yes kids _=>lF op nm md num yes (gJ kids)
def gJ:List PZ→List (Int × List UInt8)
 | []=>[]
 | e :: l=>(e.op,e.text) :: gJ l
end
theorem PZ.EU (fm:Bool)(e:PZ):e.right fm=(OY fm e.op e.name e.module e.num e.yes e.kids.length && mo fm e.kids):=by cases e;rw[PZ.right];rfl
theorem PZ.mJ (e:PZ):e.text=lF e.op e.name e.module e.num e.yes (gJ e.kids):=by cases e;rw[PZ.text];rfl
theorem sF {fm:Bool}:∀ {l:List PZ},mo fm l=true↔∀ e∈l,e.right fm=true
 | []=>by simp[mo]
 | e :: l=>by rw[mo,Bool.and_eq_true,sF];simp
theorem nT:∀ l:List PZ,gJ l=l.map fun e=>(e.op,e.text)
 | []=>rfl
 | e :: l=>by rw[gJ,nT l];rfl
theorem jY {l:List PZ}{i:Nat}(h:i<l.length):(gJ l).getD i (0,[])=(l[i].op,l[i].text):=by
 rw[nT,List.getD_eq_getElem?_getD,List.getElem?_map,List.getElem?_eq_getElem h];rfl
mutual
def PE.z:PE→PZ
 | .mk op nm md num _ yes kids a=>.mk op nm md num yes (EW kids) a
def EW:List PE→List PZ
 | []=>[]
 | e :: l=>e.z :: EW l
end
theorem wV:∀ l:List PE,EW l=l.map PE.z
 | []=>rfl
 | e :: l=>by rw[EW,wV l];rfl
end Go.Proofs.YtknicmmigbhpcaaGreatDoor
