/- Walks and plain laws, without a condition. -/
import Derived.Test.YtmleecdnkmoohaaGreatDoorK14
set_option maxHeartbeats 16000000
set_option maxRecDepth 100000
set_option linter.unusedVariables false
set_option linter.unusedSimpArgs false
namespace Go.Proofs.YtmleecdnkmoohaaGreatDoor
variable{y0:Int}{b0:Nat}
theorem Wo (op:Int):(zW op).length<=2:=by
 unfold zW;generalize op.toNat - 7=i
 have h:∀ x∈([[43],[45],[42],[47],[37],[61],[60,62],[60],[60,61],[62],[62,61],[38,38],[124,124],[61,62]]:List aH),x.length<=2:=by decide
 rw[Kr]
 cases hx:([[43],[45],[42],[47],[37],[61],[60,62],[60],[60,61],[62],[62,61],[38,38],[124,124],[61,62]]:List aH)[i]? with
 | none=>simp
 | some x=>exact h x (List.mem_of_getElem? hx)
theorem AA (l:Int)(k:Int × aH):(rU l k).length<=k.2.length+2:=by
 unfold rU
 split
 ·simp only[bY,fu,jC];omega
 ·omega
def AB:List (Int × aH)->Nat
 | []=>0
 | k :: l=>k.2.length+AB l
theorem RZ:∀ ks:List (Int × aH),(ks.getD 0 (0,[])).2.length+(ks.getD 1 (0,[])).2.length+(ks.getD 2 (0,[])).2.length<=AB ks
 | []=>by simp[AB]
 | [a]=>by simp[AB]
 | [a,b]=>by simp[AB]
 | a :: b :: c :: l=>by simp[AB];omega
theorem Gh:∀ ks:List (Int × aH),(bO (ks.map Prod.snd)).length<=AB ks+2 * ks.length
 | []=>by simp[bO,AB]
 | [a]=>by simp[bO,AB]
 | a :: b :: l=>by
  have h:=Gh (b :: l);simp only[lN,bO,bY,fu,jC,AB] at h |-;omega
theorem Wp (op:Int)(nm md:aH)(num:Int)(yes:Bool)(ks:List (Int × aH))(h1:nm.length<=65536)(h2:md.length<=65536)(h3:(lS num).length<=61)(h4:ks.length<=65536):(oq op nm md num yes ks).length<=AB ks+300000:=by
 have h5:=RZ ks;have h6:=Gh ks;have h7:=Wo op;have p1:=AA 9 (ks.getD 0 (0,[]));have p2:=AA 4 (ks.getD 0 (0,[]));have p3:=AA (vY op) (ks.getD 0 (0,[]));have p4:=AA (CG op) (ks.getD 1 (0,[]))
 have hm:(if md=[] then [] else md++[46]).length<=65537:=by
  split
  ·simp
  ·simp only[bY,fu,jC];omega
 unfold oq;generalize (if md=[] then [] else md++[46])=mm at hm |-
 repeat' split
 all_goals ((try simp only[bY,fu,jC]);omega)
theorem OE:∀ (k n:Nat),n<10 ^ (k+1)->(kg n).length<=k+1
 | 0,n,h=>by
  rw[kg,dif_pos (by omega)]
  simp
 | k+1,n,h=>by
  rw[kg]
  split
  ·simp
  ·rw[bY,List.length_singleton]
   have:=OE k (n / 10) (by rw[Nat.pow_succ] at h;omega);omega
theorem Zw {n:Int}(h:n.natAbs<10 ^ 60):(lS n).length<=61:=by
 unfold lS;rw[bY];have:=OE 59 n.natAbs h
 split
 ·simp only[fu,jC];omega
 ·simp only[jC];omega
mutual
theorem PZ.Gi:∀ e:PZ,e.fit->e.text.length<=300000 * e.size
 | .mk op nm md num yes aB at_,h=>by
  rw[PZ.fit] at h;obtain⟨h1,h2,h3,h4,h5⟩:=h;have hs:=AJ aB h5
  have hl:(iU aB).length=aB.length:=by rw[qX,oC]
  have:=Wp op nm md num yes (iU aB) h1 h2 (Zw h3) (by omega);rw[PZ.text,PZ.size];omega
theorem AJ:∀ l:List PZ,Lc l->AB (iU l)<=300000 * ou l
 | [],_=>by simp[iU,AB]
 | e :: l,h=>by
  rw[Lc] at h;have h1:=PZ.Gi e h.1;have h2:=AJ l h.2;rw[iU,AB,ou];simp only;omega
end
theorem Ub {aj:List Nd}:∀ (l:List PT) (ks:List Int) (u:Nat),fP aj ks u l->ks.length=l.length/\∀ j,(h1:j<ks.length)->(h2:j<l.length)->oH aj ks[j] (u+bU (l.take j)) l[j]
 | [],ks,u,h=>by
  rw[fP] at h;subst h;exact⟨rfl,λj h1=>absurd h1 (by simp)⟩
 | i :: l,ks,u,h=>by
  rw[fP] at h;obtain⟨k,ks',rfl,h1,h2⟩:=h;obtain⟨h3,h4⟩:=Ub l ks' _ h2;refine⟨by simp[h3],λj q1 q2=>?_⟩
  cases j with
  | zero=>simpa [bU] using h1
  | succ j =>
   have:=h4 j (by simpa using q1) (by simpa using q2);rw[List.take_succ_cons,bU,<- vN];exact this
theorem OG:∀ (l:List PT) (j:Nat) (h:j<l.length),bU (l.take j)+l[j].lv<=bU l
 | [],j,h=>absurd h (by simp)
 | i :: l,0,h=>by simp[bU]
 | i :: l,j+1,h=>by
  have:=OG l j (by simpa using h);rw[List.take_succ_cons,bU,bU];simp only[H9];omega
theorem Gj (ah:List Tok):∀ (n u j:Nat) (h:j<(qx ah u n).length),(qx ah u n)[j]=(aP ah (u+3 * j+1),dU ah (u+3 * j+1))
 | 0,u,j,h=>absurd h (by simp[qx])
 | n+1,u,0,h=>rfl
 | n+1,u,j+1,h=>by
  have:=Gj ah n (u+3) j (by simpa [qx] using h);simp only[qx,H9,this];rw[show u+3+3 * j+1=u+3 * (j+1)+1 by omega]
theorem Gl (ah:List Tok):∀ (l:List dV) (u j:Nat) (h:j<l.length) (h2:j<(nW ah u l).length),(nW ah u l)[j]=l[j].dd ah (u+bU ((l.take j).map dV.pt))
 | [],u,j,h,_=>absurd h (by simp)
 | d :: l,u,0,h,_=>by simp[nW,bU]
 | d :: l,u,j+1,h,h2=>by
  have:=Gl ah l (u+d.pt.lv) j (by simpa using h) (by simpa [nW] using h2);simp only[nW,H9,this,List.take_succ_cons,lN,bU,vN]
theorem Gm {ah:List Tok}:∀ (l:List dV) (u j:Nat) (h:j<l.length),Bw ah u l->l[j].ok ah (u+bU ((l.take j).map dV.pt))
 | [],u,j,h,_=>absurd h (by simp)
 | d :: l,u,0,h,ho=>by simpa [bU] using ho.1
 | d :: l,u,j+1,h,ho=>by
  have:=Gm l (u+d.pt.lv) j (by simpa using h) ho.2
  simpa [bU,vN] using this
theorem l6.acO (p:l6)(j:Nat)(h:j<p.imps):∃ h2:j<p.aB.length,p.aB[j]=wK/\bU (p.aB.take j)=3 * j:=by
 have h2:j<p.aB.length:=by simp only[l6.aB,bY,abt];omega
 refine⟨h2,?_,?_⟩
 ·simp only[l6.aB]
  rw[List.getElem_append_left (by simpa using h),List.getElem_replicate]
 ·simp only[l6.aB]
  rw[abk (by simp;omega),List.take_replicate,Ei,Nat.min_eq_left (by omega)]
theorem l6.acP (p:l6)(j:Nat)(h:j<p.defs.length):∃ h2:p.imps+j<p.aB.length,p.aB[p.imps+j]=p.defs[j].pt/\bU (p.aB.take (p.imps+j))=3 * p.imps+bU ((p.defs.take j).map dV.pt):=by
 have h2:p.imps+j<p.aB.length:=by simp only[l6.aB,bY,abt,oC];omega
 refine⟨h2,?_,?_⟩
 ·simp only[l6.aB]
  rw[List.getElem_append_right (by simp),List.getElem_append_left (by simp;omega)]
  simp
 ·simp only[l6.aB]
  rw[List.take_append,Ba (by simp),jr,Ei,abt,Nat.add_sub_cancel_left,abk (by simp;omega),List.map_take]
theorem l6.acQ (p:l6):∃ h2:p.imps+p.defs.length<p.aB.length,p.aB[p.imps+p.defs.length]=.leaf:=by
 have h2:p.imps+p.defs.length<p.aB.length:=by simp only[l6.aB,bY,abt,oC,List.length_singleton];omega
 refine⟨h2,?_⟩;simp only[l6.aB];rw[List.getElem_append_right (by simp),List.getElem_append_right (by simp)]
 simp
theorem l6.Zx (p:l6):p.aB.length=p.imps+p.defs.length+1:=by
 simp only[l6.aB,bY,abt,oC,List.length_singleton];omega
inductive It where
 | leaf
 | expr (e:CE)
 | par (t:gQ)
 | base
 | cl (e:CE)
def It.pt:It->PT
 | .leaf=>.leaf
 | .expr e=>e.pt
 | .par t=>t.par
 | .base=>.node 5 [.leaf]
 | .cl e=>.node 6 [.leaf,e.pt,.leaf]
structure Zy where
 base:Nat
 aC:List PE
 bare:Int
def It.step (ah:List Tok)(u:Nat):It->Zy->Zy
 | .base,a=>⟨if aP ah u=vG then 2 else 1,a.aC,((dU ah u+(aP ah u).length:Nat):Int)⟩
 | .cl e,a=>⟨a.base,[e.pe ah (u+1)],-1⟩
 | _,a=>a
def nX (ah:List Tok):Nat->List It->Zy->Zy
 | _,[],a=>a
 | u,i :: l,a=>nX ah (u+i.pt.lv) l (i.step ah u a)
theorem nu (ah:List Tok):∀ (l k:List It) (u:Nat) (a:Zy),nX ah u (l++k) a=nX ah (u+bU (l.map It.pt)) k (nX ah u l a)
 | [],k,u,a=>by simp[nX,bU]
 | i :: l,k,u,a=>by
  rw[pJ,nX,nu ah l k,nX,lN,bU,vN]
def gI (ah:List Tok):Nat->List It->List FF
 | _,[]=>[]
 | u,.par t :: l=>t.wM ah u :: gI ah (u+(It.par t).pt.lv) l
 | u,i :: l=>gI ah (u+i.pt.lv) l
theorem iC (ah:List Tok):∀ (l k:List It) (u:Nat),gI ah u (l++k)=gI ah u l++gI ah (u+bU (l.map It.pt)) k
 | [],k,u=>by simp[gI,bU]
 | .par t :: l,k,u=>by
  rw[pJ,gI,iC ah l k,gI,lN,bU,vN,pJ]
 | .leaf :: l,k,u=>by
  rw[pJ,gI,iC ah l k,gI,lN,bU,vN]<;>simp
 | .base :: l,k,u=>by
  rw[pJ,gI,iC ah l k,gI,lN,bU,vN]<;>simp
 | .expr e :: l,k,u=>by
  rw[pJ,gI,iC ah l k,gI,lN,bU,vN]<;>simp
 | .cl e :: l,k,u=>by
  rw[pJ,gI,iC ah l k,gI,lN,bU,vN]<;>simp
def gQ.its (t:gQ):List It:=[.leaf,.base]++(match t.cl with|none=>[]|some e=>[.cl e])
theorem gQ.Gn (t:gQ):t.its.map It.pt=t.pts:=by
 unfold gQ.its gQ.pts
 cases t.cl<;>rfl
def gQ.rF (t:gQ):List It:=.leaf :: t.its
theorem gQ.Wq (t:gQ):t.par=.node 4 (t.rF.map It.pt):=by
 rw[gQ.par,gQ.rF,lN,t.Gn]
 rfl
def gP:List gQ->List It
 | []=>[]
 | t :: l=>.par t :: (match l with | []=>[]|_ :: _=>.leaf :: gP l)
theorem tZ:∀ l:List gQ,(gP l).map It.pt=kU (l.map gQ.par)
 | []=>rfl
 | [t]=>rfl
 | t :: s :: l=>by
  have:=tZ (s :: l);rw[show gP (t :: s :: l)=.par t :: .leaf :: gP (s :: l) from by rw[gP],lN,lN,this];show _=kU (t.par :: s.par :: l.map gQ.par);rw[tN]
  rfl
def dV.gJ (d:dV):List It:=if d.pub=true then [.leaf] else []
def dV.its (d:dV):List It:=d.gJ++([.leaf,.leaf,.leaf]++(gP d.lX++([.leaf]++(d.ty.its++[.leaf,.expr d.body,.leaf]))))
theorem dV.Gn (d:dV):d.pt=.node 3 (d.its.map It.pt):=by
 have h:d.gJ.map It.pt=d.lead:=by unfold dV.gJ dV.lead;split<;>rfl
 rw[dV.pt,dV.aB,dV.its];simp only[xZ,h,tZ,d.ty.Gn,lN,List.map_nil,It.pt]
theorem qR (ah:List Tok):∀ (l:List It) (u:Nat) (a:Zy),(∀ i∈l,(i matches .leaf)\/(i matches .par _)\/(i matches .expr _))->nX ah u l a=a
 | [],u,a,_=>rfl
 | i :: l,u,a,h=>by
  rw[nX,qR ah l _ _ λx hx=>h x (Dy _ hx)];have:=h i Cu
  cases i<;>simp_all [It.step]
theorem OH (ah:List Tok)(t:gQ)(u:Nat)(name:aH)(at_:Nat):nX ah u t.its ⟨b0,[],y0⟩=⟨(t.ff ah u name at_).base,(t.ff ah u name at_).aC,(t.ff ah u name at_).bare⟩:=by
 unfold gQ.its gQ.ff
 cases t.cl with
 | none=>simp[nX,It.step,It.pt,PT.lv]
 | some e=>simp[nX,It.step,It.pt,PT.lv,bU]
theorem Gp:∀ l:List gQ,∀ i∈gP l,(i matches .leaf)\/(i matches .par _)\/(i matches .expr _)
 | [],i,h=>by rw[gP] at h;cases h
 | [t],i,h=>by
  rw[gP,Ia] at h;subst h;exact .inr (.inl rfl)
 | t :: s :: l,i,h=>by
  rw[show gP (t :: s :: l)=.par t :: .leaf :: gP (s :: l) from by rw[gP],nY,nY] at h
  rcases h with rfl|rfl|h
  ·exact .inr (.inl rfl)
  ·exact .inl rfl
  ·exact Gp (s :: l) i h
theorem gQ.acR (ah:List Tok)(t:gQ)(u:Nat):nX ah u t.rF ⟨b0,[],y0⟩=⟨(t.wM ah u).base,(t.wM ah u).aC,(t.wM ah u).bare⟩:=by
 rw[gQ.rF,nX,gQ.wM];exact OH ah t (u+1) _ _
theorem dV.typ (ah:List Tok)(d:dV)(u:Nat):nX ah u d.its ⟨b0,[],y0⟩=⟨(d.dd ah u).res.base,(d.dd ah u).res.aC,(d.dd ah u).res.bare⟩:=by
 have h1:∀ i∈d.gJ,(i matches .leaf)\/(i matches .par _)\/(i matches .expr _):=λi h=>by
  unfold dV.gJ at h
  split at h
  ·rw[Ia] at h;subst h;exact .inl rfl
  ·cases h
 have h2:∀ i∈[It.leaf,.leaf,.leaf],(i matches .leaf)\/(i matches .par _)\/(i matches .expr _):=λi h=>by
  simp only[nY,List.not_mem_nil,or_false,or_self] at h;subst h;exact .inl rfl
 have h3:∀ i∈[It.leaf,.expr d.body,.leaf],(i matches .leaf)\/(i matches .par _)\/(i matches .expr _):=λi h=>by
  simp only[nY,List.not_mem_nil,or_false] at h
  rcases h with rfl|rfl|rfl
  ·exact .inl rfl
  ·exact .inr (.inr rfl)
  ·exact .inl rfl
 have h4:∀ i∈[It.leaf],(i matches .leaf)\/(i matches .par _)\/(i matches .expr _):=λi h=>by
  rw[Ia] at h;subst h;exact .inl rfl
 have hl:bU (d.gJ.map It.pt)=bU d.lead:=by unfold dV.gJ dV.lead;split<;>rfl
 rw[dV.its,nu,qR ah _ _ _ h1,nu,qR ah _ _ _ h2,nu,qR ah _ _ _ (Gp _),nu,qR ah _ _ _ h4,nu,qR ah _ _ _ h3]
 rw[show u+bU (d.gJ.map It.pt)+bU ([It.leaf,.leaf,.leaf].map It.pt)+bU ((gP d.lX).map It.pt)+bU ([It.leaf].map It.pt)=d.at2 u by
  rw[hl,tZ]
  simp only[dV.at2,dV.FE,lN,List.map_nil,It.pt,bU,PT.lv]]
 exact OH ah d.ty _ _ _
theorem xU (ah:List Tok):∀ (l:List It) (u:Nat),(∀ i∈l,¬ (i matches .par _))->gI ah u l=[]
 | [],u,_=>rfl
 | i :: l,u,h=>by
  have h1:=h i Cu
  have h2:=xU ah l (u+i.pt.lv) λx hx=>h x (Dy _ hx)
  cases i with
  | par t=>simp at h1
  | leaf=>rw[gI];exact h2;simp
  | base=>rw[gI];exact h2;simp
  | expr e=>rw[gI];exact h2;simp
  | cl e=>rw[gI];exact h2;simp
theorem OI (ah:List Tok):∀ (l:List gQ) (u:Nat),gI ah u (gP l)=oP ah u l
 | [],u=>rfl
 | [t],u=>by rw[gP,gI,gI,oP,oP]
 | t :: s :: l,u=>by
  rw[show gP (t :: s :: l)=.par t :: .leaf :: gP (s :: l) from by rw[gP],gI,gI,OI ah (s :: l),oP]
  ·rfl
  ·simp
theorem dV.Zz (ah:List Tok)(d:dV)(u:Nat):gI ah u d.its=(d.dd ah u).params:=by
 have h1:∀ i∈d.gJ,¬ (i matches .par _):=λi h=>by
  unfold dV.gJ at h
  split at h
  ·rw[Ia] at h;subst h;simp
  ·cases h
 have h2:∀ i∈[It.leaf,.leaf,.leaf],¬ (i matches .par _):=λi h=>by
  simp only[nY,List.not_mem_nil,or_false,or_self] at h;subst h;simp
 have h3:∀ i∈([It.leaf]++(d.ty.its++[.leaf,.expr d.body,.leaf])),¬ (i matches .par _):=λi h=>by
  unfold gQ.its at h
  cases hc:d.ty.cl with
  | none =>
   rw[hc] at h;simp only[List.mem_append,nY,List.not_mem_nil,or_false] at h
   rcases h with rfl|(rfl|rfl)|rfl|rfl|rfl<;>simp
  | some e =>
   rw[hc] at h;simp only[List.mem_append,nY,List.not_mem_nil,or_false] at h
   rcases h with rfl|((rfl|rfl)|rfl)|rfl|rfl|rfl<;>simp
 have hl:bU (d.gJ.map It.pt)=bU d.lead:=by unfold dV.gJ dV.lead;split<;>rfl
 rw[dV.its,iC,xU ah _ _ h1,iC,xU ah _ _ h2,iC,xU ah _ _ h3,OI,uD,uD,List.append_nil,hl];simp only[lN,List.map_nil,It.pt,bU,PT.lv]
 rfl
open Go.RowKit Go
variable{c0 c1 c2 c3 c4 c5 c6 c7:Value}{b:Nat}{w:World}
theorem Gq {T:TypeId}(h:w.heap[b]?=some (.cells #[c0,c1] T (0,0))):w.cell? ⟨b,0,none⟩=some c0/\w.cell? ⟨b,1,none⟩=some c1:=by
 constructor<;>(rw[aZ h];rfl)
theorem cells3 {T:TypeId}(h:w.heap[b]?=some (.cells #[c0,c1,c2] T (0,0))):w.cell? ⟨b,0,none⟩=some c0/\w.cell? ⟨b,1,none⟩=some c1/\w.cell? ⟨b,2,none⟩=some c2:=by
 refine⟨?_,?_,?_⟩<;>(rw[aZ h];rfl)
theorem Sb {T:TypeId}(h:w.heap[b]?=some (.cells #[c0,c1,c2,c3] T (0,0))):w.cell? ⟨b,0,none⟩=some c0/\w.cell? ⟨b,1,none⟩=some c1/\w.cell? ⟨b,2,none⟩=some c2/\w.cell? ⟨b,3,none⟩=some c3/\∀ j,w.frozen? ⟨b,j,none⟩=false:=by
 refine⟨?_,?_,?_,?_,λj=>by simp[World.frozen?,h]⟩<;>(rw[aZ h];rfl)
theorem mJ {T:TypeId}(h:w.heap[b]?=some (.cells #[c0,c1,c2,c3,c4,c5,c6,c7] T (0,0))):(w.cell? ⟨b,0,none⟩=some c0/\w.cell? ⟨b,1,none⟩=some c1/\w.cell? ⟨b,2,none⟩=some c2/\w.cell? ⟨b,3,none⟩=some c3)/\(w.cell? ⟨b,4,none⟩=some c4/\w.cell? ⟨b,5,none⟩=some c5/\w.cell? ⟨b,6,none⟩=some c6/\w.cell? ⟨b,7,none⟩=some c7)/\∀ j,w.frozen? ⟨b,j,none⟩=false:=by
 refine⟨⟨?_,?_,?_,?_⟩,⟨?_,?_,?_,?_⟩,λj=>by simp[World.frozen?,h]⟩<;>(rw[aZ h];rfl)
structure mK (w:World) (c0 c1 c2 c3:Array Value) (t0 t1 t2 t3:TypeId) (W:World):Prop where
 s0:W.heap[w.heap.size]?=some (.cells c0 t0 (0,0))
 s1:W.heap[w.heap.size+1]?=some (.cells c1 t1 (0,0))
 s2:W.heap[w.heap.size+1+1]?=some (.cells c2 t2 (0,0))
 s3:W.heap[w.heap.size+1+1+1]?=some (.cells c3 t3 (0,0))
 al:Below w.heap.size w W
section
variable {w W W':World} {c0 c1 c2 c3:Array Value} {t0 t1 t2 t3:TypeId}
theorem mK.of (h:(((w.alloc (.cells c0 t0)).alloc (.cells c1 t1)).alloc (.cells c2 t2)).alloc (.cells c3 t3)=W):mK w c0 c1 c2 c3 t0 t1 t2 t3 W:=by
 subst h
 have ho:=λ(W:World) (o:Obj) (k:Nat) (hk:k<W.heap.size)=>gZ W o k hk
 have g1:=aX (w.alloc (.cells c0 t0)) (.cells c1 t1);have g2:=aX ((w.alloc (.cells c0 t0)).alloc (.cells c1 t1)) (.cells c2 t2);have g3:=aX (((w.alloc (.cells c0 t0)).alloc (.cells c1 t1)).alloc (.cells c2 t2)) (.cells c3 t3);rw[nG] at g1;rw[nG,nG] at g2;rw[nG,nG,nG] at g3;refine⟨?_,?_,?_,g3,((((bQ w.heap.size w).alloc (bD _) _).alloc (by simp) _).alloc (by simp<;>omega) _).alloc (by simp<;>omega) _⟩
 ·exact(ho _ _ _ (by simp<;>omega)).trans ((ho _ _ _ (by simp<;>omega)).trans ((ho _ _ _ (by simp)).trans (aX w (.cells c0 t0))))
 ·exact(ho _ _ _ (by simp<;>omega)).trans ((ho _ _ _ (by simp)).trans g1)
 ·exact(ho _ _ _ (by simp)).trans g2
theorem mK.drewN (h:mK w c0 c1 c2 c3 t0 t1 t2 t3 W)(n:Nat):mK w c0 c1 c2 c3 t0 t1 t2 t3 (W.drewN n):=⟨h.s0,h.s1,h.s2,h.s3,below_drewN h.al n⟩
theorem mK.drew (h:mK w c0 c1 c2 c3 t0 t1 t2 t3 W):mK w c0 c1 c2 c3 t0 t1 t2 t3 W.drew:=⟨h.s0,h.s1,h.s2,h.s3,h.al.drew⟩
theorem mK.size (h:mK w c0 c1 c2 c3 t0 t1 t2 t3 W):w.heap.size+1+1+1<W.heap.size:=(bP h.s3).1
theorem mK.later (h:mK w c0 c1 c2 c3 t0 t1 t2 t3 W)(hb:Below W.heap.size W W'):mK w c0 c1 c2 c3 t0 t1 t2 t3 W':=by
 have:=h.size;exact⟨(hb.block _ (by omega)).trans h.s0,(hb.block _ (by omega)).trans h.s1,(hb.block _ (by omega)).trans h.s2,(hb.block _ (by omega)).trans h.s3,h.al.trans (hb.mono h.al.size)⟩
end
def Rd (f B:Nat)(tv nv:Value)(ah:List Tok)(aj:List Nd)(k:Nat)(x:PE):Prop:=∀ W:World,bJ B W (.agg #[tv,nv]) ah aj->B<=W.heap.size->Calls Tryz.prog f #[.agg #[tv,nv],.int .i64 k] W (EPost XA x W)
def RdM (B:Nat)(tv nv:Value)(ah:List Tok)(aj:List Nd)(i:Nat)(jH:List PE):Prop:=∀ (op at_:Nat) (W:World),bJ B W (.agg #[tv,nv]) ah aj->B<=W.heap.size->Calls Tryz.prog 170 #[.agg #[tv,nv],.int .i64 op,.int .i64 at_,.int .i64 i] W (EPost XA (.mk op [] [] 0 [] false jH at_) W)
inductive rG (B:Nat) (tv nv:Value) (ah:List Tok) (aj:List Nd) (i:Nat) (ks:List Int) (t:Tok):Int->PE->Prop
 | group (k1:Nat) (x:PE):ks[1]?=some (k1:Int)->Rd 116 B tv nv ah aj k1 x->rG B tv nv ah aj i ks t 12 x
 | bin (x:PE):Rd 168 B tv nv ah aj i x->rG B tv nv ah aj i ks t 10 x
 | call (x:PE):Rd 169 B tv nv ah aj i x->rG B tv nv ah aj i ks t 13 x
 | not (jH:List PE):t.text=[110,111,116]->RdM B tv nv ah aj i jH->rG B tv nv ah aj i ks t 11 (.mk 6 [] [] 0 [] false jH t.place)
 | neg (jH:List PE):t.text=[45]->RdM B tv nv ah aj i jH->rG B tv nv ah aj i ks t 11 (.mk 5 [] [] 0 [] false jH t.place)
 | iff (jH:List PE):RdM B tv nv ah aj i jH->rG B tv nv ah aj i ks t 8 (.mk 21 [] [] 0 [] false jH t.place)
 | vP (jH:List PE):RdM B tv nv ah aj i jH->rG B tv nv ah aj i ks t 9 (.mk 23 [] [] 0 [] false jH t.place)
 | vO (jH:List PE) (k1:Nat) (tx:aH):RdM B tv nv ah aj i jH->ks[1]?=some (k1:Int)->(∀ W:World,bJ B W (.agg #[tv,nv]) ah aj->B<=W.heap.size->Calls Tryz.prog 113 #[.agg #[tv,nv],.int .i64 k1] W λe w'=>e=.returned (.string ⟨tx.toArray⟩)/\Below W.heap.size W w')->rG B tv nv ah aj i ks t 7 (.mk 22 tx [] 0 [] false jH t.place)
 | num (n:Nat) (txt:aH):(∀ W:World,Calls Tryz.prog 171 #[.string ⟨t.text.toArray⟩] W (Yq n W))->rG B tv nv ah aj i ks t 15 (.mk 1 [] [] (n:Nat) txt false [] t.place)
 | tru:t.text=[116,114,117,101]->rG B tv nv ah aj i ks t 16 (.mk 2 [] [] 0 [] true [] t.place)
 | fls:t.text=[102,97,108,115,101]->rG B tv nv ah aj i ks t 16 (.mk 2 [] [] 0 [] false [] t.place)
 | res:rG B tv nv ah aj i ks t 17 (.mk 4 [] [] 0 [] false [] t.place)
 | Cz:rG B tv nv ah aj i ks t 14 (.mk 3 t.text [] 0 [] false [] t.place)
theorem JV (B:Nat)(tv nv:Value)(ah:List Tok)(aj:List Nd)(i:Nat)(kd:Int)(ks:List Int)(w:World)(h:bJ B w (.agg #[tv,nv]) ah aj)(hB:B<=w.heap.size)(hn:aj[i]?=some ⟨kd,-1,ks⟩)(k0:Nat)(hk0:ks[0]?=some (k0:Int))(t:Tok)(xn:Nd)(hl0:aj[k0]?=some xn)
  (ht:(∃ u:Nat,xn=⟨19,(u:Nat),[]⟩/\ah[u]?=some t)\/(xn.kind≠19/\t=⟨0,[],[],0⟩)) (x:PE) (hx:rG B tv nv ah aj i ks t kd x) :
  Calls Tryz.prog 116 #[.agg #[tv,nv],.int .i64 i] w (EPost XA x w):=by
 obtain⟨hi,hni⟩:=pE hn;obtain⟨hk1,hk2⟩:=pE hk0;obtain⟨hi0,agA⟩:=pE hl0;have HT:=ay h;obtain⟨a1,c1,_,_,e⟩:=h.slices;obtain⟨b,off,cap,kv,rfl,hb,x0,x1,x2,hkv⟩:=h.node hi;obtain⟨b',off',jw,kv',e',hb',y0,_,_,_⟩:=h.node hi0
 obtain⟨⟨rfl,rfl⟩,rfl⟩:(b=b'/\off=off')/\cap=jw:=by simpa using e'
 obtain⟨rfl,-⟩:tv=.slice a1 ah.length c1/\_:=by simpa using e
 rw[hni] at x0 x1 hkv;rw[agA] at y0;simp only at x0 x1 hkv;obtain⟨ak,ck,rfl,_,yE⟩:=hkv.form;obtain⟨bk,ok,rfl,hbk,hkc⟩:=yE (by omega);have hz:=hkc 0 hk1;rw[hk2,nZ] at hz;have Xh:=ay hkc;have HL0:=ay hl0;have HX:=ay hx;have Me:=ay ht;generalize hkk:xn.kind=kk at y0;have HKK:=ay hkk;have cO:=((bQ w.heap.size w).alloc (bD _) (.cells #[.slice a1 ah.length c1,.slice (some ⟨b,off,none⟩) aj.length cap] 154)).alloc (by simp) (.cells #[.int .i64 0,.string ⟨#[]⟩,.string ⟨#[]⟩,.bool false,.slice none 0 0,.bool false,.slice none 0 0,.int .i64 0] 60);have X0:=jo cO x0;have X1:=jo cO x1;have X2:=jo cO x2
 have hiI:(i:Int)<(aj.length:Int):=by omega
 have ajl:(k0:Int)<(aj.length:Int):=by omega
 have hkl:(0:Int)<(ks.length:Int):=by omega
 have ajm:0<ks.length:=by omega
 clear e e' hkv yE hkc hn hni agA hl0 hk0 hk2 h hx ht hkk cO x0 x1 x2;go_enter Tryz.func116,Tryz.ntmps116;go_wp2;generalize hw4:(((w.alloc _).alloc _).alloc _).alloc _=w4;have S:=mK.of hw4;obtain⟨r0,r1⟩:=Gq S.s0;obtain⟨n0,n1,n2⟩:=cells3 S.s2;have z4:=jo S.al hz;have y4:=jo S.al y0;clear hw4 X0 X1 X2
 go_quiet (fail)
 go_upto_if 27 with fail
 have S5:=S.drewN nq;clear r0 r1 n0 n1 n2 z4 y4 S;generalize w4.drewN nq=w5 at S5 |-;obtain⟨r0,r1⟩:=Gq S5.s0;obtain⟨n0,n1,n2⟩:=cells3 S5.s2
 go_cut [] (λwc=>mK w #[.slice a1 ah.length c1,.slice (some ⟨b,off,none⟩) aj.length cap] #[.int .i64 0,.string ⟨#[]⟩,.string ⟨#[]⟩,.bool false,.slice none 0 0,.bool false,.slice none 0 0,.int .i64 0] #[.int .i64 kd,.int .i64 (-1),.slice (some ⟨bk,ok,none⟩) ks.length ck] #[.int .i64 t.kind,.string ⟨t.lead.toArray⟩,.string ⟨t.text.toArray⟩,.int .i64 t.place] 154 60 156 159 wc)
 case first =>
  rcases Me.out with ⟨u,hxn,hut⟩|⟨hne,rfl⟩
  ·have hkk:=HKK.out
   rw[hxn] at hkk;obtain rfl:kk=19:=hkk.symm;have hl0:=HL0.out;rw[hxn] at hl0;have z5:=jo S5.al hz;obtain⟨hu,agB⟩:=pE hut
   have hK:=(kP B _ _ ah aj k0 u w5.drew (HT.out.below ((S5.al.mono hB).drew)) (by have:=S5.al.size;show B<=w5.heap.size;omega) hl0 hu)
   rw[agB] at hK;unfold qw fC at hK;have HK:=ay hK;clear hK hut agB hkk hxn hl0 hz y0;go_wp2
   go_still_tail 5,(by kernel_rfl)
   change wpList _ _ _ _ _ w5.drew;go_wp2_with (go_at_call 68;refine HK.out.mono ?_);rintro e w6 ⟨rfl,hb6⟩;have S6:=S5.drew.later hb6;obtain⟨t0,t1,t2,t3,tz⟩:=Sb S6.s3;obtain⟨S3,So,Sz⟩:=za S6.s3 (.int .i64 t.kind) (.string ⟨t.lead.toArray⟩) (.string ⟨t.text.toArray⟩) (.int .i64 t.place);clear z5 r0 r1 n0 n1 n2;go_wp2
   go_meet
   exact⟨(So _ (by omega)).trans S6.s0,(So _ (by omega)).trans S6.s1,(So _ (by omega)).trans S6.s2,S3,(((S6.al.setCell (by show _<=w.heap.size+1+1+1;omega) _).setCell (by show _<=w.heap.size+1+1+1;omega) _).setCell (by show _<=w.heap.size+1+1+1;omega) _).setCell (by show _<=w.heap.size+1+1+1;omega) _⟩
  ·have aga:(kk == 19)=false:=by rw[<- HKK.out,<- vM,beq_iff_eq];exact hne
   clear hz y0;go_wp2
   go_meet
   exact S5
 case rest =>
  have S:=hcut
  obtain⟨w7,rfl⟩:∃ w7:World,w7=wc:=⟨_,rfl⟩
  clear hcut S5 r0 r1 n0 n1 n2 hz y0 Me HKK HL0;obtain⟨r0,r1⟩:=Gq S.s0;obtain⟨n0,n1,n2⟩:=cells3 S.s2;have hs:=S.size;have Zn:=HT.out.below (S.al.mono hB);have hB7:=jq hB S.al.size;have hx:=HX.out;clear HX;obtain⟨f0,f1,f2,f3,fz⟩:=Sb S.s3
  cases hx with
  | group k1 _ h1 hF =>
   obtain⟨hp1,hp2⟩:=pE h1;have z1:=jo S.al (Xh.out 1 hp1);rw[hp2] at z1
   have aey:(1:Int)<(ks.length:Int):=by omega
   have Ws:=ay ((hF w7.drew (HT.out.below ((S.al.mono hB).drew)) hB7).mono λ_ _ h=>h.s);clear hF h1 hp2;go_wp2
   go_still_tail 5,(by kernel_rfl)
   change wpList _ _ _ _ _ w7.drew;go_wp2_with (go_at_call 116;refine Ws.out.mono ?_);rintro e w8 ⟨am,wn,cm,ae,ce,rfl,hxe,nE⟩;have D1:=(nE.block (w.heap.size+1) (show w.heap.size+1<w7.heap.size by omega)).trans S.s1;clear r0 r1 n0 n1 n2 f0 f1 f2 f3;obtain⟨⟨d0,d1,d2,d3⟩,⟨d4,d5,d6,d7⟩,dz⟩:=mJ D1;go_wp2;refine nI (v:=.agg #[.int .i64 x.op,.string ⟨x.name.toArray⟩,.string ⟨x.module.toArray⟩,.bool (decide (x.num<0)),.slice am wn cm,.bool x.yes,.slice ae x.aB.length ce,.int .i64 x.at_]) (by simp[results,Tryz.results116,go_sem,d0,d1,d2,d3,d4,d5,d6,d7]) rfl ⟨_,_,rfl,(EPost.store (w0:=w) (b:=w.heap.size+1) hxe nE S.al.drew (by omega) (by have:=S.al.size;first|omega|(show w.heap.size+1<w7.heap.size;omega)) _ _ _ _ _ _ _ _).1,(EPost.store (w0:=w) (b:=w.heap.size+1) hxe nE S.al.drew (by omega) (by have:=S.al.size;first|omega|(show w.heap.size+1<w7.heap.size;omega)) _ _ _ _ _ _ _ _).2⟩
  | bin _ hF =>
   have Ws:=ay ((hF w7 Zn hB7).mono λ_ _ h=>h.s);clear hF;go_wp2_with (go_at_call 168;refine Ws.out.mono ?_);rintro e w8 ⟨am,wn,cm,ae,ce,rfl,hxe,nE⟩;have D1:=(nE.block (w.heap.size+1) (show w.heap.size+1<w7.heap.size by omega)).trans S.s1;clear r0 r1 n0 n1 n2 f0 f1 f2 f3;obtain⟨⟨d0,d1,d2,d3⟩,⟨d4,d5,d6,d7⟩,dz⟩:=mJ D1;go_wp2;refine nI (v:=.agg #[.int .i64 x.op,.string ⟨x.name.toArray⟩,.string ⟨x.module.toArray⟩,.bool (decide (x.num<0)),.slice am wn cm,.bool x.yes,.slice ae x.aB.length ce,.int .i64 x.at_]) (by simp[results,Tryz.results116,go_sem,d0,d1,d2,d3,d4,d5,d6,d7]) rfl ⟨_,_,rfl,(EPost.store (w0:=w) (b:=w.heap.size+1) hxe nE S.al (by omega) (by have:=S.al.size;first|omega|(show w.heap.size+1<w7.heap.size;omega)) _ _ _ _ _ _ _ _).1,(EPost.store (w0:=w) (b:=w.heap.size+1) hxe nE S.al (by omega) (by have:=S.al.size;first|omega|(show w.heap.size+1<w7.heap.size;omega)) _ _ _ _ _ _ _ _).2⟩
  | call _ hF =>
   have Ws:=ay ((hF w7 Zn hB7).mono λ_ _ h=>h.s);clear hF;go_wp2_with (go_at_call 169;refine Ws.out.mono ?_);rintro e w8 ⟨am,wn,cm,ae,ce,rfl,hxe,nE⟩;have D1:=(nE.block (w.heap.size+1) (show w.heap.size+1<w7.heap.size by omega)).trans S.s1;clear r0 r1 n0 n1 n2 f0 f1 f2 f3;obtain⟨⟨d0,d1,d2,d3⟩,⟨d4,d5,d6,d7⟩,dz⟩:=mJ D1;go_wp2;refine nI (v:=.agg #[.int .i64 x.op,.string ⟨x.name.toArray⟩,.string ⟨x.module.toArray⟩,.bool (decide (x.num<0)),.slice am wn cm,.bool x.yes,.slice ae x.aB.length ce,.int .i64 x.at_]) (by simp[results,Tryz.results116,go_sem,d0,d1,d2,d3,d4,d5,d6,d7]) rfl ⟨_,_,rfl,(EPost.store (w0:=w) (b:=w.heap.size+1) hxe nE S.al (by omega) (by have:=S.al.size;first|omega|(show w.heap.size+1<w7.heap.size;omega)) _ _ _ _ _ _ _ _).1,(EPost.store (w0:=w) (b:=w.heap.size+1) hxe nE S.al (by omega) (by have:=S.al.size;first|omega|(show w.heap.size+1<w7.heap.size;omega)) _ _ _ _ _ _ _ _).2⟩
  | not jH htx hM =>
   have Ws:=ay ((hM 6 t.place w7 Zn hB7).mono λ_ _ h=>h.m);rw[htx] at f2;clear htx;clear hM;go_wp2_with (go_at_call 170;refine Ws.out.mono ?_);rintro e w8 ⟨am,wn,cm,ae,ce,rfl,hxe,nE⟩;have D1:=(nE.block (w.heap.size+1) (show w.heap.size+1<w7.heap.size by omega)).trans S.s1;clear r0 r1 n0 n1 n2 f0 f1 f2 f3;obtain⟨⟨d0,d1,d2,d3⟩,⟨d4,d5,d6,d7⟩,dz⟩:=mJ D1;go_wp2;refine nI (v:=.agg #[.int .i64 6,.string ⟨#[]⟩,.string ⟨#[]⟩,.bool false,.slice am wn cm,.bool false,.slice ae jH.length ce,.int .i64 t.place]) (by simp[results,Tryz.results116,go_sem,d0,d1,d2,d3,d4,d5,d6,d7]) rfl ⟨_,_,rfl,(EPost.store (w0:=w) (b:=w.heap.size+1) hxe nE S.al (by omega) (by have:=S.al.size;first|omega|(show w.heap.size+1<w7.heap.size;omega)) _ _ _ _ _ _ _ _).1,(EPost.store (w0:=w) (b:=w.heap.size+1) hxe nE S.al (by omega) (by have:=S.al.size;first|omega|(show w.heap.size+1<w7.heap.size;omega)) _ _ _ _ _ _ _ _).2⟩
  | neg jH htx hM =>
   have Ws:=ay ((hM 5 t.place w7 Zn hB7).mono λ_ _ h=>h.m);rw[htx] at f2;clear htx;clear hM;go_wp2_with (go_at_call 170;refine Ws.out.mono ?_);rintro e w8 ⟨am,wn,cm,ae,ce,rfl,hxe,nE⟩;have D1:=(nE.block (w.heap.size+1) (show w.heap.size+1<w7.heap.size by omega)).trans S.s1;clear r0 r1 n0 n1 n2 f0 f1 f2 f3;obtain⟨⟨d0,d1,d2,d3⟩,⟨d4,d5,d6,d7⟩,dz⟩:=mJ D1;go_wp2;refine nI (v:=.agg #[.int .i64 5,.string ⟨#[]⟩,.string ⟨#[]⟩,.bool false,.slice am wn cm,.bool false,.slice ae jH.length ce,.int .i64 t.place]) (by simp[results,Tryz.results116,go_sem,d0,d1,d2,d3,d4,d5,d6,d7]) rfl ⟨_,_,rfl,(EPost.store (w0:=w) (b:=w.heap.size+1) hxe nE S.al (by omega) (by have:=S.al.size;first|omega|(show w.heap.size+1<w7.heap.size;omega)) _ _ _ _ _ _ _ _).1,(EPost.store (w0:=w) (b:=w.heap.size+1) hxe nE S.al (by omega) (by have:=S.al.size;first|omega|(show w.heap.size+1<w7.heap.size;omega)) _ _ _ _ _ _ _ _).2⟩
  | iff jH hM =>
   have Ws:=ay ((hM 21 t.place w7 Zn hB7).mono λ_ _ h=>h.m);clear hM;go_wp2_with (go_at_call 170;refine Ws.out.mono ?_);rintro e w8 ⟨am,wn,cm,ae,ce,rfl,hxe,nE⟩;have D1:=(nE.block (w.heap.size+1) (show w.heap.size+1<w7.heap.size by omega)).trans S.s1;clear r0 r1 n0 n1 n2 f0 f1 f2 f3;obtain⟨⟨d0,d1,d2,d3⟩,⟨d4,d5,d6,d7⟩,dz⟩:=mJ D1;go_wp2;refine nI (v:=.agg #[.int .i64 21,.string ⟨#[]⟩,.string ⟨#[]⟩,.bool false,.slice am wn cm,.bool false,.slice ae jH.length ce,.int .i64 t.place]) (by simp[results,Tryz.results116,go_sem,d0,d1,d2,d3,d4,d5,d6,d7]) rfl ⟨_,_,rfl,(EPost.store (w0:=w) (b:=w.heap.size+1) hxe nE S.al (by omega) (by have:=S.al.size;first|omega|(show w.heap.size+1<w7.heap.size;omega)) _ _ _ _ _ _ _ _).1,(EPost.store (w0:=w) (b:=w.heap.size+1) hxe nE S.al (by omega) (by have:=S.al.size;first|omega|(show w.heap.size+1<w7.heap.size;omega)) _ _ _ _ _ _ _ _).2⟩
  | vP jH hM =>
   have Ws:=ay ((hM 23 t.place w7 Zn hB7).mono λ_ _ h=>h.m);clear hM;go_wp2_with (go_at_call 170;refine Ws.out.mono ?_);rintro e w8 ⟨am,wn,cm,ae,ce,rfl,hxe,nE⟩;have D1:=(nE.block (w.heap.size+1) (show w.heap.size+1<w7.heap.size by omega)).trans S.s1;clear r0 r1 n0 n1 n2 f0 f1 f2 f3;obtain⟨⟨d0,d1,d2,d3⟩,⟨d4,d5,d6,d7⟩,dz⟩:=mJ D1;go_wp2;refine nI (v:=.agg #[.int .i64 23,.string ⟨#[]⟩,.string ⟨#[]⟩,.bool false,.slice am wn cm,.bool false,.slice ae jH.length ce,.int .i64 t.place]) (by simp[results,Tryz.results116,go_sem,d0,d1,d2,d3,d4,d5,d6,d7]) rfl ⟨_,_,rfl,(EPost.store (w0:=w) (b:=w.heap.size+1) hxe nE S.al (by omega) (by have:=S.al.size;first|omega|(show w.heap.size+1<w7.heap.size;omega)) _ _ _ _ _ _ _ _).1,(EPost.store (w0:=w) (b:=w.heap.size+1) hxe nE S.al (by omega) (by have:=S.al.size;first|omega|(show w.heap.size+1<w7.heap.size;omega)) _ _ _ _ _ _ _ _).2⟩
  | vO jH k1 tx hM h1 hX =>
   obtain⟨hp1,hp2⟩:=pE h1;have agC:=Xh.out 1 hp1;rw[hp2] at agC;have HM':=ay ((hM 22 t.place w7 Zn hB7).mono λ_ _ h=>h.m);have HXX:=ay hX;clear hM h1 hp2 hX;go_wp2_with (go_at_call 170;refine HM'.out.mono ?_);rintro e w8 ⟨am,wn,cm,ae,ce,rfl,hxe,nE⟩;have S8:=S.later nE;have hz8:=nE.size;clear r0 r1 n0 n1 n2 f0 f1 f2 f3 fz
   go_upto_region 22 with (fail)
   have ha9:=aA w8 (.cells #[.int .i64 22,.string ⟨#[]⟩,.string ⟨#[]⟩,.bool false,.slice am wn cm,.bool false,.slice ae jH.length ce,.int .i64 t.place] 60);have N9:=aX w8 (.cells #[.int .i64 22,.string ⟨#[]⟩,.string ⟨#[]⟩,.bool false,.slice am wn cm,.bool false,.slice ae jH.length ce,.int .i64 t.place] 60);have Xm:=(hxe.imp (λb hb hlt=>(⟨hb,hlt⟩:w7.heap.size<=b/\b<w8.heap.size))).frame (w':=w8.alloc (.cells #[.int .i64 22,.string ⟨#[]⟩,.string ⟨#[]⟩,.bool false,.slice am wn cm,.bool false,.slice ae jH.length ce,.int .i64 t.place] 60)) ⟨by simp,λb _ hb=>gZ _ _ _ hb⟩
   have hs9:(w8.alloc (.cells #[.int .i64 22,.string ⟨#[]⟩,.string ⟨#[]⟩,.bool false,.slice am wn cm,.bool false,.slice ae jH.length ce,.int .i64 t.place] 60)).heap.size=w8.heap.size+1:=by simp
   have S9:=S8.later ha9;clear ha9;generalize w8.alloc _=w9 at N9 Xm hs9 S9 |-;have k1c:=jo S9.al agC;obtain⟨r0,r1⟩:=Gq S9.s0;obtain⟨n0,n1,n2⟩:=cells3 S9.s2
   have aey:(1:Int)<(ks.length:Int):=by omega
   have Xn:=ay (HXX.out w9.drew (HT.out.below ((S9.al.mono hB).drew)) (show B<=w9.heap.size by have:=S9.al.size;omega))
   go_still_tail 5,(by kernel_rfl)
   change wpList _ _ _ _ _ w9.drew;go_wp2_with (go_at_call 113;refine Xn.out.mono ?_);rintro e mU ⟨rfl,Ce⟩;have ow:Below w9.heap.size w9 mU:=(bQ w9.heap.size w9).drew.trans Ce;have S10:=S9.later ow;have E9:=(ow.block w8.heap.size (by omega)).trans N9;obtain⟨⟨_,e0,_,_⟩,_,ez⟩:=mJ E9;have LD:=Xm.frame (aW.of ow);clear r0 r1 n0 n1 n2 k1c N9 Ce ow Xm;have E9':=jN mU w8.heap.size 1 _ _ (.string ⟨tx.toArray⟩) E9;have E1':=(qm mU ⟨w8.heap.size,1,none⟩ (w.heap.size+1) (.string ⟨tx.toArray⟩) (by show w.heap.size+1≠w8.heap.size;omega)).trans S10.s1;have adr:=S10.al.setCell (p:=⟨w8.heap.size,1,none⟩) (by show w.heap.size<=w8.heap.size;omega) (.string ⟨tx.toArray⟩);have agD:=LD.frame (aW.set (a:=⟨w8.heap.size,1,none⟩) (.string ⟨tx.toArray⟩) λb hb=>by show b≠w8.heap.size;omega)
   go_upto_region 23 with (fail)
   generalize mU.setCell _ _=wF at E9' E1' adr agD |-;obtain⟨⟨b0,b1,b2,b3⟩,⟨b4,b5,b6,b7⟩,_⟩:=mJ (show wF.heap[w8.heap.size]?=some (.cells #[.int .i64 22,.string ⟨tx.toArray⟩,.string ⟨#[]⟩,.bool false,.slice am wn cm,.bool false,.slice ae jH.length ce,.int .i64 t.place] 60 (0,0)) from E9');obtain⟨⟨d0,d1,d2,d3⟩,⟨d4,d5,d6,d7⟩,dz⟩:=mJ E1';clear e0 ez E9;go_wp2;refine nI (v:=.agg #[.int .i64 22,.string ⟨tx.toArray⟩,.string ⟨#[]⟩,.bool false,.slice am wn cm,.bool false,.slice ae jH.length ce,.int .i64 t.place]) (by simp[results,Tryz.results116,go_sem,d0,d1,d2,d3,d4,d5,d6,d7]) rfl ⟨.slice am wn cm,.slice ae jH.length ce,rfl,?_,jR adr (by omega) _ _ _ _ _ _ _ _⟩
   have hq:=(agD.frame (wH _ _ (w.heap.size+1) (.int .i64 22) (.string ⟨tx.toArray⟩) (.string ⟨#[]⟩) (.bool false) (.slice am wn cm) (.bool false) (.slice ae jH.length ce) (.int .i64 t.place) λk hk=>by omega)).imp (Q:=λb=>w.heap.size<=b) λb hb _=>by omega
   rw[pG] at hq |-;exact hq
  | num n txt hZ =>
   have HZ:=ay (hZ w7);clear hZ;go_wp2_with (go_at_call 171;refine HZ.out.mono ?_);rintro e w8 ⟨am,wn,cm,rfl,Ip,nE⟩;have S8:=S.later nE;clear r0 r1 n0 n1 n2 f0 f1 f2 f3 fz
   go_upto_region 26 with (fail)
   have ha9:=aA w8 (.cells #[.bool false,.slice am wn cm] 58);have N9:=aX w8 (.cells #[.bool false,.slice am wn cm] 58);have hn9:=XA.frame (P:=λb=>w7.heap.size<=b) (w:=w8) (w':=w8.alloc (.cells #[.bool false,.slice am wn cm] 58)) (n:=(n:Nat)) (m:=.slice am wn cm) Ip ⟨by simp,λb _ hb=>gZ _ _ _ hb⟩;have S9:=S8.later ha9;clear ha9;generalize w8.alloc _=w9 at N9 hn9 S9 |-;obtain⟨_,_,_,f3,_⟩:=Sb S9.s3;obtain⟨b0,b1⟩:=Gq N9;obtain⟨⟨d0,d1,d2,d3⟩,⟨d4,d5,d6,d7⟩,dz⟩:=mJ S9.s1;go_wp2;refine nI (v:=.agg #[.int .i64 1,.string ⟨#[]⟩,.string ⟨#[]⟩,.bool false,.slice am wn cm,.bool false,.slice none 0 0,.int .i64 t.place]) (by simp[results,Tryz.results116,go_sem,d0,d1,d2,d3,d4,d5,d6,d7]) rfl ⟨.slice am wn cm,.slice none 0 0,ad5 _ _ _ _ _,?_,jR S9.al (by omega) _ _ _ _ _ _ _ _⟩;rw[pG];exact⟨XA.imp (XA.frame hn9 (wH _ _ (w.heap.size+1) (.int .i64 1) (.string ⟨#[]⟩) (.string ⟨#[]⟩) (.bool false) (.slice am wn cm) (.bool false) (.slice none 0 0) (.int .i64 t.place) λk hk=>by omega)) (λb hb _=>by omega),[],oJ.nil _ _ _,by rw[jg]⟩
  | tru htx =>
   rw[htx] at f2;clear htx;obtain⟨⟨d0,d1,d2,d3⟩,⟨d4,d5,d6,d7⟩,dz⟩:=mJ S.s1;go_wp2;refine nI (v:=.agg #[.int .i64 2,.string ⟨#[]⟩,.string ⟨#[]⟩,.bool false,.slice none 0 0,.bool true,.slice none 0 0,.int .i64 t.place]) (by simp[results,Tryz.results116,go_sem,d0,d1,d2,d3,d4,d5,d6,d7]) rfl ⟨.slice none 0 0,.slice none 0 0,rfl,?_,jR S.al (by omega) _ _ _ _ _ _ _ _⟩;rw[pG];exact⟨nP.zero _ _,[],oJ.nil _ _ _,by rw[jg]⟩
  | fls htx =>
   rw[htx] at f2;clear htx;obtain⟨⟨d0,d1,d2,d3⟩,⟨d4,d5,d6,d7⟩,dz⟩:=mJ S.s1;go_wp2;refine nI (v:=.agg #[.int .i64 2,.string ⟨#[]⟩,.string ⟨#[]⟩,.bool false,.slice none 0 0,.bool false,.slice none 0 0,.int .i64 t.place]) (by simp[results,Tryz.results116,go_sem,d0,d1,d2,d3,d4,d5,d6,d7]) rfl ⟨.slice none 0 0,.slice none 0 0,rfl,?_,jR S.al (by omega) _ _ _ _ _ _ _ _⟩;rw[pG];exact⟨nP.zero _ _,[],oJ.nil _ _ _,by rw[jg]⟩
  | res =>
   obtain⟨⟨d0,d1,d2,d3⟩,⟨d4,d5,d6,d7⟩,dz⟩:=mJ S.s1;go_wp2;refine nI (v:=.agg #[.int .i64 4,.string ⟨#[]⟩,.string ⟨#[]⟩,.bool false,.slice none 0 0,.bool false,.slice none 0 0,.int .i64 t.place]) (by simp[results,Tryz.results116,go_sem,d0,d1,d2,d3,d4,d5,d6,d7]) rfl ⟨.slice none 0 0,.slice none 0 0,rfl,?_,jR S.al (by omega) _ _ _ _ _ _ _ _⟩;rw[pG];exact⟨nP.zero _ _,[],oJ.nil _ _ _,by rw[jg]⟩
  | Cz =>
   obtain⟨⟨d0,d1,d2,d3⟩,⟨d4,d5,d6,d7⟩,dz⟩:=mJ S.s1;go_wp2;refine nI (v:=.agg #[.int .i64 3,.string ⟨t.text.toArray⟩,.string ⟨#[]⟩,.bool false,.slice none 0 0,.bool false,.slice none 0 0,.int .i64 t.place]) (by simp[results,Tryz.results116,go_sem,d0,d1,d2,d3,d4,d5,d6,d7]) rfl ⟨.slice none 0 0,.slice none 0 0,rfl,?_,jR S.al (by omega) _ _ _ _ _ _ _ _⟩;rw[pG];exact⟨nP.zero _ _,[],oJ.nil _ _ _,by rw[jg]⟩
def ZA:Array Value:=(sP.map λx=>Value.string ⟨x.toArray⟩).toArray
def vK (k:Nat):ByteArray:=⟨(sP.getD k []).toArray⟩
theorem LG (w:World):Calls Tryz.prog 217 #[] w λe w'=>e=.returned (.agg ZA)/\Below w.heap.size w w':=by
 go_enter Tryz.func217,Tryz.ntmps217
 apply wp_seq_k
 intro K0 hK0;have HK:=ay hK0;clear hK0;go_wp2
 apply HK.out
 apply wp_seq_k
 intro K1 hK1
 apply wp_region_lit
 refine wpList_buildTo rfl 304 _ rfl (some 1) rfl ZA (by kernel_rfl) ?_;refine wpList_store_rowTo rfl 304 _ _ rfl rfl w.heap.size ZA rfl rfl 304 _ (aX _ _) (by kernel_rfl) (by decide) (by kernel_rfl) ?_;rw[World.setRow_alloc_new]
 apply wpList_nil
 apply hK1
 go_wp2;refine nI (v:=.agg ZA) (results_cell_row rfl _ _ w.heap.size 304 _ (0,0) _ rfl (aX _ _) Tryz.underlying304 rfl (by kernel_rfl)) rfl ⟨rfl,(bQ _ _).alloc (bD _) _⟩
theorem Wt:∀ k:Nat,k<14->∀ w:World,(Instr.index 304 (.agg ZA) (.int .i64 k)).run Tryz.prog w=.ok (.string (vK k)) w
 | 0,_=>λ_=>by kernel_rfl
 | 1,_=>λ_=>by kernel_rfl
 | 2,_=>λ_=>by kernel_rfl
 | 3,_=>λ_=>by kernel_rfl
 | 4,_=>λ_=>by kernel_rfl
 | 5,_=>λ_=>by kernel_rfl
 | 6,_=>λ_=>by kernel_rfl
 | 7,_=>λ_=>by kernel_rfl
 | 8,_=>λ_=>by kernel_rfl
 | 9,_=>λ_=>by kernel_rfl
 | 10,_=>λ_=>by kernel_rfl
 | 11,_=>λ_=>by kernel_rfl
 | 12,_=>λ_=>by kernel_rfl
 | 13,_=>λ_=>by kernel_rfl
 | n+14,h=>absurd h (by omega)
theorem Wu:∀ j,j<14->∀ k,k<14->sP.getD j []=sP.getD k []->j=k:=by decide
theorem Gr (k:Nat):(vK k).toList=sP.getD k []:=by rw[Go.ByteArray.toList_eq];rfl
theorem aez (j k:Nat)(hj:j<14)(hk:k<14)(h:j≠k):((vK j).toList == (vK k).toList)=false:=by
 rw[<- vM,beq_iff_eq,Gr,Gr]
 exact λq=>h (Wu j hj k hk q)
theorem ZB (k:Nat):((vK k).toList == (vK k).toList)=true:=by rw[beq_iff_eq]
theorem acS {x:aH}(h:x∈sP):sP.idxOf x<14/\(ByteArray.mk x.toArray)=vK (sP.idxOf x):=by
 have h1:sP.idxOf x<14:=List.idxOf_lt_length_of_mem h;refine⟨h1,?_⟩;unfold vK
 have h2:sP.getD (sP.idxOf x) []=x:=by
  rw[Kr,AY (List.idxOf_lt_length_of_mem h),Option.getD_some,List.getElem_idxOf]
 rw[h2]
theorem bW (w:World)(b:Nat)(v0 v1 v2 v3:Value){k j:Nat}(h:k≠b):((((w.setCell ⟨b,0,none⟩ v0).setCell ⟨b,1,none⟩ v1).setCell ⟨b,2,none⟩ v2).setCell ⟨b,3,none⟩ v3).cell? ⟨k,j,none⟩=w.cell? ⟨k,j,none⟩:=by
 refine yK (a:=⟨k,j,none⟩) ?_;show ((((w.setCell ⟨b,0,none⟩ v0).setCell ⟨b,1,none⟩ v1).setCell ⟨b,2,none⟩ v2).setCell ⟨b,3,none⟩ v3).heap[k]?=w.heap[k]?;rw[qm _ _ _ _ h,qm _ _ _ _ h,qm _ _ _ _ h,qm _ _ _ _ h]
theorem o9 (h:w.heap[b]?=some (.cells #[.int .i64 0,.string ⟨#[]⟩,.string ⟨#[]⟩,.int .i64 0] 159 (0,0))) :
  w.cell? ⟨b,0,none⟩=some (.int .i64 0)/\w.cell? ⟨b,1,none⟩=some (.string ⟨#[]⟩)/\w.cell? ⟨b,2,none⟩=some (.string ⟨#[]⟩)/\w.cell? ⟨b,3,none⟩=some (.int .i64 0)/\∀ j,w.frozen? ⟨b,j,none⟩=false :=
 ⟨by rw[aZ h];rfl,by rw[aZ h];rfl,by rw[aZ h];rfl,by rw[aZ h];rfl,by intro j;simp[World.frozen?,h]⟩
theorem OJ (jH:List PE)(B:Nat)(tv nv:Value)(ah:List Tok)(aj:List Nd)(i:Nat)(ks:List Int)(w:World)(h:bJ B w (.agg #[tv,nv]) ah aj)(hB:B<=w.heap.size)(hn:aj[i]?=some ⟨10,-1,ks⟩)
  (k1 u1:Nat) (hq1:ks[1]?=some (k1:Int)) (hl1:aj[k1]?=some ⟨19,(u1:Nat),[]⟩) (tk1:Tok) (ZC:ah[u1]?=some tk1) (htx:tk1.text∈sP)
  (hM:∀ (op at_:Nat) (W:World),bJ B W (.agg #[tv,nv]) ah aj->B<=W.heap.size->Calls Tryz.prog 170 #[.agg #[tv,nv],.int .i64 op,.int .i64 at_,.int .i64 i] W (EPost XA (.mk op [] [] 0 [] false jH at_) W)) :
  Calls Tryz.prog 168 #[.agg #[tv,nv],.int .i64 i] w (EPost XA (.mk (7+sP.idxOf tk1.text) [] [] 0 [] false jH tk1.place) w):=by
 have HM:=ay hM;obtain⟨agE,hmt⟩:=acS htx;obtain⟨hu1,OL⟩:=pE ZC;obtain⟨hp1,hp2⟩:=pE hq1;have HK:=ay (λW hT hW=>kP B tv nv ah aj k1 u1 W hT hW hl1 hu1);rw[OL] at HK;unfold qw fC at HK;rw[hmt] at HK;generalize sP.idxOf tk1.text=m at agE HK |-
 obtain⟨N,hN⟩:∃ N,7+m=N:=⟨_,rfl⟩
 rw[hN];have HN:=ay hN;clear hN;obtain⟨hi,hni⟩:=pE hn;have HT:=ay h;obtain⟨a1,c1,_,_,e⟩:=h.slices;obtain⟨b,off,cap,kv,rfl,hb,x0,x1,x2,hkv⟩:=h.node hi
 obtain⟨rfl,-⟩:tv=.slice a1 ah.length c1/\_:=by simpa using e
 rw[hni] at hkv;simp only at hkv;obtain⟨ak,ck,rfl,_,yE⟩:=hkv.form;obtain⟨bk,ok,rfl,hbk,hkc⟩:=yE (by omega);have hz:=hkc 1 hp1;rw[hp2] at hz;clear e hkv yE hkc hn hni x0 x1 ZC OL hq1 hp2 hl1 hM htx hmt;have cO:=((bQ w.heap.size w).alloc (bD _) (.cells #[.slice a1 ah.length c1,.slice (some ⟨b,off,none⟩) aj.length cap] 154)).alloc (by simp) (.cells #[.int .i64 0,.string ⟨#[]⟩,.string ⟨#[]⟩,.bool false,.slice none 0 0,.bool false,.slice none 0 0,.int .i64 0] 60);have X2:=jo cO x2;have Z2:=jo cO hz;have g0:=(gZ _ (.cells #[.int .i64 0,.string ⟨#[]⟩,.string ⟨#[]⟩,.bool false,.slice none 0 0,.bool false,.slice none 0 0,.int .i64 0] 60) w.heap.size (by simp)).trans (aX w (.cells #[.slice a1 ah.length c1,.slice (some ⟨b,off,none⟩) aj.length cap] 154));have g1:=aX (w.alloc (.cells #[.slice a1 ah.length c1,.slice (some ⟨b,off,none⟩) aj.length cap] 154)) (.cells #[.int .i64 0,.string ⟨#[]⟩,.string ⟨#[]⟩,.bool false,.slice none 0 0,.bool false,.slice none 0 0,.int .i64 0] 60);rw[nG] at g1
 have hiI:(i:Int)<(aj.length:Int):=by omega
 have aey:(1:Int)<(ks.length:Int):=by omega
 have YP:=HT.out;clear h x2 hz;go_enter Tryz.func168,Tryz.ntmps168
 go_upto_region 1 with (fail)
 generalize (w.alloc _).alloc _=w2 at g0 g1 cO X2 Z2 |-
 have r0:w2.cell? ⟨w.heap.size,0,none⟩=some (.slice a1 ah.length c1):=by rw[aZ g0];rfl
 have r1:w2.cell? ⟨w.heap.size,1,none⟩=some (.slice (some ⟨b,off,none⟩) aj.length cap):=by rw[aZ g0];rfl
 have ZE:=ay (λW (hb:Below w2.heap.size w2 W)=>(HK.out W (YP.below ((cO.trans (hb.mono cO.size)).mono hB)) (by have:=cO.size;have:=hb.size;omega)).mono (R':=λe w'=>e=.returned (.agg #[.int .i64 tk1.kind,.string ⟨tk1.lead.toArray⟩,.string (vK m),.int .i64 tk1.place])/\Below w2.heap.size w2 w'/\Below W.heap.size W w') λe w' h=>⟨h.1,hb.trans (h.2.mono hb.size),h.2⟩);have hlt2:w.heap.size+1<w2.heap.size:=(bP g1).1
 go_cut [5] (λp wc=>∃ X:Nat,p=.pointer (some ⟨X,0,none⟩)/\wc.heap[X]?=some (.cells #[.int .i64 tk1.kind,.string ⟨tk1.lead.toArray⟩,.string (vK m),.int .i64 tk1.place] 159 (0,0))/\wc.heap[w.heap.size]?=some (.cells #[.slice a1 ah.length c1,.slice (some ⟨b,off,none⟩) aj.length cap] 154 (0,0))/\wc.heap[w.heap.size+1]?=some (.cells #[.int .i64 0,.string ⟨#[]⟩,.string ⟨#[]⟩,.bool false,.slice none 0 0,.bool false,.slice none 0 0,.int .i64 0] 60 (0,0))/\Below w.heap.size w wc)
 case first =>
  go_region_held3 (λw'=>w'.cell? ⟨w.heap.size,0,none⟩=some (.slice a1 ah.length c1)/\w'.cell? ⟨w.heap.size,1,none⟩=some (.slice (some ⟨b,off,none⟩) aj.length cap)/\w'.cell? ⟨b,off+i * 3+2,none⟩=some (.slice (some ⟨bk,ok,none⟩) ks.length ck)/\w'.cell? ⟨bk,ok+1,none⟩=some (.int .i64 k1))
   (first|go_keep|exact p3|exact⟨(bW w3 w2.heap.size _ _ _ _ (by omega)).trans p3.1,(bW w3 w2.heap.size _ _ _ _ (by omega)).trans p3.2.1,(bW w3 w2.heap.size _ _ _ _ (by omega)).trans p3.2.2.1,(bW w3 w2.heap.size _ _ _ _ (by omega)).trans p3.2.2.2⟩)
   (first|(go_at_call 68;refine(ZE.out _ ?_).mono ?_;(first|exact(bQ _ _).drew|exact((bQ _ _).alloc (bD _) _).drew);rintro e w3 ⟨rfl,hq3,hb3⟩;have p3:=gy (jo hq3 r0) (gy (jo hq3 r1) (gy (jo hq3 X2) (jo hq3 Z2)));try (have Gs:=(hb3.block w2.heap.size (by simp)).trans (aX w2 (.cells #[.int .i64 0,.string ⟨#[]⟩,.string ⟨#[]⟩,.int .i64 0] 159));obtain⟨ZG,ZH,ZI,ZJ,ZL⟩:=o9 Gs)))
  ·have FW:Below w.heap.size w w3:=cO.trans (hq3.mono cO.size)
   have q0:=(hq3.block w.heap.size (by omega)).trans g0;have q1:=(hq3.block (w.heap.size+1) (by omega)).trans g1;have hz3:=hq3.size;clear r0 r1 X2 Z2 p3;go_wp2_with fail
   go_meet
   exact⟨w3.heap.size,rfl,aX _ _,(gZ w3 _ w.heap.size (by omega)).trans q0,(gZ w3 _ (w.heap.size+1) (by omega)).trans q1,FW.alloc FW.size _⟩
  ·have FW:Below w.heap.size w w3:=cO.trans (hq3.mono cO.size)
   have q0:=(hq3.block w.heap.size (by omega)).trans g0;have q1:=(hq3.block (w.heap.size+1) (by omega)).trans g1;obtain⟨S3,So,_⟩:=za Gs (.int .i64 tk1.kind) (.string ⟨tk1.lead.toArray⟩) (.string (vK m)) (.int .i64 tk1.place)
   have hle:w.heap.size<=w2.heap.size:=by omega
   clear r0 r1 X2 Z2 p3 ZG ZH ZI ZJ ZL;go_wp2_with fail
   go_meet
   exact⟨w2.heap.size,rfl,S3,(So w.heap.size (by omega)).trans q0,(So (w.heap.size+1) (by omega)).trans q1,(((FW.setCell hle _).setCell hle _).setCell hle _).setCell hle _⟩
 case rest =>
  obtain⟨X,rfl,hX,G0,G1,Sc⟩:=hcut;have aeA:=Sc.size;clear g0 g1 cO X2 Z2 r0 r1 HK ZE hlt2;go_wp2_with (go_at_call 217;refine(LG _).mono ?_;rintro e w5 ⟨rfl,hb5⟩);have Tk:=hb5.size;have Y:=(hb5.block X (bP hX).1).trans hX;have Y0:=(hb5.block w.heap.size (bP G0).1).trans G0;have Y1:=(hb5.block (w.heap.size+1) (bP G1).1).trans G1;have Gt:=Sc.trans (hb5.mono aeA);have ajn:w.heap.size+1<w5.heap.size:=(bP Y1).1;have HM':=ay ((HM.out N tk1.place w5 (YP.below (Gt.mono hB)) (by omega)).mono λ_ _ h=>h.m);clear hX G0 G1 hb5 Sc
  have f2:w5.cell? ⟨X,2,none⟩=some (.string (vK m)):=by rw[aZ Y];rfl
  have f3:w5.cell? ⟨X,3,none⟩=some (.int .i64 tk1.place):=by rw[aZ Y];rfl
  have r0:w5.cell? ⟨w.heap.size,0,none⟩=some (.slice a1 ah.length c1):=by rw[aZ Y0];rfl
  have r1:w5.cell? ⟨w.heap.size,1,none⟩=some (.slice (some ⟨b,off,none⟩) aj.length cap):=by rw[aZ Y0];rfl
  go_loop [20] (λq=>∃ k:Nat,k<=m/\q=.int .i64 k) (λq=>14 - (intOf q).toNat)
  case atStart=>exact⟨0,kJ _,rfl⟩
  case round =>
   obtain⟨k,hk,rfl⟩:=hrel
   have nK:(k:Int)<14:=by omega
   have hx:=Wt k (by omega)
   by_cases hkm:k=m
   ·subst hkm
    have he:=ZB k
    have hop:(7:Int)+(k:Int)=(N:Int):=by have:=HN.out;omega
    go_wp2_with (go_at_call 170;refine HM'.out.mono ?_);rintro e w8 ⟨am,wn,cm,ae,ce,rfl,hxe,nE⟩;have D1:=(nE.block (w.heap.size+1) (by omega)).trans Y1;clear r0 r1 f2 f3 Y Y0 Y1 hop
    have d0:w8.cell? ⟨w.heap.size+1,0,none⟩=some (.int .i64 0):=by rw[aZ D1];rfl
    have d1:w8.cell? ⟨w.heap.size+1,1,none⟩=some (.string ⟨#[]⟩):=by rw[aZ D1];rfl
    have d2:w8.cell? ⟨w.heap.size+1,2,none⟩=some (.string ⟨#[]⟩):=by rw[aZ D1];rfl
    have d3:w8.cell? ⟨w.heap.size+1,3,none⟩=some (.bool false):=by rw[aZ D1];rfl
    have d4:w8.cell? ⟨w.heap.size+1,4,none⟩=some (.slice none 0 0):=by rw[aZ D1];rfl
    have d5:w8.cell? ⟨w.heap.size+1,5,none⟩=some (.bool false):=by rw[aZ D1];rfl
    have d6:w8.cell? ⟨w.heap.size+1,6,none⟩=some (.slice none 0 0):=by rw[aZ D1];rfl
    have d7:w8.cell? ⟨w.heap.size+1,7,none⟩=some (.int .i64 0):=by rw[aZ D1];rfl
    have dz:∀ j,w8.frozen? ⟨w.heap.size+1,j,none⟩=false:=by intro j;simp[World.frozen?,D1]
    go_wp2;obtain⟨hE,DN⟩:=EPost.store (w0:=w) (b:=w.heap.size+1) hxe nE Gt (by omega) (by omega) (.int .i64 N) (.string ⟨#[]⟩) (.string ⟨#[]⟩) (.bool false) (.slice am wn cm) (.bool false) (.slice ae jH.length ce) (.int .i64 tk1.place);refine nI (v:=.agg #[.int .i64 N,.string ⟨#[]⟩,.string ⟨#[]⟩,.bool false,.slice am wn cm,.bool false,.slice ae jH.length ce,.int .i64 tk1.place]) (by simp[results,Tryz.results168,go_sem,d0,d1,d2,d3,d4,d5,d6,d7]) rfl ?_;exact⟨_,_,rfl,hE,DN⟩
   ·have he:=aez k m (by omega) agE hkm
    go_wp2
    go_round
    case rel=>exact⟨k+1,by omega,by go_num⟩
    case measure=>simp[intOf];omega
theorem wU {T:TypeId}(h:w.heap[b]?=some (.cells #[c0,c1,c2,c3,c4,c5,c6,c7] T (0,0))) :
  w.cell? ⟨b,1,none⟩=some c1/\w.cell? ⟨b,2,none⟩=some c2/\∀ j,w.frozen? ⟨b,j,none⟩=false :=
 ⟨by rw[aZ h];rfl,by rw[aZ h];rfl,by intro j;simp[World.frozen?,h]⟩
theorem JW (q:Bool)(nm md:aH)(jH:List PE)(B:Nat)(tv nv:Value)(ah:List Tok)(aj:List Nd)(i:Nat)(ks:List Int)(w:World)(h:bJ B w (.agg #[tv,nv]) ah aj)(hB:B<=w.heap.size)(hn:aj[i]?=some ⟨13,-1,ks⟩)
  (k0 u0:Nat) (hq0:ks[0]?=some (k0:Int)) (hl0:aj[k0]?=some ⟨19,(u0:Nat),[]⟩) (kI:Tok) (agF:ah[u0]?=some kI)
  (k1 u1:Nat) (hq1:ks[1]?=some (k1:Int)) (hl1:aj[k1]?=some ⟨19,(u1:Nat),[]⟩) (tk1:Tok) (ZC:ah[u1]?=some tk1) (htx:tk1.text=if q=true then [46] else [40])
  (k2 u2:Nat) (hq2:q=true->ks[2]?=some (k2:Int)) (hl2:q=true->aj[k2]?=some ⟨19,(u2:Nat),[]⟩) (tk2:Tok) (agG:q=true->ah[u2]?=some tk2)
  (hqq:(q=true/\nm=tk2.text/\md=kI.text)\/(q=false/\nm=kI.text/\md=[]))
  (hM:∀ (op at_:Nat) (W:World),bJ B W (.agg #[tv,nv]) ah aj->B<=W.heap.size->Calls Tryz.prog 170 #[.agg #[tv,nv],.int .i64 op,.int .i64 at_,.int .i64 i] W (EPost XA (.mk op [] [] 0 [] false jH at_) W)) :
  Calls Tryz.prog 169 #[.agg #[tv,nv],.int .i64 i] w (EPost XA (.mk 24 nm md 0 [] false jH kI.place) w):=by
 have HQ:=ay hqq;have HM:=ay hM;obtain⟨hu0,ads⟩:=pE agF;obtain⟨hu1,OL⟩:=pE ZC;obtain⟨hp0,ZM⟩:=pE hq0;obtain⟨hp1,hp1'⟩:=pE hq1;have HK:=ay (λW hT hW=>kP B tv nv ah aj k0 u0 W hT hW hl0 hu0);rw[ads] at HK;unfold qw fC at HK;have HX:=ay (λW hT hW=>xG B tv nv ah aj k1 u1 W hT hW hl1 hu1);rw[OL,htx] at HX;unfold fC at HX
 have HY:Hid (q=true->∀ W,bJ B W (.agg #[tv,nv]) ah aj->B<=W.heap.size->Calls Tryz.prog 113 #[.agg #[tv,nv],.int .i64 k2] W λe w'=>e=.returned (.string ⟨tk2.text.toArray⟩)/\Below W.heap.size W w'):=ay (λhq W hT hW=>by
  obtain⟨hu2,agH⟩:=pE (agG hq);have:=xG B tv nv ah aj k2 u2 W hT hW (hl2 hq) hu2;rw[agH] at this
  exact this)
 obtain⟨hi,hni⟩:=pE hn;have HT:=ay h;obtain⟨a1,c1,_,_,e⟩:=h.slices;obtain⟨b,off,cap,kv,rfl,hb,x0,x1,x2,hkv⟩:=h.node hi
 obtain⟨rfl,-⟩:tv=.slice a1 ah.length c1/\_:=by simpa using e
 rw[hni] at hkv;simp only at hkv;obtain⟨ak,ck,rfl,_,yE⟩:=hkv.form;obtain⟨bk,ok,rfl,hbk,hkc⟩:=yE (by omega);have hz:=hkc 0 hp0;rw[ZM,nZ] at hz;have hz1:=hkc 1 hp1;rw[hp1'] at hz1
 have hz2:q=true->w.cell? ⟨bk,ok+2,none⟩=some (.int .i64 k2)/\2<ks.length:=λhq=>by
  obtain⟨hp2,ahV⟩:=pE (hq2 hq);have:=hkc 2 hp2;rw[ahV] at this;exact⟨this,hp2⟩
 have HZ1:=ay hz1;have HZ2:=ay hz2;clear e hkv yE hkc hn hni x0 x1 agF ads ZC OL hq0 hq1 ZM hp1' hl0 hl1 hM htx hq2 hl2 agG hz1 hz2 hqq;have cO:=((bQ w.heap.size w).alloc (bD _) (.cells #[.slice a1 ah.length c1,.slice (some ⟨b,off,none⟩) aj.length cap] 154)).alloc (by simp) (.cells #[.int .i64 0,.string ⟨#[]⟩,.string ⟨#[]⟩,.bool false,.slice none 0 0,.bool false,.slice none 0 0,.int .i64 0] 60);have X2:=jo cO x2;have Z2:=jo cO hz;have g0:=(gZ _ (.cells #[.int .i64 0,.string ⟨#[]⟩,.string ⟨#[]⟩,.bool false,.slice none 0 0,.bool false,.slice none 0 0,.int .i64 0] 60) w.heap.size (by simp)).trans (aX w (.cells #[.slice a1 ah.length c1,.slice (some ⟨b,off,none⟩) aj.length cap] 154));have g1:=aX (w.alloc (.cells #[.slice a1 ah.length c1,.slice (some ⟨b,off,none⟩) aj.length cap] 154)) (.cells #[.int .i64 0,.string ⟨#[]⟩,.string ⟨#[]⟩,.bool false,.slice none 0 0,.bool false,.slice none 0 0,.int .i64 0] 60);rw[nG] at g1
 have hiI:(i:Int)<(aj.length:Int):=by omega
 have ahW:(0:Int)<(ks.length:Int):=by omega
 have aey:(1:Int)<(ks.length:Int):=by omega
 have YP:=HT.out;clear h x2 hz;go_enter Tryz.func169,Tryz.ntmps169
 go_upto_region 2 with (fail)
 generalize (w.alloc _).alloc _=w2 at g0 g1 cO X2 Z2 |-
 have r0:w2.cell? ⟨w.heap.size,0,none⟩=some (.slice a1 ah.length c1):=by rw[aZ g0];rfl
 have r1:w2.cell? ⟨w.heap.size,1,none⟩=some (.slice (some ⟨b,off,none⟩) aj.length cap):=by rw[aZ g0];rfl
 have ZE:=ay (λW (hb:Below w2.heap.size w2 W)=>(HK.out W (YP.below ((cO.trans (hb.mono cO.size)).mono hB)) (by have:=cO.size;have:=hb.size;omega)).mono (R':=λe w'=>e=.returned (.agg #[.int .i64 kI.kind,.string ⟨kI.lead.toArray⟩,.string ⟨kI.text.toArray⟩,.int .i64 kI.place])/\Below w2.heap.size w2 w'/\Below W.heap.size W w') λe w' h=>⟨h.1,hb.trans (h.2.mono hb.size),h.2⟩);have hlt2:w.heap.size+1<w2.heap.size:=(bP g1).1
 go_cut [6] (λp wc=>∃ X:Nat,p=.pointer (some ⟨X,0,none⟩)/\wc.heap[X]?=some (.cells #[.int .i64 kI.kind,.string ⟨kI.lead.toArray⟩,.string ⟨kI.text.toArray⟩,.int .i64 kI.place] 159 (0,0))/\wc.heap[w.heap.size]?=some (.cells #[.slice a1 ah.length c1,.slice (some ⟨b,off,none⟩) aj.length cap] 154 (0,0))/\wc.heap[w.heap.size+1]?=some (.cells #[.int .i64 0,.string ⟨#[]⟩,.string ⟨#[]⟩,.bool false,.slice none 0 0,.bool false,.slice none 0 0,.int .i64 0] 60 (0,0))/\Below w.heap.size w wc/\w.heap.size+1<X)
 case first =>
  go_region_held3 (λw'=>w'.cell? ⟨w.heap.size,0,none⟩=some (.slice a1 ah.length c1)/\w'.cell? ⟨w.heap.size,1,none⟩=some (.slice (some ⟨b,off,none⟩) aj.length cap)/\w'.cell? ⟨bk,ok,none⟩=some (.int .i64 k0))
   (first|go_keep|exact p3|exact⟨(bW w3 w2.heap.size _ _ _ _ (by omega)).trans p3.1,(bW w3 w2.heap.size _ _ _ _ (by omega)).trans p3.2.1,(bW w3 w2.heap.size _ _ _ _ (by omega)).trans p3.2.2⟩)
   (first|(go_at_call 68;refine(ZE.out _ ?_).mono ?_;(first|exact(bQ _ _).drew|exact((bQ _ _).alloc (bD _) _).drew);rintro e w3 ⟨rfl,hq3,hb3⟩;have p3:=gy (jo hq3 r0) (gy (jo hq3 r1) (jo hq3 Z2));try (have Gs:=(hb3.block w2.heap.size (by simp)).trans (aX w2 (.cells #[.int .i64 0,.string ⟨#[]⟩,.string ⟨#[]⟩,.int .i64 0] 159));obtain⟨ZG,ZH,ZI,ZJ,ZL⟩:=o9 Gs)))
  ·have FW:Below w.heap.size w w3:=cO.trans (hq3.mono cO.size)
   have q0:=(hq3.block w.heap.size (by omega)).trans g0;have q1:=(hq3.block (w.heap.size+1) (by omega)).trans g1;have hz3:=hq3.size;clear r0 r1 X2 Z2 p3;go_wp2_with fail
   go_meet
   exact⟨w3.heap.size,rfl,aX _ _,(gZ w3 _ w.heap.size (by omega)).trans q0,(gZ w3 _ (w.heap.size+1) (by omega)).trans q1,FW.alloc FW.size _,by omega⟩
  ·have FW:Below w.heap.size w w3:=cO.trans (hq3.mono cO.size)
   have q0:=(hq3.block w.heap.size (by omega)).trans g0;have q1:=(hq3.block (w.heap.size+1) (by omega)).trans g1;obtain⟨S3,So,_⟩:=za Gs (.int .i64 kI.kind) (.string ⟨kI.lead.toArray⟩) (.string ⟨kI.text.toArray⟩) (.int .i64 kI.place)
   have hle:w.heap.size<=w2.heap.size:=by omega
   clear r0 r1 X2 Z2 p3 ZG ZH ZI ZJ ZL;go_wp2_with fail
   go_meet
   exact⟨w2.heap.size,rfl,S3,(So w.heap.size (by omega)).trans q0,(So (w.heap.size+1) (by omega)).trans q1,(((FW.setCell hle _).setCell hle _).setCell hle _).setCell hle _,hlt2⟩
 case rest =>
  obtain⟨X,rfl,hX,G0,G1,Sc,hXlt⟩:=hcut
  obtain⟨wy,rfl⟩:∃ wy:World,wy=wc:=⟨_,rfl⟩
  have aeA:=Sc.size;have hXs:=(bP hX).1;clear g0 g1 cO X2 Z2 r0 r1 HK ZE hlt2
  have f2:wy.cell? ⟨X,2,none⟩=some (.string ⟨kI.text.toArray⟩):=by rw[aZ hX];rfl
  have f3:wy.cell? ⟨X,3,none⟩=some (.int .i64 kI.place):=by rw[aZ hX];rfl
  have r0:wy.cell? ⟨w.heap.size,0,none⟩=some (.slice a1 ah.length c1):=by rw[aZ G0];rfl
  have r1:wy.cell? ⟨w.heap.size,1,none⟩=some (.slice (some ⟨b,off,none⟩) aj.length cap):=by rw[aZ G0];rfl
  have HM':=ay ((HM.out 24 kI.place wy (YP.below (Sc.mono hB)) (by omega)).mono λ_ _ h=>h.m);go_wp2_with (go_at_call 170;refine HM'.out.mono ?_);rintro e w8 ⟨am,wn,cm,ae,ce,rfl,hxe,nE⟩;have hz8:=nE.size;have D0:=(nE.block w.heap.size (by omega)).trans G0;have D1:=(nE.block (w.heap.size+1) (by omega)).trans G1;have DX:=(nE.block X hXs).trans hX;have agI:=Sc.trans (nE.mono aeA);clear r0 r1 f2 f3 G0 G1 hX
  have f2:w8.cell? ⟨X,2,none⟩=some (.string ⟨kI.text.toArray⟩):=by rw[aZ DX];rfl
  have f2':∀ o,(w8.alloc o).cell? ⟨X,2,none⟩=some (.string ⟨kI.text.toArray⟩):=λo=>Lib.cell?_alloc_some o f2
  go_upto_region 5 with (fail)
  have vT:=agI.alloc agI.size (.cells #[.int .i64 24,.string ⟨kI.text.toArray⟩,.string ⟨#[]⟩,.bool false,.slice am wn cm,.bool false,.slice ae jH.length ce,.int .i64 kI.place] 60);have N9:=aX w8 (.cells #[.int .i64 24,.string ⟨kI.text.toArray⟩,.string ⟨#[]⟩,.bool false,.slice am wn cm,.bool false,.slice ae jH.length ce,.int .i64 kI.place] 60);have D0:=(gZ w8 (.cells #[.int .i64 24,.string ⟨kI.text.toArray⟩,.string ⟨#[]⟩,.bool false,.slice am wn cm,.bool false,.slice ae jH.length ce,.int .i64 kI.place] 60) _ (bP D0).1).trans D0;have D1:=(gZ w8 (.cells #[.int .i64 24,.string ⟨kI.text.toArray⟩,.string ⟨#[]⟩,.bool false,.slice am wn cm,.bool false,.slice ae jH.length ce,.int .i64 kI.place] 60) _ (bP D1).1).trans D1;have DX:=(gZ w8 (.cells #[.int .i64 24,.string ⟨kI.text.toArray⟩,.string ⟨#[]⟩,.bool false,.slice am wn cm,.bool false,.slice ae jH.length ce,.int .i64 kI.place] 60) _ (bP DX).1).trans DX;have Xm:pG XA (λb=>wy.heap.size<=b/\b<w8.heap.size) (w8.alloc (.cells #[.int .i64 24,.string ⟨kI.text.toArray⟩,.string ⟨#[]⟩,.bool false,.slice am wn cm,.bool false,.slice ae jH.length ce,.int .i64 kI.place] 60)) (.slice am wn cm) (.slice ae jH.length ce) (.mk 24 [] [] 0 [] false jH kI.place):=(hxe.imp (λb hb hlt=>(⟨hb,hlt⟩:wy.heap.size<=b/\b<w8.heap.size))).frame ⟨by simp,λb _ hb=>gZ _ _ _ hb⟩
  have hs9:(w8.alloc (.cells #[.int .i64 24,.string ⟨kI.text.toArray⟩,.string ⟨#[]⟩,.bool false,.slice am wn cm,.bool false,.slice ae jH.length ce,.int .i64 kI.place] 60)).heap.size=w8.heap.size+1:=by simp
  clear f2 f2' hxe nE;generalize w8.alloc _=w9 at D0 D1 DX N9 vT Xm hs9 |-;have k1c:=jo vT HZ1.out
  have r0:w9.cell? ⟨w.heap.size,0,none⟩=some (.slice a1 ah.length c1):=by rw[aZ D0];rfl
  have r1:w9.cell? ⟨w.heap.size,1,none⟩=some (.slice (some ⟨b,off,none⟩) aj.length cap):=by rw[aZ D0];rfl
  have Xn:=HX.out w9.drew (YP.below ((vT.mono hB).drew)) (show B<=w9.heap.size by omega)
  go_still_tail 4,(by kernel_rfl)
  change wpList _ _ _ _ _ w9.drew;clear HX
  rcases HQ.out with ⟨hq1,rfl,rfl⟩|⟨hq1,rfl,rfl⟩
  ·have HY':=HY.out hq1
   obtain⟨hz2,hp2⟩:=HZ2.out hq1;subst hq1;have JH:=ay (show Calls Tryz.prog 113 #[.agg #[.slice a1 ah.length c1,.slice (some ⟨b,off,none⟩) aj.length cap],.int .i64 k1] w9.drew λe w'=>e=.returned (.string ⟨#[46]⟩)/\Below w9.drew.heap.size w9.drew w' from Xn);have HY2:=ay HY';have HZ3:=ay hz2
   have ajo:(2:Int)<(ks.length:Int):=by omega
   clear Xn HY' hz2 HY HZ2 HQ;go_wp2_with (go_at_call 113;refine JH.out.mono ?_);rintro e mU ⟨rfl,Ce⟩;have aeB:w9.heap.size<=mU.heap.size:=Ce.size;have ow:Below w9.heap.size w9 mU:=(bQ w9.heap.size w9).drew.trans Ce;have E0:=(ow.block w.heap.size (bP D0).1).trans D0;have E1:=(ow.block (w.heap.size+1) (bP D1).1).trans D1;have EX:=(ow.block X (bP DX).1).trans DX;have E9:=(ow.block w8.heap.size (by omega)).trans N9;have JX:=vT.trans (ow.mono vT.size);have LD:=Xm.frame (aW.of ow);have k2c:=jo JX HZ3.out;clear r0 r1 k1c D0 D1 DX N9 Ce ow Xm
   have r0:mU.cell? ⟨w.heap.size,0,none⟩=some (.slice a1 ah.length c1):=by rw[aZ E0];rfl
   have r1:mU.cell? ⟨w.heap.size,1,none⟩=some (.slice (some ⟨b,off,none⟩) aj.length cap):=by rw[aZ E0];rfl
   have f2:mU.cell? ⟨X,2,none⟩=some (.string ⟨kI.text.toArray⟩):=by rw[aZ EX];rfl
   have HY3:=ay (HY2.out mU.drew (YP.below ((JX.mono hB).drew)) (show B<=mU.heap.size by omega));obtain⟨e1,e2,ez⟩:=wU E9;have hA:Below w8.heap.size mU mU.drew:=(bQ _ _).drew;have hB':Below w8.heap.size mU (mU.drew.setCell ⟨w8.heap.size,2,none⟩ (.string ⟨kI.text.toArray⟩)):=hA.setCell (bD _) _;have E9B:(mU.drew.setCell ⟨w8.heap.size,2,none⟩ (.string ⟨kI.text.toArray⟩)).heap[w8.heap.size]?=some (.cells #[.int .i64 24,.string ⟨kI.text.toArray⟩,.string ⟨kI.text.toArray⟩,.bool false,.slice am wn cm,.bool false,.slice ae jH.length ce,.int .i64 kI.place] 60 (0,0)):=jN mU.drew w8.heap.size 2 _ _ (.string ⟨kI.text.toArray⟩) E9
   have acT:w.heap.size<=w8.heap.size:=by omega
   have ahX:w8.heap.size<mU.heap.size:=by omega
   have HY4:=ay (λW (hb:Below w8.heap.size mU W) (hs:mU.heap.size<=W.heap.size)=>(HY2.out W (YP.below ((JX.trans (hb.mono acT)).mono hB)) (by omega)).mono (R':=λe w'=>e=.returned (.string ⟨tk2.text.toArray⟩)/\Below w8.heap.size mU w'/\Below W.heap.size W w') λe w' h=>⟨h.1,hb.trans (h.2.mono (by omega)),h.2⟩);have p0:=gy f2 (gy r0 (gy r1 k2c))
   go_upto_region 6 with (fail)
   go_cut [] (λwx=>wx.heap[w8.heap.size]?=some (.cells #[.int .i64 24,.string ⟨tk2.text.toArray⟩,.string ⟨kI.text.toArray⟩,.bool false,.slice am wn cm,.bool false,.slice ae jH.length ce,.int .i64 kI.place] 60 (0,0))/\wx.heap[w.heap.size+1]?=some (.cells #[.int .i64 0,.string ⟨#[]⟩,.string ⟨#[]⟩,.bool false,.slice none 0 0,.bool false,.slice none 0 0,.int .i64 0] 60 (0,0))/\pG XA (λb=>wy.heap.size<=b/\b<w8.heap.size) wx (.slice am wn cm) (.slice ae jH.length ce) (.mk 24 [] [] 0 [] false jH kI.place)/\Below w.heap.size w wx)
   case first =>
    go_region_held3 (λw'=>w'.cell? ⟨X,2,none⟩=some (.string ⟨kI.text.toArray⟩)/\w'.cell? ⟨w.heap.size,0,none⟩=some (.slice a1 ah.length c1)/\w'.cell? ⟨w.heap.size,1,none⟩=some (.slice (some ⟨b,off,none⟩) aj.length cap)/\w'.cell? ⟨bk,ok+2,none⟩=some (.int .i64 k2))
     (first|go_keep|exact p6|exact⟨(fG mU.drew w8.heap.size _ _ (by omega)).trans p0.1,(fG mU.drew w8.heap.size _ _ (by omega)).trans p0.2.1,(fG mU.drew w8.heap.size _ _ (by omega)).trans p0.2.2.1,(fG mU.drew w8.heap.size _ _ (by omega)).trans p0.2.2.2⟩|exact⟨(fG wF w8.heap.size _ _ (by omega)).trans p6.1,(fG wF w8.heap.size _ _ (by omega)).trans p6.2.1,(fG wF w8.heap.size _ _ (by omega)).trans p6.2.2.1,(fG wF w8.heap.size _ _ (by omega)).trans p6.2.2.2⟩|exact⟨(fG (wF.setCell ⟨w8.heap.size,2,none⟩ (.string ⟨kI.text.toArray⟩)) w8.heap.size _ _ (by omega)).trans ((fG wF w8.heap.size _ _ (by omega)).trans p6.1),(fG (wF.setCell ⟨w8.heap.size,2,none⟩ (.string ⟨kI.text.toArray⟩)) w8.heap.size _ _ (by omega)).trans ((fG wF w8.heap.size _ _ (by omega)).trans p6.2.1),(fG (wF.setCell ⟨w8.heap.size,2,none⟩ (.string ⟨kI.text.toArray⟩)) w8.heap.size _ _ (by omega)).trans ((fG wF w8.heap.size _ _ (by omega)).trans p6.2.2.1),(fG (wF.setCell ⟨w8.heap.size,2,none⟩ (.string ⟨kI.text.toArray⟩)) w8.heap.size _ _ (by omega)).trans ((fG wF w8.heap.size _ _ (by omega)).trans p6.2.2.2)⟩)
     (first
      | (go_at_call 113;(with_reducible refine(HY4.out mU.drew hA (bD _)).mono ?_);rintro e wF ⟨rfl,hq11,aeC⟩;have p6:=gy ((hq11.cell (p:=⟨X,2,none⟩) (show X<w8.heap.size by omega)).trans p0.1) (gy ((hq11.cell (p:=⟨w.heap.size,0,none⟩) (show w.heap.size<w8.heap.size by omega)).trans p0.2.1) (gy ((hq11.cell (p:=⟨w.heap.size,1,none⟩) (show w.heap.size<w8.heap.size by omega)).trans p0.2.2.1) ((hq11.cell (p:=⟨bk,ok+2,none⟩) (show bk<w8.heap.size by omega)).trans p0.2.2.2)));have E11:=(aeC.block w8.heap.size ahX).trans E9;obtain⟨x1,x2,xz⟩:=wU E11)
      | (go_at_call 113;(with_reducible refine(HY4.out (mU.drew.setCell ⟨w8.heap.size,2,none⟩ (.string ⟨kI.text.toArray⟩)) hB' (by simp)).mono ?_);rintro e wF ⟨rfl,hq11,aeC⟩;have p6:=gy ((hq11.cell (p:=⟨X,2,none⟩) (show X<w8.heap.size by omega)).trans p0.1) (gy ((hq11.cell (p:=⟨w.heap.size,0,none⟩) (show w.heap.size<w8.heap.size by omega)).trans p0.2.1) (gy ((hq11.cell (p:=⟨w.heap.size,1,none⟩) (show w.heap.size<w8.heap.size by omega)).trans p0.2.2.1) ((hq11.cell (p:=⟨bk,ok+2,none⟩) (show bk<w8.heap.size by omega)).trans p0.2.2.2)));have E11:=(aeC.block w8.heap.size (by simp;omega)).trans E9B;obtain⟨x1,x2,xz⟩:=wU E11))
    have h1:=jN wF w8.heap.size 2 _ _ (.string ⟨kI.text.toArray⟩) E11;have h2:=jN _ w8.heap.size 1 _ _ (.string ⟨tk2.text.toArray⟩) h1
    have h3:((wF.setCell ⟨w8.heap.size,2,none⟩ (.string ⟨kI.text.toArray⟩)).setCell ⟨w8.heap.size,1,none⟩ (.string ⟨tk2.text.toArray⟩)).heap[w.heap.size+1]?=some (.cells #[.int .i64 0,.string ⟨#[]⟩,.string ⟨#[]⟩,.bool false,.slice none 0 0,.bool false,.slice none 0 0,.int .i64 0] 60 (0,0)):=by
     rw[qm _ _ _ _ (by show w.heap.size+1≠w8.heap.size;omega),qm _ _ _ _ (by show w.heap.size+1≠w8.heap.size;omega),hq11.block (w.heap.size+1) (by omega)];exact E1
    have h4:=((LD.frame (aW.rV hq11 λb hb=>by omega)).frame (aW.set (a:=⟨w8.heap.size,2,none⟩) (.string ⟨kI.text.toArray⟩) λb hb=>by show b≠w8.heap.size;omega)).frame (aW.set (a:=⟨w8.heap.size,1,none⟩) (.string ⟨tk2.text.toArray⟩) λb hb=>by show b≠w8.heap.size;omega);have h5:=((JX.trans (hq11.mono acT)).setCell (p:=⟨w8.heap.size,2,none⟩) acT (.string ⟨kI.text.toArray⟩)).setCell (p:=⟨w8.heap.size,1,none⟩) acT (.string ⟨tk2.text.toArray⟩);go_wp2_with fail
    go_meet
    exact⟨h2,h3,h4,h5⟩
   case rest =>
    obtain⟨F9,F1,ahY,agJ⟩:=hcut;clear r0 r1 f2 k2c p0 e1 e2 ez E9 E1 E0 EX E9B hA hB' HY4 HY2 HY3 LD
    have b0:wc.cell? ⟨w8.heap.size,0,none⟩=some (.int .i64 24):=by rw[aZ F9];rfl
    have b1:wc.cell? ⟨w8.heap.size,1,none⟩=some (.string ⟨tk2.text.toArray⟩):=by rw[aZ F9];rfl
    have b2:wc.cell? ⟨w8.heap.size,2,none⟩=some (.string ⟨kI.text.toArray⟩):=by rw[aZ F9];rfl
    have b3:wc.cell? ⟨w8.heap.size,3,none⟩=some (.bool false):=by rw[aZ F9];rfl
    have b4:wc.cell? ⟨w8.heap.size,4,none⟩=some (.slice am wn cm):=by rw[aZ F9];rfl
    have b5:wc.cell? ⟨w8.heap.size,5,none⟩=some (.bool false):=by rw[aZ F9];rfl
    have b6:wc.cell? ⟨w8.heap.size,6,none⟩=some (.slice ae jH.length ce):=by rw[aZ F9];rfl
    have b7:wc.cell? ⟨w8.heap.size,7,none⟩=some (.int .i64 kI.place):=by rw[aZ F9];rfl
    have d0:wc.cell? ⟨w.heap.size+1,0,none⟩=some (.int .i64 0):=by rw[aZ F1];rfl
    have d1:wc.cell? ⟨w.heap.size+1,1,none⟩=some (.string ⟨#[]⟩):=by rw[aZ F1];rfl
    have d2:wc.cell? ⟨w.heap.size+1,2,none⟩=some (.string ⟨#[]⟩):=by rw[aZ F1];rfl
    have d3:wc.cell? ⟨w.heap.size+1,3,none⟩=some (.bool false):=by rw[aZ F1];rfl
    have d4:wc.cell? ⟨w.heap.size+1,4,none⟩=some (.slice none 0 0):=by rw[aZ F1];rfl
    have d5:wc.cell? ⟨w.heap.size+1,5,none⟩=some (.bool false):=by rw[aZ F1];rfl
    have d6:wc.cell? ⟨w.heap.size+1,6,none⟩=some (.slice none 0 0):=by rw[aZ F1];rfl
    have d7:wc.cell? ⟨w.heap.size+1,7,none⟩=some (.int .i64 0):=by rw[aZ F1];rfl
    have dz:∀ j,wc.frozen? ⟨w.heap.size+1,j,none⟩=false:=by intro j;simp[World.frozen?,F1]
    go_wp2
    have hE:pG XA (λb=>w.heap.size<=b) (Vg wc (w.heap.size+1) (.int .i64 24) (.string ⟨tk2.text.toArray⟩) (.string ⟨kI.text.toArray⟩) (.bool false) (.slice am wn cm) (.bool false) (.slice ae jH.length ce) (.int .i64 kI.place)) (.slice am wn cm) (.slice ae jH.length ce) (.mk 24 tk2.text kI.text 0 [] false jH kI.place) :=
     ((ahY.frame (wH _ _ (w.heap.size+1) _ _ _ _ _ _ _ _ λk hk=>by omega)).imp λb hb _=>by omega).rename
    refine nI (v:=.agg #[.int .i64 24,.string ⟨tk2.text.toArray⟩,.string ⟨kI.text.toArray⟩,.bool false,.slice am wn cm,.bool false,.slice ae jH.length ce,.int .i64 kI.place]) (by simp[results,Tryz.results169,go_sem,d0,d1,d2,d3,d4,d5,d6,d7]) rfl ?_;exact⟨_,_,rfl,hE,jR agJ (by omega) _ _ _ _ _ _ _ _⟩
  ·subst hq1
   have JH:=ay (show Calls Tryz.prog 113 #[.agg #[.slice a1 ah.length c1,.slice (some ⟨b,off,none⟩) aj.length cap],.int .i64 k1] w9.drew λe w'=>e=.returned (.string ⟨#[40]⟩)/\Below w9.drew.heap.size w9.drew w' from Xn);clear Xn HY HZ2 HQ;go_wp2_with (go_at_call 113;refine JH.out.mono ?_);rintro e mU ⟨rfl,Ce⟩;have aeB:w9.heap.size<=mU.heap.size:=Ce.size;have ow:Below w9.heap.size w9 mU:=(bQ w9.heap.size w9).drew.trans Ce;have E1:=(ow.block (w.heap.size+1) (bP D1).1).trans D1;have E9:=(ow.block w8.heap.size (by omega)).trans N9;have JX:=vT.trans (ow.mono vT.size);have LD:=Xm.frame (aW.of ow);clear r0 r1 k1c D0 D1 DX N9 Ce ow Xm
   have b0:mU.cell? ⟨w8.heap.size,0,none⟩=some (.int .i64 24):=by rw[aZ E9];rfl
   have b1:mU.cell? ⟨w8.heap.size,1,none⟩=some (.string ⟨kI.text.toArray⟩):=by rw[aZ E9];rfl
   have b2:mU.cell? ⟨w8.heap.size,2,none⟩=some (.string ⟨#[]⟩):=by rw[aZ E9];rfl
   have b3:mU.cell? ⟨w8.heap.size,3,none⟩=some (.bool false):=by rw[aZ E9];rfl
   have b4:mU.cell? ⟨w8.heap.size,4,none⟩=some (.slice am wn cm):=by rw[aZ E9];rfl
   have b5:mU.cell? ⟨w8.heap.size,5,none⟩=some (.bool false):=by rw[aZ E9];rfl
   have b6:mU.cell? ⟨w8.heap.size,6,none⟩=some (.slice ae jH.length ce):=by rw[aZ E9];rfl
   have b7:mU.cell? ⟨w8.heap.size,7,none⟩=some (.int .i64 kI.place):=by rw[aZ E9];rfl
   have d0:mU.cell? ⟨w.heap.size+1,0,none⟩=some (.int .i64 0):=by rw[aZ E1];rfl
   have d1:mU.cell? ⟨w.heap.size+1,1,none⟩=some (.string ⟨#[]⟩):=by rw[aZ E1];rfl
   have d2:mU.cell? ⟨w.heap.size+1,2,none⟩=some (.string ⟨#[]⟩):=by rw[aZ E1];rfl
   have d3:mU.cell? ⟨w.heap.size+1,3,none⟩=some (.bool false):=by rw[aZ E1];rfl
   have d4:mU.cell? ⟨w.heap.size+1,4,none⟩=some (.slice none 0 0):=by rw[aZ E1];rfl
   have d5:mU.cell? ⟨w.heap.size+1,5,none⟩=some (.bool false):=by rw[aZ E1];rfl
   have d6:mU.cell? ⟨w.heap.size+1,6,none⟩=some (.slice none 0 0):=by rw[aZ E1];rfl
   have d7:mU.cell? ⟨w.heap.size+1,7,none⟩=some (.int .i64 0):=by rw[aZ E1];rfl
   have dz:∀ j,mU.frozen? ⟨w.heap.size+1,j,none⟩=false:=by intro j;simp[World.frozen?,E1]
   go_wp2
   have hE:pG XA (λb=>w.heap.size<=b) (Vg mU (w.heap.size+1) (.int .i64 24) (.string ⟨kI.text.toArray⟩) (.string ⟨#[]⟩) (.bool false) (.slice am wn cm) (.bool false) (.slice ae jH.length ce) (.int .i64 kI.place)) (.slice am wn cm) (.slice ae jH.length ce) (.mk 24 kI.text [] 0 [] false jH kI.place) :=
    ((LD.frame (wH _ _ (w.heap.size+1) _ _ _ _ _ _ _ _ λk hk=>by omega)).imp λb hb _=>by omega).rename
   refine nI (v:=.agg #[.int .i64 24,.string ⟨kI.text.toArray⟩,.string ⟨#[]⟩,.bool false,.slice am wn cm,.bool false,.slice ae jH.length ce,.int .i64 kI.place]) (by simp[results,Tryz.results169,go_sem,d0,d1,d2,d3,d4,d5,d6,d7]) rfl ?_;exact⟨_,_,rfl,hE,jR JX (by omega) _ _ _ _ _ _ _ _⟩
