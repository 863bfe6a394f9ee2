/- Walks and plain laws, without a condition. -/
import Derived.Test.YtmleecdnkmoohaaGreatDoorK02
import Derived.Deep.RegionLaw
set_option maxHeartbeats 16000000
set_option maxRecDepth 100000
set_option linter.unusedVariables false
set_option linter.unusedSimpArgs false
namespace Go.Proofs.YtmleecdnkmoohaaGreatDoor
variable{d n u:Nat}{ks:List Int}{k:Int}{aj:List Nd}{e:CE}{st:aK}{ah:List Tok}{l:List aH}
mutual
def PT.wf:PT->Prop
 | .leaf=>True
 | .node k l=>1<=k/\k<=18/\nA l
def nA:List PT->Prop
 | []=>True
 | t :: l=>t.wf/\nA l
end
def vX (u n:Nat):List Int:=(List.range' u n).map λ(k:Nat)=>(k:Int)
theorem XK (u n m:Nat):vX u (n+m)=vX u n++vX (u+n) m:=by
 unfold vX;rw[<- xZ,<- List.range'_append_1]
theorem zS {aj:List Nd}:∀ {l:List PT} {ks:List Int} {u:Nat},fP aj ks u l->ks.length=l.length/\ks.length<=eZ l
 | [],ks,u,h=>by rw[fP] at h;subst h;exact⟨rfl,by simp⟩
 | t :: l,ks,u,h=>by
  rw[fP] at h;obtain⟨k,ks',rfl,_,h2⟩:=h;obtain⟨a,b⟩:=zS h2;have:=t.iF;rw[eZ];simp only[fu];omega
mutual
theorem EC {aj:List Nd}:∀ (t:PT) (n:Int) (u g:Nat) (rest out:List Int),oH aj n u t->t.wf->rest.length+t.nd<=549755813888->gF aj (g+t.nd) (n :: rest) out=gF aj g rest (out++vX u t.lv)
 | .leaf,n,u,g,rest,out,h,_,_=>by
  rw[oH] at h;rw[PT.nd,gF,aU (by omega),h.2,PT.lv];simp only[if_true]
  rfl
 | .node k l,n,u,g,rest,out,h,hw,hs=>by
  rw[oH] at h;obtain⟨ks,h0,h1,h2⟩:=h;rw[PT.wf] at hw;obtain⟨e1,e2⟩:=zS h2;rw[PT.nd] at hs;rw[PT.nd,<- vN,gF,aU (by omega),h1,PT.lv];simp only;rw[aU (by omega),aU (by rw[bY];omega)];exact CF l ks u g rest out h2 hw.2.2 (by omega)
theorem CF {aj:List Nd}:∀ (l:List PT) (ks:List Int) (u g:Nat) (rest out:List Int),fP aj ks u l->nA l->rest.length+eZ l<=549755813888->gF aj (g+eZ l) (ks++rest) out=gF aj g rest (out++vX u (bU l))
 | [],ks,u,g,rest,out,h,_,_=>by
  rw[fP] at h;subst h;simp[eZ,bU,vX]
 | t :: l,ks,u,g,rest,out,h,hw,hs=>by
  rw[fP] at h;obtain⟨k,ks',rfl,h1,h2⟩:=h;rw[nA] at hw;rw[eZ] at hs;have hp:=t.iF;have hk:=(zS h2).2;rw[eZ,bU,XK,pJ,show g+(t.nd+eZ l)=(g+eZ l)+t.nd by omega,EC t k u _ _ _ h1 hw.1 (by rw[bY];omega),CF l ks' _ g rest _ h2 hw.2 (by omega),om]
end
mutual
theorem MH {ah:List Tok}{aj:List Nd}:∀ (t:PT) (n:Int) (u g:Nat),oH aj n u t->t.wf->u+t.lv<=ah.length->vC ah aj (g+t.nd) n=some (t.dump ah u)
 | .leaf,n,u,g,h,_,hl=>by
  rw[oH] at h;rw[PT.lv] at hl;rw[PT.nd,vC,aU (by omega),h.2,PT.dump];simp only[if_true];rw[aU (by omega),Int.toNat_natCast,dx,Nat.min_eq_left (by omega),AY (by omega),Kr,AY (by omega)]
  rfl
 | .node k l,n,u,g,h,hw,hl=>by
  rw[oH] at h;obtain⟨ks,h0,h1,h2⟩:=h;rw[PT.wf] at hw;rw[PT.lv] at hl;rw[PT.nd,<- vN,vC,aU (by omega),h1,PT.dump];simp only;rw[aU (by omega),I9 l ks u g h2 hw.2.2 hl]
  simp
theorem I9 {ah:List Tok}{aj:List Nd}:∀ (l:List PT) (ks:List Int) (u g:Nat),fP aj ks u l->nA l->u+bU l<=ah.length->nO (vC ah aj (g+eZ l)) ks=some (CB ah u l)
 | [],ks,u,g,h,_,_=>by
  rw[fP] at h;subst h;rw[nO,CB]
 | t :: l,ks,u,g,h,hw,hl=>by
  rw[fP] at h;obtain⟨k,ks',rfl,h1,h2⟩:=h;rw[nA] at hw;rw[bU] at hl;have e1:=MH (ah:=ah) t k u (g+eZ l) h1 hw.1 (by omega);have e2:=I9 (ah:=ah) l ks' (u+t.lv) (g+t.nd) h2 hw.2 (by omega);rw[show g+eZ l+t.nd=g+eZ (t :: l) by rw[eZ];omega] at e1;rw[show g+t.nd+eZ l=g+eZ (t :: l) by rw[eZ];omega] at e2;rw[nO,e1,pO,e2,pO,CB]
end
def ED:List PT->List Bool
 | []=>[]
 | t :: l=>List.replicate (t.nd - 1) true++[false]++ED l
theorem MI:∀ (l:List PT) (A R:List Bool) (b:Nat),A.length=b->zR (A++ED l++R) (dA b l)=some (A++List.replicate (eZ l) true++R)
 | [],A,R,b,_=>by simp[ED,dA,zR,eZ]
 | t :: l,A,R,b,hA=>by
  have hp:=t.iF
  have e:(((b+t.nd:Nat):Int) - 1).toNat=(A++List.replicate (t.nd - 1) true).length:=by simp;omega
  rw[dA,zR,e,ED]
  have e2:A++(List.replicate (t.nd - 1) true++[false]++ED l)++R=(A++List.replicate (t.nd - 1) true)++false :: (ED l++R):=by simp
  rw[e2,aU (by simp),List.set_append_right _ _ (bD _),Nat.sub_self,List.set_cons_zero];have ih:=MI l (A++List.replicate (t.nd - 1) true++[true]) R (b+t.nd) (by simp;omega)
  have e3:A++List.replicate (t.nd - 1) true++[true]++ED l++R=A++List.replicate (t.nd - 1) true++true :: (ED l++R):=by simp
  rw[e3] at ih;rw[ih,eZ]
  have e4:List.replicate (t.nd - 1) true++[true]=List.replicate t.nd true:=by
   conv=>rhs;rw[show t.nd=(t.nd - 1)+1 by omega,List.replicate_succ']
  congr 1
  rw[om A,e4,<- List.replicate_append_replicate,om,om,om,om]
theorem ab4 (b:Nat)(l:List PT):(dA b l).any (λk=>decide (k<0) || decide (((b+eZ l:Nat):Int)<=k))=false:=by
 rw[<- vM,List.any_eq_true];rintro⟨x,hx,hy⟩;have:=yO _ _ _ hx;simp only[Bool.or_eq_true,AZ] at hy;omega
mutual
theorem MJ (nt:Nat):∀ (t:PT) (b u:Nat) (A:List Bool) (m:Nat) (more:List Nd),t.wf->A.length=b->u+t.lv<=nt ->
  nN nt b (t.em b u++more) (A++List.replicate (t.nd+m) false)=nN nt (b+t.nd) more (A++List.replicate (t.nd - 1) true++[false]++List.replicate m false)
 | .leaf,b,u,A,m,more,_,_,hu=>by
  rw[PT.lv] at hu;rw[PT.em,PT.nd,pJ,uD,nN,bR]
  ·rw[zR,pO,Nat.add_comm 1 m,List.replicate_succ]
   simp
  ·simp[jy]
   omega
 | .node k l,b,u,A,m,more,hw,hA,hu=>by
  rw[PT.wf] at hw;rw[PT.lv] at hu;have h:=Ja nt l b u A (1+m) ([⟨k,-1,dA b l⟩]++more) hw.2.2 hA hu;rw[PT.em,PT.nd,om,show eZ l+1+m=eZ l+(1+m) by omega,h,pJ,uD,nN,bR]
  ·rw[MI l A _ b hA,pO,Nat.add_comm 1 m,List.replicate_succ]
   simp[vN]
  ·unfold jy
   rw[aU (by simp only;omega),aU (by simp only;omega)];simp only[ab4]
   rfl
theorem Ja (nt:Nat):∀ (l:List PT) (b u:Nat) (A:List Bool) (m:Nat) (more:List Nd),nA l->A.length=b->u+bU l<=nt ->
  nN nt b (zP b u l++more) (A++List.replicate (eZ l+m) false)=nN nt (b+eZ l) more (A++ED l++List.replicate m false)
 | [],b,u,A,m,more,_,_,_=>by simp[zP,eZ,ED]
 | t :: l,b,u,A,m,more,hw,hA,hu=>by
  rw[nA] at hw;rw[bU] at hu;have hp:=t.iF;have h1:=MJ nt t b u A (eZ l+m) (zP (b+t.nd) (u+t.lv) l++more) hw.1 hA (by omega);have h2:=Ja nt l (b+t.nd) (u+t.lv) (A++List.replicate (t.nd - 1) true++[false]) m more hw.2 (by simp;omega) (by omega);rw[zP,eZ,om,vN,h1,h2,ED,vN]
  simp
end
theorem zT:∀ (n u:Nat),pF u (vX u n)=true
 | 0,u=>by simp[vX,pF]
 | n+1,u=>by
  have h:=zT n (u+1);simp only[vX,List.range'_succ,lN,pF] at h |-;simp[h]
theorem XL (t:PT)(hw:t.wf)(nt:Nat)(h:t.lv=nt):mh nt (t.em 0 0) (vX 0 nt)=true:=by
 have hp:=t.iF;have h1:=MJ nt t 0 0 [] 0 [] hw rfl (by omega);rw[List.append_nil,uD,nZ,nN] at h1
 have h2:qW nt (t.em 0 0)=some (List.replicate (t.nd - 1) true++[false]):=by
  rw[qW,PT.uI,h1];simp
 unfold mh;rw[h2];simp only[PT.uI,zT,Bool.and_true];rw[abk (by simp),Ba (by simp)]
 have h3:(List.replicate (t.nd - 1) true).contains false=false:=by
  rw[<- vM,List.contains_iff_mem,List.mem_replicate]
  simp
 rw[h3];simp[vX]
theorem UM (t:PT)(hw:t.wf)(h:t.nd<=549755813888):gF (t.em 0 0) (t.nd+1) [((t.nd:Nat):Int) - 1] []=some (vX 0 t.lv):=by
 have hr:=oH.em (pre:=[]) t 0 0 rfl;rw[uD,Nat.zero_add] at hr;rw[Nat.add_comm,EC t _ 0 1 [] [] hr hw (by simpa using h),gF,uD]
theorem ab5 (ah:List Tok)(t:PT)(hw:t.wf)(h:t.lv<=ah.length):vC ah (t.em 0 0) t.nd (((t.nd:Nat):Int) - 1)=some (t.dump ah 0):=by
 have hr:=oH.em (pre:=[]) t 0 0 rfl;rw[uD,Nat.zero_add] at hr;have:=MH (ah:=ah) t _ 0 0 hr hw (by omega);rw[Nat.zero_add] at this;exact this
mutual
theorem CE.wf:∀ e:CE,e.pt.wf
 | .num=>by simp[CE.pt,PT.wf,nA]
 | .truth=>by simp[CE.pt,PT.wf,nA]
 | .res=>by simp[CE.pt,PT.wf,nA]
 | .Cz=>by simp[CE.pt,PT.wf,nA]
 | .group e=>by simp[CE.pt,PT.wf,nA,CE.wf e]
 | .un e=>by simp[CE.pt,PT.wf,nA,CE.wf e]
 | .bin a b=>by simp[CE.pt,PT.wf,nA,CE.wf a,CE.wf b]
 | .iff a b c=>by simp[CE.pt,PT.wf,nA,CE.wf a,CE.wf b,CE.wf c]
 | .vO a b=>by simp[CE.pt,PT.wf,nA,CE.wf a,CE.wf b]
 | .vP a b=>by simp[CE.pt,PT.wf,nA,CE.wf a,CE.wf b]
 | .call q l=>by
  have h:=XM l
  have e:∀ (a b:List PT),nA a->nA b->nA (a++b):=λa b ha hb=>by
   induction a with
   | nil=>exact hb
   | cons x a ih=>rw[nA] at ha;rw[pJ,nA];exact⟨ha.1,ih ha.2⟩
  rw[CE.pt,PT.wf];refine⟨by omega,by omega,e _ _ (e _ _ (e _ _ ?_ (by simp[nA,PT.wf])) h) (by simp[nA,PT.wf])⟩
  cases q<;>simp[nA,PT.wf]
theorem XM:∀ l:List CE,nA (fI l)
 | []=>by simp[fI,nA]
 | [e]=>by simp[fI,nA,CE.wf e]
 | e :: f :: l=>by
  rw[oG,nA,nA];exact⟨CE.wf e,by simp[PT.wf],XM (f :: l)⟩
end
def jc:List Nat->Nat
 | []=>0
 | d :: l=>d+4294967296 * jc l
def dB:List Nat->List Nat
 | []=>[]
 | d :: l=>if dB l=[]/\d=0 then [] else d :: dB l
theorem xB:∀ l,jc (dB l)=jc l
 | []=>rfl
 | d :: l=>by
  rw[dB]
  split
  ·rename_i h
   have:=xB l;rw[h.1] at this;rw[jc,jc,<- this,h.2]
   rfl
  ·rw[jc,xB l,jc]
theorem yP:∀ l,jc l=0->dB l=[]
 | [],_=>rfl
 | d :: l,h=>by
  rw[jc] at h;rw[dB,bR ⟨yP l (by omega),by omega⟩]
theorem Jb:∀ l,(dB l).length<=l.length
 | []=>bD _
 | d :: l=>by
  have:=Jb l;rw[dB]
  split<;>simp
  exact this
theorem Bj:∀ (l:List Nat) (x:Nat),x∈dB l->x∈l
 | [],x,h=>h
 | d :: l,x,h=>by
  rw[dB] at h
  split at h
  ·cases h
  ·rcases nY.1 h with rfl|h
   ·exact Cu
   ·exact Dy _ (Bj l x h)
theorem yQ:∀ l,dB (dB l)=dB l
 | []=>rfl
 | d :: l=>by
  rw[dB]
  split
  ·rfl
  ·rename_i h
   rw[dB,yQ l,aU h]
theorem xC {l:List Nat}(h:dB l=l)(hl:l≠[]):0<jc l:=by
 apply Nat.pos_of_ne_zero
 intro q;exact hl (by rw[<- h,yP l q])
theorem uK:∀ (l:List Nat),∃ n,n<=l.length/\dB l=l.take n/\(∀ j,n<=j->(h:j<l.length)->l[j]=0)/\(∀ j,j+1=n->(h:j<l.length)->l[j]≠0)
 | []=>⟨0,bD _,rfl,λj _ h=>absurd h (by simp),λj h=>by omega⟩
 | d :: l=>by
  obtain⟨n,h1,h2,h3,h4⟩:=uK l;rw[dB]
  split
  ·rename_i h
   have hn:n=0\/l=[]:=by
    have:(l.take n).length=0:=by rw[<- h2,h.1];rfl
    rw[pK] at this
    rcases Nat.eq_zero_or_pos n with q|q
    ·exact .inl q
    ·exact .inr (List.length_eq_zero_iff.1 (by omega))
   refine⟨0,kJ _,rfl,λj _ hj=>?_,λj hj=>by omega⟩
   cases j with
   | zero=>exact h.2
   | succ j =>
    simp only[fu] at hj
    rcases hn with q|q
    ·simpa using h3 j (by omega) (by omega)
    ·subst q;simp at hj
  ·rename_i h
   refine⟨n+1,by simpa using h1,by rw[h2,List.take_succ_cons],λj hj hl=>?_,λj hj hl=>?_⟩
   ·cases j with
    | zero=>omega
    | succ j=>simpa using h3 j (by omega) (by simpa using hl)
   ·cases j with
    | zero =>
     obtain rfl:n=0:=by omega
     intro q;exact h ⟨by rw[h2];rfl,q⟩
    | succ j=>simpa using h4 j (by omega) (by simpa using hl)
def fU (KD:Nat):List Nat->Nat->List Nat
 | [],more=>[more % 4294967296]
 | d :: l,more=>(more+d * KD) % 4294967296 :: fU KD l ((more+d * KD) / 4294967296)
theorem kM (b:Nat):∀ (l:List Nat) (m:Nat),(fU b l m).length=l.length+1
 | [],_=>rfl
 | d :: l,m=>by rw[fU,fu,kM b l,fu]
theorem Jc (b:Nat):∀ (l:List Nat) (m x:Nat),x∈fU b l m->x<4294967296
 | [],m,x,h=>by rw[fU,Ia] at h;omega
 | d :: l,m,x,h=>by
  rw[fU] at h
  rcases nY.1 h with rfl|h
  ·omega
  ·exact Jc b l _ x h
theorem MK {b m:Nat}(hd:d<4294967296)(hb:b<=1000000000)(hm:m<=1000000000):m+d * b<=4294967295000000000+1000000000/\(m+d * b) / 4294967296<=1000000000:=by
 have h1:d * b<=4294967295 * 1000000000:=Nat.mul_le_mul (by omega) hb;omega
theorem EF (b:Nat)(hb:b<=1000000000):∀ (l:List Nat) (m:Nat),(∀ x∈l,x<4294967296)->m<=1000000000->jc (fU b l m)=jc l * b+m
 | [],m,_,hm=>by
  rw[fU,jc,jc,jc,Nat.mod_eq_of_lt (by omega)];omega
 | d :: l,m,hl,hm=>by
  have hc:=MK (hl d Cu) hb hm;have ih:=EF b hb l _ (λx hx=>hl x (Dy _ hx)) hc.2;rw[fU,jc,ih,jc];have:=Nat.div_add_mod (m+d * b) 4294967296;generalize (m+d * b) / 4294967296=q at *;generalize (m+d * b) % 4294967296=r at *
  have e:(d+4294967296 * jc l) * b+m=m+d * b+4294967296 * (jc l * b):=by
   rw[Nat.add_mul,Nat.mul_assoc];omega
  rw[e,<- this];omega
theorem EG {α:Type}{P:List α->Prop}(h0:P [])(h1:∀ (l:List α) (c:α),P l->P (l++[c]))(l:List α):P l:=by
 have h:∀ (r:List α),P r.reverse:=λr=>by
  induction r with
  | nil=>exact h0
  | cons c r ih=>rw[List.reverse_cons];exact h1 _ _ ih
 have:=h l.reverse
 rwa [List.reverse_reverse] at this
def jE (l:aH):Nat:=l.foldl (λa c=>a * 10+(c.toNat - 48)) 0
theorem tu (l:aH)(c:UInt8):jE (l++[c])=jE l * 10+(c.toNat - 48):=by
 unfold jE;rw[List.foldl_append];rfl
theorem MN:∀ (b a:aH),jE (a++b)=jE a * 10 ^ b.length+jE b:=by
 refine EG ?_ ?_
 ·intro a;simp[jE]
 ·intro b c ih a
  rw[<- om,tu,ih,tu,bY,List.length_singleton,Nat.pow_succ,Nat.add_mul,<- Nat.mul_assoc,vN]
def gG (l:aH):Bool:=l.all λc=>decide (48<=c.toNat) && decide (c.toNat<=57)
theorem Ec:∀ (l:aH),gG l=true->jE l<10 ^ l.length:=by
 refine EG ?_ ?_
 ·intro _;decide
 ·intro l c ih h
  rw[gG,List.all_append,uw] at h;have h1:=ih h.1;have h2:=h.2;simp only[List.all_cons,List.all_nil,Bool.and_true,uw,AZ] at h2;rw[tu,bY,List.length_singleton,Nat.pow_succ];omega
theorem ab6 (h:n<=9):10 ^ n<=1000000000:=Nat.pow_le_pow_right (by omega) h
def bK (b:Nat):List Nat->List Nat × Nat
 | []=>([],0)
 | d :: l=>(((bK b l).2 * 4294967296+d) / b :: (bK b l).1,((bK b l).2 * 4294967296+d) % b)
theorem EH (b:Nat):∀ l,(bK b l).1.length=l.length
 | []=>rfl
 | d :: l=>by rw[bK,fu,EH b l,fu]
theorem sj (b:Nat)(hb:0<b):∀ l,(bK b l).2<b
 | []=>hb
 | _d :: _l=>Nat.mod_lt _ hb
theorem EI (b:Nat):∀ l,jc l=jc (bK b l).1 * b+(bK b l).2
 | []=>by simp[bK,jc]
 | d :: l=>by
  rw[bK];simp only;have ih:=EI b l;have:=Nat.div_add_mod ((bK b l).2 * 4294967296+d) b;rw[jc,jc,ih];generalize ((bK b l).2 * 4294967296+d) / b=q at *;generalize ((bK b l).2 * 4294967296+d) % b=r at *;generalize jc (bK b l).1=M at *;generalize (bK b l).2=s at *;rw[Nat.add_mul,Nat.mul_assoc,Nat.mul_comm q b];omega
theorem Jd (b:Nat)(hb:0<b):∀ l,(∀ x∈l,x<4294967296)->∀ x∈(bK b l).1,x<4294967296
 | [],_,x,h=>by cases h
 | d :: l,hl,x,h=>by
  rw[bK] at h;simp only at h
  rcases nY.1 h with rfl|h
  ·have h1:=sj b hb l
   have h2:=hl d Cu;rw[Nat.div_lt_iff_lt_mul hb];have:((bK b l).2+1) * 4294967296<=b * 4294967296:=Nat.mul_le_mul_right _ h1;rw[Nat.mul_comm 4294967296 b];omega
  ·exact Jd b hb l (λx hx=>hl x (Dy _ hx)) x h
def kH:Nat->Nat->aH
 | 0,_=>[]
 | k+1,n=>UInt8.ofNat (48+n % 10) :: kH k (n / 10)
theorem zU:∀ (k j n:Nat),kH (k+j) n=kH k n++kH j (n / 10 ^ k)
 | 0,j,n=>by simp[kH]
 | k+1,j,n=>by
  rw[show k+1+j=(k+j)+1 by omega,kH,kH,zU k j,pJ,Nat.div_div_eq_div_mul,<- Nat.pow_succ']
theorem Je (k n:Nat):kH (k+1) n=kH k n++[UInt8.ofNat (48+n / 10 ^ k % 10)]:=by
 rw[zU k 1];rfl
theorem MO:∀ (k j n:Nat),k<=j->kH k (n % 10 ^ j)=kH k n
 | 0,_,_,_=>rfl
 | k+1,0,_,h=>absurd h (by omega)
 | k+1,j+1,n,h=>by
  have e1:n % 10 ^ (j+1) % 10=n % 10:=Nat.mod_mod_of_dvd _ ⟨10 ^ j,by rw[Nat.pow_succ,Nat.mul_comm]⟩
  have e2:n % 10 ^ (j+1) / 10=n / 10 % 10 ^ j:=by
   rw[Nat.pow_succ,Nat.mul_comm,Nat.mod_mul_right_div_self]
  rw[kH,kH,e1,e2,MO k j _ (by omega)]
theorem Jf:∀ k,kH k 0=List.replicate k 48
 | 0=>rfl
 | k+1=>by rw[kH,Nat.zero_div,Jf k,List.replicate_succ];rfl
theorem XO (n:Nat):∃ k,kg n=(kH (k+1) n).reverse/\n<10 ^ (k+1)/\(n=0->k=0)/\(0<n->10 ^ k<=n):=by
 induction n using Nat.strongRecOn with
 | _ n ih =>
  rw[kg]
  split
  ·rename_i h
   refine⟨0,?_,by omega,λ_=>rfl,λh=>by omega⟩;rw[kH,kH,Nat.mod_eq_of_lt h]
   rfl
  ·rename_i h
   obtain⟨k,h1,h2,h3,h4⟩:=ih (n / 10) (by omega);refine⟨k+1,?_,?_,λq=>by omega,λ_=>?_⟩
   ·rw[kH,List.reverse_cons,h1]
   ·rw[Nat.pow_succ];omega
   ·have:=h4 (by omega)
    rw[Nat.pow_succ];omega
def zV (l:aH):aH:=(l.reverse.dropWhile (· == 48)).reverse
theorem Qn (h:d<10):(UInt8.ofNat (48+d)).toNat=48+d:=by
 rw[UInt8.toNat_ofNat'];omega
theorem XP (n k:Nat)(h0:0<n)(hk:n<10 ^ k):(zV (kH k n)).reverse=kg n:=by
 obtain⟨j,h1,h2,_,h4⟩:=XO n
 have hj:j+1<=k:=by
  have:=h4 h0
  have h5:10 ^ j<10 ^ k:=by omega
  have:=(Nat.pow_lt_pow_iff_right (by omega:1<10)).1 h5;omega
 rw[zV,List.reverse_reverse,h1]
 have e:kH k n=kH (j+1) n++List.replicate (k - (j+1)) 48:=by
  conv=>lhs;rw[show k=(j+1)+(k - (j+1)) by omega,zU,Nat.div_eq_of_lt h2,Jf]
 rw[e,List.reverse_append,List.reverse_replicate]
 have e2:∀ (m:Nat) (l:aH),(List.replicate m (48:UInt8)++l).dropWhile (· == 48)=l.dropWhile (· == 48):=λm l=>by
  induction m with
  | zero=>simp
  | succ m ih=>rw[List.replicate_succ,pJ,List.dropWhile_cons_of_pos (by decide),ih]
 rw[e2,Je,List.reverse_append,List.reverse_singleton,List.singleton_append,List.dropWhile_cons_of_neg];have h6:0<n / 10 ^ j:=Nat.div_pos (h4 h0) (Nat.pow_pos (by omega))
 have h7:n / 10 ^ j<10:=by rw[Nat.div_lt_iff_lt_mul (Nat.pow_pos (by omega)),Nat.mul_comm,<- Nat.pow_succ];exact h2
 rw[Nat.mod_eq_of_lt h7];intro q;have:=congrArg UInt8.toNat (eq_of_beq q);rw[Qn h7] at this;simp at this;omega
theorem XQ:∀ (l:aH),gG l=true->l≠[]->(l.head?=some 48->l.length=1)->kg (jE l)=l:=by
 refine EG ?_ ?_
 ·intro _ h;exact absurd rfl h
 ·intro l c ih hd _ hh
  rw[gG,List.all_append,uw] at hd;have hc:=hd.2;simp only[List.all_cons,List.all_nil,Bool.and_true,uw,AZ] at hc
  have e:UInt8.ofNat (48+(c.toNat - 48))=c:=by
   rw[show 48+(c.toNat - 48)=c.toNat by omega];exact UInt8.ofNat_toNat
  rw[tu,kg]
  by_cases hl:l=[]
  ·subst hl
   have:jE []=0:=rfl;rw[this,dif_pos (by omega),Nat.zero_mul,Nat.zero_add,e]
   rfl
  ·have hne:l.head?≠some 48:=λq=>by
    have:=hh (by rw[List.head?_append,q];rfl);rw[bY,List.length_singleton] at this;exact hl (List.length_eq_zero_iff.1 (by omega))
   have ih':=ih hd.1 hl (λq=>absurd q hne)
   have hpos:0<jE l:=by
    apply Nat.pos_of_ne_zero
    intro q;rw[q] at ih'
    have:l=[48]:=by rw[<- ih'];rw[kg];simp
    exact hne (by rw[this];rfl)
   rw[dif_neg (by omega),show (jE l * 10+(c.toNat - 48)) / 10=jE l by omega,show (jE l * 10+(c.toNat - 48)) % 10=c.toNat - 48 by omega,ih',e]
inductive PE where
 | mk (op:Nat) (name module:aH) (num:Int) (txt:aH) (yes:Bool) (aB:List PE) (at_:Nat)
def PE.op:PE->Nat | .mk o _ _ _ _ _ _ _=>o
def PE.name:PE->aH | .mk _ n _ _ _ _ _ _=>n
def PE.module:PE->aH | .mk _ _ m _ _ _ _ _=>m
def PE.num:PE->Int | .mk _ _ _ n _ _ _ _=>n
def PE.txt:PE->aH | .mk _ _ _ _ t _ _ _=>t
def PE.yes:PE->Bool | .mk _ _ _ _ _ y _ _=>y
def PE.aB:PE->List PE | .mk _ _ _ _ _ _ k _=>k
def PE.at_:PE->Nat | .mk _ _ _ _ _ _ _ a=>a
def lS (n:Int):aH:=(if n<0 then [45] else [])++kg n.natAbs
mutual
def PE.told:PE->Prop
 | .mk op _ _ num txt _ aB _=>(op=1->txt=lS num)/\MP aB
def MP:List PE->Prop
 | []=>True
 | e :: l=>e.told/\MP l
end
def dU (ah:List Tok)(u:Nat):Nat:=(dx ah u).place
mutual
def CE.pe (ah:List Tok)(u:Nat):CE->PE
 | .num=>.mk 1 [] [] (jE (aP ah u):Nat) (aP ah u) false [] (dU ah u)
 | .truth=>.mk 2 [] [] 0 [] (decide (aP ah u=Tg)) [] (dU ah u)
 | .res=>.mk 4 [] [] 0 [] false [] (dU ah u)
 | .Cz=>.mk 3 (aP ah u) [] 0 [] false [] (dU ah u)
 | .group e=>e.pe ah (u+1)
 | .un e=>.mk (if aP ah u=ab3 then 6 else 5) [] [] 0 [] false [e.pe ah (u+1)] (dU ah u)
 | .bin a b=>.mk (7+sP.idxOf (aP ah (u+a.pt.lv))) [] [] 0 [] false [a.pe ah u,b.pe ah (u+a.pt.lv+1)] (dU ah (u+a.pt.lv))
 | .iff a b c=>.mk 21 [] [] 0 [] false [a.pe ah (u+1),b.pe ah (u+1+a.pt.lv+1),c.pe ah (u+1+a.pt.lv+1+b.pt.lv+1)] (dU ah u)
 | .vO a b=>.mk 22 (aP ah (u+1)) [] 0 [] false [a.pe ah (u+3),b.pe ah (u+3+a.pt.lv+1)] (dU ah u)
 | .vP a b=>.mk 23 [] [] 0 [] false [a.pe ah (u+1),b.pe ah (u+1+a.pt.lv+1)] (dU ah u)
 | .call q l=>if q=true then .mk 24 (aP ah (u+2)) (aP ah u) 0 [] false (ko ah (u+4) l) (dU ah u) else .mk 24 (aP ah u) [] 0 [] false (ko ah (u+2) l) (dU ah u)
def ko (ah:List Tok)(u:Nat):List CE->List PE
 | []=>[]
 | e :: l=>e.pe ah u :: ko ah (u+e.pt.lv+1) l
end
def Qo (ah:List Tok):Prop:=∀ u,gW ah u=3->kg (jE (aP ah u))=aP ah u
theorem EJ (n:Nat):lS (n:Int)=kg n:=by
 unfold lS;rw[aU (by omega),uD,Int.natAbs_natCast]
mutual
theorem CE.told {ah:List Tok}(hN:Qo ah){cl:Bool}:∀ (e:CE) (u:Nat),e.ok ah cl u->(e.pe ah u).told
 | .num,u,h=>by
  rw[CE.ok] at h;rw[CE.pe,PE.told];exact⟨λ_=>by rw[EJ,hN u h],trivial⟩
 | .truth,u,h=>by rw[CE.pe,PE.told];exact⟨λq=>absurd q (by decide),trivial⟩
 | .res,u,h=>by rw[CE.pe,PE.told];exact⟨λq=>absurd q (by decide),trivial⟩
 | .Cz,u,h=>by rw[CE.pe,PE.told];exact⟨λq=>absurd q (by decide),trivial⟩
 | .group e,u,h=>by rw[CE.ok] at h;rw[CE.pe];exact CE.told hN e _ h.2
 | .un e,u,h=>by
  rw[CE.ok] at h;rw[CE.pe,PE.told];exact⟨λq=>by split at q<;>omega,CE.told hN e _ h.2,trivial⟩
 | .bin a b,u,h=>by
  rw[CE.ok] at h;rw[CE.pe,PE.told];exact⟨λq=>by omega,CE.told hN a _ h.2.1,CE.told hN b _ h.2.2,trivial⟩
 | .iff a b c,u,h=>by
  rw[CE.ok] at h;rw[CE.pe,PE.told];exact⟨λq=>by omega,CE.told hN a _ h.2.1,CE.told hN b _ h.2.2.1,CE.told hN c _ h.2.2.2,trivial⟩
 | .vO a b,u,h=>by
  rw[CE.ok] at h;rw[CE.pe,PE.told];exact⟨λq=>by omega,CE.told hN a _ h.2.2.1,CE.told hN b _ h.2.2.2,trivial⟩
 | .vP a b,u,h=>by
  rw[CE.ok] at h;rw[CE.pe,PE.told];exact⟨λq=>by omega,CE.told hN a _ h.2.1,CE.told hN b _ h.2.2,trivial⟩
 | .call q l,u,h=>by
  rw[CE.ok] at h;rw[CE.pe]
  cases q with
  | true =>
   rw[bR rfl,PE.told];exact⟨λq=>by omega,EL hN l _ h.2.2.2.2.2⟩
  | false =>
   rw[aU (by decide),PE.told];exact⟨λq=>by omega,EL hN l _ h.2.2.2.2⟩
theorem EL {ah:List Tok}(hN:Qo ah){cl:Bool}:∀ (l:List CE) (u:Nat),qp ah cl u l->MP (ko ah u l)
 | [],u,_=>by rw[ko,MP];trivial
 | e :: l,u,h=>by
  rw[qp] at h;rw[ko,MP];exact⟨CE.told hN e _ h.1,EL hN l _ h.2⟩
end
def gX (aj:List Nd)(ks:List Int):List Int:=ks.filter λk=>(aj[k.toNat]?.map (·.kind)).getD 19 != 19
theorem Qp (h:oH aj k u .leaf):gX aj (k :: ks)=gX aj ks:=by
 rw[oH] at h;rw[gX,List.filter_cons_of_neg (by rw[h.2];simp)]
 rfl
theorem CE.node (e:CE):∃ k l,e.pt=.node k l/\7<=k/\k<=17:=by
 cases e with
 | call q l=>exact⟨13,_,by rw[CE.pt],by omega,by omega⟩
 | num=>exact⟨15,_,by rw[CE.pt],by omega,by omega⟩
 | truth=>exact⟨16,_,by rw[CE.pt],by omega,by omega⟩
 | res=>exact⟨17,_,by rw[CE.pt],by omega,by omega⟩
 | Cz=>exact⟨14,_,by rw[CE.pt],by omega,by omega⟩
 | group e=>exact⟨12,_,by rw[CE.pt],by omega,by omega⟩
 | un e=>exact⟨11,_,by rw[CE.pt],by omega,by omega⟩
 | bin a b=>exact⟨10,_,by rw[CE.pt],by omega,by omega⟩
 | iff a b c=>exact⟨8,_,by rw[CE.pt],by omega,by omega⟩
 | vO a b=>exact⟨7,_,by rw[CE.pt],by omega,by omega⟩
 | vP a b=>exact⟨9,_,by rw[CE.pt],by omega,by omega⟩
theorem Qq (h:oH aj k u e.pt):gX aj (k :: ks)=k :: gX aj ks:=by
 obtain⟨c,l,he,h1,h2⟩:=e.node;rw[he,oH] at h;obtain⟨ks',_,h3,_⟩:=h;rw[gX,List.filter_cons_of_pos (by rw[h3];simp;omega)]
 rfl
inductive PZ where
 | mk (op:Int) (name module:aH) (num:Int) (yes:Bool) (aB:List PZ) (at_:Int)
def PZ.op:PZ->Int | .mk o _ _ _ _ _ _=>o
def PZ.name:PZ->aH | .mk _ n _ _ _ _ _=>n
def PZ.module:PZ->aH | .mk _ _ m _ _ _ _=>m
def PZ.num:PZ->Int | .mk _ _ _ n _ _ _=>n
def PZ.yes:PZ->Bool | .mk _ _ _ _ y _ _=>y
def PZ.aB:PZ->List PZ | .mk _ _ _ _ _ k _=>k
def PZ.at_:PZ->Int | .mk _ _ _ _ _ _ a=>a
def dw (w:aH):Bool:=match dQ w with
 | .ok [t,_]=>decide (t.kind=1) && decide (t.text=w)
 | _=>false
def KE (op:Int):Int :=
 if op=5 then 8 else if op=6 then 4 else if op=7\/op=8 then 6 else if 9<=op/\op<=11 then 7 else if 12<=op/\op<=17 then 5
 else if op=18 then 3 else if op=19 then 2 else if op=20 then 1 else if 21<=op/\op<=23 then 0 else 9
def vY (op:Int):Int:=if KE op=5 then 6 else if KE op=1 then 2 else KE op
def CG (op:Int):Int:=if KE op=1 then 1 else KE op+1
def countB (op:Int)(n:Nat):Bool :=
 if op<=4 then decide (n=0) else if op<=6 then decide (n=1) else if op<=20\/op=22\/op=23 then decide (n=2) else if op=21 then decide (n=3) else decide (n<=8)
def vZ (op:Int)(nm md:aH):Bool :=
 if op=3\/op=22 then dw nm && decide (md=[]) else if op=24 then dw nm && (decide (md=[]) || dw md) else decide (nm=[]) && decide (md=[])
def xD (op num:Int)(yes:Bool):Bool :=
 if op=1 then decide (0<=num) && decide ((lS num).length<=60) && !yes else decide (num=0) && (decide (op=2) || !yes)
def UN (fm:Bool)(op:Int):Bool:=if fm=true then decide (op<=20) else decide (op≠4)
def MQ (fm:Bool)(op:Int)(nm md:aH)(num:Int)(yes:Bool)(n:Nat):Bool :=
 decide (1<=op) && decide (op<=24) && UN fm op && vZ op nm md && xD op num yes && countB op n
mutual
def PZ.right (fm:Bool):PZ->Bool
 | .mk op nm md num yes aB _=>MQ fm op nm md num yes aB.length && kG fm aB
def kG (fm:Bool):List PZ->Bool
 | []=>true
 | e :: l=>e.right fm && kG fm l
end
def zW (op:Int):aH:=([[43],[45],[42],[47],[37],[61],[60,62],[60],[60,61],[62],[62,61],[38,38],[124,124],[61,62]]:List aH).getD (op.toNat - 7) []
def rU (least:Int)(k:Int × aH):aH:=if KE k.1<least then [40]++k.2++[41] else k.2
def bO:List aH->aH
 | []=>[]
 | [t]=>t
 | t :: s :: l=>t++[44,32]++bO (s :: l)
def oq (op:Int)(nm md:aH)(num:Int)(yes:Bool)(ks:List (Int × aH)):aH :=
 if op=1 then lS num
 else if op=2 then (if yes=true then [116,114,117,101] else [102,97,108,115,101])
 else if op=3 then nm
 else if op=4 then [114,101,115]
 else if op=5 then [45]++rU 9 (ks.getD 0 (0,[]))
 else if op=6 then [110,111,116,32]++rU 4 (ks.getD 0 (0,[]))
 else if op=21 then [105,102,32]++(ks.getD 0 (0,[])).2++[32,116,104,101,110,32]++(ks.getD 1 (0,[])).2++[32,101,108,115,101,32]++(ks.getD 2 (0,[])).2
 else if op=22 then [108,101,116,32]++nm++[32,61,32]++(ks.getD 0 (0,[])).2++[32,105,110,32]++(ks.getD 1 (0,[])).2
 else if op=23 then [97,115,115,101,114,116,32]++(ks.getD 0 (0,[])).2++[32,105,110,32]++(ks.getD 1 (0,[])).2
 else if op=24 then (if md=[] then [] else md++[46])++nm++[40]++bO (ks.map Prod.snd)++[41]
 else rU (vY op) (ks.getD 0 (0,[]))++[32]++zW op++[32]++rU (CG op) (ks.getD 1 (0,[]))
mutual
def PZ.text:PZ->aH
 | .mk op nm md num yes aB _=>oq op nm md num yes (iU aB)
def iU:List PZ->List (Int × aH)
 | []=>[]
 | e :: l=>(e.op,e.text) :: iU l
end
theorem PZ.Jg (fm:Bool)(e:PZ):e.right fm=(MQ fm e.op e.name e.module e.num e.yes e.aB.length && kG fm e.aB):=by cases e;rw[PZ.right];rfl
theorem PZ.pY (e:PZ):e.text=oq e.op e.name e.module e.num e.yes (iU e.aB):=by cases e;rw[PZ.text];rfl
theorem wh {fm:Bool}:∀ {l:List PZ},kG fm l=true↔∀ e∈l,e.right fm=true
 | []=>by simp[kG]
 | e :: l=>by rw[kG,uw,wh];simp
theorem qX:∀ l:List PZ,iU l=l.map λe=>(e.op,e.text)
 | []=>rfl
 | e :: l=>by rw[iU,qX l];rfl
theorem mo {l:List PZ}{i:Nat}(h:i<l.length):(iU l).getD i (0,[])=(l[i].op,l[i].text):=by
 rw[qX,Kr,List.getElem?_map,AY h];rfl
mutual
def PE.z:PE->PZ
 | .mk op nm md num _ yes aB a=>.mk op nm md num yes (Ti aB) a
def Ti:List PE->List PZ
 | []=>[]
 | e :: l=>e.z :: Ti l
end
theorem KF:∀ l:List PE,Ti l=l.map PE.z
 | []=>rfl
 | e :: l=>by rw[Ti,KF l];rfl
theorem su {e:Nat}(he:e≠0)(h:(iA ah e st).fE=0):False:=nM he st h
theorem je (hE:iQ ah)(h:(aJ ah l st).2.fE=0) :
  fH st [.leaf] (aJ ah l st).2/\(aJ ah l st).1=((st.aj.length:Nat):Int)/\aP ah st.used∈l/\st.used+1<ah.length/\st.fE=0:=by
 unfold aJ at h |-
 split at h
 ·rename_i hc
  rw[bR hc];obtain⟨_,e2⟩:=j5 hE (bM hc.2);obtain⟨h1,h2⟩:=fH.leaf (ah:=ah) (st:=st) (by omega);refine⟨h1,h2,?_,e2,hc.1⟩;have:=hc.2;simp only[bF,uw,AZ] at this;exact this.2
 ·exact(su (by decide) h).elim
theorem zX (hE:iQ ah){k:Nat}(hk:k≠5)(h:(bC ah k st).2.fE=0) :
  fH st [.leaf] (bC ah k st).2/\(bC ah k st).1=((st.aj.length:Nat):Int)/\gW ah st.used=k/\st.used+1<ah.length/\st.fE=0:=by
 unfold bC at h |-
 split at h
 ·rename_i hc
  rw[bR hc];have e2:=hE.before (u:=st.used) (by rw[hc.2];exact hk);obtain⟨h1,h2⟩:=fH.leaf (ah:=ah) (st:=st) (by omega);exact⟨h1,h2,hc.2,e2,hc.1⟩
 ·exact(su (by decide) h).elim
theorem iX (h:bF ah st l=true):aP ah st.used∈l:=by
 simp only[bF,uw,AZ] at h;exact h.2
theorem jA (hE:iQ ah)(h:gW ah st.used≠5) :
  fH st [.leaf] (aF ah st).2/\(aF ah st).1=((st.aj.length:Nat):Int)/\st.used+1<ah.length:=by
 have e2:=hE.before h;obtain⟨h1,h2⟩:=fH.leaf (ah:=ah) (st:=st) (by omega);exact⟨h1,h2,e2⟩
theorem zY (h:(bg ah d n st).fE=0):bg ah d n st=st:=by
 unfold bg at h |-
 split at h
 ·exact(su (by decide) h).elim
 ·rename_i hn;rw[aU hn]
theorem sw {l:List Int}(h:(bL k l st).2.fE=0):st.fE=0:=(aM k l st).zero h
theorem fH.res {a b:aK}{l:List PT}{k:Nat}{ids:List Int}(h:fH a l b)(adM:ids=dA a.aj.length l)(he:e.pt=.node k l)(hok:e.ok ah a.aC a.used)(hf:(bL k ids b).2.fE=0)(hu:a.used<ah.length->b.used<ah.length) :
  Xf ah a (bL k ids b) e:=by
 subst adM;obtain⟨h1,h2⟩:=h.node (sw hf) k;refine⟨by rw[he];exact h1,by rw[h2,he,PT.nd];omega,hok,λq=>?_⟩;have:=h1.used;rw[this];have h3:=h.used;have h4:=hu q;rw[h3] at h4
 simpa [bU,PT.lv] using h4
theorem tC (b:Nat)(t:PT)(l:List PT):dA b (t :: l)=(((b+t.nd:Nat):Int) - 1) :: dA (b+t.nd) l:=by rw[dA]
def ahs (ah:List Tok):Task->aK->Int × aK->Prop
 | .loop _ _ a,st,r=>∀ st0 e0,Xf ah st0 (a,st) e0->∃ e,Xf ah st0 r e
 | .name _,st,r=>gW ah st.used=1->∃ e,Xf ah st r e
 | _,st,r=>∃ e,Xf ah st r e
theorem UO:∀ l:Nat,∀ x∈Bg l,x∈sP
 | 0=>by decide
 | 1=>by decide
 | 2=>by decide
 | 3=>by decide
 | _+4=>by
  intro x hx
  have:∀ x∈([[42],[47],[37]]:List aH),x∈sP:=by decide
  exact this x hx
theorem yw (ah:List Tok)(hE:iQ ah)(one:aK->Option (Int × aK))(h1:∀ s k,one s=some k->dR s k.2)(h2:∀ s k,one s=some k->k.2.fE=0->∃ e,Xf ah s k e) :
  ∀ (r:Nat) (aB:List Int) (st:aK) (l:List Int × aK),bE ah one r aB st=some l->l.2.fE=0 ->
   ∃ es:List CE,es≠[]/\es.length<=r/\fH st (fI es) l.2/\l.1=aB++dA st.aj.length (fI es)/\qp ah st.aC st.used es/\(st.used<ah.length->l.2.used<ah.length)
 | 0,aB,st,l,h,hl=>by
  rw[bE] at h
  injection h with h
  subst h
  exfalso
  have hl:(if st.fE=0 then iA ah 15 st else st).fE=0:=hl
  split at hl
  ·exact su (by decide) hl
  ·rename_i hf;exact hf hl
 | r+1,aB,st,l,h,hl=>by
  rw[bE] at h
  split at h
  ·rename_i hf
   injection h with h;subst h
   exact absurd hl hf
  ·obtain⟨k,hk,h⟩:=cZ h
   split at h
   ·rename_i hn
    obtain⟨g1,i1,u1⟩:=jA hE (bM hn.2);obtain⟨e,he1,he2,he3,he4⟩:=h2 _ _ hk hn.1;obtain⟨es,hne,hlen,hg,hi,hok,hu⟩:=yw ah hE one h1 h2 r _ _ _ h hl
    obtain⟨f,es,rfl⟩:∃ f fs,es=f :: fs:=by cases es with
     | nil=>exact absurd rfl hne
     | cons f fs=>exact⟨f,fs,rfl⟩
    have a1:=he1.len;have a2:=he1.used;have a3:=he1.aC;have b1:=g1.len;have b2:=g1.used;have b3:=g1.aC;simp only[eZ,bU,PT.nd,PT.lv,nZ] at a1 a2 b1 b2;refine⟨e :: f :: es,by simp,by simpa using hlen,?_,?_,?_,λq=>hu (by have:=he4 q;omega)⟩
    ·rw[oG]
     exact(he1.append g1).append hg
    ·rw[hi,oG,tC,tC,he2,i1,b1,a1]
     simp only[PT.nd,om,pJ,uD]
     congr 2
     congr 1
     omega
    ·rw[b2,b3,a2,a3] at hok
     exact⟨he3,hok⟩
   ·injection h with h;subst h
    obtain⟨e,he1,he2,he3,he4⟩:=h2 _ _ hk hl;refine⟨[e],by simp,by simp,by rw[uJ];exact he1,?_,⟨he3,trivial⟩,he4⟩;rw[uJ,tC,he2];simp[dA]
theorem Qr (ah:List Tok)(hE:iQ ah)(one:aK->Option (Int × aK))(h1:∀ s k,one s=some k->dR s k.2)(h2:∀ s k,one s=some k->k.2.fE=0->∃ e,Xf ah s k e)
  (st:aK) (l:List Int × aK) (h:jW ah one st=some l) (hl:l.2.fE=0) :
  ∃ es:List CE,es.length<=8/\fH st (fI es) l.2/\l.1=dA st.aj.length (fI es)/\qp ah st.aC st.used es/\(st.used<ah.length->l.2.used<ah.length):=by
 unfold jW at h
 split at h
 ·injection h with h;subst h
  exact⟨[],by simp,by simpa [fI] using fH.nil st,by simp[fI,dA],trivial,id⟩
 ·obtain⟨es,_,h1,h2,h3,h4,h5⟩:=yw ah hE one h1 h2 _ _ _ _ h hl
  exact⟨es,h1,h2,by rw[h3];simp,h4,h5⟩
theorem kN (ah:List Tok)(hE:iQ ah)(d:Nat):∀ (g:Nat) (t:Task) (st:aK) (r:Int × aK),run ah d g t st=some r->r.2.fE=0->ahs ah t st r
 | 0,_,_,_,h,_=>by rw[run] at h;cases h
 | g+1,.expr aG,st,r,h,hr=>by
  have ih:=kN ah hE d g;have ex:=bA ah d g
  have hd0:(bg ah d aG st).fE=0:=by
   apply SY
   intro q;rw[run,bR q] at h
   injection h with h;subst h
   exact q hr
  rw[run,zY hd0] at h;rw[zY hd0] at hd0;rw[aU (by simp[hd0])] at h
  split at h
  ·have q:=ih _ _ _ h hr;exact q
  rename_i hcl
  have hcl:st.aC=false:=by simpa using hcl
  split at h
  ·rename_i hn
   obtain⟨x,h1,h⟩:=cZ h;obtain⟨f,h2,h⟩:=cZ h
   injection h with h;subst h
   have z2:=(aM _ _ _).zero hr;have z1:=(ex _ _ _ h2).zero z2;have z0:=(aN _ _ _).zero z1;obtain⟨g1,i1,u1⟩:=jA hE (bM hn);obtain⟨g2,i2,k2,u2,y2⟩:=zX hE (by decide) ((aN _ _ _).zero ((ex _ _ _ h1).zero z0));obtain⟨g3,i3,k3,u3,y3⟩:=je hE ((ex _ _ _ h1).zero z0);obtain⟨e1,g4,i4,o4,w4⟩:=ih _ _ _ h1 z0;obtain⟨g5,i5,k5,u5,y5⟩:=je hE z1;obtain⟨e2,g6,i6,o6,w6⟩:=ih _ _ _ h2 z2;have G:=((((g1.append g2).append g3).append g4).append g5).append g6;generalize aJ ah [Xe] x.2=m5 at *;generalize aJ ah [[61]] (bC ah 1 (aF ah st).2).2=m3 at *;generalize bC ah 1 (aF ah st).2=m2 at *;generalize aF ah st=m1 at *;have L1:=g1.len;have L2:=g2.len;have L3:=g3.len;have L4:=g4.len;have L5:=g5.len;have U1:=g1.used;have U2:=g2.used;have U3:=g3.used;have U4:=g4.used;have U5:=g5.used;have C1:=g1.aC;have C2:=g2.aC;have C3:=g3.aC;have C4:=g4.aC;have C5:=g5.aC;simp only[eZ,bU,PT.nd,PT.lv,nZ] at L1 L2 L3 L4 L5 U1 U2 U3 U4 U5;refine⟨.vO e1 e2,G.res (l:=[.leaf,.leaf,.leaf,e1.pt,.leaf,e2.pt]) ?_ (by simp[CE.pt]) ?_ hr (λ_=>w6 (by omega))⟩
   ·have p1:=e1.pt.iF
    have p2:=e2.pt.iF;simp only[dA,PT.nd,List.cons.injEq,and_true]
    refine⟨?_,?_,?_,?_,?_,?_⟩<;>omega
   ·refine⟨hcl,by rw[<- U1];exact k2,?_,?_⟩
    ·rw[C3,C2,C1,U3,U2,U1] at o4;exact o4
    ·rw[C5,C4,C3,C2,C1,U5,U4,U3,U2,U1] at o6;exact o6
  split at h
  ·rename_i hn
   obtain⟨x,h1,h⟩:=cZ h;obtain⟨y,h2,h⟩:=cZ h;obtain⟨f,h3,h⟩:=cZ h
   injection h with h;subst h
   have z3:=(aM _ _ _).zero hr;have z2:=(ex _ _ _ h3).zero z3;have z2':=(aN _ _ _).zero z2;have z1:=(ex _ _ _ h2).zero z2';have z0:=(aN _ _ _).zero z1;obtain⟨g1,i1,u1⟩:=jA hE (bM hn);obtain⟨e1,g2,i2,o2,w2⟩:=ih _ _ _ h1 z0;obtain⟨g3,i3,k3,u3,y3⟩:=je hE z1;obtain⟨e2,g4,i4,o4,w4⟩:=ih _ _ _ h2 z2';obtain⟨g5,i5,k5,u5,y5⟩:=je hE z2;obtain⟨e3,g6,i6,o6,w6⟩:=ih _ _ _ h3 z3;have G:=((((g1.append g2).append g3).append g4).append g5).append g6;generalize aJ ah [I8] y.2=m5 at *;generalize aJ ah [I7] x.2=m3 at *;generalize aF ah st=m1 at *;have L1:=g1.len;have L2:=g2.len;have L3:=g3.len;have L4:=g4.len;have L5:=g5.len;have U1:=g1.used;have U2:=g2.used;have U3:=g3.used;have U4:=g4.used;have U5:=g5.used;have C1:=g1.aC;have C2:=g2.aC;have C3:=g3.aC;have C4:=g4.aC;have C5:=g5.aC;simp only[eZ,bU,PT.nd,PT.lv,nZ] at L1 L2 L3 L4 L5 U1 U2 U3 U4 U5;refine⟨.iff e1 e2 e3,G.res (l:=[.leaf,e1.pt,.leaf,e2.pt,.leaf,e3.pt]) ?_ (by simp[CE.pt]) ?_ hr (λ_=>w6 (by omega))⟩
   ·have p1:=e1.pt.iF
    have p2:=e2.pt.iF;have p3:=e3.pt.iF;simp only[dA,PT.nd,List.cons.injEq,and_true]
    refine⟨?_,?_,?_,?_,?_,?_⟩<;>omega
   ·refine⟨hcl,?_,?_,?_⟩
    ·rw[C1,U1] at o2;exact o2
    ·rw[C3,C2,C1,U3,U2,U1] at o4;exact o4
    ·rw[C5,C4,C3,C2,C1,U5,U4,U3,U2,U1] at o6;exact o6
  split at h
  ·rename_i hn
   obtain⟨x,h1,h⟩:=cZ h;obtain⟨f,h2,h⟩:=cZ h
   injection h with h;subst h
   have z2:=(aM _ _ _).zero hr;have z1:=(ex _ _ _ h2).zero z2;have z0:=(aN _ _ _).zero z1;obtain⟨g1,i1,u1⟩:=jA hE (bM hn);obtain⟨e1,g2,i2,o2,w2⟩:=ih _ _ _ h1 z0;obtain⟨g3,i3,k3,u3,y3⟩:=je hE z1;obtain⟨e2,g4,i4,o4,w4⟩:=ih _ _ _ h2 z2;have G:=((g1.append g2).append g3).append g4;generalize aJ ah [Xe] x.2=m3 at *;generalize aF ah st=m1 at *;have L1:=g1.len;have L2:=g2.len;have L3:=g3.len;have U1:=g1.used;have U2:=g2.used;have U3:=g3.used;have C1:=g1.aC;have C2:=g2.aC;have C3:=g3.aC;simp only[eZ,bU,PT.nd,PT.lv,nZ] at L1 L2 L3 U1 U2 U3;refine⟨.vP e1 e2,G.res (l:=[.leaf,e1.pt,.leaf,e2.pt]) ?_ (by simp[CE.pt]) ?_ hr (λ_=>w4 (by omega))⟩
   ·have p1:=e1.pt.iF
    have p2:=e2.pt.iF;simp only[dA,PT.nd,List.cons.injEq,and_true]
    refine⟨?_,?_,?_,?_⟩<;>omega
   ·refine⟨hcl,?_,?_⟩
    ·rw[C1,U1] at o2;exact o2
    ·rw[C3,C2,C1,U3,U2,U1] at o4;exact o4
  ·have q:=ih _ _ _ h hr;exact q
 | g+1,.formula aG,st,r,h,hr=>by
  have ih:=kN ah hE d g;have ex:=bA ah d g;rw[run] at h;obtain⟨a,h1,h⟩:=cZ h
  split at h
  ·rename_i hn
   have hd0:(bg ah d (aG+1) (aF ah a.2).2).fE=0:=by
    apply SY
    intro q;rw[bR q] at h
    injection h with h;subst h
    exact q hr
   rw[aU (by simp[hd0]),zY hd0] at h;obtain⟨b,h2,h⟩:=cZ h
   injection h with h;subst h
   have z2:=(aM _ _ _).zero hr;obtain⟨e1,g1,i1,o1,w1⟩:=ih _ _ _ h1 hn.1;obtain⟨g2,i2,u2⟩:=jA hE (bM hn.2);have hx:=iX hn.2;obtain⟨e2,g3,i3,o3,w3⟩:=ih _ _ _ h2 z2;have G:=(g1.append g2).append g3;generalize aF ah a.2=m2 at *;have L1:=g1.len;have L2:=g2.len;have U1:=g1.used;have U2:=g2.used;have C1:=g1.aC;have C2:=g2.aC;simp only[eZ,bU,PT.nd,PT.lv,nZ] at L1 L2 U1 U2;refine⟨.bin e1 e2,G.res (l:=[e1.pt,.leaf,e2.pt]) ?_ (by simp[CE.pt]) ?_ hr (λ_=>w3 (by omega))⟩
   ·have p1:=e1.pt.iF
    have p2:=e2.pt.iF;simp only[dA,PT.nd,List.cons.injEq,and_true]
    refine⟨?_,?_,?_⟩<;>omega
   ·refine⟨?_,o1,?_⟩
    ·rw[<- U1]
     simp only[Ia] at hx;rw[hx]
     decide
    ·rw[C2,C1,U2,U1] at o3;exact o3
  ·injection h with h;subst h
   have q:=ih _ _ _ h1 hr;exact q
 | g+1,.part l aG,st,r,h,hr=>by
  have ih:=kN ah hE d g;rw[run] at h
  split at h
  ·have q:=ih _ _ _ h hr;exact q
  ·split at h
   ·have q:=ih _ _ _ h hr;exact q
   ·have q:=ih _ _ _ h hr;exact q
 | g+1,.row l aG,st,r,h,hr=>by
  have ih:=kN ah hE d g;have ex:=bA ah d g;rw[run] at h;obtain⟨a,h1,h⟩:=cZ h;obtain⟨e1,he⟩:=ih _ _ _ h1 ((ex _ _ _ h).zero hr);exact ih _ _ _ h hr st e1 he
 | g+1,.loop l aG a,st,r,h,hr=>by
  have ih:=kN ah hE d g;have ex:=bA ah d g;intro st0 e0 h0;rw[run] at h
  split at h
  ·rename_i hn
   obtain⟨b,h1,h⟩:=cZ h
   have z:(bL 10 [a,(aF ah st).1,b.1] b.2).2.fE=0:=by
    split at h
    ·injection h with h;subst h;exact hr
    ·exact(ex _ _ _ h).zero hr
   obtain⟨g2,i2,u2⟩:=jA hE (bM hn.2);have hx:=iX hn.2;obtain⟨g1,i1,o1,w1⟩:=h0;obtain⟨e2,g3,i3,o3,w3⟩:=ih _ _ _ h1 ((aM _ _ _).zero z);have G:=(g1.append g2).append g3;generalize aF ah st=m2 at *;simp only at g1 i1;have L1:=g1.len;have L2:=g2.len;have U1:=g1.used;have U2:=g2.used;have C1:=g1.aC;have C2:=g2.aC;simp only[eZ,bU,PT.nd,PT.lv,nZ] at L1 L2 U1 U2
   have hR:Xf ah st0 (bL 10 [a,m2.1,b.1] b.2) (.bin e0 e2):=by
    refine G.res (l:=[e0.pt,.leaf,e2.pt]) ?_ (by simp[CE.pt]) ?_ z (λ_=>w3 (by omega))
    ·have p1:=e0.pt.iF
     have p2:=e2.pt.iF;simp only[dA,PT.nd,List.cons.injEq,and_true]
     refine⟨?_,?_,?_⟩<;>omega
    ·refine⟨?_,o1,?_⟩
     ·rw[<- U1]
      exact UO l _ hx
     ·rw[C2,C1,U2,U1] at o3;exact o3
   split at h
   ·injection h with h;subst h;exact⟨_,hR⟩
   ·exact ih _ _ _ h hr st0 _ hR
  ·injection h with h;subst h
   exact⟨e0,h0⟩
 | g+1,.neg aG,st,r,h,hr=>by
  have ih:=kN ah hE d g;rw[run] at h
  split at h
  ·rename_i hn
   have hd0:(bg ah d (aG+1) (aF ah st).2).fE=0:=by
    apply SY
    intro q;rw[bR q] at h
    injection h with h;subst h
    exact q hr
   rw[aU (by simp[hd0]),zY hd0] at h;obtain⟨b,h2,h⟩:=cZ h
   injection h with h;subst h
   obtain⟨g2,i2,u2⟩:=jA hE (bM hn.2);have hx:=iX hn.2;obtain⟨e2,g3,i3,o3,w3⟩:=ih _ _ _ h2 ((aM _ _ _).zero hr);have G:=g2.append g3;generalize aF ah st=m2 at *;have L2:=g2.len;have U2:=g2.used;have C2:=g2.aC;simp only[eZ,bU,PT.nd,PT.lv,nZ] at L2 U2;refine⟨.un e2,G.res (l:=[.leaf,e2.pt]) ?_ (by simp[CE.pt]) ?_ hr (λ_=>w3 (by omega))⟩
   ·have p2:=e2.pt.iF
    simp only[dA,PT.nd,List.cons.injEq,and_true]
    refine⟨?_,?_⟩<;>omega
   ·refine⟨.inl (by simpa using hx),?_⟩
    rw[C2,U2] at o3;exact o3
  ·have q:=ih _ _ _ h hr;exact q
 | g+1,.factor aG,st,r,h,hr=>by
  have ih:=kN ah hE d g;rw[run] at h
  split at h
  ·rename_i hn
   have hd0:(bg ah d (aG+1) (aF ah st).2).fE=0:=by
    apply SY
    intro q;rw[bR q] at h
    injection h with h;subst h
    exact q hr
   rw[aU (by simp[hd0]),zY hd0] at h;obtain⟨b,h2,h⟩:=cZ h
   injection h with h;subst h
   obtain⟨g2,i2,u2⟩:=jA hE (bM hn.2);have hx:=iX hn.2;obtain⟨e2,g3,i3,o3,w3⟩:=ih _ _ _ h2 ((aM _ _ _).zero hr);have G:=g2.append g3;generalize aF ah st=m2 at *;have L2:=g2.len;have U2:=g2.used;have C2:=g2.aC;simp only[eZ,bU,PT.nd,PT.lv,nZ] at L2 U2;refine⟨.un e2,G.res (l:=[.leaf,e2.pt]) ?_ (by simp[CE.pt]) ?_ hr (λ_=>w3 (by omega))⟩
   ·have p2:=e2.pt.iF
    simp only[dA,PT.nd,List.cons.injEq,and_true]
    refine⟨?_,?_⟩<;>omega
   ·refine⟨.inr (by simpa using hx),?_⟩
    rw[C2,U2] at o3;exact o3
  ·have q:=ih _ _ _ h hr;exact q
 | g+1,.atom aG,st,r,h,hr=>by
  have ih:=kN ah hE d g;have ex:=bA ah d g
  have single:∀ (k:Nat) (e:CE),gW ah st.used≠5->e.pt=.node k [.leaf]->e.ok ah st.aC st.used->(bL k [(aF ah st).1] (aF ah st).2).2.fE=0->Xf ah st (bL k [(aF ah st).1] (aF ah st).2) e:=by
   intro k e h5 he hok hz;obtain⟨g2,i2,u2⟩:=jA hE h5;have U2:=g2.used;simp only[bU,PT.lv,nZ] at U2;refine g2.res ?_ he hok hz (λ_=>by omega);rw[i2];simp only[dA,PT.nd,List.cons.injEq,and_true];omega
  rw[run] at h
  split at h
  ·rename_i hf
   injection h with h;subst h
   exact absurd hr hf
  split at h
  ·rename_i hk
   injection h with h;subst h
   exact⟨.num,single 15 .num (by rw[gW];omega) (by simp[CE.pt]) hk hr⟩
  split at h
  ·rename_i hn
   injection h with h;subst h
   refine⟨.truth,single 16 .truth (bM hn) (by simp[CE.pt]) ?_ hr⟩;have:=iX hn
   simpa [CE.ok] using this
  split at h
  ·rename_i hn
   injection h with h;subst h
   refine⟨.res,single 17 .res (bM hn.2) (by simp[CE.pt]) ?_ hr⟩;have:=iX hn.2;exact⟨hn.1,by simpa using this⟩
  split at h
  ·rename_i hn
   obtain⟨b,h1,h⟩:=cZ h
   injection h with h;subst h
   have z1:=(aM _ _ _).zero hr;obtain⟨g1,i1,u1⟩:=jA hE (bM hn);have hx:=iX hn;obtain⟨e2,g2,i2,o2,w2⟩:=ih _ _ _ h1 ((aN _ _ _).zero z1);obtain⟨g3,i3,k3,u3,y3⟩:=je hE z1;have G:=(g1.append g2).append g3;generalize aJ ah [[41]] b.2=m3 at *;generalize aF ah st=m1 at *;have L1:=g1.len;have L2:=g2.len;have U1:=g1.used;have U2:=g2.used;have U3:=g3.used;have C1:=g1.aC;simp only[eZ,bU,PT.nd,PT.lv,nZ] at L1 L2 U1 U2 U3;refine⟨.group e2,G.res (l:=[.leaf,e2.pt,.leaf]) ?_ (by simp[CE.pt]) ?_ hr (λ_=>by omega)⟩
   ·have p2:=e2.pt.iF
    simp only[dA,PT.nd,List.cons.injEq,and_true]
    refine⟨?_,?_,?_⟩<;>omega
   ·refine⟨by simpa using hx,?_⟩
    rw[C1,U1] at o2;exact o2
  split at h
  ·rename_i hk
   have q:=ih _ _ _ h hr;exact q hk
  ·injection h with h;subst h
   exact(su (by decide) hr).elim
 | g+1,.name aG,st,r,h,hr=>by
  have ih:=kN ah hE d g;have ex:=bA ah d g;rw[run] at h;intro hk1
  ·obtain⟨g1,i1,u1⟩:=jA hE (st:=st) (by omega)
   have L1:=g1.len;have U1:=g1.used;have C1:=g1.aC;simp only[eZ,bU,PT.nd,PT.lv,nZ] at L1 U1;generalize aF ah st=m1 at *
   split at h
   ·injection h with h;subst h
    refine⟨.Cz,g1.res (l:=[.leaf]) ?_ (by simp[CE.pt]) hk1 hr (λ_=>by omega)⟩;rw[i1];simp only[dA,PT.nd,List.cons.injEq,and_true];omega
   ·rename_i hn
    have hcl:st.aC=false:=by
     rw[<- C1,<- vM]
     exact λq=>hn (.inl q)
    obtain⟨l,h1,h⟩:=cZ h
    injection h with h;subst h
    have z3:=(aM _ _ _).zero hr;have z2:=(aN _ _ _).zero z3
    have hone:∀ s k,run ah d g (.expr (aG+1)) s=some k->k.2.fE=0->∃ e,Xf ah s k e:=λs k hk hz=>ih _ _ _ hk hz
    obtain⟨es,hlen,g4,i4,o4,w4⟩:=Qr ah hE _ (λs k hk=>ex _ _ _ hk) hone _ _ h1 z2;obtain⟨g5,i5,k5,u5,y5⟩:=je hE z3;have z1:=(mP ah _ (λs k hk=>ex _ _ _ hk) _ _ h1).zero z2;obtain⟨g3,i3,k3,u3,y3⟩:=je hE z1;generalize aJ ah [[41]] l.2=m5 at *;generalize hq:oo ah m1=q at *;generalize aJ ah [[40]] q.2=m3 at *;have L3:=g3.len;have L4:=g4.len;have U3:=g3.used;have U4:=g4.used;have U5:=g5.used;have C3:=g3.aC;simp only[eZ,bU,PT.nd,PT.lv,nZ] at L3 U3 U5;unfold oo at hq
    split at hq
    ·rename_i afD
     subst hq;have hx:=iX afD;obtain⟨p1,j1,v1⟩:=jA hE (st:=m1.2) (bM afD);obtain⟨p2,j2,kk2,v2,yy2⟩:=zX hE (k:=1) (by decide) y3;simp only at g3 i3 k3 u3 L3 U3 C3;generalize bC ah 1 (aF ah m1.2).2=n2 at *;generalize aF ah m1.2=n1 at *;have M1:=p1.len;have M2:=p2.len;have V1:=p1.used;have V2:=p2.used;have D1:=p1.aC;have D2:=p2.aC;simp only[eZ,bU,PT.nd,PT.lv,nZ] at M1 M2 V1 V2;have G:=((((g1.append p1).append p2).append g3).append g4).append g5;refine⟨.call true es,G.res (l:=[.leaf,.leaf,.leaf]++[.leaf]++fI es++[.leaf]) ?_ (by simp[CE.pt]) ?_ hr (λ_=>by omega)⟩
     ·simp only[pW,i4,i1,i3,i5,j1,j2,oF]
      simp only[dA,eZ,PT.nd,pJ,uD,nZ];rw[L4,L3,M2,M1,L1]
      have e0:∀ a b:Nat,a=b->dA a (fI es)=dA b (fI es):=λa b h=>by rw[h]
      rw[e0 (st.aj.length+1+1+1+1) (st.aj.length+(1+(1+1)+1)) (by omega)];simp only[List.cons.injEq,List.append_cancel_left_eq,and_true]
      refine⟨?_,?_,?_,?_,?_⟩<;>omega
     ·refine⟨hcl,hk1,hlen,?_⟩
      rw[C3,D2,D1,C1,U3,V2,V1,U1] at o4;rw[V1,U1] at kk2;rw[U1] at hx;exact⟨by simpa using hx,kk2,o4⟩
    ·subst hq
     simp only at g3 i3 k3 u3 L3 U3 C3;have G:=((g1.append g3).append g4).append g5;refine⟨.call false es,G.res (l:=[.leaf]++[.leaf]++fI es++[.leaf]) ?_ (by simp[CE.pt]) ?_ hr (λ_=>by omega)⟩
     ·simp only[pW,i4,i1,i3,i5,oF]
      simp only[dA,eZ,PT.nd,pJ,uD,nZ];rw[L4,L3,L1]
      have e0:∀ a b:Nat,a=b->dA a (fI es)=dA b (fI es):=λa b h=>by rw[h]
      rw[e0 (st.aj.length+1+1) (st.aj.length+(1+1)) (by omega)];simp only[List.cons.injEq,List.append_cancel_left_eq,and_true]
      refine⟨?_,?_,?_⟩<;>omega
     ·refine⟨hcl,hk1,hlen,?_⟩
      rw[C3,C1,U3,U1] at o4;rw[U1] at k3;exact⟨by simpa using k3,o4⟩
open Go.RowKit
variable{w w':World}{B used bb:Nat}{v tv:Value}{R:List Nat}
theorem Tryz.MR:(Tryz.prog.info? 156).map (λi=>(i.zero,i.size,i.bytes))=some (some (.agg #[.int .i64 0,.int .i64 0,.slice none 0 0]),3,40):=by kernel_rfl
def eO (w:World)(v:Value)(ks:List Int):Prop :=
 ∃ ao cap,v=.slice ao ks.length cap/\ks.length<=cap /\
  (0<ks.length->∃ (b off:Nat) (cs:Array Value) (fr:Nat × Nat),ao=some ⟨b,off,none⟩/\w.heap[b]?=some (.cells cs 3 fr)/\∀ j,(h:j<ks.length)->cs[off+j]?=some (.int .i64 ks[j]))
def Kp (B:Nat)(w w':World):Prop :=
 Below B w w'/\∀ (k:Nat) (cs:Array Value) (T:TypeId) (fr:Nat × Nat),w.heap[k]?=some (.cells cs T fr)->T≠208->T≠262->T≠156->w'.heap[k]?=some (.cells cs T fr)
theorem Kp.refl (B:Nat)(w:World):Kp B w w:=⟨bQ _ _,λ_ _ _ _ h _ _ _=>h⟩
theorem Kp.trans {B:Nat}{a b c:World}(h:Kp B a b)(k:Kp B b c):Kp B a c:=⟨h.1.trans k.1,λn cs T fr h0 h1 h2 h3=>k.2 n cs T fr (h.2 n cs T fr h0 h1 h2 h3) h1 h2 h3⟩
theorem Kp.size {B:Nat}{w w':World}(h:Kp B w w'):w.heap.size<=w'.heap.size:=h.1.size
theorem Kp.of (h:Below w.heap.size w w')(hB:B<=w.heap.size):Kp B w w' :=
 ⟨h.mono hB,λk cs T fr h0 _ _ _=>by rw[h.block k (bP h0).1];exact h0⟩
def Kb (B:Nat)(w w':World):Prop :=
 Below B w w'/\∀ (k:Nat) (cs:Array Value) (T:TypeId) (fr:Nat × Nat),w.heap[k]?=some (.cells cs T fr)->T≠262->T≠156->w'.heap[k]?=some (.cells cs T fr)
theorem Kb.kp (h:Kb B w w'):Kp B w w':=⟨h.1,λk cs T fr h0 _ h2 h3=>h.2 k cs T fr h0 h2 h3⟩
theorem Kb.trans {B:Nat}{a b c:World}(h:Kb B a b)(k:Kb B b c):Kb B a c:=⟨h.1.trans k.1,λn cs T fr h0 h1 h2=>k.2 n cs T fr (h.2 n cs T fr h0 h1 h2) h1 h2⟩
theorem Kb.of (h:Below w.heap.size w w')(hB:B<=w.heap.size):Kb B w w' :=
 ⟨h.mono hB,λk cs T fr h0 _ _=>by rw[h.block k (bP h0).1];exact h0⟩
theorem eO.kept {ks:List Int}(h:eO w v ks)(hk:Kp B w w'):eO w' v ks:=by
 obtain⟨ao,cap,hv,hc,hf⟩:=h;refine⟨ao,cap,hv,hc,λh0=>?_⟩;obtain⟨b,off,cs,fr,ha,hb,hj⟩:=hf h0;exact⟨b,off,cs,fr,ha,hk.2 b cs _ fr hb (by decide) (by decide) (by decide),hj⟩
def afE (R:List Nat)(v:Value):Prop:=∀ b off n cap,v=.slice (some ⟨b,off,none⟩) n cap->0<n->b ∉ R
def qY (R:List Nat)(w:World)(v:Value)(ks:List Int):Prop:=eO w v ks/\afE R v
theorem qY.kept {R:List Nat}{B:Nat}{w w':World}{v:Value}{ks:List Int}(h:qY R w v ks)(hk:Kp B w w'):qY R w' v ks:=⟨h.1.kept hk,h.2⟩
theorem iO {base e sz n:Nat}{xs:List Value}(h:w.ownsRow base e sz v n xs){a:Addr}(hne:some a.block≠v.ownBlock)(u:Value):(w.setCell a u).ownsRow base e sz v n xs:=by
 refine⟨h.1,?_⟩
 rcases h.2 with hn|⟨g,cap,cur,hv,hg,hh,hr⟩
 ·exact .inl hn
 ·refine .inr ⟨g,cap,cur,hv,hg,?_,hr⟩
  rw[qm]
  ·exact hh
  ·intro q
   exact hne (by rw[<- q,hv];rfl)
def xE (p:Nd × Value):List Value:=[.int .i64 p.1.kind,.int .i64 p.1.tok,p.2]
theorem MS (p:Nd × Value):(xE p).length=3:=rfl
def BW (R:List Nat)(B bb:Nat)(tv:Value)(used:Nat)(aj:List Nd)(w:World):Prop :=
 B<=bb/\∃ (nv:Value) (l:List (Nd × Value)),w.heap[bb]?=some (.cells #[tv,nv,.int .i64 used] 262 (0,0))/\l.map Prod.fst=aj /\
  w.ownsRow B 156 3 nv aj.length (l.flatMap xE)/\∀ p∈l,qY R w p.2 p.1.aB
structure bG where
 R:List Nat
 B:Nat
 pb:Nat
 bb:Nat
 tv:Value
 ah:List Tok
 depth:Nat
def PW (E:bG)(st:aK)(w:World):Prop :=
 w.heap[E.pb]?=some (.cells #[.pointer (some ⟨E.bb,0,none⟩),.int .i64 E.depth,.bool st.aC,.int .i64 st.fE,.int .i64 st.fAt] 208 (0,0)) /\
  BW E.R E.B E.bb E.tv st.used st.aj w/\Rec E.B w E.tv 4 dP E.ah/\E.B<=E.pb/\st.used<=E.ah.length/\∀ r∈E.R,r<w.heap.size
theorem BW.later (h:BW R B bb tv used aj w)(hb:Below w.heap.size w w'):BW R B bb tv used aj w':=by
 obtain⟨h1,nv,l,h2,h3,h4,h5⟩:=h;refine⟨h1,nv,l,?_,h3,own_below h4 hb,λp hp=>(h5 p hp).kept (Kp.of hb (bD _))⟩;rw[hb.block bb (bP h2).1];exact h2
theorem PW.later {E:bG}{st:aK}{w w':World}(h:PW E st w)(hb:Below w.heap.size w w'):PW E st w':=by
 obtain⟨h1,h2,h3,h4,h5⟩:=h;refine⟨?_,h2.later hb,?_,h4,h5.1,λr hr=>xw (h5.2 r hr) hb.size⟩
 ·rw[hb.block E.pb (bP h1).1];exact h1
 ·have hlt:=(bP h1).1
  exact h3.below (hb.mono (by omega))
theorem PW.lt {E:bG}(h:PW E st w):E.pb<w.heap.size:=(bP h.1).1
theorem PW.fA {E:bG}(h:PW E st w):E.B<=w.heap.size:=by have:=h.lt;have:=h.2.2.2.1;omega
theorem BW.lt (h:BW R B bb tv used aj w):bb<w.heap.size:=by
 obtain⟨_,nv,l,h2,_⟩:=h;exact(bP h2).1
def XR (R:List Nat)(B bb:Nat)(tv:Value)(r:Int)(used:Nat)(aj:List Nd)(w:World)(e:Ending)(w':World):Prop :=
 e=.returned (.int .i64 r)/\BW R B bb tv used aj w'/\Kb B w w'
theorem MU (tv:Value)(ao:Option Addr)(n cap:Nat)(w:World)(hn:n<=1099511627776) :
  Calls Tryz.prog 67 #[.agg #[tv,.slice ao n cap]] w λe w'=>e=.returned (.int .i64 ((n:Int) - 1))/\Below w.heap.size w w':=by
 go_enter Tryz.func67,Tryz.ntmps67;go_wp2;go_ret;exact⟨rfl,(bQ _ _).alloc (bD _) _⟩
theorem Tj (R:List Nat)(B bb:Nat)(tv:Value)(used:Nat)(aj:List Nd)(kind tok:Int)(kv:Value)(ks:List Int)(w:World)(hb:BW R B bb tv used aj w)(hk:qY R w kv ks)(hn:aj.length+1<=1099511627776) :
  Calls Tryz.prog 210 #[.pointer (some ⟨bb,0,none⟩),.agg #[.int .i64 kind,.int .i64 tok,kv]] w (XR R B bb tv (aj.length:Nat) used (aj++[⟨kind,tok,ks⟩]) w):=by
 obtain⟨i0,hi,hz0,hz1,hz2⟩:=info_parts Tryz.MR;obtain⟨h1,nv,l,h2,h3,h4,h5⟩:=hb;have hlt:=(bP h2).1;have HI:=ay hk;obtain⟨aok,aht,rfl,_,_⟩:=hk.1;generalize hkv:Value.slice aok ks.length aht=kv at HI
 have hone:kv.oneCell'=true:=by rw[<- hkv];rfl
 clear hkv
 obtain⟨ao,cap,rfl,_⟩:∃ ao cap,nv=.slice ao aj.length cap/\True:=by
  rcases h4.2 with ⟨hv,hn0⟩|⟨g,cap,cur,hv,_⟩
  ·exact⟨none,0,by rw[hv,hn0],trivial⟩
  ·exact⟨_,cap,hv,trivial⟩
 have c0:w.cell? ⟨bb,0,none⟩=some tv:=by rw[aZ h2];rfl
 have c1:w.cell? ⟨bb,1,none⟩=some (.slice ao aj.length cap):=by rw[aZ h2];rfl
 have hal:=(bQ w.heap.size w).alloc (bD _) (.cells #[.int .i64 kind,.int .i64 tok,kv] 156);have d0:=jo hal c0;have d1:=jo hal c1
 have hz:(w.alloc (.cells #[.int .i64 kind,.int .i64 tok,kv] 156)).frozen? ⟨bb,1,none⟩=false:=by
  simp[World.frozen?,(gZ w _ bb hlt).trans h2]
 go_enter Tryz.func210,Tryz.ntmps210;go_wp2;have nq:=aX w (.cells #[.int .i64 kind,.int .i64 tok,kv] 156)
 have e0:(w.alloc (.cells #[.int .i64 kind,.int .i64 tok,kv] 156)).cell? ⟨w.heap.size,0,none⟩=some (.int .i64 kind):=by rw[aZ nq];rfl
 have e1:(w.alloc (.cells #[.int .i64 kind,.int .i64 tok,kv] 156)).cell? ⟨w.heap.size,1,none⟩=some (.int .i64 tok):=by rw[aZ nq];rfl
 have e2:(w.alloc (.cells #[.int .i64 kind,.int .i64 tok,kv] 156)).cell? ⟨w.heap.size,2,none⟩=some kv:=by rw[aZ nq];rfl
 have hown:=h4.alloc (.cells #[.int .i64 kind,.int .i64 tok,kv] 156);have hbb:=(gZ w (.cells #[.int .i64 kind,.int .i64 tok,kv] 156) bb hlt).trans h2;have hne:=own_ne hown hbb (by decide)
 have hzq:(w.alloc (.cells #[.int .i64 kind,.int .i64 tok,kv] 156)).heap.size=w.heap.size+1:=by simp
 have hBw:B<=w.heap.size:=by omega
 generalize w.alloc (.cells #[.int .i64 kind,.int .i64 tok,kv] 156)=wq at e0 e1 e2 hown hbb hne hzq hal d0 d1 hz |-
 have afF:B<=wq.heap.size:=by omega
 have UQ:bb<wq.heap.size:=by omega
 have hzz:∀ o,(wq.alloc o).drew.frozen? ⟨bb,1,none⟩=false:=λo=>by
  have:(wq.alloc o).drew.heap[bb]?=some (.cells #[tv,.slice ao aj.length cap,.int .i64 used] 262 (0,0)):=(gZ wq o bb UQ).trans hbb;simp[World.frozen?,this]
 have hzg:w.heap.size<wq.heap.size:=by omega
 have hne2:some w.heap.size≠(Value.slice ao aj.length cap).ownBlock:=λq=>by have:=(h4.lt w.heap.size q.symm).2;omega
 have EM:Hid (∀ u∈[Value.int .i64 kind,.int .i64 tok,kv],u.oneCell'=true):=ay (by
  intro u hu;simp only[nY,List.not_mem_nil,or_false] at hu
  rcases hu with rfl|rfl|rfl
  ·rfl
  ·rfl
  ·exact hone)
 have hcc:∀ o,(wq.alloc o).drew.cell? ⟨bb,1,none⟩=some (.slice ao aj.length cap):=λo=>by
  have:(wq.alloc o).drew.heap[bb]?=some (.cells #[tv,.slice ao aj.length cap,.int .i64 used] 262 (0,0)):=(gZ wq o bb UQ).trans hbb;rw[aZ this];rfl
 clear nq c0 c1 hzq
 go_region_law ((refine step_append_lies _ (by rfl) _ _ _ (by rfl) B 156 i0 _ 3 40 Tryz.underlying91 hi hz0 hz1 hz2 rfl (by omega) (.slice ao aj.length cap) aj.length _ (by rfl) (sW (hown.alloc _)) ⟨wq.heap.size,0,none⟩ 1 1 [.int .i64 kind,.int .i64 tok,kv] (by rfl) (by rfl) (vL (cs:=#[.int .i64 kind,.int .i64 tok,kv]) (t:=156) (fr:=(0,0)) (aX wq _)) (EM.out) (by omega) (by unfold maxLen;omega) (by omega) (by simp;omega) (wq.heap.size+1) (by simp) ?_;intro gg jO w5 gB fB uL KG;have Tk:=(fB.frozen_far ⟨bb,1,none⟩ (by simp;omega) hne).trans (hzz _);have hc5:=(fB.cell_far ⟨bb,1,none⟩ (by simp;omega) hne).trans (hcc _)))
 all_goals
  have XT:Below B w w5:=(((bQ _ _).mono hBw).trans (hal.mono hBw)).trans ((((bQ wq.heap.size wq).mono afF).alloc afF (.cells #[.int .i64 kind,.int .i64 tok,kv] 156)).drew.grown fB (by simp;omega) (λq hq=>(hown.lt q hq).1))
  have hkb:∀ (k:Nat) (cs:Array Value) (T:TypeId) (fr:Nat × Nat),w.heap[k]?=some (.cells cs T fr)->T≠156->w5.heap[k]?=some (.cells cs T fr):=λk cs T fr h0 h1=>by
   have hk:=(bP h0).1
   have h2:wq.heap[k]?=some (.cells cs T fr):=by rw[hal.block k hk];exact h0
   exact iW (sW (hown.alloc _)) fB ((gZ wq _ k (by omega)).trans h2) h1
  have XU:=hkb bb _ _ _ h2 (by decide)
  have hc0:w5.cell? ⟨bb,0,none⟩=some tv:=by rw[aZ XU];rfl
  have h5':=λp hp=>(h5 p hp)
  have H4:=ay gB;clear fB gB uL d0 d1 e0 e1 e2 hzz hcc hz hone h4 hown;go_wp2;go_ret;generalize Value.slice (some ⟨gg,0,none⟩) (aj.length+1) jO=nv5 at H4 |-;have afG:bb<w5.heap.size:=(bP XU).1
  have adN:Kb B w ((w5.setCell ⟨bb,1,none⟩ nv5).alloc (.cells #[tv,nv5] 93)):=by
   refine⟨(XT.setCell h1 _).alloc (by have:=XT.size;simp;omega) _,λk cs T fr h0 q1 q2=>?_⟩;have r1:=hkb k cs T fr h0 q2;have iN:=(bP r1).1;rw[gZ _ _ k (by simpa using iN),qm]
   ·exact r1
   ·show k≠bb
    rintro rfl;rw[XU] at r1;simp only[Option.some.injEq,Obj.cells.injEq] at r1;exact q1 r1.2.1.symm
  refine⟨zL (by omega),⟨h1,nv5,l++[(⟨kind,tok,ks⟩,kv)],?_,by simp[h3],?_,?_⟩,adN⟩
  ·rw[gZ _ _ bb (by simpa using afG),jN w5 bb 1 _ _ _ XU]
   rfl
  ·rw[abo,bY]
   exact(iO H4.out (own_ne H4.out XU (by decide)) nv5).alloc _
  ·intro p hp
   rcases List.mem_append.1 hp with hp|hp
   ·exact(h5 p hp).kept adN.kp
   ·rw[Ia] at hp
    subst hp;exact HI.out.kept adN.kp
theorem Kb.ahu {cs:Array Value}{fr:Nat × Nat}(h:w.heap[bb]?=some (.cells cs 262 fr))(hB:B<=bb)(i:Nat)(u:Value):Kb B w (w.setCell ⟨bb,i,none⟩ u):=by
 refine⟨(bQ _ _).setCell hB u,λk cs' T fr' h0 q1 _=>?_⟩;rw[qm]
 ·exact h0
 ·show k≠bb
  rintro rfl;rw[h] at h0;simp only[Option.some.injEq,Obj.cells.injEq] at h0;exact q1 h0.2.1.symm
theorem BW.kb (h:BW R B bb tv used aj w):B<=bb:=h.1
theorem BW.ab7 (h:BW R B bb tv used aj w)(u:Nat):BW R B bb tv u aj (w.setCell ⟨bb,2,none⟩ (.int .i64 u))/\Kb B w (w.setCell ⟨bb,2,none⟩ (.int .i64 u)):=by
 obtain⟨h1,nv,l,h2,h3,h4,h5⟩:=h;have hk:=Kb.ahu h2 h1 2 (.int .i64 u);refine⟨⟨h1,nv,l,?_,h3,iO h4 (own_ne h4 h2 (by decide)) _,λp hp=>(h5 p hp).kept hk.kp⟩,hk⟩;rw[jN w bb 2 _ _ _ h2]
 rfl
theorem BW.drewN {R:List Nat}{B bb:Nat}{tv:Value}{used:Nat}{aj:List Nd}{w:World}(h:BW R B bb tv used aj w)(n:Nat):BW R B bb tv used aj (w.drewN n):=h.later (below_drewN (bQ _ _) n)
def vD (n used:Nat)(aj:List Nd):Int × Nat × List Nd:=if used=n then (-1,used,aj) else ((aj.length:Nat),used+1,aj++[⟨19,(used:Nat),[]⟩])
theorem XV (R:List Nat)(B bb:Nat)(ao:Option Addr)(n cap used:Nat)(aj:List Nd)(w:World)(hb:BW R B bb (.slice ao n cap) used aj w)(hu:used<=n)(hn:n<=1099511627776)(hl:aj.length+1<=1099511627776) :
  Calls Tryz.prog 157 #[.pointer (some ⟨bb,0,none⟩)] w (XR R B bb (.slice ao n cap) (vD n used aj).1 (vD n used aj).2.1 (vD n used aj).2.2 w):=by
 have hB:=hb.kb;have hlt:=hb.lt;have HB:=ay hb;obtain⟨h1,nv,l,h2,h3,h4,h5⟩:=hb
 have c0:w.cell? ⟨bb,0,none⟩=some (.slice ao n cap):=by rw[aZ h2];rfl
 have c2:w.cell? ⟨bb,2,none⟩=some (.int .i64 used):=by rw[aZ h2];rfl
 have hz:w.frozen? ⟨bb,2,none⟩=false:=by simp[World.frozen?,h2]
 clear h2 h3 h4 h5
 by_cases he:used=n
 ·have t1:((used:Int) == (n:Int))=true:=by rw[he,beq_iff_eq]
  have hq:vD n used aj=(-1,used,aj):=by rw[vD,bR he]
  rw[hq];clear hq;go_enter Tryz.func157,Tryz.ntmps157;go_wp2
  go_quiet (fail)
  go_wp2;go_ret;exact⟨rfl,HB.out.drewN _,Kb.of (below_drewN (bQ _ _) _) (by omega)⟩
 ·have t1:((used:Int) == (n:Int))=false:=by rw[<- vM,beq_iff_eq];omega
  have hq:vD n used aj=(((aj.length:Nat):Int),used+1,aj++[⟨19,(used:Nat),[]⟩]):=by rw[vD,aU he]
  rw[hq]
  have hnil:∀ w,qY R w (.slice none 0 0) []:=λw=>⟨⟨none,0,rfl,bD _,λh=>absurd h (by simp)⟩,λ_ _ _ _ h=>by cases h⟩
  have HN:=ay hnil;clear hq hnil;go_enter Tryz.func157,Tryz.ntmps157;go_wp2
  go_quiet (fail)
  go_wp2_with fail;have hbd:=HB.out.drewN nq;obtain⟨hs1,hs2⟩:=hbd.ab7 (used+1)
  have e2:((used:Int)+1)=((used+1:Nat):Int):=by omega
  rw[e2];clear e2;have hk0:Kb B w (w.drewN nq):=Kb.of (below_drewN (bQ _ _) _) (by omega);generalize (w.drewN nq).setCell ⟨bb,2,none⟩ (.int .i64 (used+1:Nat))=w4 at hs1 hs2 |-;refine(Tj R B bb _ (used+1) aj 19 used _ [] w4 hs1 (HN.out _) hl).mono ?_;rintro e w5 ⟨rfl,hb5,iN⟩;go_wp2;go_ret;exact⟨rfl,hb5,(hk0.trans hs2).trans iN⟩
def KH (t:Tok):Value:=.agg #[.int .i64 t.kind,.string ⟨t.lead.toArray⟩,.string ⟨t.text.toArray⟩,.int .i64 t.place]
theorem ab8 (ah:List Tok)(u:Nat)(h:0<ah.length):∃ (k:Nat) (hk:k<ah.length),k=min u (ah.length - 1)/\dx ah u=ah[k]:=by
 refine⟨min u (ah.length - 1),by omega,rfl,?_⟩;unfold dx;rw[Kr,AY (by omega),Option.getD_some]
theorem zZ (R:List Nat)(B bb:Nat)(tv:Value)(ah:List Tok)(used:Nat)(aj:List Nd)(w:World)(hb:BW R B bb tv used aj w)(ht:Rec B w tv 4 dP ah)(h0:0<ah.length)(hu:used<=ah.length)(hn:ah.length<=1099511627776) :
  Calls Tryz.prog 164 #[.pointer (some ⟨bb,0,none⟩)] w λe w'=>e=.returned (KH (dx ah used))/\Below w.heap.size w w':=by
 obtain⟨h1,nv,l,h2,h3,h4,h5⟩:=hb;have hlt:=(bP h2).1;obtain⟨ao,cap,rfl,hcap,hf⟩:=ht.form (λ_=>rfl);obtain⟨b,off,rfl,hB,hcell⟩:=hf h0
 have c0:w.cell? ⟨bb,0,none⟩=some (.slice (some ⟨b,off,none⟩) ah.length cap):=by rw[aZ h2];rfl
 have c2:w.cell? ⟨bb,2,none⟩=some (.int .i64 used):=by rw[aZ h2];rfl
 obtain⟨k,hk,hkm,hp⟩:=ab8 ah used h0;have hx0:=hcell k 0 _ hk rfl;have hx1:=hcell k 1 _ hk rfl;have hx2:=hcell k 2 _ hk rfl;have hx3:=hcell k 3 _ hk rfl;rw[hp];generalize ah[k]=t at hx0 hx1 hx2 hx3;obtain⟨c,x,y,q⟩:=t;simp only[nZ] at hx0 hx1 hx2 hx3;have hal:=(bQ w.heap.size w).alloc (bD _) (.cells #[.int .i64 0,.string ⟨#[]⟩,.string ⟨#[]⟩,.int .i64 0] 159);have d0:=jo hal c0;have d2:=jo hal c2;have y0:=jo hal hx0;have y1:=jo hal hx1;have y2:=jo hal hx2;have y3:=jo hal hx3
 have hk0:(0:Int)<(ah.length:Int):=by omega
 have Hy:=ay hkm;clear hkm c0 c2 hx0 hx1 hx2 hx3 hcell hf ht h2 h3 h4 h5 hp;go_enter Tryz.func164,Tryz.ntmps164;go_wp2;have hnw:=aX w (.cells #[.int .i64 0,.string ⟨#[]⟩,.string ⟨#[]⟩,.int .i64 0] 159);generalize w.alloc _=w1 at hnw hal d0 d2 y0 y1 y2 y3 |-
 have hmin:min (used:Int) ((ah.length:Int) - 1)=(k:Int):=by have:=Hy.out;omega
 have w1':IntKind.i64.wrap ((ah.length:Int) - 1)=(ah.length:Int) - 1:=IntWalk.i64_in _ (by omega)
 have i1:(k:Int)<(ah.length:Int):=by omega
 go_still_tail 19,(by kernel_rfl)
 change wpList _ _ _ _ _ w1.drew;have XW:=hal.drew;have yR:w1.drew.heap[w.heap.size]?=some (.cells #[.int .i64 0,.string ⟨#[]⟩,.string ⟨#[]⟩,.int .i64 0] 159 (0,0)):=hnw;generalize w1.drew=w2 at XW yR |-
 have f0:w2.cell? ⟨w.heap.size,0,none⟩=some (.int .i64 0):=by rw[aZ yR];rfl
 have f1:w2.cell? ⟨w.heap.size,1,none⟩=some (.string ⟨#[]⟩):=by rw[aZ yR];rfl
 have f2:w2.cell? ⟨w.heap.size,2,none⟩=some (.string ⟨#[]⟩):=by rw[aZ yR];rfl
 have f3:w2.cell? ⟨w.heap.size,3,none⟩=some (.int .i64 0):=by rw[aZ yR];rfl
 have z0:∀ j,w2.frozen? ⟨w.heap.size,j,none⟩=false:=by intro j;simp[World.frozen?,yR]
 clear hnw yR hmin w1' i1 y0 y1 y2 y3 d0 d2;go_wp2;refine nI (v:=.agg #[.int .i64 c,.string ⟨x.toArray⟩,.string ⟨y.toArray⟩,.int .i64 q]) (by simp[results,Tryz.results164,go_sem,f0,f1,f2,f3]) rfl ⟨rfl,?_⟩;exact(((XW.setCell (bD _) _).setCell (bD _) _).setCell (bD _) _).setCell (bD _) _
