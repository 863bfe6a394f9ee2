/- Walks and plain laws: TreeLaws, ZedPlain, ExprPlain, Recs, TreeW1, ExprMem, ParseLaws3. -/
import Derived.Test.YtmhdgeekclhbbaaGreatDoorR01
import Derived.Deep.RegionLaw
import Derived.Test.YtmhdgeekclhbbaaGreatDoorProg
set_option maxHeartbeats 16000000
set_option maxRecDepth 100000
set_option linter.unusedVariables false
set_option linter.unusedSimpArgs false
namespace Go.Proofs.YtmhdgeekclhbbaaGreatDoor
mutual
def PT.wf:PT→Prop
 | .leaf=>True
 | .node k l=>1≤k∧k≤18∧mP l
def mP:List PT→Prop
 | []=>True
 | t :: l=>t.wf∧mP l
end
def vG (u n:Nat):List Int:=(List.range' u n).map fun (k:Nat)=>(k:Int)
theorem Xe (u n m:Nat):vG u (n+m)=vG u n++vG (u+n) m:=by
 unfold vG;rw[← List.map_append,← List.range'_append_1]
theorem zh {aj:List Nd}:∀ {l:List PT} {ks:List Int} {u:Nat},fJ aj ks u l→ks.length=l.length∧ks.length≤eP l
 | [],ks,u,h=>by rw[fJ] at h;subst h;exact⟨rfl,by simp⟩
 | t :: l,ks,u,h=>by
  rw[fJ] at h;obtain⟨k,ks',rfl,_,h2⟩:=h;obtain⟨a,b⟩:=zh h2;have:=t.gZ;rw[eP];simp only[dR];omega
mutual
theorem DF {aj:List Nd}:∀ (t:PT) (n:Int) (u g:Nat) (rest out:List Int),oo aj n u t→t.wf→rest.length+t.nd≤549755813888→fQ aj (g+t.nd) (n :: rest) out=fQ aj g rest (out++vG u t.lv)
 | .leaf,n,u,g,rest,out,h,_,_=>by
  rw[oo] at h;rw[PT.nd,fQ,if_neg (by omega),h.2,PT.lv];simp only[if_true]
  rfl
 | .node k l,n,u,g,rest,out,h,hw,hs=>by
  rw[oo] at h;obtain⟨ks,h0,h1,h2⟩:=h;rw[PT.wf] at hw;obtain⟨e1,e2⟩:=zh h2;rw[PT.nd] at hs;rw[PT.nd,← Nat.add_assoc,fQ,if_neg (by omega),h1,PT.lv];simp only;rw[if_neg (by omega),if_neg (by rw[bN];omega)];exact Cc l ks u g rest out h2 hw.2.2 (by omega)
theorem Cc {aj:List Nd}:∀ (l:List PT) (ks:List Int) (u g:Nat) (rest out:List Int),fJ aj ks u l→mP l→rest.length+eP l≤549755813888→fQ aj (g+eP l) (ks++rest) out=fQ aj g rest (out++vG u (bU l))
 | [],ks,u,g,rest,out,h,_,_=>by
  rw[fJ] at h;subst h;simp[eP,bU,vG]
 | t :: l,ks,u,g,rest,out,h,hw,hs=>by
  rw[fJ] at h;obtain⟨k,ks',rfl,h1,h2⟩:=h;rw[mP] at hw;rw[eP] at hs;have hp:=t.gZ;have hk:=(zh h2).2;rw[eP,bU,Xe,jN,show g+(t.nd+eP l)=(g+eP l)+t.nd by omega,DF t k u _ _ _ h1 hw.1 (by rw[bN];omega),Cc l ks' _ g rest _ h2 hw.2 (by omega),nQ]
end
mutual
theorem LK {ah:List Tok}{aj:List Nd}:∀ (t:PT) (n:Int) (u g:Nat),oo aj n u t→t.wf→u+t.lv≤ah.length→uP ah aj (g+t.nd) n=some (t.dump ah u)
 | .leaf,n,u,g,h,_,hl=>by
  rw[oo] at h;rw[PT.lv] at hl;rw[PT.nd,uP,if_neg (by omega),h.2,PT.dump];simp only[if_true];rw[if_neg (by omega),Int.toNat_natCast,dh,Nat.min_eq_left (by omega),yV (by omega),List.getD_eq_getElem?_getD,yV (by omega)]
  rfl
 | .node k l,n,u,g,h,hw,hl=>by
  rw[oo] at h;obtain⟨ks,h0,h1,h2⟩:=h;rw[PT.wf] at hw;rw[PT.lv] at hl;rw[PT.nd,← Nat.add_assoc,uP,if_neg (by omega),h1,PT.dump];simp only;rw[if_neg (by omega),H8 l ks u g h2 hw.2.2 hl]
  simp
theorem H8 {ah:List Tok}{aj:List Nd}:∀ (l:List PT) (ks:List Int) (u g:Nat),fJ aj ks u l→mP l→u+bU l≤ah.length→nC (uP ah aj (g+eP l)) ks=some (Cb ah u l)
 | [],ks,u,g,h,_,_=>by
  rw[fJ] at h;subst h;rw[nC,Cb]
 | t :: l,ks,u,g,h,hw,hl=>by
  rw[fJ] at h;obtain⟨k,ks',rfl,h1,h2⟩:=h;rw[mP] at hw;rw[bU] at hl;have e1:=LK (ah:=ah) t k u (g+eP l) h1 hw.1 (by omega);have e2:=H8 (ah:=ah) l ks' (u+t.lv) (g+t.nd) h2 hw.2 (by omega);rw[show g+eP l+t.nd=g+eP (t :: l) by rw[eP];omega] at e1;rw[show g+t.nd+eP l=g+eP (t :: l) by rw[eP];omega] at e2;rw[nC,e1,Option.bind_some,e2,Option.bind_some,Cb]
end
def DI:List PT→List Bool
 | []=>[]
 | t :: l=>List.replicate (t.nd - 1) true++[false]++DI l
theorem LM:∀ (l:List PT) (A R:List Bool) (b:Nat),A.length=b→zf (A++DI l++R) (dw b l)=some (A++List.replicate (eP l) true++R)
 | [],A,R,b,_=>by simp[DI,dw,zf,eP]
 | t :: l,A,R,b,hA=>by
  have hp:=t.gZ
  have e:(((b+t.nd:Nat):Int) - 1).toNat=(A++List.replicate (t.nd - 1) true).length:=by simp;omega
  rw[dw,zf,e,DI]
  have e2:A++(List.replicate (t.nd - 1) true++[false]++DI l)++R=(A++List.replicate (t.nd - 1) true)++false :: (DI l++R):=by simp
  rw[e2,if_neg (by simp),List.set_append_right _ _ (bD _),Nat.sub_self,List.set_cons_zero];have ih:=LM l (A++List.replicate (t.nd - 1) true++[true]) R (b+t.nd) (by simp;omega)
  have e3:A++List.replicate (t.nd - 1) true++[true]++DI l++R=A++List.replicate (t.nd - 1) true++true :: (DI l++R):=by simp
  rw[e3] at ih;rw[ih,eP]
  have e4:List.replicate (t.nd - 1) true++[true]=List.replicate t.nd true:=by
   conv=>rhs;rw[show t.nd=(t.nd - 1)+1 by omega,List.replicate_succ']
  congr 1
  rw[nQ A,e4,← List.replicate_append_replicate,nQ,nQ,nQ,nQ]
theorem aaX (b:Nat)(l:List PT):(dw b l).any (fun k=>decide (k<0) || decide (((b+eP l:Nat):Int)≤k))=false:=by
 rw[← Bool.not_eq_true,List.any_eq_true];rintro⟨x,hx,hy⟩;have:=xZ _ _ _ hx;simp only[Bool.or_eq_true,decide_eq_true_eq] at hy;omega
mutual
theorem LP (nt:Nat):∀ (t:PT) (b u:Nat) (A:List Bool) (m:Nat) (more:List Nd),t.wf→A.length=b→u+t.lv≤nt →
  nA nt b (t.em b u++more) (A++List.replicate (t.nd+m) false)=nA nt (b+t.nd) more (A++List.replicate (t.nd - 1) true++[false]++List.replicate m false)
 | .leaf,b,u,A,m,more,_,_,hu=>by
  rw[PT.lv] at hu;rw[PT.em,PT.nd,jN,qc,nA,if_pos]
  ·rw[zf,Option.bind_some,Nat.add_comm 1 m,List.replicate_succ]
   simp
  ·simp[jh]
   omega
 | .node k l,b,u,A,m,more,hw,hA,hu=>by
  rw[PT.wf] at hw;rw[PT.lv] at hu;have h:=H9 nt l b u A (1+m) ([⟨k,-1,dw b l⟩]++more) hw.2.2 hA hu;rw[PT.em,PT.nd,nQ,show eP l+1+m=eP l+(1+m) by omega,h,jN,qc,nA,if_pos]
  ·rw[LM l A _ b hA,Option.bind_some,Nat.add_comm 1 m,List.replicate_succ]
   simp[Nat.add_assoc]
  ·unfold jh
   rw[if_neg (by simp only;omega),if_neg (by simp only;omega)];simp only[aaX]
   rfl
theorem H9 (nt:Nat):∀ (l:List PT) (b u:Nat) (A:List Bool) (m:Nat) (more:List Nd),mP l→A.length=b→u+bU l≤nt →
  nA nt b (za b u l++more) (A++List.replicate (eP l+m) false)=nA nt (b+eP l) more (A++DI l++List.replicate m false)
 | [],b,u,A,m,more,_,_,_=>by simp[za,eP,DI]
 | t :: l,b,u,A,m,more,hw,hA,hu=>by
  rw[mP] at hw;rw[bU] at hu;have hp:=t.gZ;have h1:=LP nt t b u A (eP l+m) (za (b+t.nd) (u+t.lv) l++more) hw.1 hA (by omega);have h2:=H9 nt l (b+t.nd) (u+t.lv) (A++List.replicate (t.nd - 1) true++[false]) m more hw.2 (by simp;omega) (by omega);rw[za,eP,nQ,Nat.add_assoc,h1,h2,DI,Nat.add_assoc]
  simp
end
theorem zi:∀ (n u:Nat),oL u (vG u n)=true
 | 0,u=>by simp[vG,oL]
 | n+1,u=>by
  have h:=zi n (u+1);simp only[vG,List.range'_succ,List.map_cons,oL] at h ⊢;simp[h]
theorem Xf (t:PT)(hw:t.wf)(nt:Nat)(h:t.lv=nt):lU nt (t.em 0 0) (vG 0 nt)=true:=by
 have hp:=t.gZ;have h1:=LP nt t 0 0 [] 0 [] hw rfl (by omega);rw[List.append_nil,qc,Nat.add_zero,nA] at h1
 have h2:qE nt (t.em 0 0)=some (List.replicate (t.nd - 1) true++[false]):=by
  rw[qE,PT.uq,h1];simp
 unfold lU;rw[h2];simp only[PT.uq,zi,Bool.and_true];rw[List.take_append_of_le_length (by simp),Au (by simp)]
 have h3:(List.replicate (t.nd - 1) true).contains false=false:=by
  rw[← Bool.not_eq_true,List.contains_iff_mem,List.mem_replicate]
  simp
 rw[h3];simp[vG]
theorem Uj (t:PT)(hw:t.wf)(h:t.nd≤549755813888):fQ (t.em 0 0) (t.nd+1) [((t.nd:Nat):Int) - 1] []=some (vG 0 t.lv):=by
 have hr:=oo.em (pre:=[]) t 0 0 rfl;rw[qc,Nat.zero_add] at hr;rw[Nat.add_comm,DF t _ 0 1 [] [] hr hw (by simpa using h),fQ,qc]
theorem aaY (ah:List Tok)(t:PT)(hw:t.wf)(h:t.lv≤ah.length):uP ah (t.em 0 0) t.nd (((t.nd:Nat):Int) - 1)=some (t.dump ah 0):=by
 have hr:=oo.em (pre:=[]) t 0 0 rfl;rw[qc,Nat.zero_add] at hr;have:=LK (ah:=ah) t _ 0 0 hr hw (by omega);rw[Nat.zero_add] at this;exact this
mutual
theorem CE.wf:∀ e:CE,e.pt.wf
 | .num=>by simp[CE.pt,PT.wf,mP]
 | .truth=>by simp[CE.pt,PT.wf,mP]
 | .res=>by simp[CE.pt,PT.wf,mP]
 | .PO=>by simp[CE.pt,PT.wf,mP]
 | .group e=>by simp[CE.pt,PT.wf,mP,CE.wf e]
 | .un e=>by simp[CE.pt,PT.wf,mP,CE.wf e]
 | .bin a b=>by simp[CE.pt,PT.wf,mP,CE.wf a,CE.wf b]
 | .iff a b c=>by simp[CE.pt,PT.wf,mP,CE.wf a,CE.wf b,CE.wf c]
 | .sO a b=>by simp[CE.pt,PT.wf,mP,CE.wf a,CE.wf b]
 | .sP a b=>by simp[CE.pt,PT.wf,mP,CE.wf a,CE.wf b]
 | .call q l=>by
  have h:=Xg l
  have e:∀ (a b:List PT),mP a→mP b→mP (a++b):=fun a b ha hb=>by
   induction a with
   | nil=>exact hb
   | cons x a ih=>rw[mP] at ha;rw[jN,mP];exact⟨ha.1,ih ha.2⟩
  rw[CE.pt,PT.wf];refine⟨by omega,by omega,e _ _ (e _ _ (e _ _ ?_ (by simp[mP,PT.wf])) h) (by simp[mP,PT.wf])⟩
  cases q<;>simp[mP,PT.wf]
theorem Xg:∀ l:List CE,mP (fG l)
 | []=>by simp[fG,mP]
 | [e]=>by simp[fG,mP,CE.wf e]
 | e :: f :: l=>by
  rw[om,mP,mP];exact⟨CE.wf e,by simp[PT.wf],Xg (f :: l)⟩
end
def iM:List Nat→Nat
 | []=>0
 | d :: l=>d+4294967296 * iM l
def dx:List Nat→List Nat
 | []=>[]
 | d :: l=>if dx l=[]∧d=0 then [] else d :: dx l
theorem wN:∀ l,iM (dx l)=iM l
 | []=>rfl
 | d :: l=>by
  rw[dx]
  split
  ·rename_i h
   have:=wN l;rw[h.1] at this;rw[iM,iM,← this,h.2]
   rfl
  ·rw[iM,wN l,iM]
theorem yc:∀ l,iM l=0→dx l=[]
 | [],_=>rfl
 | d :: l,h=>by
  rw[iM] at h;rw[dx,if_pos ⟨yc l (by omega),by omega⟩]
theorem Ia:∀ l,(dx l).length≤l.length
 | []=>bD _
 | d :: l=>by
  have:=Ia l;rw[dx]
  split<;>simp
  exact this
theorem AB:∀ (l:List Nat) (x:Nat),x∈dx l→x∈l
 | [],x,h=>h
 | d :: l,x,h=>by
  rw[dx] at h
  split at h
  ·cases h
  ·rcases List.mem_cons.1 h with rfl|h
   ·exact vB
   ·exact wM _ (AB l x h)
theorem yg:∀ l,dx (dx l)=dx l
 | []=>rfl
 | d :: l=>by
  rw[dx]
  split
  ·rfl
  ·rename_i h
   rw[dx,yg l,if_neg h]
theorem wO {l:List Nat}(h:dx l=l)(hl:l≠[]):0<iM l:=by
 apply Nat.pos_of_ne_zero
 intro q;exact hl (by rw[← h,yc l q])
theorem uy:∀ (l:List Nat),∃ n,n≤l.length∧dx l=l.take n∧(∀ j,n≤j→(h:j<l.length)→l[j]=0)∧(∀ j,j+1=n→(h:j<l.length)→l[j]≠0)
 | []=>⟨0,bD _,rfl,fun j _ h=>absurd h (by simp),fun j h=>by omega⟩
 | d :: l=>by
  obtain⟨n,h1,h2,h3,h4⟩:=uy l;rw[dx]
  split
  ·rename_i h
   have hn:n=0∨l=[]:=by
    have:(l.take n).length=0:=by rw[← h2,h.1];rfl
    rw[qZ] at this
    rcases Nat.eq_zero_or_pos n with q|q
    ·exact .inl q
    ·exact .inr (List.length_eq_zero_iff.1 (by omega))
   refine⟨0,lI _,rfl,fun j _ hj=>?_,fun j hj=>by omega⟩
   cases j with
   | zero=>exact h.2
   | succ j =>
    simp only[dR] at hj
    rcases hn with q|q
    ·simpa using h3 j (by omega) (by omega)
    ·subst q;simp at hj
  ·rename_i h
   refine⟨n+1,by simpa using h1,by rw[h2,List.take_succ_cons],fun j hj hl=>?_,fun j hj hl=>?_⟩
   ·cases j with
    | zero=>omega
    | succ j=>simpa using h3 j (by omega) (by simpa using hl)
   ·cases j with
    | zero =>
     obtain rfl:n=0:=by omega
     intro q;exact h ⟨by rw[h2];rfl,q⟩
    | succ j=>simpa using h4 j (by omega) (by simpa using hl)
def fM (JG:Nat):List Nat→Nat→List Nat
 | [],more=>[more % 4294967296]
 | d :: l,more=>(more+d * JG) % 4294967296 :: fM JG l ((more+d * JG) / 4294967296)
theorem kC (b:Nat):∀ (l:List Nat) (m:Nat),(fM b l m).length=l.length+1
 | [],_=>rfl
 | d :: l,m=>by rw[fM,dR,kC b l,dR]
theorem Ib (b:Nat):∀ (l:List Nat) (m x:Nat),x∈fM b l m→x<4294967296
 | [],m,x,h=>by rw[fM,List.mem_singleton] at h;omega
 | d :: l,m,x,h=>by
  rw[fM] at h
  rcases List.mem_cons.1 h with rfl|h
  ·omega
  ·exact Ib b l _ x h
theorem LQ {d b m:Nat}(hd:d<4294967296)(hb:b≤1000000000)(hm:m≤1000000000):m+d * b≤4294967295000000000+1000000000∧(m+d * b) / 4294967296≤1000000000:=by
 have h1:d * b≤4294967295 * 1000000000:=Nat.mul_le_mul (by omega) hb;omega
theorem DJ (b:Nat)(hb:b≤1000000000):∀ (l:List Nat) (m:Nat),(∀ x∈l,x<4294967296)→m≤1000000000→iM (fM b l m)=iM l * b+m
 | [],m,_,hm=>by
  rw[fM,iM,iM,iM,Nat.mod_eq_of_lt (by omega)];omega
 | d :: l,m,hl,hm=>by
  have hc:=LQ (hl d vB) hb hm;have ih:=DJ b hb l _ (fun x hx=>hl x (wM _ hx)) hc.2;rw[fM,iM,ih,iM];have:=Nat.div_add_mod (m+d * b) 4294967296;generalize (m+d * b) / 4294967296=q at *;generalize (m+d * b) % 4294967296=r at *
  have e:(d+4294967296 * iM l) * b+m=m+d * b+4294967296 * (iM l * b):=by
   rw[Nat.add_mul,Nat.mul_assoc];omega
  rw[e,← this];omega
theorem DL {α:Type}{P:List α→Prop}(h0:P [])(h1:∀ (l:List α) (c:α),P l→P (l++[c]))(l:List α):P l:=by
 have h:∀ (r:List α),P r.reverse:=fun r=>by
  induction r with
  | nil=>exact h0
  | cons c r ih=>rw[List.reverse_cons];exact h1 _ _ ih
 have:=h l.reverse
 rwa [List.reverse_reverse] at this
def jo (l:List UInt8):Nat:=l.foldl (fun a c=>a * 10+(c.toNat - 48)) 0
theorem sQ (l:List UInt8)(c:UInt8):jo (l++[c])=jo l * 10+(c.toNat - 48):=by
 unfold jo;rw[List.foldl_append];rfl
theorem LU:∀ (b a:List UInt8),jo (a++b)=jo a * 10 ^ b.length+jo b:=by
 refine DL ?_ ?_
 ·intro a;simp[jo]
 ·intro b c ih a
  rw[← nQ,sQ,ih,sQ,bN,List.length_singleton,Nat.pow_succ,Nat.add_mul,← Nat.mul_assoc,Nat.add_assoc]
def fT (l:List UInt8):Bool:=l.all fun c=>decide (48≤c.toNat) && decide (c.toNat≤57)
theorem Dh:∀ (l:List UInt8),fT l=true→jo l<10 ^ l.length:=by
 refine DL ?_ ?_
 ·intro _;decide
 ·intro l c ih h
  rw[fT,List.all_append,Bool.and_eq_true] at h;have h1:=ih h.1;have h2:=h.2;simp only[List.all_cons,List.all_nil,Bool.and_true,Bool.and_eq_true,decide_eq_true_eq] at h2;rw[sQ,bN,List.length_singleton,Nat.pow_succ];omega
theorem aaZ {n:Nat}(h:n≤9):10 ^ n≤1000000000:=Nat.pow_le_pow_right (by omega) h
def bH (b:Nat):List Nat→List Nat × Nat
 | []=>([],0)
 | d :: l=>(((bH b l).2 * 4294967296+d) / b :: (bH b l).1,((bH b l).2 * 4294967296+d) % b)
theorem DN (b:Nat):∀ l,(bH b l).1.length=l.length
 | []=>rfl
 | d :: l=>by rw[bH,dR,DN b l,dR]
theorem rP (b:Nat)(hb:0<b):∀ l,(bH b l).2<b
 | []=>hb
 | _d :: _l=>Nat.mod_lt _ hb
theorem DT (b:Nat):∀ l,iM l=iM (bH b l).1 * b+(bH b l).2
 | []=>by simp[bH,iM]
 | d :: l=>by
  rw[bH];simp only;have ih:=DT b l;have:=Nat.div_add_mod ((bH b l).2 * 4294967296+d) b;rw[iM,iM,ih];generalize ((bH b l).2 * 4294967296+d) / b=q at *;generalize ((bH b l).2 * 4294967296+d) % b=r at *;generalize iM (bH b l).1=M at *;generalize (bH b l).2=s at *;rw[Nat.add_mul,Nat.mul_assoc,Nat.mul_comm q b];omega
theorem Ic (b:Nat)(hb:0<b):∀ l,(∀ x∈l,x<4294967296)→∀ x∈(bH b l).1,x<4294967296
 | [],_,x,h=>by cases h
 | d :: l,hl,x,h=>by
  rw[bH] at h;simp only at h
  rcases List.mem_cons.1 h with rfl|h
  ·have h1:=rP b hb l
   have h2:=hl d vB;rw[Nat.div_lt_iff_lt_mul hb];have:((bH b l).2+1) * 4294967296≤b * 4294967296:=Nat.mul_le_mul_right _ h1;rw[Nat.mul_comm 4294967296 b];omega
  ·exact Ic b hb l (fun x hx=>hl x (wM _ hx)) x h
def kg:Nat→Nat→List UInt8
 | 0,_=>[]
 | k+1,n=>UInt8.ofNat (48+n % 10) :: kg k (n / 10)
theorem zk:∀ (k j n:Nat),kg (k+j) n=kg k n++kg j (n / 10 ^ k)
 | 0,j,n=>by simp[kg]
 | k+1,j,n=>by
  rw[show k+1+j=(k+j)+1 by omega,kg,kg,zk k j,jN,Nat.div_div_eq_div_mul,← Nat.pow_succ']
theorem Ie (k n:Nat):kg (k+1) n=kg k n++[UInt8.ofNat (48+n / 10 ^ k % 10)]:=by
 rw[zk k 1];rfl
theorem LV:∀ (k j n:Nat),k≤j→kg k (n % 10 ^ j)=kg k n
 | 0,_,_,_=>rfl
 | k+1,0,_,h=>absurd h (by omega)
 | k+1,j+1,n,h=>by
  have e1:n % 10 ^ (j+1) % 10=n % 10:=Nat.mod_mod_of_dvd _ ⟨10 ^ j,by rw[Nat.pow_succ,Nat.mul_comm]⟩
  have e2:n % 10 ^ (j+1) / 10=n / 10 % 10 ^ j:=by
   rw[Nat.pow_succ,Nat.mul_comm,Nat.mod_mul_right_div_self]
  rw[kg,kg,e1,e2,LV k j _ (by omega)]
theorem Ig:∀ k,kg k 0=List.replicate k 48
 | 0=>rfl
 | k+1=>by rw[kg,Nat.zero_div,Ig k,List.replicate_succ];rfl
theorem Xh (n:Nat):∃ k,gN n=(kg (k+1) n).reverse∧n<10 ^ (k+1)∧(n=0→k=0)∧(0<n→10 ^ k≤n):=by
 induction n using Nat.strongRecOn with
 | _ n ih =>
  rw[gN]
  split
  ·rename_i h
   refine⟨0,?_,by omega,fun _=>rfl,fun h=>by omega⟩;rw[kg,kg,Nat.mod_eq_of_lt h]
   rfl
  ·rename_i h
   obtain⟨k,h1,h2,h3,h4⟩:=ih (n / 10) (by omega);refine⟨k+1,?_,?_,fun q=>by omega,fun _=>?_⟩
   ·rw[kg,List.reverse_cons,h1]
   ·rw[Nat.pow_succ];omega
   ·have:=h4 (by omega)
    rw[Nat.pow_succ];omega
def zl (l:List UInt8):List UInt8:=(l.reverse.dropWhile (· == 48)).reverse
theorem PS {d:Nat}(h:d<10):(UInt8.ofNat (48+d)).toNat=48+d:=by
 rw[UInt8.toNat_ofNat'];omega
theorem Xi (n k:Nat)(h0:0<n)(hk:n<10 ^ k):(zl (kg k n)).reverse=gN n:=by
 obtain⟨j,h1,h2,_,h4⟩:=Xh n
 have hj:j+1≤k:=by
  have:=h4 h0
  have h5:10 ^ j<10 ^ k:=by omega
  have:=(Nat.pow_lt_pow_iff_right (by omega:1<10)).1 h5;omega
 rw[zl,List.reverse_reverse,h1]
 have e:kg k n=kg (j+1) n++List.replicate (k - (j+1)) 48:=by
  conv=>lhs;rw[show k=(j+1)+(k - (j+1)) by omega,zk,Nat.div_eq_of_lt h2,Ig]
 rw[e,List.reverse_append,List.reverse_replicate]
 have e2:∀ (m:Nat) (l:List UInt8),(List.replicate m (48:UInt8)++l).dropWhile (· == 48)=l.dropWhile (· == 48):=fun m l=>by
  induction m with
  | zero=>simp
  | succ m ih=>rw[List.replicate_succ,jN,List.dropWhile_cons_of_pos (by decide),ih]
 rw[e2,Ie,List.reverse_append,List.reverse_singleton,List.singleton_append,List.dropWhile_cons_of_neg];have h6:0<n / 10 ^ j:=Nat.div_pos (h4 h0) (Nat.pow_pos (by omega))
 have h7:n / 10 ^ j<10:=by rw[Nat.div_lt_iff_lt_mul (Nat.pow_pos (by omega)),Nat.mul_comm,← Nat.pow_succ];exact h2
 rw[Nat.mod_eq_of_lt h7];intro q;have:=congrArg UInt8.toNat (eq_of_beq q);rw[PS h7] at this;simp at this;omega
theorem Xj:∀ (l:List UInt8),fT l=true→l≠[]→(l.head?=some 48→l.length=1)→gN (jo l)=l:=by
 refine DL ?_ ?_
 ·intro _ h;exact absurd rfl h
 ·intro l c ih hd _ hh
  rw[fT,List.all_append,Bool.and_eq_true] at hd;have hc:=hd.2;simp only[List.all_cons,List.all_nil,Bool.and_true,Bool.and_eq_true,decide_eq_true_eq] at hc
  have e:UInt8.ofNat (48+(c.toNat - 48))=c:=by
   rw[show 48+(c.toNat - 48)=c.toNat by omega];exact UInt8.ofNat_toNat
  rw[sQ,gN]
  by_cases hl:l=[]
  ·subst hl
   have:jo []=0:=rfl;rw[this,dif_pos (by omega),Nat.zero_mul,Nat.zero_add,e]
   rfl
  ·have hne:l.head?≠some 48:=fun q=>by
    have:=hh (by rw[List.head?_append,q];rfl);rw[bN,List.length_singleton] at this;exact hl (List.length_eq_zero_iff.1 (by omega))
   have ih':=ih hd.1 hl (fun q=>absurd q hne)
   have hpos:0<jo l:=by
    apply Nat.pos_of_ne_zero
    intro q;rw[q] at ih'
    have:l=[48]:=by rw[← ih'];rw[gN];simp
    exact hne (by rw[this];rfl)
   rw[dif_neg (by omega),show (jo l * 10+(c.toNat - 48)) / 10=jo l by omega,show (jo l * 10+(c.toNat - 48)) % 10=c.toNat - 48 by omega,ih',e]
inductive PE where
 | mk (op:Nat) (name module:List UInt8) (num:Int) (txt:List UInt8) (yes:Bool) (aA:List PE) (at_:Nat)
def PE.op:PE→Nat | .mk o _ _ _ _ _ _ _=>o
def PE.name:PE→List UInt8 | .mk _ n _ _ _ _ _ _=>n
def PE.module:PE→List UInt8 | .mk _ _ m _ _ _ _ _=>m
def PE.num:PE→Int | .mk _ _ _ n _ _ _ _=>n
def PE.txt:PE→List UInt8 | .mk _ _ _ _ t _ _ _=>t
def PE.yes:PE→Bool | .mk _ _ _ _ _ y _ _=>y
def PE.aA:PE→List PE | .mk _ _ _ _ _ _ k _=>k
def PE.at_:PE→Nat | .mk _ _ _ _ _ _ _ a=>a
def jG (n:Int):List UInt8:=(if n<0 then [45] else [])++gN n.natAbs
def LW (op:Nat)(name module num:List UInt8)(yes:Bool):List UInt8 :=
 [91]++gN op++(if module≠[] then [32]++module++[46]++name else if name≠[] then [32]++name else [])
  ++ (if op=1 then [32]++num else [])++(if op=2 then (if yes=true then [32,116,114,117,101] else [32,102,97,108,115,101]) else [])
mutual
def PE.dump:PE→List UInt8
 | .mk op name module num _ yes aA _=>LW op name module (jG num) yes++LX aA++[93]
def LX:List PE→List UInt8
 | []=>[]
 | e :: l=>[32]++e.dump++LX l
end
mutual
def PE.rQ:PE→List UInt8
 | .mk op name module _ txt yes aA _=>LW op name module txt yes++vH aA++[93]
def vH:List PE→List UInt8
 | []=>[]
 | e :: l=>[32]++e.rQ++vH l
end
mutual
def PE.ats:PE→List Int
 | .mk _ _ _ _ _ _ aA a=>(a:Int) :: aa0 aA
def aa0:List PE→List Int
 | []=>[]
 | e :: l=>e.ats++aa0 l
end
mutual
def PE.told:PE→Prop
 | .mk op _ _ num txt _ aA _=>(op=1→txt=jG num)∧DU aA
def DU:List PE→Prop
 | []=>True
 | e :: l=>e.told∧DU l
end
mutual
theorem PE.jU:∀ {e:PE},e.told→e.rQ=e.dump
 | .mk op name module num txt yes aA a,h=>by
  rw[PE.told] at h;rw[PE.rQ,PE.dump,DW h.2]
  by_cases h1:op=1
  ·rw[h.1 h1]
  ·simp only[LW,if_neg h1]
theorem DW:∀ {l:List PE},DU l→vH l=LX l
 | [],_=>by rw[vH,LX]
 | e :: l,h=>by
  rw[DU] at h;rw[vH,LX,PE.jU h.1,DW h.2]
end
def dS (ah:List Tok)(u:Nat):Nat:=(dh ah u).place
mutual
def CE.pe (ah:List Tok)(u:Nat):CE→PE
 | .num=>.mk 1 [] [] (jo (aN ah u):Nat) (aN ah u) false [] (dS ah u)
 | .truth=>.mk 2 [] [] 0 [] (decide (aN ah u=Sw)) [] (dS ah u)
 | .res=>.mk 4 [] [] 0 [] false [] (dS ah u)
 | .PO=>.mk 3 (aN ah u) [] 0 [] false [] (dS ah u)
 | .group e=>e.pe ah (u+1)
 | .un e=>.mk (if aN ah u=aaW then 6 else 5) [] [] 0 [] false [e.pe ah (u+1)] (dS ah u)
 | .bin a b=>.mk (7+qD.idxOf (aN ah (u+a.pt.lv))) [] [] 0 [] false [a.pe ah u,b.pe ah (u+a.pt.lv+1)] (dS ah (u+a.pt.lv))
 | .iff a b c=>.mk 21 [] [] 0 [] false [a.pe ah (u+1),b.pe ah (u+1+a.pt.lv+1),c.pe ah (u+1+a.pt.lv+1+b.pt.lv+1)] (dS ah u)
 | .sO a b=>.mk 22 (aN ah (u+1)) [] 0 [] false [a.pe ah (u+3),b.pe ah (u+3+a.pt.lv+1)] (dS ah u)
 | .sP a b=>.mk 23 [] [] 0 [] false [a.pe ah (u+1),b.pe ah (u+1+a.pt.lv+1)] (dS ah u)
 | .call q l=>if q=true then .mk 24 (aN ah (u+2)) (aN ah u) 0 [] false (jV ah (u+4) l) (dS ah u) else .mk 24 (aN ah u) [] 0 [] false (jV ah (u+2) l) (dS ah u)
def jV (ah:List Tok)(u:Nat):List CE→List PE
 | []=>[]
 | e :: l=>e.pe ah u :: jV ah (u+e.pt.lv+1) l
end
def PU (ah:List Tok):Prop:=∀ u,iq ah u=3→gN (jo (aN ah u))=aN ah u
theorem zm (n:Nat):jG (n:Int)=gN n:=by
 unfold jG;rw[if_neg (by omega),qc,Int.natAbs_natCast]
mutual
theorem CE.told {ah:List Tok}(hN:PU ah){cl:Bool}:∀ (e:CE) (u:Nat),e.ok ah cl u→(e.pe ah u).told
 | .num,u,h=>by
  rw[CE.ok] at h;rw[CE.pe,PE.told];exact⟨fun _=>by rw[zm,hN u h],trivial⟩
 | .truth,u,h=>by rw[CE.pe,PE.told];exact⟨fun q=>absurd q (by decide),trivial⟩
 | .res,u,h=>by rw[CE.pe,PE.told];exact⟨fun q=>absurd q (by decide),trivial⟩
 | .PO,u,h=>by rw[CE.pe,PE.told];exact⟨fun q=>absurd q (by decide),trivial⟩
 | .group e,u,h=>by rw[CE.ok] at h;rw[CE.pe];exact CE.told hN e _ h.2
 | .un e,u,h=>by
  rw[CE.ok] at h;rw[CE.pe,PE.told];exact⟨fun q=>by split at q<;>omega,CE.told hN e _ h.2,trivial⟩
 | .bin a b,u,h=>by
  rw[CE.ok] at h;rw[CE.pe,PE.told];exact⟨fun q=>by omega,CE.told hN a _ h.2.1,CE.told hN b _ h.2.2,trivial⟩
 | .iff a b c,u,h=>by
  rw[CE.ok] at h;rw[CE.pe,PE.told];exact⟨fun q=>by omega,CE.told hN a _ h.2.1,CE.told hN b _ h.2.2.1,CE.told hN c _ h.2.2.2,trivial⟩
 | .sO a b,u,h=>by
  rw[CE.ok] at h;rw[CE.pe,PE.told];exact⟨fun q=>by omega,CE.told hN a _ h.2.2.1,CE.told hN b _ h.2.2.2,trivial⟩
 | .sP a b,u,h=>by
  rw[CE.ok] at h;rw[CE.pe,PE.told];exact⟨fun q=>by omega,CE.told hN a _ h.2.1,CE.told hN b _ h.2.2,trivial⟩
 | .call q l,u,h=>by
  rw[CE.ok] at h;rw[CE.pe]
  cases q with
  | true =>
   rw[if_pos rfl,PE.told];exact⟨fun q=>by omega,DY hN l _ h.2.2.2.2.2⟩
  | false =>
   rw[if_neg (by decide),PE.told];exact⟨fun q=>by omega,DY hN l _ h.2.2.2.2⟩
theorem DY {ah:List Tok}(hN:PU ah){cl:Bool}:∀ (l:List CE) (u:Nat),pO ah cl u l→DU (jV ah u l)
 | [],u,_=>by rw[jV,DU];trivial
 | e :: l,u,h=>by
  rw[pO] at h;rw[jV,DU];exact⟨CE.told hN e _ h.1,DY hN l _ h.2⟩
end
def gJ (aj:List Nd)(ks:List Int):List Int:=ks.filter fun k=>(aj[k.toNat]?.map (·.kind)).getD 19 != 19
theorem PV {aj:List Nd}{k:Int}{ks:List Int}{u:Nat}(h:oo aj k u .leaf):gJ aj (k :: ks)=gJ aj ks:=by
 rw[oo] at h;rw[gJ,List.filter_cons_of_neg (by rw[h.2];simp)]
 rfl
theorem CE.node (e:CE):∃ k l,e.pt=.node k l∧7≤k∧k≤17:=by
 cases e with
 | call q l=>exact⟨13,_,by rw[CE.pt],by omega,by omega⟩
 | num=>exact⟨15,_,by rw[CE.pt],by omega,by omega⟩
 | truth=>exact⟨16,_,by rw[CE.pt],by omega,by omega⟩
 | res=>exact⟨17,_,by rw[CE.pt],by omega,by omega⟩
 | PO=>exact⟨14,_,by rw[CE.pt],by omega,by omega⟩
 | group e=>exact⟨12,_,by rw[CE.pt],by omega,by omega⟩
 | un e=>exact⟨11,_,by rw[CE.pt],by omega,by omega⟩
 | bin a b=>exact⟨10,_,by rw[CE.pt],by omega,by omega⟩
 | iff a b c=>exact⟨8,_,by rw[CE.pt],by omega,by omega⟩
 | sO a b=>exact⟨7,_,by rw[CE.pt],by omega,by omega⟩
 | sP a b=>exact⟨9,_,by rw[CE.pt],by omega,by omega⟩
theorem PX {aj:List Nd}{k:Int}{ks:List Int}{u:Nat}{e:CE}(h:oo aj k u e.pt):gJ aj (k :: ks)=k :: gJ aj ks:=by
 obtain⟨c,l,he,h1,h2⟩:=e.node;rw[he,oo] at h;obtain⟨ks',_,h3,_⟩:=h;rw[gJ,List.filter_cons_of_pos (by rw[h3];simp;omega)]
 rfl
end Go.Proofs.YtmhdgeekclhbbaaGreatDoor

namespace Go.Proofs.YtmhdgeekclhbbaaGreatDoor
open Go.RowKit
theorem Rec.ad9 {α:Type}{B:Nat}{w:World}{v:Value}{sz n:Nat}{f:α→List Value}{l:List α}(h:Rec B w v sz f l)(hf:∀ x,(f x).length=sz)(hn:l.length=n) :
  ∃ ao cap,v=.slice ao n cap∧n≤cap∧(0<n→∃ b off,ao=some ⟨b,off,none⟩∧b<B ∧
   ∀ k j u,(hk:k<l.length)→(f l[k])[j]?=some u→w.cell? ⟨b,off+k * sz+j,none⟩=some u):=by
 subst hn;exact h.form hf
theorem Rec.cells {α:Type}{B:Nat}{w:World}{ao:Option Addr}{n cap sz:Nat}{f:α→List Value}{l:List α}(h:Rec B w (.slice ao n cap) sz f l)(hf:∀ x,(f x).length=sz)(h0:0<l.length) :
  ∃ b off,ao=some ⟨b,off,none⟩∧b<B∧∀ k j u,(hk:k<l.length)→(f l[k])[j]?=some u→w.cell? ⟨b,off+k * sz+j,none⟩=some u:=by
 obtain⟨ao',jE,hv,_,hc⟩:=h.form hf
 injection hv with q1 q2 q3
 subst q1;exact hc h0
def Uk (p:Nd × Value):List Value:=[.int .i64 p.1.kind,.int .i64 p.1.tok,p.2]
def Ints (B:Nat)(w:World)(v:Value)(ks:List Int):Prop:=Sl B w v 1 ks.length (ks.map (Value.int .i64))
def aZ (B:Nat)(w:World)(v:Value)(ah:List Tok)(aj:List Nd):Prop :=
 ∃ (tv nv:Value) (l:List (Nd × Value)),v=.agg #[tv,nv]∧Rec B w tv 4 bV ah∧l.map Prod.fst=aj∧Rec B w nv 3 Uk l∧∀ p∈l,Ints B w p.2 p.1.aA
theorem Ints.below {B:Nat}{w w':World}{v:Value}{ks:List Int}(h:Ints B w v ks)(hb:Below B w w'):Ints B w' v ks:=Sl.below h hb
theorem Ints.mono {B B':Nat}{w:World}{v:Value}{ks:List Int}(h:Ints B w v ks)(hB:B≤B'):Ints B' w v ks:=Sl.mono h hB
theorem aZ.below {B:Nat}{w w':World}{v:Value}{ah:List Tok}{aj:List Nd}(h:aZ B w v ah aj)(hb:Below B w w'):aZ B w' v ah aj:=by
 obtain⟨tv,nv,l,h1,h2,h3,h4,h5⟩:=h;exact⟨tv,nv,l,h1,h2.below hb,h3,h4.below hb,fun p hp=>(h5 p hp).below hb⟩
theorem aZ.mono {B B':Nat}{w:World}{v:Value}{ah:List Tok}{aj:List Nd}(h:aZ B w v ah aj)(hB:B≤B'):aZ B' w v ah aj:=by
 obtain⟨tv,nv,l,h1,h2,h3,h4,h5⟩:=h;exact⟨tv,nv,l,h1,h2.mono hB,h3,h4.mono hB,fun p hp=>(h5 p hp).mono hB⟩
theorem Ints.form {B:Nat}{w:World}{v:Value}{ks:List Int}(h:Ints B w v ks):∃ ao cap,v=.slice ao ks.length cap∧ks.length≤cap ∧
  (0<ks.length→∃ b off,ao=some ⟨b,off,none⟩∧b<B∧∀ j,(hj:j<ks.length)→w.cell? ⟨b,off+j,none⟩=some (.int .i64 ks[j])):=by
 obtain⟨ao,cap,hv,hn,hl,hc⟩:=h;refine⟨ao,cap,hv,hn,fun h0=>?_⟩;obtain⟨b,off,ha,hB,hcell⟩:=hc h0;exact⟨b,off,ha,hB,fun j hj=>by rw[hcell j (by simpa using hj)];simp⟩
theorem aZ.node {B:Nat}{w:World}{tv nv:Value}{ah:List Tok}{aj:List Nd}(h:aZ B w (.agg #[tv,nv]) ah aj){i:Nat}(hi:i<aj.length) :
  ∃ b off cap kv,nv=.slice (some ⟨b,off,none⟩) aj.length cap∧b<B∧w.cell? ⟨b,off+i * 3,none⟩=some (.int .i64 aj[i].kind)∧w.cell? ⟨b,off+i * 3+1,none⟩=some (.int .i64 aj[i].tok)∧w.cell? ⟨b,off+i * 3+2,none⟩=some kv∧Ints B w kv aj[i].aA:=by
 obtain⟨tv',nv',l,h1,h2,h3,h4,h5⟩:=h;simp only[Value.agg.injEq] at h1
 obtain⟨rfl,rfl⟩:tv=tv'∧nv=nv':=by simpa using h1
 subst h3;rw[List.length_map] at hi ⊢;obtain⟨ao,cap,rfl,_,hf⟩:=h4.form (fun _=>rfl);obtain⟨b,off,rfl,hb,hc⟩:=hf (by omega);refine⟨b,off,cap,l[i].2,rfl,hb,?_,?_,?_,?_⟩
 ·rw[show off+i * 3=off+i * 3+0 by rfl,hc i 0 (.int .i64 l[i].1.kind) hi rfl];simp
 ·rw[hc i 1 (.int .i64 l[i].1.tok) hi rfl];simp
 ·rw[hc i 2 l[i].2 hi rfl]
 ·rw[List.getElem_map];exact h5 _ (mX hi)
theorem aZ.slices {B:Nat}{w:World}{v:Value}{ah:List Tok}{aj:List Nd}(h:aZ B w v ah aj) :
  ∃ at_ ct an cn,v=.agg #[.slice at_ ah.length ct,.slice an aj.length cn]:=by
 obtain⟨tv,nv,l,h1,h2,h3,h4,h5⟩:=h;obtain⟨a1,c1,rfl,_,_⟩:=h2.form (fun _=>rfl);obtain⟨a2,c2,rfl,_,_⟩:=h4.form (fun _=>rfl);subst h3;rw[List.length_map];exact⟨a1,c1,a2,c2,h1⟩
theorem DZ (i g:Nat)(k:Int)(w:World)(hg:w.cell? ⟨g,0,none⟩=some (.int .i64 i)) :
  Calls Tryz.prog 296 #[.int .i64 k,.pointer (some ⟨g,0,none⟩)] w fun e w'=>e=.returned (.bool (decide (k<0) || decide ((i:Int)≤k)))∧w'=w:=by
 by_cases hk:k<0
 ·have d1:decide (k<0)=true:=iX hk
  go_enter Tryz.func296,Tryz.ntmps296;go_wp2
  all_goals (go_ret;refine⟨aT ?_,rfl⟩;simp[*])
 ·have d1:decide (k<0)=false:=dA hk
  go_enter Tryz.func296,Tryz.ntmps296;go_wp2
  all_goals (go_ret;refine⟨aT ?_,rfl⟩;simp[*])
def D5 (i:Nat)(k:Int):Bool:=decide (k<0) || decide ((i:Int)≤k)
def aea (p:Bool)(w:World)(e:Ending)(w':World):Prop:=(∃ r:Int,e=.returned (.int .i64 r)∧(0≤r↔p=true)∧-1≤r)∧w'=w
theorem CS (i g B:Nat)(v:Value)(ks:List Int)(w:World)(hg:w.cell? ⟨g,0,none⟩=some (.int .i64 i))(hv:Ints B w v ks)(hn:ks.length≤1099511627776) :
  Calls Tryz.prog 274 #[v,.func (.func 296) #[] #[.pointer (some ⟨g,0,none⟩)]] w (aea (ks.any (D5 i)) w):=by
 obtain⟨ao,cap,rfl,_,hf⟩:=hv.form;have HT:=ay (fun k=>DZ i g k w hg);have HF:=ay hf;clear hf hv hg;go_enter Tryz.func274,Tryz.ntmps274;go_wp2
 go_loop [8] (fun q=>∃ k:Nat,k≤ks.length∧q=.int .i64 k∧∀ j,(hj:j<ks.length)→j<k→D5 i ks[j]=false) (fun q=>ks.length - (intOf q).toNat)
 case atStart=>exact⟨0,lI _,rfl,fun j _ h=>absurd h (by omega)⟩
 case round =>
  obtain⟨k,hk,rfl,hj⟩:=hrel
  by_cases hlt:k<ks.length
  ·obtain⟨b,off,rfl,_,hc⟩:=HF.out (by omega)
   have hx:=hc k hlt
   have hI:(k:Int)<(ks.length:Int):=by omega
   have hT:=HT.out ks[k]
   cases ht:D5 i ks[k] with
   | true =>
    have hany:ks.any (D5 i)=true:=List.any_eq_true.2 ⟨_,mX hlt,ht⟩;unfold D5 at ht;rw[ht] at hT;generalize ks[k]=x at hx hT;have H1:=ay hT;have H2:=ay hany;clear hc hj ht hT hany;go_wp2_with (go_at_call 296;refine H1.out.mono ?_;rintro e w1 ⟨rfl,rfl⟩);go_ret;exact⟨⟨k,rfl,⟨fun _=>H2.out,fun _=>by omega⟩,by omega⟩,rfl⟩
   | false =>
    have HJ:Hid (∀ j,(hj:j<ks.length)→j<k+1→D5 i ks[j]=false):=ay (fun j hjl hjk=>by
     by_cases hkj:j=k
     ·subst hkj;exact ht
     ·exact hj j hjl (by omega))
    unfold D5 at ht;rw[ht] at hT;generalize ks[k]=x at hx hT;have H1:=ay hT;clear hc hj ht hT;go_wp2_with (go_at_call 296;refine H1.out.mono ?_;rintro e w1 ⟨rfl,rfl⟩)
    go_round
    case rel=>exact⟨k+1,by omega,by go_num,HJ.out⟩
    case measure=>simp[intOf];omega
  ·have hany:ks.any (D5 i)=false:=by
    rw[← Bool.not_eq_true,List.any_eq_true];rintro⟨x,hx,hb⟩;obtain⟨j,hjl,e⟩:=List.mem_iff_getElem.1 hx;rw[← e,hj j hjl (by omega)] at hb;cases hb
   have hI:decide ((k:Int)<(ks.length:Int))=false:=dA (by omega);have H2:=ay hany;clear hany hj;go_wp2;go_ret;exact⟨⟨-1,rfl,⟨fun h=>by omega,fun h=>by rw[H2.out] at h;cases h⟩,by omega⟩,rfl⟩
theorem yh (i g B:Nat)(v:Value)(ks:List Int)(w:World)(hg:w.cell? ⟨g,0,none⟩=some (.int .i64 i))(hv:Ints B w v ks)(hn:ks.length≤1099511627776) :
  Calls Tryz.prog 231 #[v,.func (.func 296) #[] #[.pointer (some ⟨g,0,none⟩)]] w fun e w'=>e=.returned (.bool (ks.any (D5 i)))∧w'=w:=by
 have H:=ay (CS i g B v ks w hg hv hn);clear hg hv;go_enter Tryz.func231,Tryz.ntmps231;go_wp2_with (go_at_call 274;refine H.out.mono ?_);rintro e w1 ⟨⟨r,rfl,hr,_⟩,rfl⟩
 have hq:(ks.any (D5 i))=decide (0≤r):=by
  by_cases h:0≤r
  ·rw[iX h];exact hr.1 h
  ·rw[dA h,← Bool.not_eq_true];exact fun q=>h (hr.2 q)
 have HQ:=ay hq;clear hq hr;go_wp2;go_ret;exact⟨aT HQ.out.symm,rfl⟩
theorem PY (at_ an:Option Addr)(nt ct nn cn i B:Nat)(n:Nd)(kv:Value)(w:World)(hk:Ints B w kv n.aA)(hB:B≤w.heap.size)(hn:n.aA.length≤1099511627776) :
  Calls Tryz.prog 275 #[.agg #[.slice at_ nt ct,.slice an nn cn],.int .i64 i,.agg #[.int .i64 n.kind,.int .i64 n.tok,kv]] w fun e w'=>e=.returned (.bool (jh nt i n))∧Below w.heap.size w w':=by
 obtain⟨kind,tok,ks⟩:=n;simp only at hk hn ⊢;obtain⟨ak,ck,rfl,_,_⟩:=hk.form
 by_cases h1:kind<1
 ·have hq:jh nt i ⟨kind,tok,ks⟩=false:=by simp[jh,h1]
  rw[hq];clear hq;have d1:decide (kind<1)=true:=iX h1;go_enter Tryz.func275,Tryz.ntmps275;go_wp2;go_ret;exact⟨rfl,(((bI _ _).alloc (bD _) _).alloc (by simp) _).alloc (by simp;omega) _⟩
 by_cases h2:19<kind
 ·have hq:jh nt i ⟨kind,tok,ks⟩=false:=by simp[jh,h2]
  rw[hq];clear hq;have d1:decide (kind<1)=false:=dA h1;have d2:decide (19<kind)=true:=iX h2;go_enter Tryz.func275,Tryz.ntmps275;go_wp2;go_ret;exact⟨rfl,(((bI _ _).alloc (bD _) _).alloc (by simp) _).alloc (by simp;omega) _⟩
 have d1:decide (kind<1)=false:=dA h1;have d2:decide (19<kind)=false:=dA h2
 by_cases h3:kind=19
 ·subst h3
  have hq:jh nt i ⟨19,tok,ks⟩=(decide ((ks.length:Int)=0) && (decide (0≤tok) && decide (tok<nt))):=by simp[jh]
  rw[hq];clear hq hk d1 d2
  by_cases h4:ks.length=0
  ·obtain rfl:ks=[]:=List.length_eq_zero_iff.1 h4
   clear h4
   by_cases h5:0≤tok
   ·have d5:decide (0≤tok)=true:=iX h5
    cases d6:decide (tok<(nt:Int)) with
    | true =>
     go_enter Tryz.func275,Tryz.ntmps275;go_wp2;go_ret;exact⟨aT (by simp[*]),(((bI _ _).alloc (bD _) _).alloc (by simp) _).alloc (by simp;omega) _⟩
    | false =>
     go_enter Tryz.func275,Tryz.ntmps275;go_wp2;go_ret;exact⟨aT (by simp[*]),(((bI _ _).alloc (bD _) _).alloc (by simp) _).alloc (by simp;omega) _⟩
   ·have d5:decide (0≤tok)=false:=dA h5
    go_enter Tryz.func275,Tryz.ntmps275;go_wp2;go_ret;exact⟨aT (by simp[*]),(((bI _ _).alloc (bD _) _).alloc (by simp) _).alloc (by simp;omega) _⟩
  ·have d4:((ks.length:Int) == 0)=false:=by simp[h4]
   have d5:decide ((ks.length:Int)=0)=false:=dA (by omega);rw[d5,Bool.false_and];clear d5;go_enter Tryz.func275,Tryz.ntmps275;go_wp2;go_ret;exact⟨rfl,(((bI _ _).alloc (bD _) _).alloc (by simp) _).alloc (by simp;omega) _⟩
 ·have d3:(kind == 19)=false:=by simp[h3]
  by_cases h4:tok=-1
  ·subst h4
   have hq:jh nt i ⟨kind,-1,ks⟩=!(ks.any (D5 i)):=by
    unfold jh;rw[if_neg (by simp only;omega),if_neg h3]
    rfl
   rw[hq];clear hq;have HK:=ay hk;clear hk;go_enter Tryz.func275,Tryz.ntmps275;go_wp2_with (go_at_call 231;refine(yh i (w.heap.size+1) B _ ks _ ?c1 (HK.out.below ?c2) hn).mono ?_)
   case c2=>exact(((bI _ _).alloc hB _).alloc (by simp;omega) _).alloc (by simp;omega) _
   go_ret;exact⟨rfl,(((bI _ _).alloc (bD _) _).alloc (by simp) _).alloc (by simp;omega) _⟩
  ·have hq:jh nt i ⟨kind,tok,ks⟩=false:=by
    unfold jh;rw[if_neg (by simp only;omega),if_neg h3];simp[h4]
   rw[hq];clear hq hk
   have d4:(tok == -1)=false:=by simp[h4]
   go_enter Tryz.func275,Tryz.ntmps275;go_wp2;go_ret;exact⟨rfl,(((bI _ _).alloc (bD _) _).alloc (by simp) _).alloc (by simp;omega) _⟩
def nV (P:Nat→Prop)(w:World)(v:Value)(sz n:Nat)(cs:List Value):Prop :=
 ∃ ao cap,v=.slice ao n cap∧n≤cap∧cs.length=n * sz ∧
  (0<n→∃ b off,ao=some ⟨b,off,none⟩∧P b∧b<w.heap.size∧∀ i,(h:i<cs.length)→w.cell? ⟨b,off+i,none⟩=some cs[i])
def aW (P:Nat→Prop)(w w':World):Prop:=w.heap.size≤w'.heap.size∧∀ b,P b→b<w.heap.size→w'.heap[b]?=w.heap[b]?
theorem aW.refl (P:Nat→Prop)(w:World):aW P w w:=⟨bD _,fun _ _ _=>rfl⟩
theorem aW.trans {P:Nat→Prop}{a b c:World}(h:aW P a b)(k:aW P b c):aW P a c:=⟨jc h.1 k.1,fun n hn hl=>(k.2 n hn (Nat.lt_of_lt_of_le hl h.1)).trans (h.2 n hn hl)⟩
theorem aW.of {P:Nat→Prop}{w w':World}(h:Below w.heap.size w w'):aW P w w':=⟨h.size,fun b _ hb=>h.block b hb⟩
theorem aW.ru {P:Nat→Prop}{B:Nat}{w w':World}(h:Below B w w')(hP:∀ b,P b→b<B):aW P w w':=⟨h.size,fun b hb _=>h.block b (hP b hb)⟩
theorem aW.grown {P:Nat→Prop}{w w':World}{row:Option Nat}(h:w.grownBy w' row)(hP:∀ b,P b→some b≠row):aW P w w':=⟨h.size,fun b hb hl=>h.block b hl (hP b hb)⟩
theorem aW.set {P:Nat→Prop}{w:World}{a:Addr}(u:Value)(hP:∀ b,P b→b≠a.block):aW P w (w.setCell a u):=⟨by simp,fun b hb _=>heap_setCell_other _ _ _ _ (hP b hb)⟩
theorem nV.frame {P:Nat→Prop}{w w':World}{v:Value}{sz n:Nat}{cs:List Value}(h:nV P w v sz n cs)(ha:aW P w w'):nV P w' v sz n cs:=by
 obtain⟨ao,cap,hv,hn,hl,hc⟩:=h;refine⟨ao,cap,hv,hn,hl,fun h0=>?_⟩;obtain⟨b,off,e,hP,hlt,hcell⟩:=hc h0;exact⟨b,off,e,hP,Nat.lt_of_lt_of_le hlt ha.1,fun i hi=>(World.cell?_of_block (a:=⟨b,off+i,none⟩) (ha.2 b hP hlt)).trans (hcell i hi)⟩
theorem nV.imp {P Q:Nat→Prop}{w:World}{v:Value}{sz n:Nat}{cs:List Value}(h:nV P w v sz n cs)(hq:∀ b,P b→b<w.heap.size→Q b):nV Q w v sz n cs:=by
 obtain⟨ao,cap,hv,hn,hl,hc⟩:=h;refine⟨ao,cap,hv,hn,hl,fun h0=>?_⟩;obtain⟨b,off,e,hP,hlt,hcell⟩:=hc h0;exact⟨b,off,e,hq b hP hlt,hlt,hcell⟩
theorem nV.nil (P:Nat→Prop)(w:World)(sz:Nat):nV P w (.slice none 0 0) sz 0 []:=⟨none,0,rfl,bD _,by simp,fun h=>absurd h (by omega)⟩
theorem nV.fZ {P:Nat→Prop}{B:Nat}{w:World}{e sz:Nat}{v:Value}{n:Nat}{cs:List Value}(h:w.ownsRow B e sz v n cs)(hP:∀ b,B≤b→P b):nV P w v sz n cs:=by
 obtain⟨ao,cap,hv,hn,hl,hc⟩:=Sl.fZ h;refine⟨ao,cap,hv,hn,hl,fun h0=>?_⟩;obtain⟨b,off,e,hlt,hcell⟩:=hc h0;refine⟨b,off,e,hP b ?_,hlt,hcell⟩
 rcases h.2 with ⟨hv',h1⟩|⟨g,jE,cur,hv',hg,_⟩
 ·omega
 ·rw[hv,e] at hv'
  simp only[Value.slice.injEq,Option.some.injEq,Addr.mk.injEq] at hv';omega
theorem nV.form {P:Nat→Prop}{w:World}{v:Value}{sz n:Nat}{cs:List Value}(h:nV P w v sz n cs):∃ ao cap,v=.slice ao n cap:=by
 obtain⟨ao,cap,hv,_⟩:=h;exact⟨ao,cap,hv⟩
structure Shape where
 sz:Nat
 cells:PE→Value→Value→List Value
 agg:PE→Value→Value→Value
 num:(Nat→Prop)→World→Int→Value→Prop
 len:∀ e m k,(cells e m k).length=sz
 frame:∀ {P:Nat→Prop} {w w':World} {n:Int} {m:Value},num P w n m→aW P w w'→num P w' n m
 imp:∀ {P Q:Nat→Prop} {w:World} {n:Int} {m:Value},num P w n m→(∀ b,P b→b<w.heap.size→Q b)→num Q w n m
def qF (S:Shape):List PE→List (Value × Value)→List Value
 | e :: es,p :: l=>S.cells e p.1 p.2++qF S es l
 | _,_=>[]
mutual
def oZ (S:Shape)(P:Nat→Prop)(w:World)(mag kv:Value):PE→Prop
 | .mk _op _name aa1 num ahk afR aA _at_=>S.num P w num mag∧∃ l:List (Value × Value),nV P w kv S.sz aA.length (qF S aA l)∧iN S P w l aA
def iN (S:Shape)(P:Nat→Prop)(w:World)(l:List (Value × Value)):List PE→Prop
 | []=>l=[]
 | e :: es=>∃ p l',l=p :: l'∧oZ S P w p.1 p.2 e∧iN S P w l' es
end
mutual
theorem oZ.frame {S:Shape}{P:Nat→Prop}{w w':World}(ha:aW P w w'):∀ {e:PE} {m k:Value},oZ S P w m k e→oZ S P w' m k e
 | .mk op name module num txt yes aA at_,m,k,h=>by
  rw[oZ] at h ⊢;obtain⟨h1,l,h2,h3⟩:=h;exact⟨S.frame h1 ha,l,h2.frame ha,iN.frame ha h3⟩
theorem iN.frame {S:Shape}{P:Nat→Prop}{w w':World}(ha:aW P w w'):∀ {es:List PE} {l:List (Value × Value)},iN S P w l es→iN S P w' l es
 | [],l,h=>by rw[iN] at h ⊢;exact h
 | e :: es,l,h=>by
  rw[iN] at h ⊢;obtain⟨p,l',h1,h2,h3⟩:=h;exact⟨p,l',h1,oZ.frame ha h2,iN.frame ha h3⟩
end
mutual
theorem oZ.imp {S:Shape}{P Q:Nat→Prop}{w:World}(hq:∀ b,P b→b<w.heap.size→Q b):∀ {e:PE} {m k:Value},oZ S P w m k e→oZ S Q w m k e
 | .mk op name module num txt yes aA at_,m,k,h=>by
  rw[oZ] at h ⊢;obtain⟨h1,l,h2,h3⟩:=h;exact⟨S.imp h1 hq,l,h2.imp hq,iN.imp hq h3⟩
theorem iN.imp {S:Shape}{P Q:Nat→Prop}{w:World}(hq:∀ b,P b→b<w.heap.size→Q b):∀ {es:List PE} {l:List (Value × Value)},iN S P w l es→iN S Q w l es
 | [],l,h=>by rw[iN] at h ⊢;exact h
 | e :: es,l,h=>by
  rw[iN] at h ⊢;obtain⟨p,l',h1,h2,h3⟩:=h;exact⟨p,l',h1,oZ.imp hq h2,iN.imp hq h3⟩
end
theorem iN.len {S:Shape}{P:Nat→Prop}{w:World}:∀ {es:List PE} {l:List (Value × Value)},iN S P w l es→l.length=es.length
 | [],l,h=>by rw[iN] at h;subst h;rfl
 | e :: es,l,h=>by
  rw[iN] at h;obtain⟨p,l',rfl,_,h3⟩:=h;simp[iN.len h3]
theorem iN.snoc {S:Shape}{P:Nat→Prop}{w:World}:∀ {es:List PE} {l:List (Value × Value)} {e:PE} {m k:Value},iN S P w l es→oZ S P w m k e→iN S P w (l++[(m,k)]) (es++[e])
 | [],l,e,m,k,h,h2=>by
  rw[iN] at h;subst h;rw[qc,qc,iN];exact⟨(m,k),[],rfl,h2,by rw[iN]⟩
 | x :: es,l,e,m,k,h,h2=>by
  rw[iN] at h;obtain⟨p,l',rfl,h3,h4⟩:=h;rw[jN,jN,iN];exact⟨p,_,rfl,h3,h4.snoc h2⟩
theorem D6 (S:Shape):∀ (es:List PE) (l:List (Value × Value)) (e:PE) (m k:Value),l.length=es.length→qF S (es++[e]) (l++[(m,k)])=qF S es l++S.cells e m k
 | [],[],e,m,k,_=>by simp[qF]
 | x :: es,p :: l,e,m,k,h=>by
  simp only[jN,qF,D6 S es l e m k (by simpa using h),nQ]
 | [],_ :: _,_,_,_,h=>by simp at h
 | _ :: _,[],_,_,_,h=>by simp at h
theorem LY (S:Shape):∀ (es:List PE) (l:List (Value × Value)) (i j:Nat) (hl:l.length=es.length) (hi:i<es.length),j<S.sz→(qF S es l)[i * S.sz+j]?=(S.cells es[i] (l[i]'(by omega)).1 (l[i]'(by omega)).2)[j]?
 | [],[],i,j,_,h,_=>absurd h (by simp)
 | x :: es,p :: l,0,j,_,_,hj=>by
  simp only[qF,Nat.zero_mul,Nat.zero_add,List.getElem_cons_zero];rw[List.getElem?_append_left (by rw[S.len];exact hj)]
 | x :: es,p :: l,i+1,j,hl,hi,hj=>by
  simp only[qF,List.getElem_cons_succ];rw[List.getElem?_append_right (by rw[S.len,Nat.succ_mul];omega),S.len,show (i+1) * S.sz+j - S.sz=i * S.sz+j by rw[Nat.succ_mul];omega];exact LY S es l i j (by simpa using hl) (by simpa using hi) hj
 | [],_ :: _,_,_,h,_,_=>by simp at h
 | _ :: _,[],_,_,h,_,_=>by simp at h
theorem iN.get {S:Shape}{P:Nat→Prop}{w:World}:∀ {es:List PE} {l:List (Value × Value)} (h:iN S P w l es) (i:Nat) (hi:i<es.length),oZ S P w (l[i]'(by rw[h.len];exact hi)).1 (l[i]'(by rw[h.len];exact hi)).2 es[i]
 | [],l,h,i,hi=>absurd hi (by simp)
 | e :: es,l,h,i,hi=>by
  have h':=h;rw[iN] at h';obtain⟨p,l',rfl,h3,h4⟩:=h'
  cases i with
  | zero=>exact h3
  | succ i=>exact h4.get i (by simpa using hi)
theorem oZ.form {S:Shape}{P:Nat→Prop}{w:World}{e:PE}{mag kv:Value}(h:oZ S P w mag kv e):S.num P w e.num mag∧∃ ao cap,kv=.slice ao e.aA.length cap∧e.aA.length≤cap ∧
  (0<e.aA.length→∃ b off,ao=some ⟨b,off,none⟩∧P b∧b<w.heap.size∧∀ i,(hi:i<e.aA.length)→∃ m k,oZ S P w m k e.aA[i]∧∀ j u,(S.cells e.aA[i] m k)[j]?=some u→w.cell? ⟨b,off+i * S.sz+j,none⟩=some u):=by
 cases e with
 | mk op name module num txt yes aA at_ =>
  rw[oZ] at h;obtain⟨h1,l,⟨ao,cap,hv,hn,hl,hc⟩,h3⟩:=h;refine⟨h1,ao,cap,hv,hn,fun h0=>?_⟩;obtain⟨b,off,ha,hP,hlt,hcell⟩:=hc h0;refine⟨b,off,ha,hP,hlt,fun i hi=>?_⟩;have hll:=h3.len;refine⟨_,_,h3.get i hi,fun j u hu=>?_⟩
  have hj:j<S.sz:=by
   rcases Nat.lt_or_ge j S.sz with h'|h'
   ·exact h'
   ·rw[List.getElem?_eq_none (by rw[S.len];exact h')] at hu;cases hu
  have hr:=LY S aA l i j hll hi hj;have hu':=hr.trans hu;obtain⟨h',e⟩:=pJ hu';have:=hcell (i * S.sz+j) h';rw[e] at this;rw[Nat.add_assoc];exact this
def nD (P:Nat→Prop)(w:World)(n:Int)(m:Value):Prop :=
 ∃ ws:List Nat,nV P w m 1 ws.length (ws.map fun d=>.int .u32 (d:Nat))∧dx ws=ws∧(∀ x∈ws,x<4294967296)∧iM ws=n.natAbs
def dJ (l:List UInt8):Value:=.string ⟨l.toArray⟩
def XA:Shape where
 sz:=8
 cells e m k:=[.int .i64 e.op,dJ e.name,dJ e.module,.bool (decide (e.num<0)),m,.bool e.yes,k,.int .i64 e.at_]
 agg e m k:=.agg #[.int .i64 e.op,dJ e.name,dJ e.module,.bool (decide (e.num<0)),m,.bool e.yes,k,.int .i64 e.at_]
 num:=nD
 len _ _ _:=rfl
 frame h ha:=by obtain⟨ws,h1,h2⟩:=h;exact⟨ws,h1.frame ha,h2⟩
 imp h hq:=by obtain⟨ws,h1,h2⟩:=h;exact⟨ws,h1.imp hq,h2⟩
def XR:Shape where
 sz:=7
 cells e _ k:=[.int .i64 e.op,dJ e.name,dJ e.module,dJ e.txt,.bool e.yes,k,.int .i64 e.at_]
 agg e _ k:=.agg #[.int .i64 e.op,dJ e.name,dJ e.module,dJ e.txt,.bool e.yes,k,.int .i64 e.at_]
 num _ _ _ _:=True
 len _ _ _:=rfl
 frame _ _:=trivial
 imp _ _:=trivial
theorem nD.zero (P:Nat→Prop)(w:World):nD P w 0 (.slice none 0 0):=⟨[],nV.nil P w 1,rfl,fun x h=>(by cases h),rfl⟩
def EPost (S:Shape)(e:PE)(w:World)(r:Ending)(w':World):Prop:=∃ m k,r=.returned (S.agg e m k)∧oZ S (fun b=>w.heap.size≤b) w' m k e∧Below w.heap.size w w'
end Go.Proofs.YtmhdgeekclhbbaaGreatDoor

namespace Go.Proofs.YtmhdgeekclhbbaaGreatDoor
theorem rR {ah:List Tok}{e:Nat}{st:aJ}(he:e≠0)(h:(gU ah e st).fE=0):False:=ny he st h
theorem iO {ah:List Tok}(hE:iE ah){l:List (List UInt8)}{st:aJ}(h:(aH ah l st).2.fE=0) :
  fD st [.leaf] (aH ah l st).2∧(aH ah l st).1=((st.aj.length:Nat):Int)∧aN ah st.used∈l∧st.used+1<ah.length∧st.fE=0:=by
 unfold aH at h ⊢
 split at h
 ·rename_i hc
  rw[if_pos hc];obtain⟨_,e2⟩:=jS hE (bK hc.2);obtain⟨h1,h2⟩:=fD.leaf (ah:=ah) (st:=st) (by omega);refine⟨h1,h2,?_,e2,hc.1⟩;have:=hc.2;simp only[bF,Bool.and_eq_true,decide_eq_true_eq] at this;exact this.2
 ·exact(rR (by decide) h).elim
theorem zn {ah:List Tok}(hE:iE ah){k:Nat}(hk:k≠5){st:aJ}(h:(bA ah k st).2.fE=0) :
  fD st [.leaf] (bA ah k st).2∧(bA ah k st).1=((st.aj.length:Nat):Int)∧iq ah st.used=k∧st.used+1<ah.length∧st.fE=0:=by
 unfold bA at h ⊢
 split at h
 ·rename_i hc
  rw[if_pos hc];have e2:=hE.before (u:=st.used) (by rw[hc.2];exact hk);obtain⟨h1,h2⟩:=fD.leaf (ah:=ah) (st:=st) (by omega);exact⟨h1,h2,hc.2,e2,hc.1⟩
 ·exact(rR (by decide) h).elim
theorem iJ {ah:List Tok}{st:aJ}{l:List (List UInt8)}(h:bF ah st l=true):aN ah st.used∈l:=by
 simp only[bF,Bool.and_eq_true,decide_eq_true_eq] at h;exact h.2
theorem ji {ah:List Tok}(hE:iE ah){st:aJ}(h:iq ah st.used≠5) :
  fD st [.leaf] (aD ah st).2∧(aD ah st).1=((st.aj.length:Nat):Int)∧st.used+1<ah.length:=by
 have e2:=hE.before h;obtain⟨h1,h2⟩:=fD.leaf (ah:=ah) (st:=st) (by omega);exact⟨h1,h2,e2⟩
theorem zo {ah:List Tok}{d n:Nat}{st:aJ}(h:(aX ah d n st).fE=0):aX ah d n st=st:=by
 unfold aX at h ⊢
 split at h
 ·exact(rR (by decide) h).elim
 ·rename_i hn;rw[if_neg hn]
theorem rT {k:Int}{l:List Int}{st:aJ}(h:(bJ k l st).2.fE=0):st.fE=0:=(aL k l st).zero h
theorem fD.res {ah:List Tok}{a b:aJ}{l:List PT}{e:CE}{k:Nat}{ids:List Int}(h:fD a l b)(acN:ids=dw a.aj.length l)(he:e.pt=.node k l)(hok:e.ok ah a.aC a.used)(hf:(bJ k ids b).2.fE=0)(hu:a.used<ah.length→b.used<ah.length) :
  WU ah a (bJ k ids b) e:=by
 subst acN;obtain⟨h1,h2⟩:=h.node (rT hf) k;refine⟨by rw[he];exact h1,by rw[h2,he,PT.nd];omega,hok,fun q=>?_⟩;have:=h1.used;rw[this];have h3:=h.used;have h4:=hu q;rw[h3] at h4
 simpa [bU,PT.lv] using h4
theorem sS (b:Nat)(t:PT)(l:List PT):dw b (t :: l)=(((b+t.nd:Nat):Int) - 1) :: dw (b+t.nd) l:=by rw[dw]
def afS (ah:List Tok):Task→aJ→Int × aJ→Prop
 | .loop _ _ a,st,r=>∀ st0 e0,WU ah st0 (a,st) e0→∃ e,WU ah st0 r e
 | .name _,st,r=>iq ah st.used=1→∃ e,WU ah st r e
 | _,st,r=>∃ e,WU ah st r e
theorem Ul:∀ l:Nat,∀ x∈Az l,x∈qD
 | 0=>by decide
 | 1=>by decide
 | 2=>by decide
 | 3=>by decide
 | _+4=>by
  intro x hx
  have:∀ x∈([[42],[47],[37]]:List (List UInt8)),x∈qD:=by decide
  exact this x hx
theorem xI (ah:List Tok)(hE:iE ah)(one:aJ→Option (Int × aJ))(h1:∀ s k,one s=some k→dP s k.2)(h2:∀ s k,one s=some k→k.2.fE=0→∃ e,WU ah s k e) :
  ∀ (r:Nat) (aA:List Int) (st:aJ) (l:List Int × aJ),bC ah one r aA st=some l→l.2.fE=0 →
   ∃ es:List CE,es≠[]∧es.length≤r∧fD st (fG es) l.2∧l.1=aA++dw st.aj.length (fG es)∧pO ah st.aC st.used es∧(st.used<ah.length→l.2.used<ah.length)
 | 0,aA,st,l,h,hl=>by
  rw[bC] at h
  injection h with h
  subst h
  exfalso
  have hl:(if st.fE=0 then gU ah 15 st else st).fE=0:=hl
  split at hl
  ·exact rR (by decide) hl
  ·rename_i hf;exact hf hl
 | r+1,aA,st,l,h,hl=>by
  rw[bC] at h
  split at h
  ·rename_i hf
   injection h with h;subst h
   exact absurd hl hf
  ·obtain⟨k,hk,h⟩:=cK h
   split at h
   ·rename_i hn
    obtain⟨g1,i1,u1⟩:=ji hE (bK hn.2);obtain⟨e,he1,he2,he3,he4⟩:=h2 _ _ hk hn.1;obtain⟨es,hne,hlen,hg,hi,hok,hu⟩:=xI ah hE one h1 h2 r _ _ _ h hl
    obtain⟨f,es,rfl⟩:∃ f fs,es=f :: fs:=by cases es with
     | nil=>exact absurd rfl hne
     | cons f fs=>exact⟨f,fs,rfl⟩
    have a1:=he1.len;have a2:=he1.used;have a3:=he1.aC;have b1:=g1.len;have b2:=g1.used;have b3:=g1.aC;simp only[eP,bU,PT.nd,PT.lv,Nat.add_zero] at a1 a2 b1 b2;refine⟨e :: f :: es,by simp,by simpa using hlen,?_,?_,?_,fun q=>hu (by have:=he4 q;omega)⟩
    ·rw[om]
     exact(he1.append g1).append hg
    ·rw[hi,om,sS,sS,he2,i1,b1,a1]
     simp only[PT.nd,nQ,jN,qc]
     congr 2
     congr 1
     omega
    ·rw[b2,b3,a2,a3] at hok
     exact⟨he3,hok⟩
   ·injection h with h;subst h
    obtain⟨e,he1,he2,he3,he4⟩:=h2 _ _ hk hl;refine⟨[e],by simp,by simp,by rw[uw];exact he1,?_,⟨he3,trivial⟩,he4⟩;rw[uw,sS,he2];simp[dw]
theorem P6 (ah:List Tok)(hE:iE ah)(one:aJ→Option (Int × aJ))(h1:∀ s k,one s=some k→dP s k.2)(h2:∀ s k,one s=some k→k.2.fE=0→∃ e,WU ah s k e)
  (st:aJ) (l:List Int × aJ) (h:jP ah one st=some l) (hl:l.2.fE=0) :
  ∃ es:List CE,es.length≤8∧fD st (fG es) l.2∧l.1=dw st.aj.length (fG es)∧pO ah st.aC st.used es∧(st.used<ah.length→l.2.used<ah.length):=by
 unfold jP at h
 split at h
 ·injection h with h;subst h
  exact⟨[],by simp,by simpa [fG] using fD.nil st,by simp[fG,dw],trivial,id⟩
 ·obtain⟨es,_,h1,h2,h3,h4,h5⟩:=xI ah hE one h1 h2 _ _ _ _ h hl
  exact⟨es,h1,h2,by rw[h3];simp,h4,h5⟩
theorem kD (ah:List Tok)(hE:iE ah)(d:Nat):∀ (g:Nat) (t:Task) (st:aJ) (r:Int × aJ),run ah d g t st=some r→r.2.fE=0→afS ah t st r
 | 0,_,_,_,h,_=>by rw[run] at h;cases h
 | g+1,.expr aF,st,r,h,hr=>by
  have ih:=kD ah hE d g;have ex:=bg ah d g
  have hd0:(aX ah d aF st).fE=0:=by
   apply Classical.byContradiction
   intro q;rw[run,if_pos q] at h
   injection h with h;subst h
   exact q hr
  rw[run,zo hd0] at h;rw[zo hd0] at hd0;rw[if_neg (by simp[hd0])] at h
  split at h
  ·have q:=ih _ _ _ h hr;exact q
  rename_i hcl
  have hcl:st.aC=false:=by simpa using hcl
  split at h
  ·rename_i hn
   obtain⟨x,h1,h⟩:=cK h;obtain⟨f,h2,h⟩:=cK h
   injection h with h;subst h
   have z2:=(aL _ _ _).zero hr;have z1:=(ex _ _ _ h2).zero z2;have z0:=(aM _ _ _).zero z1;obtain⟨g1,i1,u1⟩:=ji hE (bK hn);obtain⟨g2,i2,k2,u2,y2⟩:=zn hE (by decide) ((aM _ _ _).zero ((ex _ _ _ h1).zero z0));obtain⟨g3,i3,k3,u3,y3⟩:=iO hE ((ex _ _ _ h1).zero z0);obtain⟨e1,g4,i4,o4,w4⟩:=ih _ _ _ h1 z0;obtain⟨g5,i5,k5,u5,y5⟩:=iO hE z1;obtain⟨e2,g6,i6,o6,w6⟩:=ih _ _ _ h2 z2;have G:=((((g1.append g2).append g3).append g4).append g5).append g6;generalize aH ah [WT] x.2=m5 at *;generalize aH ah [[61]] (bA ah 1 (aD ah st).2).2=m3 at *;generalize bA ah 1 (aD ah st).2=m2 at *;generalize aD ah st=m1 at *;have L1:=g1.len;have L2:=g2.len;have L3:=g3.len;have L4:=g4.len;have L5:=g5.len;have U1:=g1.used;have U2:=g2.used;have U3:=g3.used;have U4:=g4.used;have U5:=g5.used;have C1:=g1.aC;have C2:=g2.aC;have C3:=g3.aC;have C4:=g4.aC;have C5:=g5.aC;simp only[eP,bU,PT.nd,PT.lv,Nat.add_zero] at L1 L2 L3 L4 L5 U1 U2 U3 U4 U5;refine⟨.sO e1 e2,G.res (l:=[.leaf,.leaf,.leaf,e1.pt,.leaf,e2.pt]) ?_ (by simp[CE.pt]) ?_ hr (fun _=>w6 (by omega))⟩
   ·have p1:=e1.pt.gZ
    have p2:=e2.pt.gZ;simp only[dw,PT.nd,List.cons.injEq,and_true]
    refine⟨?_,?_,?_,?_,?_,?_⟩<;>omega
   ·refine⟨hcl,by rw[← U1];exact k2,?_,?_⟩
    ·rw[C3,C2,C1,U3,U2,U1] at o4;exact o4
    ·rw[C5,C4,C3,C2,C1,U5,U4,U3,U2,U1] at o6;exact o6
  split at h
  ·rename_i hn
   obtain⟨x,h1,h⟩:=cK h;obtain⟨y,h2,h⟩:=cK h;obtain⟨f,h3,h⟩:=cK h
   injection h with h;subst h
   have z3:=(aL _ _ _).zero hr;have z2:=(ex _ _ _ h3).zero z3;have z2':=(aM _ _ _).zero z2;have z1:=(ex _ _ _ h2).zero z2';have z0:=(aM _ _ _).zero z1;obtain⟨g1,i1,u1⟩:=ji hE (bK hn);obtain⟨e1,g2,i2,o2,w2⟩:=ih _ _ _ h1 z0;obtain⟨g3,i3,k3,u3,y3⟩:=iO hE z1;obtain⟨e2,g4,i4,o4,w4⟩:=ih _ _ _ h2 z2';obtain⟨g5,i5,k5,u5,y5⟩:=iO hE z2;obtain⟨e3,g6,i6,o6,w6⟩:=ih _ _ _ h3 z3;have G:=((((g1.append g2).append g3).append g4).append g5).append g6;generalize aH ah [H7] y.2=m5 at *;generalize aH ah [Hz] x.2=m3 at *;generalize aD ah st=m1 at *;have L1:=g1.len;have L2:=g2.len;have L3:=g3.len;have L4:=g4.len;have L5:=g5.len;have U1:=g1.used;have U2:=g2.used;have U3:=g3.used;have U4:=g4.used;have U5:=g5.used;have C1:=g1.aC;have C2:=g2.aC;have C3:=g3.aC;have C4:=g4.aC;have C5:=g5.aC;simp only[eP,bU,PT.nd,PT.lv,Nat.add_zero] at L1 L2 L3 L4 L5 U1 U2 U3 U4 U5;refine⟨.iff e1 e2 e3,G.res (l:=[.leaf,e1.pt,.leaf,e2.pt,.leaf,e3.pt]) ?_ (by simp[CE.pt]) ?_ hr (fun _=>w6 (by omega))⟩
   ·have p1:=e1.pt.gZ
    have p2:=e2.pt.gZ;have p3:=e3.pt.gZ;simp only[dw,PT.nd,List.cons.injEq,and_true]
    refine⟨?_,?_,?_,?_,?_,?_⟩<;>omega
   ·refine⟨hcl,?_,?_,?_⟩
    ·rw[C1,U1] at o2;exact o2
    ·rw[C3,C2,C1,U3,U2,U1] at o4;exact o4
    ·rw[C5,C4,C3,C2,C1,U5,U4,U3,U2,U1] at o6;exact o6
  split at h
  ·rename_i hn
   obtain⟨x,h1,h⟩:=cK h;obtain⟨f,h2,h⟩:=cK h
   injection h with h;subst h
   have z2:=(aL _ _ _).zero hr;have z1:=(ex _ _ _ h2).zero z2;have z0:=(aM _ _ _).zero z1;obtain⟨g1,i1,u1⟩:=ji hE (bK hn);obtain⟨e1,g2,i2,o2,w2⟩:=ih _ _ _ h1 z0;obtain⟨g3,i3,k3,u3,y3⟩:=iO hE z1;obtain⟨e2,g4,i4,o4,w4⟩:=ih _ _ _ h2 z2;have G:=((g1.append g2).append g3).append g4;generalize aH ah [WT] x.2=m3 at *;generalize aD ah st=m1 at *;have L1:=g1.len;have L2:=g2.len;have L3:=g3.len;have U1:=g1.used;have U2:=g2.used;have U3:=g3.used;have C1:=g1.aC;have C2:=g2.aC;have C3:=g3.aC;simp only[eP,bU,PT.nd,PT.lv,Nat.add_zero] at L1 L2 L3 U1 U2 U3;refine⟨.sP e1 e2,G.res (l:=[.leaf,e1.pt,.leaf,e2.pt]) ?_ (by simp[CE.pt]) ?_ hr (fun _=>w4 (by omega))⟩
   ·have p1:=e1.pt.gZ
    have p2:=e2.pt.gZ;simp only[dw,PT.nd,List.cons.injEq,and_true]
    refine⟨?_,?_,?_,?_⟩<;>omega
   ·refine⟨hcl,?_,?_⟩
    ·rw[C1,U1] at o2;exact o2
    ·rw[C3,C2,C1,U3,U2,U1] at o4;exact o4
  ·have q:=ih _ _ _ h hr;exact q
 | g+1,.formula aF,st,r,h,hr=>by
  have ih:=kD ah hE d g;have ex:=bg ah d g;rw[run] at h;obtain⟨a,h1,h⟩:=cK h
  split at h
  ·rename_i hn
   have hd0:(aX ah d (aF+1) (aD ah a.2).2).fE=0:=by
    apply Classical.byContradiction
    intro q;rw[if_pos q] at h
    injection h with h;subst h
    exact q hr
   rw[if_neg (by simp[hd0]),zo hd0] at h;obtain⟨b,h2,h⟩:=cK h
   injection h with h;subst h
   have z2:=(aL _ _ _).zero hr;obtain⟨e1,g1,i1,o1,w1⟩:=ih _ _ _ h1 hn.1;obtain⟨g2,i2,u2⟩:=ji hE (bK hn.2);have hx:=iJ hn.2;obtain⟨e2,g3,i3,o3,w3⟩:=ih _ _ _ h2 z2;have G:=(g1.append g2).append g3;generalize aD ah a.2=m2 at *;have L1:=g1.len;have L2:=g2.len;have U1:=g1.used;have U2:=g2.used;have C1:=g1.aC;have C2:=g2.aC;simp only[eP,bU,PT.nd,PT.lv,Nat.add_zero] at L1 L2 U1 U2;refine⟨.bin e1 e2,G.res (l:=[e1.pt,.leaf,e2.pt]) ?_ (by simp[CE.pt]) ?_ hr (fun _=>w3 (by omega))⟩
   ·have p1:=e1.pt.gZ
    have p2:=e2.pt.gZ;simp only[dw,PT.nd,List.cons.injEq,and_true]
    refine⟨?_,?_,?_⟩<;>omega
   ·refine⟨?_,o1,?_⟩
    ·rw[← U1]
     simp only[List.mem_singleton] at hx;rw[hx]
     decide
    ·rw[C2,C1,U2,U1] at o3;exact o3
  ·injection h with h;subst h
   have q:=ih _ _ _ h1 hr;exact q
 | g+1,.part l aF,st,r,h,hr=>by
  have ih:=kD ah hE d g;rw[run] at h
  split at h
  ·have q:=ih _ _ _ h hr;exact q
  ·split at h
   ·have q:=ih _ _ _ h hr;exact q
   ·have q:=ih _ _ _ h hr;exact q
 | g+1,.row l aF,st,r,h,hr=>by
  have ih:=kD ah hE d g;have ex:=bg ah d g;rw[run] at h;obtain⟨a,h1,h⟩:=cK h;obtain⟨e1,he⟩:=ih _ _ _ h1 ((ex _ _ _ h).zero hr);exact ih _ _ _ h hr st e1 he
 | g+1,.loop l aF a,st,r,h,hr=>by
  have ih:=kD ah hE d g;have ex:=bg ah d g;intro st0 e0 h0;rw[run] at h
  split at h
  ·rename_i hn
   obtain⟨b,h1,h⟩:=cK h
   have z:(bJ 10 [a,(aD ah st).1,b.1] b.2).2.fE=0:=by
    split at h
    ·injection h with h;subst h;exact hr
    ·exact(ex _ _ _ h).zero hr
   obtain⟨g2,i2,u2⟩:=ji hE (bK hn.2);have hx:=iJ hn.2;obtain⟨g1,i1,o1,w1⟩:=h0;obtain⟨e2,g3,i3,o3,w3⟩:=ih _ _ _ h1 ((aL _ _ _).zero z);have G:=(g1.append g2).append g3;generalize aD ah st=m2 at *;simp only at g1 i1;have L1:=g1.len;have L2:=g2.len;have U1:=g1.used;have U2:=g2.used;have C1:=g1.aC;have C2:=g2.aC;simp only[eP,bU,PT.nd,PT.lv,Nat.add_zero] at L1 L2 U1 U2
   have hR:WU ah st0 (bJ 10 [a,m2.1,b.1] b.2) (.bin e0 e2):=by
    refine G.res (l:=[e0.pt,.leaf,e2.pt]) ?_ (by simp[CE.pt]) ?_ z (fun _=>w3 (by omega))
    ·have p1:=e0.pt.gZ
     have p2:=e2.pt.gZ;simp only[dw,PT.nd,List.cons.injEq,and_true]
     refine⟨?_,?_,?_⟩<;>omega
    ·refine⟨?_,o1,?_⟩
     ·rw[← U1]
      exact Ul l _ hx
     ·rw[C2,C1,U2,U1] at o3;exact o3
   split at h
   ·injection h with h;subst h;exact⟨_,hR⟩
   ·exact ih _ _ _ h hr st0 _ hR
  ·injection h with h;subst h
   exact⟨e0,h0⟩
 | g+1,.neg aF,st,r,h,hr=>by
  have ih:=kD ah hE d g;rw[run] at h
  split at h
  ·rename_i hn
   have hd0:(aX ah d (aF+1) (aD ah st).2).fE=0:=by
    apply Classical.byContradiction
    intro q;rw[if_pos q] at h
    injection h with h;subst h
    exact q hr
   rw[if_neg (by simp[hd0]),zo hd0] at h;obtain⟨b,h2,h⟩:=cK h
   injection h with h;subst h
   obtain⟨g2,i2,u2⟩:=ji hE (bK hn.2);have hx:=iJ hn.2;obtain⟨e2,g3,i3,o3,w3⟩:=ih _ _ _ h2 ((aL _ _ _).zero hr);have G:=g2.append g3;generalize aD ah st=m2 at *;have L2:=g2.len;have U2:=g2.used;have C2:=g2.aC;simp only[eP,bU,PT.nd,PT.lv,Nat.add_zero] at L2 U2;refine⟨.un e2,G.res (l:=[.leaf,e2.pt]) ?_ (by simp[CE.pt]) ?_ hr (fun _=>w3 (by omega))⟩
   ·have p2:=e2.pt.gZ
    simp only[dw,PT.nd,List.cons.injEq,and_true]
    refine⟨?_,?_⟩<;>omega
   ·refine⟨.inl (by simpa using hx),?_⟩
    rw[C2,U2] at o3;exact o3
  ·have q:=ih _ _ _ h hr;exact q
 | g+1,.factor aF,st,r,h,hr=>by
  have ih:=kD ah hE d g;rw[run] at h
  split at h
  ·rename_i hn
   have hd0:(aX ah d (aF+1) (aD ah st).2).fE=0:=by
    apply Classical.byContradiction
    intro q;rw[if_pos q] at h
    injection h with h;subst h
    exact q hr
   rw[if_neg (by simp[hd0]),zo hd0] at h;obtain⟨b,h2,h⟩:=cK h
   injection h with h;subst h
   obtain⟨g2,i2,u2⟩:=ji hE (bK hn.2);have hx:=iJ hn.2;obtain⟨e2,g3,i3,o3,w3⟩:=ih _ _ _ h2 ((aL _ _ _).zero hr);have G:=g2.append g3;generalize aD ah st=m2 at *;have L2:=g2.len;have U2:=g2.used;have C2:=g2.aC;simp only[eP,bU,PT.nd,PT.lv,Nat.add_zero] at L2 U2;refine⟨.un e2,G.res (l:=[.leaf,e2.pt]) ?_ (by simp[CE.pt]) ?_ hr (fun _=>w3 (by omega))⟩
   ·have p2:=e2.pt.gZ
    simp only[dw,PT.nd,List.cons.injEq,and_true]
    refine⟨?_,?_⟩<;>omega
   ·refine⟨.inr (by simpa using hx),?_⟩
    rw[C2,U2] at o3;exact o3
  ·have q:=ih _ _ _ h hr;exact q
 | g+1,.atom aF,st,r,h,hr=>by
  have ih:=kD ah hE d g;have ex:=bg ah d g
  have single:∀ (k:Nat) (e:CE),iq ah st.used≠5→e.pt=.node k [.leaf]→e.ok ah st.aC st.used→(bJ k [(aD ah st).1] (aD ah st).2).2.fE=0→WU ah st (bJ k [(aD ah st).1] (aD ah st).2) e:=by
   intro k e h5 he hok hz;obtain⟨g2,i2,u2⟩:=ji hE h5;have U2:=g2.used;simp only[bU,PT.lv,Nat.add_zero] at U2;refine g2.res ?_ he hok hz (fun _=>by omega);rw[i2];simp only[dw,PT.nd,List.cons.injEq,and_true];omega
  rw[run] at h
  split at h
  ·rename_i hf
   injection h with h;subst h
   exact absurd hr hf
  split at h
  ·rename_i hk
   injection h with h;subst h
   exact⟨.num,single 15 .num (by rw[iq];omega) (by simp[CE.pt]) hk hr⟩
  split at h
  ·rename_i hn
   injection h with h;subst h
   refine⟨.truth,single 16 .truth (bK hn) (by simp[CE.pt]) ?_ hr⟩;have:=iJ hn
   simpa [CE.ok] using this
  split at h
  ·rename_i hn
   injection h with h;subst h
   refine⟨.res,single 17 .res (bK hn.2) (by simp[CE.pt]) ?_ hr⟩;have:=iJ hn.2;exact⟨hn.1,by simpa using this⟩
  split at h
  ·rename_i hn
   obtain⟨b,h1,h⟩:=cK h
   injection h with h;subst h
   have z1:=(aL _ _ _).zero hr;obtain⟨g1,i1,u1⟩:=ji hE (bK hn);have hx:=iJ hn;obtain⟨e2,g2,i2,o2,w2⟩:=ih _ _ _ h1 ((aM _ _ _).zero z1);obtain⟨g3,i3,k3,u3,y3⟩:=iO hE z1;have G:=(g1.append g2).append g3;generalize aH ah [[41]] b.2=m3 at *;generalize aD ah st=m1 at *;have L1:=g1.len;have L2:=g2.len;have U1:=g1.used;have U2:=g2.used;have U3:=g3.used;have C1:=g1.aC;simp only[eP,bU,PT.nd,PT.lv,Nat.add_zero] at L1 L2 U1 U2 U3;refine⟨.group e2,G.res (l:=[.leaf,e2.pt,.leaf]) ?_ (by simp[CE.pt]) ?_ hr (fun _=>by omega)⟩
   ·have p2:=e2.pt.gZ
    simp only[dw,PT.nd,List.cons.injEq,and_true]
    refine⟨?_,?_,?_⟩<;>omega
   ·refine⟨by simpa using hx,?_⟩
    rw[C1,U1] at o2;exact o2
  split at h
  ·rename_i hk
   have q:=ih _ _ _ h hr;exact q hk
  ·injection h with h;subst h
   exact(rR (by decide) hr).elim
 | g+1,.name aF,st,r,h,hr=>by
  have ih:=kD ah hE d g;have ex:=bg ah d g;rw[run] at h;intro hk1
  ·obtain⟨g1,i1,u1⟩:=ji hE (st:=st) (by omega)
   have L1:=g1.len;have U1:=g1.used;have C1:=g1.aC;simp only[eP,bU,PT.nd,PT.lv,Nat.add_zero] at L1 U1;generalize aD ah st=m1 at *
   split at h
   ·injection h with h;subst h
    refine⟨.PO,g1.res (l:=[.leaf]) ?_ (by simp[CE.pt]) hk1 hr (fun _=>by omega)⟩;rw[i1];simp only[dw,PT.nd,List.cons.injEq,and_true];omega
   ·rename_i hn
    have hcl:st.aC=false:=by
     rw[← C1,← Bool.not_eq_true]
     exact fun q=>hn (.inl q)
    obtain⟨l,h1,h⟩:=cK h
    injection h with h;subst h
    have z3:=(aL _ _ _).zero hr;have z2:=(aM _ _ _).zero z3
    have hone:∀ s k,run ah d g (.expr (aF+1)) s=some k→k.2.fE=0→∃ e,WU ah s k e:=fun s k hk hz=>ih _ _ _ hk hz
    obtain⟨es,hlen,g4,i4,o4,w4⟩:=P6 ah hE _ (fun s k hk=>ex _ _ _ hk) hone _ _ h1 z2;obtain⟨g5,i5,k5,u5,y5⟩:=iO hE z3;have z1:=(mE ah _ (fun s k hk=>ex _ _ _ hk) _ _ h1).zero z2;obtain⟨g3,i3,k3,u3,y3⟩:=iO hE z1;generalize aH ah [[41]] l.2=m5 at *;generalize hq:nU ah m1=q at *;generalize aH ah [[40]] q.2=m3 at *;have L3:=g3.len;have L4:=g4.len;have U3:=g3.used;have U4:=g4.used;have U5:=g5.used;have C3:=g3.aC;simp only[eP,bU,PT.nd,PT.lv,Nat.add_zero] at L3 U3 U5;unfold nU at hq
    split at hq
    ·rename_i aeb
     subst hq;have hx:=iJ aeb;obtain⟨p1,j1,v1⟩:=ji hE (st:=m1.2) (bK aeb);obtain⟨p2,j2,kk2,v2,yy2⟩:=zn hE (k:=1) (by decide) y3;simp only at g3 i3 k3 u3 L3 U3 C3;generalize bA ah 1 (aD ah m1.2).2=n2 at *;generalize aD ah m1.2=n1 at *;have M1:=p1.len;have M2:=p2.len;have V1:=p1.used;have V2:=p2.used;have D1:=p1.aC;have D2:=p2.aC;simp only[eP,bU,PT.nd,PT.lv,Nat.add_zero] at M1 M2 V1 V2;have G:=((((g1.append p1).append p2).append g3).append g4).append g5;refine⟨.call true es,G.res (l:=[.leaf,.leaf,.leaf]++[.leaf]++fG es++[.leaf]) ?_ (by simp[CE.pt]) ?_ hr (fun _=>by omega)⟩
     ·simp only[oV,i4,i1,i3,i5,j1,j2,oh]
      simp only[dw,eP,PT.nd,jN,qc,Nat.add_zero];rw[L4,L3,M2,M1,L1]
      have e0:∀ a b:Nat,a=b→dw a (fG es)=dw b (fG es):=fun a b h=>by rw[h]
      rw[e0 (st.aj.length+1+1+1+1) (st.aj.length+(1+(1+1)+1)) (by omega)];simp only[List.cons.injEq,List.append_cancel_left_eq,and_true]
      refine⟨?_,?_,?_,?_,?_⟩<;>omega
     ·refine⟨hcl,hk1,hlen,?_⟩
      rw[C3,D2,D1,C1,U3,V2,V1,U1] at o4;rw[V1,U1] at kk2;rw[U1] at hx;exact⟨by simpa using hx,kk2,o4⟩
    ·subst hq
     simp only at g3 i3 k3 u3 L3 U3 C3;have G:=((g1.append g3).append g4).append g5;refine⟨.call false es,G.res (l:=[.leaf]++[.leaf]++fG es++[.leaf]) ?_ (by simp[CE.pt]) ?_ hr (fun _=>by omega)⟩
     ·simp only[oV,i4,i1,i3,i5,oh]
      simp only[dw,eP,PT.nd,jN,qc,Nat.add_zero];rw[L4,L3,L1]
      have e0:∀ a b:Nat,a=b→dw a (fG es)=dw b (fG es):=fun a b h=>by rw[h]
      rw[e0 (st.aj.length+1+1) (st.aj.length+(1+1)) (by omega)];simp only[List.cons.injEq,List.append_cancel_left_eq,and_true]
      refine⟨?_,?_,?_⟩<;>omega
     ·refine⟨hcl,hk1,hlen,?_⟩
      rw[C3,C1,U3,U1] at o4;rw[U1] at k3;exact⟨by simpa using k3,o4⟩
