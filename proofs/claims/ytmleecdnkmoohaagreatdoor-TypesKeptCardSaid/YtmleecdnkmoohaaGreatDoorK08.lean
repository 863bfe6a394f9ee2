/- Walks and plain laws, without a condition. -/
import Derived.Test.YtmleecdnkmoohaaGreatDoorK07
import Derived.Laws.BitsAllLaws
import Derived.Lib.UnsafeStr
import Derived.Shelf.RegionOpen
import Derived.Lib.ItoaNum
import Derived.Lib.TrimByte
import Derived.Maps.AppendAt
import Derived.RangeFuncBox
import Derived.Lib.SlicesMore
set_option maxHeartbeats 16000000
set_option maxRecDepth 100000
set_option linter.unusedVariables false
set_option linter.unusedSimpArgs false
namespace Go.Proofs.YtmleecdnkmoohaaGreatDoor
variable{ah l:List Tok}{d a u N M:Nat}{aj:List Nd}{S:aH}{P:PE->Prop}{p:l6}
def okL {α:Type}(P:α->Nat->Prop)(T:α->PT):Nat->List α->Prop
 | _,[]=>True
 | u,a :: l=>P a u/\okL P T (u+(T a).lv) l
theorem QV {α:Type}{ah:List Tok}{one:aK->Option (Int × aK)}{first:List aH}(T:α->PT)(P:α->Nat->Prop)
  (hone:∀ s k,one s=some k->k.2.fE=0->bF ah s first=true->s.aC=false->∃ a,QT ah s k (T a)/\P a s.used) (hx:∀ s k,one s=some k->dR s k.2) :
  ∀ (r:Nat) (aB:List Int) (st:aK) (l:List Int × aK),jT ah one first r aB st=some l->l.2.fE=0->st.aC=false ->
   ∃ zs9:List α,zs9.length<=r/\fH st (zs9.map T) l.2/\l.1=aB++dA st.aj.length (zs9.map T)/\okL P T st.used zs9/\(st.used<ah.length->l.2.used<ah.length)
 | 0,aB,st,l,h,hl,_=>by
  rw[jT] at h;obtain rfl:=lG h;have hl:(if st.fE=0/\bF ah st first=true then iA ah 15 st else st).fE=0:=hl
  split at hl
  ·exact(su (by decide) hl).elim
  ·rename_i hc
   refine⟨[],by simp,?_,by simp[dA],trivial,?_⟩
   ·show fH st [] (if _ then _ else _)
    rw[aU hc];exact fH.nil st
   ·show _->(if _ then _ else _:aK).used<_
    rw[aU hc];exact id
 | r+1,aB,st,l,h,hl,hc0=>by
  rw[jT] at h
  split at h
  ·rename_i hc
   obtain⟨k,hk,h⟩:=cZ h;have hz:=(qd hx r _ _ _ h).zero hl;obtain⟨a,⟨g1,i1,u1⟩,p1⟩:=hone _ _ hk hz hc.2 hc0;obtain⟨zs9,h1,h2,h3,h4,h5⟩:=QV T P hone hx r _ _ _ h hl (by rw[g1.aC];exact hc0);have n1:=g1.len;have s1:=g1.used;simp only[eZ,bU,nZ] at n1 s1;refine⟨a :: zs9,by simpa using h1,?_,?_,⟨p1,by rw[<- s1];exact h4⟩,λq=>h5 (u1 q)⟩
   ·exact g1.append h2
   ·rw[h3,lN,dA,i1,n1,om]
    rfl
  ·obtain rfl:=lG h
   exact⟨[],by simp,fH.nil st,by simp[dA],trivial,id⟩
theorem Vq (hE:iQ ah)(st:aK)(k:Int × aK)(h:(λs=>some (pI ah s)) st=some k)(hf:k.2.fE=0)(hn:bF ah st [sF]=true):∃ _:Unit,QT ah st k wK/\(aP ah st.used=sF/\gW ah (st.used+1)=1):=by
 obtain rfl:=lG h;have z1:=sw (k:=2) (show (bL 2 _ _).2.fE=0 from hf);obtain⟨m1,m2,m3,m4,m5⟩:=je hE z1;obtain⟨k1,k2,k3,k4,k5⟩:=zX hE (by decide) m5;obtain⟨l1,l2,l3⟩:=jA hE (bM hn);have u1:=l1.used;simp only[bU,PT.lv] at u1;have ig:IG st _ _ _:=((IG.leaf l1 l2).append (IG.leaf k1 k2)).append (IG.leaf m1 m2);refine⟨(),?_,by simpa using iX hn,by rw[u1] at k3;exact k3⟩;exact ig.1.Yy (k:=2) ig.2 hf (λ_=>by have:=m1.used;simp only[bU,PT.lv] at this;omega)
theorem map_unit {β:Type}(c:β):∀ l:List Unit,l.map (λ_=>c)=List.replicate l.length c
 | []=>rfl
 | _ :: l=>by rw[lN,map_unit c l];rfl
theorem Tx {ah:List Tok}:∀ (l:List Unit) (u:Nat),okL (λ(_:Unit) u=>aP ah u=sF/\gW ah (u+1)=1) (λ_=>wK) u l->QU ah u l.length
 | [],_,_=>trivial
 | _ :: l,_u,h=>⟨h.1.1,h.1.2,Tx l _ h.2⟩
theorem KW {ah:List Tok}:∀ (l:List dV) (u:Nat),okL (λ(d:dV) u=>d.ok ah u/\d.marks ah u) dV.pt u l->Bw ah u l/\Bv ah u l
 | [],_,_=>⟨trivial,trivial⟩
 | _ :: l,_,h=>⟨⟨h.1.1,(KW l _ h.2).1⟩,h.1.2,(KW l _ h.2).2⟩
theorem Ei:∀ n,bU (List.replicate n wK)=3 * n
 | 0=>rfl
 | n+1=>by
  rw[List.replicate_succ,bU,Ei n];simp only[wK,PT.lv,bU];omega
theorem Tz {T:aH}{p:Nat}(hL:Laid T p ah){g:Nat}{r:Int × aK}(h:qE ah d g lQ=some r)(hf:r.2.fE=0) :
  ∃ q:l6,r.2.aj=q.pt.em 0 0/\q.ok ah/\q.pt.lv=ah.length/\q.marks ah:=by
 have hE:=hL.Yv;unfold qE at h;obtain⟨a,h1,h⟩:=cZ h;obtain⟨b,h2,h⟩:=cZ h;obtain rfl:=lG h;have hk:=sw hf;have hb:=(fF ah 5 b.2).zero hk;have ha:=(qd wI _ _ _ _ h2).zero hb;obtain⟨us,i1,i2,i3,i4,i5⟩:=QV (ah:=ah) (λ_:Unit=>wK) (λ_ u=>aP ah u=sF/\gW ah (u+1)=1) (λs k e1 e2 e3 _=>Vq hE s k e1 e2 e3) (wJ ah) 16 [] lQ a h1 ha rfl;obtain⟨ds,d1,d2,d3,d4,d5⟩:=QV (ah:=ah) dV.pt (λd u=>d.ok ah u/\d.marks ah u) (λs k e1 e2 _ e4=>ad8 hE s k e1 e2 e4) wI 64 [] a.2 b h2 hb (by rw[i2.aC];rfl);rw[map_unit] at i2 i3
 have hu:a.2.used=3 * us.length:=by
  rw[i2.used,Ei];simp[lQ]
 have hu':=d5 (i5 hL.some)
 have hku:bC ah 5 b.2=aF ah b.2/\gW ah b.2.used=5:=by
  unfold bC at hk |-
  by_cases hc:b.2.fE=0/\(dx ah b.2.used).kind=5
  ·rw[bR hc]
   exact⟨rfl,hc.2⟩
  ·rw[aU hc] at hk
   exact(su (by decide) hk).elim
 have hlast:=hL.afV hu' hku.2;obtain⟨hl1,hl2⟩:=fH.leaf (ah:=ah) (st:=b.2) (by omega)
 have e1:IG lQ a.1 (List.replicate us.length wK) a.2:=⟨i2,i3⟩
 have e2:IG a.2 b.1 (ds.map dV.pt) b.2:=⟨d2,d3⟩
 have ig:=(e1.append e2).append (IG.leaf hl1 hl2);rw[hku.1] at hf hk |-;have hn:=ig.1.node hk 1;rw[<- ig.2] at hn;have hds:=KW ds _ d4;rw[hu] at hds;refine⟨⟨us.length,ds⟩,?_,⟨i1,d1,?_,hds.1⟩,?_,hds.2⟩
 ·have h18:=hn.1
  simp only[Int.cast_ofNat_Int] at h18;rw[h18];simp[lQ,zP,l6.pt,l6.aB]
 ·exact Tx us 0 i4
 ·have:=ig.1.used
  rw[hl1.used] at this;simp only[lQ,bU,PT.lv] at this;simp only[l6.pt,PT.lv,l6.aB];rw[<- om];omega
theorem sG:∀ {l k:List PT},nA l->nA k->nA (l++k)
 | [],k,_,h=>h
 | t :: l,k,h1,h2=>by
  rw[nA] at h1;rw[pJ,nA];exact⟨h1.1,sG h1.2 h2⟩
theorem KX {α:Type}{T:α->PT}(h:∀ a,(T a).wf):∀ l:List α,nA (l.map T)
 | []=>by rw[List.map_nil,nA];trivial
 | a :: l=>by rw[lN,nA];exact⟨h a,KX h l⟩
theorem TA:∀ {l:List PT},nA l->nA (kU l)
 | [],h=>by rw[kU];exact h
 | [t],h=>by rw[xL];exact h
 | t :: s :: l,h=>by
  rw[nA] at h;rw[tN,nA,nA,PT.wf];exact⟨h.1,trivial,TA h.2⟩
theorem TB {t:PT}(h:t.wf):∀ n,nA (List.replicate n t)
 | 0=>by rw[List.replicate_zero,nA];trivial
 | n+1=>by rw[List.replicate_succ,nA];exact⟨h,TB h n⟩
theorem gQ.wf (t:gQ):nA t.pts:=by
 unfold gQ.pts
 cases h:t.cl with
 | none=>simp[nA,PT.wf]
 | some e=>simp[nA,PT.wf,CE.wf e]
theorem gQ.afW (t:gQ):t.par.wf:=by
 unfold gQ.par;simp[nA,PT.wf,t.wf]
theorem dV.wf (d:dV):d.pt.wf:=by
 rw[dV.pt,PT.wf];refine⟨by omega,by omega,?_⟩;unfold dV.aB dV.lead;refine sG ?_ (sG (by simp[nA,PT.wf]) (sG (TA (KX gQ.afW _)) (sG (by simp[nA,PT.wf]) (sG d.ty.wf (by simp[nA,PT.wf,CE.wf d.body])))))
 split<;>simp[nA,PT.wf]
theorem l6.wf (p:l6):p.pt.wf:=by
 rw[l6.pt,PT.wf];refine⟨by omega,by omega,?_⟩;unfold l6.aB;exact sG (TB (by simp[wK,nA,PT.wf]) _) (sG (KX dV.wf _) (by simp[nA,PT.wf]))
theorem QW (h:ji S d=.good ah aj) :
  dQ S=.ok ah/\∃ p:l6,aj=p.pt.em 0 0/\p.ok ah/\p.pt.lv=ah.length/\aj.length<=2 * ah.length/\p.marks ah:=by
 unfold ji at h
 cases hl:dQ S with
 | error x=>rw[hl] at h;cases h
 | ok l =>
  rw[hl] at h;simp only at h;have hL:=iZ hl;obtain⟨a,ha⟩:=CO hL.Yv d lQ;rw[ha] at h;simp only[Iq] at h
  split at h
  ·rename_i hf
   injection h with h1 h2
   subst h1;obtain⟨q,he,hok,hlv,hmk⟩:=Tz hL ha hf;have h3:=JA ha;have h4:=Jv ha (kJ _);unfold nC at h3;simp only[lQ,jC] at h3;exact⟨rfl,q,by rw[<- h2,he],hok,hlv,by rw[<- h2];omega,hmk⟩
  ·cases h
theorem Vr {e:Nat}(h:ji S d=.bad e a):e≠0:=by
 unfold ji at h
 cases hl:dQ S with
 | error x =>
  rw[hl] at h
  injection h with h1 h2
  have:=(uH hl).2;omega
 | ok l =>
  rw[hl] at h;simp only at h
  split at h
  ·injection h with h1 _;omega
  ·unfold Iq at h
   split at h
   ·cases h
   ·rename_i hf
    injection h with h1 _
    omega
theorem Ah {d':Nat}(hdd:d<=d')(h:ji S d=.good ah aj):ji S d'=.good ah aj:=by
 unfold ji at h |-
 cases hl:dQ S with
 | error x=>rw[hl] at h;cases h
 | ok l =>
  rw[hl] at h;simp only at h |-
  cases hm:qE l d (Br l) lQ with
  | none=>rw[hm] at h;cases h
  | some st =>
   rw[hm] at h;simp only at h
   have hs:st.2.fE=0:=by
    unfold Iq at h
    split at h
    ·assumption
    ·cases h
   rw[KU hdd hm hs];exact h
def uQ (l:aH):Prop:=gG l=true/\l≠[]/\l.length<=60/\(l.head?=some 48->l.length=1)
theorem QX (c:UInt8):bI c=(decide (48<=c.toNat) && decide (c.toNat<=57)):=by
 unfold bI;rw[Bool.eq_iff_iff];simp only[uw,AZ,UInt8.le_iff_toNat_le];exact Iff.rfl
theorem Yz (T:aH)(h:(iP T).1=3)(h0:(iP T).2.2=0):uQ (T.take (iP T).2.1):=by
 cases T with
 | nil=>simp[iP] at h
 | cons c r =>
  rw[iP] at h h0 |-
  by_cases hc:kF c=true
  ·rw[bR hc] at h
   simp only[qD] at h
   split at h
   ·cases h
   ·split at h<;>cases h
  ·rw[aU hc] at h h0 |-
   by_cases hd:bI c=true
   ·rw[bR hd] at h h0 |-
    simp only[sO] at h h0 |-
    split at h
    ·cases h
    ·rename_i P8
     rw[aU P8];simp only;have ht:(c :: r).take ((c :: r).takeWhile bI).length=(c :: r).takeWhile bI:=(List.prefix_iff_eq_take.1 (List.takeWhile_prefix _)).symm
     have hne:(c :: r).takeWhile bI≠[]:=by rw[List.takeWhile_cons_of_pos hd];simp
     have hall:∀ x∈(c :: r).takeWhile bI,bI x=true:=λx hx=>by
      have:=List.all_takeWhile (l:=c :: r) (p:=bI);rw[List.all_eq_true] at this;exact this x hx
     rw[ht];generalize (c :: r).takeWhile bI=w at P8 hne hall;refine⟨?_,hne,by omega,λq=>?_⟩
     ·rw[gG,List.all_eq_true]
      intro x hx;rw[<- QX];exact hall x hx
     ·rw[List.head?_eq_getElem?] at q
      have:=List.length_pos_iff.2 hne
      by_cases h1:1<w.length
      ·exact absurd (.inr ⟨h1,q⟩) P8
      ·omega
   ·rw[aU hd,Ib] at h
    split at h<;>cases h
theorem JC:∀ (n:Nat) (T:aH) (p:Nat) (l:List Tok),rT n T p=.ok l->∀ t∈l,t.kind=3->uQ t.text
 | 0,T,p,l,h,t,ht,hk=>by rw[rT] at h;cases h
 | n+1,T,p,l,h,t,ht,hk=>by
  rw[rT] at h
  try simp only at h
  split at h
  ·cases h
  rename_i h0
  split at h
  ·injection h with h
   subst h;rw[Ia] at ht;subst ht;cases hk
  ·split at h
   ·cases h
   ·rename_i l' hl'
    injection h with h
    subst h
    rcases nY.1 ht with rfl|ht
    ·exact Yz _ hk (by omega)
    ·exact JC n _ _ _ hl' t ht hk
theorem sH (h:dQ S=.ok l):∀ t∈l,t.kind=3->uQ t.text:=by
 unfold dQ at h
 split at h
 ·cases h
 ·exact JC _ _ _ _ h
theorem wL (h:0<ah.length)(u:Nat):dx ah u∈ah:=by
 unfold dx;rw[Kr,AY (by omega),Option.getD_some];exact nH _
theorem uQ.dec {l:aH}(h:uQ l):kg (jE l)=l:=XQ l h.1 h.2.1 h.2.2.2
theorem yA (h:dQ S=.ok l):Qo l:=λu hu =>
 (sH h _ (wL (iZ h).some u) hu).dec
theorem acr {n:Nat}(h:n<100):(kg n).length<=2:=by
 rw[kg]
 split
 ·simp
 ·rw[kg,dif_pos (by omega)]
  simp
mutual
theorem FH:∀ (t:PT) (b u:Nat),t.wf->∀ n∈t.em b u,(0<=n.kind/\n.kind<100)/\(n.kind=19->(u:Int)<=n.tok/\n.tok<((u+t.lv:Nat):Int))
 | .leaf,b,u,_,n,h=>by
  rw[PT.em,Ia] at h;subst h;rw[PT.lv];simp only;omega
 | .node k l,b,u,hw,n,h=>by
  rw[PT.wf] at hw;rw[PT.em,List.mem_append,Ia] at h
  rcases h with h|h
  ·exact JD l b u hw.2.2 n h
  ·subst h
   simp only;omega
theorem JD:∀ (l:List PT) (b u:Nat),nA l->∀ n∈zP b u l,(0<=n.kind/\n.kind<100)/\(n.kind=19->(u:Int)<=n.tok/\n.tok<((u+bU l:Nat):Int))
 | [],b,u,_,n,h=>by rw[zP] at h;cases h
 | t :: l,b,u,hw,n,h=>by
  rw[nA] at hw;rw[zP,List.mem_append] at h;rw[bU]
  rcases h with h|h
  ·have:=FH t _ _ hw.1 n h
   exact⟨this.1,λq=>by have:=this.2 q;omega⟩
  ·have:=JD l _ _ hw.2 n h
   exact⟨this.1,λq=>by have:=this.2 q;omega⟩
end
mutual
theorem JE {ah:List Tok}{M:Nat}(hM:∀ u,(aP ah u).length<=M):∀ (t:PT) (u:Nat),t.wf->(t.dump ah u).length+1<=t.nd * (M+16)
 | .leaf,u,_=>by
  rw[PT.dump,pX,PT.nd,bY];have:=hM u;unfold aP at this
  split<;>simp<;>omega
 | .node k l,u,hw=>by
  rw[PT.wf] at hw;have h1:=FI hM l u hw.2.2;have h2:=acr (n:=k) (by omega);rw[PT.dump,PT.nd,Nat.succ_mul];simp only[bY,fu,jC];omega
theorem FI {ah:List Tok}{M:Nat}(hM:∀ u,(aP ah u).length<=M):∀ (l:List PT) (u:Nat),nA l->(CB ah u l).length<=eZ l * (M+16)
 | [],u,_=>by simp[CB]
 | t :: l,u,hw=>by
  rw[nA] at hw;have h1:=JE hM t u hw.1;have h2:=FI hM l (u+t.lv) hw.2;rw[CB,eZ,Nat.add_mul];simp only[bY,fu,jC];omega
end
mutual
def PE.fits (M:Nat):PE->Prop
 | .mk op name module num txt _ aB _=>op<100/\name.length<=M/\module.length<=M/\txt.length<=M/\(lS num).length<=M/\num.natAbs<10 ^ 60/\jP M aB
def jP (M:Nat):List PE->Prop
 | []=>True
 | e :: l=>e.fits M/\jP M l
end
theorem QY (hN:∀ t∈ah,t.kind=3->uQ t.text)(h0:0<ah.length)(hk:gW ah u=3):jE (aP ah u)<10 ^ 60:=by
 have h:=hN _ (wL h0 u) hk;exact xw (Ec _ h.1) (Nat.pow_le_pow_right (by omega) h.2.2.1)
mutual
theorem CE.fits {ah:List Tok}{M:Nat}(h0:0<ah.length)(hN:∀ t∈ah,t.kind=3->uQ t.text)(hM:∀ u,(aP ah u).length<=M)(h1:1<=M){cl:Bool}:∀ (e:CE) (u:Nat),e.ok ah cl u->(e.pe ah u).fits M
 | .num,u,h=>by
  rw[CE.ok] at h;rw[CE.pe,PE.fits,EJ,show kg (jE (aP ah u))=aP ah u from (hN _ (wL h0 u) h).dec];have:=QY hN h0 h;exact⟨by omega,by simp,by simp,hM u,hM u,by omega,by rw[jP];trivial⟩
 | .truth,u,h=>by rw[CE.pe,PE.fits,jP];exact⟨by omega,by simp,by simp,by simp,by simpa [lS,kg] using h1,by simp,trivial⟩
 | .res,u,h=>by rw[CE.pe,PE.fits,jP];exact⟨by omega,by simp,by simp,by simp,by simpa [lS,kg] using h1,by simp,trivial⟩
 | .Cz,u,h=>by rw[CE.pe,PE.fits,jP];exact⟨by omega,hM u,by simp,by simp,by simpa [lS,kg] using h1,by simp,trivial⟩
 | .group e,u,h=>by
  rw[CE.ok] at h;rw[CE.pe];exact CE.fits h0 hN hM h1 e _ h.2
 | .un e,u,h=>by
  rw[CE.ok] at h;rw[CE.pe,PE.fits,jP,jP];exact⟨by split<;>omega,by simp,by simp,by simp,by simpa [lS,kg] using h1,by simp,CE.fits h0 hN hM h1 e _ h.2,trivial⟩
 | .bin a b,u,h=>by
  rw[CE.ok] at h;rw[CE.pe,PE.fits,jP,jP,jP];have hi:sP.idxOf (aP ah (u+a.pt.lv))<=sP.length:=List.idxOf_le_length;have hl:sP.length=14:=rfl;exact⟨by omega,by simp,by simp,by simp,by simpa [lS,kg] using h1,by simp,CE.fits h0 hN hM h1 a _ h.2.1,CE.fits h0 hN hM h1 b _ h.2.2,trivial⟩
 | .iff a b c,u,h=>by
  rw[CE.ok] at h;rw[CE.pe,PE.fits,jP,jP,jP,jP];exact⟨by omega,by simp,by simp,by simp,by simpa [lS,kg] using h1,by simp,CE.fits h0 hN hM h1 a _ h.2.1,CE.fits h0 hN hM h1 b _ h.2.2.1,CE.fits h0 hN hM h1 c _ h.2.2.2,trivial⟩
 | .vO a b,u,h=>by
  rw[CE.ok] at h;rw[CE.pe,PE.fits,jP,jP,jP];exact⟨by omega,hM _,by simp,by simp,by simpa [lS,kg] using h1,by simp,CE.fits h0 hN hM h1 a _ h.2.2.1,CE.fits h0 hN hM h1 b _ h.2.2.2,trivial⟩
 | .vP a b,u,h=>by
  rw[CE.ok] at h;rw[CE.pe,PE.fits,jP,jP,jP];exact⟨by omega,by simp,by simp,by simp,by simpa [lS,kg] using h1,by simp,CE.fits h0 hN hM h1 a _ h.2.1,CE.fits h0 hN hM h1 b _ h.2.2,trivial⟩
 | .call q l,u,h=>by
  rw[CE.ok] at h;rw[CE.pe]
  cases q with
  | true =>
   rw[bR rfl,PE.fits];exact⟨by omega,hM _,hM _,by simp,by simpa [lS,kg] using h1,by simp,FJ h0 hN hM h1 l _ h.2.2.2.2.2⟩
  | false =>
   rw[aU (by decide),PE.fits];exact⟨by omega,hM _,by simp,by simp,by simpa [lS,kg] using h1,by simp,FJ h0 hN hM h1 l _ h.2.2.2.2⟩
theorem FJ {ah:List Tok}{M:Nat}(h0:0<ah.length)(hN:∀ t∈ah,t.kind=3->uQ t.text)(hM:∀ u,(aP ah u).length<=M)(h1:1<=M){cl:Bool}:∀ (l:List CE) (u:Nat),qp ah cl u l->jP M (ko ah u l)
 | [],u,_=>by rw[ko,jP];trivial
 | e :: l,u,h=>by
  rw[qp] at h;rw[ko,jP];exact⟨CE.fits h0 hN hM h1 e _ h.1,FJ h0 hN hM h1 l _ h.2⟩
end
theorem TD (a b:List PT):eZ (a++b)=eZ a+eZ b:=oF a b
mutual
def PE.mY:PE->Nat
 | .mk _ _ _ _ _ _ aB _=>1+iV aB
def iV:List PE->Nat
 | []=>0
 | e :: l=>e.mY+iV l
end
mutual
theorem CE.iJ (ah:List Tok):∀ (e:CE) (u:Nat),(e.pe ah u).mY<=e.pt.nd
 | .num,u=>by simp[CE.pe,PE.mY,iV,CE.pt,PT.nd,eZ]
 | .truth,u=>by simp[CE.pe,PE.mY,iV,CE.pt,PT.nd,eZ]
 | .res,u=>by simp[CE.pe,PE.mY,iV,CE.pt,PT.nd,eZ]
 | .Cz,u=>by simp[CE.pe,PE.mY,iV,CE.pt,PT.nd,eZ]
 | .group e,u=>by
  have:=CE.iJ ah e (u+1);simp only[CE.pe,CE.pt,PT.nd,eZ];omega
 | .un e,u=>by
  have:=CE.iJ ah e (u+1);simp only[CE.pe,PE.mY,iV,CE.pt,PT.nd,eZ];omega
 | .bin a b,u=>by
  have h1:=CE.iJ ah a u;have h2:=CE.iJ ah b (u+a.pt.lv+1);simp only[CE.pe,PE.mY,iV,CE.pt,PT.nd,eZ];omega
 | .iff a b c,u=>by
  have h1:=CE.iJ ah a (u+1);have h2:=CE.iJ ah b (u+1+a.pt.lv+1);have h3:=CE.iJ ah c (u+1+a.pt.lv+1+b.pt.lv+1);simp only[CE.pe,PE.mY,iV,CE.pt,PT.nd,eZ];omega
 | .vO a b,u=>by
  have h1:=CE.iJ ah a (u+3);have h2:=CE.iJ ah b (u+3+a.pt.lv+1);simp only[CE.pe,PE.mY,iV,CE.pt,PT.nd,eZ];omega
 | .vP a b,u=>by
  have h1:=CE.iJ ah a (u+1);have h2:=CE.iJ ah b (u+1+a.pt.lv+1);simp only[CE.pe,PE.mY,iV,CE.pt,PT.nd,eZ];omega
 | .call q l,u=>by
  have h:∀ u,iV (ko ah u l)<=eZ (fI l):=λu=>Ai ah l u
  cases q with
  | true =>
   have:=h (u+4);simp only[CE.pe,bR,PE.mY,CE.pt,PT.nd,TD,eZ];omega
  | false =>
   have:=h (u+2);simp only[CE.pe,PE.mY,CE.pt,PT.nd,TD,eZ,Bool.false_eq_true,if_false];omega
theorem Ai (ah:List Tok):∀ (l:List CE) (u:Nat),iV (ko ah u l)<=eZ (fI l)
 | [],u=>by simp[ko,iV]
 | [e],u=>by
  have:=CE.iJ ah e u;simp only[ko,iV,uJ,eZ];omega
 | e :: f :: l,u=>by
  have h1:=CE.iJ ah e u;have h2:=Ai ah (f :: l) (u+e.pt.lv+1);rw[ko,iV,oG,eZ,eZ];simp only[PT.nd];omega
end
structure FF where
 name:aH
 base:Nat
 aC:List PE
 at_:Nat
 bare:Int
structure DD where
 pub:Bool
 params:List FF
 res:FF
 body:PE
structure PP where
 aD:List (aH × Nat)
 defs:List DD
def gQ.ff (ah:List Tok)(u:Nat)(name:aH)(at_:Nat)(t:gQ):FF where
 name:=name
 base:=if aP ah (u+1)=vG then 2 else 1
 aC:=match t.cl with|none=>[]|some e=>[e.pe ah (u+3)]
 at_:=at_
 bare:=match t.cl with|none=>((dU ah (u+1)+(aP ah (u+1)).length:Nat):Int)|some _=>-1
def gQ.wM (ah:List Tok)(u:Nat)(t:gQ):FF:=t.ff ah (u+1) (aP ah u) (dU ah u)
def oP (ah:List Tok)(u:Nat):List gQ->List FF
 | []=>[]
 | t :: l=>t.wM ah u :: oP ah (u+t.par.lv+1) l
def dV.dd (ah:List Tok)(u:Nat)(d:dV):DD where
 pub:=d.pub
 params:=oP ah (d.FE u+3) d.lX
 res:=d.ty.ff ah (d.at2 u) (aP ah (d.FE u+1)) (dU ah (d.FE u+1))
 body:=d.body.pe ah (d.at3 u)
def nW (ah:List Tok)(u:Nat):List dV->List DD
 | []=>[]
 | d :: l=>d.dd ah u :: nW ah (u+d.pt.lv) l
def qx (ah:List Tok)(u:Nat):Nat->List (aH × Nat)
 | 0=>[]
 | n+1=>(aP ah (u+1),dU ah (u+1)) :: qx ah (u+3) n
def l6.pp (ah:List Tok)(p:l6):PP:=⟨qx ah 0 p.imps,nW ah (3 * p.imps) p.defs⟩
def FF.erase (f:FF):FF:={ f with aC:=[] }
def DD.erase (d:DD):DD:={ d with params:=d.params.map FF.erase,res:=d.res.erase }
def PP.erase (p:PP):PP:={ p with defs:=p.defs.map DD.erase }
def FF.all (P:PE->Prop)(f:FF):Prop:=∀ e∈f.aC,P e
def DD.all (P:PE->Prop)(d:DD):Prop:=(∀ f∈d.params,f.all P)/\d.res.all P/\P d.body
def PP.all (P:PE->Prop)(p:PP):Prop:=∀ d∈p.defs,d.all P
theorem YB:∀ l:List PT,eZ l<=eZ (kU l)
 | []=>by rw[kU];exact bD _
 | [t]=>by rw[xL];exact bD _
 | t :: s :: l=>by
  have:=YB (s :: l)
  have h2:eZ (t :: .leaf :: kU (s :: l))=t.nd+(1+eZ (kU (s :: l))):=by rw[eZ,eZ,PT.nd]
  rw[tN,h2,eZ];omega
theorem dV.YC (d:dV):eZ (d.lX.map gQ.par)<=d.pt.nd/\eZ d.ty.pts<=d.pt.nd/\d.body.pt.nd<=d.pt.nd:=by
 have:=YB (d.lX.map gQ.par);rw[dV.pt,PT.nd,dV.aB];simp only[oF,eZ];omega
theorem l6.acs (p:l6):eZ (p.defs.map dV.pt)<=p.pt.nd:=by
 rw[l6.pt,PT.nd,l6.aB];simp only[oF,eZ];omega
def PeN (ah:List Tok)(N:Nat)(P:PE->Prop):Prop:=∀ (cl:Bool) (e:CE) (u:Nat),e.ok ah cl u->e.pt.nd<=N->P (e.pe ah u)
theorem gQ.YD (h:PeN ah N P){t:gQ}{name:aH}(ho:t.ok ah u)(hn:eZ t.pts<=N):(t.ff ah u name a).all P:=by
 intro x hx;obtain⟨_,ho⟩:=ho;unfold gQ.ff at hx;unfold gQ.pts at hn
 cases hc:t.cl with
 | none=>rw[hc] at hx;cases hx
 | some e =>
  rw[hc] at hx ho hn;simp only[Ia] at hx;subst hx;simp only[eZ,PT.nd,pJ,uD] at hn;exact h true e _ ho (by omega)
theorem gQ.ad9 (t:gQ):eZ t.pts<=t.par.nd:=by
 have:t.par.nd=eZ (.leaf :: t.pts)+1:=by rw[gQ.par,PT.nd]
 rw[eZ] at this;omega
theorem Ny {ah:List Tok}{N:Nat}{P:PE->Prop}(h:PeN ah N P):∀ (l:List gQ) (u:Nat),zh ah u l->eZ (l.map gQ.par)<=N->∀ f∈oP ah u l,f.all P
 | [],_,_,_,f,hf=>by cases hf
 | t :: l,u,ho,hn,f,hf=>by
  have:=t.ad9;rw[lN,eZ] at hn;rw[oP,nY] at hf
  rcases hf with rfl|hf
  ·exact gQ.YD h ho.1.2 (by omega)
  ·exact Ny h l _ ho.2 (by omega) f hf
theorem dV.aea (h:PeN ah N P){d:dV}(ho:d.ok ah u)(hn:d.pt.nd<=N):(d.dd ah u).all P:=by
 obtain⟨_,_,_,_,h5,h6,h7⟩:=ho;obtain⟨n1,n2,n3⟩:=d.YC;exact⟨Ny h _ _ h5 (by omega),gQ.YD h h6 (by omega),h _ _ _ h7 (by omega)⟩
theorem Nz {ah:List Tok}{N:Nat}{P:PE->Prop}(h:PeN ah N P):∀ (l:List dV) (u:Nat),Bw ah u l->eZ (l.map dV.pt)<=N->∀ d∈nW ah u l,d.all P
 | [],_,_,_,d,hd=>by cases hd
 | x :: l,u,ho,hn,d,hd=>by
  rw[lN,eZ] at hn;rw[nW,nY] at hd
  rcases hd with rfl|hd
  ·exact dV.aea h ho.1 (by omega)
  ·exact Nz h l _ ho.2 (by omega) d hd
theorem l6.Bz (h:PeN ah p.pt.nd P)(ho:p.ok ah):(p.pp ah).all P:=Nz h _ _ ho.2.2.2 p.acs
theorem FL (ah:List Tok):∀ (l:List gQ) (u:Nat),(oP ah u l).length=l.length
 | [],_=>rfl
 | t :: l,u=>by rw[oP,fu,fu,FL ah l]
theorem zi (ah:List Tok):∀ (l:List dV) (u:Nat),(nW ah u l).length=l.length
 | [],_=>rfl
 | t :: l,u=>by rw[nW,fu,fu,zi ah l]
theorem zk (ah:List Tok):∀ (n u:Nat),(qx ah u n).length=n
 | 0,_=>rfl
 | n+1,u=>by rw[qx,fu,zk ah n]
structure FF.small (M:Nat) (f:FF):Prop where
 name:f.name.length<=M
 base:f.base=1\/f.base=2
 aC:f.aC.length<=1
structure DD.small (M:Nat) (d:DD):Prop where
 params:∀ f∈d.params,f.small M
 few:d.params.length<=8
 res:d.res.small M
structure PP.small (M:Nat) (p:PP):Prop where
 aD:∀ m∈p.aD,m.1.length<=M
 QZ:p.aD.length<=16
 defs:∀ d∈p.defs,d.small M
 Q0:p.defs.length<=64
theorem gQ.NA (hM:∀ u,(aP ah u).length<=M)(t:gQ)(u v a:Nat):(t.ff ah u (aP ah v) a).small M:=by
 refine⟨hM v,?_,?_⟩
 ·show (if _ then _ else _)=1\/_
  split
  ·right;show (if _ then _ else _)=2;rw[bR (by assumption)]
  ·left;rfl
 ·unfold gQ.ff
  cases t.cl<;>simp
theorem FM {ah:List Tok}{M:Nat}(hM:∀ u,(aP ah u).length<=M):∀ (l:List gQ) (u:Nat),∀ f∈oP ah u l,f.small M
 | [],_,f,hf=>by cases hf
 | t :: l,u,f,hf=>by
  rw[oP,nY] at hf
  rcases hf with rfl|hf
  ·exact gQ.NA hM _ _ _ _
  ·exact FM hM l _ f hf
theorem dV.YE (hM:∀ u,(aP ah u).length<=M){d:dV}(ho:d.ok ah u):(d.dd ah u).small M :=
 ⟨FM hM _ _,by show (oP _ _ _).length<=8;rw[FL];exact ho.2.2.2.1,gQ.NA hM _ _ _ _⟩
theorem FN {ah:List Tok}{M:Nat}(hM:∀ u,(aP ah u).length<=M):∀ (l:List dV) (u:Nat),Bw ah u l->∀ d∈nW ah u l,d.small M
 | [],_,_,d,hd=>by cases hd
 | x :: l,u,ho,d,hd=>by
  rw[nW,nY] at hd
  rcases hd with rfl|hd
  ·exact dV.YE hM ho.1
  ·exact FN hM l _ ho.2 d hd
theorem FP {ah:List Tok}{M:Nat}(hM:∀ u,(aP ah u).length<=M):∀ (n u:Nat),∀ m∈qx ah u n,m.1.length<=M
 | 0,_,m,hm=>by cases hm
 | n+1,u,m,hm=>by
  rw[qx,nY] at hm
  rcases hm with rfl|hm
  ·exact hM _
  ·exact FP hM n _ m hm
theorem l6.NC (hM:∀ u,(aP ah u).length<=M)(ho:p.ok ah):(p.pp ah).small M :=
 ⟨FP hM _ _,by show (qx _ _ _).length<=16;rw[zk];exact ho.1,FN hM _ _ ho.2.2.2,by show (nW _ _ _).length<=64;rw[zi];exact ho.2.1⟩
open Go.RowKit
variable{v:Value}{w:World}
structure RK (α β:Type) where
 sz:Nat
 cells:α->β->List Value
 inn:(Nat->Prop)->World->α->β->Prop
 len:∀ a b,(cells a b).length=sz
 frame:∀ {P:Nat->Prop} {w w':World} {a:α} {b:β},inn P w a b->aW P w w'->inn P w' a b
 imp:∀ {P Q:Nat->Prop} {w:World} {a:α} {b:β},inn P w a b->(∀ k,P k->k<w.heap.size->Q k)->inn Q w a b
section
variable {α β:Type}
def RK.flat (K:RK α β)(l:List (α × β)):List Value:=l.flatMap λp=>K.cells p.1 p.2
theorem RK.ND (K:RK α β):∀ l:List (α × β),(K.flat l).length=l.length * K.sz
 | []=>by simp[RK.flat]
 | p :: l=>by
  have:=RK.ND K l;unfold RK.flat at this |-;rw[List.flatMap_cons,bY,K.len,this,fu,Nat.succ_mul,Nat.add_comm]
theorem RK.Vs (K:RK α β)(l:List (α × β))(p:α × β):K.flat (l++[p])=K.flat l++K.cells p.1 p.2:=by
 unfold RK.flat;rw[abo,List.flatMap_singleton]
theorem RK.zK (K:RK α β):∀ (l:List (α × β)) (i j:Nat) (h:i<l.length),j<K.sz->(K.flat l)[i * K.sz+j]?=(K.cells l[i].1 l[i].2)[j]?
 | [],i,j,h,_=>absurd h (by simp)
 | p :: l,0,j,_,hj=>by
  unfold RK.flat;rw[List.flatMap_cons,List.getElem?_append_left (by rw[K.len];omega)]
  simp
 | p :: l,i+1,j,h,hj=>by
  have:=RK.zK K l i j (by simpa using h) hj;unfold RK.flat at this |-;rw[List.flatMap_cons,abj (by rw[K.len,Nat.succ_mul];omega),K.len,show (i+1) * K.sz+j - K.sz=i * K.sz+j by rw[Nat.succ_mul];omega,this]
  simp
def RowK (K:RK α β)(P:Nat->Prop)(w:World)(v:Value)(zs:List α):Prop :=
 ∃ l:List (α × β),l.map Prod.fst=zs/\oJ P w v K.sz zs.length (K.flat l)/\∀ p∈l,K.inn P w p.1 p.2
theorem RowK.frame {K:RK α β}{P:Nat->Prop}{w w':World}{v:Value}{zs:List α}(h:RowK K P w v zs)(ha:aW P w w'):RowK K P w' v zs:=by
 obtain⟨l,h1,h2,h3⟩:=h;exact⟨l,h1,h2.frame ha,λp hp=>K.frame (h3 p hp) ha⟩
theorem RowK.imp {K:RK α β}{P Q:Nat->Prop}{w:World}{v:Value}{zs:List α}(h:RowK K P w v zs)(hq:∀ b,P b->b<w.heap.size->Q b):RowK K Q w v zs:=by
 obtain⟨l,h1,h2,h3⟩:=h;exact⟨l,h1,h2.imp hq,λp hp=>K.imp (h3 p hp) hq⟩
theorem RowK.nil (K:RK α β)(P:Nat->Prop)(w:World):RowK K P w (.slice none 0 0) []:=⟨[],rfl,oJ.nil P w K.sz,λp hp=>by cases hp⟩
theorem RowK.slice {K:RK α β}{P:Nat->Prop}{w:World}{v:Value}{zs:List α}(h:RowK K P w v zs):∃ ao cap,v=.slice ao zs.length cap:=by
 obtain⟨l,h1,h2,h3⟩:=h;exact h2.form
theorem RowK.form {K:RK α β}{P:Nat->Prop}{zs:List α}(h:RowK K P w v zs):∃ ao cap,v=.slice ao zs.length cap/\zs.length<=cap /\
  (0<zs.length->∃ b off,ao=some ⟨b,off,none⟩/\P b/\b<w.heap.size/\∀ i,(hi:i<zs.length)->∃ x,K.inn P w zs[i] x/\∀ j u,(K.cells zs[i] x)[j]?=some u->w.cell? ⟨b,off+i * K.sz+j,none⟩=some u):=by
 obtain⟨l,rfl,⟨ao,cap,hv,hn,hl,hc⟩,h3⟩:=h;refine⟨ao,cap,hv,hn,λh0=>?_⟩;obtain⟨b,off,ha,hP,hlt,hcell⟩:=hc h0;refine⟨b,off,ha,hP,hlt,λi hi=>?_⟩;rw[oC] at hi;rw[List.getElem_map];refine⟨_,h3 _ (nH hi),λj u hu=>?_⟩
 have hj:j<K.sz:=by
  rcases Nat.lt_or_ge j K.sz with h'|h'
  ·exact h'
  ·rw[List.getElem?_eq_none (by rw[K.len];exact h')] at hu;cases hu
 have hu':=(K.zK l i j hi hj).trans hu;obtain⟨h',e⟩:=pE hu';have:=hcell (i * K.sz+j) h';rw[e] at this;rw[vN];exact this
def og (K:RK α β)(C e:Nat)(w:World)(v:Value)(zs:List α):Prop :=
 ∃ l:List (α × β),l.map Prod.fst=zs/\w.ownsRow C e K.sz v zs.length (K.flat l)/\∀ p∈l,K.inn (λb=>C<=b/\some b≠v.ownBlock) w p.1 p.2
theorem og.nil (K:RK α β)(C e:Nat)(w:World):og K C e w (.slice none 0 0) []:=⟨[],rfl,World.ownsRow_nil _ _ _ _,λp hp=>by cases hp⟩
theorem og.set {K:RK α β}{C e:Nat}{w:World}{v:Value}{zs:List α}(h:og K C e w v zs){a:Addr}(ha:a.block<C)(u:Value):og K C e (w.setCell a u) v zs:=by
 obtain⟨l,h1,h2,h3⟩:=h;refine⟨l,h1,iO h2 (λq=>?_) u,λp hp=>K.frame (h3 p hp) (aW.set u λb hb=>by have:=hb.1;omega)⟩;have:=(h2.lt a.block q.symm).1;omega
theorem og.row {K:RK α β}{C e:Nat}{zs:List α}(h:og K C e w v zs):RowK K (λb=>C<=b) w v zs:=by
 obtain⟨l,h1,h2,h3⟩:=h;exact⟨l,h1,oJ.fQ h2 λb hb=>hb,λp hp=>K.imp (h3 p hp) λb hb _=>hb.1⟩
theorem og.slice {K:RK α β}{C e:Nat}{w:World}{v:Value}{zs:List α}(h:og K C e w v zs):∃ ao cap,v=.slice ao zs.length cap:=h.row.slice
end
def EK (S:Shape):RK PE (Value × Value) where
 sz:=S.sz
 cells e p:=S.cells e p.1 p.2
 inn P w e p:=pG S P w p.1 p.2 e
 len e p:=S.len e p.1 p.2
 frame h ha:=h.frame ha
 imp h hq:=h.imp hq
def FK (S:Shape):RK FF Value where
 sz:=5
 cells f cv:=[fC f.name,.int .i64 f.base,cv,.int .i64 f.at_,.int .i64 f.bare]
 inn P w f cv:=RowK (EK S) P w cv f.aC
 len _ _:=rfl
 frame h ha:=h.frame ha
 imp h hq:=h.imp hq
structure DV where
 pv:Value
 cv:Value
 m:Value
 k:Value
def DA:RK DD DV where
 sz:=15
 cells d x:=[.bool d.pub,fC d.res.name,x.pv,.int .i64 d.res.base,x.cv,.int .i64 d.body.op,fC d.body.name,fC d.body.module,.bool (decide (d.body.num<0)),x.m,.bool d.body.yes,x.k,.int .i64 d.body.at_,.int .i64 d.res.at_,.int .i64 d.res.bare]
 inn P w d x:=RowK (FK XA) P w x.pv d.params/\RowK (EK XA) P w x.cv d.res.aC/\pG XA P w x.m x.k d.body
 len _ _:=rfl
 frame h ha:=⟨h.1.frame ha,h.2.1.frame ha,h.2.2.frame ha⟩
 imp h hq:=⟨h.1.imp hq,h.2.1.imp hq,h.2.2.imp hq⟩
def IA:RK (aH × Nat) Unit where
 sz:=2
 cells m _:=[fC m.1,.int .i64 m.2]
 inn _ _ _ _:=True
 len _ _:=rfl
 frame _ _:=trivial
 imp _ _:=trivial
def BA (P:Nat->Prop)(w:World)(iv dv:Value)(p:PP):Prop:=RowK IA P w iv p.aD/\RowK DA P w dv p.defs
theorem BA.frame {P:Nat->Prop}{w w':World}{iv dv:Value}{p:PP}(h:BA P w iv dv p)(ha:aW P w w'):BA P w' iv dv p:=⟨h.1.frame ha,h.2.frame ha⟩
theorem BA.imp {P Q:Nat->Prop}{w:World}{iv dv:Value}{p:PP}(h:BA P w iv dv p)(hq:∀ b,P b->b<w.heap.size->Q b):BA Q w iv dv p:=⟨h.1.imp hq,h.2.imp hq⟩
open Go
structure oQ where
 sz:Nat
 cells:PZ->Value->Value->List Value
 agg:PZ->Value->Value->Value
 num:(Nat->Prop)->World->Int->Value->Prop
 len:∀ e m k,(cells e m k).length=sz
 frame:∀ {P:Nat->Prop} {w w':World} {n:Int} {m:Value},num P w n m->aW P w w'->num P w' n m
 imp:∀ {P Q:Nat->Prop} {w:World} {n:Int} {m:Value},num P w n m->(∀ b,P b->b<w.heap.size->Q b)->num Q w n m
def FQ (S:oQ):List PZ->List (Value × Value)->List Value
 | e :: es,p :: l=>S.cells e p.1 p.2++FQ S es l
 | _,_=>[]
mutual
def l7 (S:oQ)(P:Nat->Prop)(w:World)(mag kv:Value):PZ->Prop
 | .mk _op _name acf num ahv aB _at_=>S.num P w num mag/\∃ l:List (Value × Value),oJ P w kv S.sz aB.length (FQ S aB l)/\nD S P w l aB
def nD (S:oQ)(P:Nat->Prop)(w:World)(l:List (Value × Value)):List PZ->Prop
 | []=>l=[]
 | e :: es=>∃ p l',l=p :: l'/\l7 S P w p.1 p.2 e/\nD S P w l' es
end
mutual
theorem l7.frame {S:oQ}{P:Nat->Prop}{w w':World}(ha:aW P w w'):∀ {e:PZ} {m k:Value},l7 S P w m k e->l7 S P w' m k e
 | .mk op name module num yes aB at_,m,k,h=>by
  rw[l7] at h |-;obtain⟨h1,l,h2,h3⟩:=h;exact⟨S.frame h1 ha,l,h2.frame ha,nD.frame ha h3⟩
theorem nD.frame {S:oQ}{P:Nat->Prop}{w w':World}(ha:aW P w w'):∀ {es:List PZ} {l:List (Value × Value)},nD S P w l es->nD S P w' l es
 | [],l,h=>by rw[nD] at h |-;exact h
 | e :: es,l,h=>by
  rw[nD] at h |-;obtain⟨p,l',h1,h2,h3⟩:=h;exact⟨p,l',h1,l7.frame ha h2,nD.frame ha h3⟩
end
mutual
theorem l7.imp {S:oQ}{P Q:Nat->Prop}{w:World}(hq:∀ b,P b->b<w.heap.size->Q b):∀ {e:PZ} {m k:Value},l7 S P w m k e->l7 S Q w m k e
 | .mk op name module num yes aB at_,m,k,h=>by
  rw[l7] at h |-;obtain⟨h1,l,h2,h3⟩:=h;exact⟨S.imp h1 hq,l,h2.imp hq,nD.imp hq h3⟩
theorem nD.imp {S:oQ}{P Q:Nat->Prop}{w:World}(hq:∀ b,P b->b<w.heap.size->Q b):∀ {es:List PZ} {l:List (Value × Value)},nD S P w l es->nD S Q w l es
 | [],l,h=>by rw[nD] at h |-;exact h
 | e :: es,l,h=>by
  rw[nD] at h |-;obtain⟨p,l',h1,h2,h3⟩:=h;exact⟨p,l',h1,l7.imp hq h2,nD.imp hq h3⟩
end
theorem nD.len {S:oQ}{P:Nat->Prop}{w:World}:∀ {es:List PZ} {l:List (Value × Value)},nD S P w l es->l.length=es.length
 | [],l,h=>by rw[nD] at h;subst h;rfl
 | e :: es,l,h=>by
  rw[nD] at h;obtain⟨p,l',rfl,_,h3⟩:=h;simp[nD.len h3]
theorem NG (S:oQ):∀ (es:List PZ) (l:List (Value × Value)) (i j:Nat) (hl:l.length=es.length) (hi:i<es.length),j<S.sz->(FQ S es l)[i * S.sz+j]?=(S.cells es[i] (l[i]'(by omega)).1 (l[i]'(by omega)).2)[j]?
 | [],[],i,j,_,h,_=>absurd h (by simp)
 | x :: es,p :: l,0,j,_,_,hj=>by
  simp only[FQ,Nat.zero_mul,Nat.zero_add,List.getElem_cons_zero];rw[List.getElem?_append_left (by rw[S.len];exact hj)]
 | x :: es,p :: l,i+1,j,hl,hi,hj=>by
  simp only[FQ,H9];rw[abj (by rw[S.len,Nat.succ_mul];omega),S.len,show (i+1) * S.sz+j - S.sz=i * S.sz+j by rw[Nat.succ_mul];omega];exact NG S es l i j (by simpa using hl) (by simpa using hi) hj
 | [],_ :: _,_,_,h,_,_=>by simp at h
 | _ :: _,[],_,_,h,_,_=>by simp at h
theorem nD.get {S:oQ}{P:Nat->Prop}{w:World}:∀ {es:List PZ} {l:List (Value × Value)} (h:nD S P w l es) (i:Nat) (hi:i<es.length),l7 S P w (l[i]'(by rw[h.len];exact hi)).1 (l[i]'(by rw[h.len];exact hi)).2 es[i]
 | [],l,h,i,hi=>absurd hi (by simp)
 | e :: es,l,h,i,hi=>by
  have h':=h;rw[nD] at h';obtain⟨p,l',rfl,h3,h4⟩:=h'
  cases i with
  | zero=>exact h3
  | succ i=>exact h4.get i (by simpa using hi)
theorem l7.form {S:oQ}{P:Nat->Prop}{w:World}{e:PZ}{mag kv:Value}(h:l7 S P w mag kv e):S.num P w e.num mag/\∃ ao cap,kv=.slice ao e.aB.length cap/\e.aB.length<=cap /\
  (0<e.aB.length->∃ b off,ao=some ⟨b,off,none⟩/\P b/\b<w.heap.size/\∀ i,(hi:i<e.aB.length)->∃ m k,l7 S P w m k e.aB[i]/\∀ j u,(S.cells e.aB[i] m k)[j]?=some u->w.cell? ⟨b,off+i * S.sz+j,none⟩=some u):=by
 cases e with
 | mk op name module num yes aB at_ =>
  rw[l7] at h;obtain⟨h1,l,⟨ao,cap,hv,hn,hl,hc⟩,h3⟩:=h;refine⟨h1,ao,cap,hv,hn,λh0=>?_⟩;obtain⟨b,off,ha,hP,hlt,hcell⟩:=hc h0;refine⟨b,off,ha,hP,hlt,λi hi=>?_⟩;have hll:=h3.len;refine⟨_,_,h3.get i hi,λj u hu=>?_⟩
  have hj:j<S.sz:=by
   rcases Nat.lt_or_ge j S.sz with h'|h'
   ·exact h'
   ·rw[List.getElem?_eq_none (by rw[S.len];exact h')] at hu;cases hu
  have hr:=NG S aB l i j hll hi hj;have hu':=hr.trans hu;obtain⟨h',e⟩:=pE hu';have:=hcell (i * S.sz+j) h';rw[e] at this;rw[vN];exact this
def YA:oQ where
 sz:=8
 cells e m k:=[.int .i64 e.op,fC e.name,fC e.module,.bool (decide (e.num<0)),m,.bool e.yes,k,.int .i64 e.at_]
 agg e m k:=.agg #[.int .i64 e.op,fC e.name,fC e.module,.bool (decide (e.num<0)),m,.bool e.yes,k,.int .i64 e.at_]
 num:=nP
 len _ _ _:=rfl
 frame h ha:=by obtain⟨ws,h1,h2⟩:=h;exact⟨ws,h1.frame ha,h2⟩
 imp h hq:=by obtain⟨ws,h1,h2⟩:=h;exact⟨ws,h1.imp hq,h2⟩
def ZK (S:oQ):RK PZ (Value × Value) where
 sz:=S.sz
 cells e p:=S.cells e p.1 p.2
 inn P w e p:=l7 S P w p.1 p.2 e
 len e p:=S.len e p.1 p.2
 frame h ha:=h.frame ha
 imp h hq:=h.imp hq
theorem NH (e:PE)(m k:Value):YA.cells e.z m k=XA.cells e m k:=by cases e;rfl
theorem NI:∀ (es:List PE) (l:List (Value × Value)),FQ YA (Ti es) l=qZ XA es l
 | [],_=>rfl
 | e :: es,[]=>rfl
 | e :: es,p :: l=>by rw[Ti,FQ,qZ,NH,NI es l]
mutual
theorem l7.ofE {P:Nat->Prop}{w:World}:∀ {e:PE} {m k:Value},pG XA P w m k e->l7 YA P w m k e.z
 | .mk op nm md num txt yes aB at_,m,k,h=>by
  rw[pG] at h;obtain⟨h1,l,h2,h3⟩:=h;rw[PE.z,l7];refine⟨h1,l,?_,nD.ofE h3⟩;rw[NI,KF,oC];exact h2
theorem nD.ofE {P:Nat->Prop}{w:World}:∀ {es:List PE} {l:List (Value × Value)},jg XA P w l es->nD YA P w l (Ti es)
 | [],l,h=>by rw[jg] at h;rw[Ti,nD];exact h
 | e :: es,l,h=>by
  rw[jg] at h;obtain⟨p,l',h1,h2,h3⟩:=h;rw[Ti,nD];exact⟨p,l',h1,l7.ofE h2,nD.ofE h3⟩
end
theorem YF (r x:Nat)(hr:r<4294967296)(hx:x<4294967296):bits BinOp.or IntKind.u64 ((r:Int) * 4294967296) (x:Int)=(r:Int) * 4294967296+(x:Int):=by
 have e:((r:Int) * 4294967296)=((r * 4294967296:Nat):Int):=by omega
 have h:(r * 4294967296) ||| x=r * 4294967296+x:=by
  rw[show (4294967296:Nat)=2 ^ 32 from rfl,<- Nat.shiftLeft_eq,Nat.shiftLeft_add_eq_or_of_lt (by omega)]
 rw[e,u64_or_nat _ _ (by omega) (by omega),h];omega
theorem YG {α:Type}(z v:α)(k:Nat)(L:List α):(List.replicate (k+1) z++L).set k v=List.replicate k z++v :: L:=by
 rw[List.replicate_succ',om,List.set_append_right _ _ (by simp),abt,Nat.sub_self]
 rfl
def JF (b:Nat)(ws:List Nat)(w:World)(e:Ending)(w':World):Prop :=
 ∃ cap,e=.returned (.tuple #[.slice (some ⟨w.heap.size,0,none⟩) (dB (bK b ws).1).length cap,.int .u64 ((bK b ws).2:Nat)])/\Wd (λk=>w.heap.size<=k) w' (.slice (some ⟨w.heap.size,0,none⟩) (dB (bK b ws).1).length cap) (dB (bK b ws).1)/\Below w.heap.size w w'
theorem Q6 (P:Nat->Prop)(ao:Option Addr)(cap:Nat)(ws:List Nat)(b:Nat)(w:World)(h:Wd P w (.slice ao ws.length cap) ws)(hw:∀ x∈ws,x<4294967296)(hb:0<b)(DN:b<=1000000000)(hn:ws.length<=1000) :
  Calls Tryz.prog 97 #[.slice ao ws.length cap,.int .u64 b] w (JF b ws w):=by
 obtain⟨i0,hi,hz0,hz1,hz2⟩:=info_parts Tryz.Tq;obtain⟨ao',jw,hv,hc1,hf⟩:=h.form;simp only[Value.slice.injEq] at hv;obtain⟨rfl,-,rfl⟩:=hv;have HF:=ay hf;have HW:=ay hw;have hmk:=run_make (P:=Tryz.prog) w 56 246 i0 (.int .u32 0) Tryz.underlying56 hi hz0 .i64 .i64 ws.length ws.length (by omega) (by omega) (by rw[hz2];omega) (by omega);rw[hz1] at hmk;clear hf h hw;go_enter Tryz.func97,Tryz.ntmps97;go_wp2;have hnew:=aX w (.cells (madeCells #[Value.int .u32 0] ws.length) 246);have hbw:=aA w (.cells (madeCells #[Value.int .u32 0] ws.length) 246);clear hmk;generalize w.alloc _=w2 at hnew hbw |-
 go_loopw [7,8] (λrv q wr=>∃ (k:Nat) (i:Int) (cs:Array Value),k<=ws.length/\q=.int .i64 i/\i+1=(k:Int)/\rv=.int .u64 ((bK b (ws.drop k)).2:Nat)/\wr.heap[w.heap.size]?=some (.cells cs 246 (0,0))/\cs.toList=List.replicate k (.int .u32 0)++(bK b (ws.drop k)).1.map (λd=>.int .u32 (d:Nat))/\Below w.heap.size w wr) (λ_ q _=>(intOf q+1).toNat)
 case atStart=>exact⟨ws.length,_,_,bD _,rfl,by omega,by rw[List.drop_length];rfl,hnew,by rw[toList_madeCells_one,List.drop_length];simp[bK],hbw⟩
 case round =>
  obtain⟨k,i,cs,hk,rfl,hik,rfl,hcs,hcl,hbl⟩:=hrel;have hz:=hbl.size
  cases k with
  | zero =>
   obtain rfl:i=-1:=by omega
   rw[List.drop_zero] at hcl |-;rw[List.replicate_zero,uD] at hcl;have hsl:=EH b ws
   have hWd:Wd (λk=>w.heap.size<=k) wr (.slice (some ⟨w.heap.size,0,none⟩) (bK b ws).1.length ws.length) (bK b ws).1:=by
    refine⟨_,_,rfl,by rw[hsl];exact bD _,by simp,λh0=>⟨w.heap.size,0,rfl,bD _,(bP hcs).1,λj hj=>?_⟩⟩;rw[aZ hcs,Nat.zero_add,<- Array.getElem?_toList,hcl,AY hj]
   have hT:=Bq _ (some ⟨w.heap.size,0,none⟩) ws.length (bK b ws).1 wr hWd (by omega);obtain⟨n,n1,n2,_,_⟩:=uK (bK b ws).1
   have hln:(dB (bK b ws).1).length=n:=by rw[n2,pK];omega
   have hW2:Wd (λk=>w.heap.size<=k) wr (.slice (some ⟨w.heap.size,0,none⟩) (dB (bK b ws).1).length ws.length) (dB (bK b ws).1):=by
    rw[hln,n2];exact hWd.take n1
   rw[hsl] at hT;have HT:=ay hT;have HW2:=ay hW2;clear hT hW2 hWd hsl hln n1 n2 hcl;go_wp2_with (go_at_call 145;refine HT.out.mono ?_;rintro e w8 ⟨rfl,rfl⟩);go_ret2;exact⟨_,rfl,HW2.out,hbl⟩
  | succ k =>
   obtain rfl:i=(k:Int):=by omega
   obtain⟨bk,off,rfl,_,hbk,hcell⟩:=HF.out (by omega);have hx:=(hbl.cell (p:=⟨bk,off+k,none⟩) hbk).trans (hcell k (by omega));have hxw:=HW.out ws[k] (nH (by omega));have hdr:ws.drop k=ws[k] :: ws.drop (k+1):=List.drop_eq_getElem_cons (by omega);have hr:=sj b hb (ws.drop (k+1))
   have hsh:bK b (ws.drop k)=(((bK b (ws.drop (k+1))).2 * 4294967296+ws[k]) / b :: (bK b (ws.drop (k+1))).1,((bK b (ws.drop (k+1))).2 * 4294967296+ws[k]) % b):=by rw[hdr,bK]
   have HS:=ay hsh;have DL:=ay hcl;generalize (bK b (ws.drop (k+1))).2=r at hr HS |-;generalize ws[k]=x at hx hxw HS
   have nK:(k:Int)<(ws.length:Int):=by omega
   clear hcell hdr hsh hcl;have hlt:=(bP hcs).1;have hor:=YF r x (by omega) hxw
   have hk0:cs.toList[k]?=some (.int .u32 0):=by
    rw[DL.out,List.getElem?_append_left (by simp),List.getElem?_replicate,bR (by omega)]
   have o0:wr.cell? ⟨w.heap.size,k,none⟩=some (.int .u32 0):=by rw[aZ hcs,<- Array.getElem?_toList];exact hk0
   have oz:∀ j,wr.frozen? ⟨w.heap.size,j,none⟩=false:=by intro j;simp[World.frozen?,hcs]
   clear hk0
   have hq:(r * 4294967296+x) / b<4294967296:=by
    rw[Nat.div_lt_iff_lt_mul hb];have:(r+1) * 4294967296<=b * 4294967296:=Nat.mul_le_mul_right _ hr;rw[Nat.mul_comm 4294967296 b];omega
   have e1:((r:Int) * 4294967296+(x:Int)) % (b:Int)=(((r * 4294967296+x) % b:Nat):Int):=by
    rw[Int.natCast_emod]
    congr 1
   have e2:((r:Int) * 4294967296+(x:Int)) / (b:Int) % 4294967296=(((r * 4294967296+x) / b:Nat):Int):=by
    have e3:((r:Int) * 4294967296+(x:Int)) / (b:Int)=(((r * 4294967296+x) / b:Nat):Int):=by
     rw[Int.natCast_ediv]
     congr 1
    rw[e3];generalize (r * 4294967296+x) / b=qq at hq |-;omega
   have E1:=ay e1;have E2:=ay e2;clear e1 e2;go_wp2;refine⟨⟨k,(k:Int) - 1,_,by omega,rfl,by omega,by rw[HS.out];exact Ee E1.out,jN wr w.heap.size k _ _ _ hcs,?_,hbl.setCell (bD _) _⟩,by simp[intOf]⟩;rw[Array.toList_setIfInBounds,DL.out,YG,HS.out,E2.out]
   rfl
def acu (bk:Nat)(l:aH)(rest:List Value)(fr:Nat × Nat)(w:World)(e:Ending)(w':World):Prop :=
 e=.returned (.tuple #[])/\w'.heap[bk]?=some (.cells (Lib.byteCells l.reverse++rest).toArray 5 fr)/\w'.heap.size=w.heap.size/\(∀ q,q≠bk->w'.heap[q]?=w.heap[q]?)/\Below bk w w'
theorem JG (w:World):w.drew.heap=w.heap:=rfl
theorem Q7 {α:Type}:∀ (M:List α),2<=M.length->∃ x N y,M=x :: (N++[y])
 | [],h=>absurd h (by simp)
 | [x],h=>absurd h (by simp)
 | x :: y :: l,_=>⟨x,(y :: l).dropLast,(y :: l).getLast (by simp),by rw[List.dropLast_concat_getLast]⟩
theorem Vt {α:Type}(A N C:List α)(x y:α):((A++(x :: (N++y :: C))).set A.length y).set (A.length+N.length+1) x=A++(y :: (N++x :: C)):=by
 rw[List.set_append_right _ _ (bD _),Nat.sub_self,List.set_cons_zero,List.set_append_right _ _ (by omega),show A.length+N.length+1 - A.length=N.length+1 by omega,List.set_cons_succ,List.set_append_right _ _ (bD _),Nat.sub_self,List.set_cons_zero]
theorem CP (w:World)(b i:Nat)(cs:Array Value)(T:TypeId)(fr:Nat × Nat)(v:Value)(hb:w.heap[b]?=some (.cells cs T fr)) :
  (w.setCell ⟨b,i,none⟩ v).heap[b]?=some (.cells (cs.setIfInBounds i v) T fr):=by
 simp[World.setCell,Array.getElem?_modify,hb]
theorem NJ (bk cap:Nat)(l:aH)(rest:List Value)(fr:Nat × Nat)(w:World)(h:w.heap[bk]?=some (.cells (Lib.byteCells l++rest).toArray 5 fr))(hf:l.length<=fr.1)(hn:l.length<=1099511627776) :
  Calls Tryz.prog 99 #[.slice (some ⟨bk,0,none⟩) l.length cap] w (acu bk l rest fr w):=by
 go_enter Tryz.func99,Tryz.ntmps99;go_wp2
 go_loopg [2,3] l.length (λk s2 s3 wr=>∃ (A M C:aH),s2=.int .i64 (A.length:Nat)/\s3=.int .i64 ((A.length:Int)+(M.length:Int) - 1)/\M.length<=k/\l=C.reverse++M++A.reverse /\
  wr.heap[bk]?=some (.cells (Lib.byteCells (A++M++C)++rest).toArray 5 fr)/\wr.heap.size=w.heap.size/\(∀ q,q≠bk->wr.heap[q]?=w.heap[q]?)/\Below bk w wr)
 case atStart=>exact⟨[],l,[],rfl,by simp,bD _,by simp,by simpa using h,rfl,λ_ _=>rfl,bQ _ _⟩
 case round =>
  obtain⟨A,M,C,rfl,rfl,hk,hl,hh,hsz,hoth,hbl⟩:=hrel
  have hlen:l.length=C.length+M.length+A.length:=by rw[hl];simp;omega
  by_cases hlt:2<=M.length
  ·obtain⟨x,N,y,rfl⟩:=Q7 M hlt
   have hI:(A.length:Int)<(A.length:Int)+((x :: (N++[y])).length:Int) - 1:=by simp only[fu] at hlt |-;omega
   have hj:(A.length:Int)+((x :: (N++[y])).length:Int) - 1=((A.length+N.length+1:Nat):Int):=by simp;omega
   simp only[fu,bY,jC] at hlen hk;rw[hj] at hI |-
   have e:A++(x :: (N++[y]))++C=A++(x :: (N++y :: C)):=by simp
   rw[e] at hh
   have ci:wr.cell? ⟨bk,A.length,none⟩=some (.int .u8 x.toNat):=by
    rw[aZ hh];simp[Lib.byteCells]
   have cj:wr.cell? ⟨bk,A.length+N.length+1,none⟩=some (.int .u8 y.toNat):=by
    rw[aZ hh,List.getElem?_toArray,Lib.byteCells,xZ,om,abj (by simp;omega)];simp only[oC];rw[show A.length+N.length+1 - A.length=N.length+1 by omega,lN,pJ,List.getElem?_cons_succ,xZ,om,abj (by simp)]
    simp
   have fi:wr.frozen? ⟨bk,A.length,none⟩=false:=by
    simp[World.frozen?,hh];omega
   have fj:wr.frozen? ⟨bk,A.length+N.length+1,none⟩=false:=by
    simp[World.frozen?,hh];omega
   have h1:=CP wr bk A.length _ _ _ (.int .u8 y.toNat) hh;have h2:=CP _ bk (A.length+N.length+1) _ _ _ (.int .u8 x.toNat) h1;have HL:=ay hl;have HH:=ay hh;have H2:=ay h2;have HO:=ay hoth;clear hj hl hh h1 h2 hoth e;go_wp2_with fail
   go_region
   go_wp2
   go_roundg N.length
   case measure=>omega
   case rel =>
    refine⟨A++[y],N,x :: C,by simp,by simp;omega,bD _,by rw[HL.out];simp,?_,?_,?_,((hbl.setCell (bD _) _).setCell (bD _) _).drew⟩
    ·rw[JG,H2.out]
     have e2:((Lib.byteCells (A++x :: (N++y :: C))++rest).toArray.setIfInBounds A.length (.int .u8 y.toNat)).setIfInBounds (A.length+N.length+1) (.int .u8 x.toNat)=(Lib.byteCells (A++[y]++N++x :: C)++rest).toArray:=by
      have:=Vt (Lib.byteCells A) (Lib.byteCells N) (Lib.byteCells C++rest) (.int .u8 x.toNat) (.int .u8 y.toNat);simp only[Lib.byteCells_length] at this
      apply Array.toList_inj.1
      simp only[Array.toList_setIfInBounds]
      have e3:Lib.byteCells (A++x :: (N++y :: C))++rest=Lib.byteCells A++(.int .u8 x.toNat :: (Lib.byteCells N++.int .u8 y.toNat :: (Lib.byteCells C++rest))):=by simp[Lib.byteCells]
      have e4:Lib.byteCells (A++[y]++N++x :: C)++rest=Lib.byteCells A++(.int .u8 y.toNat :: (Lib.byteCells N++.int .u8 x.toNat :: (Lib.byteCells C++rest))):=by simp[Lib.byteCells]
      rw[e3,e4,this]
     rw[e2]
    ·simpa using hsz
    ·intro q hq
     rw[JG,qm _ _ _ _ hq,qm _ _ _ _ hq];exact HO.out q hq
  ·have hI:decide ((A.length:Int)<(A.length:Int)+(M.length:Int) - 1)=false:=dX (by omega)
   have hr:M.reverse=M:=by
    match M,hlt with
    | [],_=>rfl
    | [x],_=>rfl
    | x :: y :: l,h=>exact absurd h (by simp)
   have HR:Hid (A++M++C=l.reverse):=ay (by rw[hl];simp[hr]);have HH:=ay hh;clear hl hh hr;go_wp2
   go_end0
   exact⟨rfl,by rw[<- HR.out];exact HH.out,hsz,hoth,hbl⟩
theorem Q8 (u:Nat):Lib.decDigits u=kg u:=by
 induction u using Nat.strongRecOn with
 | _ u ih =>
  rw[Lib.decDigits,kg]
  split
  ·rfl
  ·rw[ih (u / 10) (by omega)]
theorem Q9 (l:aH):Lib.trimRightB l 48=zV l:=rfl
theorem FR:∀ (ws:List Nat) (n:Nat),dB ws=ws->jc ws<4294967296 ^ n->ws.length<=n
 | [],n,_,_=>kJ _
 | d :: l,0,h,hm=>by
  have:=xC h (by simp);simp only[Nat.pow_zero] at hm;omega
 | d :: l,n+1,h,hm=>by
  have hl:dB l=l:=by
   rw[dB] at h
   split at h
   ·cases h
   ·injection h
  have:=FR l n hl (by
   rw[jc,Nat.pow_succ] at hm;generalize 4294967296 ^ n=p at hm |-
   omega)
  rw[fu];omega
theorem YH (n:Int)(k:Nat)(h0:n≠0)(hk:n.natAbs<10 ^ k):(zV (kH k n.natAbs)++(if n<0 then [45] else [])).reverse=lS n:=by
 rw[List.reverse_append,XP _ _ (by omega) hk,lS]
 split<;>simp
theorem FT:∀ (k n:Nat),(kH k n).length=k
 | 0,_=>rfl
 | k+1,n=>by rw[kH,fu,FT k]
theorem Vu (k n:Nat):kH (k+9) n=kH k n++kH 9 (n / 10 ^ k % 1000000000):=by
 rw[zU k 9,show (1000000000:Nat)=10 ^ 9 from rfl,MO 9 9 _ (bD _)]
theorem Vv (ws:List Nat)(n k:Nat)(h:jc ws=n / 10 ^ k):jc (dB (bK 1000000000 ws).1)=n / 10 ^ (k+9)/\(bK 1000000000 ws).2=n / 10 ^ k % 1000000000:=by
 have h1:=EI 1000000000 ws;have h2:=sj 1000000000 (by omega) ws;rw[xB,<- h]
 have e:n / 10 ^ (k+9)=jc ws / 1000000000:=by
  rw[h,Nat.pow_add,Nat.div_div_eq_div_mul]
 rw[e];omega
theorem YI (l:aH):(zV l).length<=l.length:=by
 rw[zV,List.length_reverse];have:=(List.dropWhile_suffix (l:=l.reverse) (p:=(· == 48))).length_le
 simpa using this
variable{m:Value}{base n g cap:Nat}{l:aH}
theorem pG.PK {P:Nat->Prop}{w:World}{k:Value}{x:PE}(h:pG XA P w m k x):∃ am wn cm ae ce,m=.slice am wn cm/\k=.slice ae x.aB.length ce:=by
 obtain⟨Ip,ae,ce,rfl,_,_⟩:=h.form
 obtain⟨ws,hws,_⟩:=(Ip:nP _ _ _ _)
 obtain⟨am,cm,rfl⟩:=hws.form;exact⟨am,_,cm,ae,ce,rfl,rfl⟩
def KY (l:aH)(w:World)(r:Ending)(w':World):Prop:=r=.returned (.string ⟨l.toArray⟩)/\Below w.heap.size w w'
theorem YJ {W:World}{e:TypeId}{size:Nat}{xs:List Value}(h:W.ownsRow base e size v n xs)(h0:0<n):∃ g cap,v=.slice (some ⟨g,0,none⟩) n cap:=by
 rcases h.2 with ⟨_,h1⟩|⟨g,cap,_,rfl,_⟩
 ·omega
 ·exact⟨g,cap,rfl⟩
theorem Vw:∀ k:Nat,k<10->∀ h:k<(ByteArray.mk #[48,49,50,51,52,53,54,55,56,57]).size,(ByteArray.mk #[48,49,50,51,52,53,54,55,56,57])[k]'h=UInt8.ofNat (48+k)
 | 0,_=>λ_=>rfl
 | 1,_=>λ_=>rfl
 | 2,_=>λ_=>rfl
 | 3,_=>λ_=>rfl
 | 4,_=>λ_=>rfl
 | 5,_=>λ_=>rfl
 | 6,_=>λ_=>rfl
 | 7,_=>λ_=>rfl
 | 8,_=>λ_=>rfl
 | 9,_=>λ_=>rfl
 | n+10,h=>absurd h (by omega)
theorem KZ (W:World)(hn:l.length=n)(h:W.ownsRow base 5 1 (.slice (some ⟨g,0,none⟩) n cap) n (Lib.byteCells l)) :
  (convert 195 9 (.slice (some ⟨g,0,none⟩) n cap)).run Tryz.prog W=.ok (.string ⟨l.toArray⟩) W:=by
 subst hn;refine run_convert_bytes_back _ 195 9 5 ⟨g,0,none⟩ cap l Tryz.underlying195 Tryz.underlying5 Tryz.underlying9 (λj hj=>?_);obtain⟨ao,c,hv,_,hl,hc⟩:=Sl.fQ h;obtain⟨b,o,ha,_,hcell⟩:=hc (by omega);simp only[Value.slice.injEq] at hv;rw[ha] at hv;simp only[Option.some.injEq,Addr.mk.injEq] at hv;obtain⟨⟨rfl,rfl,-⟩,-,-⟩:=hv;rw[show Addr.add ⟨g,0,none⟩ j=⟨g,0+j,none⟩ by unfold Addr.add;split<;>simp_all];have:=hcell j (by rw[hl];omega);rw[this];simp[Lib.byteCells]
theorem Wd.append {wr w3:World}{o:Obj}{v':Value}{us:List Nat}(h:Wd (λb=>some b≠v.ownBlock) wr m us)(hg:(wr.alloc o).grownBy w3 v.ownBlock)(hat:v.ownBlock=some g\/g=wr.heap.size+1)(hv:v'.ownBlock=some g) :
  Wd (λb=>some b≠v'.ownBlock) w3 m us:=by
 have h1:Wd (λb=>some b≠v.ownBlock/\some b≠v'.ownBlock) wr m us:=oJ.imp h λb hb hlt=>⟨hb,λq=>by
  rw[hv] at q
  rcases hat with e|e
  ·exact hb (by rw[e,q])
  ·injection q;omega⟩
 have h2:Wd (λb=>some b≠v.ownBlock/\some b≠v'.ownBlock) (wr.alloc o) m us:=oJ.frame h1 ⟨by simp,λb _ hb=>gZ _ _ _ hb⟩
 exact oJ.imp (oJ.frame h2 (aW.grown hg λb hb=>hb.1)) λb hb _=>hb.2
theorem Vx (b:Bool)(am:Option Addr)(cm:Nat)(w:World) :
  Calls Tryz.prog 60 #[.agg #[.bool b,.slice am 0 cm]] w (KY [48] w):=by
 go_enter Tryz.func60,Tryz.ntmps60;go_wp2;go_ret;exact⟨rfl,(bQ _ _).alloc (bD _) _⟩
theorem NK (S:ByteArray)(c:Nat):bytesRow S c=(Lib.byteCells S.data.toList++List.replicate (c - S.size) (Value.int .u8 0)).toArray:=by
 apply Array.ext'
 simp[bytesRow,Lib.byteCells]
theorem Ra (W:World){rest:List Value}{T:TypeId}{fr:Nat × Nat}(hn:l.length=n)(h:W.heap[g]?=some (.cells (Lib.byteCells l++rest).toArray T fr)) :
  (convert 195 9 (.slice (some ⟨g,0,none⟩) n cap)).run Tryz.prog W=.ok (.string ⟨l.toArray⟩) W:=by
 subst hn;refine run_convert_bytes_back _ 195 9 5 ⟨g,0,none⟩ cap l Tryz.underlying195 Tryz.underlying5 Tryz.underlying9 (λj hj=>?_);rw[show Addr.add ⟨g,0,none⟩ j=⟨g,j,none⟩ by unfold Addr.add;split<;>simp_all,aZ h,List.getElem?_toArray,List.getElem?_append_left (by simpa [Lib.byteCells] using hj)];simp[Lib.byteCells,hj]
def ZIn (bx:Array Value)(w:World)(n:Nat)(l:aH)(v m:Value)(us:List Nat)(wr:World):Prop :=
 Wd (λb=>some b≠v.ownBlock) wr m us/\wr.ownsRow w.heap.size 5 1 v n (Lib.byteCells l)/\Below w.heap.size w wr/\wr.heap[w.heap.size]?=some (.cells bx 58 (0,0))
def afX (bx:Array Value)(w:World)(n:Nat)(l:aH)(r:Nat)(m:Value)(us:List Nat)(v q c:Value)(wr:World):Prop :=
 ∃ i:Nat,i<=9/\c=.int .i64 i/\q=.int .u64 ((r / 10 ^ i:Nat):Int)/\ZIn bx w (n+i) (l++kH i r) v m us wr
def YK (bx:Array Value)(w:World)(N j:Nat)(v m:Value)(us:List Nat)(wr:World):Prop :=
 dB us=us/\(∀ x∈us,x<4294967296)/\jc us=N / 10 ^ (9 * j)/\Wd (λb=>some b≠v.ownBlock) wr m us/\wr.ownsRow w.heap.size 5 1 v (9 * j) (Lib.byteCells (kH (9 * j) N))/\Below w.heap.size w wr/\wr.heap[w.heap.size]?=some (.cells bx 58 (0,0))
def afY (bx:Array Value)(w:World)(k N:Nat)(v m:Value)(wr:World):Prop:=∃ j us am cm,j+k=7/\m=.slice am us.length cm/\YK bx w N j v m us wr
theorem YL (P:Nat->Prop)(am:Option Addr)(cm:Nat)(n:Int)(ws:List Nat)(w:World)(h:Wd P w (.slice am ws.length cm) ws)(ht:dB ws=ws)(hw:∀ x∈ws,x<4294967296)(hv:jc ws=n.natAbs)(hn:n.natAbs<10 ^ 60)(h0:0<ws.length) :
  Calls Tryz.prog 60 #[.agg #[.bool (decide (n<0)),.slice am ws.length cm]] w (KY (lS n) w):=by
 obtain⟨i0,hi,hz0,hz1,hz2⟩:=info_parts Tryz.infoByte
 have hN0:0<n.natAbs:=by rw[<- hv];exact xC ht (by intro q;rw[q] at h0;simp at h0)
 have h7:ws.length<=7:=FR ws 7 ht (by rw[hv];exact Nat.lt_trans hn (by decide));have HT:=ay (show n≠0 by omega);have HS:Hid (afY #[.bool (decide (n<0)),.slice am ws.length cm] w 7 n.natAbs (.slice none 0 0) (.slice am ws.length cm) (w.alloc (.cells #[.bool (decide (n<0)),.slice am ws.length cm] 58))):=ay ⟨0,ws,am,cm,rfl,rfl,ht,hw,by rw[hv];simp,oJ.imp (oJ.frame h ⟨by simp,λb _ hb=>gZ _ _ _ hb⟩) (λb _ _ q=>by cases q),World.ownsRow_nil _ _ _ _,(bQ _ _).alloc (bD _) _,aX w _⟩;have HN:=ay hn
 have hwl:(0:Int)<(ws.length:Int):=by omega
 have hwn:((ws.length:Int) == 0)=false:=Ea.2 (by omega);clear h ht hw hv hn hN0;generalize hng:decide (n<0)=ng at *;have HNG:=ay hng;clear hng;go_enter Tryz.func60,Tryz.ntmps60
 go_upto_region 5 with fail
 go_loopg [3,4] 7 (λk v m wr=>afY #[.bool ng,.slice am ws.length cm] w k n.natAbs v m wr)
 case atStart=>exact HS.out
 case round =>
  obtain⟨j,us,au,cu,hjk,rfl,ht,hw,hm,hwd,hrow,hbl,hbx⟩:=hrel
  obtain⟨v,rfl⟩:∃ v:Value,v=u3:=⟨_,rfl⟩
  obtain⟨w1,rfl⟩:∃ w1:World,w1=wr:=⟨_,rfl⟩
  have hz:=hbl.size
  by_cases hu:us.length=0
  ·have hu':=List.length_eq_zero_iff.1 hu
   subst hu'
   have hlt:n.natAbs<10 ^ (9 * j):=by
    rw[jc] at hm;exact(Nat.div_eq_zero_iff_lt (Nat.pow_pos (by omega))).1 hm.symm
   have La:=ay (YH n (9 * j) HT.out hlt);have htl:=YI (kH (9 * j) n.natAbs);rw[FT] at htl;have hll:=FT (9 * j) n.natAbs
   have h9j:0<9 * j:=by
    rcases Nat.eq_zero_or_pos j with q|q
    ·subst q;simp at hlt;have:=HT.out;omega
    ·omega
   obtain⟨g,cap,rfl⟩:=YJ hrow h9j;have hcv:=KZ w1 hll hrow
   have bx0:w1.cell? ⟨w.heap.size,0,none⟩=some (.bool ng):=by rw[aZ hbx];rfl
   have Md:=ay (Tryz.strings_TrimRight_one ⟨(kH (9 * j) n.natAbs).toArray⟩ 48 (by decide) w1 (by rw[<- aY];simp[hll];omega));simp only[Q9] at Md;generalize kH (9 * j) n.natAbs=l at htl hll hcv La Md hrow;obtain⟨TZ,hTZ,eTZ⟩:=jD (zV l);rw[eTZ] at Md;have HTZ:=ay hTZ
   have htz:TZ.size<=9 * j:=by rw[<- aY,hTZ];exact htl
   have hcb:=λ(W:World) (S:ByteArray)=>run_bytes_of_string (P:=Tryz.prog) W 9 195 5 S Tryz.underlying9 Tryz.underlying195 Tryz.underlying5
   have HBL:=ay hbl;clear hTZ eTZ htl hll hwd hrow ht hw hm hlt hbl
   go_upto_if 37 with (go_at_call 98;refine Md.out.mono ?_;rintro e w2 ⟨rfl,hww⟩;obtain rfl:w1=w2:=hww.symm)
   go_cut [6] (λs wc=>∃ S:ByteArray,s=.string S/\S.data.toList.reverse=lS n/\S.size<=70/\wc=w1)
   case first =>
    cases ng with
    | true =>
     have hn0:=PY HNG.out;have HR:Hid ((zV l++[45]).reverse=lS n):=ay (by have:=La.out;rw[bR hn0] at this;exact this);clear hn0;go_wp2
     go_meet
     exact⟨_,rfl,by rw[Cv,HTZ.out,<- HR.out],by simp[ByteArray.size_append];show TZ.size+1<=70;omega,rfl⟩
    | false =>
     have hn0:=of_decide_eq_false HNG.out;have HR:Hid ((zV l).reverse=lS n):=ay (by have:=La.out;rw[aU hn0,List.append_nil] at this;exact this);clear hn0;go_wp2
     go_meet
     exact⟨TZ,rfl,by rw[HTZ.out,HR.out],by omega,rfl⟩
   case rest =>
    obtain⟨S,rfl,hS,hSz,rfl⟩:=hcut
    obtain⟨wo,rfl⟩:∃ wo:World,wo=wc:=⟨_,rfl⟩
    have HSS:=ay hS;have hcS:=hcb wo S;rw[NK] at hcS;have hnew:=aX wo.drew (.cells (Lib.byteCells S.data.toList++List.replicate (grownCap wo S.size 0 5 - S.size) (Value.int .u8 0)).toArray 5 ((Lib.byteCells S.data.toList++List.replicate (grownCap wo S.size 0 5 - S.size) (Value.int .u8 0)).toArray.size,(Lib.byteCells S.data.toList++List.replicate (grownCap wo S.size 0 5 - S.size) (Value.int .u8 0)).toArray.size+1));have hbn:=aA wo.drew (.cells (Lib.byteCells S.data.toList++List.replicate (grownCap wo S.size 0 5 - S.size) (Value.int .u8 0)).toArray 5 ((Lib.byteCells S.data.toList++List.replicate (grownCap wo S.size 0 5 - S.size) (Value.int .u8 0)).toArray.size,(Lib.byteCells S.data.toList++List.replicate (grownCap wo S.size 0 5 - S.size) (Value.int .u8 0)).toArray.size+1))
    have hfz:S.data.toList.length<=((Lib.byteCells S.data.toList++List.replicate (grownCap wo S.size 0 5 - S.size) (Value.int .u8 0)).toArray.size,(Lib.byteCells S.data.toList++List.replicate (grownCap wo S.size 0 5 - S.size) (Value.int .u8 0)).toArray.size+1).1:=by simp[Lib.byteCells]
    generalize List.replicate (grownCap wo S.size 0 5 - S.size) (Value.int .u8 0)=rest at *;generalize ((Lib.byteCells S.data.toList++rest).toArray.size,(Lib.byteCells S.data.toList++rest).toArray.size+1)=fr at *;generalize grownCap wo S.size 0 5=cp at *;generalize wo.drew.alloc _=w5 at hcS hnew hbn;have hrv:=NJ wo.heap.size cp S.data.toList rest fr w5 hnew hfz (by rw[aY];omega);rw[aY] at hrv;have HRV:=ay hrv;clear hcb hrv hnew hfz hS hcv bx0;go_wp2_with (go_at_call 99;refine HRV.out.mono ?_;rintro e w6 ⟨rfl,hh6,hs6,ho6,hb6⟩;have hct:=Ra (cap:=cp) (n:=S.size) w6 (by simp) hh6);go_ret;exact⟨by rw[HSS.out];rfl,(HBL.out.drew.trans (hbn.mono hz)).trans (hb6.mono hz)⟩
  ·have hul:(0:Int)<(us.length:Int):=by omega
   have hmp:=xC ht (by intro q;rw[q] at hu;exact hu rfl)
   have hj6:j<=6:=by
    rcases Nat.lt_or_ge 6 j with q|q
    ·obtain rfl:j=7:=by omega
     rw[Nat.div_eq_of_lt (Nat.lt_trans HN.out (by decide))] at hm;omega
    ·exact q
   have Lb:us.length<=7:=FR us 7 ht (by rw[hm];exact Nat.lt_of_le_of_lt (Nat.div_le_self _ _) (Nat.lt_trans HN.out (by decide)));have HSH:=ay (Q6 _ au cu us 1000000000 w1 hwd hw (by omega) (by omega) (by omega));obtain⟨hd1,hd2⟩:=Vv us n.natAbs (9 * j) hm;have hr9:=sj 1000000000 (by omega) us;have htr:=yQ (bK 1000000000 us).1
   have hlt2:∀ x∈dB (bK 1000000000 us).1,x<4294967296:=λx hx=>Jd 1000000000 (by omega) us hw x (Bj _ _ hx)
   have hlow:=Vu (9 * j) n.natAbs;rw[<- hd2] at hlow;have HLW:=ay hlow;have HM:=ay (show dB (dB (bK 1000000000 us).1)=dB (bK 1000000000 us).1/\(∀ x∈dB (bK 1000000000 us).1,x<4294967296)/\jc (dB (bK 1000000000 us).1)=n.natAbs / 10 ^ (9 * (j+1)) from ⟨htr,hlt2,by rw[hd1,Nat.mul_add]⟩);unfold JF at HSH;generalize (bK 1000000000 us).2=r at HSH hr9 HLW;generalize dB (bK 1000000000 us).1=us2 at HSH HM;generalize kH (9 * j) n.natAbs=l at hrow HLW;clear hwd hw ht hm hmp hd1 hd2 htr hlt2 hlow
   go_upto_region 8 with (go_at_call 97;refine HSH.out.mono ?_;rintro e w2 ⟨c2,rfl,hwd2,hb2⟩)
   have ai6:=hb2.size
   have hown:∀ q,v.ownBlock=some q->w.heap.size<=q/\q<w1.heap.size:=λq hq=>hrow.lt q hq
   have HI:Hid (afX #[.bool ng,.slice am ws.length cm] w (9 * j) l r (.slice (some ⟨w1.heap.size,0,none⟩) us2.length c2) us2 v (.int .u64 (r:Int)) (.int .i64 (0:Nat)) w2):=ay ⟨0,by omega,rfl,by simp,oJ.imp hwd2 (λb hb _ q=>by have:=(hown b q.symm).2;omega),by simpa [kH] using own_below hrow hb2,hbl.trans (hb2.mono hz),(hb2.block _ (bP hbx).1).trans hbx⟩;clear hown hrow hwd2 hb2 hbl hbx;go_wp2
   go_loopw [3,5,22] (λv q c W=>afX #[.bool ng,.slice am ws.length cm] w (9 * j) l r (.slice (some ⟨w1.heap.size,0,none⟩) us2.length c2) us2 v q c W) (λ_ _ c _=>9 - (intOf c).toNat)
   case atStart=>exact HI.out
   case round =>
    obtain⟨i,hi9,rfl,rfl,hwd,hrow,hbl,hbx⟩:=hrel;have hzW:=hbl.size
    by_cases hlt:i<9
    ·have Xg:r / 10 ^ i<1000000000:=Nat.lt_of_le_of_lt (Nat.div_le_self _ _) hr9
     have hsn:=Je i r
     have hdv:r / 10 ^ (i+1)=r / 10 ^ i / 10:=by rw[Nat.pow_succ,Nat.div_div_eq_div_mul]
     have HDV:=ay hdv;have rO:=ay hsn;generalize r / 10 ^ i=q at Xg HDV rO |-;have hix:=Vw (q % 10) (by omega);generalize UInt8.ofNat (48+q % 10)=c at hix rO
     have hiI:(i:Int)<9:=by omega
     clear hsn hdv;go_wp2_with (at_builtin;refine wpList_append_lies _ rfl _ _ 195 rfl w.heap.size 5 i0 (.int .u8 0) 1 1 Tryz.underlying195 hi hz0 hz1 hz2 rfl (by decide) _ (9 * j+i) _ rfl (hrow.alloc _) ⟨wr.heap.size,0,none⟩ 1 1 [.int .u8 (c.toNat:Int)] rfl rfl ?c1 ?c2 ?c3 ?c4 ?c5 ?c6 _ rfl ?_)
     case c1 =>
      intro j' u hj';exact vL (cs:=#[.int .u8 (c.toNat:Int)]) (t:=5) (fr:=(0,0)) (aX wr _) j' u (by simpa using hj')
     case c2=>simp[Value.oneCell']
     case c3=>omega
     case c4=>unfold maxLen;omega
     case c5=>omega
     case c6=>simp;omega
     intro g cap w3 kK hgrow3 afZ hlt3;have af0:=Wd.append (v':=.slice (some ⟨g,0,none⟩) (9 * j+i+1) cap) hwd hgrow3 (by simpa using afZ) rfl;have hb3:Below w.heap.size w w3:=(hbl.alloc hzW _).grown hgrow3 (by simp;omega) (λq hq=>by have:=(hrow.lt q hq).1;omega);have HIN:Hid (ZIn #[.bool ng,.slice am ws.length cm] w (9 * j+(i+1)) (l++kH (i+1) r) (.slice (some ⟨g,0,none⟩) (9 * j+i+1) cap) (.slice (some ⟨w1.heap.size,0,none⟩) us2.length c2) us2 w3):=ay ⟨af0,by rw[rO.out,<- om,Lib.byteCells_append];exact kK,hb3,iW (hrow.alloc _) hgrow3 ((gZ _ _ _ (bP hbx).1).trans hbx) (by decide)⟩;clear af0 hb3 kK hgrow3 afZ hlt3 hwd hrow hbl hix hbx;go_wp2;exact⟨⟨i+1,by omega,by go_num,by rw[HDV.out];exact Ee (by omega),HIN.out⟩,by simp[intOf];omega⟩
    ·obtain rfl:i=9:=by omega
     have HO:Hid (YK #[.bool ng,.slice am ws.length cm] w n.natAbs (j+1) u3 (.slice (some ⟨w1.heap.size,0,none⟩) us2.length c2) us2 wr):=ay ⟨HM.out.1,HM.out.2.1,HM.out.2.2,hwd,by rw[Nat.mul_add,HLW.out];exact hrow,hbl,hbx⟩;clear hwd hrow hbl hbx;go_wp2
     go_roundg (6 - j)
     case measure=>omega
     case rel=>exact⟨j+1,us2,_,c2,by omega,rfl,HO.out⟩
theorem NP (P:Nat->Prop)(am:Option Addr)(wn cm:Nat)(n:Int)(w:World)(h:nP P w n (.slice am wn cm))(hn:n.natAbs<10 ^ 60) :
  Calls Tryz.prog 60 #[.agg #[.bool (decide (n<0)),.slice am wn cm]] w (KY (lS n) w):=by
 obtain⟨ws,h1,h2,h3,h4⟩:=h;obtain⟨ao,cap,hv⟩:=h1.form;simp only[Value.slice.injEq] at hv;obtain⟨rfl,rfl,rfl⟩:=hv
 by_cases h0:ws.length=0
 ·have hw:=List.length_eq_zero_iff.1 h0
  subst hw
  have hz:n=0:=by rw[jc] at h4;omega
  subst hz
  have e:lS 0=[48]:=by
   have:=EJ 0;rw[show ((0:Nat):Int)=0 from rfl] at this;rw[this,kg,dif_pos (by omega)]
   rfl
  rw[e];exact Vx _ _ _ _
 ·exact YL P _ _ n ws w h1 h2 h3 h4 hn (by omega)
