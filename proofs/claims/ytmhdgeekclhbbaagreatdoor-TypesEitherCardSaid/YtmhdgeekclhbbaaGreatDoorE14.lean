/- Walks and plain laws, without a condition. -/
import Derived.Test.YtmhdgeekclhbbaaGreatDoorE13
import Derived.Test.YtmhdgeekclhbbaaGreatDoorE12
set_option maxHeartbeats 16000000
set_option maxRecDepth 100000
set_option linter.unusedVariables false
set_option linter.unusedSimpArgs false
namespace Go.Proofs.YtmhdgeekclhbbaaGreatDoor
open Go.RowKit Go
variable{u k i B v b C e j:Nat}{aj:List Nd}{ks:List Int}{x:PE}{W w w' w0:World}{ah:List Tok}{tv nv c0 c1 c2 c3 c4 kv c5 c6 c7 c8 c9 c10 c11 c12 c13 c14:Value}{P Q:Nat->Prop}{t:gN}{d:dY}
def jr:List CE->List (Option CE)
 | []=>[]
 | e :: l=>some e :: (match l with | []=>[]|_ :: _=>none :: jr l)
theorem yh (e f:CE)(l:List CE):jr (e :: f :: l)=some e :: none :: jr (f :: l):=by
 conv=>lhs;rw[jr]
theorem sN:∀ l:List CE,(jr l).map tF=fO l
 | []=>by simp[jr,fO]
 | [e]=>by simp[jr,fO,tF]
 | e :: f :: l=>by
  rw[yh,pJ,mE,mE,sN (f :: l)]
  rfl
theorem Dm (ah:List Tok):∀ (l:List CE) (u:Nat),(iX (jr l++[none]) u).map (λp=>p.1.pe ah p.2)=iZ ah u l
 | [],u=>by simp[jr,iX,iZ]
 | [e],u=>by simp[jr,iX,iZ]
 | e :: f :: l,u=>by
  rw[yh,kF,kF,iX,iX,mE,Dm ah (f :: l)]
  conv=>rhs;rw[iZ]
theorem Nj {E:IC}:∀ (l:List CE) (u:Nat),mF E.ah E.cl u l->u+cO (fO l)<=E.ah.length->(∀ e∈l,∀ v,e.ok E.ah E.cl v->v+e.pt.lv<=E.ah.length->E.reads e v)->∀ p∈iX (jr l++[none]) u,E.reads p.1 p.2
 | [],u,_,_,_,p,hp=>by simp[jr,iX] at hp
 | [e],u,ho,hl,hr,p,hp=>by
  rw[mF] at ho;rw[vP] at hl;simp only[cO] at hl
  have h:p=(e,u):=by simpa [jr,iX] using hp
  subst h;exact hr e xq u ho.1 (by omega)
 | e :: f :: l,u,ho,hl,hr,p,hp=>by
  rw[mF] at ho;rw[pJ] at hl;simp only[cO,PT.lv] at hl;rw[yh,kF,kF,iX,iX] at hp
  rcases oo.1 hp with rfl|hp
  ·exact hr e xq u ho.1 (by omega)
  ·exact Nj (f :: l) _ ho.2 (by omega) (λx hx=>hr x (xu _ hx)) p hp
theorem fG {l:List PT}(h:pK aj i u (.node k l)):∃ ks,aj[i]?=some ⟨(k:Nat),-1,ks⟩/\fT aj ks u l:=by
 rw[pK] at h;obtain⟨ks,_,h1,h2⟩:=h;rw[Int.toNat_natCast] at h1;exact⟨ks,h1,h2⟩
theorem sO {E:IC}(hE:E.ok){its:List (Option CE)}(h:fT E.aj ks u (its.map tF))(hl:cO (its.map tF)<=E.ah.length):ks.length<=1000000000:=by
 have h1:=(AZ h).1;have h2:=Dl its;have h3:=hE.len;rw[vL] at h1;omega
theorem gD (E:IC){k0:Nat}{kd:Int}(hAt:E.At W)(hn:E.aj[i]?=some ⟨kd,-1,(k0:Int) :: ks⟩)(h0:E.aj[k0]?=some ⟨19,(u:Nat),[]⟩)(hu:u<E.ah.length)(hx:sM E.B E.tv E.nv E.ah E.aj i ((k0:Int) :: ks) (dh E.ah u) kd x) :
  Calls Tryz.prog 108 #[.agg #[E.tv,E.nv],.int .i64 i] W (EPost XA x W) :=
 Lp E.B E.tv E.nv E.ah E.aj i kd _ W hAt.1 hAt.2 hn k0 rfl _ _ h0 (.inl ⟨u,rfl,j3 hu⟩) x hx
theorem ab6 (hT:bE B W (.agg #[tv,nv]) ah aj)(hB:B<=W.heap.size)(h:aj[k]?=some ⟨19,(u:Nat),[]⟩)(hu:u<ah.length) :
  Calls Tryz.prog 105 #[.agg #[tv,nv],.int .i64 k] W λe w'=>e=.returned (.string ⟨(aJ ah u).toArray⟩)/\Below W.heap.size W w':=by
 have h1:=yH B tv nv ah aj k u W hT hB h hu;have e:=j3 hu;rw[AB hu] at e;rw[kE e] at h1;exact h1
theorem eZ (E:IC)(hE:E.ok):∀ (n:Nat) (e:CE) (u:Nat),SizeOf.sizeOf e<n->e.ok E.ah E.cl u->u+e.pt.lv<=E.ah.length->E.reads e u
 | 0,e,u,h,_,_=>absurd h (by omega)
 | n+1,.num,u,_,ho,hl=>by
  intro i W hrep hAt;rw[CE.ok] at ho;rw[CE.pt] at hrep hl;simp only[PT.lv,cO] at hl;obtain⟨ks,hn,hr⟩:=fG hrep;obtain⟨k0,ks',rfl,h0,_⟩:=dx hr;rw[CE.pe];exact gD E hAt hn h0 (by omega) (.num _ _ (hE.nums u (by omega) ho))
 | n+1,.truth,u,_,ho,hl=>by
  intro i W hrep hAt;rw[CE.ok] at ho;rw[CE.pt] at hrep hl;simp only[PT.lv,cO] at hl;obtain⟨ks,hn,hr⟩:=fG hrep;obtain⟨k0,ks',rfl,h0,_⟩:=dx hr;rw[CE.pe]
  rcases ho with ho|ho
  ·rw[kS ho]
   exact gD E hAt hn h0 (by omega) (.tru ho)
  ·rw[fu (by rw[ho];decide)]
   exact gD E hAt hn h0 (by omega) (.fls ho)
 | n+1,.res,u,_,ho,hl=>by
  intro i W hrep hAt;rw[CE.pt] at hrep hl;simp only[PT.lv,cO] at hl;obtain⟨ks,hn,hr⟩:=fG hrep;obtain⟨k0,ks',rfl,h0,_⟩:=dx hr;rw[CE.pe];exact gD E hAt hn h0 (by omega) .res
 | n+1,.Cr,u,_,ho,hl=>by
  intro i W hrep hAt;rw[CE.pt] at hrep hl;simp only[PT.lv,cO] at hl;obtain⟨ks,hn,hr⟩:=fG hrep;obtain⟨k0,ks',rfl,h0,_⟩:=dx hr;rw[CE.pe];exact gD E hAt hn h0 (by omega) .Cr
 | n+1,.group e,u,hs,ho,hl=>by
  intro i W hrep hAt;rw[CE.ok] at ho;rw[CE.pt] at hrep hl;simp only[PT.lv,cO] at hl;simp only[CE.group.sizeOf_spec] at hs;obtain⟨ks,hn,hr⟩:=fG hrep;obtain⟨k0,ks',rfl,h0,hr⟩:=dx hr;obtain⟨k1,ks',rfl,h1,_⟩:=IE hr;rw[CE.pe];exact gD E hAt hn h0 (by omega) (.group k1 _ rfl (λW hT hB=>eZ E hE n e (u+1) (by omega) ho.2 (by omega) k1 W h1 ⟨hT,hB⟩))
 | n+1,.un e,u,hs,ho,hl=>by
  intro i W hrep hAt;rw[CE.ok] at ho;rw[CE.pt] at hrep hl;simp only[PT.lv,cO] at hl;simp only[CE.un.sizeOf_spec] at hs;obtain⟨ks,hn,hr⟩:=fG hrep
  have hM:=nJ E [none,some e] ks u i _ hn hr (sO hE (its:=[none,some e]) hr (by simp only[mE,List.map_nil,tF,cO,PT.lv];omega)) (λp hp=>by
   have h:p=(e,u+1):=by simpa [iX] using hp
   subst h
   exact eZ E hE n e (u+1) (by omega) ho.2 (by omega))
  obtain⟨k0,ks',rfl,h0,_⟩:=dx hr;rw[CE.pe]
  rcases ho.1 with h|h
  ·rw[bq h]
   exact gD E hAt hn h0 (by omega) (.not _ h λop at_ W hT hB=>hM op at_ W hT hB)
  ·rw[aP (by rw[h];decide)]
   exact gD E hAt hn h0 (by omega) (.neg _ h λop at_ W hT hB=>hM op at_ W hT hB)
 | n+1,.bin a b,u,hs,ho,hl=>by
  intro i W hrep hAt;rw[CE.ok] at ho;rw[CE.pt] at hrep hl;simp only[PT.lv,cO] at hl;simp only[CE.bin.sizeOf_spec] at hs;obtain⟨ks,hn,hr⟩:=fG hrep
  have hM:=nJ E [some a,none,some b] ks u i _ hn hr (sO hE (its:=[some a,none,some b]) hr (by simp only[mE,List.map_nil,tF,cO,PT.lv];omega)) (λp hp=>by
   have h:p=(a,u)\/p=(b,u+a.pt.lv+1):=by simpa [iX] using hp
   rcases h with rfl|rfl
   ·exact eZ E hE n a u (by omega) ho.2.1 (by omega)
   ·exact eZ E hE n b _ (by omega) ho.2.2 (by omega))
  obtain⟨k0,ks',rfl,h0,hr⟩:=IE hr;obtain⟨k1,ks',rfl,h1,_⟩:=dx hr;obtain⟨c,la,ea,c1,c2⟩:=a.node;rw[ea] at h0;obtain⟨ksa,hna,_⟩:=fG h0;rw[CE.pe];refine Lp E.B E.tv E.nv E.ah E.aj i _ _ W hAt.1 hAt.2 hn k0 rfl _ _ hna (.inr ⟨by simp only;omega,rfl⟩) _ (.bin _ λW' hT hB=>?_);exact Qw _ E.B E.tv E.nv E.ah E.aj i _ W' hT hB hn k1 (u+a.pt.lv) rfl h1 _ (j3 (by omega)) ho.1 hM
 | n+1,.iff a b c,u,hs,ho,hl=>by
  intro i W hrep hAt;rw[CE.ok] at ho;rw[CE.pt] at hrep hl;simp only[PT.lv,cO] at hl;simp only[CE.iff.sizeOf_spec] at hs;obtain⟨ks,hn,hr⟩:=fG hrep
  have hM:=nJ E [none,some a,none,some b,none,some c] ks u i _ hn hr (sO hE (its:=[none,some a,none,some b,none,some c]) hr (by simp only[mE,List.map_nil,tF,cO,PT.lv];omega)) (λp hp=>by
   have h:p=(a,u+1)\/p=(b,u+1+a.pt.lv+1)\/p=(c,u+1+a.pt.lv+1+b.pt.lv+1):=by simpa [iX] using hp
   rcases h with rfl|rfl|rfl
   ·exact eZ E hE n a _ (by omega) ho.2.1 (by omega)
   ·exact eZ E hE n b _ (by omega) ho.2.2.1 (by omega)
   ·exact eZ E hE n c _ (by omega) ho.2.2.2 (by omega))
  obtain⟨k0,ks',rfl,h0,_⟩:=dx hr;rw[CE.pe];exact gD E hAt hn h0 (by omega) (.iff _ λop at_ W hT hB=>hM op at_ W hT hB)
 | n+1,.sZ a b,u,hs,ho,hl=>by
  intro i W hrep hAt;rw[CE.ok] at ho;rw[CE.pt] at hrep hl;simp only[PT.lv,cO] at hl;simp only[CE.sZ.sizeOf_spec] at hs;obtain⟨ks,hn,hr⟩:=fG hrep
  have hM:=nJ E [none,none,none,some a,none,some b] ks u i _ hn hr (sO hE (its:=[none,none,none,some a,none,some b]) hr (by simp only[mE,List.map_nil,tF,cO,PT.lv];omega)) (λp hp=>by
   have h:p=(a,u+3)\/p=(b,u+3+a.pt.lv+1):=by simpa [iX] using hp
   rcases h with rfl|rfl
   ·exact eZ E hE n a _ (by omega) ho.2.2.1 (by omega)
   ·exact eZ E hE n b _ (by omega) ho.2.2.2 (by omega))
  obtain⟨k0,ks',rfl,h0,hr⟩:=dx hr;obtain⟨k1,ks',rfl,h1,_⟩:=dx hr;rw[CE.pe];exact gD E hAt hn h0 (by omega) (.sZ _ k1 _ (λop at_ W hT hB=>hM op at_ W hT hB) rfl λW hT hB=>ab6 hT hB h1 (by omega))
 | n+1,.tq a b,u,hs,ho,hl=>by
  intro i W hrep hAt;rw[CE.ok] at ho;rw[CE.pt] at hrep hl;simp only[PT.lv,cO] at hl;simp only[CE.tq.sizeOf_spec] at hs;obtain⟨ks,hn,hr⟩:=fG hrep
  have hM:=nJ E [none,some a,none,some b] ks u i _ hn hr (sO hE (its:=[none,some a,none,some b]) hr (by simp only[mE,List.map_nil,tF,cO,PT.lv];omega)) (λp hp=>by
   have h:p=(a,u+1)\/p=(b,u+1+a.pt.lv+1):=by simpa [iX] using hp
   rcases h with rfl|rfl
   ·exact eZ E hE n a _ (by omega) ho.2.1 (by omega)
   ·exact eZ E hE n b _ (by omega) ho.2.2 (by omega))
  obtain⟨k0,ks',rfl,h0,_⟩:=dx hr;rw[CE.pe];exact gD E hAt hn h0 (by omega) (.tq _ λop at_ W hT hB=>hM op at_ W hT hB)
 | n+1,.call q l,u,hs,ho,hl=>by
  intro i W hrep hAt;rw[CE.ok] at ho;rw[CE.pt] at hrep hl;simp only[CE.call.sizeOf_spec] at hs
  have hsz:∀ e∈l,∀ v,e.ok E.ah E.cl v->v+e.pt.lv<=E.ah.length->E.reads e v:=λe he v h1 h2 =>
   eZ E hE n e v (by have:=List.sizeOf_lt_of_mem he;omega) h1 h2
  obtain⟨ks,hn,hr⟩:=fG hrep
  cases q with
  | true =>
   simp only[if_true] at hr hl ho;simp only[PT.lv,jA,cO] at hl
   have hr':fT E.aj ks u (([none,none,none,none]++(jr l++[none])).map tF):=by
    rw[zJ,zJ,sN]
    simpa [tF] using hr
   have hM:=nJ E ([none,none,none,none]++(jr l++[none])) ks u i _ hn hr' (sO hE hr' (by rw[zJ,zJ,sN];simp only[mE,List.map_nil,tF,jA,cO,PT.lv];omega)) (λp hp=>by
    simp only[kF,qW,iX] at hp
    exact Nj l (u+4) ho.2.2.2.2.2 (by omega) hsz p hp)
   simp only[kF,qW,iX] at hM;rw[Dm] at hM;obtain⟨k0,ks',rfl,h0,hr⟩:=dx hr;obtain⟨k1,ks',rfl,h1,hr⟩:=dx hr;obtain⟨k2,ks',rfl,h2,hr⟩:=dx hr;rw[CE.pe,bq rfl];refine gD E hAt hn h0 (by omega) (.call _ λW' hT hB=>?_);exact Lr true _ _ _ E.B E.tv E.nv E.ah E.aj i _ W' hT hB hn k0 u rfl h0 _ (j3 (by omega)) k1 (u+1) rfl h1 _ (j3 (by omega)) ho.2.2.2.1 k2 (u+2) (λ_=>rfl) (λ_=>h2) _ (λ_=>j3 (by omega)) (.inl ⟨rfl,rfl,rfl⟩) hM
  | false =>
   simp only[Bool.false_eq_true,if_false] at hr hl ho;simp only[PT.lv,jA,cO] at hl
   have hr':fT E.aj ks u (([none,none]++(jr l++[none])).map tF):=by
    rw[zJ,zJ,sN]
    simpa [tF] using hr
   have hM:=nJ E ([none,none]++(jr l++[none])) ks u i _ hn hr' (sO hE hr' (by rw[zJ,zJ,sN];simp only[mE,List.map_nil,tF,jA,cO,PT.lv];omega)) (λp hp=>by
    simp only[kF,qW,iX] at hp
    exact Nj l (u+2) ho.2.2.2.2 (by omega) hsz p hp)
   simp only[kF,qW,iX] at hM;rw[Dm] at hM;obtain⟨k0,ks',rfl,h0,hr⟩:=dx hr;obtain⟨k1,ks',rfl,h1,hr⟩:=dx hr;rw[CE.pe,aP (by decide)];refine gD E hAt hn h0 (by omega) (.call _ λW' hT hB=>?_);exact Lr false _ _ _ E.B E.tv E.nv E.ah E.aj i _ W' hT hB hn k0 u rfl h0 _ (j3 (by omega)) k1 (u+1) rfl h1 _ (j3 (by omega)) ho.2.2.2.1 0 0 (λq=>by cases q) (λq=>by cases q) (dh E.ah u) (λq=>by cases q) (.inr ⟨rfl,rfl,rfl⟩) hM
def eB:Nat->List It->List (It × Nat)
 | _,[]=>[]
 | u,i :: l=>(i,u) :: eB (u+i.pt.lv) l
theorem vE:∀ (l:List It) (u:Nat),(eB u l).length=l.length
 | [],_=>rfl
 | i :: l,u=>by rw[eB,dN,dN,vE l]
theorem BX {aj:List Nd}:∀ (l:List It) (ks:List Int) (u:Nat),fT aj ks u (l.map It.pt)->ks.length=l.length/\∀ j,(h1:j<ks.length)->(h2:j<(eB u l).length)->pK aj ks[j] (eB u l)[j].2 (eB u l)[j].1.pt
 | [],ks,u,h=>by
  simp only[List.map_nil,fT] at h;subst h;exact⟨rfl,λj h1=>absurd h1 (by simp)⟩
 | i :: l,ks,u,h=>by
  simp only[mE,fT] at h;obtain⟨k,ks',rfl,h1,h2⟩:=h;obtain⟨h3,h4⟩:=BX l ks' _ h2;refine⟨by simp[h3],λj q1 q2=>?_⟩
  cases j with
  | zero=>exact h1
  | succ j=>exact h4 j (by simpa using q1) (by simpa [eB] using q2)
theorem vF:∀ (l:List It) (u:Nat) (p:It × Nat),p∈eB u l->p.2+p.1.pt.lv<=u+cO (l.map It.pt)
 | [],u,p,h=>by cases h
 | i :: l,u,p,h=>by
  rw[eB,oo] at h;rw[mE,cO]
  rcases h with rfl|h
  ·simp only;omega
  ·have:=vF l _ p h
   omega
theorem II (ah:List Tok):∀ (l:List It) (u:Nat) (a:TyA) (j:Nat) (h:j<(eB u l).length),oO ah u (l.take (j+1)) a=(eB u l)[j].1.step ah (eB u l)[j].2 (oO ah u (l.take j) a)
 | [],u,a,j,h=>absurd h (by simp[eB])
 | i :: l,u,a,0,h=>by simp[oO,eB]
 | i :: l,u,a,j+1,h=>by
  have:=II ah l (u+i.pt.lv) (i.step ah u a) j (by simpa [eB] using h);simp only[List.take_succ_cons,oO,this,eB,JG]
def PT.kd:PT->Int | .leaf=>19 | .node c _=>(c:Int)
theorem Qy {k:Int}{t:PT}(h:pK aj k v t):∃ (m:Nat) (x:Nd),k=m/\aj[m]?=some x/\x.kind=t.kd:=by
 cases t with
 | leaf =>
  rw[pK] at h;exact⟨k.toNat,_,by omega,h.2,rfl⟩
 | node c l =>
  rw[pK] at h;obtain⟨ks,h0,h1,_⟩:=h;exact⟨k.toNat,_,by omega,h1,rfl⟩
def It.plain:It->Bool
 | .base=>false
 | .cl _=>false
 | _=>true
theorem It.Ue (i:It)(h:i.plain=true):i.pt.kd≠5/\i.pt.kd≠6:=by
 cases i with
 | leaf=>exact⟨by decide,by decide⟩
 | par t=>exact⟨show ((4:Nat):Int)≠5 by decide,show ((4:Nat):Int)≠6 by decide⟩
 | expr e =>
  obtain⟨c,la,ea,c1,c2⟩:=e.node;simp only[It.pt,ea,PT.kd];omega
 | base=>cases h
 | cl e=>cases h
theorem It.Uf {i:It}(h:i.plain=true)(a:TyA):i.step ah u a=a:=by
 cases i<;>first|rfl|cases h
def Nk (a:TyA)(w:World)(e:Ending)(w':World):Prop:=∃ ao cap,e=.returned (.tuple #[.int .i64 a.base,.slice ao a.aC.length cap,.int .i64 a.bare])/\RowK (EK XA) (λb=>w.heap.size<=b) w' (.slice ao a.aC.length cap) a.aC/\Below w.heap.size w w'
theorem row_one {m k:Value}{T:TypeId}(h:qC XA P w m k x)(hP:P w.heap.size):RowK (EK XA) P (w.alloc (.cells #[.int .i64 x.op,.string ⟨x.name.toArray⟩,.string ⟨x.module.toArray⟩,.bool (decide (x.num<0)),m,.bool x.yes,k,.int .i64 x.at_] T)) (.slice (some ⟨w.heap.size,0,none⟩) 1 1) [x]:=by
 have hnw:=aZ w (.cells #[.int .i64 x.op,.string ⟨x.name.toArray⟩,.string ⟨x.module.toArray⟩,.bool (decide (x.num<0)),m,.bool x.yes,k,.int .i64 x.at_] T);refine⟨[(x,(m,k))],rfl,⟨some ⟨w.heap.size,0,none⟩,1,rfl,bI _,(EK XA).PU _,λ_=>⟨w.heap.size,0,rfl,hP,by simp,λi hi=>?_⟩⟩,λp hp=>?_⟩
 ·have hc:(EK XA).flat [(x,(m,k))]=[.int .i64 x.op,.string ⟨x.name.toArray⟩,.string ⟨x.module.toArray⟩,.bool (decide (x.num<0)),m,.bool x.yes,k,.int .i64 x.at_]:=rfl
  rw[bg hnw,Nat.zero_add];simp only[hc];simp only[hc,dN,iF] at hi;have h':i<(#[Value.int .i64 x.op,.string ⟨x.name.toArray⟩,.string ⟨x.module.toArray⟩,.bool (decide (x.num<0)),m,.bool x.yes,k,.int .i64 x.at_]:Array Value).size:=hi;rw[Array.getElem?_eq_getElem h']
  simp
 ·rw[DN] at hp
  subst hp;exact qC.frame (bA.of (aB w _)) h
theorem wB (h:w.heap[b]?=some (.cells #[c0,c1,c2,c3] 131 (0,0))):w.cell? ⟨b,2,none⟩=some c2/\w.cell? ⟨b,3,none⟩=some c3:=by
 refine⟨?_,?_⟩<;>(rw[bg h];rfl)
theorem mP {x y:Value}(h:w.heap[b]?=some (.cells #[x,y] 126 (0,0))):w.cell? ⟨b,0,none⟩=some x/\w.cell? ⟨b,1,none⟩=some y:=by
 refine⟨?_,?_⟩<;>(rw[bg h];rfl)
theorem IJ (B:Nat)(tv nv:Value)(ah:List Tok)(aj:List Nd)(i kd:Nat)(ks:List Int)(u:Nat)(its:List It)(w:World)(h:bE B w (.agg #[tv,nv]) ah aj)(hB:B<=w.heap.size)(hn:aj[i]?=some ⟨(kd:Nat),-1,ks⟩)(hr:fT aj ks u (its.map It.pt))(hu:u+cO (its.map It.pt)<=ah.length)(hks:ks.length<=1000000)
  (hpl:∀ v,bN ah v+(aJ ah v).length<=1099511627776) (hbs:∀ v,(It.base,v)∈eB u its->aJ ah v∈[oh,jJ])
  (hE:∀ e v,(It.cl e,v)∈eB u its->∀ (k:Nat) (W:World),pK aj k (v+1) e.pt->bE B W (.agg #[tv,nv]) ah aj->B<=W.heap.size->Calls Tryz.prog 108 #[.agg #[tv,nv],.int .i64 k] W (EPost XA (e.pe ah (v+1)) W)) :
  Calls Tryz.prog 106 #[.agg #[tv,nv],.int .i64 i] w (Nk (oO ah u its ⟨0,[],-1⟩) w):=by
 have HE:=ay hE;have HBS:=ay hbs;have HPL:=ay hpl;obtain⟨hlk,hrp⟩:=BX its ks u hr;have HRP:=ay hrp;have HLK:Hid (ks.length=(eB u its).length):=ay (by rw[vE];exact hlk);have HU:=ay hu;have HT:=ay h;obtain⟨hi,hni⟩:=qm hn;obtain⟨a1,c1,_,_,e⟩:=h.slices;obtain⟨b,off,cap,kv,rfl,hb,_,_,x2,hkv⟩:=h.node hi
 obtain⟨rfl,-⟩:tv=.slice a1 ah.length c1/\_:=by simpa using e
 rw[hni] at hkv;simp only at hkv;obtain⟨ak,ck,rfl,_,hf⟩:=hkv.form;have HF:=ay hf;have hal:=(bY w.heap.size w).alloc (bI _) (.cells #[.slice a1 ah.length c1,.slice (some ⟨b,off,none⟩) aj.length cap] 126);have x2':=jy hal x2;have hnr:=aZ w (.cells #[.slice a1 ah.length c1,.slice (some ⟨b,off,none⟩) aj.length cap] 126);obtain⟨r0,r1⟩:=mP hnr
 have i1:(i:Int)<(aj.length:Int):=by omega
 clear hf h e hkv x2 hn hni hlk hrp hr hu hE hbs hpl;go_enter Tryz.func106,Tryz.ntmps106;go_wp2;generalize w.alloc _=w1 at hnr hal r0 r1 x2' |-;have hsz1:=hal.size
 go_loopw [4,5,6,18] (λbv cv xv q wr=>∃ (j:Nat) (ao:Option Addr) (cc:Nat),j<=ks.length/\q=.int .i64 j/\bv=.int .i64 (oO ah u (its.take j) ⟨0,[],-1⟩).base/\cv=.slice ao (oO ah u (its.take j) ⟨0,[],-1⟩).aC.length cc/\xv=.int .i64 (oO ah u (its.take j) ⟨0,[],-1⟩).bare /\
  RowK (EK XA) (λb=>w.heap.size<=b) wr (.slice ao (oO ah u (its.take j) ⟨0,[],-1⟩).aC.length cc) (oO ah u (its.take j) ⟨0,[],-1⟩).aC/\Below w.heap.size w wr/\wr.heap[w.heap.size]?=some (.cells #[.slice a1 ah.length c1,.slice (some ⟨b,off,none⟩) aj.length cap] 126 (0,0))) (λ_ _ _ q _=>ks.length - (intOf q).toNat)
 case atStart=>exact⟨0,none,0,mD _,rfl,rfl,rfl,rfl,RowK.nil _ _ _,hal,hnr⟩
 case round =>
  obtain⟨j,ao,cc,hj,rfl,rfl,rfl,rfl,hrow,hbl,hrr⟩:=hrel;have hz:=hbl.size;have hlt:=(bU hrr).1
  by_cases hjl:j<ks.length
  ·obtain⟨bk,ok,rfl,hbk,hcell⟩:=HF.out (by omega)
   have hx:=(hbl.cell (p:=⟨bk,ok+j,none⟩) (by show bk<_;omega)).trans (hcell j hjl)
   have hjp:j<(eB u its).length:=by have:=HLK.out;omega
   have hrep:=HRP.out j hjl hjp;have hst:=II ah its u ⟨0,[],-1⟩ j hjp;have hmem:=oQ hjp;have hend:=vF its u _ hmem;have hu:=HU.out
   have Md:(j:Int)<(ks.length:Int):=by omega
   generalize (eB u its)[j]=it at hrep hst hmem hend;obtain⟨it,v⟩:=it;simp only at hrep hst hend;generalize ks[j]=q at hx hrep;obtain⟨m,x,rfl,hnx,hkx⟩:=Qy hrep;obtain⟨hm,XY⟩:=qm hnx;obtain⟨b',off',jc,kv',e',_,y0,_,y2,hky⟩:=HT.out.node hm
   obtain⟨⟨rfl,rfl⟩,rfl⟩:(b=b'/\off=off')/\cap=jc:=by simpa using e'
   rw[XY] at y0 hky;have y0':=(hbl.cell (p:=⟨b,off+m * 3,none⟩) (by show b<_;omega)).trans y0
   have hmI:(m:Int)<(aj.length:Int):=by omega
   obtain⟨r0',r1'⟩:=mP hrr;clear y0 e' hcell r0 r1 x2' hnr i1;generalize oO ah u (its.take j) ⟨0,[],-1⟩=a at hrow hst |-;have HST:=ay hst;clear hst
   cases hpn:it.plain with
   | true =>
    obtain⟨k5,k6⟩:=it.Ue hpn;rw[<- hkx] at k5 k6;generalize x.kind=kx at y0' k5 k6
    have t5:(kx == 5)=false:=by rw[<- wT,beq_iff_eq];exact k5
    have t6:(kx == 6)=false:=by rw[<- wT,beq_iff_eq];exact k6
    have HSP:=ay (It.Uf (ah:=ah) (u:=v) hpn a);clear hpn k5 k6 hkx hrep hmem hend;go_wp2
    go_roundw
    case rel =>
     have e1:=HST.out;rw[HSP.out] at e1;refine⟨j+1,ao,cc,by omega,by go_num,?_⟩;rw[e1];exact⟨rfl,rfl,rfl,hrow,hbl,hrr⟩
    case measure=>simp[intOf];omega
   | false =>
    cases it with
    | leaf=>cases hpn
    | par t=>cases hpn
    | expr e=>cases hpn
    | base =>
     obtain⟨ks2,hn2,hr2⟩:=fG (show pK aj m v (.node 5 [.leaf]) from hrep)
     obtain rfl:x=⟨(5:Nat),-1,ks2⟩:=by rw[hnx] at hn2;exact kE hn2
     obtain⟨k0,ks',rfl,hl0,hr3⟩:=dx hr2;rw[fT] at hr3;subst hr3
     have hv:v<ah.length:=by simp only[It.pt,PT.lv,cO] at hend;omega
     have hbt:=HBS.out v hmem;have hpv:=HPL.out v
     have hK:=λW hT hW=>lJ B (.slice a1 ah.length c1) (.slice (some ⟨b,off,none⟩) aj.length cap) ah aj k0 v W hT hW hl0 hv
     have htk:ah[v]=dh ah v:=by have:=j3 hv;rw[AB hv] at this;exact kE this
     rw[htk] at hK;unfold qN dX at hK;have J7:=HST.out;unfold It.step at J7;unfold aJ bN at J7 hpv;unfold aJ at hbt;generalize dh ah v=t at hK J7 hbt hpv;obtain⟨tk,tl,tt,tp⟩:=t;simp only at hK J7 hbt hpv y0' hky;have HS2:=ay J7;obtain⟨ak2,ck2,rfl,_,zu⟩:=hky.form;obtain⟨b2,o2,rfl,hb2,hkc⟩:=zu (by simp);have z0:=(hbl.cell (p:=⟨b2,o2+0,none⟩) (by show b2<_;omega)).trans (hkc 0 (by simp));have y2':=(hbl.cell (p:=⟨b,off+m * 3+2,none⟩) (by show b<_;omega)).trans y2;simp only[qp,List.getElem_cons_zero,dN,iF,Nat.zero_add] at z0 y2';have HK:=ay (λW (hb:Below wr.heap.size wr W)=>(hK W (HT.out.below ((hbl.trans (hb.mono hz)).mono hB)) (by have:=hb.size;omega)).mono (R':=λe w'=>e=.returned (.agg #[.int .i64 tk,.string ⟨tl.toArray⟩,.string ⟨tt.toArray⟩,.int .i64 tp])/\Below wr.heap.size wr w'/\Below W.heap.size W w') λe w' h=>⟨h.1,hb.trans (h.2.mono hb.size),h.2⟩);clear hK J7 HST hpn hkx hrep hmem hend hn2 hr2 hl0 hky zu hkc y2 htk hnx XY
     go_upto_region 7 with fail
     go_cut [9] (λp wc=>∃ X:Nat,p=.pointer (some ⟨X,0,none⟩)/\wc.heap[X]?=some (.cells #[.int .i64 tk,.string ⟨tl.toArray⟩,.string ⟨tt.toArray⟩,.int .i64 tp] 131 (0,0))/\Below wr.heap.size wr wc)
     case first =>
      go_region_held3 (λw'=>w'.cell? ⟨w.heap.size,0,none⟩=some (.slice a1 ah.length c1)/\w'.cell? ⟨w.heap.size,1,none⟩=some (.slice (some ⟨b,off,none⟩) aj.length cap)/\w'.cell? ⟨b,off+m * 3+2,none⟩=some (.slice (some ⟨b2,o2,none⟩) 1 ck2)/\w'.cell? ⟨b2,o2,none⟩=some (.int .i64 k0))
       (first|go_keep|exact p3|exact⟨(dw w3 wr.heap.size _ _ _ _ (by omega)).trans p3.1,(dw w3 wr.heap.size _ _ _ _ (by omega)).trans p3.2.1,(dw w3 wr.heap.size _ _ _ _ (by omega)).trans p3.2.2.1,(dw w3 wr.heap.size _ _ _ _ (by omega)).trans p3.2.2.2⟩)
       (first|(go_at_call 61;refine(HK.out _ ?_).mono ?_;(first|exact(bY _ _).drew|exact((bY _ _).alloc (bI _) _).drew);rintro e w3 ⟨rfl,hq3,hb3⟩;have p3:=iq (jy hq3 r0') (iq (jy hq3 r1') (iq (jy hq3 y2') (jy hq3 z0)));try (have Iz:=(hb3.block wr.heap.size (by simp)).trans (aZ wr (.cells #[.int .i64 0,.string ⟨#[]⟩,.string ⟨#[]⟩,.int .i64 0] 131));obtain⟨tz0,tz1,tz2,tz3,tz4⟩:=qd Iz)))
      ·clear r0' r1' y2' z0 p3
       go_wp2_with fail
       go_meet
       exact⟨w3.heap.size,rfl,aZ _ _,hq3.alloc hq3.size _⟩
      ·obtain⟨S3,So,_⟩:=Af Iz (.int .i64 tk) (.string ⟨tl.toArray⟩) (.string ⟨tt.toArray⟩) (.int .i64 tp)
       clear r0' r1' y2' z0 p3 tz0 tz1 tz2 tz3 tz4;go_wp2_with fail
       go_meet
       exact⟨wr.heap.size,rfl,S3,(((hq3.setCell (bI _) _).setCell (bI _) _).setCell (bI _) _).setCell (bI _) _⟩
     case rest =>
      obtain⟨X,rfl,hX,hbc⟩:=hcut;have Wn:=(hbc.block w.heap.size hlt).trans hrr;have hrow2:=hrow.frame (bA.of hbc);have Ug:=hbl.trans (hbc.mono hz);obtain⟨f2,f3⟩:=wB hX;clear r0' r1' y2' z0 HK hX hbc;simp only[oo,List.not_mem_nil,or_false] at hbt
      rcases hbt with rfl|rfl
      ·simp only[oh,dN,iF] at hpv f2
       go_wp2
       go_roundw
       case rel =>
        have e1:=HS2.out;rw[aP (by decide)] at e1;refine⟨j+1,ao,cc,by omega,by go_num,?_⟩;rw[e1];exact⟨rfl,rfl,by simp[oh],hrow2,Ug,Wn⟩
       case measure=>simp[intOf];omega
      ·simp only[jJ,dN,iF] at hpv f2
       go_wp2
       go_roundw
       case rel =>
        have e1:=HS2.out;rw[bq rfl] at e1;refine⟨j+1,ao,cc,by omega,by go_num,?_⟩;rw[e1];exact⟨rfl,rfl,by simp[jJ],hrow2,Ug,Wn⟩
       case measure=>simp[intOf];omega
    | cl e =>
     obtain⟨ks2,hn2,hr2⟩:=fG (show pK aj m v (.node 6 [.leaf,e.pt,.leaf]) from hrep)
     obtain rfl:x=⟨(6:Nat),-1,ks2⟩:=by rw[hnx] at hn2;exact kE hn2
     obtain⟨k0,ks3,rfl,_,hr3⟩:=dx hr2;obtain⟨k1,ks4,rfl,hl1,hr4⟩:=IE hr3;obtain⟨k2,ks5,rfl,_,hr5⟩:=dx hr4;rw[fT] at hr5;subst hr5;have J7:oO ah u (its.take (j+1)) ⟨0,[],-1⟩=⟨a.base,[e.pe ah (v+1)],-1⟩:=HST.out
     have hX:=λW (hb:Below wr.heap.size wr W)=>(HE.out e v hmem k1 W hl1 (HT.out.below ((hbl.trans (hb.mono hz)).mono hB)) (by have:=hb.size;omega)).mono λ_ _ h=>h.s
     generalize e.pe ah (v+1)=xe at J7 hX;have HX:=ay hX;have HS2:=ay J7;simp only at y0' hky;obtain⟨ak2,ck2,rfl,_,zu⟩:=hky.form;obtain⟨b2,o2,rfl,hb2,hkc⟩:=zu (by simp);have z1:=(hbl.cell (p:=⟨b2,o2+1,none⟩) (by show b2<_;omega)).trans (hkc 1 (by simp));have y2':=(hbl.cell (p:=⟨b,off+m * 3+2,none⟩) (by show b<_;omega)).trans y2;simp only[List.getElem_cons_zero,JG,dN,iF,Nat.zero_add] at z1 y2';clear hX J7 HST hpn hkx hrep hmem hend hn2 hr2 hr3 hr4 hl1 hky zu hkc y2 hnx XY
     go_upto_region 13 with fail
     go_region_held3 (λw'=>w'.cell? ⟨w.heap.size,0,none⟩=some (.slice a1 ah.length c1)/\w'.cell? ⟨w.heap.size,1,none⟩=some (.slice (some ⟨b,off,none⟩) aj.length cap)/\w'.cell? ⟨b,off+m * 3+2,none⟩=some (.slice (some ⟨b2,o2,none⟩) 3 ck2)/\w'.cell? ⟨b2,o2+1,none⟩=some (.int .i64 k1))
      (first|go_keep|exact p3)
      (first|(go_at_call 108;refine(HX.out _ ((bY _ _).drew)).mono ?_;rintro e w3 ⟨am,wn,cm,ae,ce,rfl,hxe,hb3⟩;have hq3:Below wr.heap.size wr w3:=(bY wr.heap.size wr).drew.trans hb3;have p3:=iq (jy hq3 r0') (iq (jy hq3 r1') (iq (jy hq3 y2') (jy hq3 z1)))))
     have hw3:=hq3.size;have hone:=row_one (P:=λb=>w.heap.size<=b) (w:=w3) (T:=64) (hxe.imp (λb hb _=>by have:wr.drew.heap.size=wr.heap.size:=rfl;omega)) (by omega);have hbb:=hq3.alloc hq3.size (.cells #[.int .i64 xe.op,.string ⟨xe.name.toArray⟩,.string ⟨xe.module.toArray⟩,.bool (decide (xe.num<0)),.slice am wn cm,.bool xe.yes,.slice ae xe.aA.length ce,.int .i64 xe.at_] 64);have Wn:=(hbb.block w.heap.size hlt).trans hrr;have Ug:=hbl.trans (hbb.mono hz);clear r0' r1' y2' z1 p3 HX hxe hb3 hq3 hbb;go_wp2
     go_roundw
     case rel =>
      have e1:=HS2.out;refine⟨j+1,some ⟨w3.heap.size,0,none⟩,1,by omega,by go_num,?_⟩;rw[e1];exact⟨rfl,rfl,rfl,hone,Ug,Wn⟩
     case measure=>simp[intOf];omega
  ·have:j=ks.length:=by omega
   subst this;have hti:its.take ks.length=its:=DL (by have:=HLK.out;rw[vE] at this;omega);rw[hti] at hrow |-;have Md:decide ((ks.length:Int)<(ks.length:Int))=false:=fu (by omega);generalize hta:oO ah u its ⟨0,[],-1⟩=a at hrow |-;have HTA:=ay hta;clear hta;go_wp2;refine o9 (v:=.tuple #[.int .i64 a.base,.slice ao a.aC.length cc,.int .i64 a.bare]) (by simp[results,Tryz.results106,go_sem]) rfl ?_;rw[HTA.out];exact⟨ao,cc,rfl,hrow,hbl⟩
def Uh (f:FF)(w:World)(e:Ending)(w':World):Prop:=∃ ao cap,e=.returned (.agg #[.string ⟨f.name.toArray⟩,.int .i64 f.base,.slice ao f.aC.length cap,.int .i64 f.at_,.int .i64 f.bare])/\RowK (EK XA) (λb=>w.heap.size<=b) w' (.slice ao f.aC.length cap) f.aC/\Below w.heap.size w w'
theorem Dn (h:w.heap[b]?=some (.cells #[c0,c1,c2,c3,c4] 68 (0,0))):w.cell? ⟨b,0,none⟩=some c0/\w.cell? ⟨b,1,none⟩=some c1/\w.cell? ⟨b,2,none⟩=some c2/\w.cell? ⟨b,3,none⟩=some c3/\w.cell? ⟨b,4,none⟩=some c4/\∀ j,w.frozen? ⟨b,j,none⟩=false:=by
 refine⟨?_,?_,?_,?_,?_,λj=>by simp[World.frozen?,h]⟩<;>(rw[bg h];rfl)
theorem Ui (B:Nat)(tv nv:Value)(ah:List Tok)(aj:List Nd)(i kd:Nat)(ks:List Int)(w:World)(h:bE B w (.agg #[tv,nv]) ah aj)(hB:B<=w.heap.size)(hn:aj[i]?=some ⟨(kd:Nat),-1,ks⟩)
  (k0 u0:Nat) (hq0:ks[0]?=some (k0:Int)) (hl0:aj[k0]?=some ⟨19,(u0:Nat),[]⟩) (hu0:u0<ah.length) (a:TyA)
  (hA:∀ W:World,bE B W (.agg #[tv,nv]) ah aj->B<=W.heap.size->Calls Tryz.prog 106 #[.agg #[tv,nv],.int .i64 i] W (Nk a W)) :
  Calls Tryz.prog 107 #[.agg #[tv,nv],.int .i64 i] w (Uh ⟨aJ ah u0,a.base,a.aC,bN ah u0,a.bare⟩ w):=by
 have hK:=λW hT hW=>lJ B tv nv ah aj k0 u0 W hT hW hl0 hu0
 have htk:ah[u0]=dh ah u0:=by have:=j3 hu0;rw[AB hu0] at this;exact kE this
 rw[htk] at hK;unfold qN dX at hK;unfold aJ bN;generalize dh ah u0=t at hK |-;obtain⟨tk,tl,tt,tp⟩:=t;simp only at hK |-;have HK:=ay hK;have HA:=ay hA;obtain⟨hp0,ab5⟩:=qm hq0;obtain⟨hi,hni⟩:=qm hn;have HT:=ay h;obtain⟨a1,c1,_,_,e⟩:=h.slices;obtain⟨b,off,cap,kv,rfl,hb,x0,x1,x2,hkv⟩:=h.node hi
 obtain⟨rfl,-⟩:tv=.slice a1 ah.length c1/\_:=by simpa using e
 rw[hni] at hkv;simp only at hkv;obtain⟨ak,ck,rfl,_,zu⟩:=hkv.form;obtain⟨bk,ok,rfl,hbk,hkc⟩:=zu (by omega);have hz:=hkc 0 hp0;rw[ab5,qp] at hz;clear e hkv zu hkc hn hni x0 x1 hK htk hA hl0 ab5;have dD:=((bY w.heap.size w).alloc (bI _) (.cells #[.slice a1 ah.length c1,.slice (some ⟨b,off,none⟩) aj.length cap] 126)).alloc (by simp) (.cells #[.string ⟨#[]⟩,.int .i64 0,.slice none 0 0,.int .i64 0,.int .i64 0] 68);have X2:=jy dD x2;have Z2:=jy dD hz;have g0:=(iB _ (.cells #[.string ⟨#[]⟩,.int .i64 0,.slice none 0 0,.int .i64 0,.int .i64 0] 68) w.heap.size (by simp)).trans (aZ w (.cells #[.slice a1 ah.length c1,.slice (some ⟨b,off,none⟩) aj.length cap] 126));have g1:=aZ (w.alloc (.cells #[.slice a1 ah.length c1,.slice (some ⟨b,off,none⟩) aj.length cap] 126)) (.cells #[.string ⟨#[]⟩,.int .i64 0,.slice none 0 0,.int .i64 0,.int .i64 0] 68);rw[oU] at g1
 have hiI:(i:Int)<(aj.length:Int):=by omega
 have aiB:(0:Int)<(ks.length:Int):=by omega
 clear h x2 hz;go_enter Tryz.func107,Tryz.ntmps107
 go_upto_region 1 with (fail)
 generalize (w.alloc _).alloc _=w2 at g0 g1 dD X2 Z2 |-;obtain⟨r0,r1⟩:=mP g0;have hz2:=dD.size;have HK':=ay (λW (hb:Below w2.heap.size w2 W)=>(HK.out W (HT.out.below ((dD.trans (hb.mono hz2)).mono hB)) (by have:=hb.size;omega)).mono (R':=λe w'=>e=.returned (.agg #[.int .i64 tk,.string ⟨tl.toArray⟩,.string ⟨tt.toArray⟩,.int .i64 tp])/\Below w2.heap.size w2 w'/\Below W.heap.size W w') λe w' h=>⟨h.1,hb.trans (h.2.mono hb.size),h.2⟩);have hlt2:w.heap.size+1<w2.heap.size:=(bU g1).1
 go_cut [5] (λp wc=>∃ X:Nat,p=.pointer (some ⟨X,0,none⟩)/\wc.heap[X]?=some (.cells #[.int .i64 tk,.string ⟨tl.toArray⟩,.string ⟨tt.toArray⟩,.int .i64 tp] 131 (0,0))/\Below w2.heap.size w2 wc)
 case first =>
  go_region_held3 (λw'=>w'.cell? ⟨w.heap.size,0,none⟩=some (.slice a1 ah.length c1)/\w'.cell? ⟨w.heap.size,1,none⟩=some (.slice (some ⟨b,off,none⟩) aj.length cap)/\w'.cell? ⟨b,off+i * 3+2,none⟩=some (.slice (some ⟨bk,ok,none⟩) ks.length ck)/\w'.cell? ⟨bk,ok,none⟩=some (.int .i64 k0))
   (first|go_keep|exact p3|exact⟨(dw w3 w2.heap.size _ _ _ _ (by omega)).trans p3.1,(dw w3 w2.heap.size _ _ _ _ (by omega)).trans p3.2.1,(dw w3 w2.heap.size _ _ _ _ (by omega)).trans p3.2.2.1,(dw w3 w2.heap.size _ _ _ _ (by omega)).trans p3.2.2.2⟩)
   (first|(go_at_call 61;refine(HK'.out _ ?_).mono ?_;(first|exact(bY _ _).drew|exact((bY _ _).alloc (bI _) _).drew);rintro e w3 ⟨rfl,hq3,hb3⟩;have p3:=iq (jy hq3 r0) (iq (jy hq3 r1) (iq (jy hq3 X2) (jy hq3 Z2)));try (have Iz:=(hb3.block w2.heap.size (by simp)).trans (aZ w2 (.cells #[.int .i64 0,.string ⟨#[]⟩,.string ⟨#[]⟩,.int .i64 0] 131));obtain⟨tz0,tz1,tz2,tz3,tz4⟩:=qd Iz)))
  ·clear r0 r1 X2 Z2 p3
   go_wp2_with fail
   go_meet
   exact⟨w3.heap.size,rfl,aZ _ _,hq3.alloc hq3.size _⟩
  ·obtain⟨S3,So,_⟩:=Af Iz (.int .i64 tk) (.string ⟨tl.toArray⟩) (.string ⟨tt.toArray⟩) (.int .i64 tp)
   clear r0 r1 X2 Z2 p3 tz0 tz1 tz2 tz3 tz4;go_wp2_with fail
   go_meet
   exact⟨w2.heap.size,rfl,S3,(((hq3.setCell (bI _) _).setCell (bI _) _).setCell (bI _) _).setCell (bI _) _⟩
 case rest =>
  obtain⟨X,rfl,hX,hbc⟩:=hcut
  obtain⟨w4,rfl⟩:∃ w4:World,w4=wc:=⟨_,rfl⟩
  have G0:=(hbc.block w.heap.size (by omega)).trans g0;have G1:=(hbc.block (w.heap.size+1) hlt2).trans g1;have hb4:Below w.heap.size w w4:=dD.trans (hbc.mono hz2);have D7:=hbc.size;obtain⟨f2,f3⟩:=wB hX;clear g0 g1 dD X2 Z2 r0 r1 HK HK' hbc hX
  go_upto_region 3 with fail
  have IB:=aB w4 (.cells #[.string ⟨tt.toArray⟩,.int .i64 0,.slice none 0 0,.int .i64 tp,.int .i64 0] 68);have P5:=aZ w4 (.cells #[.string ⟨tt.toArray⟩,.int .i64 0,.slice none 0 0,.int .i64 tp,.int .i64 0] 68);have H0:=(IB.block w.heap.size (by omega)).trans G0;have H1:=(IB.block (w.heap.size+1) (by omega)).trans G1;have hb5:=hb4.trans (IB.mono hb4.size);have U8:=IB.size;clear G0 G1 IB hb4 f2 f3;generalize hpb:w4.heap.size=pb at P5 D7 U8 |-;generalize w4.alloc _=w5 at P5 H0 H1 hb5 U8 |-;obtain⟨r0,r1⟩:=mP H0;have HAW:=ay (HA.out w5 (HT.out.below (hb5.mono hB)) (iY hB hb5.size));go_wp2_with (go_at_call 106;refine HAW.out.mono ?_);rintro e w6 ⟨ao,cc,rfl,hrow,hb6⟩;have Q5:=(hb6.block pb (bU P5).1).trans P5;have Q1:=(hb6.block (w.heap.size+1) (bU H1).1).trans H1
  have hne:w.heap.size+1≠pb:=by omega
  have vT:=(bU P5).1;obtain⟨q0,q1,q2,q3,q4,qz⟩:=Dn Q5;have XZ:Below w.heap.size w w6:=hb5.trans (hb6.mono hb5.size);clear r0 r1 HAW P5 H0 H1
  go_upto_region 4 with fail
  have T1:=kG w6 pb 1 _ _ (.int .i64 a.base) Q5;have T2:=kG _ pb 2 _ _ (.slice ao a.aC.length cc) T1;have T3:=kG _ pb 4 _ _ (.int .i64 a.bare) T2
  have U3:(((w6.setCell ⟨pb,1,none⟩ (.int .i64 a.base)).setCell ⟨pb,2,none⟩ (.slice ao a.aC.length cc)).setCell ⟨pb,4,none⟩ (.int .i64 a.bare)).heap[w.heap.size+1]?=some (.cells #[.string ⟨#[]⟩,.int .i64 0,.slice none 0 0,.int .i64 0,.int .i64 0] 68 (0,0)):=by
   rw[qo _ _ _ _ hne,qo _ _ _ _ hne,qo _ _ _ _ hne];exact Q1
  have hle:w.heap.size<=pb:=by omega
  have Nl:Below w.heap.size w (((w6.setCell ⟨pb,1,none⟩ (.int .i64 a.base)).setCell ⟨pb,2,none⟩ (.slice ao a.aC.length cc)).setCell ⟨pb,4,none⟩ (.int .i64 a.bare)):=((XZ.setCell hle _).setCell hle _).setCell hle _
  have hs:∀ (W:World) (j:Nat) (u:Value),bA (λb=>w5.heap.size<=b) W (W.setCell ⟨pb,j,none⟩ u):=λW j u=>bA.set u λb hb=>by show b≠pb;omega
  have aeG:=hrow.frame (((hs w6 1 (.int .i64 a.base)).trans (hs _ 2 (.slice ao a.aC.length cc))).trans (hs _ 4 (.int .i64 a.bare)));have T4:(((w6.setCell ⟨pb,1,none⟩ (.int .i64 a.base)).setCell ⟨pb,2,none⟩ (.slice ao a.aC.length cc)).setCell ⟨pb,4,none⟩ (.int .i64 a.bare)).heap[pb]?=some (.cells #[.string ⟨tt.toArray⟩,.int .i64 a.base,.slice ao a.aC.length cc,.int .i64 tp,.int .i64 a.bare] 68 (0,0)):=T3;clear T1 T2 T3 Q5 Q1 q0 q1 q2 q3 q4 qz hrow XZ hb6 hs;generalize ((w6.setCell _ _).setCell _ _).setCell _ _=w7 at T4 U3 Nl aeG |-;obtain⟨q0,q1,q2,q3,q4,qz⟩:=Dn T4;obtain⟨s0,s1,s2,s3,s4,sz⟩:=Dn U3;go_wp2;refine o9 (v:=.agg #[.string ⟨tt.toArray⟩,.int .i64 a.base,.slice ao a.aC.length cc,.int .i64 tp,.int .i64 a.bare]) (by simp[results,Tryz.results107,go_sem,s0,s1,s2,s3,s4]) rfl ⟨ao,cc,rfl,?_,?_⟩
  ·have hs2:∀ (W:World) (j:Nat) (u:Value),bA (λb=>w5.heap.size<=b) W (W.setCell ⟨w.heap.size+1,j,none⟩ u):=λW j u=>bA.set u λb hb=>by show b≠w.heap.size+1;omega
   exact(aeG.frame (((((hs2 _ _ _).trans (hs2 _ _ _)).trans (hs2 _ _ _)).trans (hs2 _ _ _)).trans (hs2 _ _ _))).imp λb hb _=>by omega
  ·exact((((Nl.setCell (by simp) _).setCell (by simp) _).setCell (by simp) _).setCell (by simp) _).setCell (by simp) _
def sP {α β:Type}(K:RK α β)(Q:Nat->Prop)(C e:Nat)(w:World)(v:Value)(zs:List α):Prop :=
 ∃ l:List (α × β),l.map Prod.fst=zs/\w.ownsRow C e K.sz v zs.length (K.flat l)/\∀ p∈l,K.inn (λb=>Q b/\some b≠v.ownBlock) w p.1 p.2
section
variable {α β:Type}
theorem sP.nil (K:RK α β)(Q:Nat->Prop)(C e:Nat)(w:World):sP K Q C e w (.slice none 0 0) []:=⟨[],rfl,World.ownsRow_nil _ _ _ _,λp hp=>by cases hp⟩
theorem sP.below {K:RK α β}{v:Value}{zs:List α}(h:sP K Q C e w v zs)(hb:Below w.heap.size w w'):sP K Q C e w' v zs:=by
 obtain⟨l,h1,h2,h3⟩:=h;exact⟨l,h1,own_below h2 hb,λp hp=>K.frame (h3 p hp) (bA.of hb)⟩
theorem sP.set {K:RK α β}{Q:Nat->Prop}{C e:Nat}{w:World}{v:Value}{zs:List α}(h:sP K Q C e w v zs){a:Addr}(ha:a.block<C)(hq:¬ Q a.block)(u:Value):sP K Q C e (w.setCell a u) v zs:=by
 obtain⟨l,h1,h2,h3⟩:=h;refine⟨l,h1,iQ h2 (λq=>?_) u,λp hp=>K.frame (h3 p hp) (bA.set u λb hb=>λq=>hq (by rw[<- q];exact hb.1))⟩;have:=(h2.lt a.block q.symm).1;omega
theorem sP.row {K:RK α β}{R:Nat->Prop}{v:Value}{zs:List α}(h:sP K Q C e w v zs)(hR:∀ b,C<=b->R b)(hQ:∀ b,Q b->b<w.heap.size->R b):RowK K R w v zs:=by
 obtain⟨l,h1,h2,h3⟩:=h;exact⟨l,h1,pO.fZ h2 hR,λp hp=>K.imp (h3 p hp) λb hb hl=>hQ b hb.1 hl⟩
theorem sP.slice {K:RK α β}{Q:Nat->Prop}{C e:Nat}{w:World}{v:Value}{zs:List α}(h:sP K Q C e w v zs):∃ ao cap,v=.slice ao zs.length cap :=
 (h.row (R:=λ_=>True) (λ_ _=>trivial) (λ_ _ _=>trivial)).slice
theorem sP.snoc {K:RK α β}{kv':Value}{zs:List α}{a:α}{x:β}{g H:Nat}{l:List (α × β)}(h1:l.map Prod.fst=zs)(h2:∀ p∈l,K.inn (λb=>Q b/\some b≠kv.ownBlock) w p.1 p.2)(hx:K.inn (λb=>Q b/\some b≠kv.ownBlock) w a x)
  (hown:w'.ownsRow C e K.sz kv' (zs.length+1) (K.flat l++K.cells a x)) (hgrow:w.grownBy w' kv.ownBlock) (hv:kv'.ownBlock=some g) (hor:kv.ownBlock=some g\/g=H) (hH:w.heap.size<=H):sP K Q C e w' kv' (zs++[a]):=by
 have himp:∀ b,(Q b/\some b≠kv.ownBlock)->b<w.heap.size->((Q b/\some b≠kv'.ownBlock)/\some b≠kv.ownBlock):=λb hb hlt=>by
  refine⟨⟨hb.1,λq=>?_⟩,hb.2⟩;rw[hv] at q;simp only[Option.some.injEq] at q
  rcases hor with h|h
  ·exact hb.2 (by rw[h,q])
  ·omega
 have hall:∀ {a:α} {x:β},K.inn (λb=>Q b/\some b≠kv.ownBlock) w a x->K.inn (λb=>Q b/\some b≠kv'.ownBlock) w' a x:=λh =>
  K.imp (K.frame (K.imp h himp) (bA.grown hgrow λb hb=>hb.2)) λb hb _=>hb.1
 refine⟨l++[(a,x)],by rw[zJ,h1];rfl,?_,λp hp=>?_⟩
 ·rw[K.KZ,bQ,List.length_singleton];exact hown
 ·rcases List.mem_append.1 hp with hp|hp
  ·exact hall (h2 p hp)
  ·rw[DN] at hp
   subst hp;exact hall hx
theorem sP.round {K:RK α β}{be:Nat}{w1 wr W2 w5:World}{o:Obj}{YM:Value}{acc:List α}{a:α}{x:β}{l:List (α × β)}{gg:Nat}(fU:bA (λb=>b<w1.heap.size/\b≠be) w1 wr)(hbe:be<w1.heap.size)(hQ:¬ Q be)
  (h1:l.map Prod.fst=acc) (hown:wr.ownsRow w1.heap.size e K.sz kv acc.length (K.flat l)) (hes:∀ p∈l,K.inn (λb=>Q b/\some b≠kv.ownBlock) wr p.1 p.2) (hx:K.inn (λb=>Q b/\some b≠kv.ownBlock) W2 a x) (hb2:Below wr.heap.size wr W2)
  (iW:w5.ownsRow w1.heap.size e K.sz YM (acc.length+1) (K.flat l++K.cells a x)) (hgrow:(W2.alloc o).grownBy w5 kv.ownBlock) (hv5:YM.ownBlock=some gg) (hat:kv.ownBlock=some gg\/gg=W2.heap.size+1) (off:Nat) (u:Value) :
  sP K Q w1.heap.size e (w5.setCell ⟨be,off,none⟩ u) YM (acc++[a])/\bA (λb=>b<w1.heap.size/\b≠be) w1 (w5.setCell ⟨be,off,none⟩ u)/\∀ (B:Nat) (w0:World),B<=be->Below B w0 wr->Below B w0 (w5.setCell ⟨be,off,none⟩ u):=by
 have hz1:=fU.1;have hz2:=hb2.size;have hb3:Below wr.heap.size wr (W2.alloc o):=hb2.alloc hz2 _
 have hlt:∀ b,some b=kv.ownBlock->w1.heap.size<=b/\b<wr.heap.size:=λb q=>⟨(hown.lt b q.symm).1,(hown.lt b q.symm).2⟩
 have hx2:K.inn (λb=>Q b/\some b≠kv.ownBlock) (W2.alloc o) a x:=K.frame hx ⟨by simp,λb _ hb=>iB _ _ _ hb⟩;have hrow:=sP.snoc (K:=K) (w:=W2.alloc o) h1 (λp hp=>K.frame (hes p hp) (bA.of hb3)) hx2 iW hgrow hv5 hat (by simp);refine⟨hrow.set hbe hQ u,?_,λB w0 hB hb0=>?_⟩
 ·refine((fU.trans (bA.uD hb3 λb hb=>by omega)).trans (bA.grown hgrow λb hb q=>?_)).trans (bA.set u λb hb=>hb.2)
  have:=(hlt b q).1;omega
 ·have hsz:=hb0.size
  exact((hb0.trans (hb3.mono (by omega))).grown hgrow (by simp;omega) (λb q=>by have:=(hlt b q.symm).1;omega)).setCell hB _
end
theorem lX:∀ (a b:List It) (u:Nat),eB u (a++b)=eB u a++eB (u+cO (a.map It.pt)) b
 | [],b,u=>by simp[eB,cO]
 | i :: a,b,u=>by rw[kF,eB,lX a b,eB,mE,cO,wU,kF]
theorem BZ:∀ (l:List It) (u:Nat) (p:It × Nat),p∈eB u l->p.1∈l
 | [],u,p,h=>by cases h
 | i :: l,u,p,h=>by
  rw[eB,oo] at h
  rcases h with rfl|h
  ·exact xq
  ·exact xu _ (BZ l _ p h)
def It.Lu (ah:List Tok)(v:Nat):It->List FF
 | .par t=>[t.xQ ah v]
 | _=>[]
theorem IL (ah:List Tok)(u:Nat)(i:It):gI ah u [i]=i.Lu ah u:=by
 cases i with
 | par t=>rw[gI,gI];rfl
 | leaf=>rw[gI,gI];rfl;simp
 | base=>rw[gI,gI];rfl;simp
 | expr e=>rw[gI,gI];rfl;simp
 | cl e=>rw[gI,gI];rfl;simp
theorem IQ (ah:List Tok):∀ (l:List It) (u:Nat) (j:Nat) (h:j<(eB u l).length),gI ah u (l.take (j+1))=gI ah u (l.take j)++(eB u l)[j].1.Lu ah (eB u l)[j].2
 | [],u,j,h=>absurd h (by simp[eB])
 | i :: l,u,0,h=>by
  rw[List.take_zero,List.take_succ_cons,List.take_zero,IL];simp[gI,eB]
 | i :: l,u,j+1,h=>by
  have:=IQ ah l (u+i.pt.lv) j (by simpa [eB] using h)
  have h1:∀ k:List It,gI ah u (i :: k)=i.Lu ah u++gI ah (u+i.pt.lv) k:=λk=>by
   have:=iD ah [i] k u;rw[IL] at this
   simpa [cO] using this
  rw[List.take_succ_cons,List.take_succ_cons,h1,h1,this,om];simp only[eB,JG]
theorem IU (ah:List Tok):∀ (l:List It) (u:Nat),(gI ah u l).length<=l.length
 | [],u=>by rw[gI];exact bI _
 | i :: l,u=>by
  have h1:=IU ah l (u+i.pt.lv);have h2:=iD ah [i] l u
  have h3:(i.Lu ah u).length<=1:=by cases i<;>simp[It.Lu]
  rw[IL] at h2;rw[show i :: l=[i]++l from rfl,h2,bQ,bQ];simp only[mE,List.map_nil,cO,qp,dN,iF] at h1 |-;omega
theorem dY.Nn (d:dY):cO (d.gJ.map It.pt)=cO d.lead:=by unfold dY.gJ dY.lead;split<;>rfl
theorem dY.ab7 (d:dY)(u:Nat):∃ pre,d.its=pre++[.expr d.body,.leaf]/\u+cO (pre.map It.pt)=d.at3 u:=by
 refine⟨d.gJ++([.leaf,.leaf,.leaf]++(gM d.mG++([.leaf]++(d.ty.its++[.leaf])))),by simp[dY.its],?_⟩;simp only[zJ,jA,d.Nn,vD,d.ty.Ir,mE,List.map_nil,It.pt,cO,PT.lv,dY.at3,dY.at2,dY.G5];omega
theorem dY.afG (d:dY)(u:Nat):∃ pre post,d.its=pre++(d.ty.its++post)/\u+cO (pre.map It.pt)=d.at2 u/\(∀ i∈pre++post,(i matches .leaf)\/(i matches .par _)\/(i matches .expr _)):=by
 refine⟨d.gJ++([.leaf,.leaf,.leaf]++(gM d.mG++[.leaf])),[.leaf,.expr d.body,.leaf],by simp[dY.its],?_,?_⟩
 ·simp only[zJ,jA,d.Nn,vD,mE,List.map_nil,It.pt,cO,PT.lv,dY.at2,dY.G5]
  omega
 ·intro i hi
  simp only[List.mem_append,oo,List.not_mem_nil,or_false] at hi
  rcases hi with (hi|(hi|hi|hi)|hi|hi)|hi|hi|hi
  ·unfold dY.gJ at hi
   split at hi
   ·rw[DN] at hi;subst hi;exact .inl rfl
   ·cases hi
  ·subst hi;exact .inl rfl
  ·subst hi;exact .inl rfl
  ·subst hi;exact .inl rfl
  ·exact Iu _ _ hi
  ·subst hi;exact .inl rfl
  ·subst hi;exact .inl rfl
  ·subst hi;exact .inr (.inr rfl)
  ·subst hi;exact .inl rfl
theorem dY.ab8 (d:dY)(u:Nat)(p:It × Nat)(h:p∈eB u d.its)(hp:p.1.plain=false):p∈eB (d.at2 u) d.ty.its:=by
 obtain⟨pre,post,e,hl,hn⟩:=d.afG u
 have hno:∀ q:It × Nat,q.1∈pre++post->q.1.plain=true:=λq hq=>by
  rcases hn _ hq with h|h|h<;>(generalize q.1=x at h |-;cases x<;>simp_all [It.plain])
 rw[e,lX,lX,hl,List.mem_append,List.mem_append] at h
 rcases h with h|h|h
 ·have:=hno p (abp _ (BZ _ _ _ h));rw[hp] at this;cases this
 ·exact h
 ·have:=hno p (List.mem_append_right _ (BZ _ _ _ h));rw[hp] at this;cases this
theorem gN.Qz (h:t.ok ah u)(v:Nat)(hv:(It.base,v)∈eB u t.its):aJ ah v∈[oh,jJ]:=by
 unfold gN.its at hv;have h1:=h.1
 cases hc:t.cl with
 | none =>
  rw[hc] at hv;simp only[List.append_nil,eB,It.pt,PT.lv,oo,Prod.mk.injEq,reduceCtorEq,false_and,true_and,List.not_mem_nil,or_false,false_or] at hv;subst hv;exact h1
 | some e =>
  rw[hc] at hv;simp only[kF,qW,eB,It.pt,PT.lv,oo,Prod.mk.injEq,reduceCtorEq,false_and,true_and,List.not_mem_nil,or_false,false_or] at hv;subst hv;exact h1
theorem gN.ab9 (h:t.ok ah u)(e:CE)(v:Nat)(hv:(It.cl e,v)∈eB u t.its):e.ok ah true (v+1):=by
 unfold gN.its at hv;have h1:=h.2
 cases hc:t.cl with
 | none =>
  rw[hc] at hv;simp[eB,It.pt,PT.lv] at hv
 | some e' =>
  rw[hc] at hv h1;simp only[kF,qW,eB,It.pt,PT.lv,cO,oo,Prod.mk.injEq,reduceCtorEq,false_and,It.cl.injEq,List.not_mem_nil,or_false,false_or] at hv;obtain⟨rfl,rfl⟩:=hv;exact h1
theorem Vz {ah:List Tok}:∀ (l:List gN) (u:Nat) (t:gN) (v:Nat),zZ ah u l->(It.par t,v)∈eB u (gM l)->t.Pk ah v
 | [],u,t,v,_,h=>by rw[gM,eB] at h;cases h
 | [s],u,t,v,ho,h=>by
  rw[gM,eB,eB,DN] at h;simp only[Prod.mk.injEq,It.par.injEq] at h;obtain⟨rfl,rfl⟩:=h;exact ho.1
 | s :: s' :: l,u,t,v,ho,h=>by
  rw[show gM (s :: s' :: l)=.par s :: .leaf :: gM (s' :: l) from by rw[gM],eB,eB,oo,oo] at h
  rcases h with h|h|h
  ·simp only[Prod.mk.injEq,It.par.injEq] at h
   obtain⟨rfl,rfl⟩:=h;exact ho.1
  ·simp at h
  ·exact Vz (s' :: l) _ t v ho.2 h
theorem afH (ho:d.ok ah u)(h:(It.par t,v)∈eB u d.its):t.Pk ah v:=by
 have hno:∀ l:List It,(∀ i∈l,¬ (i matches .par _))->∀ x,(It.par t,v) ∉ eB x l:=λl hl x hx=>by
  have:=hl _ (BZ _ _ _ hx);simp at this
 rw[dY.its,lX,lX,lX,List.mem_append,List.mem_append,List.mem_append] at h
 rcases h with h|h|h|h
 ·refine absurd h (hno _ (λi hi=>?_) _)
  unfold dY.gJ at hi
  split at hi
  ·rw[DN] at hi;subst hi;simp
  ·cases hi
 ·refine absurd h (hno _ (λi hi=>?_) _)
  simp only[oo,List.not_mem_nil,or_false,or_self] at hi;subst hi;simp
 ·refine Vz d.mG _ t v ho.2.2.2.2.1 ?_
  have e:u+cO (d.gJ.map It.pt)+cO ([It.leaf,.leaf,.leaf].map It.pt)=d.G5 u+3:=by
   rw[d.Nn];simp only[mE,List.map_nil,It.pt,cO,PT.lv,dY.G5]
  rw[e] at h;exact h
 ·refine absurd h (hno _ (λi hi=>?_) _)
  unfold gN.its at hi
  cases hc:d.ty.cl with
  | none =>
   rw[hc] at hi;simp only[List.mem_append,oo,List.not_mem_nil,or_false] at hi
   rcases hi with rfl|(rfl|rfl)|rfl|rfl|rfl<;>simp
  | some e =>
   rw[hc] at hi;simp only[List.mem_append,oo,List.not_mem_nil,or_false] at hi
   rcases hi with rfl|((rfl|rfl)|rfl)|rfl|rfl|rfl<;>simp
theorem It.Uj (i:It)(h:∀ t,i≠.par t):i.pt.kd≠4:=by
 cases i with
 | leaf=>exact(by decide:(19:Int)≠4)
 | par t=>exact absurd rfl (h t)
 | base=>exact show ((5:Nat):Int)≠4 by decide
 | cl e=>exact show ((6:Nat):Int)≠4 by decide
 | expr e =>
  obtain⟨c,la,ea,c1,c2⟩:=e.node;simp only[It.pt,ea,PT.kd];omega
theorem It.X3 (i:It)(ah:List Tok)(v:Nat)(h:∀ t,i≠.par t):i.Lu ah v=[]:=by
 cases i with
 | par t=>exact absurd rfl (h t)
 | _=>rfl
structure RdE (B:Nat) (tv nv:Value) (ah:List Tok) (aj:List Nd):Prop where
 pl:∀ v,bN ah v+(aJ ah v).length<=1099511627776
 few:∀ n∈aj,n.aA.length<=1000000
 exprs:∀ (cl:Bool) (e:CE) (u:Nat),e.ok ah cl u->u+e.pt.lv<=ah.length->∀ (k:Nat) (W:World),pK aj k u e.pt->bE B W (.agg #[tv,nv]) ah aj->B<=W.heap.size->Calls Tryz.prog 108 #[.agg #[tv,nv],.int .i64 k] W (EPost XA (e.pe ah u) W)
theorem Uk (E:RdE B tv nv ah aj)(t:gN)(v:Nat)(ho:t.Pk ah v)(hl:v+t.par.lv<=ah.length)(i:Nat)(w:World)(hr:pK aj i v t.par)(h:bE B w (.agg #[tv,nv]) ah aj)(hB:B<=w.heap.size) :
  Calls Tryz.prog 107 #[.agg #[tv,nv],.int .i64 i] w (Uh (t.xQ ah v) w):=by
 rw[t.XT] at hr hl;obtain⟨ks,hn,hk⟩:=fG hr
 have hlv:v+cO (t.sK.map It.pt)<=ah.length:=by rw[PT.lv] at hl;exact hl
 have hks:=E.few _ (List.mem_of_getElem? hn);have hk2:=hk;rw[gN.sK,mE] at hk2;obtain⟨k0,ks',hke,hl0,_⟩:=dx (show fT aj ks v (.leaf :: _) from hk2)
 have hvt:v<ah.length:=by
  rw[gN.sK,mE,cO] at hlv;simp only[It.pt,PT.lv] at hlv;omega
 have:=Ui B tv nv ah aj i 4 ks w h hB hn k0 v (by rw[hke];rfl) hl0 hvt (oO ah v t.sK ⟨0,[],-1⟩) (λW hT hW =>
  IJ B tv nv ah aj i 4 ks v t.sK W hT hW hn hk hlv hks E.pl (λx hx=>?_) (λe x hx k W' hrk hT' hW'=>?_))
 ·rw[gN.adX] at this
  exact this
 ·rw[gN.sK,eB,oo] at hx
  rcases hx with hx|hx
  ·cases hx
  ·exact gN.Qz ho.2 x hx
 ·have hend:=vF _ _ _ hx
  simp only[It.pt,PT.lv,cO] at hend;rw[gN.sK,eB,oo] at hx
  rcases hx with hx|hx
  ·cases hx
  ·exact E.exprs true e (x+1) (gN.ab9 ho.2 e x hx) (by omega) k W' hrk hT' hW'
theorem ad3 (E:RdE B tv nv ah aj)(d:dY)(u:Nat)(ho:d.ok ah u)(ks:List Int)(hlv:u+cO (d.its.map It.pt)<=ah.length)(i:Nat)(hn:aj[i]?=some ⟨(3:Nat),-1,ks⟩)(hk:fT aj ks u (d.its.map It.pt))(w:World)(h:bE B w (.agg #[tv,nv]) ah aj)(hB:B<=w.heap.size) :
  Calls Tryz.prog 106 #[.agg #[tv,nv],.int .i64 i] w (Nk ⟨(d.dd ah u).res.base,(d.dd ah u).res.aC,(d.dd ah u).res.bare⟩ w):=by
 have hks:=E.few _ (List.mem_of_getElem? hn);have hty:=ho.2.2.2.2.2.1
 have:=IJ B tv nv ah aj i 3 ks u d.its w h hB hn hk hlv hks E.pl (λx hx=>gN.Qz hty x (d.ab8 u _ hx rfl)) (λe x hx k W' hrk hT' hW'=>by
  have hend:=vF _ _ _ hx;simp only[It.pt,PT.lv,cO] at hend
  exact E.exprs true e (x+1) (gN.ab9 hty e x (d.ab8 u _ hx rfl)) (by omega) k W' hrk hT' hW')
 rw[d.typ] at this;exact this
structure ad4 (ah:List Tok) (aj:List Nd) (d:dY) (u:Nat) (ks:List Int):Prop where
 len:ks.length=d.its.length
 many:3<=ks.length
 first:∃ k:Nat,ks[0]?=some (k:Int)/\aj[k]?=some ⟨19,(u:Nat),[]⟩/\u<ah.length
 name:∃ k:Nat,ks[if d.pub=true then 2 else 1]?=some (k:Int)/\aj[k]?=some ⟨19,((d.G5 u+1:Nat):Int),[]⟩/\d.G5 u+1<ah.length
 body:∃ k:Nat,ks[ks.length - 2]?=some (k:Int)/\pK aj k (d.at3 u) d.body.pt/\d.at3 u+d.body.pt.lv<=ah.length
 pub:(aJ ah u=CQ)↔d.pub=true
theorem acd (ho:d.ok ah u)(hlv:u+cO (d.its.map It.pt)<=ah.length)(hk:fT aj ks u (d.its.map It.pt)):ad4 ah aj d u ks:=by
 obtain⟨hlen,hat⟩:=BX _ _ _ hk
 have hat':∀ (j:Nat) (p:It × Nat),(eB u d.its)[j]?=some p->∃ k:Nat,ks[j]?=some (k:Int)/\pK aj k p.2 p.1.pt/\p.2+p.1.pt.lv<=ah.length:=λj p hp=>by
  obtain⟨h2,e⟩:=qm hp
  have h1:j<ks.length:=by rw[vE] at h2;omega
  have hr:=hat j h1 h2;have hend:=vF _ _ _ (List.mem_of_getElem? hp);rw[e] at hr;have hok:=Dk hr;refine⟨ks[j].toNat,?_,?_,by omega⟩
  ·rw[AB h1];congr 1;omega
  ·have:((ks[j].toNat:Nat):Int)=ks[j]:=by omega
   rw[this];exact hr
 have D6:∀ (j v:Nat),(eB u d.its)[j]?=some (.leaf,v)->∃ k:Nat,ks[j]?=some (k:Int)/\aj[k]?=some ⟨19,(v:Nat),[]⟩/\v<ah.length:=λj v hp=>by
  obtain⟨k,h1,h2,h3⟩:=hat' j _ hp;obtain⟨i,hi,hn⟩:=pK.RO h2
  obtain rfl:k=i:=by omega
  exact⟨k,h1,hn,by simp only[It.pt,PT.lv] at h3;omega⟩
 obtain⟨pre,e,hp3⟩:=d.ab7 u
 have hne:JW≠CQ:=by decide
 refine⟨hlen,?_,D6 0 u ?_,D6 _ _ ?_,?_,?_⟩
 ·rw[hlen,dY.its];simp;omega
 ·rw[dY.its]
  unfold dY.gJ
  cases d.pub<;>simp[eB]
 ·rw[dY.its]
  unfold dY.gJ dY.G5 dY.lead
  cases d.pub<;>simp[eB,It.pt,PT.lv,cO]
 ·have hl:ks.length - 2=(eB u pre).length:=by rw[hlen,e,vE];simp
  rw[hl];obtain⟨k,h1,h2,h3⟩:=hat' (eB u pre).length (.expr d.body,d.at3 u) (by rw[e,lX,hp3];simp[eB]);exact⟨k,h1,h2,h3⟩
 ·constructor
  ·intro h
   cases hd:d.pub with
   | true=>rfl
   | false =>
    have h1:=ho.2.1;unfold dY.G5 dY.lead at h1;rw[hd] at h1;simp only[Bool.false_eq_true,if_false,cO,qp] at h1;rw[h1] at h;exact absurd h hne
  ·exact ho.1
def setAt (b:Nat):Nat->List Value->World->World
 | _,[],w=>w
 | j,v :: l,w=>setAt b (j+1) l (w.setCell ⟨b,j,none⟩ v)
theorem yj {b k:Nat}(hk:k≠b):∀ (l:List Value) (j:Nat) (w:World),(setAt b j l w).heap[k]?=w.heap[k]?
 | [],_,_=>rfl
 | _v :: l,j,_w=>(yj hk l (j+1) _).trans (qo _ _ _ _ hk)
theorem IV {b:Nat}:∀ (l:List Value) (j:Nat) (w:World),(setAt b j l w).heap.size=w.heap.size
 | [],_,_=>rfl
 | v :: l,j,w=>(IV l (j+1) _).trans (by simp)
theorem yu {B b:Nat}{w0:World}(hb:B<=b):∀ (l:List Value) (j:Nat) {w:World},Below B w0 w->Below B w0 (setAt b j l w)
 | [],_,_,h=>h
 | v :: l,j,_,h=>yu hb l (j+1) (h.setCell hb v)
theorem Lv (hP:∀ k,P k->k≠b)(l:List Value)(j:Nat)(w:World):bA P w (setAt b j l w):=⟨Nat.le_of_eq (IV l j w).symm,λk hk _=>yj (hP k hk) l j w⟩
theorem IW (hk:k≠b)(l:List Value)(j:Nat)(w:World):(setAt b j l w).cell? ⟨k,i,none⟩=w.cell? ⟨k,i,none⟩:=AJ (a:=⟨k,i,none⟩) (yj hk l j w)
theorem gZ (h:w.heap[b]?=some (.cells #[c0,c1,c2,c3,c4,c5,c6,c7,c8,c9,c10,c11,c12,c13,c14] 66 (0,0))):(w.cell? ⟨b,0,none⟩=some c0/\w.cell? ⟨b,1,none⟩=some c1/\w.cell? ⟨b,2,none⟩=some c2/\w.cell? ⟨b,3,none⟩=some c3/\w.cell? ⟨b,4,none⟩=some c4)/\(w.cell? ⟨b,5,none⟩=some c5/\w.cell? ⟨b,6,none⟩=some c6/\w.cell? ⟨b,7,none⟩=some c7/\w.cell? ⟨b,8,none⟩=some c8/\w.cell? ⟨b,9,none⟩=some c9)/\(w.cell? ⟨b,10,none⟩=some c10/\w.cell? ⟨b,11,none⟩=some c11/\w.cell? ⟨b,12,none⟩=some c12/\w.cell? ⟨b,13,none⟩=some c13/\w.cell? ⟨b,14,none⟩=some c14)/\∀ j,w.frozen? ⟨b,j,none⟩=false:=by
 refine⟨⟨?_,?_,?_,?_,?_⟩,⟨?_,?_,?_,?_,?_⟩,⟨?_,?_,?_,?_,?_⟩,λj=>by simp[World.frozen?,h]⟩<;>(rw[bg h];rfl)
theorem qg (w:World)(b:Nat)(v0 v1 v2 v3 v4 v5 v6 v7 v8 v9 v10 v11 v12 v13 v14:Value)(h:k≠b):(((((((((((((((w.setCell ⟨b,0,none⟩ v0).setCell ⟨b,1,none⟩ v1).setCell ⟨b,2,none⟩ v2).setCell ⟨b,3,none⟩ v3).setCell ⟨b,4,none⟩ v4).setCell ⟨b,5,none⟩ v5).setCell ⟨b,6,none⟩ v6).setCell ⟨b,7,none⟩ v7).setCell ⟨b,8,none⟩ v8).setCell ⟨b,9,none⟩ v9).setCell ⟨b,10,none⟩ v10).setCell ⟨b,11,none⟩ v11).setCell ⟨b,12,none⟩ v12).setCell ⟨b,13,none⟩ v13).setCell ⟨b,14,none⟩ v14).cell? ⟨k,j,none⟩=w.cell? ⟨k,j,none⟩ :=
 IW h [v0,v1,v2,v3,v4,v5,v6,v7,v8,v9,v10,v11,v12,v13,v14] 0 w
theorem IZ {T:TypeId}(h:w.heap[b]?=some (.cells #[c0,c1,c2,c3,c4,c5,c6,c7,c8,c9,c10,c11,c12,c13,c14] T (0,0)))(v0 v1 v2 v3 v4 v5 v6 v7 v8 v9 v10 v11 v12 v13 v14:Value):(((((((((((((((w.setCell ⟨b,0,none⟩ v0).setCell ⟨b,1,none⟩ v1).setCell ⟨b,2,none⟩ v2).setCell ⟨b,3,none⟩ v3).setCell ⟨b,4,none⟩ v4).setCell ⟨b,5,none⟩ v5).setCell ⟨b,6,none⟩ v6).setCell ⟨b,7,none⟩ v7).setCell ⟨b,8,none⟩ v8).setCell ⟨b,9,none⟩ v9).setCell ⟨b,10,none⟩ v10).setCell ⟨b,11,none⟩ v11).setCell ⟨b,12,none⟩ v12).setCell ⟨b,13,none⟩ v13).setCell ⟨b,14,none⟩ v14).heap[b]?=some (.cells #[v0,v1,v2,v3,v4,v5,v6,v7,v8,v9,v10,v11,v12,v13,v14] T (0,0)):=by
 have h1:(w.setCell ⟨b,0,none⟩ v0).heap[b]?=some (.cells #[v0,c1,c2,c3,c4,c5,c6,c7,c8,c9,c10,c11,c12,c13,c14] T (0,0)):=kG _ b 0 _ _ v0 h;generalize w.setCell ⟨b,0,none⟩ v0=x1 at h1 |-;have h2:(x1.setCell ⟨b,1,none⟩ v1).heap[b]?=some (.cells #[v0,v1,c2,c3,c4,c5,c6,c7,c8,c9,c10,c11,c12,c13,c14] T (0,0)):=kG _ b 1 _ _ v1 h1;generalize x1.setCell ⟨b,1,none⟩ v1=x2 at h2 |-;have h3:(x2.setCell ⟨b,2,none⟩ v2).heap[b]?=some (.cells #[v0,v1,v2,c3,c4,c5,c6,c7,c8,c9,c10,c11,c12,c13,c14] T (0,0)):=kG _ b 2 _ _ v2 h2;generalize x2.setCell ⟨b,2,none⟩ v2=x3 at h3 |-;have h4:(x3.setCell ⟨b,3,none⟩ v3).heap[b]?=some (.cells #[v0,v1,v2,v3,c4,c5,c6,c7,c8,c9,c10,c11,c12,c13,c14] T (0,0)):=kG _ b 3 _ _ v3 h3;generalize x3.setCell ⟨b,3,none⟩ v3=x4 at h4 |-;have h5:(x4.setCell ⟨b,4,none⟩ v4).heap[b]?=some (.cells #[v0,v1,v2,v3,v4,c5,c6,c7,c8,c9,c10,c11,c12,c13,c14] T (0,0)):=kG _ b 4 _ _ v4 h4;generalize x4.setCell ⟨b,4,none⟩ v4=x5 at h5 |-;have h6:(x5.setCell ⟨b,5,none⟩ v5).heap[b]?=some (.cells #[v0,v1,v2,v3,v4,v5,c6,c7,c8,c9,c10,c11,c12,c13,c14] T (0,0)):=kG _ b 5 _ _ v5 h5;generalize x5.setCell ⟨b,5,none⟩ v5=x6 at h6 |-;have h7:(x6.setCell ⟨b,6,none⟩ v6).heap[b]?=some (.cells #[v0,v1,v2,v3,v4,v5,v6,c7,c8,c9,c10,c11,c12,c13,c14] T (0,0)):=kG _ b 6 _ _ v6 h6;generalize x6.setCell ⟨b,6,none⟩ v6=x7 at h7 |-;have h8:(x7.setCell ⟨b,7,none⟩ v7).heap[b]?=some (.cells #[v0,v1,v2,v3,v4,v5,v6,v7,c8,c9,c10,c11,c12,c13,c14] T (0,0)):=kG _ b 7 _ _ v7 h7;generalize x7.setCell ⟨b,7,none⟩ v7=x8 at h8 |-;have h9:(x8.setCell ⟨b,8,none⟩ v8).heap[b]?=some (.cells #[v0,v1,v2,v3,v4,v5,v6,v7,v8,c9,c10,c11,c12,c13,c14] T (0,0)):=kG _ b 8 _ _ v8 h8;generalize x8.setCell ⟨b,8,none⟩ v8=x9 at h9 |-;have h10:(x9.setCell ⟨b,9,none⟩ v9).heap[b]?=some (.cells #[v0,v1,v2,v3,v4,v5,v6,v7,v8,v9,c10,c11,c12,c13,c14] T (0,0)):=kG _ b 9 _ _ v9 h9;generalize x9.setCell ⟨b,9,none⟩ v9=x10 at h10 |-
 have h11:(x10.setCell ⟨b,10,none⟩ v10).heap[b]?=some (.cells #[v0,v1,v2,v3,v4,v5,v6,v7,v8,v9,v10,c11,c12,c13,c14] T (0,0)):=kG _ b 10 _ _ v10 h10;generalize x10.setCell ⟨b,10,none⟩ v10=YT at h11 |-;have h12:(YT.setCell ⟨b,11,none⟩ v11).heap[b]?=some (.cells #[v0,v1,v2,v3,v4,v5,v6,v7,v8,v9,v10,v11,c12,c13,c14] T (0,0)):=kG _ b 11 _ _ v11 h11;generalize YT.setCell ⟨b,11,none⟩ v11=VA at h12 |-;have h13:(VA.setCell ⟨b,12,none⟩ v12).heap[b]?=some (.cells #[v0,v1,v2,v3,v4,v5,v6,v7,v8,v9,v10,v11,v12,c13,c14] T (0,0)):=kG _ b 12 _ _ v12 h12;generalize VA.setCell ⟨b,12,none⟩ v12=YU at h13 |-;have h14:(YU.setCell ⟨b,13,none⟩ v13).heap[b]?=some (.cells #[v0,v1,v2,v3,v4,v5,v6,v7,v8,v9,v10,v11,v12,v13,c14] T (0,0)):=kG _ b 13 _ _ v13 h13;generalize YU.setCell ⟨b,13,none⟩ v13=x14 at h14 |-;have h15:(x14.setCell ⟨b,14,none⟩ v14).heap[b]?=some (.cells #[v0,v1,v2,v3,v4,v5,v6,v7,v8,v9,v10,v11,v12,v13,v14] T (0,0)):=kG _ b 14 _ _ v14 h14;exact h15
theorem yw (h:Below B w0 w)(hb:B<=b)(v0 v1 v2 v3 v4 v5 v6 v7 v8 v9 v10 v11 v12 v13 v14:Value):Below B w0 (((((((((((((((w.setCell ⟨b,0,none⟩ v0).setCell ⟨b,1,none⟩ v1).setCell ⟨b,2,none⟩ v2).setCell ⟨b,3,none⟩ v3).setCell ⟨b,4,none⟩ v4).setCell ⟨b,5,none⟩ v5).setCell ⟨b,6,none⟩ v6).setCell ⟨b,7,none⟩ v7).setCell ⟨b,8,none⟩ v8).setCell ⟨b,9,none⟩ v9).setCell ⟨b,10,none⟩ v10).setCell ⟨b,11,none⟩ v11).setCell ⟨b,12,none⟩ v12).setCell ⟨b,13,none⟩ v13).setCell ⟨b,14,none⟩ v14) :=
 yu hb [v0,v1,v2,v3,v4,v5,v6,v7,v8,v9,v10,v11,v12,v13,v14] 0 h
theorem Al (w:World)(b:Nat)(v0 v1 v2 v3 v4 v5 v6 v7:Value)(h:k≠b):((((((((w.setCell ⟨b,5,none⟩ v0).setCell ⟨b,6,none⟩ v1).setCell ⟨b,7,none⟩ v2).setCell ⟨b,8,none⟩ v3).setCell ⟨b,9,none⟩ v4).setCell ⟨b,10,none⟩ v5).setCell ⟨b,11,none⟩ v6).setCell ⟨b,12,none⟩ v7).cell? ⟨k,j,none⟩=w.cell? ⟨k,j,none⟩ :=
 IW h [v0,v1,v2,v3,v4,v5,v6,v7] 5 w
theorem Ul {T:TypeId}(h:w.heap[b]?=some (.cells #[c0,c1,c2,c3,c4,c5,c6,c7,c8,c9,c10,c11,c12,c13,c14] T (0,0)))(v0 v1 v2 v3 v4 v5 v6 v7:Value):((((((((w.setCell ⟨b,5,none⟩ v0).setCell ⟨b,6,none⟩ v1).setCell ⟨b,7,none⟩ v2).setCell ⟨b,8,none⟩ v3).setCell ⟨b,9,none⟩ v4).setCell ⟨b,10,none⟩ v5).setCell ⟨b,11,none⟩ v6).setCell ⟨b,12,none⟩ v7).heap[b]?=some (.cells #[c0,c1,c2,c3,c4,v0,v1,v2,v3,v4,v5,v6,v7,c13,c14] T (0,0)):=by
 have h1:(w.setCell ⟨b,5,none⟩ v0).heap[b]?=some (.cells #[c0,c1,c2,c3,c4,v0,c6,c7,c8,c9,c10,c11,c12,c13,c14] T (0,0)):=kG _ b 5 _ _ v0 h;generalize w.setCell ⟨b,5,none⟩ v0=x1 at h1 |-;have h2:(x1.setCell ⟨b,6,none⟩ v1).heap[b]?=some (.cells #[c0,c1,c2,c3,c4,v0,v1,c7,c8,c9,c10,c11,c12,c13,c14] T (0,0)):=kG _ b 6 _ _ v1 h1;generalize x1.setCell ⟨b,6,none⟩ v1=x2 at h2 |-;have h3:(x2.setCell ⟨b,7,none⟩ v2).heap[b]?=some (.cells #[c0,c1,c2,c3,c4,v0,v1,v2,c8,c9,c10,c11,c12,c13,c14] T (0,0)):=kG _ b 7 _ _ v2 h2;generalize x2.setCell ⟨b,7,none⟩ v2=x3 at h3 |-;have h4:(x3.setCell ⟨b,8,none⟩ v3).heap[b]?=some (.cells #[c0,c1,c2,c3,c4,v0,v1,v2,v3,c9,c10,c11,c12,c13,c14] T (0,0)):=kG _ b 8 _ _ v3 h3;generalize x3.setCell ⟨b,8,none⟩ v3=x4 at h4 |-;have h5:(x4.setCell ⟨b,9,none⟩ v4).heap[b]?=some (.cells #[c0,c1,c2,c3,c4,v0,v1,v2,v3,v4,c10,c11,c12,c13,c14] T (0,0)):=kG _ b 9 _ _ v4 h4;generalize x4.setCell ⟨b,9,none⟩ v4=x5 at h5 |-;have h6:(x5.setCell ⟨b,10,none⟩ v5).heap[b]?=some (.cells #[c0,c1,c2,c3,c4,v0,v1,v2,v3,v4,v5,c11,c12,c13,c14] T (0,0)):=kG _ b 10 _ _ v5 h5;generalize x5.setCell ⟨b,10,none⟩ v5=x6 at h6 |-;have h7:(x6.setCell ⟨b,11,none⟩ v6).heap[b]?=some (.cells #[c0,c1,c2,c3,c4,v0,v1,v2,v3,v4,v5,v6,c12,c13,c14] T (0,0)):=kG _ b 11 _ _ v6 h6;generalize x6.setCell ⟨b,11,none⟩ v6=x7 at h7 |-;have h8:(x7.setCell ⟨b,12,none⟩ v7).heap[b]?=some (.cells #[c0,c1,c2,c3,c4,v0,v1,v2,v3,v4,v5,v6,v7,c13,c14] T (0,0)):=kG _ b 12 _ _ v7 h7;exact h8
theorem QA (h:Below B w0 w)(hb:B<=b)(v0 v1 v2 v3 v4 v5 v6 v7:Value):Below B w0 ((((((((w.setCell ⟨b,5,none⟩ v0).setCell ⟨b,6,none⟩ v1).setCell ⟨b,7,none⟩ v2).setCell ⟨b,8,none⟩ v3).setCell ⟨b,9,none⟩ v4).setCell ⟨b,10,none⟩ v5).setCell ⟨b,11,none⟩ v6).setCell ⟨b,12,none⟩ v7) :=
 yu hb [v0,v1,v2,v3,v4,v5,v6,v7] 5 h
theorem X4 (P:Nat->Prop)(w:World)(b:Nat)(v0 v1 v2 v3 v4 v5 v6 v7:Value)(hP:∀ k,P k->k≠b):bA P w ((((((((w.setCell ⟨b,5,none⟩ v0).setCell ⟨b,6,none⟩ v1).setCell ⟨b,7,none⟩ v2).setCell ⟨b,8,none⟩ v3).setCell ⟨b,9,none⟩ v4).setCell ⟨b,10,none⟩ v5).setCell ⟨b,11,none⟩ v6).setCell ⟨b,12,none⟩ v7) :=
 Lv hP [v0,v1,v2,v3,v4,v5,v6,v7] 5 w
theorem Dp (P:Nat->Prop)(w:World)(b:Nat)(v0 v1 v2 v3 v4 v5 v6 v7 v8 v9 v10 v11 v12 v13 v14:Value)(hP:∀ k,P k->k≠b):bA P w (((((((((((((((w.setCell ⟨b,0,none⟩ v0).setCell ⟨b,1,none⟩ v1).setCell ⟨b,2,none⟩ v2).setCell ⟨b,3,none⟩ v3).setCell ⟨b,4,none⟩ v4).setCell ⟨b,5,none⟩ v5).setCell ⟨b,6,none⟩ v6).setCell ⟨b,7,none⟩ v7).setCell ⟨b,8,none⟩ v8).setCell ⟨b,9,none⟩ v9).setCell ⟨b,10,none⟩ v10).setCell ⟨b,11,none⟩ v11).setCell ⟨b,12,none⟩ v12).setCell ⟨b,13,none⟩ v13).setCell ⟨b,14,none⟩ v14) :=
 Lv hP [v0,v1,v2,v3,v4,v5,v6,v7,v8,v9,v10,v11,v12,v13,v14] 0 w
