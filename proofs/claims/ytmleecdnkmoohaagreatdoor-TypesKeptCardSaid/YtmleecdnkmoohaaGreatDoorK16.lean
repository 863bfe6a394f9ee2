/- Walks and plain laws, without a condition. -/
import Derived.Test.YtmleecdnkmoohaaGreatDoorK15
set_option maxHeartbeats 16000000
set_option maxRecDepth 100000
set_option linter.unusedVariables false
set_option linter.unusedSimpArgs false
namespace Go.Proofs.YtmleecdnkmoohaaGreatDoor
open Go.RowKit Go
variable{t:PT}{u k i b C e:Nat}{aj:List Nd}{ah:List Tok}{l:List PT}{ks:List Int}{x:PE}{W w:World}{c0 c1 c2 c3 kv:Value}{Q:Nat->Prop}
def r9:Option CE->PT
 | none=>.leaf
 | some e=>e.pt
def iR:List (Option CE)->Nat->List (CE × Nat)
 | [],_=>[]
 | none :: l,u=>iR l (u+1)
 | some e :: l,u=>(e,u) :: iR l (u+e.pt.lv)
theorem Cg {n:Int}(h:oH aj n u t):0<=n/\n<(aj.length:Int):=by
 cases t with
 | leaf=>rw[oH] at h;have:=(pE h.2).1;omega
 | node k l=>rw[oH] at h;obtain⟨ks,h0,h1,_⟩:=h;have:=(pE h1).1;omega
theorem Uc {aj:List Nd}:∀ {l:List PT} {ks:List Int} {u:Nat},fP aj ks u l->∀ k∈ks,0<=k/\k<(aj.length:Int)
 | [],ks,u,h=>by rw[fP] at h;subst h;intro k hk;cases hk
 | t :: l,ks,u,h=>by
  rw[fP] at h;obtain⟨k,ks',rfl,h1,h2⟩:=h;intro x hx
  rcases nY.1 hx with rfl|hx
  ·exact Cg h1
  ·exact Uc h2 x hx
theorem wV {aj:List Nd}:∀ (its:List (Option CE)) (ks:List Int) (u:Nat),fP aj ks u (its.map r9) ->
  (gX aj ks).length=(iR its u).length/\∀ (j:Nat) (h1:j<(gX aj ks).length) (h2:j<(iR its u).length),oH aj (gX aj ks)[j] (iR its u)[j].2 (iR its u)[j].1.pt
 | [],ks,u,h=>by
  simp only[List.map_nil,fP] at h;subst h;exact⟨rfl,λj h1=>absurd h1 (by simp[gX])⟩
 | none :: its,ks,u,h=>by
  simp only[lN,fP,r9] at h;obtain⟨k,ks',rfl,h1,h2⟩:=h;rw[PT.lv] at h2;have ih:=wV its ks' (u+1) h2;simp only[Qp h1,iR];exact ih
 | some e :: its,ks,u,h=>by
  simp only[lN,fP,r9] at h;obtain⟨k,ks',rfl,h1,h2⟩:=h;have ih:=wV its ks' _ h2;simp only[Qq h1,iR];refine⟨by simp[ih.1],λj h3 h4=>?_⟩
  cases j with
  | zero=>exact h1
  | succ j=>exact ih.2 j (by simpa using h3) (by simpa using h4)
theorem CE.aeD (e:CE):0<e.pt.lv:=by
 cases e with
 | call q l=>rw[CE.pt,PT.lv,jr];simp[bU,PT.lv]
 | num=>simp[CE.pt,PT.lv,bU]
 | truth=>simp[CE.pt,PT.lv,bU]
 | res=>simp[CE.pt,PT.lv,bU]
 | Cz=>simp[CE.pt,PT.lv,bU]
 | group e=>simp[CE.pt,PT.lv,bU];omega
 | un e=>simp[CE.pt,PT.lv,bU];omega
 | bin a b=>simp[CE.pt,PT.lv,bU];omega
 | iff a b c=>simp[CE.pt,PT.lv,bU];omega
 | vO a b=>simp[CE.pt,PT.lv,bU];omega
 | vP a b=>simp[CE.pt,PT.lv,bU];omega
theorem Ch:∀ (its:List (Option CE)),its.length<=bU (its.map r9)
 | []=>bD _
 | none :: its=>by have:=Ch its;simp only[lN,bU,r9,PT.lv,fu];omega
 | some e :: its=>by have:=Ch its;have:=e.aeD;simp only[lN,bU,r9,fu];omega
structure Gu where
 B:Nat
 tv:Value
 nv:Value
 ah:List Tok
 aj:List Nd
 cl:Bool
structure Gu.ok (E:Gu):Prop where
 len:E.ah.length<=1000000
 nums:∀ u,u<E.ah.length->gW E.ah u=3->∀ W,Calls Tryz.prog 171 #[.string ⟨(aP E.ah u).toArray⟩] W (Yq (jE (aP E.ah u)) W)
def Gu.At (E:Gu)(W:World):Prop:=bJ E.B W (.agg #[E.tv,E.nv]) E.ah E.aj/\E.B<=W.heap.size
def Gu.reads (E:Gu)(e:CE)(u:Nat):Prop:=∀ (i:Nat) (W:World),oH E.aj i u e.pt->E.At W->Calls Tryz.prog 116 #[.agg #[E.tv,E.nv],.int .i64 i] W (EPost XA (e.pe E.ah u) W)
theorem mM (E:Gu)(its:List (Option CE))(ks:List Int)(u i:Nat)(k:Int)(hn:E.aj[i]?=some ⟨k,-1,ks⟩)(hr:fP E.aj ks u (its.map r9))(hlen:ks.length<=1000000000)(hsub:∀ p∈iR its u,E.reads p.1 p.2)
  (op at_:Nat) (W:World) (hT:bJ E.B W (.agg #[E.tv,E.nv]) E.ah E.aj) (hB:E.B<=W.heap.size) :
  Calls Tryz.prog 170 #[.agg #[E.tv,E.nv],.int .i64 op,.int .i64 at_,.int .i64 i] W (EPost XA (.mk op [] [] 0 [] false ((iR its u).map λp=>p.1.pe E.ah p.2) at_) W):=by
 obtain⟨hi,hni⟩:=pE hn;obtain⟨p1,p2⟩:=wV its ks u hr;refine Ve E.B E.tv E.nv E.ah E.aj i op at_ W hT hB hi (by rw[hni];exact Uc hr) (by rw[hni];exact hlen) _ (by rw[hni];simp[p1]) ?_;rw[hni];intro j h1 h2 W' hT' hB'
 have h3:j<(iR its u).length:=by simpa using h1
 have hrep:=p2 j h2 h3;have hx:=hsub _ (nH h3);have hk:=Cg hrep;simp only[List.getElem_map]
 obtain⟨m,hm⟩:∃ m:Nat,(gX E.aj ks)[j]=(m:Int):=⟨((gX E.aj ks)[j]).toNat,by omega⟩
 rw[hm] at hrep |-;exact hx m W' hrep ⟨hT',hB'⟩
theorem jL (h:u<ah.length):ah[u]?=some (dx ah u):=by
 rw[dx,Nat.min_eq_left (by omega),Kr,AY h,Option.getD_some]
theorem bX (h:fP aj ks u (.leaf :: l)):∃ (k:Nat) (ks':List Int),ks=(k:Int) :: ks'/\aj[k]?=some ⟨19,(u:Nat),[]⟩/\fP aj ks' (u+1) l:=by
 rw[fP] at h;obtain⟨k,ks',rfl,h1,h2⟩:=h;obtain⟨i,rfl,hi⟩:=h1.Qu;exact⟨i,ks',rfl,hi,h2⟩
theorem Gv (h:fP aj ks u (t :: l)):∃ (k:Nat) (ks':List Int),ks=(k:Int) :: ks'/\oH aj k u t/\fP aj ks' (u+t.lv) l:=by
 rw[fP] at h;obtain⟨k,ks',rfl,h1,h2⟩:=h;have:=Cg h1;exact⟨k.toNat,ks',by rw[Int.toNat_of_nonneg this.1],by rw[Int.toNat_of_nonneg this.1];exact h1,h2⟩
def jl:List CE->List (Option CE)
 | []=>[]
 | e :: l=>some e :: (match l with | []=>[]|_ :: _=>none :: jl l)
theorem wW (e f:CE)(l:List CE):jl (e :: f :: l)=some e :: none :: jl (f :: l):=by
 conv=>lhs;rw[jl]
theorem rH:∀ l:List CE,(jl l).map r9=fI l
 | []=>by simp[jl,fI]
 | [e]=>by simp[jl,fI,r9]
 | e :: f :: l=>by
  rw[wW,oG,lN,lN,rH (f :: l)]
  rfl
theorem Ci (ah:List Tok):∀ (l:List CE) (u:Nat),(iR (jl l++[none]) u).map (λp=>p.1.pe ah p.2)=ko ah u l
 | [],u=>by simp[jl,iR,ko]
 | [e],u=>by simp[jl,iR,ko]
 | e :: f :: l,u=>by
  rw[wW,pJ,pJ,iR,iR,lN,Ci ah (f :: l)]
  conv=>rhs;rw[ko]
theorem LH {E:Gu}:∀ (l:List CE) (u:Nat),qp E.ah E.cl u l->u+bU (fI l)<=E.ah.length->(∀ e∈l,∀ v,e.ok E.ah E.cl v->v+e.pt.lv<=E.ah.length->E.reads e v)->∀ p∈iR (jl l++[none]) u,E.reads p.1 p.2
 | [],u,_,_,_,p,hp=>by simp[jl,iR] at hp
 | [e],u,ho,hl,hr,p,hp=>by
  rw[qp] at ho;rw[uJ] at hl;simp only[bU] at hl
  have h:p=(e,u):=by simpa [jl,iR] using hp
  subst h;exact hr e Cu u ho.1 (by omega)
 | e :: f :: l,u,ho,hl,hr,p,hp=>by
  rw[qp] at ho;rw[oG] at hl;simp only[bU,PT.lv] at hl;rw[wW,pJ,pJ,iR,iR] at hp
  rcases nY.1 hp with rfl|hp
  ·exact hr e Cu u ho.1 (by omega)
  ·exact LH (f :: l) _ ho.2 (by omega) (λx hx=>hr x (Dy _ hx)) p hp
theorem fD (h:oH aj i u (.node k l)):∃ ks,aj[i]?=some ⟨(k:Nat),-1,ks⟩/\fP aj ks u l:=by
 rw[oH] at h;obtain⟨ks,_,h1,h2⟩:=h;rw[Int.toNat_natCast] at h1;exact⟨ks,h1,h2⟩
theorem rJ {E:Gu}(hE:E.ok){its:List (Option CE)}(h:fP E.aj ks u (its.map r9))(hl:bU (its.map r9)<=E.ah.length):ks.length<=1000000000:=by
 have h1:=(zS h).1;have h2:=Ch its;have h3:=hE.len;rw[oC] at h1;omega
theorem gq (E:Gu){k0:Nat}{kd:Int}(hAt:E.At W)(hn:E.aj[i]?=some ⟨kd,-1,(k0:Int) :: ks⟩)(h0:E.aj[k0]?=some ⟨19,(u:Nat),[]⟩)(hu:u<E.ah.length)(hx:rG E.B E.tv E.nv E.ah E.aj i ((k0:Int) :: ks) (dx E.ah u) kd x) :
  Calls Tryz.prog 116 #[.agg #[E.tv,E.nv],.int .i64 i] W (EPost XA x W) :=
 JV E.B E.tv E.nv E.ah E.aj i kd _ W hAt.1 hAt.2 hn k0 rfl _ _ h0 (.inl ⟨u,rfl,jL hu⟩) x hx
theorem ZN {B:Nat}{tv nv:Value}(hT:bJ B W (.agg #[tv,nv]) ah aj)(hB:B<=W.heap.size)(h:aj[k]?=some ⟨19,(u:Nat),[]⟩)(hu:u<ah.length) :
  Calls Tryz.prog 113 #[.agg #[tv,nv],.int .i64 k] W λe w'=>e=.returned (.string ⟨(aP ah u).toArray⟩)/\Below W.heap.size W w':=by
 have h1:=xG B tv nv ah aj k u W hT hB h hu;have e:=jL hu;rw[AY hu] at e;rw[lG e] at h1;exact h1
theorem eH (E:Gu)(hE:E.ok):∀ (n:Nat) (e:CE) (u:Nat),SizeOf.sizeOf e<n->e.ok E.ah E.cl u->u+e.pt.lv<=E.ah.length->E.reads e u
 | 0,e,u,h,_,_=>absurd h (by omega)
 | n+1,.num,u,_,ho,hl=>by
  intro i W hrep hAt;rw[CE.ok] at ho;rw[CE.pt] at hrep hl;simp only[PT.lv,bU] at hl;obtain⟨ks,hn,hr⟩:=fD hrep;obtain⟨k0,ks',rfl,h0,_⟩:=bX hr;rw[CE.pe];exact gq E hAt hn h0 (by omega) (.num _ _ (hE.nums u (by omega) ho))
 | n+1,.truth,u,_,ho,hl=>by
  intro i W hrep hAt;rw[CE.ok] at ho;rw[CE.pt] at hrep hl;simp only[PT.lv,bU] at hl;obtain⟨ks,hn,hr⟩:=fD hrep;obtain⟨k0,ks',rfl,h0,_⟩:=bX hr;rw[CE.pe]
  rcases ho with ho|ho
  ·rw[jV ho]
   exact gq E hAt hn h0 (by omega) (.tru ho)
  ·rw[dX (by rw[ho];decide)]
   exact gq E hAt hn h0 (by omega) (.fls ho)
 | n+1,.res,u,_,ho,hl=>by
  intro i W hrep hAt;rw[CE.pt] at hrep hl;simp only[PT.lv,bU] at hl;obtain⟨ks,hn,hr⟩:=fD hrep;obtain⟨k0,ks',rfl,h0,_⟩:=bX hr;rw[CE.pe];exact gq E hAt hn h0 (by omega) .res
 | n+1,.Cz,u,_,ho,hl=>by
  intro i W hrep hAt;rw[CE.pt] at hrep hl;simp only[PT.lv,bU] at hl;obtain⟨ks,hn,hr⟩:=fD hrep;obtain⟨k0,ks',rfl,h0,_⟩:=bX hr;rw[CE.pe];exact gq E hAt hn h0 (by omega) .Cz
 | n+1,.group e,u,hs,ho,hl=>by
  intro i W hrep hAt;rw[CE.ok] at ho;rw[CE.pt] at hrep hl;simp only[PT.lv,bU] at hl;simp only[CE.group.sizeOf_spec] at hs;obtain⟨ks,hn,hr⟩:=fD hrep;obtain⟨k0,ks',rfl,h0,hr⟩:=bX hr;obtain⟨k1,ks',rfl,h1,_⟩:=Gv hr;rw[CE.pe];exact gq E hAt hn h0 (by omega) (.group k1 _ rfl (λW hT hB=>eH E hE n e (u+1) (by omega) ho.2 (by omega) k1 W h1 ⟨hT,hB⟩))
 | n+1,.un e,u,hs,ho,hl=>by
  intro i W hrep hAt;rw[CE.ok] at ho;rw[CE.pt] at hrep hl;simp only[PT.lv,bU] at hl;simp only[CE.un.sizeOf_spec] at hs;obtain⟨ks,hn,hr⟩:=fD hrep
  have hM:=mM E [none,some e] ks u i _ hn hr (rJ hE (its:=[none,some e]) hr (by simp only[lN,List.map_nil,r9,bU,PT.lv];omega)) (λp hp=>by
   have h:p=(e,u+1):=by simpa [iR] using hp
   subst h
   exact eH E hE n e (u+1) (by omega) ho.2 (by omega))
  obtain⟨k0,ks',rfl,h0,_⟩:=bX hr;rw[CE.pe]
  rcases ho.1 with h|h
  ·rw[bR h]
   exact gq E hAt hn h0 (by omega) (.not _ h λop at_ W hT hB=>hM op at_ W hT hB)
  ·rw[aU (by rw[h];decide)]
   exact gq E hAt hn h0 (by omega) (.neg _ h λop at_ W hT hB=>hM op at_ W hT hB)
 | n+1,.bin a b,u,hs,ho,hl=>by
  intro i W hrep hAt;rw[CE.ok] at ho;rw[CE.pt] at hrep hl;simp only[PT.lv,bU] at hl;simp only[CE.bin.sizeOf_spec] at hs;obtain⟨ks,hn,hr⟩:=fD hrep
  have hM:=mM E [some a,none,some b] ks u i _ hn hr (rJ hE (its:=[some a,none,some b]) hr (by simp only[lN,List.map_nil,r9,bU,PT.lv];omega)) (λp hp=>by
   have h:p=(a,u)\/p=(b,u+a.pt.lv+1):=by simpa [iR] using hp
   rcases h with rfl|rfl
   ·exact eH E hE n a u (by omega) ho.2.1 (by omega)
   ·exact eH E hE n b _ (by omega) ho.2.2 (by omega))
  obtain⟨k0,ks',rfl,h0,hr⟩:=Gv hr;obtain⟨k1,ks',rfl,h1,_⟩:=bX hr;obtain⟨c,la,ea,c1,c2⟩:=a.node;rw[ea] at h0;obtain⟨ksa,hna,_⟩:=fD h0;rw[CE.pe];refine JV E.B E.tv E.nv E.ah E.aj i _ _ W hAt.1 hAt.2 hn k0 rfl _ _ hna (.inr ⟨by simp only;omega,rfl⟩) _ (.bin _ λW' hT hB=>?_);exact OJ _ E.B E.tv E.nv E.ah E.aj i _ W' hT hB hn k1 (u+a.pt.lv) rfl h1 _ (jL (by omega)) ho.1 hM
 | n+1,.iff a b c,u,hs,ho,hl=>by
  intro i W hrep hAt;rw[CE.ok] at ho;rw[CE.pt] at hrep hl;simp only[PT.lv,bU] at hl;simp only[CE.iff.sizeOf_spec] at hs;obtain⟨ks,hn,hr⟩:=fD hrep
  have hM:=mM E [none,some a,none,some b,none,some c] ks u i _ hn hr (rJ hE (its:=[none,some a,none,some b,none,some c]) hr (by simp only[lN,List.map_nil,r9,bU,PT.lv];omega)) (λp hp=>by
   have h:p=(a,u+1)\/p=(b,u+1+a.pt.lv+1)\/p=(c,u+1+a.pt.lv+1+b.pt.lv+1):=by simpa [iR] using hp
   rcases h with rfl|rfl|rfl
   ·exact eH E hE n a _ (by omega) ho.2.1 (by omega)
   ·exact eH E hE n b _ (by omega) ho.2.2.1 (by omega)
   ·exact eH E hE n c _ (by omega) ho.2.2.2 (by omega))
  obtain⟨k0,ks',rfl,h0,_⟩:=bX hr;rw[CE.pe];exact gq E hAt hn h0 (by omega) (.iff _ λop at_ W hT hB=>hM op at_ W hT hB)
 | n+1,.vO a b,u,hs,ho,hl=>by
  intro i W hrep hAt;rw[CE.ok] at ho;rw[CE.pt] at hrep hl;simp only[PT.lv,bU] at hl;simp only[CE.vO.sizeOf_spec] at hs;obtain⟨ks,hn,hr⟩:=fD hrep
  have hM:=mM E [none,none,none,some a,none,some b] ks u i _ hn hr (rJ hE (its:=[none,none,none,some a,none,some b]) hr (by simp only[lN,List.map_nil,r9,bU,PT.lv];omega)) (λp hp=>by
   have h:p=(a,u+3)\/p=(b,u+3+a.pt.lv+1):=by simpa [iR] using hp
   rcases h with rfl|rfl
   ·exact eH E hE n a _ (by omega) ho.2.2.1 (by omega)
   ·exact eH E hE n b _ (by omega) ho.2.2.2 (by omega))
  obtain⟨k0,ks',rfl,h0,hr⟩:=bX hr;obtain⟨k1,ks',rfl,h1,_⟩:=bX hr;rw[CE.pe];exact gq E hAt hn h0 (by omega) (.vO _ k1 _ (λop at_ W hT hB=>hM op at_ W hT hB) rfl λW hT hB=>ZN hT hB h1 (by omega))
 | n+1,.vP a b,u,hs,ho,hl=>by
  intro i W hrep hAt;rw[CE.ok] at ho;rw[CE.pt] at hrep hl;simp only[PT.lv,bU] at hl;simp only[CE.vP.sizeOf_spec] at hs;obtain⟨ks,hn,hr⟩:=fD hrep
  have hM:=mM E [none,some a,none,some b] ks u i _ hn hr (rJ hE (its:=[none,some a,none,some b]) hr (by simp only[lN,List.map_nil,r9,bU,PT.lv];omega)) (λp hp=>by
   have h:p=(a,u+1)\/p=(b,u+1+a.pt.lv+1):=by simpa [iR] using hp
   rcases h with rfl|rfl
   ·exact eH E hE n a _ (by omega) ho.2.1 (by omega)
   ·exact eH E hE n b _ (by omega) ho.2.2 (by omega))
  obtain⟨k0,ks',rfl,h0,_⟩:=bX hr;rw[CE.pe];exact gq E hAt hn h0 (by omega) (.vP _ λop at_ W hT hB=>hM op at_ W hT hB)
 | n+1,.call q l,u,hs,ho,hl=>by
  intro i W hrep hAt;rw[CE.ok] at ho;rw[CE.pt] at hrep hl;simp only[CE.call.sizeOf_spec] at hs
  have hsz:∀ e∈l,∀ v,e.ok E.ah E.cl v->v+e.pt.lv<=E.ah.length->E.reads e v:=λe he v h1 h2 =>
   eH E hE n e v (by have:=List.sizeOf_lt_of_mem he;omega) h1 h2
  obtain⟨ks,hn,hr⟩:=fD hrep
  cases q with
  | true =>
   simp only[if_true] at hr hl ho;simp only[PT.lv,jr,bU] at hl
   have hr':fP E.aj ks u (([none,none,none,none]++(jl l++[none])).map r9):=by
    rw[xZ,xZ,rH]
    simpa [r9] using hr
   have hM:=mM E ([none,none,none,none]++(jl l++[none])) ks u i _ hn hr' (rJ hE hr' (by rw[xZ,xZ,rH];simp only[lN,List.map_nil,r9,jr,bU,PT.lv];omega)) (λp hp=>by
    simp only[pJ,uD,iR] at hp
    exact LH l (u+4) ho.2.2.2.2.2 (by omega) hsz p hp)
   simp only[pJ,uD,iR] at hM;rw[Ci] at hM;obtain⟨k0,ks',rfl,h0,hr⟩:=bX hr;obtain⟨k1,ks',rfl,h1,hr⟩:=bX hr;obtain⟨k2,ks',rfl,h2,hr⟩:=bX hr;rw[CE.pe,bR rfl];refine gq E hAt hn h0 (by omega) (.call _ λW' hT hB=>?_);exact JW true _ _ _ E.B E.tv E.nv E.ah E.aj i _ W' hT hB hn k0 u rfl h0 _ (jL (by omega)) k1 (u+1) rfl h1 _ (jL (by omega)) ho.2.2.2.1 k2 (u+2) (λ_=>rfl) (λ_=>h2) _ (λ_=>jL (by omega)) (.inl ⟨rfl,rfl,rfl⟩) hM
  | false =>
   simp only[Bool.false_eq_true,if_false] at hr hl ho;simp only[PT.lv,jr,bU] at hl
   have hr':fP E.aj ks u (([none,none]++(jl l++[none])).map r9):=by
    rw[xZ,xZ,rH]
    simpa [r9] using hr
   have hM:=mM E ([none,none]++(jl l++[none])) ks u i _ hn hr' (rJ hE hr' (by rw[xZ,xZ,rH];simp only[lN,List.map_nil,r9,jr,bU,PT.lv];omega)) (λp hp=>by
    simp only[pJ,uD,iR] at hp
    exact LH l (u+2) ho.2.2.2.2 (by omega) hsz p hp)
   simp only[pJ,uD,iR] at hM;rw[Ci] at hM;obtain⟨k0,ks',rfl,h0,hr⟩:=bX hr;obtain⟨k1,ks',rfl,h1,hr⟩:=bX hr;rw[CE.pe,aU (by decide)];refine gq E hAt hn h0 (by omega) (.call _ λW' hT hB=>?_);exact JW false _ _ _ E.B E.tv E.nv E.ah E.aj i _ W' hT hB hn k0 u rfl h0 _ (jL (by omega)) k1 (u+1) rfl h1 _ (jL (by omega)) ho.2.2.2.1 0 0 (λq=>by cases q) (λq=>by cases q) (dx E.ah u) (λq=>by cases q) (.inr ⟨rfl,rfl,rfl⟩) hM
def dW:Nat->List It->List (It × Nat)
 | _,[]=>[]
 | u,i :: l=>(i,u) :: dW (u+i.pt.lv) l
theorem uf:∀ (l:List It) (u:Nat),(dW u l).length=l.length
 | [],_=>rfl
 | i :: l,u=>by rw[dW,fu,fu,uf l]
theorem AL {aj:List Nd}:∀ (l:List It) (ks:List Int) (u:Nat),fP aj ks u (l.map It.pt)->ks.length=l.length/\∀ j,(h1:j<ks.length)->(h2:j<(dW u l).length)->oH aj ks[j] (dW u l)[j].2 (dW u l)[j].1.pt
 | [],ks,u,h=>by
  simp only[List.map_nil,fP] at h;subst h;exact⟨rfl,λj h1=>absurd h1 (by simp)⟩
 | i :: l,ks,u,h=>by
  simp only[lN,fP] at h;obtain⟨k,ks',rfl,h1,h2⟩:=h;obtain⟨h3,h4⟩:=AL l ks' _ h2;refine⟨by simp[h3],λj q1 q2=>?_⟩
  cases j with
  | zero=>exact h1
  | succ j=>exact h4 j (by simpa using q1) (by simpa [dW] using q2)
theorem ug:∀ (l:List It) (u:Nat) (p:It × Nat),p∈dW u l->p.2+p.1.pt.lv<=u+bU (l.map It.pt)
 | [],u,p,h=>by cases h
 | i :: l,u,p,h=>by
  rw[dW,nY] at h;rw[lN,bU]
  rcases h with rfl|h
  ·simp only;omega
  ·have:=ug l _ p h
   omega
theorem Gw (ah:List Tok):∀ (l:List It) (u:Nat) (a:Zy) (j:Nat) (h:j<(dW u l).length),nX ah u (l.take (j+1)) a=(dW u l)[j].1.step ah (dW u l)[j].2 (nX ah u (l.take j) a)
 | [],u,a,j,h=>absurd h (by simp[dW])
 | i :: l,u,a,0,h=>by simp[nX,dW]
 | i :: l,u,a,j+1,h=>by
  have:=Gw ah l (u+i.pt.lv) (i.step ah u a) j (by simpa [dW] using h);simp only[List.take_succ_cons,nX,this,dW,H9]
def PT.kd:PT->Int | .leaf=>19 | .node c _=>(c:Int)
theorem OM {k:Int}{v:Nat}(h:oH aj k v t):∃ (m:Nat) (x:Nd),k=m/\aj[m]?=some x/\x.kind=t.kd:=by
 cases t with
 | leaf =>
  rw[oH] at h;exact⟨k.toNat,_,by omega,h.2,rfl⟩
 | node c l =>
  rw[oH] at h;obtain⟨ks,h0,h1,_⟩:=h;exact⟨k.toNat,_,by omega,h1,rfl⟩
def It.plain:It->Bool
 | .base=>false
 | .cl _=>false
 | _=>true
theorem It.Sd (i:It)(h:i.plain=true):i.pt.kd≠5/\i.pt.kd≠6:=by
 cases i with
 | leaf=>exact⟨by decide,by decide⟩
 | par t=>exact⟨show ((4:Nat):Int)≠5 by decide,show ((4:Nat):Int)≠6 by decide⟩
 | expr e =>
  obtain⟨c,la,ea,c1,c2⟩:=e.node;simp only[It.pt,ea,PT.kd];omega
 | base=>cases h
 | cl e=>cases h
theorem It.Sg {i:It}(h:i.plain=true)(a:Zy):i.step ah u a=a:=by
 cases i<;>first|rfl|cases h
def LJ (a:Zy)(w:World)(e:Ending)(w':World):Prop:=∃ ao cap,e=.returned (.tuple #[.int .i64 a.base,.slice ao a.aC.length cap,.int .i64 a.bare])/\RowK (EK XA) (λb=>w.heap.size<=b) w' (.slice ao a.aC.length cap) a.aC/\Below w.heap.size w w'
theorem row_one {m k:Value}{P:Nat->Prop}{T:TypeId}(h:pG XA P w m k x)(hP:P w.heap.size):RowK (EK XA) P (w.alloc (.cells #[.int .i64 x.op,.string ⟨x.name.toArray⟩,.string ⟨x.module.toArray⟩,.bool (decide (x.num<0)),m,.bool x.yes,k,.int .i64 x.at_] T)) (.slice (some ⟨w.heap.size,0,none⟩) 1 1) [x]:=by
 have hnw:=aX w (.cells #[.int .i64 x.op,.string ⟨x.name.toArray⟩,.string ⟨x.module.toArray⟩,.bool (decide (x.num<0)),m,.bool x.yes,k,.int .i64 x.at_] T);refine⟨[(x,(m,k))],rfl,⟨some ⟨w.heap.size,0,none⟩,1,rfl,bD _,(EK XA).ND _,λ_=>⟨w.heap.size,0,rfl,hP,by simp,λi hi=>?_⟩⟩,λp hp=>?_⟩
 ·have hc:(EK XA).flat [(x,(m,k))]=[.int .i64 x.op,.string ⟨x.name.toArray⟩,.string ⟨x.module.toArray⟩,.bool (decide (x.num<0)),m,.bool x.yes,k,.int .i64 x.at_]:=rfl
  rw[aZ hnw,Nat.zero_add];simp only[hc];simp only[hc,fu,jC] at hi;have h':i<(#[Value.int .i64 x.op,.string ⟨x.name.toArray⟩,.string ⟨x.module.toArray⟩,.bool (decide (x.num<0)),m,.bool x.yes,k,.int .i64 x.at_]:Array Value).size:=hi;rw[Array.getElem?_eq_getElem h']
  simp
 ·rw[Ia] at hp
  subst hp;exact pG.frame (aW.of (aA w _)) h
theorem uV (h:w.heap[b]?=some (.cells #[c0,c1,c2,c3] 159 (0,0))):w.cell? ⟨b,2,none⟩=some c2/\w.cell? ⟨b,3,none⟩=some c3:=by
 refine⟨?_,?_⟩<;>(rw[aZ h];rfl)
theorem lY {x y:Value}(h:w.heap[b]?=some (.cells #[x,y] 154 (0,0))):w.cell? ⟨b,0,none⟩=some x/\w.cell? ⟨b,1,none⟩=some y:=by
 refine⟨?_,?_⟩<;>(rw[aZ h];rfl)
theorem Gx (B:Nat)(tv nv:Value)(ah:List Tok)(aj:List Nd)(i kd:Nat)(ks:List Int)(u:Nat)(its:List It)(w:World)(h:bJ B w (.agg #[tv,nv]) ah aj)(hB:B<=w.heap.size)(hn:aj[i]?=some ⟨(kd:Nat),-1,ks⟩)(hr:fP aj ks u (its.map It.pt))(hu:u+bU (its.map It.pt)<=ah.length)(hks:ks.length<=1000000)
  (hpl:∀ v,dU ah v+(aP ah v).length<=1099511627776) (hbs:∀ v,(It.base,v)∈dW u its->aP ah v∈[Iu,vG])
  (hE:∀ e v,(It.cl e,v)∈dW u its->∀ (k:Nat) (W:World),oH aj k (v+1) e.pt->bJ B W (.agg #[tv,nv]) ah aj->B<=W.heap.size->Calls Tryz.prog 116 #[.agg #[tv,nv],.int .i64 k] W (EPost XA (e.pe ah (v+1)) W)) :
  Calls Tryz.prog 114 #[.agg #[tv,nv],.int .i64 i] w (LJ (nX ah u its ⟨0,[],-1⟩) w):=by
 have HE:=ay hE;have HBS:=ay hbs;have HPL:=ay hpl;obtain⟨hlk,hrp⟩:=AL its ks u hr;have HRP:=ay hrp;have HLK:Hid (ks.length=(dW u its).length):=ay (by rw[uf];exact hlk);have HU:=ay hu;have HT:=ay h;obtain⟨hi,hni⟩:=pE hn;obtain⟨a1,c1,_,_,e⟩:=h.slices;obtain⟨b,off,cap,kv,rfl,hb,_,_,x2,hkv⟩:=h.node hi
 obtain⟨rfl,-⟩:tv=.slice a1 ah.length c1/\_:=by simpa using e
 rw[hni] at hkv;simp only at hkv;obtain⟨ak,ck,rfl,_,hf⟩:=hkv.form;have HF:=ay hf;have hal:=(bQ w.heap.size w).alloc (bD _) (.cells #[.slice a1 ah.length c1,.slice (some ⟨b,off,none⟩) aj.length cap] 154);have x2':=jo hal x2;have hnr:=aX w (.cells #[.slice a1 ah.length c1,.slice (some ⟨b,off,none⟩) aj.length cap] 154);obtain⟨r0,r1⟩:=lY hnr
 have i1:(i:Int)<(aj.length:Int):=by omega
 clear hf h e hkv x2 hn hni hlk hrp hr hu hE hbs hpl;go_enter Tryz.func114,Tryz.ntmps114;go_wp2;generalize w.alloc _=w1 at hnr hal r0 r1 x2' |-;have hsz1:=hal.size
 go_loopw [4,5,6,18] (λbv cv xv q wr=>∃ (j:Nat) (ao:Option Addr) (cc:Nat),j<=ks.length/\q=.int .i64 j/\bv=.int .i64 (nX ah u (its.take j) ⟨0,[],-1⟩).base/\cv=.slice ao (nX ah u (its.take j) ⟨0,[],-1⟩).aC.length cc/\xv=.int .i64 (nX ah u (its.take j) ⟨0,[],-1⟩).bare /\
  RowK (EK XA) (λb=>w.heap.size<=b) wr (.slice ao (nX ah u (its.take j) ⟨0,[],-1⟩).aC.length cc) (nX ah u (its.take j) ⟨0,[],-1⟩).aC/\Below w.heap.size w wr/\wr.heap[w.heap.size]?=some (.cells #[.slice a1 ah.length c1,.slice (some ⟨b,off,none⟩) aj.length cap] 154 (0,0))) (λ_ _ _ q _=>ks.length - (intOf q).toNat)
 case atStart=>exact⟨0,none,0,kJ _,rfl,rfl,rfl,rfl,RowK.nil _ _ _,hal,hnr⟩
 case round =>
  obtain⟨j,ao,cc,hj,rfl,rfl,rfl,rfl,hrow,hbl,hrr⟩:=hrel;have hz:=hbl.size;have hlt:=(bP hrr).1
  by_cases hjl:j<ks.length
  ·obtain⟨bk,ok,rfl,hbk,hcell⟩:=HF.out (by omega)
   have hx:=(hbl.cell (p:=⟨bk,ok+j,none⟩) (by show bk<_;omega)).trans (hcell j hjl)
   have hjp:j<(dW u its).length:=by have:=HLK.out;omega
   have hrep:=HRP.out j hjl hjp;have hst:=Gw ah its u ⟨0,[],-1⟩ j hjp;have hmem:=nH hjp;have hend:=ug its u _ hmem;have hu:=HU.out
   have Ij:(j:Int)<(ks.length:Int):=by omega
   generalize (dW u its)[j]=it at hrep hst hmem hend;obtain⟨it,v⟩:=it;simp only at hrep hst hend;generalize ks[j]=q at hx hrep;obtain⟨m,x,rfl,hnx,hkx⟩:=OM hrep;obtain⟨hm,Wv⟩:=pE hnx;obtain⟨b',off',jw,kv',e',_,y0,_,y2,hky⟩:=HT.out.node hm
   obtain⟨⟨rfl,rfl⟩,rfl⟩:(b=b'/\off=off')/\cap=jw:=by simpa using e'
   rw[Wv] at y0 hky;have y0':=(hbl.cell (p:=⟨b,off+m * 3,none⟩) (by show b<_;omega)).trans y0
   have hmI:(m:Int)<(aj.length:Int):=by omega
   obtain⟨r0',r1'⟩:=lY hrr;clear y0 e' hcell r0 r1 x2' hnr i1;generalize nX ah u (its.take j) ⟨0,[],-1⟩=a at hrow hst |-;have HST:=ay hst;clear hst
   cases hpn:it.plain with
   | true =>
    obtain⟨k5,k6⟩:=it.Sd hpn;rw[<- hkx] at k5 k6;generalize x.kind=kx at y0' k5 k6
    have t5:(kx == 5)=false:=by rw[<- vM,beq_iff_eq];exact k5
    have t6:(kx == 6)=false:=by rw[<- vM,beq_iff_eq];exact k6
    have HSP:=ay (It.Sg (ah:=ah) (u:=v) hpn a);clear hpn k5 k6 hkx hrep hmem hend;go_wp2
    go_roundw
    case rel =>
     have e1:=HST.out;rw[HSP.out] at e1;refine⟨j+1,ao,cc,by omega,by go_num,?_⟩;rw[e1];exact⟨rfl,rfl,rfl,hrow,hbl,hrr⟩
    case measure=>simp[intOf];omega
   | false =>
    cases it with
    | leaf=>cases hpn
    | par t=>cases hpn
    | expr e=>cases hpn
    | base =>
     obtain⟨ks2,hn2,hr2⟩:=fD (show oH aj m v (.node 5 [.leaf]) from hrep)
     obtain rfl:x=⟨(5:Nat),-1,ks2⟩:=by rw[hnx] at hn2;exact lG hn2
     obtain⟨k0,ks',rfl,hl0,hr3⟩:=bX hr2;rw[fP] at hr3;subst hr3
     have hv:v<ah.length:=by simp only[It.pt,PT.lv,bU] at hend;omega
     have hbt:=HBS.out v hmem;have hpv:=HPL.out v
     have hK:=λW hT hW=>kP B (.slice a1 ah.length c1) (.slice (some ⟨b,off,none⟩) aj.length cap) ah aj k0 v W hT hW hl0 hv
     have htk:ah[v]=dx ah v:=by have:=jL hv;rw[AY hv] at this;exact lG this
     rw[htk] at hK;unfold qw fC at hK;have IL:=HST.out;unfold It.step at IL;unfold aP dU at IL hpv;unfold aP at hbt;generalize dx ah v=t at hK IL hbt hpv;obtain⟨tk,tl,tt,tp⟩:=t;simp only at hK IL hbt hpv y0' hky;have HS2:=ay IL;obtain⟨ak2,ck2,rfl,_,yE⟩:=hky.form;obtain⟨b2,o2,rfl,hb2,hkc⟩:=yE (by simp);have z0:=(hbl.cell (p:=⟨b2,o2+0,none⟩) (by show b2<_;omega)).trans (hkc 0 (by simp));have y2':=(hbl.cell (p:=⟨b,off+m * 3+2,none⟩) (by show b<_;omega)).trans y2;simp only[nZ,List.getElem_cons_zero,fu,jC,Nat.zero_add] at z0 y2';have HK:=ay (λW (hb:Below wr.heap.size wr W)=>(hK W (HT.out.below ((hbl.trans (hb.mono hz)).mono hB)) (by have:=hb.size;omega)).mono (R':=λe w'=>e=.returned (.agg #[.int .i64 tk,.string ⟨tl.toArray⟩,.string ⟨tt.toArray⟩,.int .i64 tp])/\Below wr.heap.size wr w'/\Below W.heap.size W w') λe w' h=>⟨h.1,hb.trans (h.2.mono hb.size),h.2⟩);clear hK IL HST hpn hkx hrep hmem hend hn2 hr2 hl0 hky yE hkc y2 htk hnx Wv
     go_upto_region 7 with fail
     go_cut [9] (λp wc=>∃ X:Nat,p=.pointer (some ⟨X,0,none⟩)/\wc.heap[X]?=some (.cells #[.int .i64 tk,.string ⟨tl.toArray⟩,.string ⟨tt.toArray⟩,.int .i64 tp] 159 (0,0))/\Below wr.heap.size wr wc)
     case first =>
      go_region_held3 (λw'=>w'.cell? ⟨w.heap.size,0,none⟩=some (.slice a1 ah.length c1)/\w'.cell? ⟨w.heap.size,1,none⟩=some (.slice (some ⟨b,off,none⟩) aj.length cap)/\w'.cell? ⟨b,off+m * 3+2,none⟩=some (.slice (some ⟨b2,o2,none⟩) 1 ck2)/\w'.cell? ⟨b2,o2,none⟩=some (.int .i64 k0))
       (first|go_keep|exact p3|exact⟨(bW w3 wr.heap.size _ _ _ _ (by omega)).trans p3.1,(bW w3 wr.heap.size _ _ _ _ (by omega)).trans p3.2.1,(bW w3 wr.heap.size _ _ _ _ (by omega)).trans p3.2.2.1,(bW w3 wr.heap.size _ _ _ _ (by omega)).trans p3.2.2.2⟩)
       (first|(go_at_call 68;refine(HK.out _ ?_).mono ?_;(first|exact(bQ _ _).drew|exact((bQ _ _).alloc (bD _) _).drew);rintro e w3 ⟨rfl,hq3,hb3⟩;have p3:=gy (jo hq3 r0') (gy (jo hq3 r1') (gy (jo hq3 y2') (jo hq3 z0)));try (have Gs:=(hb3.block wr.heap.size (by simp)).trans (aX wr (.cells #[.int .i64 0,.string ⟨#[]⟩,.string ⟨#[]⟩,.int .i64 0] 159));obtain⟨ZG,ZH,ZI,ZJ,ZL⟩:=o9 Gs)))
      ·clear r0' r1' y2' z0 p3
       go_wp2_with fail
       go_meet
       exact⟨w3.heap.size,rfl,aX _ _,hq3.alloc hq3.size _⟩
      ·obtain⟨S3,So,_⟩:=za Gs (.int .i64 tk) (.string ⟨tl.toArray⟩) (.string ⟨tt.toArray⟩) (.int .i64 tp)
       clear r0' r1' y2' z0 p3 ZG ZH ZI ZJ ZL;go_wp2_with fail
       go_meet
       exact⟨wr.heap.size,rfl,S3,(((hq3.setCell (bD _) _).setCell (bD _) _).setCell (bD _) _).setCell (bD _) _⟩
     case rest =>
      obtain⟨X,rfl,hX,hbc⟩:=hcut;have UZ:=(hbc.block w.heap.size hlt).trans hrr;have hrow2:=hrow.frame (aW.of hbc);have acU:=hbl.trans (hbc.mono hz);obtain⟨f2,f3⟩:=uV hX;clear r0' r1' y2' z0 HK hX hbc;simp only[nY,List.not_mem_nil,or_false] at hbt
      rcases hbt with rfl|rfl
      ·simp only[Iu,fu,jC] at hpv f2
       go_wp2
       go_roundw
       case rel =>
        have e1:=HS2.out;rw[aU (by decide)] at e1;refine⟨j+1,ao,cc,by omega,by go_num,?_⟩;rw[e1];exact⟨rfl,rfl,by simp[Iu],hrow2,acU,UZ⟩
       case measure=>simp[intOf];omega
      ·simp only[vG,fu,jC] at hpv f2
       go_wp2
       go_roundw
       case rel =>
        have e1:=HS2.out;rw[bR rfl] at e1;refine⟨j+1,ao,cc,by omega,by go_num,?_⟩;rw[e1];exact⟨rfl,rfl,by simp[vG],hrow2,acU,UZ⟩
       case measure=>simp[intOf];omega
    | cl e =>
     obtain⟨ks2,hn2,hr2⟩:=fD (show oH aj m v (.node 6 [.leaf,e.pt,.leaf]) from hrep)
     obtain rfl:x=⟨(6:Nat),-1,ks2⟩:=by rw[hnx] at hn2;exact lG hn2
     obtain⟨k0,ks3,rfl,_,hr3⟩:=bX hr2;obtain⟨k1,ks4,rfl,hl1,hr4⟩:=Gv hr3;obtain⟨k2,ks5,rfl,_,hr5⟩:=bX hr4;rw[fP] at hr5;subst hr5;have IL:nX ah u (its.take (j+1)) ⟨0,[],-1⟩=⟨a.base,[e.pe ah (v+1)],-1⟩:=HST.out
     have hX:=λW (hb:Below wr.heap.size wr W)=>(HE.out e v hmem k1 W hl1 (HT.out.below ((hbl.trans (hb.mono hz)).mono hB)) (by have:=hb.size;omega)).mono λ_ _ h=>h.s
     generalize e.pe ah (v+1)=xe at IL hX;have HX:=ay hX;have HS2:=ay IL;simp only at y0' hky;obtain⟨ak2,ck2,rfl,_,yE⟩:=hky.form;obtain⟨b2,o2,rfl,hb2,hkc⟩:=yE (by simp);have z1:=(hbl.cell (p:=⟨b2,o2+1,none⟩) (by show b2<_;omega)).trans (hkc 1 (by simp));have y2':=(hbl.cell (p:=⟨b,off+m * 3+2,none⟩) (by show b<_;omega)).trans y2;simp only[List.getElem_cons_zero,H9,fu,jC,Nat.zero_add] at z1 y2';clear hX IL HST hpn hkx hrep hmem hend hn2 hr2 hr3 hr4 hl1 hky yE hkc y2 hnx Wv
     go_upto_region 13 with fail
     go_region_held3 (λw'=>w'.cell? ⟨w.heap.size,0,none⟩=some (.slice a1 ah.length c1)/\w'.cell? ⟨w.heap.size,1,none⟩=some (.slice (some ⟨b,off,none⟩) aj.length cap)/\w'.cell? ⟨b,off+m * 3+2,none⟩=some (.slice (some ⟨b2,o2,none⟩) 3 ck2)/\w'.cell? ⟨b2,o2+1,none⟩=some (.int .i64 k1))
      (first|go_keep|exact p3)
      (first|(go_at_call 116;refine(HX.out _ ((bQ _ _).drew)).mono ?_;rintro e w3 ⟨am,wn,cm,ae,ce,rfl,hxe,hb3⟩;have hq3:Below wr.heap.size wr w3:=(bQ wr.heap.size wr).drew.trans hb3;have p3:=gy (jo hq3 r0') (gy (jo hq3 r1') (gy (jo hq3 y2') (jo hq3 z1)))))
     have hw3:=hq3.size;have hone:=row_one (P:=λb=>w.heap.size<=b) (w:=w3) (T:=60) (hxe.imp (λb hb _=>by have:wr.drew.heap.size=wr.heap.size:=rfl;omega)) (by omega);have hbb:=hq3.alloc hq3.size (.cells #[.int .i64 xe.op,.string ⟨xe.name.toArray⟩,.string ⟨xe.module.toArray⟩,.bool (decide (xe.num<0)),.slice am wn cm,.bool xe.yes,.slice ae xe.aB.length ce,.int .i64 xe.at_] 60);have UZ:=(hbb.block w.heap.size hlt).trans hrr;have acU:=hbl.trans (hbb.mono hz);clear r0' r1' y2' z1 p3 HX hxe hb3 hq3 hbb;go_wp2
     go_roundw
     case rel =>
      have e1:=HS2.out;refine⟨j+1,some ⟨w3.heap.size,0,none⟩,1,by omega,by go_num,?_⟩;rw[e1];exact⟨rfl,rfl,rfl,hone,acU,UZ⟩
     case measure=>simp[intOf];omega
  ·have:j=ks.length:=by omega
   subst this;have hti:its.take ks.length=its:=Ba (by have:=HLK.out;rw[uf] at this;omega);rw[hti] at hrow |-;have Ij:decide ((ks.length:Int)<(ks.length:Int))=false:=dX (by omega);generalize hta:nX ah u its ⟨0,[],-1⟩=a at hrow |-;have HTA:=ay hta;clear hta;go_wp2;refine nI (v:=.tuple #[.int .i64 a.base,.slice ao a.aC.length cc,.int .i64 a.bare]) (by simp[results,Tryz.results114,go_sem]) rfl ?_;rw[HTA.out];exact⟨ao,cc,rfl,hrow,hbl⟩
def Si (f:FF)(w:World)(e:Ending)(w':World):Prop:=∃ ao cap,e=.returned (.agg #[.string ⟨f.name.toArray⟩,.int .i64 f.base,.slice ao f.aC.length cap,.int .i64 f.at_,.int .i64 f.bare])/\RowK (EK XA) (λb=>w.heap.size<=b) w' (.slice ao f.aC.length cap) f.aC/\Below w.heap.size w w'
theorem uh {c4:Value}(h:w.heap[b]?=some (.cells #[c0,c1,c2,c3,c4] 103 (0,0))):w.cell? ⟨b,0,none⟩=some c0/\w.cell? ⟨b,1,none⟩=some c1/\w.cell? ⟨b,2,none⟩=some c2/\w.cell? ⟨b,3,none⟩=some c3/\w.cell? ⟨b,4,none⟩=some c4/\∀ j,w.frozen? ⟨b,j,none⟩=false:=by
 refine⟨?_,?_,?_,?_,?_,λj=>by simp[World.frozen?,h]⟩<;>(rw[aZ h];rfl)
theorem Sj (B:Nat)(tv nv:Value)(ah:List Tok)(aj:List Nd)(i kd:Nat)(ks:List Int)(w:World)(h:bJ B w (.agg #[tv,nv]) ah aj)(hB:B<=w.heap.size)(hn:aj[i]?=some ⟨(kd:Nat),-1,ks⟩)
  (k0 u0:Nat) (hq0:ks[0]?=some (k0:Int)) (hl0:aj[k0]?=some ⟨19,(u0:Nat),[]⟩) (hu0:u0<ah.length) (a:Zy)
  (hA:∀ W:World,bJ B W (.agg #[tv,nv]) ah aj->B<=W.heap.size->Calls Tryz.prog 114 #[.agg #[tv,nv],.int .i64 i] W (LJ a W)) :
  Calls Tryz.prog 115 #[.agg #[tv,nv],.int .i64 i] w (Si ⟨aP ah u0,a.base,a.aC,dU ah u0,a.bare⟩ w):=by
 have hK:=λW hT hW=>kP B tv nv ah aj k0 u0 W hT hW hl0 hu0
 have htk:ah[u0]=dx ah u0:=by have:=jL hu0;rw[AY hu0] at this;exact lG this
 rw[htk] at hK;unfold qw fC at hK;unfold aP dU;generalize dx ah u0=t at hK |-;obtain⟨tk,tl,tt,tp⟩:=t;simp only at hK |-;have HK:=ay hK;have HA:=ay hA;obtain⟨hp0,ZM⟩:=pE hq0;obtain⟨hi,hni⟩:=pE hn;have HT:=ay h;obtain⟨a1,c1,_,_,e⟩:=h.slices;obtain⟨b,off,cap,kv,rfl,hb,x0,x1,x2,hkv⟩:=h.node hi
 obtain⟨rfl,-⟩:tv=.slice a1 ah.length c1/\_:=by simpa using e
 rw[hni] at hkv;simp only at hkv;obtain⟨ak,ck,rfl,_,yE⟩:=hkv.form;obtain⟨bk,ok,rfl,hbk,hkc⟩:=yE (by omega);have hz:=hkc 0 hp0;rw[ZM,nZ] at hz;clear e hkv yE hkc hn hni x0 x1 hK htk hA hl0 ZM;have cO:=((bQ w.heap.size w).alloc (bD _) (.cells #[.slice a1 ah.length c1,.slice (some ⟨b,off,none⟩) aj.length cap] 154)).alloc (by simp) (.cells #[.string ⟨#[]⟩,.int .i64 0,.slice none 0 0,.int .i64 0,.int .i64 0] 103);have X2:=jo cO x2;have Z2:=jo cO hz;have g0:=(gZ _ (.cells #[.string ⟨#[]⟩,.int .i64 0,.slice none 0 0,.int .i64 0,.int .i64 0] 103) w.heap.size (by simp)).trans (aX w (.cells #[.slice a1 ah.length c1,.slice (some ⟨b,off,none⟩) aj.length cap] 154));have g1:=aX (w.alloc (.cells #[.slice a1 ah.length c1,.slice (some ⟨b,off,none⟩) aj.length cap] 154)) (.cells #[.string ⟨#[]⟩,.int .i64 0,.slice none 0 0,.int .i64 0,.int .i64 0] 103);rw[nG] at g1
 have hiI:(i:Int)<(aj.length:Int):=by omega
 have ahW:(0:Int)<(ks.length:Int):=by omega
 clear h x2 hz;go_enter Tryz.func115,Tryz.ntmps115
 go_upto_region 1 with (fail)
 generalize (w.alloc _).alloc _=w2 at g0 g1 cO X2 Z2 |-;obtain⟨r0,r1⟩:=lY g0;have hz2:=cO.size;have ZE:=ay (λW (hb:Below w2.heap.size w2 W)=>(HK.out W (HT.out.below ((cO.trans (hb.mono hz2)).mono hB)) (by have:=hb.size;omega)).mono (R':=λe w'=>e=.returned (.agg #[.int .i64 tk,.string ⟨tl.toArray⟩,.string ⟨tt.toArray⟩,.int .i64 tp])/\Below w2.heap.size w2 w'/\Below W.heap.size W w') λe w' h=>⟨h.1,hb.trans (h.2.mono hb.size),h.2⟩);have hlt2:w.heap.size+1<w2.heap.size:=(bP g1).1
 go_cut [5] (λp wc=>∃ X:Nat,p=.pointer (some ⟨X,0,none⟩)/\wc.heap[X]?=some (.cells #[.int .i64 tk,.string ⟨tl.toArray⟩,.string ⟨tt.toArray⟩,.int .i64 tp] 159 (0,0))/\Below w2.heap.size w2 wc)
 case first =>
  go_region_held3 (λw'=>w'.cell? ⟨w.heap.size,0,none⟩=some (.slice a1 ah.length c1)/\w'.cell? ⟨w.heap.size,1,none⟩=some (.slice (some ⟨b,off,none⟩) aj.length cap)/\w'.cell? ⟨b,off+i * 3+2,none⟩=some (.slice (some ⟨bk,ok,none⟩) ks.length ck)/\w'.cell? ⟨bk,ok,none⟩=some (.int .i64 k0))
   (first|go_keep|exact p3|exact⟨(bW w3 w2.heap.size _ _ _ _ (by omega)).trans p3.1,(bW w3 w2.heap.size _ _ _ _ (by omega)).trans p3.2.1,(bW w3 w2.heap.size _ _ _ _ (by omega)).trans p3.2.2.1,(bW w3 w2.heap.size _ _ _ _ (by omega)).trans p3.2.2.2⟩)
   (first|(go_at_call 68;refine(ZE.out _ ?_).mono ?_;(first|exact(bQ _ _).drew|exact((bQ _ _).alloc (bD _) _).drew);rintro e w3 ⟨rfl,hq3,hb3⟩;have p3:=gy (jo hq3 r0) (gy (jo hq3 r1) (gy (jo hq3 X2) (jo hq3 Z2)));try (have Gs:=(hb3.block w2.heap.size (by simp)).trans (aX w2 (.cells #[.int .i64 0,.string ⟨#[]⟩,.string ⟨#[]⟩,.int .i64 0] 159));obtain⟨ZG,ZH,ZI,ZJ,ZL⟩:=o9 Gs)))
  ·clear r0 r1 X2 Z2 p3
   go_wp2_with fail
   go_meet
   exact⟨w3.heap.size,rfl,aX _ _,hq3.alloc hq3.size _⟩
  ·obtain⟨S3,So,_⟩:=za Gs (.int .i64 tk) (.string ⟨tl.toArray⟩) (.string ⟨tt.toArray⟩) (.int .i64 tp)
   clear r0 r1 X2 Z2 p3 ZG ZH ZI ZJ ZL;go_wp2_with fail
   go_meet
   exact⟨w2.heap.size,rfl,S3,(((hq3.setCell (bD _) _).setCell (bD _) _).setCell (bD _) _).setCell (bD _) _⟩
 case rest =>
  obtain⟨X,rfl,hX,hbc⟩:=hcut
  obtain⟨w4,rfl⟩:∃ w4:World,w4=wc:=⟨_,rfl⟩
  have G0:=(hbc.block w.heap.size (by omega)).trans g0;have G1:=(hbc.block (w.heap.size+1) hlt2).trans g1;have hb4:Below w.heap.size w w4:=cO.trans (hbc.mono hz2);have BJ:=hbc.size;obtain⟨f2,f3⟩:=uV hX;clear g0 g1 cO X2 Z2 r0 r1 HK ZE hbc hX
  go_upto_region 3 with fail
  have Gt:=aA w4 (.cells #[.string ⟨tt.toArray⟩,.int .i64 0,.slice none 0 0,.int .i64 tp,.int .i64 0] 103);have P5:=aX w4 (.cells #[.string ⟨tt.toArray⟩,.int .i64 0,.slice none 0 0,.int .i64 tp,.int .i64 0] 103);have H0:=(Gt.block w.heap.size (by omega)).trans G0;have H1:=(Gt.block (w.heap.size+1) (by omega)).trans G1;have hb5:=hb4.trans (Gt.mono hb4.size);have Tk:=Gt.size;clear G0 G1 Gt hb4 f2 f3;generalize hpb:w4.heap.size=pb at P5 BJ Tk |-;generalize w4.alloc _=w5 at P5 H0 H1 hb5 Tk |-;obtain⟨r0,r1⟩:=lY H0;have HAW:=ay (HA.out w5 (HT.out.below (hb5.mono hB)) (jq hB hb5.size));go_wp2_with (go_at_call 114;refine HAW.out.mono ?_);rintro e w6 ⟨ao,cc,rfl,hrow,hb6⟩;have Q5:=(hb6.block pb (bP P5).1).trans P5;have Q1:=(hb6.block (w.heap.size+1) (bP H1).1).trans H1
  have hne:w.heap.size+1≠pb:=by omega
  have tJ:=(bP P5).1;obtain⟨q0,q1,q2,q3,q4,qz⟩:=uh Q5;have Ww:Below w.heap.size w w6:=hb5.trans (hb6.mono hb5.size);clear r0 r1 HAW P5 H0 H1
  go_upto_region 4 with fail
  have T1:=jN w6 pb 1 _ _ (.int .i64 a.base) Q5;have T2:=jN _ pb 2 _ _ (.slice ao a.aC.length cc) T1;have T3:=jN _ pb 4 _ _ (.int .i64 a.bare) T2
  have U3:(((w6.setCell ⟨pb,1,none⟩ (.int .i64 a.base)).setCell ⟨pb,2,none⟩ (.slice ao a.aC.length cc)).setCell ⟨pb,4,none⟩ (.int .i64 a.bare)).heap[w.heap.size+1]?=some (.cells #[.string ⟨#[]⟩,.int .i64 0,.slice none 0 0,.int .i64 0,.int .i64 0] 103 (0,0)):=by
   rw[qm _ _ _ _ hne,qm _ _ _ _ hne,qm _ _ _ _ hne];exact Q1
  have hle:w.heap.size<=pb:=by omega
  have Lx:Below w.heap.size w (((w6.setCell ⟨pb,1,none⟩ (.int .i64 a.base)).setCell ⟨pb,2,none⟩ (.slice ao a.aC.length cc)).setCell ⟨pb,4,none⟩ (.int .i64 a.bare)):=((Ww.setCell hle _).setCell hle _).setCell hle _
  have hs:∀ (W:World) (j:Nat) (u:Value),aW (λb=>w5.heap.size<=b) W (W.setCell ⟨pb,j,none⟩ u):=λW j u=>aW.set u λb hb=>by show b≠pb;omega
  have adt:=hrow.frame (((hs w6 1 (.int .i64 a.base)).trans (hs _ 2 (.slice ao a.aC.length cc))).trans (hs _ 4 (.int .i64 a.bare)));have T4:(((w6.setCell ⟨pb,1,none⟩ (.int .i64 a.base)).setCell ⟨pb,2,none⟩ (.slice ao a.aC.length cc)).setCell ⟨pb,4,none⟩ (.int .i64 a.bare)).heap[pb]?=some (.cells #[.string ⟨tt.toArray⟩,.int .i64 a.base,.slice ao a.aC.length cc,.int .i64 tp,.int .i64 a.bare] 103 (0,0)):=T3;clear T1 T2 T3 Q5 Q1 q0 q1 q2 q3 q4 qz hrow Ww hb6 hs;generalize ((w6.setCell _ _).setCell _ _).setCell _ _=w7 at T4 U3 Lx adt |-;obtain⟨q0,q1,q2,q3,q4,qz⟩:=uh T4;obtain⟨s0,s1,s2,s3,s4,sz⟩:=uh U3;go_wp2;refine nI (v:=.agg #[.string ⟨tt.toArray⟩,.int .i64 a.base,.slice ao a.aC.length cc,.int .i64 tp,.int .i64 a.bare]) (by simp[results,Tryz.results115,go_sem,s0,s1,s2,s3,s4]) rfl ⟨ao,cc,rfl,?_,?_⟩
  ·have hs2:∀ (W:World) (j:Nat) (u:Value),aW (λb=>w5.heap.size<=b) W (W.setCell ⟨w.heap.size+1,j,none⟩ u):=λW j u=>aW.set u λb hb=>by show b≠w.heap.size+1;omega
   exact(adt.frame (((((hs2 _ _ _).trans (hs2 _ _ _)).trans (hs2 _ _ _)).trans (hs2 _ _ _)).trans (hs2 _ _ _))).imp λb hb _=>by omega
  ·exact((((Lx.setCell (by simp) _).setCell (by simp) _).setCell (by simp) _).setCell (by simp) _).setCell (by simp) _
def qL {α β:Type}(K:RK α β)(Q:Nat->Prop)(C e:Nat)(w:World)(v:Value)(zs:List α):Prop :=
 ∃ l:List (α × β),l.map Prod.fst=zs/\w.ownsRow C e K.sz v zs.length (K.flat l)/\∀ p∈l,K.inn (λb=>Q b/\some b≠v.ownBlock) w p.1 p.2
section
variable {α β:Type}
theorem qL.nil (K:RK α β)(Q:Nat->Prop)(C e:Nat)(w:World):qL K Q C e w (.slice none 0 0) []:=⟨[],rfl,World.ownsRow_nil _ _ _ _,λp hp=>by cases hp⟩
theorem qL.set {K:RK α β}{Q:Nat->Prop}{C e:Nat}{w:World}{v:Value}{zs:List α}(h:qL K Q C e w v zs){a:Addr}(ha:a.block<C)(hq:¬ Q a.block)(u:Value):qL K Q C e (w.setCell a u) v zs:=by
 obtain⟨l,h1,h2,h3⟩:=h;refine⟨l,h1,iO h2 (λq=>?_) u,λp hp=>K.frame (h3 p hp) (aW.set u λb hb=>λq=>hq (by rw[<- q];exact hb.1))⟩;have:=(h2.lt a.block q.symm).1;omega
theorem qL.row {K:RK α β}{R:Nat->Prop}{v:Value}{zs:List α}(h:qL K Q C e w v zs)(hR:∀ b,C<=b->R b)(hQ:∀ b,Q b->b<w.heap.size->R b):RowK K R w v zs:=by
 obtain⟨l,h1,h2,h3⟩:=h;exact⟨l,h1,oJ.fQ h2 hR,λp hp=>K.imp (h3 p hp) λb hb hl=>hQ b hb.1 hl⟩
theorem qL.snoc {K:RK α β}{w':World}{kv':Value}{zs:List α}{a:α}{x:β}{g H:Nat}{l:List (α × β)}(h1:l.map Prod.fst=zs)(h2:∀ p∈l,K.inn (λb=>Q b/\some b≠kv.ownBlock) w p.1 p.2)(hx:K.inn (λb=>Q b/\some b≠kv.ownBlock) w a x)
  (hown:w'.ownsRow C e K.sz kv' (zs.length+1) (K.flat l++K.cells a x)) (hgrow:w.grownBy w' kv.ownBlock) (hv:kv'.ownBlock=some g) (hor:kv.ownBlock=some g\/g=H) (hH:w.heap.size<=H):qL K Q C e w' kv' (zs++[a]):=by
 have himp:∀ b,(Q b/\some b≠kv.ownBlock)->b<w.heap.size->((Q b/\some b≠kv'.ownBlock)/\some b≠kv.ownBlock):=λb hb hlt=>by
  refine⟨⟨hb.1,λq=>?_⟩,hb.2⟩;rw[hv] at q;simp only[Option.some.injEq] at q
  rcases hor with h|h
  ·exact hb.2 (by rw[h,q])
  ·omega
 have hall:∀ {a:α} {x:β},K.inn (λb=>Q b/\some b≠kv.ownBlock) w a x->K.inn (λb=>Q b/\some b≠kv'.ownBlock) w' a x:=λh =>
  K.imp (K.frame (K.imp h himp) (aW.grown hgrow λb hb=>hb.2)) λb hb _=>hb.1
 refine⟨l++[(a,x)],by rw[xZ,h1];rfl,?_,λp hp=>?_⟩
 ·rw[K.Vs,bY,List.length_singleton];exact hown
 ·rcases List.mem_append.1 hp with hp|hp
  ·exact hall (h2 p hp)
  ·rw[Ia] at hp
   subst hp;exact hall hx
theorem qL.round {K:RK α β}{be:Nat}{w1 wr W2 w5:World}{o:Obj}{Tp:Value}{acc:List α}{a:α}{x:β}{l:List (α × β)}{gg:Nat}(dD:aW (λb=>b<w1.heap.size/\b≠be) w1 wr)(hbe:be<w1.heap.size)(hQ:¬ Q be)
  (h1:l.map Prod.fst=acc) (hown:wr.ownsRow w1.heap.size e K.sz kv acc.length (K.flat l)) (hes:∀ p∈l,K.inn (λb=>Q b/\some b≠kv.ownBlock) wr p.1 p.2) (hx:K.inn (λb=>Q b/\some b≠kv.ownBlock) W2 a x) (hb2:Below wr.heap.size wr W2)
  (gB:w5.ownsRow w1.heap.size e K.sz Tp (acc.length+1) (K.flat l++K.cells a x)) (hgrow:(W2.alloc o).grownBy w5 kv.ownBlock) (hv5:Tp.ownBlock=some gg) (hat:kv.ownBlock=some gg\/gg=W2.heap.size+1) (off:Nat) (u:Value) :
  qL K Q w1.heap.size e (w5.setCell ⟨be,off,none⟩ u) Tp (acc++[a])/\aW (λb=>b<w1.heap.size/\b≠be) w1 (w5.setCell ⟨be,off,none⟩ u)/\∀ (B:Nat) (w0:World),B<=be->Below B w0 wr->Below B w0 (w5.setCell ⟨be,off,none⟩ u):=by
 have hz1:=dD.1;have hz2:=hb2.size;have hb3:Below wr.heap.size wr (W2.alloc o):=hb2.alloc hz2 _
 have hlt:∀ b,some b=kv.ownBlock->w1.heap.size<=b/\b<wr.heap.size:=λb q=>⟨(hown.lt b q.symm).1,(hown.lt b q.symm).2⟩
 have hx2:K.inn (λb=>Q b/\some b≠kv.ownBlock) (W2.alloc o) a x:=K.frame hx ⟨by simp,λb _ hb=>gZ _ _ _ hb⟩;have hrow:=qL.snoc (K:=K) (w:=W2.alloc o) h1 (λp hp=>K.frame (hes p hp) (aW.of hb3)) hx2 gB hgrow hv5 hat (by simp);refine⟨hrow.set hbe hQ u,?_,λB w0 hB hb0=>?_⟩
 ·refine((dD.trans (aW.rV hb3 λb hb=>by omega)).trans (aW.grown hgrow λb hb q=>?_)).trans (aW.set u λb hb=>hb.2)
  have:=(hlt b q).1;omega
 ·have hsz:=hb0.size
  exact((hb0.trans (hb3.mono (by omega))).grown hgrow (by simp;omega) (λb q=>by have:=(hlt b q.symm).1;omega)).setCell hB _
end
variable{S:aH}{d:Nat}
theorem Gy (h:dQ S=.ok ah)(u:Nat):(aP ah u).length<=S.length:=by
 have hL:=iZ h;have hm:=wL hL.some u;obtain⟨i,hi,e⟩:=List.mem_iff_getElem.1 hm;have h1:=congrArg List.length (hL.text i hi);rw[pK,yL] at h1;unfold aP;rw[<- e];omega
theorem OO {t:PT}(hl:dQ S=.ok ah)(he:aj=t.em 0 0)(hw:t.wf)(hlv:t.lv=ah.length)(hn:aj.length<=2 * ah.length+2):FX ah aj (t.dump ah 0):=by
 have hs:S.length<=65536:=by
  unfold dQ at hl
  split at hl
  ·cases hl
  ·omega
 have hL:=iZ hl;have hc:=hL.count
 have hnd:aj.length=t.nd:=by rw[he,PT.uI]
 have hnp:=t.iF
 have hM:∀ u,(aP ah u).length<=65536:=λu=>jq (Gy hl u) hs
 have hdl:=JE hM t 0 hw;refine⟨by omega,by omega,λn hm=>?_,by omega,?_,?_,?_,?_,λn hm=>?_,λn hm h19=>?_⟩
 ·rw[he] at hm
  have:=KT _ _ _ n hm;omega
 ·rw[he];exact XL _ hw _ hlv
 ·rw[hnd,he,UM _ hw (by omega),hlv]
 ·rw[hnd,he];exact ab5 ah _ hw (by omega)
 ·have:t.nd * (65536+16)<=200000 * (65536+16):=Nat.mul_le_mul_right _ (by omega)
  omega
 ·rw[he] at hm
  exact(FH _ _ _ hw n hm).1
 ·rw[he] at hm
  have:=(FH _ _ _ hw n hm).2 h19;omega
structure uj (S:aH) (ah:List Tok) (aj:List Nd) (p:l6):Prop where
 small:S.length<=65536
 adu:dQ S=.ok ah
 OP:aj=p.pt.em 0 0
 okk:p.ok ah
 lv:p.pt.lv=ah.length
 count:ah.length<=S.length+1
 nd:p.pt.nd<=2 * ah.length
 good:FX ah aj (p.pt.dump ah 0)
 whole:iE ah=S
 deep:ji S 200=.good ah aj
 fits:(p.pp ah).all (PE.fits (S.length+1))
 told:(p.pp ah).all PE.told
 few:(p.pp ah).all λe=>e.mY<=p.pt.nd
 ZO:(p.pp ah).small (S.length+1)
theorem Sk (hd:d<=200)(h:ji S d=.good ah aj):∃ p,uj S ah aj p/\p.marks ah:=by
 obtain⟨hl,p,he,hok,hlv,hn,hmk⟩:=QW h
 have hs:S.length<=65536:=by
  unfold dQ at hl
  split at hl
  ·cases hl
  ·omega
 have hL:=iZ hl
 have hM:∀ u,(aP ah u).length<=S.length+1:=λu=>Nat.le_succ_of_le (Gy hl u)
 have hN:=sH hl
 have hnd:aj.length=p.pt.nd:=by rw[he,PT.uI]
 refine⟨p,⟨hs,hl,he,hok,hlv,hL.count,by omega,OO hl he p.wf hlv (by omega),hL.MG,Ah hd h,l6.Bz (λcl e u ho _=>CE.fits hL.some hN hM (by omega) e u ho) hok,l6.Bz (λcl e u ho _=>CE.told (yA hl) e u ho) hok,l6.Bz (λcl e u ho hn=>jq (CE.iJ ah e u) hn) hok,l6.NC hM hok⟩,hmk⟩
theorem JY (hd:d<=200)(h:ji S d=.good ah aj):∃ p,uj S ah aj p:=(Sk hd h).imp λ_ q=>q.1
theorem PP.acV {P Q R T:PE->Prop}{p:PP}(h1:p.all P)(h2:p.all Q)(h3:p.all R)(h:∀ e,P e->Q e->R e->T e):p.all T:=λd hd =>
 ⟨λf hf e he=>h e ((h1 d hd).1 f hf e he) ((h2 d hd).1 f hf e he) ((h3 d hd).1 f hf e he),λe he=>h e ((h1 d hd).2.1 e he) ((h2 d hd).2.1 e he) ((h3 d hd).2.1 e he),h _ (h1 d hd).2.2 (h2 d hd).2.2 (h3 d hd).2.2⟩
variable{t:gQ}{d:dV}{tv nv c4 c5 c6 c7 c8 c9 c10 c11 c12 c13 c14:Value}{B j:Nat}{w0:World}
theorem lC:∀ (a b:List It) (u:Nat),dW u (a++b)=dW u a++dW (u+bU (a.map It.pt)) b
 | [],b,u=>by simp[dW,bU]
 | i :: a,b,u=>by rw[pJ,dW,lC a b,dW,lN,bU,vN,pJ]
theorem AO:∀ (l:List It) (u:Nat) (p:It × Nat),p∈dW u l->p.1∈l
 | [],u,p,h=>by cases h
 | i :: l,u,p,h=>by
  rw[dW,nY] at h
  rcases h with rfl|h
  ·exact Cu
  ·exact Dy _ (AO l _ p h)
def It.JZ (ah:List Tok)(v:Nat):It->List FF
 | .par t=>[t.wM ah v]
 | _=>[]
theorem Gz (ah:List Tok)(u:Nat)(i:It):gI ah u [i]=i.JZ ah u:=by
 cases i with
 | par t=>rw[gI,gI];rfl
 | leaf=>rw[gI,gI];rfl;simp
 | base=>rw[gI,gI];rfl;simp
 | expr e=>rw[gI,gI];rfl;simp
 | cl e=>rw[gI,gI];rfl;simp
theorem GA (ah:List Tok):∀ (l:List It) (u:Nat) (j:Nat) (h:j<(dW u l).length),gI ah u (l.take (j+1))=gI ah u (l.take j)++(dW u l)[j].1.JZ ah (dW u l)[j].2
 | [],u,j,h=>absurd h (by simp[dW])
 | i :: l,u,0,h=>by
  rw[List.take_zero,List.take_succ_cons,List.take_zero,Gz];simp[gI,dW]
 | i :: l,u,j+1,h=>by
  have:=GA ah l (u+i.pt.lv) j (by simpa [dW] using h)
  have h1:∀ k:List It,gI ah u (i :: k)=i.JZ ah u++gI ah (u+i.pt.lv) k:=λk=>by
   have:=iC ah [i] k u;rw[Gz] at this
   simpa [bU] using this
  rw[List.take_succ_cons,List.take_succ_cons,h1,h1,this,om];simp only[dW,H9]
theorem GD (ah:List Tok):∀ (l:List It) (u:Nat),(gI ah u l).length<=l.length
 | [],u=>by rw[gI];exact bD _
 | i :: l,u=>by
  have h1:=GD ah l (u+i.pt.lv);have h2:=iC ah [i] l u
  have h3:(i.JZ ah u).length<=1:=by cases i<;>simp[It.JZ]
  rw[Gz] at h2;rw[show i :: l=[i]++l from rfl,h2,bY,bY];simp only[lN,List.map_nil,bU,nZ,fu,jC] at h1 |-;omega
theorem dV.LK (d:dV):bU (d.gJ.map It.pt)=bU d.lead:=by unfold dV.gJ dV.lead;split<;>rfl
theorem dV.ZQ (d:dV)(u:Nat):∃ pre,d.its=pre++[.expr d.body,.leaf]/\u+bU (pre.map It.pt)=d.at3 u:=by
 refine⟨d.gJ++([.leaf,.leaf,.leaf]++(gP d.lX++([.leaf]++(d.ty.its++[.leaf])))),by simp[dV.its],?_⟩;simp only[xZ,jr,d.LK,tZ,d.ty.Gn,lN,List.map_nil,It.pt,bU,PT.lv,dV.at3,dV.at2,dV.FE];omega
theorem dV.aeE (d:dV)(u:Nat):∃ pre post,d.its=pre++(d.ty.its++post)/\u+bU (pre.map It.pt)=d.at2 u/\(∀ i∈pre++post,(i matches .leaf)\/(i matches .par _)\/(i matches .expr _)):=by
 refine⟨d.gJ++([.leaf,.leaf,.leaf]++(gP d.lX++[.leaf])),[.leaf,.expr d.body,.leaf],by simp[dV.its],?_,?_⟩
 ·simp only[xZ,jr,d.LK,tZ,lN,List.map_nil,It.pt,bU,PT.lv,dV.at2,dV.FE]
  omega
 ·intro i hi
  simp only[List.mem_append,nY,List.not_mem_nil,or_false] at hi
  rcases hi with (hi|(hi|hi|hi)|hi|hi)|hi|hi|hi
  ·unfold dV.gJ at hi
   split at hi
   ·rw[Ia] at hi;subst hi;exact .inl rfl
   ·cases hi
  ·subst hi;exact .inl rfl
  ·subst hi;exact .inl rfl
  ·subst hi;exact .inl rfl
  ·exact Gp _ _ hi
  ·subst hi;exact .inl rfl
  ·subst hi;exact .inl rfl
  ·subst hi;exact .inr (.inr rfl)
  ·subst hi;exact .inl rfl
theorem dV.ZR (d:dV)(u:Nat)(p:It × Nat)(h:p∈dW u d.its)(hp:p.1.plain=false):p∈dW (d.at2 u) d.ty.its:=by
 obtain⟨pre,post,e,hl,hn⟩:=d.aeE u
 have hno:∀ q:It × Nat,q.1∈pre++post->q.1.plain=true:=λq hq=>by
  rcases hn _ hq with h|h|h<;>(generalize q.1=x at h |-;cases x<;>simp_all [It.plain])
 rw[e,lC,lC,hl,List.mem_append,List.mem_append] at h
 rcases h with h|h|h
 ·have:=hno p (abp _ (AO _ _ _ h));rw[hp] at this;cases this
 ·exact h
 ·have:=hno p (List.mem_append_right _ (AO _ _ _ h));rw[hp] at this;cases this
theorem gQ.OQ (h:t.ok ah u)(v:Nat)(hv:(It.base,v)∈dW u t.its):aP ah v∈[Iu,vG]:=by
 unfold gQ.its at hv;have h1:=h.1
 cases hc:t.cl with
 | none =>
  rw[hc] at hv;simp only[List.append_nil,dW,It.pt,PT.lv,nY,Prod.mk.injEq,reduceCtorEq,false_and,true_and,List.not_mem_nil,or_false,false_or] at hv;subst hv;exact h1
 | some e =>
  rw[hc] at hv;simp only[pJ,uD,dW,It.pt,PT.lv,nY,Prod.mk.injEq,reduceCtorEq,false_and,true_and,List.not_mem_nil,or_false,false_or] at hv;subst hv;exact h1
theorem gQ.ZT (h:t.ok ah u)(e:CE)(v:Nat)(hv:(It.cl e,v)∈dW u t.its):e.ok ah true (v+1):=by
 unfold gQ.its at hv;have h1:=h.2
 cases hc:t.cl with
 | none =>
  rw[hc] at hv;simp[dW,It.pt,PT.lv] at hv
 | some e' =>
  rw[hc] at hv h1;simp only[pJ,uD,dW,It.pt,PT.lv,bU,nY,Prod.mk.injEq,reduceCtorEq,false_and,It.cl.injEq,List.not_mem_nil,or_false,false_or] at hv;obtain⟨rfl,rfl⟩:=hv;exact h1
theorem Ud {ah:List Tok}:∀ (l:List gQ) (u:Nat) (t:gQ) (v:Nat),zh ah u l->(It.par t,v)∈dW u (gP l)->t.Nt ah v
 | [],u,t,v,_,h=>by rw[gP,dW] at h;cases h
 | [s],u,t,v,ho,h=>by
  rw[gP,dW,dW,Ia] at h;simp only[Prod.mk.injEq,It.par.injEq] at h;obtain⟨rfl,rfl⟩:=h;exact ho.1
 | s :: s' :: l,u,t,v,ho,h=>by
  rw[show gP (s :: s' :: l)=.par s :: .leaf :: gP (s' :: l) from by rw[gP],dW,dW,nY,nY] at h
  rcases h with h|h|h
  ·simp only[Prod.mk.injEq,It.par.injEq] at h
   obtain⟨rfl,rfl⟩:=h;exact ho.1
  ·simp at h
  ·exact Ud (s' :: l) _ t v ho.2 h
theorem aeF (ho:d.ok ah u){v:Nat}(h:(It.par t,v)∈dW u d.its):t.Nt ah v:=by
 have hno:∀ l:List It,(∀ i∈l,¬ (i matches .par _))->∀ x,(It.par t,v) ∉ dW x l:=λl hl x hx=>by
  have:=hl _ (AO _ _ _ hx);simp at this
 rw[dV.its,lC,lC,lC,List.mem_append,List.mem_append,List.mem_append] at h
 rcases h with h|h|h|h
 ·refine absurd h (hno _ (λi hi=>?_) _)
  unfold dV.gJ at hi
  split at hi
  ·rw[Ia] at hi;subst hi;simp
  ·cases hi
 ·refine absurd h (hno _ (λi hi=>?_) _)
  simp only[nY,List.not_mem_nil,or_false,or_self] at hi;subst hi;simp
 ·refine Ud d.lX _ t v ho.2.2.2.2.1 ?_
  have e:u+bU (d.gJ.map It.pt)+bU ([It.leaf,.leaf,.leaf].map It.pt)=d.FE u+3:=by
   rw[d.LK];simp only[lN,List.map_nil,It.pt,bU,PT.lv,dV.FE]
  rw[e] at h;exact h
 ·refine absurd h (hno _ (λi hi=>?_) _)
  unfold gQ.its at hi
  cases hc:d.ty.cl with
  | none =>
   rw[hc] at hi;simp only[List.mem_append,nY,List.not_mem_nil,or_false] at hi
   rcases hi with rfl|(rfl|rfl)|rfl|rfl|rfl<;>simp
  | some e =>
   rw[hc] at hi;simp only[List.mem_append,nY,List.not_mem_nil,or_false] at hi
   rcases hi with rfl|((rfl|rfl)|rfl)|rfl|rfl|rfl<;>simp
theorem It.Sm (i:It)(h:∀ t,i≠.par t):i.pt.kd≠4:=by
 cases i with
 | leaf=>exact(by decide:(19:Int)≠4)
 | par t=>exact absurd rfl (h t)
 | base=>exact show ((5:Nat):Int)≠4 by decide
 | cl e=>exact show ((6:Nat):Int)≠4 by decide
 | expr e =>
  obtain⟨c,la,ea,c1,c2⟩:=e.node;simp only[It.pt,ea,PT.kd];omega
theorem It.Wx (i:It)(ah:List Tok)(v:Nat)(h:∀ t,i≠.par t):i.JZ ah v=[]:=by
 cases i with
 | par t=>exact absurd rfl (h t)
 | _=>rfl
structure RdE (B:Nat) (tv nv:Value) (ah:List Tok) (aj:List Nd):Prop where
 pl:∀ v,dU ah v+(aP ah v).length<=1099511627776
 few:∀ n∈aj,n.aB.length<=1000000
 exprs:∀ (cl:Bool) (e:CE) (u:Nat),e.ok ah cl u->u+e.pt.lv<=ah.length->∀ (k:Nat) (W:World),oH aj k u e.pt->bJ B W (.agg #[tv,nv]) ah aj->B<=W.heap.size->Calls Tryz.prog 116 #[.agg #[tv,nv],.int .i64 k] W (EPost XA (e.pe ah u) W)
theorem Sn (E:RdE B tv nv ah aj)(t:gQ)(v:Nat)(ho:t.Nt ah v)(hl:v+t.par.lv<=ah.length)(i:Nat)(w:World)(hr:oH aj i v t.par)(h:bJ B w (.agg #[tv,nv]) ah aj)(hB:B<=w.heap.size) :
  Calls Tryz.prog 115 #[.agg #[tv,nv],.int .i64 i] w (Si (t.wM ah v) w):=by
 rw[t.Wq] at hr hl;obtain⟨ks,hn,hk⟩:=fD hr
 have hlv:v+bU (t.rF.map It.pt)<=ah.length:=by rw[PT.lv] at hl;exact hl
 have hks:=E.few _ (List.mem_of_getElem? hn);have hk2:=hk;rw[gQ.rF,lN] at hk2;obtain⟨k0,ks',hke,hl0,_⟩:=bX (show fP aj ks v (.leaf :: _) from hk2)
 have hvt:v<ah.length:=by
  rw[gQ.rF,lN,bU] at hlv;simp only[It.pt,PT.lv] at hlv;omega
 have:=Sj B tv nv ah aj i 4 ks w h hB hn k0 v (by rw[hke];rfl) hl0 hvt (nX ah v t.rF ⟨0,[],-1⟩) (λW hT hW =>
  Gx B tv nv ah aj i 4 ks v t.rF W hT hW hn hk hlv hks E.pl (λx hx=>?_) (λe x hx k W' hrk hT' hW'=>?_))
 ·rw[gQ.acR] at this
  exact this
 ·rw[gQ.rF,dW,nY] at hx
  rcases hx with hx|hx
  ·cases hx
  ·exact gQ.OQ ho.2 x hx
 ·have hend:=ug _ _ _ hx
  simp only[It.pt,PT.lv,bU] at hend;rw[gQ.rF,dW,nY] at hx
  rcases hx with hx|hx
  ·cases hx
  ·exact E.exprs true e (x+1) (gQ.ZT ho.2 e x hx) (by omega) k W' hrk hT' hW'
theorem acW (E:RdE B tv nv ah aj)(d:dV)(u:Nat)(ho:d.ok ah u)(ks:List Int)(hlv:u+bU (d.its.map It.pt)<=ah.length)(i:Nat)(hn:aj[i]?=some ⟨(3:Nat),-1,ks⟩)(hk:fP aj ks u (d.its.map It.pt))(w:World)(h:bJ B w (.agg #[tv,nv]) ah aj)(hB:B<=w.heap.size) :
  Calls Tryz.prog 114 #[.agg #[tv,nv],.int .i64 i] w (LJ ⟨(d.dd ah u).res.base,(d.dd ah u).res.aC,(d.dd ah u).res.bare⟩ w):=by
 have hks:=E.few _ (List.mem_of_getElem? hn);have hty:=ho.2.2.2.2.2.1
 have:=Gx B tv nv ah aj i 3 ks u d.its w h hB hn hk hlv hks E.pl (λx hx=>gQ.OQ hty x (d.ZR u _ hx rfl)) (λe x hx k W' hrk hT' hW'=>by
  have hend:=ug _ _ _ hx;simp only[It.pt,PT.lv,bU] at hend
  exact E.exprs true e (x+1) (gQ.ZT hty e x (d.ZR u _ hx rfl)) (by omega) k W' hrk hT' hW')
 rw[d.typ] at this;exact this
structure acX (ah:List Tok) (aj:List Nd) (d:dV) (u:Nat) (ks:List Int):Prop where
 len:ks.length=d.its.length
 many:3<=ks.length
 first:∃ k:Nat,ks[0]?=some (k:Int)/\aj[k]?=some ⟨19,(u:Nat),[]⟩/\u<ah.length
 name:∃ k:Nat,ks[if d.pub=true then 2 else 1]?=some (k:Int)/\aj[k]?=some ⟨19,((d.FE u+1:Nat):Int),[]⟩/\d.FE u+1<ah.length
 body:∃ k:Nat,ks[ks.length - 2]?=some (k:Int)/\oH aj k (d.at3 u) d.body.pt/\d.at3 u+d.body.pt.lv<=ah.length
 pub:(aP ah u=Bt)↔d.pub=true
theorem ZU {ks:List Int}(ho:d.ok ah u)(hlv:u+bU (d.its.map It.pt)<=ah.length)(hk:fP aj ks u (d.its.map It.pt)):acX ah aj d u ks:=by
 obtain⟨hlen,hat⟩:=AL _ _ _ hk
 have hat':∀ (j:Nat) (p:It × Nat),(dW u d.its)[j]?=some p->∃ k:Nat,ks[j]?=some (k:Int)/\oH aj k p.2 p.1.pt/\p.2+p.1.pt.lv<=ah.length:=λj p hp=>by
  obtain⟨h2,e⟩:=pE hp
  have h1:j<ks.length:=by rw[uf] at h2;omega
  have hr:=hat j h1 h2;have hend:=ug _ _ _ (List.mem_of_getElem? hp);rw[e] at hr;have hok:=Cg hr;refine⟨ks[j].toNat,?_,?_,by omega⟩
  ·rw[AY h1];congr 1;omega
  ·have:((ks[j].toNat:Nat):Int)=ks[j]:=by omega
   rw[this];exact hr
 have CV:∀ (j v:Nat),(dW u d.its)[j]?=some (.leaf,v)->∃ k:Nat,ks[j]?=some (k:Int)/\aj[k]?=some ⟨19,(v:Nat),[]⟩/\v<ah.length:=λj v hp=>by
  obtain⟨k,h1,h2,h3⟩:=hat' j _ hp;obtain⟨i,hi,hn⟩:=oH.Qu h2
  obtain rfl:k=i:=by omega
  exact⟨k,h1,hn,by simp only[It.pt,PT.lv] at h3;omega⟩
 obtain⟨pre,e,hp3⟩:=d.ZQ u
 have hne:Ir≠Bt:=by decide
 refine⟨hlen,?_,CV 0 u ?_,CV _ _ ?_,?_,?_⟩
 ·rw[hlen,dV.its];simp;omega
 ·rw[dV.its]
  unfold dV.gJ
  cases d.pub<;>simp[dW]
 ·rw[dV.its]
  unfold dV.gJ dV.FE dV.lead
  cases d.pub<;>simp[dW,It.pt,PT.lv,bU]
 ·have hl:ks.length - 2=(dW u pre).length:=by rw[hlen,e,uf];simp
  rw[hl];obtain⟨k,h1,h2,h3⟩:=hat' (dW u pre).length (.expr d.body,d.at3 u) (by rw[e,lC,hp3];simp[dW]);exact⟨k,h1,h2,h3⟩
 ·constructor
  ·intro h
   cases hd:d.pub with
   | true=>rfl
   | false =>
    have h1:=ho.2.1;unfold dV.FE dV.lead at h1;rw[hd] at h1;simp only[Bool.false_eq_true,if_false,bU,nZ] at h1;rw[h1] at h;exact absurd h hne
  ·exact ho.1
def setAt (b:Nat):Nat->List Value->World->World
 | _,[],w=>w
 | j,v :: l,w=>setAt b (j+1) l (w.setCell ⟨b,j,none⟩ v)
theorem wX {b k:Nat}(hk:k≠b):∀ (l:List Value) (j:Nat) (w:World),(setAt b j l w).heap[k]?=w.heap[k]?
 | [],_,_=>rfl
 | _v :: l,j,_w=>(wX hk l (j+1) _).trans (qm _ _ _ _ hk)
theorem GH {b:Nat}:∀ (l:List Value) (j:Nat) (w:World),(setAt b j l w).heap.size=w.heap.size
 | [],_,_=>rfl
 | v :: l,j,w=>(GH l (j+1) _).trans (by simp)
theorem wY {B b:Nat}{w0:World}(hb:B<=b):∀ (l:List Value) (j:Nat) {w:World},Below B w0 w->Below B w0 (setAt b j l w)
 | [],_,_,h=>h
 | v :: l,j,_,h=>wY hb l (j+1) (h.setCell hb v)
theorem J2 {P:Nat->Prop}(hP:∀ k,P k->k≠b)(l:List Value)(j:Nat)(w:World):aW P w (setAt b j l w):=⟨Nat.le_of_eq (GH l j w).symm,λk hk _=>wX (hP k hk) l j w⟩
theorem GI {i:Nat}(hk:k≠b)(l:List Value)(j:Nat)(w:World):(setAt b j l w).cell? ⟨k,i,none⟩=w.cell? ⟨k,i,none⟩:=yK (a:=⟨k,i,none⟩) (wX hk l j w)
theorem dL (h:w.heap[b]?=some (.cells #[c0,c1,c2,c3,c4,c5,c6,c7,c8,c9,c10,c11,c12,c13,c14] 62 (0,0))):(w.cell? ⟨b,0,none⟩=some c0/\w.cell? ⟨b,1,none⟩=some c1/\w.cell? ⟨b,2,none⟩=some c2/\w.cell? ⟨b,3,none⟩=some c3/\w.cell? ⟨b,4,none⟩=some c4)/\(w.cell? ⟨b,5,none⟩=some c5/\w.cell? ⟨b,6,none⟩=some c6/\w.cell? ⟨b,7,none⟩=some c7/\w.cell? ⟨b,8,none⟩=some c8/\w.cell? ⟨b,9,none⟩=some c9)/\(w.cell? ⟨b,10,none⟩=some c10/\w.cell? ⟨b,11,none⟩=some c11/\w.cell? ⟨b,12,none⟩=some c12/\w.cell? ⟨b,13,none⟩=some c13/\w.cell? ⟨b,14,none⟩=some c14)/\∀ j,w.frozen? ⟨b,j,none⟩=false:=by
 refine⟨⟨?_,?_,?_,?_,?_⟩,⟨?_,?_,?_,?_,?_⟩,⟨?_,?_,?_,?_,?_⟩,λj=>by simp[World.frozen?,h]⟩<;>(rw[aZ h];rfl)
theorem pq (w:World)(b:Nat)(v0 v1 v2 v3 v4 v5 v6 v7 v8 v9 v10 v11 v12 v13 v14:Value)(h:k≠b):(((((((((((((((w.setCell ⟨b,0,none⟩ v0).setCell ⟨b,1,none⟩ v1).setCell ⟨b,2,none⟩ v2).setCell ⟨b,3,none⟩ v3).setCell ⟨b,4,none⟩ v4).setCell ⟨b,5,none⟩ v5).setCell ⟨b,6,none⟩ v6).setCell ⟨b,7,none⟩ v7).setCell ⟨b,8,none⟩ v8).setCell ⟨b,9,none⟩ v9).setCell ⟨b,10,none⟩ v10).setCell ⟨b,11,none⟩ v11).setCell ⟨b,12,none⟩ v12).setCell ⟨b,13,none⟩ v13).setCell ⟨b,14,none⟩ v14).cell? ⟨k,j,none⟩=w.cell? ⟨k,j,none⟩ :=
 GI h [v0,v1,v2,v3,v4,v5,v6,v7,v8,v9,v10,v11,v12,v13,v14] 0 w
theorem GJ {T:TypeId}(h:w.heap[b]?=some (.cells #[c0,c1,c2,c3,c4,c5,c6,c7,c8,c9,c10,c11,c12,c13,c14] T (0,0)))(v0 v1 v2 v3 v4 v5 v6 v7 v8 v9 v10 v11 v12 v13 v14:Value):(((((((((((((((w.setCell ⟨b,0,none⟩ v0).setCell ⟨b,1,none⟩ v1).setCell ⟨b,2,none⟩ v2).setCell ⟨b,3,none⟩ v3).setCell ⟨b,4,none⟩ v4).setCell ⟨b,5,none⟩ v5).setCell ⟨b,6,none⟩ v6).setCell ⟨b,7,none⟩ v7).setCell ⟨b,8,none⟩ v8).setCell ⟨b,9,none⟩ v9).setCell ⟨b,10,none⟩ v10).setCell ⟨b,11,none⟩ v11).setCell ⟨b,12,none⟩ v12).setCell ⟨b,13,none⟩ v13).setCell ⟨b,14,none⟩ v14).heap[b]?=some (.cells #[v0,v1,v2,v3,v4,v5,v6,v7,v8,v9,v10,v11,v12,v13,v14] T (0,0)):=by
 have h1:(w.setCell ⟨b,0,none⟩ v0).heap[b]?=some (.cells #[v0,c1,c2,c3,c4,c5,c6,c7,c8,c9,c10,c11,c12,c13,c14] T (0,0)):=jN _ b 0 _ _ v0 h;generalize w.setCell ⟨b,0,none⟩ v0=x1 at h1 |-;have h2:(x1.setCell ⟨b,1,none⟩ v1).heap[b]?=some (.cells #[v0,v1,c2,c3,c4,c5,c6,c7,c8,c9,c10,c11,c12,c13,c14] T (0,0)):=jN _ b 1 _ _ v1 h1;generalize x1.setCell ⟨b,1,none⟩ v1=x2 at h2 |-;have h3:(x2.setCell ⟨b,2,none⟩ v2).heap[b]?=some (.cells #[v0,v1,v2,c3,c4,c5,c6,c7,c8,c9,c10,c11,c12,c13,c14] T (0,0)):=jN _ b 2 _ _ v2 h2;generalize x2.setCell ⟨b,2,none⟩ v2=x3 at h3 |-;have h4:(x3.setCell ⟨b,3,none⟩ v3).heap[b]?=some (.cells #[v0,v1,v2,v3,c4,c5,c6,c7,c8,c9,c10,c11,c12,c13,c14] T (0,0)):=jN _ b 3 _ _ v3 h3;generalize x3.setCell ⟨b,3,none⟩ v3=x4 at h4 |-;have h5:(x4.setCell ⟨b,4,none⟩ v4).heap[b]?=some (.cells #[v0,v1,v2,v3,v4,c5,c6,c7,c8,c9,c10,c11,c12,c13,c14] T (0,0)):=jN _ b 4 _ _ v4 h4;generalize x4.setCell ⟨b,4,none⟩ v4=x5 at h5 |-;have h6:(x5.setCell ⟨b,5,none⟩ v5).heap[b]?=some (.cells #[v0,v1,v2,v3,v4,v5,c6,c7,c8,c9,c10,c11,c12,c13,c14] T (0,0)):=jN _ b 5 _ _ v5 h5;generalize x5.setCell ⟨b,5,none⟩ v5=x6 at h6 |-;have h7:(x6.setCell ⟨b,6,none⟩ v6).heap[b]?=some (.cells #[v0,v1,v2,v3,v4,v5,v6,c7,c8,c9,c10,c11,c12,c13,c14] T (0,0)):=jN _ b 6 _ _ v6 h6;generalize x6.setCell ⟨b,6,none⟩ v6=x7 at h7 |-;have h8:(x7.setCell ⟨b,7,none⟩ v7).heap[b]?=some (.cells #[v0,v1,v2,v3,v4,v5,v6,v7,c8,c9,c10,c11,c12,c13,c14] T (0,0)):=jN _ b 7 _ _ v7 h7;generalize x7.setCell ⟨b,7,none⟩ v7=x8 at h8 |-;have h9:(x8.setCell ⟨b,8,none⟩ v8).heap[b]?=some (.cells #[v0,v1,v2,v3,v4,v5,v6,v7,v8,c9,c10,c11,c12,c13,c14] T (0,0)):=jN _ b 8 _ _ v8 h8;generalize x8.setCell ⟨b,8,none⟩ v8=x9 at h9 |-;have h10:(x9.setCell ⟨b,9,none⟩ v9).heap[b]?=some (.cells #[v0,v1,v2,v3,v4,v5,v6,v7,v8,v9,c10,c11,c12,c13,c14] T (0,0)):=jN _ b 9 _ _ v9 h9;generalize x9.setCell ⟨b,9,none⟩ v9=x10 at h10 |-
 have h11:(x10.setCell ⟨b,10,none⟩ v10).heap[b]?=some (.cells #[v0,v1,v2,v3,v4,v5,v6,v7,v8,v9,v10,c11,c12,c13,c14] T (0,0)):=jN _ b 10 _ _ v10 h10;generalize x10.setCell ⟨b,10,none⟩ v10=Xj at h11 |-;have h12:(Xj.setCell ⟨b,11,none⟩ v11).heap[b]?=some (.cells #[v0,v1,v2,v3,v4,v5,v6,v7,v8,v9,v10,v11,c12,c13,c14] T (0,0)):=jN _ b 11 _ _ v11 h11;generalize Xj.setCell ⟨b,11,none⟩ v11=Xk at h12 |-;have h13:(Xk.setCell ⟨b,12,none⟩ v12).heap[b]?=some (.cells #[v0,v1,v2,v3,v4,v5,v6,v7,v8,v9,v10,v11,v12,c13,c14] T (0,0)):=jN _ b 12 _ _ v12 h12;generalize Xk.setCell ⟨b,12,none⟩ v12=Xl at h13 |-;have h14:(Xl.setCell ⟨b,13,none⟩ v13).heap[b]?=some (.cells #[v0,v1,v2,v3,v4,v5,v6,v7,v8,v9,v10,v11,v12,v13,c14] T (0,0)):=jN _ b 13 _ _ v13 h13;generalize Xl.setCell ⟨b,13,none⟩ v13=Zu at h14 |-;have h15:(Zu.setCell ⟨b,14,none⟩ v14).heap[b]?=some (.cells #[v0,v1,v2,v3,v4,v5,v6,v7,v8,v9,v10,v11,v12,v13,v14] T (0,0)):=jN _ b 14 _ _ v14 h14;exact h15
theorem wZ (h:Below B w0 w)(hb:B<=b)(v0 v1 v2 v3 v4 v5 v6 v7 v8 v9 v10 v11 v12 v13 v14:Value):Below B w0 (((((((((((((((w.setCell ⟨b,0,none⟩ v0).setCell ⟨b,1,none⟩ v1).setCell ⟨b,2,none⟩ v2).setCell ⟨b,3,none⟩ v3).setCell ⟨b,4,none⟩ v4).setCell ⟨b,5,none⟩ v5).setCell ⟨b,6,none⟩ v6).setCell ⟨b,7,none⟩ v7).setCell ⟨b,8,none⟩ v8).setCell ⟨b,9,none⟩ v9).setCell ⟨b,10,none⟩ v10).setCell ⟨b,11,none⟩ v11).setCell ⟨b,12,none⟩ v12).setCell ⟨b,13,none⟩ v13).setCell ⟨b,14,none⟩ v14) :=
 wY hb [v0,v1,v2,v3,v4,v5,v6,v7,v8,v9,v10,v11,v12,v13,v14] 0 h
theorem zA (w:World)(b:Nat)(v0 v1 v2 v3 v4 v5 v6 v7:Value)(h:k≠b):((((((((w.setCell ⟨b,5,none⟩ v0).setCell ⟨b,6,none⟩ v1).setCell ⟨b,7,none⟩ v2).setCell ⟨b,8,none⟩ v3).setCell ⟨b,9,none⟩ v4).setCell ⟨b,10,none⟩ v5).setCell ⟨b,11,none⟩ v6).setCell ⟨b,12,none⟩ v7).cell? ⟨k,j,none⟩=w.cell? ⟨k,j,none⟩ :=
 GI h [v0,v1,v2,v3,v4,v5,v6,v7] 5 w
theorem Sq {T:TypeId}(h:w.heap[b]?=some (.cells #[c0,c1,c2,c3,c4,c5,c6,c7,c8,c9,c10,c11,c12,c13,c14] T (0,0)))(v0 v1 v2 v3 v4 v5 v6 v7:Value):((((((((w.setCell ⟨b,5,none⟩ v0).setCell ⟨b,6,none⟩ v1).setCell ⟨b,7,none⟩ v2).setCell ⟨b,8,none⟩ v3).setCell ⟨b,9,none⟩ v4).setCell ⟨b,10,none⟩ v5).setCell ⟨b,11,none⟩ v6).setCell ⟨b,12,none⟩ v7).heap[b]?=some (.cells #[c0,c1,c2,c3,c4,v0,v1,v2,v3,v4,v5,v6,v7,c13,c14] T (0,0)):=by
 have h1:(w.setCell ⟨b,5,none⟩ v0).heap[b]?=some (.cells #[c0,c1,c2,c3,c4,v0,c6,c7,c8,c9,c10,c11,c12,c13,c14] T (0,0)):=jN _ b 5 _ _ v0 h;generalize w.setCell ⟨b,5,none⟩ v0=x1 at h1 |-;have h2:(x1.setCell ⟨b,6,none⟩ v1).heap[b]?=some (.cells #[c0,c1,c2,c3,c4,v0,v1,c7,c8,c9,c10,c11,c12,c13,c14] T (0,0)):=jN _ b 6 _ _ v1 h1;generalize x1.setCell ⟨b,6,none⟩ v1=x2 at h2 |-;have h3:(x2.setCell ⟨b,7,none⟩ v2).heap[b]?=some (.cells #[c0,c1,c2,c3,c4,v0,v1,v2,c8,c9,c10,c11,c12,c13,c14] T (0,0)):=jN _ b 7 _ _ v2 h2;generalize x2.setCell ⟨b,7,none⟩ v2=x3 at h3 |-;have h4:(x3.setCell ⟨b,8,none⟩ v3).heap[b]?=some (.cells #[c0,c1,c2,c3,c4,v0,v1,v2,v3,c9,c10,c11,c12,c13,c14] T (0,0)):=jN _ b 8 _ _ v3 h3;generalize x3.setCell ⟨b,8,none⟩ v3=x4 at h4 |-;have h5:(x4.setCell ⟨b,9,none⟩ v4).heap[b]?=some (.cells #[c0,c1,c2,c3,c4,v0,v1,v2,v3,v4,c10,c11,c12,c13,c14] T (0,0)):=jN _ b 9 _ _ v4 h4;generalize x4.setCell ⟨b,9,none⟩ v4=x5 at h5 |-;have h6:(x5.setCell ⟨b,10,none⟩ v5).heap[b]?=some (.cells #[c0,c1,c2,c3,c4,v0,v1,v2,v3,v4,v5,c11,c12,c13,c14] T (0,0)):=jN _ b 10 _ _ v5 h5;generalize x5.setCell ⟨b,10,none⟩ v5=x6 at h6 |-;have h7:(x6.setCell ⟨b,11,none⟩ v6).heap[b]?=some (.cells #[c0,c1,c2,c3,c4,v0,v1,v2,v3,v4,v5,v6,c12,c13,c14] T (0,0)):=jN _ b 11 _ _ v6 h6;generalize x6.setCell ⟨b,11,none⟩ v6=x7 at h7 |-;have h8:(x7.setCell ⟨b,12,none⟩ v7).heap[b]?=some (.cells #[c0,c1,c2,c3,c4,v0,v1,v2,v3,v4,v5,v6,v7,c13,c14] T (0,0)):=jN _ b 12 _ _ v7 h7;exact h8
theorem OT (h:Below B w0 w)(hb:B<=b)(v0 v1 v2 v3 v4 v5 v6 v7:Value):Below B w0 ((((((((w.setCell ⟨b,5,none⟩ v0).setCell ⟨b,6,none⟩ v1).setCell ⟨b,7,none⟩ v2).setCell ⟨b,8,none⟩ v3).setCell ⟨b,9,none⟩ v4).setCell ⟨b,10,none⟩ v5).setCell ⟨b,11,none⟩ v6).setCell ⟨b,12,none⟩ v7) :=
 wY hb [v0,v1,v2,v3,v4,v5,v6,v7] 5 h
theorem Wy (P:Nat->Prop)(w:World)(b:Nat)(v0 v1 v2 v3 v4 v5 v6 v7:Value)(hP:∀ k,P k->k≠b):aW P w ((((((((w.setCell ⟨b,5,none⟩ v0).setCell ⟨b,6,none⟩ v1).setCell ⟨b,7,none⟩ v2).setCell ⟨b,8,none⟩ v3).setCell ⟨b,9,none⟩ v4).setCell ⟨b,10,none⟩ v5).setCell ⟨b,11,none⟩ v6).setCell ⟨b,12,none⟩ v7) :=
 J2 hP [v0,v1,v2,v3,v4,v5,v6,v7] 5 w
theorem Cj (P:Nat->Prop)(w:World)(b:Nat)(v0 v1 v2 v3 v4 v5 v6 v7 v8 v9 v10 v11 v12 v13 v14:Value)(hP:∀ k,P k->k≠b):aW P w (((((((((((((((w.setCell ⟨b,0,none⟩ v0).setCell ⟨b,1,none⟩ v1).setCell ⟨b,2,none⟩ v2).setCell ⟨b,3,none⟩ v3).setCell ⟨b,4,none⟩ v4).setCell ⟨b,5,none⟩ v5).setCell ⟨b,6,none⟩ v6).setCell ⟨b,7,none⟩ v7).setCell ⟨b,8,none⟩ v8).setCell ⟨b,9,none⟩ v9).setCell ⟨b,10,none⟩ v10).setCell ⟨b,11,none⟩ v11).setCell ⟨b,12,none⟩ v12).setCell ⟨b,13,none⟩ v13).setCell ⟨b,14,none⟩ v14) :=
 J2 hP [v0,v1,v2,v3,v4,v5,v6,v7,v8,v9,v10,v11,v12,v13,v14] 0 w
