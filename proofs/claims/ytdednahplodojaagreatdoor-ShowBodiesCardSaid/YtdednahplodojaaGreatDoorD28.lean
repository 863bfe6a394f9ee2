/- Walks and plain laws: ReadW10, ReadW11, AsW2, FofLaws, FofW, NineW, NinePlain. -/
import Derived.Test.YtdednahplodojaaGreatDoorD26
import Derived.Test.YtdednahplodojaaGreatDoorD27
import Derived.Test.YtdednahplodojaaGreatDoorD22
set_option maxHeartbeats 16000000
set_option maxRecDepth 100000
set_option linter.unusedVariables false
set_option linter.unusedSimpArgs false
namespace Go.Proofs.YtdednahplodojaaGreatDoor
open Go.RowKit Go
def itPT:Option CE→PT
 | none=>.leaf
 | some e=>e.pt
def subsF:List (Option CE)→Nat→List (CE × Nat)
 | [],_=>[]
 | none :: l,u=>subsF l (u+1)
 | some e :: l,u=>(e,u) :: subsF l (u+e.pt.lv)
theorem rep_ok {nodes:List Nd}{n:Int}{u:Nat}{t:PT}(h:Rep nodes n u t):0≤n∧n<(nodes.length:Int):=by
 cases t with
 | leaf=>rw [Rep] at h;have:=(List.getElem?_eq_some_iff.1 h.2).1;omega
 | node k l=>rw [Rep] at h;obtain ⟨ks,h0,h1,_⟩:=h;have:=(List.getElem?_eq_some_iff.1 h1).1;omega
theorem repL_ok {nodes:List Nd}:∀ {l:List PT} {ks:List Int} {u:Nat},RepL nodes ks u l→∀ k∈ks,0≤k∧k<(nodes.length:Int)
 | [],ks,u,h=>by rw [RepL] at h;subst h;intro k hk;cases hk
 | t :: l,ks,u,h=>by
  rw [RepL] at h
  obtain ⟨k,ks',rfl,h1,h2⟩:=h
  intro x hx
  rcases List.mem_cons.1 hx with rfl|hx
  ·exact rep_ok h1
  ·exact repL_ok h2 x hx
theorem parts_items {nodes:List Nd}:∀ (its:List (Option CE)) (ks:List Int) (u:Nat),RepL nodes ks u (its.map itPT) →
  (partsF nodes ks).length=(subsF its u).length∧∀ (j:Nat) (h1:j<(partsF nodes ks).length) (h2:j<(subsF its u).length),Rep nodes (partsF nodes ks)[j] (subsF its u)[j].2 (subsF its u)[j].1.pt
 | [],ks,u,h=>by
  simp only [List.map_nil,RepL] at h
  subst h
  exact ⟨rfl,fun j h1=>absurd h1 (by simp [partsF])⟩
 | none :: its,ks,u,h=>by
  simp only [List.map_cons,RepL,itPT] at h
  obtain ⟨k,ks',rfl,h1,h2⟩:=h
  rw [PT.lv] at h2
  have ih:=parts_items its ks' (u+1) h2
  simp only [parts_leaf h1,subsF]
  exact ih
 | some e :: its,ks,u,h=>by
  simp only [List.map_cons,RepL,itPT] at h
  obtain ⟨k,ks',rfl,h1,h2⟩:=h
  have ih:=parts_items its ks' _ h2
  simp only [parts_node h1,subsF]
  refine ⟨by simp [ih.1],fun j h3 h4=>?_⟩
  cases j with
  | zero=>exact h1
  | succ j=>exact ih.2 j (by simpa using h3) (by simpa using h4)
theorem CE.lv_pos (e:CE):0<e.pt.lv:=by
 cases e with
 | call q l=>rw [CE.pt,PT.lv,lvL_append];simp [lvL,PT.lv]
 | num=>simp [CE.pt,PT.lv,lvL]
 | truth=>simp [CE.pt,PT.lv,lvL]
 | res=>simp [CE.pt,PT.lv,lvL]
 | nam=>simp [CE.pt,PT.lv,lvL]
 | group e=>simp [CE.pt,PT.lv,lvL];omega
 | un e=>simp [CE.pt,PT.lv,lvL];omega
 | bin a b=>simp [CE.pt,PT.lv,lvL];omega
 | iff a b c=>simp [CE.pt,PT.lv,lvL];omega
 | lett a b=>simp [CE.pt,PT.lv,lvL];omega
 | asrt a b=>simp [CE.pt,PT.lv,lvL];omega
theorem items_len:∀ (its:List (Option CE)),its.length≤lvL (its.map itPT)
 | []=>Nat.le_refl _
 | none :: its=>by have:=items_len its;simp only [List.map_cons,lvL,itPT,PT.lv,List.length_cons];omega
 | some e :: its=>by have:=items_len its;have:=e.lv_pos;simp only [List.map_cons,lvL,itPT,List.length_cons];omega
structure REnv where
 B:Nat
 tv:Value
 nv:Value
 toks:List Tok
 nodes:List Nd
 cl:Bool
structure REnv.ok (E:REnv):Prop where
 len:E.toks.length≤1000000
 nums:∀ u,u<E.toks.length→kindAt E.toks u=3→∀ W,Calls Tryz.prog 42 #[.string ⟨(textAt E.toks u).toArray⟩] W (ZPost (decV (textAt E.toks u)) W)
def REnv.At (E:REnv)(W:World):Prop:=TreeAt E.B W (.agg #[E.tv,E.nv]) E.toks E.nodes∧E.B≤W.heap.size
def REnv.reads (E:REnv)(e:CE)(u:Nat):Prop:=∀ (i:Nat) (W:World),Rep E.nodes i u e.pt→E.At W→Calls Tryz.prog 34 #[.agg #[E.tv,E.nv],.int .i64 i] W (EPost XA (e.pe E.toks u) W)
theorem made_items (E:REnv)(its:List (Option CE))(ks:List Int)(u i:Nat)(k:Int)(hn:E.nodes[i]?=some ⟨k,-1,ks⟩)(hr:RepL E.nodes ks u (its.map itPT))(hlen:ks.length≤1000000000)(hsub:∀ p∈subsF its u,E.reads p.1 p.2)
  (op at_:Nat) (W:World) (hT:TreeAt E.B W (.agg #[E.tv,E.nv]) E.toks E.nodes) (hB:E.B≤W.heap.size) :
  Calls Tryz.prog 68 #[.agg #[E.tv,E.nv],.int .i64 op,.int .i64 at_,.int .i64 i] W (EPost XA (.mk op [] [] 0 [] false ((subsF its u).map fun p=>p.1.pe E.toks p.2) at_) W):=by
 obtain ⟨hi,hni⟩:=List.getElem?_eq_some_iff.1 hn
 obtain ⟨p1,p2⟩:=parts_items its ks u hr
 refine rmade_any E.B E.tv E.nv E.toks E.nodes i op at_ W hT hB hi (by rw [hni];exact repL_ok hr) (by rw [hni];exact hlen) _ (by rw [hni];simp [p1]) ?_
 rw [hni]
 intro j h1 h2 W' hT' hB'
 have h3:j<(subsF its u).length:=by simpa using h1
 have hrep:=p2 j h2 h3
 have hx:=hsub _ (List.getElem_mem h3)
 have hk:=rep_ok hrep
 simp only [List.getElem_map]
 obtain ⟨m,hm⟩:∃ m:Nat,(partsF E.nodes ks)[j]=(m:Int):=⟨((partsF E.nodes ks)[j]).toNat,by omega⟩
 rw [hm] at hrep ⊢
 exact hx m W' hrep ⟨hT',hB'⟩
theorem tok_peek {toks:List Tok}{u:Nat}(h:u<toks.length):toks[u]?=some (peekF toks u):=by
 rw [peekF,Nat.min_eq_left (by omega),List.getD_eq_getElem?_getD,List.getElem?_eq_getElem h,Option.getD_some]
theorem repL_leaf {nodes:List Nd}{ks:List Int}{u:Nat}{l:List PT}(h:RepL nodes ks u (.leaf :: l)):∃ (k:Nat) (ks':List Int),ks=(k:Int) :: ks'∧nodes[k]?=some ⟨19,(u:Nat),[]⟩∧RepL nodes ks' (u+1) l:=by
 rw [RepL] at h
 obtain ⟨k,ks',rfl,h1,h2⟩:=h
 obtain ⟨i,rfl,hi⟩:=h1.leafAt
 exact ⟨i,ks',rfl,hi,h2⟩
theorem repL_sub {nodes:List Nd}{ks:List Int}{u:Nat}{t:PT}{l:List PT}(h:RepL nodes ks u (t :: l)):∃ (k:Nat) (ks':List Int),ks=(k:Int) :: ks'∧Rep nodes k u t∧RepL nodes ks' (u+t.lv) l:=by
 rw [RepL] at h
 obtain ⟨k,ks',rfl,h1,h2⟩:=h
 have:=rep_ok h1
 exact ⟨k.toNat,ks',by rw [Int.toNat_of_nonneg this.1],by rw [Int.toNat_of_nonneg this.1];exact h1,h2⟩
def argsIts:List CE→List (Option CE)
 | []=>[]
 | e :: l=>some e :: (match l with | []=>[]|_ :: _=>none :: argsIts l)
theorem argsIts_two (e f:CE)(l:List CE):argsIts (e :: f :: l)=some e :: none :: argsIts (f :: l):=by
 conv=>lhs;rw [argsIts]
theorem argsIts_pt:∀ l:List CE,(argsIts l).map itPT=argsPT l
 | []=>by simp [argsIts,argsPT]
 | [e]=>by simp [argsIts,argsPT,itPT]
 | e :: f :: l=>by
  rw [argsIts_two,argsPT_two,List.map_cons,List.map_cons,argsIts_pt (f :: l)]
  rfl
theorem subs_args (toks:List Tok):∀ (l:List CE) (u:Nat),(subsF (argsIts l++[none]) u).map (fun p=>p.1.pe toks p.2)=argsPE toks u l
 | [],u=>by simp [argsIts,subsF,argsPE]
 | [e],u=>by simp [argsIts,subsF,argsPE]
 | e :: f :: l,u=>by
  rw [argsIts_two,List.cons_append,List.cons_append,subsF,subsF,List.map_cons,subs_args toks (f :: l)]
  conv=>rhs;rw [argsPE]
theorem subs_ok {E:REnv}:∀ (l:List CE) (u:Nat),argsOk E.toks E.cl u l→u+lvL (argsPT l)≤E.toks.length→(∀ e∈l,∀ v,e.ok E.toks E.cl v→v+e.pt.lv≤E.toks.length→E.reads e v)→∀ p∈subsF (argsIts l++[none]) u,E.reads p.1 p.2
 | [],u,_,_,_,p,hp=>by simp [argsIts,subsF] at hp
 | [e],u,ho,hl,hr,p,hp=>by
  rw [argsOk] at ho
  rw [argsPT_one] at hl
  simp only [lvL] at hl
  have h:p=(e,u):=by simpa [argsIts,subsF] using hp
  subst h
  exact hr e List.mem_cons_self u ho.1 (by omega)
 | e :: f :: l,u,ho,hl,hr,p,hp=>by
  rw [argsOk] at ho
  rw [argsPT_two] at hl
  simp only [lvL,PT.lv] at hl
  rw [argsIts_two,List.cons_append,List.cons_append,subsF,subsF] at hp
  rcases List.mem_cons.1 hp with rfl|hp
  ·exact hr e List.mem_cons_self u ho.1 (by omega)
  ·exact subs_ok (f :: l) _ ho.2 (by omega) (fun x hx=>hr x (List.mem_cons_of_mem _ hx)) p hp
theorem rep_node {nodes:List Nd}{i:Nat}{u k:Nat}{l:List PT}(h:Rep nodes i u (.node k l)):∃ ks,nodes[i]?=some ⟨(k:Nat),-1,ks⟩∧RepL nodes ks u l:=by
 rw [Rep] at h
 obtain ⟨ks,_,h1,h2⟩:=h
 rw [Int.toNat_natCast] at h1
 exact ⟨ks,h1,h2⟩
theorem kids_few {E:REnv}(hE:E.ok){ks:List Int}{u:Nat}{its:List (Option CE)}(h:RepL E.nodes ks u (its.map itPT))(hl:lvL (its.map itPT)≤E.toks.length):ks.length≤1000000000:=by
 have h1:=(repL_len h).1
 have h2:=items_len its
 have h3:=hE.len
 rw [List.length_map] at h1
 omega
theorem rexpr_leaf (E:REnv){i k0 u:Nat}{kd:Int}{ks:List Int}{W:World}{x:PE}(hAt:E.At W)(hn:E.nodes[i]?=some ⟨kd,-1,(k0:Int) :: ks⟩)(h0:E.nodes[k0]?=some ⟨19,(u:Nat),[]⟩)(hu:u<E.toks.length)(hx:RNeed E.B E.tv E.nv E.toks E.nodes i ((k0:Int) :: ks) (peekF E.toks u) kd x) :
  Calls Tryz.prog 34 #[.agg #[E.tv,E.nv],.int .i64 i] W (EPost XA x W) :=
 rexpr_all E.B E.tv E.nv E.toks E.nodes i kd _ W hAt.1 hAt.2 hn k0 rfl _ _ h0 (.inl ⟨u,rfl,tok_peek hu⟩) x hx
theorem rtext_at {B:Nat}{tv nv:Value}{toks:List Tok}{nodes:List Nd}{k u:Nat}{W:World}(hT:TreeAt B W (.agg #[tv,nv]) toks nodes)(hB:B≤W.heap.size)(h:nodes[k]?=some ⟨19,(u:Nat),[]⟩)(hu:u<toks.length) :
  Calls Tryz.prog 63 #[.agg #[tv,nv],.int .i64 k] W fun e w'=>e=.returned (.string ⟨(textAt toks u).toArray⟩)∧Below W.heap.size W w':=by
 have h1:=rtext_any B tv nv toks nodes k u W hT hB h hu
 have e:=tok_peek hu
 rw [List.getElem?_eq_getElem hu] at e
 rw [Option.some.inj e] at h1
 exact h1
theorem rexpr_reads (E:REnv)(hE:E.ok):∀ (n:Nat) (e:CE) (u:Nat),SizeOf.sizeOf e<n→e.ok E.toks E.cl u→u+e.pt.lv≤E.toks.length→E.reads e u
 | 0,e,u,h,_,_=>absurd h (by omega)
 | n+1,.num,u,_,ho,hl=>by
  intro i W hrep hAt
  rw [CE.ok] at ho
  rw [CE.pt] at hrep hl
  simp only [PT.lv,lvL] at hl
  obtain ⟨ks,hn,hr⟩:=rep_node hrep
  obtain ⟨k0,ks',rfl,h0,_⟩:=repL_leaf hr
  rw [CE.pe]
  exact rexpr_leaf E hAt hn h0 (by omega) (.num _ _ (hE.nums u (by omega) ho))
 | n+1,.truth,u,_,ho,hl=>by
  intro i W hrep hAt
  rw [CE.ok] at ho
  rw [CE.pt] at hrep hl
  simp only [PT.lv,lvL] at hl
  obtain ⟨ks,hn,hr⟩:=rep_node hrep
  obtain ⟨k0,ks',rfl,h0,_⟩:=repL_leaf hr
  rw [CE.pe]
  rcases ho with ho|ho
  ·rw [decide_eq_true ho]
   exact rexpr_leaf E hAt hn h0 (by omega) (.tru ho)
  ·rw [decide_eq_false (by rw [ho];decide)]
   exact rexpr_leaf E hAt hn h0 (by omega) (.fls ho)
 | n+1,.res,u,_,ho,hl=>by
  intro i W hrep hAt
  rw [CE.pt] at hrep hl
  simp only [PT.lv,lvL] at hl
  obtain ⟨ks,hn,hr⟩:=rep_node hrep
  obtain ⟨k0,ks',rfl,h0,_⟩:=repL_leaf hr
  rw [CE.pe]
  exact rexpr_leaf E hAt hn h0 (by omega) .res
 | n+1,.nam,u,_,ho,hl=>by
  intro i W hrep hAt
  rw [CE.pt] at hrep hl
  simp only [PT.lv,lvL] at hl
  obtain ⟨ks,hn,hr⟩:=rep_node hrep
  obtain ⟨k0,ks',rfl,h0,_⟩:=repL_leaf hr
  rw [CE.pe]
  exact rexpr_leaf E hAt hn h0 (by omega) .nam
 | n+1,.group e,u,hs,ho,hl=>by
  intro i W hrep hAt
  rw [CE.ok] at ho
  rw [CE.pt] at hrep hl
  simp only [PT.lv,lvL] at hl
  simp only [CE.group.sizeOf_spec] at hs
  obtain ⟨ks,hn,hr⟩:=rep_node hrep
  obtain ⟨k0,ks',rfl,h0,hr⟩:=repL_leaf hr
  obtain ⟨k1,ks',rfl,h1,_⟩:=repL_sub hr
  rw [CE.pe]
  exact rexpr_leaf E hAt hn h0 (by omega) (.group k1 _ rfl (fun W hT hB=>rexpr_reads E hE n e (u+1) (by omega) ho.2 (by omega) k1 W h1 ⟨hT,hB⟩))
 | n+1,.un e,u,hs,ho,hl=>by
  intro i W hrep hAt
  rw [CE.ok] at ho
  rw [CE.pt] at hrep hl
  simp only [PT.lv,lvL] at hl
  simp only [CE.un.sizeOf_spec] at hs
  obtain ⟨ks,hn,hr⟩:=rep_node hrep
  have hM:=made_items E [none,some e] ks u i _ hn hr (kids_few hE (its:=[none,some e]) hr (by simp only [List.map_cons,List.map_nil,itPT,lvL,PT.lv];omega)) (fun p hp=>by
   have h:p=(e,u+1):=by simpa [subsF] using hp
   subst h
   exact rexpr_reads E hE n e (u+1) (by omega) ho.2 (by omega))
  obtain ⟨k0,ks',rfl,h0,_⟩:=repL_leaf hr
  rw [CE.pe]
  rcases ho.1 with h|h
  ·rw [if_pos h]
   exact rexpr_leaf E hAt hn h0 (by omega) (.not _ h fun op at_ W hT hB=>hM op at_ W hT hB)
  ·rw [if_neg (by rw [h];decide)]
   exact rexpr_leaf E hAt hn h0 (by omega) (.neg _ h fun op at_ W hT hB=>hM op at_ W hT hB)
 | n+1,.bin a b,u,hs,ho,hl=>by
  intro i W hrep hAt
  rw [CE.ok] at ho
  rw [CE.pt] at hrep hl
  simp only [PT.lv,lvL] at hl
  simp only [CE.bin.sizeOf_spec] at hs
  obtain ⟨ks,hn,hr⟩:=rep_node hrep
  have hM:=made_items E [some a,none,some b] ks u i _ hn hr (kids_few hE (its:=[some a,none,some b]) hr (by simp only [List.map_cons,List.map_nil,itPT,lvL,PT.lv];omega)) (fun p hp=>by
   have h:p=(a,u)∨p=(b,u+a.pt.lv+1):=by simpa [subsF] using hp
   rcases h with rfl|rfl
   ·exact rexpr_reads E hE n a u (by omega) ho.2.1 (by omega)
   ·exact rexpr_reads E hE n b _ (by omega) ho.2.2 (by omega))
  obtain ⟨k0,ks',rfl,h0,hr⟩:=repL_sub hr
  obtain ⟨k1,ks',rfl,h1,_⟩:=repL_leaf hr
  obtain ⟨c,la,ea,c1,c2⟩:=a.node
  rw [ea] at h0
  obtain ⟨ksa,hna,_⟩:=rep_node h0
  rw [CE.pe]
  refine rexpr_all E.B E.tv E.nv E.toks E.nodes i _ _ W hAt.1 hAt.2 hn k0 rfl _ _ hna (.inr ⟨by simp only;omega,rfl⟩) _ (.bin _ fun W' hT hB=>?_)
  exact rbinary_any _ E.B E.tv E.nv E.toks E.nodes i _ W' hT hB hn k1 (u+a.pt.lv) rfl h1 _ (tok_peek (by omega)) ho.1 hM
 | n+1,.iff a b c,u,hs,ho,hl=>by
  intro i W hrep hAt
  rw [CE.ok] at ho
  rw [CE.pt] at hrep hl
  simp only [PT.lv,lvL] at hl
  simp only [CE.iff.sizeOf_spec] at hs
  obtain ⟨ks,hn,hr⟩:=rep_node hrep
  have hM:=made_items E [none,some a,none,some b,none,some c] ks u i _ hn hr (kids_few hE (its:=[none,some a,none,some b,none,some c]) hr (by simp only [List.map_cons,List.map_nil,itPT,lvL,PT.lv];omega)) (fun p hp=>by
   have h:p=(a,u+1)∨p=(b,u+1+a.pt.lv+1)∨p=(c,u+1+a.pt.lv+1+b.pt.lv+1):=by simpa [subsF] using hp
   rcases h with rfl|rfl|rfl
   ·exact rexpr_reads E hE n a _ (by omega) ho.2.1 (by omega)
   ·exact rexpr_reads E hE n b _ (by omega) ho.2.2.1 (by omega)
   ·exact rexpr_reads E hE n c _ (by omega) ho.2.2.2 (by omega))
  obtain ⟨k0,ks',rfl,h0,_⟩:=repL_leaf hr
  rw [CE.pe]
  exact rexpr_leaf E hAt hn h0 (by omega) (.iff _ fun op at_ W hT hB=>hM op at_ W hT hB)
 | n+1,.lett a b,u,hs,ho,hl=>by
  intro i W hrep hAt
  rw [CE.ok] at ho
  rw [CE.pt] at hrep hl
  simp only [PT.lv,lvL] at hl
  simp only [CE.lett.sizeOf_spec] at hs
  obtain ⟨ks,hn,hr⟩:=rep_node hrep
  have hM:=made_items E [none,none,none,some a,none,some b] ks u i _ hn hr (kids_few hE (its:=[none,none,none,some a,none,some b]) hr (by simp only [List.map_cons,List.map_nil,itPT,lvL,PT.lv];omega)) (fun p hp=>by
   have h:p=(a,u+3)∨p=(b,u+3+a.pt.lv+1):=by simpa [subsF] using hp
   rcases h with rfl|rfl
   ·exact rexpr_reads E hE n a _ (by omega) ho.2.2.1 (by omega)
   ·exact rexpr_reads E hE n b _ (by omega) ho.2.2.2 (by omega))
  obtain ⟨k0,ks',rfl,h0,hr⟩:=repL_leaf hr
  obtain ⟨k1,ks',rfl,h1,_⟩:=repL_leaf hr
  rw [CE.pe]
  exact rexpr_leaf E hAt hn h0 (by omega) (.lett _ k1 _ (fun op at_ W hT hB=>hM op at_ W hT hB) rfl fun W hT hB=>rtext_at hT hB h1 (by omega))
 | n+1,.asrt a b,u,hs,ho,hl=>by
  intro i W hrep hAt
  rw [CE.ok] at ho
  rw [CE.pt] at hrep hl
  simp only [PT.lv,lvL] at hl
  simp only [CE.asrt.sizeOf_spec] at hs
  obtain ⟨ks,hn,hr⟩:=rep_node hrep
  have hM:=made_items E [none,some a,none,some b] ks u i _ hn hr (kids_few hE (its:=[none,some a,none,some b]) hr (by simp only [List.map_cons,List.map_nil,itPT,lvL,PT.lv];omega)) (fun p hp=>by
   have h:p=(a,u+1)∨p=(b,u+1+a.pt.lv+1):=by simpa [subsF] using hp
   rcases h with rfl|rfl
   ·exact rexpr_reads E hE n a _ (by omega) ho.2.1 (by omega)
   ·exact rexpr_reads E hE n b _ (by omega) ho.2.2 (by omega))
  obtain ⟨k0,ks',rfl,h0,_⟩:=repL_leaf hr
  rw [CE.pe]
  exact rexpr_leaf E hAt hn h0 (by omega) (.asrt _ fun op at_ W hT hB=>hM op at_ W hT hB)
 | n+1,.call q l,u,hs,ho,hl=>by
  intro i W hrep hAt
  rw [CE.ok] at ho
  rw [CE.pt] at hrep hl
  simp only [CE.call.sizeOf_spec] at hs
  have hsz:∀ e∈l,∀ v,e.ok E.toks E.cl v→v+e.pt.lv≤E.toks.length→E.reads e v:=fun e he v h1 h2 =>
   rexpr_reads E hE n e v (by have:=List.sizeOf_lt_of_mem he;omega) h1 h2
  obtain ⟨ks,hn,hr⟩:=rep_node hrep
  cases q with
  | true =>
   simp only [if_true] at hr hl ho
   simp only [PT.lv,lvL_append,lvL] at hl
   have hr':RepL E.nodes ks u (([none,none,none,none]++(argsIts l++[none])).map itPT):=by
    rw [List.map_append,List.map_append,argsIts_pt]
    simpa [itPT] using hr
   have hM:=made_items E ([none,none,none,none]++(argsIts l++[none])) ks u i _ hn hr' (kids_few hE hr' (by rw [List.map_append,List.map_append,argsIts_pt];simp only [List.map_cons,List.map_nil,itPT,lvL_append,lvL,PT.lv];omega)) (fun p hp=>by
    simp only [List.cons_append,List.nil_append,subsF] at hp
    exact subs_ok l (u+4) ho.2.2.2.2.2 (by omega) hsz p hp)
   simp only [List.cons_append,List.nil_append,subsF] at hM
   rw [subs_args] at hM
   obtain ⟨k0,ks',rfl,h0,hr⟩:=repL_leaf hr
   obtain ⟨k1,ks',rfl,h1,hr⟩:=repL_leaf hr
   obtain ⟨k2,ks',rfl,h2,hr⟩:=repL_leaf hr
   rw [CE.pe,if_pos rfl]
   refine rexpr_leaf E hAt hn h0 (by omega) (.call _ fun W' hT hB=>?_)
   exact rcall_any true _ _ _ E.B E.tv E.nv E.toks E.nodes i _ W' hT hB hn k0 u rfl h0 _ (tok_peek (by omega)) k1 (u+1) rfl h1 _ (tok_peek (by omega)) ho.2.2.2.1 k2 (u+2) (fun _=>rfl) (fun _=>h2) _ (fun _=>tok_peek (by omega)) (.inl ⟨rfl,rfl,rfl⟩) hM
  | false =>
   simp only [Bool.false_eq_true,if_false] at hr hl ho
   simp only [PT.lv,lvL_append,lvL] at hl
   have hr':RepL E.nodes ks u (([none,none]++(argsIts l++[none])).map itPT):=by
    rw [List.map_append,List.map_append,argsIts_pt]
    simpa [itPT] using hr
   have hM:=made_items E ([none,none]++(argsIts l++[none])) ks u i _ hn hr' (kids_few hE hr' (by rw [List.map_append,List.map_append,argsIts_pt];simp only [List.map_cons,List.map_nil,itPT,lvL_append,lvL,PT.lv];omega)) (fun p hp=>by
    simp only [List.cons_append,List.nil_append,subsF] at hp
    exact subs_ok l (u+2) ho.2.2.2.2 (by omega) hsz p hp)
   simp only [List.cons_append,List.nil_append,subsF] at hM
   rw [subs_args] at hM
   obtain ⟨k0,ks',rfl,h0,hr⟩:=repL_leaf hr
   obtain ⟨k1,ks',rfl,h1,hr⟩:=repL_leaf hr
   rw [CE.pe,if_neg (by decide)]
   refine rexpr_leaf E hAt hn h0 (by omega) (.call _ fun W' hT hB=>?_)
   exact rcall_any false _ _ _ E.B E.tv E.nv E.toks E.nodes i _ W' hT hB hn k0 u rfl h0 _ (tok_peek (by omega)) k1 (u+1) rfl h1 _ (tok_peek (by omega)) ho.2.2.2.1 0 0 (fun q=>by cases q) (fun q=>by cases q) (peekF E.toks u) (fun q=>by cases q) (.inr ⟨rfl,rfl,rfl⟩) hM
end Go.Proofs.YtdednahplodojaaGreatDoor

namespace Go.Proofs.YtdednahplodojaaGreatDoor
open Go.RowKit Go
theorem text_few {S:List UInt8}{toks:List Tok}(h:lexAll S=.ok toks)(u:Nat):(textAt toks u).length≤S.length:=by
 have hL:=lexAll_laid h
 have hm:=peek_mem hL.some u
 obtain ⟨i,hi,e⟩:=List.mem_iff_getElem.1 hm
 have h1:=congrArg List.length (hL.text i hi)
 rw [List.length_take,List.length_drop] at h1
 unfold textAt
 rw [← e]
 omega
structure FGood (S:List UInt8) (toks:List Tok) (nodes:List Nd) (ce:CE):Prop where
 small:S.length≤65536
 lexed:lexAll S=.ok toks
 nodes_eq:nodes=(aloneT ce).em 0 0
 okk:ce.ok toks true 0
 lv:ce.pt.lv+1=toks.length
 good:GoodT toks nodes ((aloneT ce).dump toks 0)
 whole:wholeF toks=S
 deep:formF S 200=.good toks nodes
 fits:(ce.pe toks 0).fits 65536
 told:(ce.pe toks 0).told
 few:(ce.pe toks 0).sizeG≤200000
theorem form_good_of {S:List UInt8}{d:Nat}{toks:List Tok}{nodes:List Nd}{ce:CE}(hd:d≤200)(h:formF S d=.good toks nodes)(hl:lexAll S=.ok toks)(he:nodes=(aloneT ce).em 0 0)(hok:ce.ok toks true 0)(hlv:ce.pt.lv+1=toks.length)(hn:nodes.length≤2 * toks.length+2):FGood S toks nodes ce:=by
 have hs:S.length≤65536:=by
  unfold lexAll at hl
  split at hl
  ·cases hl
  ·omega
 have hL:=lexAll_laid hl
 have hc:=hL.count
 have hw:(aloneT ce).wf:=by
  rw [aloneT,PT.wf,wfL,wfL,wfL,PT.wf]
  exact ⟨by omega,by omega,CE.wf ce,trivial,trivial⟩
 have hlv2:(aloneT ce).lv=toks.length:=by
  rw [aloneT,PT.lv,lvL,lvL,lvL,PT.lv]
  omega
 have hnd:nodes.length=(aloneT ce).nd:=by rw [he,PT.em_len]
 have hnp:=(aloneT ce).nd_pos
 have hM:∀ u,(textAt toks u).length≤65536:=fun u=>Nat.le_trans (text_few hl u) hs
 have hdl:=tdump_len hM (aloneT ce) 0 hw
 have hN:=lexAll_nums hl
 have hsz:=CE.sizeG_le toks ce 0
 have hnd2:(aloneT ce).nd=ce.pt.nd+1+1:=by rw [aloneT,PT.nd,ndL,ndL,ndL,PT.nd]
 refine ⟨hs,hl,he,hok,hlv,⟨by omega,by omega,fun n hm=>?_,by omega,?_,?_,?_,?_,fun n hm=>?_,fun n hm h19=>?_⟩,hL.whole_eq,formF_deeper hd h,CE.fits hL.some hN hM (by omega) ce 0 hok,CE.told (lexAll_numsOk hl) ce 0 hok,by omega⟩
 ·rw [he] at hm
  have:=em_kids _ _ _ n hm
  omega
 ·rw [he];exact right_em _ hw _ hlv2
 ·rw [hnd,he,leaves_em _ hw (by omega),hlv2]
 ·rw [hnd,he];exact dump_em toks _ hw (by omega)
 ·have:(aloneT ce).nd * (65536+16)≤200000 * (65536+16):=Nat.mul_le_mul_right _ (by omega)
  omega
 ·rw [he] at hm
  exact (em_kinds _ _ _ hw n hm).1
 ·rw [he] at hm
  have:=(em_kinds _ _ _ hw n hm).2 h19
  omega
end Go.Proofs.YtdednahplodojaaGreatDoor

namespace Go.Proofs.YtdednahplodojaaGreatDoor
open Go.RowKit Go
def FofPost (x:PE)(w:World)(r:Ending)(w':World):Prop :=
 ∃ am wn cm ae ce,r=.returned (.tuple #[.agg #[.int .i64 x.op,.string ⟨x.name.toArray⟩,.string ⟨x.module.toArray⟩,.bool (decide (x.num<0)),.slice am wn cm,.bool x.yes,.slice ae x.kids.length ce,.int .i64 x.at_],.int .i64 0]) ∧
  EAt XA (fun b=>w.heap.size≤b) w' (.slice am wn cm) (.slice ae x.kids.length ce) x∧Below w.heap.size w w'
def EPostZ (x:PE)(w:World)(e:Ending)(w':World):Prop :=
 ∃ am wn cm ae ce,e=.returned (.agg #[.int .i64 x.op,.string ⟨x.name.toArray⟩,.string ⟨x.module.toArray⟩,.bool (decide (x.num<0)),.slice am wn cm,.bool x.yes,.slice ae x.kids.length ce,.int .i64 x.at_]) ∧
  EAt XA (fun b=>w.heap.size≤b) w' (.slice am wn cm) (.slice ae x.kids.length ce) x∧Below w.heap.size w w'
theorem EPostA.s {x:PE}{w w':World}{e:Ending}(h:EPostA x w e w'):EPostZ x w e w':=h
theorem env_ok {S:List UInt8}{toks:List Tok}{nodes:List Nd}{ce:CE}(F:FGood S toks nodes ce)(B:Nat)(tv nv:Value):REnv.ok ⟨B,tv,nv,toks,nodes,true⟩ where
 len:=F.good.fewt
 nums u hu hk W:=by
  have h:=lexAll_nums F.lexed _ (peek_mem (lexAll_laid F.lexed).some u) hk
  obtain ⟨X,hX,eX⟩:=bytes_of (textAt toks u)
  simp only
  rw [eX,← hX]
  have h':numTok X.data.toList:=by rw [hX];exact h
  refine zparse_any X W ?_ ?_ h'.1 (fun q=>by rw [← size_list];exact h'.2.2.2 q)
  ·rw [← size_list];exact List.length_pos_iff.2 h'.2.1
  ·rw [← size_list];exact h'.2.2.1
theorem root_kid {S:List UInt8}{toks:List Tok}{nodes:List Nd}{ce:CE}(F:FGood S toks nodes ce):∃ (r k:Nat) (ks:List Int),nodes.length=r+1∧nodes[r]?=some ⟨18,-1,(k:Int) :: ks⟩∧Rep nodes k 0 ce.pt:=by
 have hr:=Rep.em (pre:=[]) (aloneT ce) 0 0 rfl
 have hnd:nodes.length=(aloneT ce).nd:=by rw [F.nodes_eq,PT.em_len]
 have hp:=(aloneT ce).nd_pos
 rw [List.nil_append,Nat.zero_add,← F.nodes_eq,← hnd] at hr
 obtain ⟨r,hr1⟩:∃ r,nodes.length=r+1:=⟨nodes.length - 1,by omega⟩
 rw [hr1,show (((r+1:Nat):Int) - 1)=(r:Int) by omega,aloneT] at hr
 obtain ⟨ks,h1,h2⟩:=rep_node hr
 obtain ⟨k,ks',rfl,h3,_⟩:=repL_sub h2
 exact ⟨r,k,ks',hr1,h1,h3⟩
theorem expr_cells {w:World}{b:Nat}{c0 c1 c2 c3 c4 c5 c6 c7:Value}(h:w.heap[b]?=some (.cells #[c0,c1,c2,c3,c4,c5,c6,c7] 40 (0,0))) :
  w.cell? ⟨b,0,none⟩=some c0∧w.cell? ⟨b,1,none⟩=some c1∧w.cell? ⟨b,2,none⟩=some c2∧w.cell? ⟨b,3,none⟩=some c3∧w.cell? ⟨b,4,none⟩=some c4∧w.cell? ⟨b,5,none⟩=some c5∧w.cell? ⟨b,6,none⟩=some c6∧w.cell? ⟨b,7,none⟩=some c7∧∀ j,w.frozen? ⟨b,j,none⟩=false:=by
 refine ⟨?_,?_,?_,?_,?_,?_,?_,?_,fun j=>by simp [World.frozen?,h]⟩ <;> (rw [Lib.cell_of_heap h];rfl)
theorem formulaOf_yes (B:Nat)(at_:Option Addr)(ct:Nat)(an:Option Addr)(cn:Nat)(S:ByteArray)(toks:List Tok)(nodes:List Nd)(ce:CE)(w:World)(h:TreeAt B w (.agg #[.slice at_ toks.length ct,.slice an nodes.length cn]) toks nodes)(hB:B≤w.heap.size)(F:FGood S.data.toList toks nodes ce) :
  Calls Tryz.prog 12 #[.agg #[.slice at_ toks.length ct,.slice an nodes.length cn]] w (FofPost (ce.pe toks 0) w):=by
 have hft:=F.good.fewt
 have hfn:=F.good.few
 obtain ⟨r,k,ks,hr1,hn,hrep⟩:=root_kid F
 have HA:=Lib.hid (fun W (hW:Below w.heap.size w W)=>as_yes B at_ ct an cn S toks nodes _ W (h.below (hW.mono hB)) (Nat.le_trans hB hW.size) F.good (by have:=F.small;rw [size_list] at this;exact this) F.whole F.deep)
 have HX:Hid (∀ W,Below w.heap.size w W→Calls Tryz.prog 34 #[.agg #[.slice at_ toks.length ct,.slice an nodes.length cn],.int .i64 k] W (EPostZ (ce.pe toks 0) W)):=Lib.hid (fun W hW=>by
  have hx:=rexpr_reads ⟨B,.slice at_ toks.length ct,.slice an nodes.length cn,toks,nodes,true⟩ (env_ok F B _ _) (SizeOf.sizeOf ce+1) ce 0 (by omega) F.okk (by have:=F.lv;show 0+ce.pt.lv≤toks.length;omega)
  have hy:=hx k W hrep ⟨h.below (hW.mono hB),Nat.le_trans hB hW.size⟩
  exact hy.mono fun _ _ h=>h.a.s)
 have HT:=Lib.hid h
 have HN:=Lib.hid hn
 have HR1:=Lib.hid hr1
 clear hr1
 generalize ce.pe toks 0=x at HX ⊢
 have hal:=(below_new w (.cells #[.slice at_ toks.length ct,.slice an nodes.length cn] 25)).alloc (by simp) (.cells #[.int .i64 0,.string ⟨#[]⟩,.string ⟨#[]⟩,.bool false,.slice none 0 0,.bool false,.slice none 0 0,.int .i64 0] 40)
 have e1:=(Lib.alloc_old (w.alloc (.cells #[.slice at_ toks.length ct,.slice an nodes.length cn] 25)) (.cells #[.int .i64 0,.string ⟨#[]⟩,.string ⟨#[]⟩,.bool false,.slice none 0 0,.bool false,.slice none 0 0,.int .i64 0] 40) w.heap.size (by simp)).trans (heap_alloc_new w (.cells #[.slice at_ toks.length ct,.slice an nodes.length cn] 25))
 have e2:=heap_alloc_new (w.alloc (.cells #[.slice at_ toks.length ct,.slice an nodes.length cn] 25)) (.cells #[.int .i64 0,.string ⟨#[]⟩,.string ⟨#[]⟩,.bool false,.slice none 0 0,.bool false,.slice none 0 0,.int .i64 0] 40)
 rw [World.size_alloc] at e2
 clear h F hrep hn
 go_enter Tryz.func12,Tryz.ntmps12
 go_upto_region 3 with (go_at_call 31;refine (HA.out _ hal).mono ?_;rintro e w3 ⟨rfl,hb3⟩)
 have E1:=(hb3.block w.heap.size (by simp;omega)).trans e1
 have E2:=(hb3.block (w.heap.size+1) (by simp)).trans e2
 have hb4:=hal.trans (hb3.mono (by simp;omega))
 obtain ⟨hi,hni⟩:=List.getElem?_eq_some_iff.1 HN.out
 obtain ⟨b,off,cap,kv,hnv,hbB,x0,x1,x2,hkv⟩:=(HT.out.below (hb4.mono hB)).node hi
 simp only [Value.slice.injEq] at hnv
 obtain ⟨rfl,-,rfl⟩:=hnv
 rw [hni] at hkv
 obtain ⟨ak,ck,rfl,_,hkf⟩:=hkv.form
 simp only at x2 hkf
 obtain ⟨bk,ok,rfl,hbk,hkc⟩:=hkf (by simp)
 have k0:=hkc 0 (by simp)
 simp only [List.getElem_cons_zero,Nat.add_zero] at k0
 obtain ⟨c0,c1⟩:=tree_cells E1
 have hz4:=hb4.size
 have hl1:=(Array.getElem?_eq_some_iff.1 E1).1
 have hl2:=(Array.getElem?_eq_some_iff.1 E2).1
 have hr1:=HR1.out
 have HNI:Hid (((nodes.length:Int) - 1)=(r:Int)):=Lib.hid (by omega)
 have hrI:(r:Int)<(nodes.length:Int):=by omega
 clear hb3 e1 e2 hal HA x0 x1 hkc hkf hkv hni HT HN E1 hr1 HR1
 go_region_with (first|(go_at_call 16;refine (root_tree at_ toks.length ct (some ⟨b,off,none⟩) nodes.length cn _ (by omega)).mono ?_;rintro e w5 ⟨rfl,hb5⟩;rw [HNI.out];have d0:=(hb5.cell (p:=⟨w.heap.size,0,none⟩) hl1).trans c0;have d1:=(hb5.cell (p:=⟨w.heap.size,1,none⟩) hl1).trans c1;have dx:=(hb5.cell (p:=⟨b,off+r * 3+2,none⟩) (by show b<w3.heap.size;omega)).trans x2;have dk:=(hb5.cell (p:=⟨bk,ok,none⟩) (by show bk<w3.heap.size;omega)).trans k0)|(go_at_call 34;refine (HX.out _ (hb4.drew.trans (hb5.mono hz4))).mono ?_;rintro e w6 ⟨am,wn,cm,ae,c6,rfl,hx6,hb6⟩;have E6:=(hb6.block (w.heap.size+1) (Nat.lt_of_lt_of_le hl2 hb5.size)).trans ((hb5.block (w.heap.size+1) hl2).trans E2);obtain ⟨r0,r1,r2,r3,r4,r5,r6,r7,rz⟩:=expr_cells E6;have HX6:=Lib.hid hx6;have HB6:=Lib.hid hb6;have HB5:=Lib.hid hb5;clear hx6 hb6 hb5 E6 d0 d1 dx dk))
 all_goals
  have hb56:=hb4.drew.trans (HB5.out.mono hz4)
  have hb66:=hb56.trans (HB6.out.mono hb56.size)
  have hz5:=hb56.size
  have hl5:w.heap.size+1<w5.heap.size:=Nat.lt_of_lt_of_le hl2 HB5.out.size
  have hx6':EAt XA (fun b=>w.heap.size+1<b) w6 (.slice am wn cm) (.slice ae x.kids.length c6) x:=HX6.out.imp (fun b hb _=>by omega)
  clear HX6 HB6 HB5 hb56 hb4 c0 c1 x2 k0 E2 HX HNI
  go_wp2
  refine bodyPost_ret (v:=.tuple #[.agg #[.int .i64 x.op,.string ⟨x.name.toArray⟩,.string ⟨x.module.toArray⟩,.bool (decide (x.num<0)),.slice am wn cm,.bool x.yes,.slice ae x.kids.length c6,.int .i64 x.at_],.int .i64 0]) (by simp [results,Tryz.results12,go_sem,r0,r1,r2,r3,r4,r5,r6,r7]) rfl ⟨am,wn,cm,ae,c6,rfl,?_,?_⟩
  ·exact (hx6'.frame (((((((Alk.set _ (fun b hb=>by show b≠w.heap.size+1;omega)).trans (Alk.set _ (fun b hb=>by show b≠w.heap.size+1;omega))).trans (Alk.set _ (fun b hb=>by show b≠w.heap.size+1;omega))).trans (Alk.set _ (fun b hb=>by show b≠w.heap.size+1;omega))).trans (Alk.set _ (fun b hb=>by show b≠w.heap.size+1;omega))).trans (Alk.set _ (fun b hb=>by show b≠w.heap.size+1;omega))).trans ((Alk.set _ (fun b hb=>by show b≠w.heap.size+1;omega)).trans (Alk.set _ (fun b hb=>by show b≠w.heap.size+1;omega))))).imp (fun b hb _=>by omega)
  ·exact ((((((((hb66.setCell (by simp) _).setCell (by simp) _).setCell (by simp) _).setCell (by simp) _).setCell (by simp) _).setCell (by simp) _).setCell (by simp) _).setCell (by simp) _)
def RdNine (x:PE)(w:World)(r:Ending)(w':World):Prop :=
 ∃ am wn cm ae ce,r=.returned (.tuple #[.agg #[.int .i64 x.op,.string ⟨x.name.toArray⟩,.string ⟨x.module.toArray⟩,.bool (decide (x.num<0)),.slice am wn cm,.bool x.yes,.slice ae x.kids.length ce,.int .i64 x.at_],.bool true]) ∧
  EAt XA (fun b=>w.heap.size≤b) w' (.slice am wn cm) (.slice ae x.kids.length ce) x∧Below w.heap.size w w'
theorem nine_good (s:ByteArray)(w:World)(hs:s.size≤1099511627776)(toks:List Tok)(nodes:List Nd)(ce:CE)(hform:formF s.data.toList 200=.good toks nodes)(F:FGood s.data.toList toks nodes ce) :
  Calls Tryz.prog 41 #[.string s] w (RdNine (ce.pe toks 0) w):=by
 have HF:=Lib.hid (fun W=>formula_any s 200 W (by omega) (by omega) hs)
 rw [hform] at HF
 have HFo:=Lib.hid (fun B at_ ct an cn W hT hB=>formulaOf_yes B at_ ct an cn s toks nodes ce W hT hB F)
 generalize ce.pe toks 0=x at HFo ⊢
 have hb0:=below_new w (.cells (boxZ 0 ⟨#[]⟩ ⟨#[]⟩ false (.slice none 0 0) false (.slice none 0 0) 0) 40)
 have hN:=heap_alloc_new w (.cells (boxZ 0 ⟨#[]⟩ ⟨#[]⟩ false (.slice none 0 0) false (.slice none 0 0) 0) 40)
 clear hform F
 go_enter Tryz.func41,Tryz.ntmps41
 go_upto_region 2 with (go_at_call 24;refine (HF.out _).mono ?_;rintro e w1 ⟨hb1,at_,ct,an,cn,rfl,hty⟩)
 have hb2:=(below_new w1 (.cells #[.slice at_ toks.length ct,.slice an nodes.length cn] 25)).alloc (by simp) (.cells #[.int .i64 0,.int .i64 0] 44)
 have hT:=(hty.at).below hb2
 have e1:=(Lib.alloc_old (w1.alloc (.cells #[.slice at_ toks.length ct,.slice an nodes.length cn] 25)) (.cells #[.int .i64 0,.int .i64 0] 44) w1.heap.size (by simp)).trans (heap_alloc_new w1 (.cells #[.slice at_ toks.length ct,.slice an nodes.length cn] 25))
 have e2:=heap_alloc_new (w1.alloc (.cells #[.slice at_ toks.length ct,.slice an nodes.length cn] 25)) (.cells #[.int .i64 0,.int .i64 0] 44)
 rw [World.size_alloc] at e2
 have hN1:=(hb1.block w.heap.size (by simp)).trans hN
 have hl1:=(Array.getElem?_eq_some_iff.1 hN1).1
 have hN2:=(hb2.block w.heap.size hl1).trans hN1
 have hbw:=(hb0.trans (hb1.mono (by simp))).trans (hb2.mono (by omega))
 have hs2:=hb2.size
 clear hty hb1 hb2 HF hN hN1 hb0
 generalize (w1.alloc _).alloc _=w3 at hT e1 e2 hN2 hbw hs2 ⊢
 have hlt3:w.heap.size<w1.heap.size:=hl1
 generalize w1.heap.size=tb at hT e1 e2 hs2 hlt3 ⊢
 obtain ⟨c0,c1⟩:=tree_cells e1
 have HFx:=Lib.hid (HFo.out tb at_ ct an cn w3 hT hs2)
 have HE2:=Lib.hid e2
 have HN2:=Lib.hid hN2
 clear HFo hT e1 e2 hN2 hl1
 go_upto_region 3 with (go_at_call 12;refine HFx.out.mono ?_;rintro e w4 ⟨am,wn,cm,ae,ce,rfl,hx4,hb4⟩)
 have hb5:=hb4.alloc hb4.size (.cells (boxZ x.op ⟨x.name.toArray⟩ ⟨x.module.toArray⟩ (decide (x.num<0)) (.slice am wn cm) x.yes (.slice ae x.kids.length ce) x.at_) 40)
 have hX:=heap_alloc_new w4 (.cells (boxZ x.op ⟨x.name.toArray⟩ ⟨x.module.toArray⟩ (decide (x.num<0)) (.slice am wn cm) x.yes (.slice ae x.kids.length ce) x.at_) 40)
 have hx5:=hx4.frame (w':=w4.alloc (.cells (boxZ x.op ⟨x.name.toArray⟩ ⟨x.module.toArray⟩ (decide (x.num<0)) (.slice am wn cm) x.yes (.slice ae x.kids.length ce) x.at_) 40)) ⟨by simp,fun b _ hb=>Lib.alloc_old _ _ _ hb⟩
 have hl2:=(Array.getElem?_eq_some_iff.1 HE2.out).1
 have hl0:=(Array.getElem?_eq_some_iff.1 HN2.out).1
 have hz4:=hb4.size
 have hE5:=(hb5.block (tb+1) hl2).trans HE2.out
 have hN5:=(hb5.block w.heap.size hl0).trans HN2.out
 have hbw5:=hbw.trans (hb5.mono (by omega))
 change Code.wp _ _ _ _ (w4.alloc (.cells (boxZ x.op ⟨x.name.toArray⟩ ⟨x.module.toArray⟩ (decide (x.num<0)) (.slice am wn cm) x.yes (.slice ae x.kids.length ce) x.at_) 40))
 have hxb:w3.heap.size≤w4.heap.size:=hz4
 have hz5:w4.heap.size<(w4.alloc (.cells (boxZ x.op ⟨x.name.toArray⟩ ⟨x.module.toArray⟩ (decide (x.num<0)) (.slice am wn cm) x.yes (.slice ae x.kids.length ce) x.at_) 40)).heap.size:=by simp
 generalize w4.alloc (.cells (boxZ x.op ⟨x.name.toArray⟩ ⟨x.module.toArray⟩ (decide (x.num<0)) (.slice am wn cm) x.yes (.slice ae x.kids.length ce) x.at_) 40)=w5 at hX hx5 hE5 hN5 hbw5 hz5 ⊢
 obtain ⟨y0,y1,y2,y3,y4,y5,y6,y7⟩:=boxZ_cells hX
 obtain ⟨f0,f1,-⟩:=fault_cells hE5
 obtain ⟨z0,z1,z2,z3,z4,z5,z6,z7⟩:=boxZ_cells hN5
 have zz:=boxZ_free hN5
 have G1:=put8_cells (hN5:w5.heap[w.heap.size]?=some (.cells #[_,_,_,_,_,_,_,_] _ _)) (.int .i64 x.op) (.string ⟨x.name.toArray⟩) (.string ⟨x.module.toArray⟩) (.bool (decide (x.num<0))) (.slice am wn cm) (.bool x.yes) (.slice ae x.kids.length ce) (.int .i64 x.at_)
 have G2:=put8_below hbw5 (Nat.le_refl _) (.int .i64 x.op) (.string ⟨x.name.toArray⟩) (.string ⟨x.module.toArray⟩) (.bool (decide (x.num<0))) (.slice am wn cm) (.bool x.yes) (.slice ae x.kids.length ce) (.int .i64 x.at_)
 have G3:=(hx5.frame (put8_alk (fun b=>w3.heap.size≤b) w5 w.heap.size (.int .i64 x.op) (.string ⟨x.name.toArray⟩) (.string ⟨x.module.toArray⟩) (.bool (decide (x.num<0))) (.slice am wn cm) (.bool x.yes) (.slice ae x.kids.length ce) (.int .i64 x.at_) fun k hk=>by omega)).imp (Q:=fun b=>w.heap.size≤b) fun b hb _=>by omega
 have HG:=Lib.hid (And.intro G1 (And.intro G2 G3))
 clear hb5 hX hx5 hE5 hN5 hb4 hx4 hbw5 G1 G2 G3 c0 c1
 go_wp2
 have G:=HG.out
 change bodyPost _ _ _ _ _ (put8 w5 w.heap.size (.int .i64 x.op) (.string ⟨x.name.toArray⟩) (.string ⟨x.module.toArray⟩) (.bool (decide (x.num<0))) (.slice am wn cm) (.bool x.yes) (.slice ae x.kids.length ce) (.int .i64 x.at_))
 generalize put8 w5 w.heap.size (.int .i64 x.op) (.string ⟨x.name.toArray⟩) (.string ⟨x.module.toArray⟩) (.bool (decide (x.num<0))) (.slice am wn cm) (.bool x.yes) (.slice ae x.kids.length ce) (.int .i64 x.at_)=WZ at G ⊢
 obtain ⟨G1,G2,G3⟩:=G
 obtain ⟨s0,s1,s2,s3,s4,s5,s6,s7⟩:=boxZ_cells (op:=x.op) (NM:=⟨x.name.toArray⟩) (MD:=⟨x.module.toArray⟩) (ng:=decide (x.num<0)) (mv:=.slice am wn cm) (ys:=x.yes) (kv:=.slice ae x.kids.length ce) (a_:=x.at_) G1
 exact bodyPost_ret (v:=.tuple #[.agg #[.int .i64 x.op,.string ⟨x.name.toArray⟩,.string ⟨x.module.toArray⟩,.bool (decide (x.num<0)),.slice am wn cm,.bool x.yes,.slice ae x.kids.length ce,.int .i64 x.at_],.bool true]) (by simp [results,Tryz.results41,go_sem,s0,s1,s2,s3,s4,s5,s6,s7]) rfl ⟨am,wn,cm,ae,ce,rfl,G3,G2⟩
end Go.Proofs.YtdednahplodojaaGreatDoor

namespace Go.Proofs.YtdednahplodojaaGreatDoor
def nineT:List Tok:=[⟨2,[],[110,111,116],0⟩,⟨4,[],[40],3⟩,⟨1,[],[97],4⟩,⟨4,[],[38,38],5⟩,⟨4,[],[45],7⟩,⟨4,[],[40],8⟩,⟨1,[],[98],9⟩,⟨4,[],[43],10⟩,⟨3,[],[49],11⟩,⟨4,[],[41],12⟩,⟨4,[],[60],13⟩,⟨1,[],[99],14⟩,⟨4,[],[41],15⟩,⟨5,[],[],16⟩]
def nineS:List UInt8:=[110,111,116,40,97,38,38,45,40,98,43,49,41,60,99,41]
def nineC:CE:=.un (.group (.bin .nam (.bin (.un (.group (.bin .nam .num))) .nam)))
theorem nine_lex:lexAll nineS=.ok nineT:=by rfl
theorem nine_form:formF nineS 200=.good nineT ((aloneT nineC).em 0 0):=by kernel_rfl
theorem nine_fgood:FGood nineS nineT ((aloneT nineC).em 0 0) nineC :=
 form_good_of (d:=200) (by omega) nine_form nine_lex rfl (by
  simp only [nineC,CE.ok]
  exact ⟨.inl rfl,rfl,by decide,rfl,by decide,⟨.inr rfl,rfl,by decide,rfl,rfl⟩,rfl⟩) (by decide) (by decide)
def nineZ:PZ:=.mk 6 [] [] 0 false [.mk 18 [] [] 0 false [.mk 3 [97] [] 0 false [] 4,.mk 14 [] [] 0 false [.mk 5 [] [] 0 false [.mk 7 [] [] 0 false [.mk 3 [98] [] 0 false [] 9,.mk 1 [] [] 1 false [] 11] 10] 7,.mk 3 [99] [] 0 false [] 14] 13] 5] 0
theorem nine_z:(nineC.pe nineT 0).z=nineZ:=by rfl
theorem nine_dec:decF 1=[49]:=by rw [decF,dif_pos (by omega)];rfl
theorem nine_text:nineZ.text=[110,111,116,32,40,97,32,38,38,32,45,40,98,32,43,32,49,41,32,60,32,99,41]:=by
 have h:intF 1=[49]:=by rw [intF,if_neg (by decide)];exact nine_dec
 unfold nineZ
 simp only [PZ.text,textsZ,showF,h]
 rfl
theorem nine_right:nineZ.right true=true:=by
 have h:intF 1=[49]:=by rw [intF,if_neg (by decide)];exact nine_dec
 have h2:decide ((intF 1).length≤60)=true:=by rw [h];rfl
 unfold nineZ
 simp only [PZ.right,rightsZ,headB,mayB,namesB,valuesB,countB,h2]
 decide
theorem nine_fit:nineZ.fit:=by
 unfold nineZ
 simp only [PZ.fit,fitZ]
 decide
end Go.Proofs.YtdednahplodojaaGreatDoor
