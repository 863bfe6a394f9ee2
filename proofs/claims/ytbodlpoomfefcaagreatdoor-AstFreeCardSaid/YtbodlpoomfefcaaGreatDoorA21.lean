/- Walks and plain laws: ReadW10, ReadW11, LexNums, AsW2, GoodLaws, FofLaws, ZedW1. -/
import Derived.Test.YtbodlpoomfefcaaGreatDoorA20
set_option maxHeartbeats 16000000
set_option maxRecDepth 100000
set_option linter.unusedVariables false
set_option linter.unusedSimpArgs false
namespace Go.Proofs.YtbodlpoomfefcaaGreatDoor
open Go.RowKit Go
def itPT:Option CE→PT
 | none=>.leaf
 | some e=>e.pt
def subsF:List (Option CE)→Nat→List (CE × Nat)
 | [],_=>[]
 | none :: l,u=>subsF l (u+1)
 | some e :: l,u=>(e,u) :: subsF l (u+e.pt.lv)
theorem rep_ok {nodes:List Nd}{n:Int}{u:Nat}{t:PT}(h:Rep nodes n u t):0≤n∧n<(nodes.length:Int):=by
 cases t with
 | leaf=>rw [Rep] at h;have:=(List.getElem?_eq_some_iff.1 h.2).1;omega
 | node k l=>rw [Rep] at h;obtain ⟨ks,h0,h1,_⟩:=h;have:=(List.getElem?_eq_some_iff.1 h1).1;omega
theorem repL_ok {nodes:List Nd}:∀ {l:List PT} {ks:List Int} {u:Nat},RepL nodes ks u l→∀ k∈ks,0≤k∧k<(nodes.length:Int)
 | [],ks,u,h=>by rw [RepL] at h;subst h;intro k hk;cases hk
 | t :: l,ks,u,h=>by
  rw [RepL] at h
  obtain ⟨k,ks',rfl,h1,h2⟩:=h
  intro x hx
  rcases List.mem_cons.1 hx with rfl|hx
  ·exact rep_ok h1
  ·exact repL_ok h2 x hx
theorem parts_items {nodes:List Nd}:∀ (its:List (Option CE)) (ks:List Int) (u:Nat),RepL nodes ks u (its.map itPT) →
  (partsF nodes ks).length=(subsF its u).length∧∀ (j:Nat) (h1:j<(partsF nodes ks).length) (h2:j<(subsF its u).length),Rep nodes (partsF nodes ks)[j] (subsF its u)[j].2 (subsF its u)[j].1.pt
 | [],ks,u,h=>by
  simp only [List.map_nil,RepL] at h
  subst h
  exact ⟨rfl,fun j h1=>absurd h1 (by simp [partsF])⟩
 | none :: its,ks,u,h=>by
  simp only [List.map_cons,RepL,itPT] at h
  obtain ⟨k,ks',rfl,h1,h2⟩:=h
  rw [PT.lv] at h2
  have ih:=parts_items its ks' (u+1) h2
  simp only [parts_leaf h1,subsF]
  exact ih
 | some e :: its,ks,u,h=>by
  simp only [List.map_cons,RepL,itPT] at h
  obtain ⟨k,ks',rfl,h1,h2⟩:=h
  have ih:=parts_items its ks' _ h2
  simp only [parts_node h1,subsF]
  refine ⟨by simp [ih.1],fun j h3 h4=>?_⟩
  cases j with
  | zero=>exact h1
  | succ j=>exact ih.2 j (by simpa using h3) (by simpa using h4)
theorem CE.lv_pos (e:CE):0<e.pt.lv:=by
 cases e with
 | call q l=>rw [CE.pt,PT.lv,lvL_append];simp [lvL,PT.lv]
 | num=>simp [CE.pt,PT.lv,lvL]
 | truth=>simp [CE.pt,PT.lv,lvL]
 | res=>simp [CE.pt,PT.lv,lvL]
 | nam=>simp [CE.pt,PT.lv,lvL]
 | group e=>simp [CE.pt,PT.lv,lvL];omega
 | un e=>simp [CE.pt,PT.lv,lvL];omega
 | bin a b=>simp [CE.pt,PT.lv,lvL];omega
 | iff a b c=>simp [CE.pt,PT.lv,lvL];omega
 | lett a b=>simp [CE.pt,PT.lv,lvL];omega
 | asrt a b=>simp [CE.pt,PT.lv,lvL];omega
theorem items_len:∀ (its:List (Option CE)),its.length≤lvL (its.map itPT)
 | []=>Nat.le_refl _
 | none :: its=>by have:=items_len its;simp only [List.map_cons,lvL,itPT,PT.lv,List.length_cons];omega
 | some e :: its=>by have:=items_len its;have:=e.lv_pos;simp only [List.map_cons,lvL,itPT,List.length_cons];omega
structure REnv where
 B:Nat
 tv:Value
 nv:Value
 toks:List Tok
 nodes:List Nd
 cl:Bool
structure REnv.ok (E:REnv):Prop where
 len:E.toks.length≤1000000
 nums:∀ u,u<E.toks.length→kindAt E.toks u=3→∀ W,Calls Tryz.prog 80 #[.string ⟨(textAt E.toks u).toArray⟩] W (ZPost (decV (textAt E.toks u)) W)
def REnv.At (E:REnv)(W:World):Prop:=TreeAt E.B W (.agg #[E.tv,E.nv]) E.toks E.nodes∧E.B≤W.heap.size
def REnv.reads (E:REnv)(e:CE)(u:Nat):Prop:=∀ (i:Nat) (W:World),Rep E.nodes i u e.pt→E.At W→Calls Tryz.prog 42 #[.agg #[E.tv,E.nv],.int .i64 i] W (EPost XA (e.pe E.toks u) W)
theorem made_items (E:REnv)(its:List (Option CE))(ks:List Int)(u i:Nat)(k:Int)(hn:E.nodes[i]?=some ⟨k,-1,ks⟩)(hr:RepL E.nodes ks u (its.map itPT))(hlen:ks.length≤1000000000)(hsub:∀ p∈subsF its u,E.reads p.1 p.2)
  (op at_:Nat) (W:World) (hT:TreeAt E.B W (.agg #[E.tv,E.nv]) E.toks E.nodes) (hB:E.B≤W.heap.size) :
  Calls Tryz.prog 79 #[.agg #[E.tv,E.nv],.int .i64 op,.int .i64 at_,.int .i64 i] W (EPost XA (.mk op [] [] 0 [] false ((subsF its u).map fun p=>p.1.pe E.toks p.2) at_) W):=by
 obtain ⟨hi,hni⟩:=List.getElem?_eq_some_iff.1 hn
 obtain ⟨p1,p2⟩:=parts_items its ks u hr
 refine rmade_any E.B E.tv E.nv E.toks E.nodes i op at_ W hT hB hi (by rw [hni];exact repL_ok hr) (by rw [hni];exact hlen) _ (by rw [hni];simp [p1]) ?_
 rw [hni]
 intro j h1 h2 W' hT' hB'
 have h3:j<(subsF its u).length:=by simpa using h1
 have hrep:=p2 j h2 h3
 have hx:=hsub _ (List.getElem_mem h3)
 have hk:=rep_ok hrep
 simp only [List.getElem_map]
 obtain ⟨m,hm⟩:∃ m:Nat,(partsF E.nodes ks)[j]=(m:Int):=⟨((partsF E.nodes ks)[j]).toNat,by omega⟩
 rw [hm] at hrep ⊢
 exact hx m W' hrep ⟨hT',hB'⟩
theorem tok_peek {toks:List Tok}{u:Nat}(h:u<toks.length):toks[u]?=some (peekF toks u):=by
 rw [peekF,Nat.min_eq_left (by omega),List.getD_eq_getElem?_getD,List.getElem?_eq_getElem h,Option.getD_some]
theorem repL_leaf {nodes:List Nd}{ks:List Int}{u:Nat}{l:List PT}(h:RepL nodes ks u (.leaf :: l)):∃ (k:Nat) (ks':List Int),ks=(k:Int) :: ks'∧nodes[k]?=some ⟨19,(u:Nat),[]⟩∧RepL nodes ks' (u+1) l:=by
 rw [RepL] at h
 obtain ⟨k,ks',rfl,h1,h2⟩:=h
 obtain ⟨i,rfl,hi⟩:=h1.leafAt
 exact ⟨i,ks',rfl,hi,h2⟩
theorem repL_sub {nodes:List Nd}{ks:List Int}{u:Nat}{t:PT}{l:List PT}(h:RepL nodes ks u (t :: l)):∃ (k:Nat) (ks':List Int),ks=(k:Int) :: ks'∧Rep nodes k u t∧RepL nodes ks' (u+t.lv) l:=by
 rw [RepL] at h
 obtain ⟨k,ks',rfl,h1,h2⟩:=h
 have:=rep_ok h1
 exact ⟨k.toNat,ks',by rw [Int.toNat_of_nonneg this.1],by rw [Int.toNat_of_nonneg this.1];exact h1,h2⟩
def argsIts:List CE→List (Option CE)
 | []=>[]
 | e :: l=>some e :: (match l with | []=>[]|_ :: _=>none :: argsIts l)
theorem argsIts_two (e f:CE)(l:List CE):argsIts (e :: f :: l)=some e :: none :: argsIts (f :: l):=by
 conv=>lhs;rw [argsIts]
theorem argsIts_pt:∀ l:List CE,(argsIts l).map itPT=argsPT l
 | []=>by simp [argsIts,argsPT]
 | [e]=>by simp [argsIts,argsPT,itPT]
 | e :: f :: l=>by
  rw [argsIts_two,argsPT_two,List.map_cons,List.map_cons,argsIts_pt (f :: l)]
  rfl
theorem subs_args (toks:List Tok):∀ (l:List CE) (u:Nat),(subsF (argsIts l++[none]) u).map (fun p=>p.1.pe toks p.2)=argsPE toks u l
 | [],u=>by simp [argsIts,subsF,argsPE]
 | [e],u=>by simp [argsIts,subsF,argsPE]
 | e :: f :: l,u=>by
  rw [argsIts_two,List.cons_append,List.cons_append,subsF,subsF,List.map_cons,subs_args toks (f :: l)]
  conv=>rhs;rw [argsPE]
theorem subs_ok {E:REnv}:∀ (l:List CE) (u:Nat),argsOk E.toks E.cl u l→u+lvL (argsPT l)≤E.toks.length→(∀ e∈l,∀ v,e.ok E.toks E.cl v→v+e.pt.lv≤E.toks.length→E.reads e v)→∀ p∈subsF (argsIts l++[none]) u,E.reads p.1 p.2
 | [],u,_,_,_,p,hp=>by simp [argsIts,subsF] at hp
 | [e],u,ho,hl,hr,p,hp=>by
  rw [argsOk] at ho
  rw [argsPT_one] at hl
  simp only [lvL] at hl
  have h:p=(e,u):=by simpa [argsIts,subsF] using hp
  subst h
  exact hr e List.mem_cons_self u ho.1 (by omega)
 | e :: f :: l,u,ho,hl,hr,p,hp=>by
  rw [argsOk] at ho
  rw [argsPT_two] at hl
  simp only [lvL,PT.lv] at hl
  rw [argsIts_two,List.cons_append,List.cons_append,subsF,subsF] at hp
  rcases List.mem_cons.1 hp with rfl|hp
  ·exact hr e List.mem_cons_self u ho.1 (by omega)
  ·exact subs_ok (f :: l) _ ho.2 (by omega) (fun x hx=>hr x (List.mem_cons_of_mem _ hx)) p hp
theorem rep_node {nodes:List Nd}{i:Nat}{u k:Nat}{l:List PT}(h:Rep nodes i u (.node k l)):∃ ks,nodes[i]?=some ⟨(k:Nat),-1,ks⟩∧RepL nodes ks u l:=by
 rw [Rep] at h
 obtain ⟨ks,_,h1,h2⟩:=h
 rw [Int.toNat_natCast] at h1
 exact ⟨ks,h1,h2⟩
theorem kids_few {E:REnv}(hE:E.ok){ks:List Int}{u:Nat}{its:List (Option CE)}(h:RepL E.nodes ks u (its.map itPT))(hl:lvL (its.map itPT)≤E.toks.length):ks.length≤1000000000:=by
 have h1:=(repL_len h).1
 have h2:=items_len its
 have h3:=hE.len
 rw [List.length_map] at h1
 omega
theorem rexpr_leaf (E:REnv){i k0 u:Nat}{kd:Int}{ks:List Int}{W:World}{x:PE}(hAt:E.At W)(hn:E.nodes[i]?=some ⟨kd,-1,(k0:Int) :: ks⟩)(h0:E.nodes[k0]?=some ⟨19,(u:Nat),[]⟩)(hu:u<E.toks.length)(hx:RNeed E.B E.tv E.nv E.toks E.nodes i ((k0:Int) :: ks) (peekF E.toks u) kd x) :
  Calls Tryz.prog 42 #[.agg #[E.tv,E.nv],.int .i64 i] W (EPost XA x W) :=
 rexpr_all E.B E.tv E.nv E.toks E.nodes i kd _ W hAt.1 hAt.2 hn k0 rfl _ _ h0 (.inl ⟨u,rfl,tok_peek hu⟩) x hx
theorem rtext_at {B:Nat}{tv nv:Value}{toks:List Tok}{nodes:List Nd}{k u:Nat}{W:World}(hT:TreeAt B W (.agg #[tv,nv]) toks nodes)(hB:B≤W.heap.size)(h:nodes[k]?=some ⟨19,(u:Nat),[]⟩)(hu:u<toks.length) :
  Calls Tryz.prog 74 #[.agg #[tv,nv],.int .i64 k] W fun e w'=>e=.returned (.string ⟨(textAt toks u).toArray⟩)∧Below W.heap.size W w':=by
 have h1:=rtext_any B tv nv toks nodes k u W hT hB h hu
 have e:=tok_peek hu
 rw [List.getElem?_eq_getElem hu] at e
 rw [Option.some.inj e] at h1
 exact h1
theorem rexpr_reads (E:REnv)(hE:E.ok):∀ (n:Nat) (e:CE) (u:Nat),SizeOf.sizeOf e<n→e.ok E.toks E.cl u→u+e.pt.lv≤E.toks.length→E.reads e u
 | 0,e,u,h,_,_=>absurd h (by omega)
 | n+1,.num,u,_,ho,hl=>by
  intro i W hrep hAt
  rw [CE.ok] at ho
  rw [CE.pt] at hrep hl
  simp only [PT.lv,lvL] at hl
  obtain ⟨ks,hn,hr⟩:=rep_node hrep
  obtain ⟨k0,ks',rfl,h0,_⟩:=repL_leaf hr
  rw [CE.pe]
  exact rexpr_leaf E hAt hn h0 (by omega) (.num _ _ (hE.nums u (by omega) ho))
 | n+1,.truth,u,_,ho,hl=>by
  intro i W hrep hAt
  rw [CE.ok] at ho
  rw [CE.pt] at hrep hl
  simp only [PT.lv,lvL] at hl
  obtain ⟨ks,hn,hr⟩:=rep_node hrep
  obtain ⟨k0,ks',rfl,h0,_⟩:=repL_leaf hr
  rw [CE.pe]
  rcases ho with ho|ho
  ·rw [decide_eq_true ho]
   exact rexpr_leaf E hAt hn h0 (by omega) (.tru ho)
  ·rw [decide_eq_false (by rw [ho];decide)]
   exact rexpr_leaf E hAt hn h0 (by omega) (.fls ho)
 | n+1,.res,u,_,ho,hl=>by
  intro i W hrep hAt
  rw [CE.pt] at hrep hl
  simp only [PT.lv,lvL] at hl
  obtain ⟨ks,hn,hr⟩:=rep_node hrep
  obtain ⟨k0,ks',rfl,h0,_⟩:=repL_leaf hr
  rw [CE.pe]
  exact rexpr_leaf E hAt hn h0 (by omega) .res
 | n+1,.nam,u,_,ho,hl=>by
  intro i W hrep hAt
  rw [CE.pt] at hrep hl
  simp only [PT.lv,lvL] at hl
  obtain ⟨ks,hn,hr⟩:=rep_node hrep
  obtain ⟨k0,ks',rfl,h0,_⟩:=repL_leaf hr
  rw [CE.pe]
  exact rexpr_leaf E hAt hn h0 (by omega) .nam
 | n+1,.group e,u,hs,ho,hl=>by
  intro i W hrep hAt
  rw [CE.ok] at ho
  rw [CE.pt] at hrep hl
  simp only [PT.lv,lvL] at hl
  simp only [CE.group.sizeOf_spec] at hs
  obtain ⟨ks,hn,hr⟩:=rep_node hrep
  obtain ⟨k0,ks',rfl,h0,hr⟩:=repL_leaf hr
  obtain ⟨k1,ks',rfl,h1,_⟩:=repL_sub hr
  rw [CE.pe]
  exact rexpr_leaf E hAt hn h0 (by omega) (.group k1 _ rfl (fun W hT hB=>rexpr_reads E hE n e (u+1) (by omega) ho.2 (by omega) k1 W h1 ⟨hT,hB⟩))
 | n+1,.un e,u,hs,ho,hl=>by
  intro i W hrep hAt
  rw [CE.ok] at ho
  rw [CE.pt] at hrep hl
  simp only [PT.lv,lvL] at hl
  simp only [CE.un.sizeOf_spec] at hs
  obtain ⟨ks,hn,hr⟩:=rep_node hrep
  have hM:=made_items E [none,some e] ks u i _ hn hr (kids_few hE (its:=[none,some e]) hr (by simp only [List.map_cons,List.map_nil,itPT,lvL,PT.lv];omega)) (fun p hp=>by
   have h:p=(e,u+1):=by simpa [subsF] using hp
   subst h
   exact rexpr_reads E hE n e (u+1) (by omega) ho.2 (by omega))
  obtain ⟨k0,ks',rfl,h0,_⟩:=repL_leaf hr
  rw [CE.pe]
  rcases ho.1 with h|h
  ·rw [if_pos h]
   exact rexpr_leaf E hAt hn h0 (by omega) (.not _ h fun op at_ W hT hB=>hM op at_ W hT hB)
  ·rw [if_neg (by rw [h];decide)]
   exact rexpr_leaf E hAt hn h0 (by omega) (.neg _ h fun op at_ W hT hB=>hM op at_ W hT hB)
 | n+1,.bin a b,u,hs,ho,hl=>by
  intro i W hrep hAt
  rw [CE.ok] at ho
  rw [CE.pt] at hrep hl
  simp only [PT.lv,lvL] at hl
  simp only [CE.bin.sizeOf_spec] at hs
  obtain ⟨ks,hn,hr⟩:=rep_node hrep
  have hM:=made_items E [some a,none,some b] ks u i _ hn hr (kids_few hE (its:=[some a,none,some b]) hr (by simp only [List.map_cons,List.map_nil,itPT,lvL,PT.lv];omega)) (fun p hp=>by
   have h:p=(a,u)∨p=(b,u+a.pt.lv+1):=by simpa [subsF] using hp
   rcases h with rfl|rfl
   ·exact rexpr_reads E hE n a u (by omega) ho.2.1 (by omega)
   ·exact rexpr_reads E hE n b _ (by omega) ho.2.2 (by omega))
  obtain ⟨k0,ks',rfl,h0,hr⟩:=repL_sub hr
  obtain ⟨k1,ks',rfl,h1,_⟩:=repL_leaf hr
  obtain ⟨c,la,ea,c1,c2⟩:=a.node
  rw [ea] at h0
  obtain ⟨ksa,hna,_⟩:=rep_node h0
  rw [CE.pe]
  refine rexpr_all E.B E.tv E.nv E.toks E.nodes i _ _ W hAt.1 hAt.2 hn k0 rfl _ _ hna (.inr ⟨by simp only;omega,rfl⟩) _ (.bin _ fun W' hT hB=>?_)
  exact rbinary_any _ E.B E.tv E.nv E.toks E.nodes i _ W' hT hB hn k1 (u+a.pt.lv) rfl h1 _ (tok_peek (by omega)) ho.1 hM
 | n+1,.iff a b c,u,hs,ho,hl=>by
  intro i W hrep hAt
  rw [CE.ok] at ho
  rw [CE.pt] at hrep hl
  simp only [PT.lv,lvL] at hl
  simp only [CE.iff.sizeOf_spec] at hs
  obtain ⟨ks,hn,hr⟩:=rep_node hrep
  have hM:=made_items E [none,some a,none,some b,none,some c] ks u i _ hn hr (kids_few hE (its:=[none,some a,none,some b,none,some c]) hr (by simp only [List.map_cons,List.map_nil,itPT,lvL,PT.lv];omega)) (fun p hp=>by
   have h:p=(a,u+1)∨p=(b,u+1+a.pt.lv+1)∨p=(c,u+1+a.pt.lv+1+b.pt.lv+1):=by simpa [subsF] using hp
   rcases h with rfl|rfl|rfl
   ·exact rexpr_reads E hE n a _ (by omega) ho.2.1 (by omega)
   ·exact rexpr_reads E hE n b _ (by omega) ho.2.2.1 (by omega)
   ·exact rexpr_reads E hE n c _ (by omega) ho.2.2.2 (by omega))
  obtain ⟨k0,ks',rfl,h0,_⟩:=repL_leaf hr
  rw [CE.pe]
  exact rexpr_leaf E hAt hn h0 (by omega) (.iff _ fun op at_ W hT hB=>hM op at_ W hT hB)
 | n+1,.lett a b,u,hs,ho,hl=>by
  intro i W hrep hAt
  rw [CE.ok] at ho
  rw [CE.pt] at hrep hl
  simp only [PT.lv,lvL] at hl
  simp only [CE.lett.sizeOf_spec] at hs
  obtain ⟨ks,hn,hr⟩:=rep_node hrep
  have hM:=made_items E [none,none,none,some a,none,some b] ks u i _ hn hr (kids_few hE (its:=[none,none,none,some a,none,some b]) hr (by simp only [List.map_cons,List.map_nil,itPT,lvL,PT.lv];omega)) (fun p hp=>by
   have h:p=(a,u+3)∨p=(b,u+3+a.pt.lv+1):=by simpa [subsF] using hp
   rcases h with rfl|rfl
   ·exact rexpr_reads E hE n a _ (by omega) ho.2.2.1 (by omega)
   ·exact rexpr_reads E hE n b _ (by omega) ho.2.2.2 (by omega))
  obtain ⟨k0,ks',rfl,h0,hr⟩:=repL_leaf hr
  obtain ⟨k1,ks',rfl,h1,_⟩:=repL_leaf hr
  rw [CE.pe]
  exact rexpr_leaf E hAt hn h0 (by omega) (.lett _ k1 _ (fun op at_ W hT hB=>hM op at_ W hT hB) rfl fun W hT hB=>rtext_at hT hB h1 (by omega))
 | n+1,.asrt a b,u,hs,ho,hl=>by
  intro i W hrep hAt
  rw [CE.ok] at ho
  rw [CE.pt] at hrep hl
  simp only [PT.lv,lvL] at hl
  simp only [CE.asrt.sizeOf_spec] at hs
  obtain ⟨ks,hn,hr⟩:=rep_node hrep
  have hM:=made_items E [none,some a,none,some b] ks u i _ hn hr (kids_few hE (its:=[none,some a,none,some b]) hr (by simp only [List.map_cons,List.map_nil,itPT,lvL,PT.lv];omega)) (fun p hp=>by
   have h:p=(a,u+1)∨p=(b,u+1+a.pt.lv+1):=by simpa [subsF] using hp
   rcases h with rfl|rfl
   ·exact rexpr_reads E hE n a _ (by omega) ho.2.1 (by omega)
   ·exact rexpr_reads E hE n b _ (by omega) ho.2.2 (by omega))
  obtain ⟨k0,ks',rfl,h0,_⟩:=repL_leaf hr
  rw [CE.pe]
  exact rexpr_leaf E hAt hn h0 (by omega) (.asrt _ fun op at_ W hT hB=>hM op at_ W hT hB)
 | n+1,.call q l,u,hs,ho,hl=>by
  intro i W hrep hAt
  rw [CE.ok] at ho
  rw [CE.pt] at hrep hl
  simp only [CE.call.sizeOf_spec] at hs
  have hsz:∀ e∈l,∀ v,e.ok E.toks E.cl v→v+e.pt.lv≤E.toks.length→E.reads e v:=fun e he v h1 h2 =>
   rexpr_reads E hE n e v (by have:=List.sizeOf_lt_of_mem he;omega) h1 h2
  obtain ⟨ks,hn,hr⟩:=rep_node hrep
  cases q with
  | true =>
   simp only [if_true] at hr hl ho
   simp only [PT.lv,lvL_append,lvL] at hl
   have hr':RepL E.nodes ks u (([none,none,none,none]++(argsIts l++[none])).map itPT):=by
    rw [List.map_append,List.map_append,argsIts_pt]
    simpa [itPT] using hr
   have hM:=made_items E ([none,none,none,none]++(argsIts l++[none])) ks u i _ hn hr' (kids_few hE hr' (by rw [List.map_append,List.map_append,argsIts_pt];simp only [List.map_cons,List.map_nil,itPT,lvL_append,lvL,PT.lv];omega)) (fun p hp=>by
    simp only [List.cons_append,List.nil_append,subsF] at hp
    exact subs_ok l (u+4) ho.2.2.2.2.2 (by omega) hsz p hp)
   simp only [List.cons_append,List.nil_append,subsF] at hM
   rw [subs_args] at hM
   obtain ⟨k0,ks',rfl,h0,hr⟩:=repL_leaf hr
   obtain ⟨k1,ks',rfl,h1,hr⟩:=repL_leaf hr
   obtain ⟨k2,ks',rfl,h2,hr⟩:=repL_leaf hr
   rw [CE.pe,if_pos rfl]
   refine rexpr_leaf E hAt hn h0 (by omega) (.call _ fun W' hT hB=>?_)
   exact rcall_any true _ _ _ E.B E.tv E.nv E.toks E.nodes i _ W' hT hB hn k0 u rfl h0 _ (tok_peek (by omega)) k1 (u+1) rfl h1 _ (tok_peek (by omega)) ho.2.2.2.1 k2 (u+2) (fun _=>rfl) (fun _=>h2) _ (fun _=>tok_peek (by omega)) (.inl ⟨rfl,rfl,rfl⟩) hM
  | false =>
   simp only [Bool.false_eq_true,if_false] at hr hl ho
   simp only [PT.lv,lvL_append,lvL] at hl
   have hr':RepL E.nodes ks u (([none,none]++(argsIts l++[none])).map itPT):=by
    rw [List.map_append,List.map_append,argsIts_pt]
    simpa [itPT] using hr
   have hM:=made_items E ([none,none]++(argsIts l++[none])) ks u i _ hn hr' (kids_few hE hr' (by rw [List.map_append,List.map_append,argsIts_pt];simp only [List.map_cons,List.map_nil,itPT,lvL_append,lvL,PT.lv];omega)) (fun p hp=>by
    simp only [List.cons_append,List.nil_append,subsF] at hp
    exact subs_ok l (u+2) ho.2.2.2.2 (by omega) hsz p hp)
   simp only [List.cons_append,List.nil_append,subsF] at hM
   rw [subs_args] at hM
   obtain ⟨k0,ks',rfl,h0,hr⟩:=repL_leaf hr
   obtain ⟨k1,ks',rfl,h1,hr⟩:=repL_leaf hr
   rw [CE.pe,if_neg (by decide)]
   refine rexpr_leaf E hAt hn h0 (by omega) (.call _ fun W' hT hB=>?_)
   exact rcall_any false _ _ _ E.B E.tv E.nv E.toks E.nodes i _ W' hT hB hn k0 u rfl h0 _ (tok_peek (by omega)) k1 (u+1) rfl h1 _ (tok_peek (by omega)) ho.2.2.2.1 0 0 (fun q=>by cases q) (fun q=>by cases q) (peekF E.toks u) (fun q=>by cases q) (.inr ⟨rfl,rfl,rfl⟩) hM
end Go.Proofs.YtbodlpoomfefcaaGreatDoor

namespace Go.Proofs.YtbodlpoomfefcaaGreatDoor
def numTok (l:List UInt8):Prop:=digitsB l=true∧l≠[]∧l.length≤60∧(l.head?=some 48→l.length=1)
theorem digitB_nat (c:UInt8):digitB c=(decide (48≤c.toNat) && decide (c.toNat≤57)):=by
 unfold digitB
 rw [Bool.eq_iff_iff]
 simp only [Bool.and_eq_true,decide_eq_true_eq,UInt8.le_iff_toNat_le]
 exact Iff.rfl
theorem tokF_num (T:List UInt8)(h:(tokF T).1=3)(h0:(tokF T).2.2=0):numTok (T.take (tokF T).2.1):=by
 cases T with
 | nil=>simp [tokF] at h
 | cons c r =>
  rw [tokF] at h h0 ⊢
  by_cases hc:letterB c=true
  ·rw [if_pos hc] at h
   simp only [wordF] at h
   split at h
   ·cases h
   ·split at h <;> cases h
  ·rw [if_neg hc] at h h0 ⊢
   by_cases hd:digitB c=true
   ·rw [if_pos hd] at h h0 ⊢
    simp only [numF] at h h0 ⊢
    split at h
    ·cases h
    ·rename_i h60
     rw [if_neg h60]
     simp only
     have ht:(c :: r).take ((c :: r).takeWhile digitB).length=(c :: r).takeWhile digitB:=(List.prefix_iff_eq_take.1 (List.takeWhile_prefix _)).symm
     have hne:(c :: r).takeWhile digitB≠[]:=by rw [List.takeWhile_cons_of_pos hd];simp
     have hall:∀ x∈(c :: r).takeWhile digitB,digitB x=true:=fun x hx=>by
      have:=List.all_takeWhile (l:=c :: r) (p:=digitB)
      rw [List.all_eq_true] at this
      exact this x hx
     rw [ht]
     generalize (c :: r).takeWhile digitB=w at h60 hne hall
     refine ⟨?_,hne,by omega,fun q=>?_⟩
     ·rw [digitsB,List.all_eq_true]
      intro x hx
      rw [← digitB_nat]
      exact hall x hx
     ·rw [List.head?_eq_getElem?] at q
      have:=List.length_pos_iff.2 hne
      by_cases h1:1<w.length
      ·exact absurd (.inr ⟨h1,q⟩) h60
      ·omega
   ·rw [if_neg hd,symF] at h
    split at h <;> cases h
theorem lexF_nums:∀ (n:Nat) (T:List UInt8) (p:Nat) (l:List Tok),lexF n T p=.ok l→∀ t∈l,t.kind=3→numTok t.text
 | 0,T,p,l,h,t,ht,hk=>by rw [lexF] at h;cases h
 | n+1,T,p,l,h,t,ht,hk=>by
  rw [lexF] at h
  try simp only at h
  split at h
  ·cases h
  rename_i h0
  split at h
  ·injection h with h
   subst h
   rw [List.mem_singleton] at ht
   subst ht
   cases hk
  ·split at h
   ·cases h
   ·rename_i l' hl'
    injection h with h
    subst h
    rcases List.mem_cons.1 ht with rfl|ht
    ·exact tokF_num _ hk (by omega)
    ·exact lexF_nums n _ _ _ hl' t ht hk
theorem lexAll_nums {S:List UInt8}{l:List Tok}(h:lexAll S=.ok l):∀ t∈l,t.kind=3→numTok t.text:=by
 unfold lexAll at h
 split at h
 ·cases h
 ·exact lexF_nums _ _ _ _ h
theorem peek_mem {toks:List Tok}(h:0<toks.length)(u:Nat):peekF toks u∈toks:=by
 unfold peekF
 rw [List.getD_eq_getElem?_getD,List.getElem?_eq_getElem (by omega),Option.getD_some]
 exact List.getElem_mem _
theorem numTok.dec {l:List UInt8}(h:numTok l):decF (decV l)=l:=dec_text l h.1 h.2.1 h.2.2.2
theorem lexAll_numsOk {S:List UInt8}{l:List Tok}(h:lexAll S=.ok l):NumsOk l:=fun u hu =>
 (lexAll_nums h _ (peek_mem (lexAll_laid h).some u) hu).dec
open Go.RowKit Go
theorem dec_two {n:Nat}(h:n<100):(decF n).length≤2:=by
 rw [decF]
 split
 ·simp
 ·rw [decF,dif_pos (by omega)]
  simp
mutual
theorem em_kinds:∀ (t:PT) (b u:Nat),t.wf→∀ n∈t.em b u,(0≤n.kind∧n.kind<100)∧(n.kind=19→(u:Int)≤n.tok∧n.tok<((u+t.lv:Nat):Int))
 | .leaf,b,u,_,n,h=>by
  rw [PT.em,List.mem_singleton] at h
  subst h
  rw [PT.lv]
  simp only
  omega
 | .node k l,b,u,hw,n,h=>by
  rw [PT.wf] at hw
  rw [PT.em,List.mem_append,List.mem_singleton] at h
  rcases h with h|h
  ·exact emL_kinds l b u hw.2.2 n h
  ·subst h
   simp only
   omega
theorem emL_kinds:∀ (l:List PT) (b u:Nat),wfL l→∀ n∈emL b u l,(0≤n.kind∧n.kind<100)∧(n.kind=19→(u:Int)≤n.tok∧n.tok<((u+lvL l:Nat):Int))
 | [],b,u,_,n,h=>by rw [emL] at h;cases h
 | t :: l,b,u,hw,n,h=>by
  rw [wfL] at hw
  rw [emL,List.mem_append] at h
  rw [lvL]
  rcases h with h|h
  ·have:=em_kinds t _ _ hw.1 n h
   exact ⟨this.1,fun q=>by have:=this.2 q;omega⟩
  ·have:=emL_kinds l _ _ hw.2 n h
   exact ⟨this.1,fun q=>by have:=this.2 q;omega⟩
end
mutual
theorem tdump_len {toks:List Tok}{M:Nat}(hM:∀ u,(textAt toks u).length≤M):∀ (t:PT) (u:Nat),t.wf→(t.dump toks u).length+1≤t.nd * (M+16)
 | .leaf,u,_=>by
  rw [PT.dump,leafDump,PT.nd,List.length_append]
  have:=hM u
  unfold textAt at this
  split <;> simp <;> omega
 | .node k l,u,hw=>by
  rw [PT.wf] at hw
  have h1:=tdumpL_len hM l u hw.2.2
  have h2:=dec_two (n:=k) (by omega)
  rw [PT.dump,PT.nd,Nat.succ_mul]
  simp only [List.length_append,List.length_cons,List.length_nil]
  omega
theorem tdumpL_len {toks:List Tok}{M:Nat}(hM:∀ u,(textAt toks u).length≤M):∀ (l:List PT) (u:Nat),wfL l→(dumpL toks u l).length≤ndL l * (M+16)
 | [],u,_=>by simp [dumpL]
 | t :: l,u,hw=>by
  rw [wfL] at hw
  have h1:=tdump_len hM t u hw.1
  have h2:=tdumpL_len hM l (u+t.lv) hw.2
  rw [dumpL,ndL,Nat.add_mul]
  simp only [List.length_append,List.length_cons,List.length_nil]
  omega
end
mutual
def PE.fits (M:Nat):PE→Prop
 | .mk op name module num txt _ kids _=>op<100∧name.length≤M∧module.length≤M∧txt.length≤M∧(intF num).length≤M∧num.natAbs<10 ^ 60∧fitsE M kids
def fitsE (M:Nat):List PE→Prop
 | []=>True
 | e :: l=>e.fits M∧fitsE M l
end
theorem decV_small {toks:List Tok}(hN:∀ t∈toks,t.kind=3→numTok t.text)(h0:0<toks.length){u:Nat}(hk:kindAt toks u=3):decV (textAt toks u)<10 ^ 60:=by
 have h:=hN _ (peek_mem h0 u) hk
 exact Nat.lt_of_lt_of_le (decV_lt _ h.1) (Nat.pow_le_pow_right (by omega) h.2.2.1)
mutual
theorem CE.fits {toks:List Tok}{M:Nat}(h0:0<toks.length)(hN:∀ t∈toks,t.kind=3→numTok t.text)(hM:∀ u,(textAt toks u).length≤M)(h1:1≤M){cl:Bool}:∀ (e:CE) (u:Nat),e.ok toks cl u→(e.pe toks u).fits M
 | .num,u,h=>by
  rw [CE.ok] at h
  rw [CE.pe,PE.fits,intF_nat,show decF (decV (textAt toks u))=textAt toks u from (hN _ (peek_mem h0 u) h).dec]
  have:=decV_small hN h0 h
  exact ⟨by omega,by simp,by simp,hM u,hM u,by omega,by rw [fitsE];trivial⟩
 | .truth,u,h=>by rw [CE.pe,PE.fits,fitsE];exact ⟨by omega,by simp,by simp,by simp,by simpa [intF,decF] using h1,by simp,trivial⟩
 | .res,u,h=>by rw [CE.pe,PE.fits,fitsE];exact ⟨by omega,by simp,by simp,by simp,by simpa [intF,decF] using h1,by simp,trivial⟩
 | .nam,u,h=>by rw [CE.pe,PE.fits,fitsE];exact ⟨by omega,hM u,by simp,by simp,by simpa [intF,decF] using h1,by simp,trivial⟩
 | .group e,u,h=>by
  rw [CE.ok] at h
  rw [CE.pe]
  exact CE.fits h0 hN hM h1 e _ h.2
 | .un e,u,h=>by
  rw [CE.ok] at h
  rw [CE.pe,PE.fits,fitsE,fitsE]
  exact ⟨by split <;> omega,by simp,by simp,by simp,by simpa [intF,decF] using h1,by simp,CE.fits h0 hN hM h1 e _ h.2,trivial⟩
 | .bin a b,u,h=>by
  rw [CE.ok] at h
  rw [CE.pe,PE.fits,fitsE,fitsE,fitsE]
  have hi:binL.idxOf (textAt toks (u+a.pt.lv))≤binL.length:=List.idxOf_le_length
  have hl:binL.length=14:=rfl
  exact ⟨by omega,by simp,by simp,by simp,by simpa [intF,decF] using h1,by simp,CE.fits h0 hN hM h1 a _ h.2.1,CE.fits h0 hN hM h1 b _ h.2.2,trivial⟩
 | .iff a b c,u,h=>by
  rw [CE.ok] at h
  rw [CE.pe,PE.fits,fitsE,fitsE,fitsE,fitsE]
  exact ⟨by omega,by simp,by simp,by simp,by simpa [intF,decF] using h1,by simp,CE.fits h0 hN hM h1 a _ h.2.1,CE.fits h0 hN hM h1 b _ h.2.2.1,CE.fits h0 hN hM h1 c _ h.2.2.2,trivial⟩
 | .lett a b,u,h=>by
  rw [CE.ok] at h
  rw [CE.pe,PE.fits,fitsE,fitsE,fitsE]
  exact ⟨by omega,hM _,by simp,by simp,by simpa [intF,decF] using h1,by simp,CE.fits h0 hN hM h1 a _ h.2.2.1,CE.fits h0 hN hM h1 b _ h.2.2.2,trivial⟩
 | .asrt a b,u,h=>by
  rw [CE.ok] at h
  rw [CE.pe,PE.fits,fitsE,fitsE,fitsE]
  exact ⟨by omega,by simp,by simp,by simp,by simpa [intF,decF] using h1,by simp,CE.fits h0 hN hM h1 a _ h.2.1,CE.fits h0 hN hM h1 b _ h.2.2,trivial⟩
 | .call q l,u,h=>by
  rw [CE.ok] at h
  rw [CE.pe]
  cases q with
  | true =>
   rw [if_pos rfl,PE.fits]
   exact ⟨by omega,hM _,hM _,by simp,by simpa [intF,decF] using h1,by simp,argsFits h0 hN hM h1 l _ h.2.2.2.2.2⟩
  | false =>
   rw [if_neg (by decide),PE.fits]
   exact ⟨by omega,hM _,by simp,by simp,by simpa [intF,decF] using h1,by simp,argsFits h0 hN hM h1 l _ h.2.2.2.2⟩
theorem argsFits {toks:List Tok}{M:Nat}(h0:0<toks.length)(hN:∀ t∈toks,t.kind=3→numTok t.text)(hM:∀ u,(textAt toks u).length≤M)(h1:1≤M){cl:Bool}:∀ (l:List CE) (u:Nat),argsOk toks cl u l→fitsE M (argsPE toks u l)
 | [],u,_=>by rw [argsPE,fitsE];trivial
 | e :: l,u,h=>by
  rw [argsOk] at h
  rw [argsPE,fitsE]
  exact ⟨CE.fits h0 hN hM h1 e _ h.1,argsFits h0 hN hM h1 l _ h.2⟩
end
theorem ndL_app (a b:List PT):ndL (a++b)=ndL a+ndL b:=ndL_append a b
mutual
def PE.sizeG:PE→Nat
 | .mk _ _ _ _ _ _ kids _=>1+sizeGE kids
def sizeGE:List PE→Nat
 | []=>0
 | e :: l=>e.sizeG+sizeGE l
end
mutual
theorem CE.sizeG_le (toks:List Tok):∀ (e:CE) (u:Nat),(e.pe toks u).sizeG≤e.pt.nd
 | .num,u=>by simp [CE.pe,PE.sizeG,sizeGE,CE.pt,PT.nd,ndL]
 | .truth,u=>by simp [CE.pe,PE.sizeG,sizeGE,CE.pt,PT.nd,ndL]
 | .res,u=>by simp [CE.pe,PE.sizeG,sizeGE,CE.pt,PT.nd,ndL]
 | .nam,u=>by simp [CE.pe,PE.sizeG,sizeGE,CE.pt,PT.nd,ndL]
 | .group e,u=>by
  have:=CE.sizeG_le toks e (u+1)
  simp only [CE.pe,CE.pt,PT.nd,ndL]
  omega
 | .un e,u=>by
  have:=CE.sizeG_le toks e (u+1)
  simp only [CE.pe,PE.sizeG,sizeGE,CE.pt,PT.nd,ndL]
  omega
 | .bin a b,u=>by
  have h1:=CE.sizeG_le toks a u
  have h2:=CE.sizeG_le toks b (u+a.pt.lv+1)
  simp only [CE.pe,PE.sizeG,sizeGE,CE.pt,PT.nd,ndL]
  omega
 | .iff a b c,u=>by
  have h1:=CE.sizeG_le toks a (u+1)
  have h2:=CE.sizeG_le toks b (u+1+a.pt.lv+1)
  have h3:=CE.sizeG_le toks c (u+1+a.pt.lv+1+b.pt.lv+1)
  simp only [CE.pe,PE.sizeG,sizeGE,CE.pt,PT.nd,ndL]
  omega
 | .lett a b,u=>by
  have h1:=CE.sizeG_le toks a (u+3)
  have h2:=CE.sizeG_le toks b (u+3+a.pt.lv+1)
  simp only [CE.pe,PE.sizeG,sizeGE,CE.pt,PT.nd,ndL]
  omega
 | .asrt a b,u=>by
  have h1:=CE.sizeG_le toks a (u+1)
  have h2:=CE.sizeG_le toks b (u+1+a.pt.lv+1)
  simp only [CE.pe,PE.sizeG,sizeGE,CE.pt,PT.nd,ndL]
  omega
 | .call q l,u=>by
  have h:∀ u,sizeGE (argsPE toks u l)≤ndL (argsPT l):=fun u=>argsSizeG_le toks l u
  cases q with
  | true =>
   have:=h (u+4)
   simp only [CE.pe,if_pos,PE.sizeG,CE.pt,PT.nd,ndL_app,ndL]
   omega
  | false =>
   have:=h (u+2)
   simp only [CE.pe,PE.sizeG,CE.pt,PT.nd,ndL_app,ndL,Bool.false_eq_true,if_false]
   omega
theorem argsSizeG_le (toks:List Tok):∀ (l:List CE) (u:Nat),sizeGE (argsPE toks u l)≤ndL (argsPT l)
 | [],u=>by simp [argsPE,sizeGE]
 | [e],u=>by
  have:=CE.sizeG_le toks e u
  simp only [argsPE,sizeGE,argsPT_one,ndL]
  omega
 | e :: f :: l,u=>by
  have h1:=CE.sizeG_le toks e u
  have h2:=argsSizeG_le toks (f :: l) (u+e.pt.lv+1)
  rw [argsPE,sizeGE,argsPT_two,ndL,ndL]
  simp only [PT.nd]
  omega
end
theorem head_len {op:Nat}{nm md nu:List UInt8}{ys:Bool}{M:Nat}(h1:op<100)(h2:nm.length≤M)(h3:md.length≤M)(h4:nu.length≤M):(headF op nm md nu ys).length≤3 * M+20:=by
 have:=dec_two h1
 unfold headF
 simp only [List.length_append,List.length_cons,List.length_nil]
 split <;> split <;> split <;> (try split) <;> (try split) <;> simp <;> omega
mutual
theorem dumpT_len {M:Nat}:∀ (e:PE),e.fits M→e.dumpT.length+1≤e.sizeG * (3 * M+30)
 | .mk op name module num txt yes kids a,h=>by
  rw [PE.fits] at h
  have h1:=dumpTE_len kids h.2.2.2.2.2.2
  have h2:=head_len (ys:=yes) h.1 h.2.1 h.2.2.1 h.2.2.2.1
  rw [PE.dumpT,PE.sizeG,Nat.add_mul]
  simp only [List.length_append,List.length_cons,List.length_nil]
  omega
theorem dumpTE_len {M:Nat}:∀ (l:List PE),fitsE M l→(dumpTE l).length≤sizeGE l * (3 * M+30)
 | [],_=>by simp [dumpTE]
 | e :: l,h=>by
  rw [fitsE] at h
  have h1:=dumpT_len e h.1
  have h2:=dumpTE_len l h.2
  rw [dumpTE,sizeGE,Nat.add_mul]
  simp only [List.length_append,List.length_cons,List.length_nil]
  omega
end
theorem text_few {S:List UInt8}{toks:List Tok}(h:lexAll S=.ok toks)(u:Nat):(textAt toks u).length≤S.length:=by
 have hL:=lexAll_laid h
 have hm:=peek_mem hL.some u
 obtain ⟨i,hi,e⟩:=List.mem_iff_getElem.1 hm
 have h1:=congrArg List.length (hL.text i hi)
 rw [List.length_take,List.length_drop] at h1
 unfold textAt
 rw [← e]
 omega
structure FGood (S:List UInt8) (toks:List Tok) (nodes:List Nd) (ce:CE):Prop where
 small:S.length≤65536
 lexed:lexAll S=.ok toks
 nodes_eq:nodes=(aloneT ce).em 0 0
 okk:ce.ok toks true 0
 lv:ce.pt.lv+1=toks.length
 good:GoodT toks nodes ((aloneT ce).dump toks 0)
 whole:wholeF toks=S
 deep:formF S 200=.good toks nodes
 fits:(ce.pe toks 0).fits 65536
 told:(ce.pe toks 0).told
 few:(ce.pe toks 0).sizeG≤200000
theorem form_good_of {S:List UInt8}{d:Nat}{toks:List Tok}{nodes:List Nd}{ce:CE}(hd:d≤200)(h:formF S d=.good toks nodes)(hl:lexAll S=.ok toks)(he:nodes=(aloneT ce).em 0 0)(hok:ce.ok toks true 0)(hlv:ce.pt.lv+1=toks.length)(hn:nodes.length≤2 * toks.length+2):FGood S toks nodes ce:=by
 have hs:S.length≤65536:=by
  unfold lexAll at hl
  split at hl
  ·cases hl
  ·omega
 have hL:=lexAll_laid hl
 have hc:=hL.count
 have hw:(aloneT ce).wf:=by
  rw [aloneT,PT.wf,wfL,wfL,wfL,PT.wf]
  exact ⟨by omega,by omega,CE.wf ce,trivial,trivial⟩
 have hlv2:(aloneT ce).lv=toks.length:=by
  rw [aloneT,PT.lv,lvL,lvL,lvL,PT.lv]
  omega
 have hnd:nodes.length=(aloneT ce).nd:=by rw [he,PT.em_len]
 have hnp:=(aloneT ce).nd_pos
 have hM:∀ u,(textAt toks u).length≤65536:=fun u=>Nat.le_trans (text_few hl u) hs
 have hdl:=tdump_len hM (aloneT ce) 0 hw
 have hN:=lexAll_nums hl
 have hsz:=CE.sizeG_le toks ce 0
 have hnd2:(aloneT ce).nd=ce.pt.nd+1+1:=by rw [aloneT,PT.nd,ndL,ndL,ndL,PT.nd]
 refine ⟨hs,hl,he,hok,hlv,⟨by omega,by omega,fun n hm=>?_,by omega,?_,?_,?_,?_,fun n hm=>?_,fun n hm h19=>?_⟩,hL.whole_eq,formF_deeper hd h,CE.fits hL.some hN hM (by omega) ce 0 hok,CE.told (lexAll_numsOk hl) ce 0 hok,by omega⟩
 ·rw [he] at hm
  have:=em_kids _ _ _ n hm
  omega
 ·rw [he];exact right_em _ hw _ hlv2
 ·rw [hnd,he,leaves_em _ hw (by omega),hlv2]
 ·rw [hnd,he];exact dump_em toks _ hw (by omega)
 ·have:(aloneT ce).nd * (65536+16)≤200000 * (65536+16):=Nat.mul_le_mul_right _ (by omega)
  omega
 ·rw [he] at hm
  exact (em_kinds _ _ _ hw n hm).1
 ·rw [he] at hm
  have:=(em_kinds _ _ _ hw n hm).2 h19
  omega
end Go.Proofs.YtbodlpoomfefcaaGreatDoor

namespace Go.Proofs.YtbodlpoomfefcaaGreatDoor
open Go.RowKit Go
def Wd (P:Nat→Prop)(w:World)(m:Value)(ws:List Nat):Prop:=SlP P w m 1 ws.length (ws.map fun d=>.int .u32 (d:Nat))
theorem Wd.form {P:Nat→Prop}{w:World}{m:Value}{ws:List Nat}(h:Wd P w m ws):∃ ao cap,m=.slice ao ws.length cap∧ws.length≤cap ∧
  (0<ws.length→∃ b off,ao=some ⟨b,off,none⟩∧P b∧b<w.heap.size∧∀ j,(hj:j<ws.length)→w.cell? ⟨b,off+j,none⟩=some (.int .u32 (ws[j]:Nat))):=by
 obtain ⟨ao,cap,hv,hn,hl,hc⟩:=h
 refine ⟨ao,cap,hv,hn,fun h0=>?_⟩
 obtain ⟨b,off,ha,hP,hlt,hcell⟩:=hc h0
 exact ⟨b,off,ha,hP,hlt,fun j hj=>by rw [hcell j (by simpa using hj)];simp⟩
theorem Wd.take {P:Nat→Prop}{w:World}{ao:Option Addr}{cap k:Nat}{ws:List Nat}(h:Wd P w (.slice ao ws.length cap) ws)(hk:k≤ws.length):Wd P w (.slice ao k cap) (ws.take k):=by
 obtain ⟨ao',cap',hv,hn,hl,hc⟩:=h
 simp only [Value.slice.injEq] at hv
 obtain ⟨rfl,_,rfl⟩:=hv
 have hlen:(ws.take k).length=k:=by rw [List.length_take];omega
 refine ⟨ao,cap,by rw [hlen],by omega,by simp,fun h0=>?_⟩
 obtain ⟨b,off,ha,hP,hlt,hcell⟩:=hc (by omega)
 refine ⟨b,off,ha,hP,hlt,fun j hj=>?_⟩
 simp only [List.length_map] at hj
 rw [hcell j (by simp only [List.length_map];omega)]
 simp
theorem trimW_at (ws:List Nat)(k:Nat)(hk:k≤ws.length)(h0:∀ j,k≤j→(h:j<ws.length)→ws[j]=0)(h1:∀ j,j+1=k→(h:j<ws.length)→ws[j]≠0):(trimW ws).length=k∧ws.take k=trimW ws:=by
 obtain ⟨n,n1,n2,n3,n4⟩:=trimW_take ws
 have:n=k:=by
  rcases Nat.lt_trichotomy n k with h|h|h
  ·exact absurd (n3 (k - 1) (by omega) (by omega)) (h1 (k - 1) (by omega) (by omega))
  ·exact h
  ·exact absurd (h0 (n - 1) (by omega) (by omega)) (n4 (n - 1) (by omega) (by omega))
 subst this
 exact ⟨by rw [n2,List.length_take];omega,n2.symm⟩
theorem ztrim_any (P:Nat→Prop)(ao:Option Addr)(cap:Nat)(ws:List Nat)(w:World)(h:Wd P w (.slice ao ws.length cap) ws)(hn:ws.length≤1099511627776) :
  Calls Tryz.prog 131 #[.slice ao ws.length cap] w fun e w'=>e=.returned (.slice ao (trimW ws).length cap)∧w'=w:=by
 obtain ⟨ao',cap',hv,hc1,hf⟩:=h.form
 simp only [Value.slice.injEq] at hv
 obtain ⟨rfl,-,rfl⟩:=hv
 have HF:=Lib.hid hf
 clear hf h
 go_enter Tryz.func131,Tryz.ntmps131
 go_wp2
 go_loop [3] (fun q=>∃ k:Nat,k≤ws.length∧q=.int .i64 k∧∀ j,k≤j→(hj:j<ws.length)→ws[j]=0) (fun q=>(intOf q).toNat)
 case atStart=>exact ⟨ws.length,Nat.le_refl _,rfl,fun j h1 h2=>absurd h2 (by omega)⟩
 case round =>
  obtain ⟨k,hk,rfl,h0⟩:=hrel
  have H0:=Lib.hid h0
  clear h0
  by_cases hk0:k=0
  ·subst hk0
   obtain ⟨t1,_⟩:=trimW_at ws 0 (Nat.zero_le _) H0.out (fun j hj=>by omega)
   have HT:=Lib.hid t1
   clear t1
   go_wp2
   go_ret
   exact ⟨by rw [HT.out];rfl,rfl⟩
  ·obtain ⟨k',rfl⟩:∃ k',k=k'+1:=⟨k - 1,by omega⟩
   obtain ⟨b,off,rfl,_,_,hcell⟩:=HF.out (by omega)
   have hx:=hcell k' (by omega)
   have hw:(((k'+1:Nat):Int) - 1)=(k':Int):=by omega
   have hkI:(k':Int)<(ws.length:Int):=by omega
   have hpos:(0:Int)<((k'+1:Nat):Int):=by omega
   by_cases hz:ws[k']=0
   ·have HZ:=Lib.hid hz
    rw [hz] at hx
    clear hz hcell
    go_wp2
    go_round
    case rel=>exact ⟨k',by omega,by go_num,fun j h1 h2=>by
     rcases Nat.lt_or_ge k' j with h|h
     ·exact H0.out j h h2
     ·obtain rfl:j=k':=by omega
      exact HZ.out⟩
    case measure=>simp [intOf]
   ·have hz1:((ws[k']:Int) == 0)=false:=by simpa using hz
    have hz2:∀ j,j+1=k'+1→(h:j<ws.length)→ws[j]≠0:=fun j hj hj2=>by
     have e:j=k':=by omega
     subst e
     exact hz
    obtain ⟨t1,_⟩:=trimW_at ws (k'+1) hk H0.out hz2
    clear hz2
    have HT:=Lib.hid t1
    clear t1 hz hcell
    generalize ws[k']=d at hx hz1
    have hkc:((k'+1:Nat):Int)≤(cap:Int):=by omega
    go_wp2
    go_ret
    exact ⟨by rw [HT.out];rfl,rfl⟩
theorem Tryz.infoU32:(Tryz.prog.info? 275).map (fun i=>(i.zero,i.size,i.bytes))=some (some (.int .u32 0),1,4):=by kernel_rfl
theorem take_of {α:Type}{l t:List α}{k:Nat}{r:α}(h:l=l.take k++r :: t)(hk:(l.take k).length=k):l.take (k+1)=l.take k++[r]∧l=l.take (k+1)++t:=by
 have h1:l.take (k+1)=l.take k++[r]:=by
  conv=>lhs;rw [h]
  rw [List.take_append,hk,List.take_of_length_le (by omega),Nat.add_sub_cancel_left,List.take_succ_cons,List.take_zero]
 exact ⟨h1,by rw [h1,List.append_assoc];exact h⟩
theorem word_cast (c x b:Nat):((c:Int)+(x:Int) * (b:Int)) % 4294967296=(((c+x * b) % 4294967296:Nat):Int)∧((c:Int)+(x:Int) * (b:Int)) / 4294967296=(((c+x * b) / 4294967296:Nat):Int):=by
 rw [← Int.natCast_mul]
 generalize x * b=y
 omega
def WPost (ws:List Nat)(w:World)(e:Ending)(w':World):Prop:=∃ v,e=.returned v∧w'.ownsRow w.heap.size 275 1 v ws.length (ws.map fun d=>.int .u32 (d:Nat))∧Below w.heap.size w w'
theorem scale_any (P:Nat→Prop)(m:Value)(ws:List Nat)(by_ more:Nat)(w:World)(h:Wd P w m ws)(hw:∀ x∈ws,x<4294967296)(hb:by_≤1000000000)(hm:more≤1000000000)(hn:ws.length≤1000) :
  Calls Tryz.prog 132 #[m,.int .u64 by_,.int .u64 more] w (WPost (scaleF by_ ws more) w):=by
 obtain ⟨i0,hi,hz0,hz1,hz2⟩:=info_parts Tryz.infoU32
 obtain ⟨ao,cap,rfl,hc1,hf⟩:=h.form
 have HF:=Lib.hid hf
 have HW:=Lib.hid hw
 clear hf h hw
 obtain ⟨wm,hmk,hown0,hgr0⟩:=run_make_own (P:=Tryz.prog) w w.heap.size 35 275 i0 (.int .u32 0) 1 Tryz.underlying35 hi hz0 hz1 .i64 .i64 (ws.length+1) (by rw [hz2];omega) (by unfold maxLen;omega) (Nat.le_refl _)
 rw [show (((ws.length+1:Nat)):Int)=(ws.length:Int)+1 by omega] at hmk
 have hbm:Below w.heap.size w wm:=(Below.refl _ _).grown hgr0 (Nat.le_refl _) (fun k hk=>by cases hk)
 clear hgr0
 go_enter Tryz.func132,Tryz.ntmps132
 go_wp2
 clear hmk
 go_loopw [2,7,16] (fun mv v q wr=>∃ k c:Nat,k≤ws.length∧q=.int .i64 k∧mv=.int .u64 c∧c≤1000000000∧wr.ownsRow w.heap.size 275 1 v k (((scaleF by_ ws more).take k).map fun d=>.int .u32 (d:Nat))∧scaleF by_ ws more=(scaleF by_ ws more).take k++scaleF by_ (ws.drop k) c∧Below w.heap.size w wr) (fun _ _ q _=>ws.length - (intOf q).toNat)
 case atStart=>exact ⟨0,more,Nat.zero_le _,rfl,rfl,hm,hown0,by simp,hbm⟩
 case round =>
  obtain ⟨k,c,hk,rfl,rfl,hc,hown,heq,hbl⟩:=hrel
  have hz:=hbl.size
  by_cases hlt:k<ws.length
  ·obtain ⟨b,off,rfl,_,hb',hcell⟩:=HF.out (by omega)
   have hx:=(hbl.cell (p:=⟨b,off+k,none⟩) hb').trans (hcell k hlt)
   have hxw:=HW.out ws[k] (List.getElem_mem hlt)
   have hkI:(k:Int)<(ws.length:Int):=by omega
   have hdr:ws.drop k=ws[k] :: ws.drop (k+1):=List.drop_eq_getElem_cons hlt
   rw [hdr,scaleF] at heq
   generalize ws[k]=x at hx hxw heq
   have hcar:=carry_le hxw hb hc
   have hE:=Lib.hid heq
   clear heq hcell hdr
   have hlt2:((scaleF by_ ws more).take k).length=k:=by rw [List.length_take,scaleF_len];omega
   have HL:=Lib.hid hlt2
   clear hlt2
   go_wp2_with (at_builtin;refine wpList_append_own _ rfl _ _ 35 rfl w.heap.size 275 i0 (.int .u32 0) 1 4 Tryz.underlying35 hi hz0 hz1 hz2 rfl (by decide) _ _ _ rfl (hown.alloc _) ⟨wr.heap.size,0,none⟩ 1 1 [.int .u32 (((c:Int)+(x:Int) * (by_:Int)) % 4294967296)] rfl rfl ?c1 ?c2 ?c3 ?c4 ?c5 ?_)
   case c1 =>
    intro j' u hj'
    exact World.news_of_block (cs:=#[.int .u32 (((c:Int)+(x:Int) * (by_:Int)) % 4294967296)]) (t:=275) (fr:=(0,0)) (heap_alloc_new wr _) j' u (by simpa using hj')
   case c2=>simp [Value.oneCell']
   case c3=>unfold maxLen;omega
   case c4=>omega
   case c5=>simp;omega
   intro v' w2 hown2 hgrow2 _
   have hb2:Below w.heap.size w w2:=(hbl.alloc hz _).grown hgrow2 (by simp;omega) (fun q hq=>by have:=(hown.lt q hq).1;omega)
   have H2:=Lib.hid hown2
   clear hgrow2 hown2 hown
   go_wp2
   go_roundw
   case rel =>
    refine ⟨k+1,(c+x * by_) / 4294967296,by omega,by go_num,?_,hcar.2,?_,?_,hb2⟩
    ·rw [(word_cast c x by_).2]
    ·rw [(take_of hE.out HL.out).1,List.map_append,List.map_singleton,← (word_cast c x by_).1,List.map_take]
     exact H2.out
    ·exact (take_of hE.out HL.out).2
   case measure=>simp [intOf];omega
  ·have hkl:k=ws.length:=by omega
   subst hkl
   rw [List.drop_length,scaleF] at heq
   have hlt2:((scaleF by_ ws more).take ws.length).length=ws.length:=by rw [List.length_take,scaleF_len];omega
   have hfin:=(take_of heq hlt2).1
   rw [List.take_of_length_le (by rw [scaleF_len];exact Nat.le_refl _)] at hfin
   have HE:=Lib.hid hfin
   clear hfin hlt2 heq
   generalize (scaleF by_ ws more).take ws.length=acc at hown HE
   go_wp2_with (at_builtin;refine wpList_append_own _ rfl _ _ 35 rfl w.heap.size 275 i0 (.int .u32 0) 1 4 Tryz.underlying35 hi hz0 hz1 hz2 rfl (by decide) _ _ _ rfl (hown.alloc _) ⟨wr.heap.size,0,none⟩ 1 1 [.int .u32 (c:Int)] rfl rfl ?e1 ?e2 ?e3 ?e4 ?e5 ?_)
   case e1 =>
    intro j' u hj'
    exact World.news_of_block (cs:=#[.int .u32 (c:Int)]) (t:=275) (fr:=(0,0)) (heap_alloc_new wr _) j' u (by simpa using hj')
   case e2=>simp [Value.oneCell']
   case e3=>unfold maxLen;omega
   case e4=>omega
   case e5=>simp;omega
   intro v' w2 hown2 hgrow2 _
   have hb2:Below w.heap.size w w2:=(hbl.alloc hz _).grown hgrow2 (by simp;omega) (fun q hq=>by have:=(hown.lt q hq).1;omega)
   have H2:=Lib.hid hown2
   clear hgrow2 hown2 hown
   go_wp2
   go_ret
   refine ⟨v',rfl,?_,hb2⟩
   rw [HE.out,List.map_append,List.map_singleton,Nat.mod_eq_of_lt (show c<4294967296 by omega),← Nat.mod_eq_of_lt (show c<4294967296 by omega),← HE.out,scaleF_len,Nat.mod_eq_of_lt (show c<4294967296 by omega)]
   exact H2.out
end Go.Proofs.YtbodlpoomfefcaaGreatDoor
