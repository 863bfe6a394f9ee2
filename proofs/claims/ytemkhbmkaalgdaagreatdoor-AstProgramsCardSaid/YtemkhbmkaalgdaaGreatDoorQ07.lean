/- Walks and plain laws: ProgItems, Recs, TreeW1, ExprMem, ReadW1, ReadW2. -/
import Derived.Test.YtemkhbmkaalgdaaGreatDoorQ06
import Derived.Deep.RegionLaw
import Derived.Test.YtemkhbmkaalgdaaGreatDoorProg
set_option maxHeartbeats 16000000
set_option maxRecDepth 100000
namespace Go.Proofs.YtemkhbmkaalgdaaGreatDoor
inductive It where
 | leaf
 | expr (e:CE)
 | par (t:TyS)
 | base
 | cl (e:CE)
def It.pt:It→PT
 | .leaf=>.leaf
 | .expr e=>e.pt
 | .par t=>t.par
 | .base=>.node 5 [.leaf]
 | .cl e=>.node 6 [.leaf,e.pt,.leaf]
structure TyA where
 base:Nat
 clause:List PE
 bare:Int
def It.step (toks:List Tok)(u:Nat):It→TyA→TyA
 | .base,a=>⟨if textAt toks u=tBool then 2 else 1,a.clause,((placeAt toks u+(textAt toks u).length:Nat):Int)⟩
 | .cl e,a=>⟨a.base,[e.pe toks (u+1)],-1⟩
 | _,a=>a
def typA (toks:List Tok):Nat→List It→TyA→TyA
 | _,[],a=>a
 | u,i :: l,a=>typA toks (u+i.pt.lv) l (i.step toks u a)
theorem typA_append (toks:List Tok):∀ (l k:List It) (u:Nat) (a:TyA),typA toks u (l++k) a=typA toks (u+lvL (l.map It.pt)) k (typA toks u l a)
 | [],k,u,a=>by simp [typA,lvL]
 | i :: l,k,u,a=>by
  rw [List.cons_append,typA,typA_append toks l k,typA,List.map_cons,lvL,Nat.add_assoc]
def parA (toks:List Tok):Nat→List It→List FF
 | _,[]=>[]
 | u,.par t :: l=>t.parFF toks u :: parA toks (u+(It.par t).pt.lv) l
 | u,i :: l=>parA toks (u+i.pt.lv) l
theorem parA_append (toks:List Tok):∀ (l k:List It) (u:Nat),parA toks u (l++k)=parA toks u l++parA toks (u+lvL (l.map It.pt)) k
 | [],k,u=>by simp [parA,lvL]
 | .par t :: l,k,u=>by
  rw [List.cons_append,parA,parA_append toks l k,parA,List.map_cons,lvL,Nat.add_assoc,List.cons_append]
 | .leaf :: l,k,u=>by
  rw [List.cons_append,parA,parA_append toks l k,parA,List.map_cons,lvL,Nat.add_assoc] <;> simp
 | .base :: l,k,u=>by
  rw [List.cons_append,parA,parA_append toks l k,parA,List.map_cons,lvL,Nat.add_assoc] <;> simp
 | .expr e :: l,k,u=>by
  rw [List.cons_append,parA,parA_append toks l k,parA,List.map_cons,lvL,Nat.add_assoc] <;> simp
 | .cl e :: l,k,u=>by
  rw [List.cons_append,parA,parA_append toks l k,parA,List.map_cons,lvL,Nat.add_assoc] <;> simp
def TyS.its (t:TyS):List It:=[.leaf,.base]++(match t.cl with|none=>[]|some e=>[.cl e])
theorem TyS.its_pt (t:TyS):t.its.map It.pt=t.pts:=by
 unfold TyS.its TyS.pts
 cases t.cl <;> rfl
def TyS.parIts (t:TyS):List It:=.leaf :: t.its
theorem TyS.parIts_pt (t:TyS):t.par=.node 4 (t.parIts.map It.pt):=by
 rw [TyS.par,TyS.parIts,List.map_cons,t.its_pt]
 rfl
def sepIts:List TyS→List It
 | []=>[]
 | t :: l=>.par t :: (match l with | []=>[]|_ :: _=>.leaf :: sepIts l)
theorem sepIts_pt:∀ l:List TyS,(sepIts l).map It.pt=sepPT (l.map TyS.par)
 | []=>rfl
 | [t]=>rfl
 | t :: s :: l=>by
  have:=sepIts_pt (s :: l)
  rw [show sepIts (t :: s :: l)=.par t :: .leaf :: sepIts (s :: l) from by rw [sepIts],List.map_cons,List.map_cons,this]
  show _=sepPT (t.par :: s.par :: l.map TyS.par)
  rw [sepPT_two]
  rfl
def DfS.leadIts (d:DfS):List It:=if d.pub=true then [.leaf] else []
def DfS.its (d:DfS):List It:=d.leadIts++([.leaf,.leaf,.leaf]++(sepIts d.pars++([.leaf]++(d.ty.its++[.leaf,.expr d.body,.leaf]))))
theorem DfS.its_pt (d:DfS):d.pt=.node 3 (d.its.map It.pt):=by
 have h:d.leadIts.map It.pt=d.lead:=by unfold DfS.leadIts DfS.lead;split <;> rfl
 rw [DfS.pt,DfS.kids,DfS.its]
 simp only [List.map_append,h,sepIts_pt,d.ty.its_pt,List.map_cons,List.map_nil,It.pt]
theorem typA_none (toks:List Tok):∀ (l:List It) (u:Nat) (a:TyA),(∀ i∈l,(i matches .leaf)∨(i matches .par _)∨(i matches .expr _))→typA toks u l a=a
 | [],u,a,_=>rfl
 | i :: l,u,a,h=>by
  rw [typA,typA_none toks l _ _ fun x hx=>h x (List.mem_cons_of_mem _ hx)]
  have:=h i List.mem_cons_self
  cases i <;> simp_all [It.step]
theorem typA_its (toks:List Tok)(t:TyS)(u:Nat)(name:List UInt8)(at_:Nat){b0:Nat}{y0:Int}:typA toks u t.its ⟨b0,[],y0⟩=⟨(t.ff toks u name at_).base,(t.ff toks u name at_).clause,(t.ff toks u name at_).bare⟩:=by
 unfold TyS.its TyS.ff
 cases t.cl with
 | none=>simp [typA,It.step,It.pt,PT.lv]
 | some e=>simp [typA,It.step,It.pt,PT.lv,lvL]
theorem sep_none:∀ l:List TyS,∀ i∈sepIts l,(i matches .leaf)∨(i matches .par _)∨(i matches .expr _)
 | [],i,h=>by rw [sepIts] at h;cases h
 | [t],i,h=>by
  rw [sepIts,List.mem_singleton] at h
  subst h
  exact .inr (.inl rfl)
 | t :: s :: l,i,h=>by
  rw [show sepIts (t :: s :: l)=.par t :: .leaf :: sepIts (s :: l) from by rw [sepIts],List.mem_cons,List.mem_cons] at h
  rcases h with rfl|rfl|h
  ·exact .inr (.inl rfl)
  ·exact .inl rfl
  ·exact sep_none (s :: l) i h
theorem TyS.par_typ (toks:List Tok)(t:TyS)(u:Nat){b0:Nat}{y0:Int}:typA toks u t.parIts ⟨b0,[],y0⟩=⟨(t.parFF toks u).base,(t.parFF toks u).clause,(t.parFF toks u).bare⟩:=by
 rw [TyS.parIts,typA,TyS.parFF]
 exact typA_its toks t (u+1) _ _
theorem DfS.typ (toks:List Tok)(d:DfS)(u:Nat){b0:Nat}{y0:Int}:typA toks u d.its ⟨b0,[],y0⟩=⟨(d.dd toks u).res.base,(d.dd toks u).res.clause,(d.dd toks u).res.bare⟩:=by
 have h1:∀ i∈d.leadIts,(i matches .leaf)∨(i matches .par _)∨(i matches .expr _):=fun i h=>by
  unfold DfS.leadIts at h
  split at h
  ·rw [List.mem_singleton] at h;subst h;exact .inl rfl
  ·cases h
 have h2:∀ i∈[It.leaf,.leaf,.leaf],(i matches .leaf)∨(i matches .par _)∨(i matches .expr _):=fun i h=>by
  simp only [List.mem_cons,List.not_mem_nil,or_false,or_self] at h;subst h;exact .inl rfl
 have h3:∀ i∈[It.leaf,.expr d.body,.leaf],(i matches .leaf)∨(i matches .par _)∨(i matches .expr _):=fun i h=>by
  simp only [List.mem_cons,List.not_mem_nil,or_false] at h
  rcases h with rfl|rfl|rfl
  ·exact .inl rfl
  ·exact .inr (.inr rfl)
  ·exact .inl rfl
 have h4:∀ i∈[It.leaf],(i matches .leaf)∨(i matches .par _)∨(i matches .expr _):=fun i h=>by
  rw [List.mem_singleton] at h;subst h;exact .inl rfl
 have hl:lvL (d.leadIts.map It.pt)=lvL d.lead:=by unfold DfS.leadIts DfS.lead;split <;> rfl
 rw [DfS.its,typA_append,typA_none toks _ _ _ h1,typA_append,typA_none toks _ _ _ h2,typA_append,typA_none toks _ _ _ (sep_none _),typA_append,typA_none toks _ _ _ h4,typA_append,typA_none toks _ _ _ h3]
 rw [show u+lvL (d.leadIts.map It.pt)+lvL ([It.leaf,.leaf,.leaf].map It.pt)+lvL ((sepIts d.pars).map It.pt)+lvL ([It.leaf].map It.pt)=d.at2 u by
  rw [hl,sepIts_pt]
  simp only [DfS.at2,DfS.at1,List.map_cons,List.map_nil,It.pt,lvL,PT.lv]]
 exact typA_its toks d.ty _ _ _
theorem parA_none (toks:List Tok):∀ (l:List It) (u:Nat),(∀ i∈l,¬ (i matches .par _))→parA toks u l=[]
 | [],u,_=>rfl
 | i :: l,u,h=>by
  have h1:=h i List.mem_cons_self
  have h2:=parA_none toks l (u+i.pt.lv) fun x hx=>h x (List.mem_cons_of_mem _ hx)
  cases i with
  | par t=>simp at h1
  | leaf=>rw [parA];exact h2;simp
  | base=>rw [parA];exact h2;simp
  | expr e=>rw [parA];exact h2;simp
  | cl e=>rw [parA];exact h2;simp
theorem parA_sep (toks:List Tok):∀ (l:List TyS) (u:Nat),parA toks u (sepIts l)=parsFF toks u l
 | [],u=>rfl
 | [t],u=>by rw [sepIts,parA,parA,parsFF,parsFF]
 | t :: s :: l,u=>by
  rw [show sepIts (t :: s :: l)=.par t :: .leaf :: sepIts (s :: l) from by rw [sepIts],parA,parA,parA_sep toks (s :: l),parsFF]
  ·rfl
  ·simp
theorem DfS.pars_par (toks:List Tok)(d:DfS)(u:Nat):parA toks u d.its=(d.dd toks u).params:=by
 have h1:∀ i∈d.leadIts,¬ (i matches .par _):=fun i h=>by
  unfold DfS.leadIts at h
  split at h
  ·rw [List.mem_singleton] at h;subst h;simp
  ·cases h
 have h2:∀ i∈[It.leaf,.leaf,.leaf],¬ (i matches .par _):=fun i h=>by
  simp only [List.mem_cons,List.not_mem_nil,or_false,or_self] at h;subst h;simp
 have h3:∀ i∈([It.leaf]++(d.ty.its++[.leaf,.expr d.body,.leaf])),¬ (i matches .par _):=fun i h=>by
  unfold TyS.its at h
  cases hc:d.ty.cl with
  | none =>
   rw [hc] at h
   simp only [List.mem_append,List.mem_cons,List.not_mem_nil,or_false] at h
   rcases h with rfl|(rfl|rfl)|rfl|rfl|rfl <;> simp
  | some e =>
   rw [hc] at h
   simp only [List.mem_append,List.mem_cons,List.not_mem_nil,or_false] at h
   rcases h with rfl|((rfl|rfl)|rfl)|rfl|rfl|rfl <;> simp
 have hl:lvL (d.leadIts.map It.pt)=lvL d.lead:=by unfold DfS.leadIts DfS.lead;split <;> rfl
 rw [DfS.its,parA_append,parA_none toks _ _ h1,parA_append,parA_none toks _ _ h2,parA_append,parA_none toks _ _ h3,parA_sep,List.nil_append,List.nil_append,List.append_nil,hl]
 simp only [List.map_cons,List.map_nil,It.pt,lvL,PT.lv]
 rfl
end Go.Proofs.YtemkhbmkaalgdaaGreatDoor

namespace Go.Proofs.YtemkhbmkaalgdaaGreatDoor
open Go.RowKit
theorem Rec.formN {α:Type}{B:Nat}{w:World}{v:Value}{sz n:Nat}{f:α→List Value}{l:List α}(h:Rec B w v sz f l)(hf:∀ x,(f x).length=sz)(hn:l.length=n) :
  ∃ ao cap,v=.slice ao n cap∧n≤cap∧(0<n→∃ b off,ao=some ⟨b,off,none⟩∧b<B ∧
   ∀ k j u,(hk:k<l.length)→(f l[k])[j]?=some u→w.cell? ⟨b,off+k * sz+j,none⟩=some u):=by
 subst hn
 exact h.form hf
theorem Rec.cells {α:Type}{B:Nat}{w:World}{ao:Option Addr}{n cap sz:Nat}{f:α→List Value}{l:List α}(h:Rec B w (.slice ao n cap) sz f l)(hf:∀ x,(f x).length=sz)(h0:0<l.length) :
  ∃ b off,ao=some ⟨b,off,none⟩∧b<B∧∀ k j u,(hk:k<l.length)→(f l[k])[j]?=some u→w.cell? ⟨b,off+k * sz+j,none⟩=some u:=by
 obtain ⟨ao',cap',hv,_,hc⟩:=h.form hf
 injection hv with q1 q2 q3
 subst q1
 exact hc h0
def nodeCells (p:Nd × Value):List Value:=[.int .i64 p.1.kind,.int .i64 p.1.tok,p.2]
def Ints (B:Nat)(w:World)(v:Value)(ks:List Int):Prop:=Sl B w v 1 ks.length (ks.map (Value.int .i64))
def TreeAt (B:Nat)(w:World)(v:Value)(toks:List Tok)(nodes:List Nd):Prop :=
 ∃ (tv nv:Value) (l:List (Nd × Value)),v=.agg #[tv,nv]∧Rec B w tv 4 tokCells toks∧l.map Prod.fst=nodes∧Rec B w nv 3 nodeCells l∧∀ p∈l,Ints B w p.2 p.1.kids
theorem Ints.below {B:Nat}{w w':World}{v:Value}{ks:List Int}(h:Ints B w v ks)(hb:Below B w w'):Ints B w' v ks:=Sl.below h hb
theorem Ints.mono {B B':Nat}{w:World}{v:Value}{ks:List Int}(h:Ints B w v ks)(hB:B≤B'):Ints B' w v ks:=Sl.mono h hB
theorem TreeAt.below {B:Nat}{w w':World}{v:Value}{toks:List Tok}{nodes:List Nd}(h:TreeAt B w v toks nodes)(hb:Below B w w'):TreeAt B w' v toks nodes:=by
 obtain ⟨tv,nv,l,h1,h2,h3,h4,h5⟩:=h
 exact ⟨tv,nv,l,h1,h2.below hb,h3,h4.below hb,fun p hp=>(h5 p hp).below hb⟩
theorem TreeAt.mono {B B':Nat}{w:World}{v:Value}{toks:List Tok}{nodes:List Nd}(h:TreeAt B w v toks nodes)(hB:B≤B'):TreeAt B' w v toks nodes:=by
 obtain ⟨tv,nv,l,h1,h2,h3,h4,h5⟩:=h
 exact ⟨tv,nv,l,h1,h2.mono hB,h3,h4.mono hB,fun p hp=>(h5 p hp).mono hB⟩
theorem Ints.form {B:Nat}{w:World}{v:Value}{ks:List Int}(h:Ints B w v ks):∃ ao cap,v=.slice ao ks.length cap∧ks.length≤cap ∧
  (0<ks.length→∃ b off,ao=some ⟨b,off,none⟩∧b<B∧∀ j,(hj:j<ks.length)→w.cell? ⟨b,off+j,none⟩=some (.int .i64 ks[j])):=by
 obtain ⟨ao,cap,hv,hn,hl,hc⟩:=h
 refine ⟨ao,cap,hv,hn,fun h0=>?_⟩
 obtain ⟨b,off,ha,hB,hcell⟩:=hc h0
 exact ⟨b,off,ha,hB,fun j hj=>by rw [hcell j (by simpa using hj)];simp⟩
theorem TreeAt.node {B:Nat}{w:World}{tv nv:Value}{toks:List Tok}{nodes:List Nd}(h:TreeAt B w (.agg #[tv,nv]) toks nodes){i:Nat}(hi:i<nodes.length) :
  ∃ b off cap kv,nv=.slice (some ⟨b,off,none⟩) nodes.length cap∧b<B∧w.cell? ⟨b,off+i * 3,none⟩=some (.int .i64 nodes[i].kind)∧w.cell? ⟨b,off+i * 3+1,none⟩=some (.int .i64 nodes[i].tok)∧w.cell? ⟨b,off+i * 3+2,none⟩=some kv∧Ints B w kv nodes[i].kids:=by
 obtain ⟨tv',nv',l,h1,h2,h3,h4,h5⟩:=h
 simp only [Value.agg.injEq] at h1
 obtain ⟨rfl,rfl⟩:tv=tv'∧nv=nv':=by simpa using h1
 subst h3
 rw [List.length_map] at hi ⊢
 obtain ⟨ao,cap,rfl,_,hf⟩:=h4.form (fun _=>rfl)
 obtain ⟨b,off,rfl,hb,hc⟩:=hf (by omega)
 refine ⟨b,off,cap,l[i].2,rfl,hb,?_,?_,?_,?_⟩
 ·rw [show off+i * 3=off+i * 3+0 by rfl,hc i 0 (.int .i64 l[i].1.kind) hi rfl];simp
 ·rw [hc i 1 (.int .i64 l[i].1.tok) hi rfl];simp
 ·rw [hc i 2 l[i].2 hi rfl]
 ·rw [List.getElem_map];exact h5 _ (List.getElem_mem hi)
theorem TreeAt.slices {B:Nat}{w:World}{v:Value}{toks:List Tok}{nodes:List Nd}(h:TreeAt B w v toks nodes) :
  ∃ at_ ct an cn,v=.agg #[.slice at_ toks.length ct,.slice an nodes.length cn]:=by
 obtain ⟨tv,nv,l,h1,h2,h3,h4,h5⟩:=h
 obtain ⟨a1,c1,rfl,_,_⟩:=h2.form (fun _=>rfl)
 obtain ⟨a2,c2,rfl,_,_⟩:=h4.form (fun _=>rfl)
 subst h3
 rw [List.length_map]
 exact ⟨a1,c1,a2,c2,h1⟩
theorem formedTest_any (i g:Nat)(k:Int)(w:World)(hg:w.cell? ⟨g,0,none⟩=some (.int .i64 i)) :
  Calls Tryz.prog 124 #[.int .i64 k,.pointer (some ⟨g,0,none⟩)] w fun e w'=>e=.returned (.bool (decide (k<0) || decide ((i:Int)≤k)))∧w'=w:=by
 by_cases hk:k<0
 ·have d1:decide (k<0)=true:=decide_eq_true hk
  go_enter Tryz.func124,Tryz.ntmps124
  go_wp2
  all_goals (go_ret;refine ⟨ret_bool ?_,rfl⟩;simp [*])
 ·have d1:decide (k<0)=false:=decide_eq_false hk
  go_enter Tryz.func124,Tryz.ntmps124
  go_wp2
  all_goals (go_ret;refine ⟨ret_bool ?_,rfl⟩;simp [*])
def badI (i:Nat)(k:Int):Bool:=decide (k<0) || decide ((i:Int)≤k)
def IdxP (p:Bool)(w:World)(e:Ending)(w':World):Prop:=(∃ r:Int,e=.returned (.int .i64 r)∧(0≤r↔p=true)∧-1≤r)∧w'=w
theorem formedIndex_any (i g B:Nat)(v:Value)(ks:List Int)(w:World)(hg:w.cell? ⟨g,0,none⟩=some (.int .i64 i))(hv:Ints B w v ks)(hn:ks.length≤1099511627776) :
  Calls Tryz.prog 140 #[v,.func (.func 124) #[] #[.pointer (some ⟨g,0,none⟩)]] w (IdxP (ks.any (badI i)) w):=by
 obtain ⟨ao,cap,rfl,_,hf⟩:=hv.form
 have HT:=Lib.hid (fun k=>formedTest_any i g k w hg)
 have HF:=Lib.hid hf
 clear hf hv hg
 go_enter Tryz.func140,Tryz.ntmps140
 go_wp2
 go_loop [8] (fun q=>∃ k:Nat,k≤ks.length∧q=.int .i64 k∧∀ j,(hj:j<ks.length)→j<k→badI i ks[j]=false) (fun q=>ks.length - (intOf q).toNat)
 case atStart=>exact ⟨0,Nat.zero_le _,rfl,fun j _ h=>absurd h (by omega)⟩
 case round =>
  obtain ⟨k,hk,rfl,hj⟩:=hrel
  by_cases hlt:k<ks.length
  ·obtain ⟨b,off,rfl,_,hc⟩:=HF.out (by omega)
   have hx:=hc k hlt
   have hI:(k:Int)<(ks.length:Int):=by omega
   have hT:=HT.out ks[k]
   cases ht:badI i ks[k] with
   | true =>
    have hany:ks.any (badI i)=true:=List.any_eq_true.2 ⟨_,List.getElem_mem hlt,ht⟩
    unfold badI at ht
    rw [ht] at hT
    generalize ks[k]=x at hx hT
    have H1:=Lib.hid hT
    have H2:=Lib.hid hany
    clear hc hj ht hT hany
    go_wp2_with (go_at_call 124;refine H1.out.mono ?_;rintro e w1 ⟨rfl,rfl⟩)
    go_ret
    exact ⟨⟨k,rfl,⟨fun _=>H2.out,fun _=>by omega⟩,by omega⟩,rfl⟩
   | false =>
    have HJ:Hid (∀ j,(hj:j<ks.length)→j<k+1→badI i ks[j]=false):=Lib.hid (fun j hjl hjk=>by
     by_cases hkj:j=k
     ·subst hkj;exact ht
     ·exact hj j hjl (by omega))
    unfold badI at ht
    rw [ht] at hT
    generalize ks[k]=x at hx hT
    have H1:=Lib.hid hT
    clear hc hj ht hT
    go_wp2_with (go_at_call 124;refine H1.out.mono ?_;rintro e w1 ⟨rfl,rfl⟩)
    go_round
    case rel=>exact ⟨k+1,by omega,by go_num,HJ.out⟩
    case measure=>simp [intOf];omega
  ·have hany:ks.any (badI i)=false:=by
    rw [← Bool.not_eq_true,List.any_eq_true]
    rintro ⟨x,hx,hb⟩
    obtain ⟨j,hjl,e⟩:=List.mem_iff_getElem.1 hx
    rw [← e,hj j hjl (by omega)] at hb
    cases hb
   have hI:decide ((k:Int)<(ks.length:Int))=false:=decide_eq_false (by omega)
   have H2:=Lib.hid hany
   clear hany hj
   go_wp2
   go_ret
   exact ⟨⟨-1,rfl,⟨fun h=>by omega,fun h=>by rw [H2.out] at h;cases h⟩,by omega⟩,rfl⟩
theorem formedContains_any (i g B:Nat)(v:Value)(ks:List Int)(w:World)(hg:w.cell? ⟨g,0,none⟩=some (.int .i64 i))(hv:Ints B w v ks)(hn:ks.length≤1099511627776) :
  Calls Tryz.prog 122 #[v,.func (.func 124) #[] #[.pointer (some ⟨g,0,none⟩)]] w fun e w'=>e=.returned (.bool (ks.any (badI i)))∧w'=w:=by
 have H:=Lib.hid (formedIndex_any i g B v ks w hg hv hn)
 clear hg hv
 go_enter Tryz.func122,Tryz.ntmps122
 go_wp2_with (go_at_call 140;refine H.out.mono ?_)
 rintro e w1 ⟨⟨r,rfl,hr,_⟩,rfl⟩
 have hq:(ks.any (badI i))=decide (0≤r):=by
  by_cases h:0≤r
  ·rw [decide_eq_true h];exact hr.1 h
  ·rw [decide_eq_false h,← Bool.not_eq_true];exact fun q=>h (hr.2 q)
 have HQ:=Lib.hid hq
 clear hq hr
 go_wp2
 go_ret
 exact ⟨ret_bool HQ.out.symm,rfl⟩
theorem formed_any (at_ an:Option Addr)(nt ct nn cn i B:Nat)(n:Nd)(kv:Value)(w:World)(hk:Ints B w kv n.kids)(hB:B≤w.heap.size)(hn:n.kids.length≤1099511627776) :
  Calls Tryz.prog 91 #[.agg #[.slice at_ nt ct,.slice an nn cn],.int .i64 i,.agg #[.int .i64 n.kind,.int .i64 n.tok,kv]] w fun e w'=>e=.returned (.bool (formedB nt i n))∧Below w.heap.size w w':=by
 obtain ⟨kind,tok,ks⟩:=n
 simp only at hk hn ⊢
 obtain ⟨ak,ck,rfl,_,_⟩:=hk.form
 by_cases h1:kind<1
 ·have hq:formedB nt i ⟨kind,tok,ks⟩=false:=by simp [formedB,h1]
  rw [hq]
  clear hq
  have d1:decide (kind<1)=true:=decide_eq_true h1
  go_enter Tryz.func91,Tryz.ntmps91
  go_wp2
  go_ret
  exact ⟨rfl,(((Below.refl _ _).alloc (Nat.le_refl _) _).alloc (by simp) _).alloc (by simp;omega) _⟩
 by_cases h2:19<kind
 ·have hq:formedB nt i ⟨kind,tok,ks⟩=false:=by simp [formedB,h2]
  rw [hq]
  clear hq
  have d1:decide (kind<1)=false:=decide_eq_false h1
  have d2:decide (19<kind)=true:=decide_eq_true h2
  go_enter Tryz.func91,Tryz.ntmps91
  go_wp2
  go_ret
  exact ⟨rfl,(((Below.refl _ _).alloc (Nat.le_refl _) _).alloc (by simp) _).alloc (by simp;omega) _⟩
 have d1:decide (kind<1)=false:=decide_eq_false h1
 have d2:decide (19<kind)=false:=decide_eq_false h2
 by_cases h3:kind=19
 ·subst h3
  have hq:formedB nt i ⟨19,tok,ks⟩=(decide ((ks.length:Int)=0) && (decide (0≤tok) && decide (tok<nt))):=by simp [formedB]
  rw [hq]
  clear hq hk d1 d2
  by_cases h4:ks.length=0
  ·obtain rfl:ks=[]:=List.length_eq_zero_iff.1 h4
   clear h4
   by_cases h5:0≤tok
   ·have d5:decide (0≤tok)=true:=decide_eq_true h5
    cases d6:decide (tok<(nt:Int)) with
    | true =>
     go_enter Tryz.func91,Tryz.ntmps91
     go_wp2
     go_ret
     exact ⟨ret_bool (by simp [*]),(((Below.refl _ _).alloc (Nat.le_refl _) _).alloc (by simp) _).alloc (by simp;omega) _⟩
    | false =>
     go_enter Tryz.func91,Tryz.ntmps91
     go_wp2
     go_ret
     exact ⟨ret_bool (by simp [*]),(((Below.refl _ _).alloc (Nat.le_refl _) _).alloc (by simp) _).alloc (by simp;omega) _⟩
   ·have d5:decide (0≤tok)=false:=decide_eq_false h5
    go_enter Tryz.func91,Tryz.ntmps91
    go_wp2
    go_ret
    exact ⟨ret_bool (by simp [*]),(((Below.refl _ _).alloc (Nat.le_refl _) _).alloc (by simp) _).alloc (by simp;omega) _⟩
  ·have d4:((ks.length:Int) == 0)=false:=by simp [h4]
   have d5:decide ((ks.length:Int)=0)=false:=decide_eq_false (by omega)
   rw [d5,Bool.false_and]
   clear d5
   go_enter Tryz.func91,Tryz.ntmps91
   go_wp2
   go_ret
   exact ⟨rfl,(((Below.refl _ _).alloc (Nat.le_refl _) _).alloc (by simp) _).alloc (by simp;omega) _⟩
 ·have d3:(kind == 19)=false:=by simp [h3]
  by_cases h4:tok=-1
  ·subst h4
   have hq:formedB nt i ⟨kind,-1,ks⟩=!(ks.any (badI i)):=by
    unfold formedB
    rw [if_neg (by simp only;omega),if_neg h3]
    rfl
   rw [hq]
   clear hq
   have HK:=Lib.hid hk
   clear hk
   go_enter Tryz.func91,Tryz.ntmps91
   go_wp2_with (go_at_call 122;refine (formedContains_any i (w.heap.size+1) B _ ks _ ?c1 (HK.out.below ?c2) hn).mono ?_)
   case c2=>exact (((Below.refl _ _).alloc hB _).alloc (by simp;omega) _).alloc (by simp;omega) _
   go_ret
   exact ⟨rfl,(((Below.refl _ _).alloc (Nat.le_refl _) _).alloc (by simp) _).alloc (by simp;omega) _⟩
  ·have hq:formedB nt i ⟨kind,tok,ks⟩=false:=by
    unfold formedB
    rw [if_neg (by simp only;omega),if_neg h3]
    simp [h4]
   rw [hq]
   clear hq hk
   have d4:(tok == -1)=false:=by simp [h4]
   go_enter Tryz.func91,Tryz.ntmps91
   go_wp2
   go_ret
   exact ⟨rfl,(((Below.refl _ _).alloc (Nat.le_refl _) _).alloc (by simp) _).alloc (by simp;omega) _⟩
def SlP (P:Nat→Prop)(w:World)(v:Value)(sz n:Nat)(cs:List Value):Prop :=
 ∃ ao cap,v=.slice ao n cap∧n≤cap∧cs.length=n * sz ∧
  (0<n→∃ b off,ao=some ⟨b,off,none⟩∧P b∧b<w.heap.size∧∀ i,(h:i<cs.length)→w.cell? ⟨b,off+i,none⟩=some cs[i])
def Alk (P:Nat→Prop)(w w':World):Prop:=w.heap.size≤w'.heap.size∧∀ b,P b→b<w.heap.size→w'.heap[b]?=w.heap[b]?
theorem Alk.refl (P:Nat→Prop)(w:World):Alk P w w:=⟨Nat.le_refl _,fun _ _ _=>rfl⟩
theorem Alk.trans {P:Nat→Prop}{a b c:World}(h:Alk P a b)(k:Alk P b c):Alk P a c:=⟨Nat.le_trans h.1 k.1,fun n hn hl=>(k.2 n hn (Nat.lt_of_lt_of_le hl h.1)).trans (h.2 n hn hl)⟩
theorem Alk.of {P:Nat→Prop}{w w':World}(h:Below w.heap.size w w'):Alk P w w':=⟨h.size,fun b _ hb=>h.block b hb⟩
theorem Alk.ofB {P:Nat→Prop}{B:Nat}{w w':World}(h:Below B w w')(hP:∀ b,P b→b<B):Alk P w w':=⟨h.size,fun b hb _=>h.block b (hP b hb)⟩
theorem Alk.grown {P:Nat→Prop}{w w':World}{row:Option Nat}(h:w.grownBy w' row)(hP:∀ b,P b→some b≠row):Alk P w w':=⟨h.size,fun b hb hl=>h.block b hl (hP b hb)⟩
theorem Alk.set {P:Nat→Prop}{w:World}{a:Addr}(u:Value)(hP:∀ b,P b→b≠a.block):Alk P w (w.setCell a u):=⟨by simp,fun b hb _=>heap_setCell_other _ _ _ _ (hP b hb)⟩
theorem SlP.frame {P:Nat→Prop}{w w':World}{v:Value}{sz n:Nat}{cs:List Value}(h:SlP P w v sz n cs)(ha:Alk P w w'):SlP P w' v sz n cs:=by
 obtain ⟨ao,cap,hv,hn,hl,hc⟩:=h
 refine ⟨ao,cap,hv,hn,hl,fun h0=>?_⟩
 obtain ⟨b,off,e,hP,hlt,hcell⟩:=hc h0
 exact ⟨b,off,e,hP,Nat.lt_of_lt_of_le hlt ha.1,fun i hi=>(World.cell?_of_block (a:=⟨b,off+i,none⟩) (ha.2 b hP hlt)).trans (hcell i hi)⟩
theorem SlP.imp {P Q:Nat→Prop}{w:World}{v:Value}{sz n:Nat}{cs:List Value}(h:SlP P w v sz n cs)(hq:∀ b,P b→b<w.heap.size→Q b):SlP Q w v sz n cs:=by
 obtain ⟨ao,cap,hv,hn,hl,hc⟩:=h
 refine ⟨ao,cap,hv,hn,hl,fun h0=>?_⟩
 obtain ⟨b,off,e,hP,hlt,hcell⟩:=hc h0
 exact ⟨b,off,e,hq b hP hlt,hlt,hcell⟩
theorem SlP.sl {P:Nat→Prop}{w:World}{v:Value}{sz n:Nat}{cs:List Value}(h:SlP P w v sz n cs):Sl w.heap.size w v sz n cs:=by
 obtain ⟨ao,cap,hv,hn,hl,hc⟩:=h
 refine ⟨ao,cap,hv,hn,hl,fun h0=>?_⟩
 obtain ⟨b,off,e,hP,hlt,hcell⟩:=hc h0
 exact ⟨b,off,e,hlt,hcell⟩
theorem SlP.nil (P:Nat→Prop)(w:World)(sz:Nat):SlP P w (.slice none 0 0) sz 0 []:=⟨none,0,rfl,Nat.le_refl _,by simp,fun h=>absurd h (by omega)⟩
theorem SlP.ofOwns {P:Nat→Prop}{B:Nat}{w:World}{e sz:Nat}{v:Value}{n:Nat}{cs:List Value}(h:w.ownsRow B e sz v n cs)(hP:∀ b,B≤b→P b):SlP P w v sz n cs:=by
 obtain ⟨ao,cap,hv,hn,hl,hc⟩:=Sl.ofOwns h
 refine ⟨ao,cap,hv,hn,hl,fun h0=>?_⟩
 obtain ⟨b,off,e,hlt,hcell⟩:=hc h0
 refine ⟨b,off,e,hP b ?_,hlt,hcell⟩
 rcases h.2 with ⟨hv',h1⟩|⟨g,cap',cur,hv',hg,_⟩
 ·omega
 ·rw [hv,e] at hv'
  simp only [Value.slice.injEq,Option.some.injEq,Addr.mk.injEq] at hv'
  omega
theorem SlP.form {P:Nat→Prop}{w:World}{v:Value}{sz n:Nat}{cs:List Value}(h:SlP P w v sz n cs):∃ ao cap,v=.slice ao n cap:=by
 obtain ⟨ao,cap,hv,_⟩:=h
 exact ⟨ao,cap,hv⟩
structure Shape where
 sz:Nat
 cells:PE→Value→Value→List Value
 agg:PE→Value→Value→Value
 num:(Nat→Prop)→World→Int→Value→Prop
 len:∀ e m k,(cells e m k).length=sz
 frame:∀ {P:Nat→Prop} {w w':World} {n:Int} {m:Value},num P w n m→Alk P w w'→num P w' n m
 imp:∀ {P Q:Nat→Prop} {w:World} {n:Int} {m:Value},num P w n m→(∀ b,P b→b<w.heap.size→Q b)→num Q w n m
def rowsE (S:Shape):List PE→List (Value × Value)→List Value
 | e :: es,p :: l=>S.cells e p.1 p.2++rowsE S es l
 | _,_=>[]
mutual
def EAt (S:Shape)(P:Nat→Prop)(w:World)(mag kv:Value):PE→Prop
 | .mk _op _name _module num _txt _yes kids _at_=>S.num P w num mag∧∃ l:List (Value × Value),SlP P w kv S.sz kids.length (rowsE S kids l)∧EAtL S P w l kids
def EAtL (S:Shape)(P:Nat→Prop)(w:World)(l:List (Value × Value)):List PE→Prop
 | []=>l=[]
 | e :: es=>∃ p l',l=p :: l'∧EAt S P w p.1 p.2 e∧EAtL S P w l' es
end
mutual
theorem EAt.frame {S:Shape}{P:Nat→Prop}{w w':World}(ha:Alk P w w'):∀ {e:PE} {m k:Value},EAt S P w m k e→EAt S P w' m k e
 | .mk op name module num txt yes kids at_,m,k,h=>by
  rw [EAt] at h ⊢
  obtain ⟨h1,l,h2,h3⟩:=h
  exact ⟨S.frame h1 ha,l,h2.frame ha,EAtL.frame ha h3⟩
theorem EAtL.frame {S:Shape}{P:Nat→Prop}{w w':World}(ha:Alk P w w'):∀ {es:List PE} {l:List (Value × Value)},EAtL S P w l es→EAtL S P w' l es
 | [],l,h=>by rw [EAtL] at h ⊢;exact h
 | e :: es,l,h=>by
  rw [EAtL] at h ⊢
  obtain ⟨p,l',h1,h2,h3⟩:=h
  exact ⟨p,l',h1,EAt.frame ha h2,EAtL.frame ha h3⟩
end
mutual
theorem EAt.imp {S:Shape}{P Q:Nat→Prop}{w:World}(hq:∀ b,P b→b<w.heap.size→Q b):∀ {e:PE} {m k:Value},EAt S P w m k e→EAt S Q w m k e
 | .mk op name module num txt yes kids at_,m,k,h=>by
  rw [EAt] at h ⊢
  obtain ⟨h1,l,h2,h3⟩:=h
  exact ⟨S.imp h1 hq,l,h2.imp hq,EAtL.imp hq h3⟩
theorem EAtL.imp {S:Shape}{P Q:Nat→Prop}{w:World}(hq:∀ b,P b→b<w.heap.size→Q b):∀ {es:List PE} {l:List (Value × Value)},EAtL S P w l es→EAtL S Q w l es
 | [],l,h=>by rw [EAtL] at h ⊢;exact h
 | e :: es,l,h=>by
  rw [EAtL] at h ⊢
  obtain ⟨p,l',h1,h2,h3⟩:=h
  exact ⟨p,l',h1,EAt.imp hq h2,EAtL.imp hq h3⟩
end
theorem EAtL.len {S:Shape}{P:Nat→Prop}{w:World}:∀ {es:List PE} {l:List (Value × Value)},EAtL S P w l es→l.length=es.length
 | [],l,h=>by rw [EAtL] at h;subst h;rfl
 | e :: es,l,h=>by
  rw [EAtL] at h
  obtain ⟨p,l',rfl,_,h3⟩:=h
  simp [EAtL.len h3]
theorem EAtL.snoc {S:Shape}{P:Nat→Prop}{w:World}:∀ {es:List PE} {l:List (Value × Value)} {e:PE} {m k:Value},EAtL S P w l es→EAt S P w m k e→EAtL S P w (l++[(m,k)]) (es++[e])
 | [],l,e,m,k,h,h2=>by
  rw [EAtL] at h
  subst h
  rw [List.nil_append,List.nil_append,EAtL]
  exact ⟨(m,k),[],rfl,h2,by rw [EAtL]⟩
 | x :: es,l,e,m,k,h,h2=>by
  rw [EAtL] at h
  obtain ⟨p,l',rfl,h3,h4⟩:=h
  rw [List.cons_append,List.cons_append,EAtL]
  exact ⟨p,_,rfl,h3,h4.snoc h2⟩
theorem rowsE_snoc (S:Shape):∀ (es:List PE) (l:List (Value × Value)) (e:PE) (m k:Value),l.length=es.length→rowsE S (es++[e]) (l++[(m,k)])=rowsE S es l++S.cells e m k
 | [],[],e,m,k,_=>by simp [rowsE]
 | x :: es,p :: l,e,m,k,h=>by
  simp only [List.cons_append,rowsE,rowsE_snoc S es l e m k (by simpa using h),List.append_assoc]
 | [],_ :: _,_,_,_,h=>by simp at h
 | _ :: _,[],_,_,_,h=>by simp at h
theorem rowsE_at (S:Shape):∀ (es:List PE) (l:List (Value × Value)) (i j:Nat) (hl:l.length=es.length) (hi:i<es.length),j<S.sz→(rowsE S es l)[i * S.sz+j]?=(S.cells es[i] (l[i]'(by omega)).1 (l[i]'(by omega)).2)[j]?
 | [],[],i,j,_,h,_=>absurd h (by simp)
 | x :: es,p :: l,0,j,_,_,hj=>by
  simp only [rowsE,Nat.zero_mul,Nat.zero_add,List.getElem_cons_zero]
  rw [List.getElem?_append_left (by rw [S.len];exact hj)]
 | x :: es,p :: l,i+1,j,hl,hi,hj=>by
  simp only [rowsE,List.getElem_cons_succ]
  rw [List.getElem?_append_right (by rw [S.len,Nat.succ_mul];omega),S.len,show (i+1) * S.sz+j - S.sz=i * S.sz+j by rw [Nat.succ_mul];omega]
  exact rowsE_at S es l i j (by simpa using hl) (by simpa using hi) hj
 | [],_ :: _,_,_,h,_,_=>by simp at h
 | _ :: _,[],_,_,h,_,_=>by simp at h
theorem EAtL.get {S:Shape}{P:Nat→Prop}{w:World}:∀ {es:List PE} {l:List (Value × Value)} (h:EAtL S P w l es) (i:Nat) (hi:i<es.length),EAt S P w (l[i]'(by rw [h.len];exact hi)).1 (l[i]'(by rw [h.len];exact hi)).2 es[i]
 | [],l,h,i,hi=>absurd hi (by simp)
 | e :: es,l,h,i,hi=>by
  have h':=h
  rw [EAtL] at h'
  obtain ⟨p,l',rfl,h3,h4⟩:=h'
  cases i with
  | zero=>exact h3
  | succ i=>exact h4.get i (by simpa using hi)
theorem EAt.form {S:Shape}{P:Nat→Prop}{w:World}{e:PE}{mag kv:Value}(h:EAt S P w mag kv e):S.num P w e.num mag∧∃ ao cap,kv=.slice ao e.kids.length cap∧e.kids.length≤cap ∧
  (0<e.kids.length→∃ b off,ao=some ⟨b,off,none⟩∧P b∧b<w.heap.size∧∀ i,(hi:i<e.kids.length)→∃ m k,EAt S P w m k e.kids[i]∧∀ j u,(S.cells e.kids[i] m k)[j]?=some u→w.cell? ⟨b,off+i * S.sz+j,none⟩=some u):=by
 cases e with
 | mk op name module num txt yes kids at_ =>
  rw [EAt] at h
  obtain ⟨h1,l,⟨ao,cap,hv,hn,hl,hc⟩,h3⟩:=h
  refine ⟨h1,ao,cap,hv,hn,fun h0=>?_⟩
  obtain ⟨b,off,ha,hP,hlt,hcell⟩:=hc h0
  refine ⟨b,off,ha,hP,hlt,fun i hi=>?_⟩
  have hll:=h3.len
  refine ⟨_,_,h3.get i hi,fun j u hu=>?_⟩
  have hj:j<S.sz:=by
   rcases Nat.lt_or_ge j S.sz with h'|h'
   ·exact h'
   ·rw [List.getElem?_eq_none (by rw [S.len];exact h')] at hu;cases hu
  have hr:=rowsE_at S kids l i j hll hi hj
  have hu':=hr.trans hu
  obtain ⟨h',e⟩:=List.getElem?_eq_some_iff.1 hu'
  have:=hcell (i * S.sz+j) h'
  rw [e] at this
  rw [Nat.add_assoc]
  exact this
def NumAt (P:Nat→Prop)(w:World)(n:Int)(m:Value):Prop :=
 ∃ ws:List Nat,SlP P w m 1 ws.length (ws.map fun d=>.int .u32 (d:Nat))∧trimW ws=ws∧(∀ x∈ws,x<4294967296)∧magV ws=n.natAbs
def strV (l:List UInt8):Value:=.string ⟨l.toArray⟩
def XA:Shape where
 sz:=8
 cells e m k:=[.int .i64 e.op,strV e.name,strV e.module,.bool (decide (e.num<0)),m,.bool e.yes,k,.int .i64 e.at_]
 agg e m k:=.agg #[.int .i64 e.op,strV e.name,strV e.module,.bool (decide (e.num<0)),m,.bool e.yes,k,.int .i64 e.at_]
 num:=NumAt
 len _ _ _:=rfl
 frame h ha:=by obtain ⟨ws,h1,h2⟩:=h;exact ⟨ws,h1.frame ha,h2⟩
 imp h hq:=by obtain ⟨ws,h1,h2⟩:=h;exact ⟨ws,h1.imp hq,h2⟩
def XR:Shape where
 sz:=7
 cells e _ k:=[.int .i64 e.op,strV e.name,strV e.module,strV e.txt,.bool e.yes,k,.int .i64 e.at_]
 agg e _ k:=.agg #[.int .i64 e.op,strV e.name,strV e.module,strV e.txt,.bool e.yes,k,.int .i64 e.at_]
 num _ _ _ _:=True
 len _ _ _:=rfl
 frame _ _:=trivial
 imp _ _:=trivial
theorem NumAt.zero (P:Nat→Prop)(w:World):NumAt P w 0 (.slice none 0 0):=⟨[],SlP.nil P w 1,rfl,fun x h=>(by cases h),rfl⟩
def EPost (S:Shape)(e:PE)(w:World)(r:Ending)(w':World):Prop:=∃ m k,r=.returned (S.agg e m k)∧EAt S (fun b=>w.heap.size≤b) w' m k e∧Below w.heap.size w w'
theorem Rep.leafAt {nodes:List Nd}{n:Int}{u:Nat}(h:Rep nodes n u .leaf):∃ i:Nat,n=i∧nodes[i]?=some ⟨19,(u:Nat),[]⟩:=by
 rw [Rep] at h
 exact ⟨n.toNat,by omega,h.2⟩
theorem TreeAt.tok {B:Nat}{w:World}{tv nv:Value}{toks:List Tok}{nodes:List Nd}(h:TreeAt B w (.agg #[tv,nv]) toks nodes){u:Nat}(hu:u<toks.length) :
  ∃ b off cap,tv=.slice (some ⟨b,off,none⟩) toks.length cap∧b<B∧w.cell? ⟨b,off+u * 4,none⟩=some (.int .i64 toks[u].kind)∧w.cell? ⟨b,off+u * 4+1,none⟩=some (strV toks[u].lead)∧w.cell? ⟨b,off+u * 4+2,none⟩=some (strV toks[u].text)∧w.cell? ⟨b,off+u * 4+3,none⟩=some (.int .i64 toks[u].place):=by
 obtain ⟨tv',nv',l,h1,h2,h3,h4,h5⟩:=h
 obtain ⟨rfl,rfl⟩:tv=tv'∧nv=nv':=by simpa using h1
 obtain ⟨ao,cap,rfl,_,hf⟩:=h2.form (fun _=>rfl)
 obtain ⟨b,off,rfl,hb,hc⟩:=hf (by omega)
 exact ⟨b,off,cap,rfl,hb,hc u 0 _ hu rfl,hc u 1 _ hu rfl,hc u 2 _ hu rfl,hc u 3 _ hu rfl⟩
def tokVal (t:Tok):Value:=.agg #[.int .i64 t.kind,strV t.lead,strV t.text,.int .i64 t.place]
theorem rtoken_any (B:Nat)(tv nv:Value)(toks:List Tok)(nodes:List Nd)(i u:Nat)(w:World)(h:TreeAt B w (.agg #[tv,nv]) toks nodes)(_hB:B≤w.heap.size)(hn:nodes[i]?=some ⟨19,(u:Nat),[]⟩)(hu:u<toks.length) :
  Calls Tryz.prog 29 #[.agg #[tv,nv],.int .i64 i] w fun e w'=>e=.returned (tokVal toks[u])∧Below w.heap.size w w':=by
 obtain ⟨hi,hni⟩:=List.getElem?_eq_some_iff.1 hn
 obtain ⟨b,off,cap,kv,rfl,hb,_,x1,_,_⟩:=h.node hi
 obtain ⟨b2,off2,cap2,rfl,hb2,t0,t1,t2,t3⟩:=h.tok hu
 rw [hni] at x1
 simp only at x1
 generalize toks[u]=t at t0 t1 t2 t3
 obtain ⟨c,x,y,q⟩:=t
 simp only [strV] at t0 t1 t2 t3
 have hal:=((Below.refl w.heap.size w).alloc (Nat.le_refl _) (.cells #[.slice (some ⟨b2,off2,none⟩) toks.length cap2,.slice (some ⟨b,off,none⟩) nodes.length cap] 88)).alloc (by simp) (.cells #[.int .i64 0,.string ⟨#[]⟩,.string ⟨#[]⟩,.int .i64 0] 83)
 have x1':=cell_later hal x1
 have y0:=cell_later hal t0
 have y1:=cell_later hal t1
 have y2:=cell_later hal t2
 have y3:=cell_later hal t3
 have i1:(i:Int)<(nodes.length:Int):=by omega
 have i2:(u:Int)<(toks.length:Int):=by omega
 have hnr:((w.alloc (.cells #[.slice (some ⟨b2,off2,none⟩) toks.length cap2,.slice (some ⟨b,off,none⟩) nodes.length cap] 88)).alloc (.cells #[.int .i64 0,.string ⟨#[]⟩,.string ⟨#[]⟩,.int .i64 0] 83)).heap[w.heap.size]?=some (.cells #[.slice (some ⟨b2,off2,none⟩) toks.length cap2,.slice (some ⟨b,off,none⟩) nodes.length cap] 88 (0,0)):=(Lib.alloc_old _ _ _ (by simp)).trans (heap_alloc_new w _)
 have hnw:=heap_alloc_new (w.alloc (.cells #[.slice (some ⟨b2,off2,none⟩) toks.length cap2,.slice (some ⟨b,off,none⟩) nodes.length cap] 88)) (.cells #[.int .i64 0,.string ⟨#[]⟩,.string ⟨#[]⟩,.int .i64 0] 83)
 rw [World.size_alloc] at hnw
 clear t0 t1 t2 t3 x1 hn hni h
 go_enter Tryz.func29,Tryz.ntmps29
 go_wp2
 generalize (w.alloc _).alloc _=w1 at hnr hnw hal x1' y0 y1 y2 y3 ⊢
 have r0:w1.cell? ⟨w.heap.size,0,none⟩=some (.slice (some ⟨b2,off2,none⟩) toks.length cap2):=by rw [Lib.cell_of_heap hnr];rfl
 have r1:w1.cell? ⟨w.heap.size,1,none⟩=some (.slice (some ⟨b,off,none⟩) nodes.length cap):=by rw [Lib.cell_of_heap hnr];rfl
 go_still_tail 12,(by kernel_rfl)
 change wpList _ _ _ _ _ w1.drew
 have hald:=hal.drew
 have hnw2:w1.drew.heap[w.heap.size+1]?=some (.cells #[.int .i64 0,.string ⟨#[]⟩,.string ⟨#[]⟩,.int .i64 0] 83 (0,0)):=hnw
 generalize w1.drew=w2 at hald hnw2 ⊢
 have f0:w2.cell? ⟨w.heap.size+1,0,none⟩=some (.int .i64 0):=by rw [Lib.cell_of_heap hnw2];rfl
 have f1:w2.cell? ⟨w.heap.size+1,1,none⟩=some (.string ⟨#[]⟩):=by rw [Lib.cell_of_heap hnw2];rfl
 have f2:w2.cell? ⟨w.heap.size+1,2,none⟩=some (.string ⟨#[]⟩):=by rw [Lib.cell_of_heap hnw2];rfl
 have f3:w2.cell? ⟨w.heap.size+1,3,none⟩=some (.int .i64 0):=by rw [Lib.cell_of_heap hnw2];rfl
 have z0:∀ j,w2.frozen? ⟨w.heap.size+1,j,none⟩=false:=by intro j;simp [World.frozen?,hnw2]
 clear hnw hnw2 i1 i2 y0 y1 y2 y3 r0 r1 x1'
 go_wp2
 refine bodyPost_ret (v:=.agg #[.int .i64 c,.string ⟨x.toArray⟩,.string ⟨y.toArray⟩,.int .i64 q]) (by simp [results,Tryz.results29,go_sem,f0,f1,f2,f3]) rfl ⟨rfl,?_⟩
 exact (((hald.setCell (by simp) _).setCell (by simp) _).setCell (by simp) _).setCell (by simp) _
theorem Tryz.tokField2 (a b c d:Value)(w:World):(Instr.field 83 (.agg #[a,b,c,d]) 2).run Tryz.prog w=.ok c w:=by kernel_rfl
theorem rtext_any (B:Nat)(tv nv:Value)(toks:List Tok)(nodes:List Nd)(i u:Nat)(w:World)(h:TreeAt B w (.agg #[tv,nv]) toks nodes)(hB:B≤w.heap.size)(hn:nodes[i]?=some ⟨19,(u:Nat),[]⟩)(hu:u<toks.length) :
  Calls Tryz.prog 46 #[.agg #[tv,nv],.int .i64 i] w fun e w'=>e=.returned (strV toks[u].text)∧Below w.heap.size w w':=by
 have hb1:=(Below.refl w.heap.size w).alloc (Nat.le_refl _) (.cells #[tv,nv] 88)
 have HT:=Lib.hid (rtoken_any B tv nv toks nodes i u _ (h.below (hb1.mono hB)) (by have:=hb1.size;omega) hn hu)
 obtain ⟨a1,c1,a2,c2,e⟩:=h.slices
 obtain ⟨rfl,rfl⟩:tv=_∧nv=_:=by simpa using e
 generalize toks[u]=t at HT ⊢
 have hf:=fun w=>Tryz.tokField2 (.int .i64 t.kind) (strV t.lead) (strV t.text) (.int .i64 t.place) w
 unfold tokVal at HT
 clear h hn e
 go_enter Tryz.func46,Tryz.ntmps46
 go_wp2_with (go_at_call 29;refine HT.out.mono ?_;rintro e w1 ⟨rfl,hb2⟩)
 go_ret
 exact ⟨rfl,hb1.trans (hb2.mono hb1.size)⟩
theorem Tryz.infoInt:(Tryz.prog.info? 3).map (fun i=>(i.zero,i.size,i.bytes))=some (some (.int .i64 0),1,8):=by kernel_rfl
theorem partsF_snoc (nodes:List Nd)(ks:List Int)(k:Int):partsF nodes (ks++[k])=partsF nodes ks++if (nodes[k.toNat]?.map (·.kind)).getD 19 != 19 then [k] else []:=by
 unfold partsF
 rw [List.filter_append]
 congr 1
 rw [List.filter_cons,List.filter_nil]
def IPost (ks:List Int)(w:World)(e:Ending)(w':World):Prop:=∃ v,e=.returned v∧SlP (fun b=>w.heap.size≤b) w' v 1 ks.length (ks.map (Value.int .i64))∧Below w.heap.size w w'
theorem SlP.ints {P:Nat→Prop}{w:World}{v:Value}{ks:List Int}(h:SlP P w v 1 ks.length (ks.map (Value.int .i64))):∃ ao cap,v=.slice ao ks.length cap∧ks.length≤cap ∧
  (0<ks.length→∃ b off,ao=some ⟨b,off,none⟩∧P b∧b<w.heap.size∧∀ j,(hj:j<ks.length)→w.cell? ⟨b,off+j,none⟩=some (.int .i64 ks[j])):=by
 obtain ⟨ao,cap,hv,hn,hl,hc⟩:=h
 refine ⟨ao,cap,hv,hn,fun h0=>?_⟩
 obtain ⟨b,off,ha,hP,hlt,hcell⟩:=hc h0
 exact ⟨b,off,ha,hP,hlt,fun j hj=>by rw [hcell j (by simpa using hj)];simp⟩
theorem rparts_any (B:Nat)(tv nv:Value)(toks:List Tok)(nodes:List Nd)(i:Nat)(w:World)(h:TreeAt B w (.agg #[tv,nv]) toks nodes)(hB:B≤w.heap.size)(hi:i<nodes.length)
  (hk:∀ k∈nodes[i].kids,0≤k∧k<(nodes.length:Int)) (hl:nodes[i].kids.length≤1099511627776) :
  Calls Tryz.prog 72 #[.agg #[tv,nv],.int .i64 i] w (IPost (partsF nodes nodes[i].kids) w):=by
 obtain ⟨i0,hinf,hz0,hz1,hz2⟩:=info_parts Tryz.infoInt
 have HT:=Lib.hid h
 obtain ⟨a1,c1,_,_,e⟩:=h.slices
 obtain ⟨b,off,cap,kv,rfl,hb,_,_,x2,hkv⟩:=h.node hi
 obtain ⟨rfl,-⟩:tv=.slice a1 toks.length c1∧_:=by simpa using e
 generalize nodes[i].kids=ks at hk hl hkv ⊢
 obtain ⟨ak,ck,rfl,_,hf⟩:=hkv.form
 have HF:=Lib.hid hf
 have HK:=Lib.hid hk
 have hal:=(Below.refl w.heap.size w).alloc (Nat.le_refl _) (.cells #[.slice a1 toks.length c1,.slice (some ⟨b,off,none⟩) nodes.length cap] 88)
 have x2':=cell_later hal x2
 have hnr:=heap_alloc_new w (.cells #[.slice a1 toks.length c1,.slice (some ⟨b,off,none⟩) nodes.length cap] 88)
 have r0:(w.alloc (.cells #[.slice a1 toks.length c1,.slice (some ⟨b,off,none⟩) nodes.length cap] 88)).cell? ⟨w.heap.size,1,none⟩=some (.slice (some ⟨b,off,none⟩) nodes.length cap):=by rw [Lib.cell_of_heap hnr];rfl
 have i1:(i:Int)<(nodes.length:Int):=by omega
 clear hf hk h e hkv x2
 go_enter Tryz.func72,Tryz.ntmps72
 go_wp2
 generalize w.alloc _=w1 at hnr hal r0 x2' ⊢
 have hsz1:=hal.size
 go_loopw [5,16] (fun v k wr=>∃ j:Nat,j≤ks.length∧k=.int .i64 j∧wr.ownsRow w.heap.size 3 1 v (partsF nodes (ks.take j)).length ((partsF nodes (ks.take j)).map (Value.int .i64))∧wr.heap[w.heap.size]?=some (.cells #[.slice a1 toks.length c1,.slice (some ⟨b,off,none⟩) nodes.length cap] 88 (0,0))∧Below w.heap.size w wr) (fun _ k _=>ks.length - (intOf k).toNat)
 case atStart=>exact ⟨0,Nat.zero_le _,rfl,World.ownsRow_nil _ _ _ _,hnr,hal⟩
 case round =>
  obtain ⟨j,hj,rfl,hown,hrr,hbl⟩:=hrel
  have hz:=hbl.size
  have hlt:=(Array.getElem?_eq_some_iff.1 hrr).1
  by_cases hjl:j<ks.length
  ·obtain ⟨bk,ok,rfl,hbk,hcell⟩:=HF.out (by omega)
   have hx:=(hbl.cell (p:=⟨bk,ok+j,none⟩) (by show bk<_;omega)).trans (hcell j hjl)
   have hkj:=HK.out ks[j] (List.getElem_mem hjl)
   have hsn:=partsF_snoc nodes (ks.take j) ks[j]
   rw [← List.take_succ_eq_append_getElem hjl] at hsn
   have hjI:(j:Int)<(ks.length:Int):=by omega
   generalize ks[j]=q at hx hkj hsn
   obtain ⟨m,rfl⟩:∃ m:Nat,q=(m:Int):=⟨q.toNat,by omega⟩
   have hm:m<nodes.length:=by omega
   obtain ⟨b',off',cap',kv',e',_,y0,_,_,_⟩:=HT.out.node hm
   simp only [Value.slice.injEq,Option.some.injEq,Addr.mk.injEq,and_true] at e'
   obtain ⟨⟨rfl,rfl⟩,rfl⟩:(b=b'∧off=off')∧cap=cap':=by simpa using e'
   have y0':=(hbl.cell (p:=⟨b,off+m * 3,none⟩) (by show b<_;omega)).trans y0
   have hmI:(m:Int)<(nodes.length:Int):=by omega
   have r1:wr.cell? ⟨w.heap.size,1,none⟩=some (.slice (some ⟨b,off,none⟩) nodes.length cap):=by rw [Lib.cell_of_heap hrr];rfl
   have hlen:(partsF nodes (ks.take j)).length≤j:=by
    have:=List.length_filter_le (fun k:Int=>(nodes[k.toNat]?.map (·.kind)).getD 19 != 19) (ks.take j)
    rw [List.length_take] at this
    show (List.filter _ _).length≤j
    omega
   simp only [Int.toNat_natCast,List.getElem?_eq_getElem hm,Option.map_some,Option.getD_some] at hsn
   generalize nodes[m].kind=kd at y0' hsn
   clear y0 hcell e'
   by_cases hd:kd=19
   ·subst hd
    simp only [bne_self_eq_false,Bool.false_eq_true,if_false,List.append_nil] at hsn
    have HS:=Lib.hid hsn
    clear hsn
    go_wp2
    go_roundw
    case rel=>exact ⟨j+1,by omega,by go_num,by rw [HS.out];exact hown,hrr,hbl⟩
    case measure=>simp [intOf];omega
   ·have hd1:(kd != 19)=true:=by simp [hd]
    have hd2:(kd == 19)=false:=by simp [hd]
    rw [hd1] at hsn
    simp only [if_true] at hsn
    have HS:=Lib.hid hsn
    clear hsn
    generalize partsF nodes (ks.take j)=acc at hown hlen HS
    go_wp2_with (at_builtin;refine wpList_append_own _ rfl _ _ 71 rfl w.heap.size 3 i0 (.int .i64 0) 1 8 Tryz.underlying71 hinf hz0 hz1 hz2 rfl (by decide) _ _ _ rfl (hown.alloc _) ⟨wr.heap.size,0,none⟩ 1 1 [.int .i64 m] rfl rfl ?c1 ?c2 ?c3 ?c4 ?c5 ?_)
    case c1 =>
     intro j' u hj'
     have:=World.news_of_block (cs:=#[.int .i64 (m:Int)]) (t:=3) (fr:=(0,0)) (heap_alloc_new wr _) j' u (by simpa using hj')
     exact this
    case c2=>simp [Value.oneCell']
    case c3=>unfold maxLen;omega
    case c4=>omega
    case c5=>simp;omega
    intro v' w2 hown2 hgrow2 _
    have hb2:Below w.heap.size w w2:=(hbl.alloc hz _).grown hgrow2 (by simp;omega) (fun q hq=>by have:=(hown.lt q hq).1;omega)
    have hrr2:=own_block (hown.alloc _) hgrow2 ((Lib.alloc_old wr (.cells #[.int .i64 m] 3) _ hlt).trans hrr) (by decide)
    have H2:=Lib.hid hown2
    clear hgrow2 hown2 hown
    go_wp2
    go_roundw
    case rel=>exact ⟨j+1,by omega,by go_num,by rw [HS.out,List.length_append,List.map_append];exact H2.out,hrr2,hb2⟩
    case measure=>simp [intOf];omega
  ·have:j=ks.length:=by omega
   subst this
   rw [List.take_length] at hown
   have hjI:decide ((ks.length:Int)<(ks.length:Int))=false:=decide_eq_false (by omega)
   go_wp2
   go_ret
   exact ⟨_,rfl,SlP.ofOwns hown (fun b hb=>hb),hbl⟩
end Go.Proofs.YtemkhbmkaalgdaaGreatDoor
