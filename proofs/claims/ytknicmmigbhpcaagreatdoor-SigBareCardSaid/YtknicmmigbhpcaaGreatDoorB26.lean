/- Walks and plain laws: RDefL, SetAt. -/
import Derived.Test.YtknicmmigbhpcaaGreatDoorB25
set_option maxHeartbeats 16000000
set_option maxRecDepth 100000
set_option linter.unusedVariables false
set_option linter.unusedSimpArgs false
namespace Go.Proofs.YtknicmmigbhpcaaGreatDoor
open Go.RowKit Go
theorem jK:∀ (a b:List It) (u:Nat),cO u (a++b)=cO u a++cO (u+bB (a.map It.pt)) b
 | [],b,u=>by simp[cO,bB]
 | i :: a,b,u=>by rw[List.cons_append,cO,jK a b,cO,List.map_cons,bB,Nat.add_assoc,List.cons_append]
theorem yg:∀ (l:List It) (u:Nat) (p:It × Nat),p∈cO u l→p.1∈l
 | [],u,p,h=>by cases h
 | i :: l,u,p,h=>by
  rw[cO,List.mem_cons] at h
  rcases h with rfl|h
  ·exact List.mem_cons_self
  ·exact List.mem_cons_of_mem _ (yg l _ p h)
def It.Gm (toks:List Tok)(v:Nat):It→List FF
 | .par t=>[t.tJ toks v]
 | _=>[]
theorem Du (toks:List Tok)(u:Nat)(i:It):eP toks u [i]=i.Gm toks u:=by
 cases i with
 | par t=>rw[eP,eP];rfl
 | leaf=>rw[eP,eP];rfl;simp
 | base=>rw[eP,eP];rfl;simp
 | expr e=>rw[eP,eP];rfl;simp
 | cl e=>rw[eP,eP];rfl;simp
theorem Dv (toks:List Tok):∀ (l:List It) (u:Nat) (j:Nat) (h:j<(cO u l).length),eP toks u (l.take (j+1))=eP toks u (l.take j)++(cO u l)[j].1.Gm toks (cO u l)[j].2
 | [],u,j,h=>absurd h (by simp[cO])
 | i :: l,u,0,h=>by
  rw[List.take_zero,List.take_succ_cons,List.take_zero,Du];simp[eP,cO]
 | i :: l,u,j+1,h=>by
  have:=Dv toks l (u+i.pt.lv) j (by simpa [cO] using h)
  have h1:∀ k:List It,eP toks u (i :: k)=i.Gm toks u++eP toks (u+i.pt.lv) k:=fun k=>by
   have:=fT toks [i] k u;rw[Du] at this
   simpa [bB] using this
  rw[List.take_succ_cons,List.take_succ_cons,h1,h1,this,List.append_assoc];simp only[cO,List.getElem_cons_succ]
theorem Dw (toks:List Tok):∀ (l:List It) (u:Nat),(eP toks u l).length≤l.length
 | [],u=>by rw[eP];exact Nat.le_refl _
 | i :: l,u=>by
  have h1:=Dw toks l (u+i.pt.lv);have h2:=fT toks [i] l u
  have h3:(i.Gm toks u).length≤1:=by cases i<;>simp[It.Gm]
  rw[Du] at h2;rw[show i :: l=[i]++l from rfl,h2,bN,bN];simp only[List.map_cons,List.map_nil,bB,Nat.add_zero,eG,List.length_nil] at h1 ⊢;omega
theorem cK.II (d:cK):bB (d.eU.map It.pt)=bB d.lead:=by unfold cK.eU cK.lead;split<;>rfl
theorem cK.Wq (d:cK)(u:Nat):∃ pre,d.its=pre++[.expr d.body,.leaf]∧u+bB (pre.map It.pt)=d.at3 u:=by
 refine⟨d.eU++([.leaf,.leaf,.leaf]++(fA d.jR++([.leaf]++(d.ty.its++[.leaf])))),by simp[cK.its],?_⟩;simp only[List.map_append,iw,d.II,qF,d.ty.Dg,List.map_cons,List.map_nil,It.pt,bB,PT.lv,cK.at3,cK.at2,cK.Cq];omega
theorem cK.abd (d:cK)(u:Nat):∃ pre post,d.its=pre++(d.ty.its++post)∧u+bB (pre.map It.pt)=d.at2 u∧(∀ i∈pre++post,(i matches .leaf)∨(i matches .par _)∨(i matches .expr _)):=by
 refine⟨d.eU++([.leaf,.leaf,.leaf]++(fA d.jR++[.leaf])),[.leaf,.expr d.body,.leaf],by simp[cK.its],?_,?_⟩
 ·simp only[List.map_append,iw,d.II,qF,List.map_cons,List.map_nil,It.pt,bB,PT.lv,cK.at2,cK.Cq]
  omega
 ·intro i hi
  simp only[List.mem_append,List.mem_cons,List.not_mem_nil,or_false] at hi
  rcases hi with (hi|(hi|hi|hi)|hi|hi)|hi|hi|hi
  ·unfold cK.eU at hi
   split at hi
   ·rw[List.mem_singleton] at hi;subst hi;exact .inl rfl
   ·cases hi
  ·subst hi;exact .inl rfl
  ·subst hi;exact .inl rfl
  ·subst hi;exact .inl rfl
  ·exact Dh _ _ hi
  ·subst hi;exact .inl rfl
  ·subst hi;exact .inl rfl
  ·subst hi;exact .inr (.inr rfl)
  ·subst hi;exact .inl rfl
theorem cK.Ws (d:cK)(u:Nat)(p:It × Nat)(h:p∈cO u d.its)(hp:p.1.plain=false):p∈cO (d.at2 u) d.ty.its:=by
 obtain⟨pre,post,e,hl,hn⟩:=d.abd u
 have hno:∀ q:It × Nat,q.1∈pre++post→q.1.plain=true:=fun q hq=>by
  rcases hn _ hq with h|h|h<;>(generalize q.1=x at h ⊢;cases x<;>simp_all [It.plain])
 rw[e,jK,jK,hl,List.mem_append,List.mem_append] at h
 rcases h with h|h|h
 ·have:=hno p (List.mem_append_left _ (yg _ _ _ h));rw[hp] at this;cases this
 ·exact h
 ·have:=hno p (List.mem_append_right _ (yg _ _ _ h));rw[hp] at this;cases this
theorem eD.KZ {toks:List Tok}{t:eD}{u:Nat}(h:t.ok toks u)(v:Nat)(hv:(It.base,v)∈cO u t.its):aI toks v∈[Nb,xC]:=by
 unfold eD.its at hv;have h1:=h.1
 cases hc:t.cl with
 | none =>
  rw[hc] at hv;simp only[List.append_nil,cO,It.pt,PT.lv,List.mem_cons,Prod.mk.injEq,reduceCtorEq,false_and,true_and,List.not_mem_nil,or_false,false_or] at hv;subst hv;exact h1
 | some e =>
  rw[hc] at hv;simp only[List.cons_append,List.nil_append,cO,It.pt,PT.lv,List.mem_cons,Prod.mk.injEq,reduceCtorEq,false_and,true_and,List.not_mem_nil,or_false,false_or] at hv;subst hv;exact h1
theorem eD.Wt {toks:List Tok}{t:eD}{u:Nat}(h:t.ok toks u)(e:CE)(v:Nat)(hv:(It.cl e,v)∈cO u t.its):e.ok toks true (v+1):=by
 unfold eD.its at hv;have h1:=h.2
 cases hc:t.cl with
 | none =>
  rw[hc] at hv;simp[cO,It.pt,PT.lv] at hv
 | some e' =>
  rw[hc] at hv h1;simp only[List.cons_append,List.nil_append,cO,It.pt,PT.lv,bB,List.mem_cons,Prod.mk.injEq,reduceCtorEq,false_and,It.cl.injEq,List.not_mem_nil,or_false,false_or] at hv;obtain⟨rfl,rfl⟩:=hv;exact h1
theorem PX {toks:List Tok}:∀ (l:List eD) (u:Nat) (t:eD) (v:Nat),vP toks u l→(It.par t,v)∈cO u (fA l)→t.Kh toks v
 | [],u,t,v,_,h=>by rw[fA,cO] at h;cases h
 | [s],u,t,v,ho,h=>by
  rw[fA,cO,cO,List.mem_singleton] at h;simp only[Prod.mk.injEq,It.par.injEq] at h;obtain⟨rfl,rfl⟩:=h;exact ho.1
 | s :: s' :: l,u,t,v,ho,h=>by
  rw[show fA (s :: s' :: l)=.par s :: .leaf :: fA (s' :: l) from by rw[fA],cO,cO,List.mem_cons,List.mem_cons] at h
  rcases h with h|h|h
  ·simp only[Prod.mk.injEq,It.par.injEq] at h
   obtain⟨rfl,rfl⟩:=h;exact ho.1
  ·simp at h
  ·exact PX (s' :: l) _ t v ho.2 h
theorem abe {toks:List Tok}{d:cK}{u:Nat}(ho:d.ok toks u){t:eD}{v:Nat}(h:(It.par t,v)∈cO u d.its):t.Kh toks v:=by
 have hno:∀ l:List It,(∀ i∈l,¬ (i matches .par _))→∀ x,(It.par t,v) ∉ cO x l:=fun l hl x hx=>by
  have:=hl _ (yg _ _ _ hx);simp at this
 rw[cK.its,jK,jK,jK,List.mem_append,List.mem_append,List.mem_append] at h
 rcases h with h|h|h|h
 ·refine absurd h (hno _ (fun i hi=>?_) _)
  unfold cK.eU at hi
  split at hi
  ·rw[List.mem_singleton] at hi;subst hi;simp
  ·cases hi
 ·refine absurd h (hno _ (fun i hi=>?_) _)
  simp only[List.mem_cons,List.not_mem_nil,or_false,or_self] at hi;subst hi;simp
 ·refine PX d.jR _ t v ho.2.2.2.2.1 ?_
  have e:u+bB (d.eU.map It.pt)+bB ([It.leaf,.leaf,.leaf].map It.pt)=d.Cq u+3:=by
   rw[d.II];simp only[List.map_cons,List.map_nil,It.pt,bB,PT.lv,cK.Cq]
  rw[e] at h;exact h
 ·refine absurd h (hno _ (fun i hi=>?_) _)
  unfold eD.its at hi
  cases hc:d.ty.cl with
  | none =>
   rw[hc] at hi;simp only[List.mem_append,List.mem_cons,List.not_mem_nil,or_false] at hi
   rcases hi with rfl|(rfl|rfl)|rfl|rfl|rfl<;>simp
  | some e =>
   rw[hc] at hi;simp only[List.mem_append,List.mem_cons,List.not_mem_nil,or_false] at hi
   rcases hi with rfl|((rfl|rfl)|rfl)|rfl|rfl|rfl<;>simp
theorem It.Oj (i:It)(h:∀ t,i≠.par t):i.pt.kd≠4:=by
 cases i with
 | leaf=>exact(by decide:(19:Int)≠4)
 | par t=>exact absurd rfl (h t)
 | base=>exact show ((5:Nat):Int)≠4 by decide
 | cl e=>exact show ((6:Nat):Int)≠4 by decide
 | expr e =>
  obtain⟨c,la,ea,c1,c2⟩:=e.node;simp only[It.pt,ea,PT.kd];omega
theorem It.Sj (i:It)(toks:List Tok)(v:Nat)(h:∀ t,i≠.par t):i.Gm toks v=[]:=by
 cases i with
 | par t=>exact absurd rfl (h t)
 | _=>rfl
structure RdE (B:Nat) (tv nv:Value) (toks:List Tok) (nodes:List Nd):Prop where
 pl:∀ v,cB toks v+(aI toks v).length≤1099511627776
 few:∀ n∈nodes,n.kids.length≤1000000
 exprs:∀ (cl:Bool) (e:CE) (u:Nat),e.ok toks cl u→u+e.pt.lv≤toks.length→∀ (k:Nat) (W:World),lM nodes k u e.pt→aN B W (.agg #[tv,nv]) toks nodes→B≤W.heap.size→Calls Tryz.prog 113 #[.agg #[tv,nv],.int .i64 k] W (EPost XA (e.pe toks u) W)
theorem Ol {B:Nat}{tv nv:Value}{toks:List Tok}{nodes:List Nd}(E:RdE B tv nv toks nodes)(t:eD)(v:Nat)(ho:t.Kh toks v)(hl:v+t.par.lv≤toks.length)(i:Nat)(w:World)(hr:lM nodes i v t.par)(h:aN B w (.agg #[tv,nv]) toks nodes)(hB:B≤w.heap.size) :
  Calls Tryz.prog 112 #[.agg #[tv,nv],.int .i64 i] w (Oe (t.tJ toks v) w):=by
 rw[t.Sb] at hr hl;obtain⟨ks,hn,hk⟩:=dN hr
 have hlv:v+bB (t.oo.map It.pt)≤toks.length:=by rw[PT.lv] at hl;exact hl
 have hks:=E.few _ (List.mem_of_getElem? hn);have hk2:=hk;rw[eD.oo,List.map_cons] at hk2;obtain⟨k0,ks',hke,hl0,_⟩:=bE (show dW nodes ks v (.leaf :: _) from hk2)
 have hvt:v<toks.length:=by
  rw[eD.oo,List.map_cons,bB] at hlv;simp only[It.pt,PT.lv] at hlv;omega
 have:=Og B tv nv toks nodes i 4 ks w h hB hn k0 v (by rw[hke];rfl) hl0 hvt (lg toks v t.oo ⟨0,[],-1⟩) (fun W hT hW =>
  Dp B tv nv toks nodes i 4 ks v t.oo W hT hW hn hk hlv hks E.pl (fun x hx=>?_) (fun e x hx k W' hrk hT' hW'=>?_))
 ·rw[eD.Zb] at this
  exact this
 ·rw[eD.oo,cO,List.mem_cons] at hx
  rcases hx with hx|hx
  ·cases hx
  ·exact eD.KZ ho.2 x hx
 ·have hend:=qH _ _ _ hx
  simp only[It.pt,PT.lv,bB] at hend;rw[eD.oo,cO,List.mem_cons] at hx
  rcases hx with hx|hx
  ·cases hx
  ·exact E.exprs true e (x+1) (eD.Wt ho.2 e x hx) (by omega) k W' hrk hT' hW'
theorem Zf {B:Nat}{tv nv:Value}{toks:List Tok}{nodes:List Nd}(E:RdE B tv nv toks nodes)(d:cK)(u:Nat)(ho:d.ok toks u)(ks:List Int)(hlv:u+bB (d.its.map It.pt)≤toks.length)(i:Nat)(hn:nodes[i]?=some ⟨(3:Nat),-1,ks⟩)(hk:dW nodes ks u (d.its.map It.pt))(w:World)(h:aN B w (.agg #[tv,nv]) toks nodes)(hB:B≤w.heap.size) :
  Calls Tryz.prog 111 #[.agg #[tv,nv],.int .i64 i] w (IC ⟨(d.dd toks u).res.base,(d.dd toks u).res.clause,(d.dd toks u).res.bare⟩ w):=by
 have hks:=E.few _ (List.mem_of_getElem? hn);have hty:=ho.2.2.2.2.2.1
 have:=Dp B tv nv toks nodes i 3 ks u d.its w h hB hn hk hlv hks E.pl (fun x hx=>eD.KZ hty x (d.Ws u _ hx rfl)) (fun e x hx k W' hrk hT' hW'=>by
  have hend:=qH _ _ _ hx;simp only[It.pt,PT.lv,bB] at hend
  exact E.exprs true e (x+1) (eD.Wt hty e x (d.Ws u _ hx rfl)) (by omega) k W' hrk hT' hW')
 rw[d.typ] at this;exact this
structure Zg (toks:List Tok) (nodes:List Nd) (d:cK) (u:Nat) (ks:List Int):Prop where
 len:ks.length=d.its.length
 many:3≤ks.length
 first:∃ k:Nat,ks[0]?=some (k:Int)∧nodes[k]?=some ⟨19,(u:Nat),[]⟩∧u<toks.length
 name:∃ k:Nat,ks[if d.pub=true then 2 else 1]?=some (k:Int)∧nodes[k]?=some ⟨19,((d.Cq u+1:Nat):Int),[]⟩∧d.Cq u+1<toks.length
 body:∃ k:Nat,ks[ks.length - 2]?=some (k:Int)∧lM nodes k (d.at3 u) d.body.pt∧d.at3 u+d.body.pt.lv≤toks.length
 pub:(aI toks u=yU)↔d.pub=true
theorem Wu {toks:List Tok}{nodes:List Nd}{d:cK}{u:Nat}{ks:List Int}(ho:d.ok toks u)(hlv:u+bB (d.its.map It.pt)≤toks.length)(hk:dW nodes ks u (d.its.map It.pt)):Zg toks nodes d u ks:=by
 obtain⟨hlen,hat⟩:=xZ _ _ _ hk
 have hat':∀ (j:Nat) (p:It × Nat),(cO u d.its)[j]?=some p→∃ k:Nat,ks[j]?=some (k:Int)∧lM nodes k p.2 p.1.pt∧p.2+p.1.pt.lv≤toks.length:=fun j p hp=>by
  obtain⟨h2,e⟩:=mR hp
  have h1:j<ks.length:=by rw[qG] at h2;omega
  have hr:=hat j h1 h2;have hend:=qH _ _ _ (List.mem_of_getElem? hp);rw[e] at hr;have hok:=zx hr;refine⟨ks[j].toNat,?_,?_,by omega⟩
  ·rw[List.getElem?_eq_getElem h1];congr 1;omega
  ·have:((ks[j].toNat:Nat):Int)=ks[j]:=by omega
   rw[this];exact hr
 have Ab:∀ (j v:Nat),(cO u d.its)[j]?=some (.leaf,v)→∃ k:Nat,ks[j]?=some (k:Int)∧nodes[k]?=some ⟨19,(v:Nat),[]⟩∧v<toks.length:=fun j v hp=>by
  obtain⟨k,h1,h2,h3⟩:=hat' j _ hp;obtain⟨i,hi,hn⟩:=lM.MK h2
  obtain rfl:k=i:=by omega
  exact⟨k,h1,hn,by simp only[It.pt,PT.lv] at h3;omega⟩
 obtain⟨pre,e,hp3⟩:=d.Wq u
 have hne:Hy≠yU:=by decide
 refine⟨hlen,?_,Ab 0 u ?_,Ab _ _ ?_,?_,?_⟩
 ·rw[hlen,cK.its];simp;omega
 ·rw[cK.its]
  unfold cK.eU
  cases d.pub<;>simp[cO]
 ·rw[cK.its]
  unfold cK.eU cK.Cq cK.lead
  cases d.pub<;>simp[cO,It.pt,PT.lv,bB]
 ·have hl:ks.length - 2=(cO u pre).length:=by rw[hlen,e,qG];simp
  rw[hl];obtain⟨k,h1,h2,h3⟩:=hat' (cO u pre).length (.expr d.body,d.at3 u) (by rw[e,jK,hp3];simp[cO]);exact⟨k,h1,h2,h3⟩
 ·constructor
  ·intro h
   cases hd:d.pub with
   | true=>rfl
   | false =>
    have h1:=ho.2.1;unfold cK.Cq cK.lead at h1;rw[hd] at h1;simp only[Bool.false_eq_true,if_false,bB,Nat.add_zero] at h1;rw[h1] at h;exact absurd h hne
  ·exact ho.1
def setAt (b:Nat):Nat→List Value→World→World
 | _,[],w=>w
 | j,v :: l,w=>setAt b (j+1) l (w.setCell ⟨b,j,none⟩ v)
theorem tX {b k:Nat}(hk:k≠b):∀ (l:List Value) (j:Nat) (w:World),(setAt b j l w).heap[k]?=w.heap[k]?
 | [],_,_=>rfl
 | _v :: l,j,_w=>(tX hk l (j+1) _).trans (heap_setCell_other _ _ _ _ hk)
theorem Dx {b:Nat}:∀ (l:List Value) (j:Nat) (w:World),(setAt b j l w).heap.size=w.heap.size
 | [],_,_=>rfl
 | v :: l,j,w=>(Dx l (j+1) _).trans (by simp)
theorem tY {B b:Nat}{w0:World}(hb:B≤b):∀ (l:List Value) (j:Nat) {w:World},Below B w0 w→Below B w0 (setAt b j l w)
 | [],_,_,h=>h
 | v :: l,j,_,h=>tY hb l (j+1) (h.setCell hb v)
theorem Gn {P:Nat→Prop}{b:Nat}(hP:∀ k,P k→k≠b)(l:List Value)(j:Nat)(w:World):aQ P w (setAt b j l w):=⟨Nat.le_of_eq (Dx l j w).symm,fun k hk _=>tX (hP k hk) l j w⟩
theorem Dy {b k i:Nat}(hk:k≠b)(l:List Value)(j:Nat)(w:World):(setAt b j l w).cell? ⟨k,i,none⟩=w.cell? ⟨k,i,none⟩:=World.cell?_of_block (a:=⟨k,i,none⟩) (tX hk l j w)
theorem fH {w:World}{b:Nat}{c0 c1 c2 c3 c4 c5 c6 c7 c8 c9 c10 c11 c12 c13 c14:Value}(h:w.heap[b]?=some (.cells #[c0,c1,c2,c3,c4,c5,c6,c7,c8,c9,c10,c11,c12,c13,c14] 48 (0,0))):(w.cell? ⟨b,0,none⟩=some c0∧w.cell? ⟨b,1,none⟩=some c1∧w.cell? ⟨b,2,none⟩=some c2∧w.cell? ⟨b,3,none⟩=some c3∧w.cell? ⟨b,4,none⟩=some c4)∧(w.cell? ⟨b,5,none⟩=some c5∧w.cell? ⟨b,6,none⟩=some c6∧w.cell? ⟨b,7,none⟩=some c7∧w.cell? ⟨b,8,none⟩=some c8∧w.cell? ⟨b,9,none⟩=some c9)∧(w.cell? ⟨b,10,none⟩=some c10∧w.cell? ⟨b,11,none⟩=some c11∧w.cell? ⟨b,12,none⟩=some c12∧w.cell? ⟨b,13,none⟩=some c13∧w.cell? ⟨b,14,none⟩=some c14)∧∀ j,w.frozen? ⟨b,j,none⟩=false:=by
 refine⟨⟨?_,?_,?_,?_,?_⟩,⟨?_,?_,?_,?_,?_⟩,⟨?_,?_,?_,?_,?_⟩,fun j=>by simp[World.frozen?,h]⟩<;>(rw[Lib.cell_of_heap h];rfl)
theorem l8 (w:World)(b:Nat)(v0 v1 v2 v3 v4 v5 v6 v7 v8 v9 v10 v11 v12 v13 v14:Value){k j:Nat}(h:k≠b):(((((((((((((((w.setCell ⟨b,0,none⟩ v0).setCell ⟨b,1,none⟩ v1).setCell ⟨b,2,none⟩ v2).setCell ⟨b,3,none⟩ v3).setCell ⟨b,4,none⟩ v4).setCell ⟨b,5,none⟩ v5).setCell ⟨b,6,none⟩ v6).setCell ⟨b,7,none⟩ v7).setCell ⟨b,8,none⟩ v8).setCell ⟨b,9,none⟩ v9).setCell ⟨b,10,none⟩ v10).setCell ⟨b,11,none⟩ v11).setCell ⟨b,12,none⟩ v12).setCell ⟨b,13,none⟩ v13).setCell ⟨b,14,none⟩ v14).cell? ⟨k,j,none⟩=w.cell? ⟨k,j,none⟩ :=
 Dy h [v0,v1,v2,v3,v4,v5,v6,v7,v8,v9,v10,v11,v12,v13,v14] 0 w
theorem Dz {w:World}{b:Nat}{T:TypeId}{c0 c1 c2 c3 c4 c5 c6 c7 c8 c9 c10 c11 c12 c13 c14:Value}(h:w.heap[b]?=some (.cells #[c0,c1,c2,c3,c4,c5,c6,c7,c8,c9,c10,c11,c12,c13,c14] T (0,0)))(v0 v1 v2 v3 v4 v5 v6 v7 v8 v9 v10 v11 v12 v13 v14:Value):(((((((((((((((w.setCell ⟨b,0,none⟩ v0).setCell ⟨b,1,none⟩ v1).setCell ⟨b,2,none⟩ v2).setCell ⟨b,3,none⟩ v3).setCell ⟨b,4,none⟩ v4).setCell ⟨b,5,none⟩ v5).setCell ⟨b,6,none⟩ v6).setCell ⟨b,7,none⟩ v7).setCell ⟨b,8,none⟩ v8).setCell ⟨b,9,none⟩ v9).setCell ⟨b,10,none⟩ v10).setCell ⟨b,11,none⟩ v11).setCell ⟨b,12,none⟩ v12).setCell ⟨b,13,none⟩ v13).setCell ⟨b,14,none⟩ v14).heap[b]?=some (.cells #[v0,v1,v2,v3,v4,v5,v6,v7,v8,v9,v10,v11,v12,v13,v14] T (0,0)):=by
 have h1:(w.setCell ⟨b,0,none⟩ v0).heap[b]?=some (.cells #[v0,c1,c2,c3,c4,c5,c6,c7,c8,c9,c10,c11,c12,c13,c14] T (0,0)):=heap_setCell_same _ b 0 _ _ v0 h;generalize w.setCell ⟨b,0,none⟩ v0=x1 at h1 ⊢;have h2:(x1.setCell ⟨b,1,none⟩ v1).heap[b]?=some (.cells #[v0,v1,c2,c3,c4,c5,c6,c7,c8,c9,c10,c11,c12,c13,c14] T (0,0)):=heap_setCell_same _ b 1 _ _ v1 h1;generalize x1.setCell ⟨b,1,none⟩ v1=x2 at h2 ⊢;have h3:(x2.setCell ⟨b,2,none⟩ v2).heap[b]?=some (.cells #[v0,v1,v2,c3,c4,c5,c6,c7,c8,c9,c10,c11,c12,c13,c14] T (0,0)):=heap_setCell_same _ b 2 _ _ v2 h2;generalize x2.setCell ⟨b,2,none⟩ v2=x3 at h3 ⊢;have h4:(x3.setCell ⟨b,3,none⟩ v3).heap[b]?=some (.cells #[v0,v1,v2,v3,c4,c5,c6,c7,c8,c9,c10,c11,c12,c13,c14] T (0,0)):=heap_setCell_same _ b 3 _ _ v3 h3;generalize x3.setCell ⟨b,3,none⟩ v3=x4 at h4 ⊢;have h5:(x4.setCell ⟨b,4,none⟩ v4).heap[b]?=some (.cells #[v0,v1,v2,v3,v4,c5,c6,c7,c8,c9,c10,c11,c12,c13,c14] T (0,0)):=heap_setCell_same _ b 4 _ _ v4 h4;generalize x4.setCell ⟨b,4,none⟩ v4=x5 at h5 ⊢;have h6:(x5.setCell ⟨b,5,none⟩ v5).heap[b]?=some (.cells #[v0,v1,v2,v3,v4,v5,c6,c7,c8,c9,c10,c11,c12,c13,c14] T (0,0)):=heap_setCell_same _ b 5 _ _ v5 h5;generalize x5.setCell ⟨b,5,none⟩ v5=x6 at h6 ⊢;have h7:(x6.setCell ⟨b,6,none⟩ v6).heap[b]?=some (.cells #[v0,v1,v2,v3,v4,v5,v6,c7,c8,c9,c10,c11,c12,c13,c14] T (0,0)):=heap_setCell_same _ b 6 _ _ v6 h6;generalize x6.setCell ⟨b,6,none⟩ v6=x7 at h7 ⊢;have h8:(x7.setCell ⟨b,7,none⟩ v7).heap[b]?=some (.cells #[v0,v1,v2,v3,v4,v5,v6,v7,c8,c9,c10,c11,c12,c13,c14] T (0,0)):=heap_setCell_same _ b 7 _ _ v7 h7;generalize x7.setCell ⟨b,7,none⟩ v7=x8 at h8 ⊢;have h9:(x8.setCell ⟨b,8,none⟩ v8).heap[b]?=some (.cells #[v0,v1,v2,v3,v4,v5,v6,v7,v8,c9,c10,c11,c12,c13,c14] T (0,0)):=heap_setCell_same _ b 8 _ _ v8 h8;generalize x8.setCell ⟨b,8,none⟩ v8=x9 at h9 ⊢;have h10:(x9.setCell ⟨b,9,none⟩ v9).heap[b]?=some (.cells #[v0,v1,v2,v3,v4,v5,v6,v7,v8,v9,c10,c11,c12,c13,c14] T (0,0)):=heap_setCell_same _ b 9 _ _ v9 h9
 generalize x9.setCell ⟨b,9,none⟩ v9=x10 at h10 ⊢;have h11:(x10.setCell ⟨b,10,none⟩ v10).heap[b]?=some (.cells #[v0,v1,v2,v3,v4,v5,v6,v7,v8,v9,v10,c11,c12,c13,c14] T (0,0)):=heap_setCell_same _ b 10 _ _ v10 h10;generalize x10.setCell ⟨b,10,none⟩ v10=x11 at h11 ⊢;have h12:(x11.setCell ⟨b,11,none⟩ v11).heap[b]?=some (.cells #[v0,v1,v2,v3,v4,v5,v6,v7,v8,v9,v10,v11,c12,c13,c14] T (0,0)):=heap_setCell_same _ b 11 _ _ v11 h11;generalize x11.setCell ⟨b,11,none⟩ v11=x12 at h12 ⊢;have h13:(x12.setCell ⟨b,12,none⟩ v12).heap[b]?=some (.cells #[v0,v1,v2,v3,v4,v5,v6,v7,v8,v9,v10,v11,v12,c13,c14] T (0,0)):=heap_setCell_same _ b 12 _ _ v12 h12;generalize x12.setCell ⟨b,12,none⟩ v12=x13 at h13 ⊢;have h14:(x13.setCell ⟨b,13,none⟩ v13).heap[b]?=some (.cells #[v0,v1,v2,v3,v4,v5,v6,v7,v8,v9,v10,v11,v12,v13,c14] T (0,0)):=heap_setCell_same _ b 13 _ _ v13 h13;generalize x13.setCell ⟨b,13,none⟩ v13=x14 at h14 ⊢;have h15:(x14.setCell ⟨b,14,none⟩ v14).heap[b]?=some (.cells #[v0,v1,v2,v3,v4,v5,v6,v7,v8,v9,v10,v11,v12,v13,v14] T (0,0)):=heap_setCell_same _ b 14 _ _ v14 h14;exact h15
theorem tZ {B b:Nat}{w0 w:World}(h:Below B w0 w)(hb:B≤b)(v0 v1 v2 v3 v4 v5 v6 v7 v8 v9 v10 v11 v12 v13 v14:Value):Below B w0 (((((((((((((((w.setCell ⟨b,0,none⟩ v0).setCell ⟨b,1,none⟩ v1).setCell ⟨b,2,none⟩ v2).setCell ⟨b,3,none⟩ v3).setCell ⟨b,4,none⟩ v4).setCell ⟨b,5,none⟩ v5).setCell ⟨b,6,none⟩ v6).setCell ⟨b,7,none⟩ v7).setCell ⟨b,8,none⟩ v8).setCell ⟨b,9,none⟩ v9).setCell ⟨b,10,none⟩ v10).setCell ⟨b,11,none⟩ v11).setCell ⟨b,12,none⟩ v12).setCell ⟨b,13,none⟩ v13).setCell ⟨b,14,none⟩ v14) :=
 tY hb [v0,v1,v2,v3,v4,v5,v6,v7,v8,v9,v10,v11,v12,v13,v14] 0 h
theorem vY (w:World)(b:Nat)(v0 v1 v2 v3 v4 v5 v6 v7:Value){k j:Nat}(h:k≠b):((((((((w.setCell ⟨b,5,none⟩ v0).setCell ⟨b,6,none⟩ v1).setCell ⟨b,7,none⟩ v2).setCell ⟨b,8,none⟩ v3).setCell ⟨b,9,none⟩ v4).setCell ⟨b,10,none⟩ v5).setCell ⟨b,11,none⟩ v6).setCell ⟨b,12,none⟩ v7).cell? ⟨k,j,none⟩=w.cell? ⟨k,j,none⟩ :=
 Dy h [v0,v1,v2,v3,v4,v5,v6,v7] 5 w
theorem Om {w:World}{b:Nat}{T:TypeId}{c0 c1 c2 c3 c4 c5 c6 c7 c8 c9 c10 c11 c12 c13 c14:Value}(h:w.heap[b]?=some (.cells #[c0,c1,c2,c3,c4,c5,c6,c7,c8,c9,c10,c11,c12,c13,c14] T (0,0)))(v0 v1 v2 v3 v4 v5 v6 v7:Value):((((((((w.setCell ⟨b,5,none⟩ v0).setCell ⟨b,6,none⟩ v1).setCell ⟨b,7,none⟩ v2).setCell ⟨b,8,none⟩ v3).setCell ⟨b,9,none⟩ v4).setCell ⟨b,10,none⟩ v5).setCell ⟨b,11,none⟩ v6).setCell ⟨b,12,none⟩ v7).heap[b]?=some (.cells #[c0,c1,c2,c3,c4,v0,v1,v2,v3,v4,v5,v6,v7,c13,c14] T (0,0)):=by
 have h1:(w.setCell ⟨b,5,none⟩ v0).heap[b]?=some (.cells #[c0,c1,c2,c3,c4,v0,c6,c7,c8,c9,c10,c11,c12,c13,c14] T (0,0)):=heap_setCell_same _ b 5 _ _ v0 h;generalize w.setCell ⟨b,5,none⟩ v0=x1 at h1 ⊢;have h2:(x1.setCell ⟨b,6,none⟩ v1).heap[b]?=some (.cells #[c0,c1,c2,c3,c4,v0,v1,c7,c8,c9,c10,c11,c12,c13,c14] T (0,0)):=heap_setCell_same _ b 6 _ _ v1 h1;generalize x1.setCell ⟨b,6,none⟩ v1=x2 at h2 ⊢;have h3:(x2.setCell ⟨b,7,none⟩ v2).heap[b]?=some (.cells #[c0,c1,c2,c3,c4,v0,v1,v2,c8,c9,c10,c11,c12,c13,c14] T (0,0)):=heap_setCell_same _ b 7 _ _ v2 h2;generalize x2.setCell ⟨b,7,none⟩ v2=x3 at h3 ⊢;have h4:(x3.setCell ⟨b,8,none⟩ v3).heap[b]?=some (.cells #[c0,c1,c2,c3,c4,v0,v1,v2,v3,c9,c10,c11,c12,c13,c14] T (0,0)):=heap_setCell_same _ b 8 _ _ v3 h3;generalize x3.setCell ⟨b,8,none⟩ v3=x4 at h4 ⊢;have h5:(x4.setCell ⟨b,9,none⟩ v4).heap[b]?=some (.cells #[c0,c1,c2,c3,c4,v0,v1,v2,v3,v4,c10,c11,c12,c13,c14] T (0,0)):=heap_setCell_same _ b 9 _ _ v4 h4;generalize x4.setCell ⟨b,9,none⟩ v4=x5 at h5 ⊢;have h6:(x5.setCell ⟨b,10,none⟩ v5).heap[b]?=some (.cells #[c0,c1,c2,c3,c4,v0,v1,v2,v3,v4,v5,c11,c12,c13,c14] T (0,0)):=heap_setCell_same _ b 10 _ _ v5 h5;generalize x5.setCell ⟨b,10,none⟩ v5=x6 at h6 ⊢;have h7:(x6.setCell ⟨b,11,none⟩ v6).heap[b]?=some (.cells #[c0,c1,c2,c3,c4,v0,v1,v2,v3,v4,v5,v6,c12,c13,c14] T (0,0)):=heap_setCell_same _ b 11 _ _ v6 h6;generalize x6.setCell ⟨b,11,none⟩ v6=x7 at h7 ⊢;have h8:(x7.setCell ⟨b,12,none⟩ v7).heap[b]?=some (.cells #[c0,c1,c2,c3,c4,v0,v1,v2,v3,v4,v5,v6,v7,c13,c14] T (0,0)):=heap_setCell_same _ b 12 _ _ v7 h7;exact h8
theorem La {B b:Nat}{w0 w:World}(h:Below B w0 w)(hb:B≤b)(v0 v1 v2 v3 v4 v5 v6 v7:Value):Below B w0 ((((((((w.setCell ⟨b,5,none⟩ v0).setCell ⟨b,6,none⟩ v1).setCell ⟨b,7,none⟩ v2).setCell ⟨b,8,none⟩ v3).setCell ⟨b,9,none⟩ v4).setCell ⟨b,10,none⟩ v5).setCell ⟨b,11,none⟩ v6).setCell ⟨b,12,none⟩ v7) :=
 tY hb [v0,v1,v2,v3,v4,v5,v6,v7] 5 h
theorem Sk (P:Nat→Prop)(w:World)(b:Nat)(v0 v1 v2 v3 v4 v5 v6 v7:Value)(hP:∀ k,P k→k≠b):aQ P w ((((((((w.setCell ⟨b,5,none⟩ v0).setCell ⟨b,6,none⟩ v1).setCell ⟨b,7,none⟩ v2).setCell ⟨b,8,none⟩ v3).setCell ⟨b,9,none⟩ v4).setCell ⟨b,10,none⟩ v5).setCell ⟨b,11,none⟩ v6).setCell ⟨b,12,none⟩ v7) :=
 Gn hP [v0,v1,v2,v3,v4,v5,v6,v7] 5 w
theorem zB (P:Nat→Prop)(w:World)(b:Nat)(v0 v1 v2 v3 v4 v5 v6 v7 v8 v9 v10 v11 v12 v13 v14:Value)(hP:∀ k,P k→k≠b):aQ P w (((((((((((((((w.setCell ⟨b,0,none⟩ v0).setCell ⟨b,1,none⟩ v1).setCell ⟨b,2,none⟩ v2).setCell ⟨b,3,none⟩ v3).setCell ⟨b,4,none⟩ v4).setCell ⟨b,5,none⟩ v5).setCell ⟨b,6,none⟩ v6).setCell ⟨b,7,none⟩ v7).setCell ⟨b,8,none⟩ v8).setCell ⟨b,9,none⟩ v9).setCell ⟨b,10,none⟩ v10).setCell ⟨b,11,none⟩ v11).setCell ⟨b,12,none⟩ v12).setCell ⟨b,13,none⟩ v13).setCell ⟨b,14,none⟩ v14) :=
 Gn hP [v0,v1,v2,v3,v4,v5,v6,v7,v8,v9,v10,v11,v12,v13,v14] 0 w
end Go.Proofs.YtknicmmigbhpcaaGreatDoor
