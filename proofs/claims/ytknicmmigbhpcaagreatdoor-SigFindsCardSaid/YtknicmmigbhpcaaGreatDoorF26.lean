/- Walks and plain laws: RDefL, SetAt. -/
import Derived.Test.YtknicmmigbhpcaaGreatDoorF25
set_option maxHeartbeats 16000000
set_option maxRecDepth 100000
set_option linter.unusedVariables false
set_option linter.unusedSimpArgs false
namespace Go.Proofs.YtknicmmigbhpcaaGreatDoor
open Go.RowKit Go
theorem jJ:∀ (a b:List It) (u:Nat),cK u (a++b)=cK u a++cK (u+bB (a.map It.pt)) b
 | [],b,u=>by simp[cK,bB]
 | i :: a,b,u=>by rw[List.cons_append,cK,jJ a b,cK,List.map_cons,bB,Nat.add_assoc,List.cons_append]
theorem xY:∀ (l:List It) (u:Nat) (p:It × Nat),p∈cK u l→p.1∈l
 | [],u,p,h=>by cases h
 | i :: l,u,p,h=>by
  rw[cK,List.mem_cons] at h
  rcases h with rfl|h
  ·exact List.mem_cons_self
  ·exact List.mem_cons_of_mem _ (xY l _ p h)
def It.F8 (toks:List Tok)(v:Nat):It→List FF
 | .par t=>[t.sZ toks v]
 | _=>[]
theorem Dm (toks:List Tok)(u:Nat)(i:It):eO toks u [i]=i.F8 toks u:=by
 cases i with
 | par t=>rw[eO,eO];rfl
 | leaf=>rw[eO,eO];rfl;simp
 | base=>rw[eO,eO];rfl;simp
 | expr e=>rw[eO,eO];rfl;simp
 | cl e=>rw[eO,eO];rfl;simp
theorem Dn (toks:List Tok):∀ (l:List It) (u:Nat) (j:Nat) (h:j<(cK u l).length),eO toks u (l.take (j+1))=eO toks u (l.take j)++(cK u l)[j].1.F8 toks (cK u l)[j].2
 | [],u,j,h=>absurd h (by simp[cK])
 | i :: l,u,0,h=>by
  rw[List.take_zero,List.take_succ_cons,List.take_zero,Dm];simp[eO,cK]
 | i :: l,u,j+1,h=>by
  have:=Dn toks l (u+i.pt.lv) j (by simpa [cK] using h)
  have h1:∀ k:List It,eO toks u (i :: k)=i.F8 toks u++eO toks (u+i.pt.lv) k:=fun k=>by
   have:=fT toks [i] k u;rw[Dm] at this
   simpa [bB] using this
  rw[List.take_succ_cons,List.take_succ_cons,h1,h1,this,List.append_assoc];simp only[cK,List.getElem_cons_succ]
theorem Dp (toks:List Tok):∀ (l:List It) (u:Nat),(eO toks u l).length≤l.length
 | [],u=>by rw[eO];exact Nat.le_refl _
 | i :: l,u=>by
  have h1:=Dp toks l (u+i.pt.lv);have h2:=fT toks [i] l u
  have h3:(i.F8 toks u).length≤1:=by cases i<;>simp[It.F8]
  rw[Dm] at h2;rw[show i :: l=[i]++l from rfl,h2,bP,bP];simp only[List.map_cons,List.map_nil,bB,Nat.add_zero,dX,List.length_nil] at h1 ⊢;omega
theorem cB.Ip (d:cB):bB (d.eP.map It.pt)=bB d.lead:=by unfold cB.eP cB.lead;split<;>rfl
theorem cB.V8 (d:cB)(u:Nat):∃ pre,d.its=pre++[.expr d.body,.leaf]∧u+bB (pre.map It.pt)=d.at3 u:=by
 refine⟨d.eP++([.leaf,.leaf,.leaf]++(fq d.jS++([.leaf]++(d.ty.its++[.leaf])))),by simp[cB.its],?_⟩;simp only[List.map_append,gZ,d.Ip,qG,d.ty.Da,List.map_cons,List.map_nil,It.pt,bB,PT.lv,cB.at3,cB.at2,cB.Cj];omega
theorem cB.aa9 (d:cB)(u:Nat):∃ pre post,d.its=pre++(d.ty.its++post)∧u+bB (pre.map It.pt)=d.at2 u∧(∀ i∈pre++post,(i matches .leaf)∨(i matches .par _)∨(i matches .expr _)):=by
 refine⟨d.eP++([.leaf,.leaf,.leaf]++(fq d.jS++[.leaf])),[.leaf,.expr d.body,.leaf],by simp[cB.its],?_,?_⟩
 ·simp only[List.map_append,gZ,d.Ip,qG,List.map_cons,List.map_nil,It.pt,bB,PT.lv,cB.at2,cB.Cj]
  omega
 ·intro i hi
  simp only[List.mem_append,List.mem_cons,List.not_mem_nil,or_false] at hi
  rcases hi with (hi|(hi|hi|hi)|hi|hi)|hi|hi|hi
  ·unfold cB.eP at hi
   split at hi
   ·rw[List.mem_singleton] at hi;subst hi;exact .inl rfl
   ·cases hi
  ·subst hi;exact .inl rfl
  ·subst hi;exact .inl rfl
  ·subst hi;exact .inl rfl
  ·exact Db _ _ hi
  ·subst hi;exact .inl rfl
  ·subst hi;exact .inl rfl
  ·subst hi;exact .inr (.inr rfl)
  ·subst hi;exact .inl rfl
theorem cB.V9 (d:cB)(u:Nat)(p:It × Nat)(h:p∈cK u d.its)(hp:p.1.plain=false):p∈cK (d.at2 u) d.ty.its:=by
 obtain⟨pre,post,e,hl,hn⟩:=d.aa9 u
 have hno:∀ q:It × Nat,q.1∈pre++post→q.1.plain=true:=fun q hq=>by
  rcases hn _ hq with h|h|h<;>(generalize q.1=x at h ⊢;cases x<;>simp_all [It.plain])
 rw[e,jJ,jJ,hl,List.mem_append,List.mem_append] at h
 rcases h with h|h|h
 ·have:=hno p (List.mem_append_left _ (xY _ _ _ h));rw[hp] at this;cases this
 ·exact h
 ·have:=hno p (List.mem_append_right _ (xY _ _ _ h));rw[hp] at this;cases this
theorem fu.KT {toks:List Tok}{t:fu}{u:Nat}(h:t.ok toks u)(v:Nat)(hv:(It.base,v)∈cK u t.its):aI toks v∈[MS,xB]:=by
 unfold fu.its at hv;have h1:=h.1
 cases hc:t.cl with
 | none =>
  rw[hc] at hv;simp only[List.append_nil,cK,It.pt,PT.lv,List.mem_cons,Prod.mk.injEq,reduceCtorEq,false_and,true_and,List.not_mem_nil,or_false,false_or] at hv;subst hv;exact h1
 | some e =>
  rw[hc] at hv;simp only[List.cons_append,List.nil_append,cK,It.pt,PT.lv,List.mem_cons,Prod.mk.injEq,reduceCtorEq,false_and,true_and,List.not_mem_nil,or_false,false_or] at hv;subst hv;exact h1
theorem fu.Wh {toks:List Tok}{t:fu}{u:Nat}(h:t.ok toks u)(e:CE)(v:Nat)(hv:(It.cl e,v)∈cK u t.its):e.ok toks true (v+1):=by
 unfold fu.its at hv;have h1:=h.2
 cases hc:t.cl with
 | none =>
  rw[hc] at hv;simp[cK,It.pt,PT.lv] at hv
 | some e' =>
  rw[hc] at hv h1;simp only[List.cons_append,List.nil_append,cK,It.pt,PT.lv,bB,List.mem_cons,Prod.mk.injEq,reduceCtorEq,false_and,It.cl.injEq,List.not_mem_nil,or_false,false_or] at hv;obtain⟨rfl,rfl⟩:=hv;exact h1
theorem Pz {toks:List Tok}:∀ (l:List fu) (u:Nat) (t:fu) (v:Nat),vN toks u l→(It.par t,v)∈cK u (fq l)→t.JZ toks v
 | [],u,t,v,_,h=>by rw[fq,cK] at h;cases h
 | [s],u,t,v,ho,h=>by
  rw[fq,cK,cK,List.mem_singleton] at h;simp only[Prod.mk.injEq,It.par.injEq] at h;obtain⟨rfl,rfl⟩:=h;exact ho.1
 | s :: s' :: l,u,t,v,ho,h=>by
  rw[show fq (s :: s' :: l)=.par s :: .leaf :: fq (s' :: l) from by rw[fq],cK,cK,List.mem_cons,List.mem_cons] at h
  rcases h with h|h|h
  ·simp only[Prod.mk.injEq,It.par.injEq] at h
   obtain⟨rfl,rfl⟩:=h;exact ho.1
  ·simp at h
  ·exact Pz (s' :: l) _ t v ho.2 h
theorem abb {toks:List Tok}{d:cB}{u:Nat}(ho:d.ok toks u){t:fu}{v:Nat}(h:(It.par t,v)∈cK u d.its):t.JZ toks v:=by
 have hno:∀ l:List It,(∀ i∈l,¬ (i matches .par _))→∀ x,(It.par t,v) ∉ cK x l:=fun l hl x hx=>by
  have:=hl _ (xY _ _ _ hx);simp at this
 rw[cB.its,jJ,jJ,jJ,List.mem_append,List.mem_append,List.mem_append] at h
 rcases h with h|h|h|h
 ·refine absurd h (hno _ (fun i hi=>?_) _)
  unfold cB.eP at hi
  split at hi
  ·rw[List.mem_singleton] at hi;subst hi;simp
  ·cases hi
 ·refine absurd h (hno _ (fun i hi=>?_) _)
  simp only[List.mem_cons,List.not_mem_nil,or_false,or_self] at hi;subst hi;simp
 ·refine Pz d.jS _ t v ho.2.2.2.2.1 ?_
  have e:u+bB (d.eP.map It.pt)+bB ([It.leaf,.leaf,.leaf].map It.pt)=d.Cj u+3:=by
   rw[d.Ip];simp only[List.map_cons,List.map_nil,It.pt,bB,PT.lv,cB.Cj]
  rw[e] at h;exact h
 ·refine absurd h (hno _ (fun i hi=>?_) _)
  unfold fu.its at hi
  cases hc:d.ty.cl with
  | none =>
   rw[hc] at hi;simp only[List.mem_append,List.mem_cons,List.not_mem_nil,or_false] at hi
   rcases hi with rfl|(rfl|rfl)|rfl|rfl|rfl<;>simp
  | some e =>
   rw[hc] at hi;simp only[List.mem_append,List.mem_cons,List.not_mem_nil,or_false] at hi
   rcases hi with rfl|((rfl|rfl)|rfl)|rfl|rfl|rfl<;>simp
theorem It.N8 (i:It)(h:∀ t,i≠.par t):i.pt.kd≠4:=by
 cases i with
 | leaf=>exact(by decide:(19:Int)≠4)
 | par t=>exact absurd rfl (h t)
 | base=>exact show ((5:Nat):Int)≠4 by decide
 | cl e=>exact show ((6:Nat):Int)≠4 by decide
 | expr e =>
  obtain⟨c,la,ea,c1,c2⟩:=e.node;simp only[It.pt,ea,PT.kd];omega
theorem It.RS (i:It)(toks:List Tok)(v:Nat)(h:∀ t,i≠.par t):i.F8 toks v=[]:=by
 cases i with
 | par t=>exact absurd rfl (h t)
 | _=>rfl
structure RdE (B:Nat) (tv nv:Value) (toks:List Tok) (nodes:List Nd):Prop where
 pl:∀ v,bZ toks v+(aI toks v).length≤1099511627776
 few:∀ n∈nodes,n.kids.length≤1000000
 exprs:∀ (cl:Bool) (e:CE) (u:Nat),e.ok toks cl u→u+e.pt.lv≤toks.length→∀ (k:Nat) (W:World),lM nodes k u e.pt→aP B W (.agg #[tv,nv]) toks nodes→B≤W.heap.size→Calls Tryz.prog 113 #[.agg #[tv,nv],.int .i64 k] W (EPost XA (e.pe toks u) W)
theorem Oa {B:Nat}{tv nv:Value}{toks:List Tok}{nodes:List Nd}(E:RdE B tv nv toks nodes)(t:fu)(v:Nat)(ho:t.JZ toks v)(hl:v+t.par.lv≤toks.length)(i:Nat)(w:World)(hr:lM nodes i v t.par)(h:aP B w (.agg #[tv,nv]) toks nodes)(hB:B≤w.heap.size) :
  Calls Tryz.prog 112 #[.agg #[tv,nv],.int .i64 i] w (NW (t.sZ toks v) w):=by
 rw[t.RL] at hr hl;obtain⟨ks,hn,hk⟩:=dM hr
 have hlv:v+bB (t.oq.map It.pt)≤toks.length:=by rw[PT.lv] at hl;exact hl
 have hks:=E.few _ (List.mem_of_getElem? hn);have hk2:=hk;rw[fu.oq,List.map_cons] at hk2;obtain⟨k0,ks',hke,hl0,_⟩:=bE (show dV nodes ks v (.leaf :: _) from hk2)
 have hvt:v<toks.length:=by
  rw[fu.oq,List.map_cons,bB] at hlv;simp only[It.pt,PT.lv] at hlv;omega
 have:=NY B tv nv toks nodes i 4 ks w h hB hn k0 v (by rw[hke];rfl) hl0 hvt (lg toks v t.oq ⟨0,[],-1⟩) (fun W hT hW =>
  Dk B tv nv toks nodes i 4 ks v t.oq W hT hW hn hk hlv hks E.pl (fun x hx=>?_) (fun e x hx k W' hrk hT' hW'=>?_))
 ·rw[fu.YV] at this
  exact this
 ·rw[fu.oq,cK,List.mem_cons] at hx
  rcases hx with hx|hx
  ·cases hx
  ·exact fu.KT ho.2 x hx
 ·have hend:=qI _ _ _ hx
  simp only[It.pt,PT.lv,bB] at hend;rw[fu.oq,cK,List.mem_cons] at hx
  rcases hx with hx|hx
  ·cases hx
  ·exact E.exprs true e (x+1) (fu.Wh ho.2 e x hx) (by omega) k W' hrk hT' hW'
theorem Y3 {B:Nat}{tv nv:Value}{toks:List Tok}{nodes:List Nd}(E:RdE B tv nv toks nodes)(d:cB)(u:Nat)(ho:d.ok toks u)(ks:List Int)(hlv:u+bB (d.its.map It.pt)≤toks.length)(i:Nat)(hn:nodes[i]?=some ⟨(3:Nat),-1,ks⟩)(hk:dV nodes ks u (d.its.map It.pt))(w:World)(h:aP B w (.agg #[tv,nv]) toks nodes)(hB:B≤w.heap.size) :
  Calls Tryz.prog 111 #[.agg #[tv,nv],.int .i64 i] w (Im ⟨(d.dd toks u).res.base,(d.dd toks u).res.clause,(d.dd toks u).res.bare⟩ w):=by
 have hks:=E.few _ (List.mem_of_getElem? hn);have hty:=ho.2.2.2.2.2.1
 have:=Dk B tv nv toks nodes i 3 ks u d.its w h hB hn hk hlv hks E.pl (fun x hx=>fu.KT hty x (d.V9 u _ hx rfl)) (fun e x hx k W' hrk hT' hW'=>by
  have hend:=qI _ _ _ hx;simp only[It.pt,PT.lv,bB] at hend
  exact E.exprs true e (x+1) (fu.Wh hty e x (d.V9 u _ hx rfl)) (by omega) k W' hrk hT' hW')
 rw[d.typ] at this;exact this
structure Y4 (toks:List Tok) (nodes:List Nd) (d:cB) (u:Nat) (ks:List Int):Prop where
 len:ks.length=d.its.length
 many:3≤ks.length
 first:∃ k:Nat,ks[0]?=some (k:Int)∧nodes[k]?=some ⟨19,(u:Nat),[]⟩∧u<toks.length
 name:∃ k:Nat,ks[if d.pub=true then 2 else 1]?=some (k:Int)∧nodes[k]?=some ⟨19,((d.Cj u+1:Nat):Int),[]⟩∧d.Cj u+1<toks.length
 body:∃ k:Nat,ks[ks.length - 2]?=some (k:Int)∧lM nodes k (d.at3 u) d.body.pt∧d.at3 u+d.body.pt.lv≤toks.length
 pub:(aI toks u=yS)↔d.pub=true
theorem Wi {toks:List Tok}{nodes:List Nd}{d:cB}{u:Nat}{ks:List Int}(ho:d.ok toks u)(hlv:u+bB (d.its.map It.pt)≤toks.length)(hk:dV nodes ks u (d.its.map It.pt)):Y4 toks nodes d u ks:=by
 obtain⟨hlen,hat⟩:=xW _ _ _ hk
 have hat':∀ (j:Nat) (p:It × Nat),(cK u d.its)[j]?=some p→∃ k:Nat,ks[j]?=some (k:Int)∧lM nodes k p.2 p.1.pt∧p.2+p.1.pt.lv≤toks.length:=fun j p hp=>by
  obtain⟨h2,e⟩:=mR hp
  have h1:j<ks.length:=by rw[qH] at h2;omega
  have hr:=hat j h1 h2;have hend:=qI _ _ _ (List.mem_of_getElem? hp);rw[e] at hr;have hok:=zo hr;refine⟨ks[j].toNat,?_,?_,by omega⟩
  ·rw[List.getElem?_eq_getElem h1];congr 1;omega
  ·have:((ks[j].toNat:Nat):Int)=ks[j]:=by omega
   rw[this];exact hr
 have zX:∀ (j v:Nat),(cK u d.its)[j]?=some (.leaf,v)→∃ k:Nat,ks[j]?=some (k:Int)∧nodes[k]?=some ⟨19,(v:Nat),[]⟩∧v<toks.length:=fun j v hp=>by
  obtain⟨k,h1,h2,h3⟩:=hat' j _ hp;obtain⟨i,hi,hn⟩:=lM.Mv h2
  obtain rfl:k=i:=by omega
  exact⟨k,h1,hn,by simp only[It.pt,PT.lv] at h3;omega⟩
 obtain⟨pre,e,hp3⟩:=d.V8 u
 have hne:G8≠yS:=by decide
 refine⟨hlen,?_,zX 0 u ?_,zX _ _ ?_,?_,?_⟩
 ·rw[hlen,cB.its];simp;omega
 ·rw[cB.its]
  unfold cB.eP
  cases d.pub<;>simp[cK]
 ·rw[cB.its]
  unfold cB.eP cB.Cj cB.lead
  cases d.pub<;>simp[cK,It.pt,PT.lv,bB]
 ·have hl:ks.length - 2=(cK u pre).length:=by rw[hlen,e,qH];simp
  rw[hl];obtain⟨k,h1,h2,h3⟩:=hat' (cK u pre).length (.expr d.body,d.at3 u) (by rw[e,jJ,hp3];simp[cK]);exact⟨k,h1,h2,h3⟩
 ·constructor
  ·intro h
   cases hd:d.pub with
   | true=>rfl
   | false =>
    have h1:=ho.2.1;unfold cB.Cj cB.lead at h1;rw[hd] at h1;simp only[Bool.false_eq_true,if_false,bB,Nat.add_zero] at h1;rw[h1] at h;exact absurd h hne
  ·exact ho.1
def setAt (b:Nat):Nat→List Value→World→World
 | _,[],w=>w
 | j,v :: l,w=>setAt b (j+1) l (w.setCell ⟨b,j,none⟩ v)
theorem tT {b k:Nat}(hk:k≠b):∀ (l:List Value) (j:Nat) (w:World),(setAt b j l w).heap[k]?=w.heap[k]?
 | [],_,_=>rfl
 | _v :: l,j,_w=>(tT hk l (j+1) _).trans (heap_setCell_other _ _ _ _ hk)
theorem Dq {b:Nat}:∀ (l:List Value) (j:Nat) (w:World),(setAt b j l w).heap.size=w.heap.size
 | [],_,_=>rfl
 | v :: l,j,w=>(Dq l (j+1) _).trans (by simp)
theorem tV {B b:Nat}{w0:World}(hb:B≤b):∀ (l:List Value) (j:Nat) {w:World},Below B w0 w→Below B w0 (setAt b j l w)
 | [],_,_,h=>h
 | v :: l,j,_,h=>tV hb l (j+1) (h.setCell hb v)
theorem Ga {P:Nat→Prop}{b:Nat}(hP:∀ k,P k→k≠b)(l:List Value)(j:Nat)(w:World):aQ P w (setAt b j l w):=⟨Nat.le_of_eq (Dq l j w).symm,fun k hk _=>tT (hP k hk) l j w⟩
theorem Dr {b k i:Nat}(hk:k≠b)(l:List Value)(j:Nat)(w:World):(setAt b j l w).cell? ⟨k,i,none⟩=w.cell? ⟨k,i,none⟩:=World.cell?_of_block (a:=⟨k,i,none⟩) (tT hk l j w)
theorem fH {w:World}{b:Nat}{c0 c1 c2 c3 c4 c5 c6 c7 c8 c9 c10 c11 c12 c13 c14:Value}(h:w.heap[b]?=some (.cells #[c0,c1,c2,c3,c4,c5,c6,c7,c8,c9,c10,c11,c12,c13,c14] 48 (0,0))):(w.cell? ⟨b,0,none⟩=some c0∧w.cell? ⟨b,1,none⟩=some c1∧w.cell? ⟨b,2,none⟩=some c2∧w.cell? ⟨b,3,none⟩=some c3∧w.cell? ⟨b,4,none⟩=some c4)∧(w.cell? ⟨b,5,none⟩=some c5∧w.cell? ⟨b,6,none⟩=some c6∧w.cell? ⟨b,7,none⟩=some c7∧w.cell? ⟨b,8,none⟩=some c8∧w.cell? ⟨b,9,none⟩=some c9)∧(w.cell? ⟨b,10,none⟩=some c10∧w.cell? ⟨b,11,none⟩=some c11∧w.cell? ⟨b,12,none⟩=some c12∧w.cell? ⟨b,13,none⟩=some c13∧w.cell? ⟨b,14,none⟩=some c14)∧∀ j,w.frozen? ⟨b,j,none⟩=false:=by
 refine⟨⟨?_,?_,?_,?_,?_⟩,⟨?_,?_,?_,?_,?_⟩,⟨?_,?_,?_,?_,?_⟩,fun j=>by simp[World.frozen?,h]⟩<;>(rw[Lib.cell_of_heap h];rfl)
theorem l8 (w:World)(b:Nat)(v0 v1 v2 v3 v4 v5 v6 v7 v8 v9 v10 v11 v12 v13 v14:Value){k j:Nat}(h:k≠b):(((((((((((((((w.setCell ⟨b,0,none⟩ v0).setCell ⟨b,1,none⟩ v1).setCell ⟨b,2,none⟩ v2).setCell ⟨b,3,none⟩ v3).setCell ⟨b,4,none⟩ v4).setCell ⟨b,5,none⟩ v5).setCell ⟨b,6,none⟩ v6).setCell ⟨b,7,none⟩ v7).setCell ⟨b,8,none⟩ v8).setCell ⟨b,9,none⟩ v9).setCell ⟨b,10,none⟩ v10).setCell ⟨b,11,none⟩ v11).setCell ⟨b,12,none⟩ v12).setCell ⟨b,13,none⟩ v13).setCell ⟨b,14,none⟩ v14).cell? ⟨k,j,none⟩=w.cell? ⟨k,j,none⟩ :=
 Dr h [v0,v1,v2,v3,v4,v5,v6,v7,v8,v9,v10,v11,v12,v13,v14] 0 w
theorem Dt {w:World}{b:Nat}{T:TypeId}{c0 c1 c2 c3 c4 c5 c6 c7 c8 c9 c10 c11 c12 c13 c14:Value}(h:w.heap[b]?=some (.cells #[c0,c1,c2,c3,c4,c5,c6,c7,c8,c9,c10,c11,c12,c13,c14] T (0,0)))(v0 v1 v2 v3 v4 v5 v6 v7 v8 v9 v10 v11 v12 v13 v14:Value):(((((((((((((((w.setCell ⟨b,0,none⟩ v0).setCell ⟨b,1,none⟩ v1).setCell ⟨b,2,none⟩ v2).setCell ⟨b,3,none⟩ v3).setCell ⟨b,4,none⟩ v4).setCell ⟨b,5,none⟩ v5).setCell ⟨b,6,none⟩ v6).setCell ⟨b,7,none⟩ v7).setCell ⟨b,8,none⟩ v8).setCell ⟨b,9,none⟩ v9).setCell ⟨b,10,none⟩ v10).setCell ⟨b,11,none⟩ v11).setCell ⟨b,12,none⟩ v12).setCell ⟨b,13,none⟩ v13).setCell ⟨b,14,none⟩ v14).heap[b]?=some (.cells #[v0,v1,v2,v3,v4,v5,v6,v7,v8,v9,v10,v11,v12,v13,v14] T (0,0)):=by
 have h1:(w.setCell ⟨b,0,none⟩ v0).heap[b]?=some (.cells #[v0,c1,c2,c3,c4,c5,c6,c7,c8,c9,c10,c11,c12,c13,c14] T (0,0)):=heap_setCell_same _ b 0 _ _ v0 h;generalize w.setCell ⟨b,0,none⟩ v0=x1 at h1 ⊢;have h2:(x1.setCell ⟨b,1,none⟩ v1).heap[b]?=some (.cells #[v0,v1,c2,c3,c4,c5,c6,c7,c8,c9,c10,c11,c12,c13,c14] T (0,0)):=heap_setCell_same _ b 1 _ _ v1 h1;generalize x1.setCell ⟨b,1,none⟩ v1=x2 at h2 ⊢;have h3:(x2.setCell ⟨b,2,none⟩ v2).heap[b]?=some (.cells #[v0,v1,v2,c3,c4,c5,c6,c7,c8,c9,c10,c11,c12,c13,c14] T (0,0)):=heap_setCell_same _ b 2 _ _ v2 h2;generalize x2.setCell ⟨b,2,none⟩ v2=x3 at h3 ⊢;have h4:(x3.setCell ⟨b,3,none⟩ v3).heap[b]?=some (.cells #[v0,v1,v2,v3,c4,c5,c6,c7,c8,c9,c10,c11,c12,c13,c14] T (0,0)):=heap_setCell_same _ b 3 _ _ v3 h3;generalize x3.setCell ⟨b,3,none⟩ v3=x4 at h4 ⊢;have h5:(x4.setCell ⟨b,4,none⟩ v4).heap[b]?=some (.cells #[v0,v1,v2,v3,v4,c5,c6,c7,c8,c9,c10,c11,c12,c13,c14] T (0,0)):=heap_setCell_same _ b 4 _ _ v4 h4;generalize x4.setCell ⟨b,4,none⟩ v4=x5 at h5 ⊢;have h6:(x5.setCell ⟨b,5,none⟩ v5).heap[b]?=some (.cells #[v0,v1,v2,v3,v4,v5,c6,c7,c8,c9,c10,c11,c12,c13,c14] T (0,0)):=heap_setCell_same _ b 5 _ _ v5 h5;generalize x5.setCell ⟨b,5,none⟩ v5=x6 at h6 ⊢;have h7:(x6.setCell ⟨b,6,none⟩ v6).heap[b]?=some (.cells #[v0,v1,v2,v3,v4,v5,v6,c7,c8,c9,c10,c11,c12,c13,c14] T (0,0)):=heap_setCell_same _ b 6 _ _ v6 h6;generalize x6.setCell ⟨b,6,none⟩ v6=x7 at h7 ⊢;have h8:(x7.setCell ⟨b,7,none⟩ v7).heap[b]?=some (.cells #[v0,v1,v2,v3,v4,v5,v6,v7,c8,c9,c10,c11,c12,c13,c14] T (0,0)):=heap_setCell_same _ b 7 _ _ v7 h7;generalize x7.setCell ⟨b,7,none⟩ v7=x8 at h8 ⊢;have h9:(x8.setCell ⟨b,8,none⟩ v8).heap[b]?=some (.cells #[v0,v1,v2,v3,v4,v5,v6,v7,v8,c9,c10,c11,c12,c13,c14] T (0,0)):=heap_setCell_same _ b 8 _ _ v8 h8;generalize x8.setCell ⟨b,8,none⟩ v8=x9 at h9 ⊢;have h10:(x9.setCell ⟨b,9,none⟩ v9).heap[b]?=some (.cells #[v0,v1,v2,v3,v4,v5,v6,v7,v8,v9,c10,c11,c12,c13,c14] T (0,0)):=heap_setCell_same _ b 9 _ _ v9 h9
 generalize x9.setCell ⟨b,9,none⟩ v9=x10 at h10 ⊢;have h11:(x10.setCell ⟨b,10,none⟩ v10).heap[b]?=some (.cells #[v0,v1,v2,v3,v4,v5,v6,v7,v8,v9,v10,c11,c12,c13,c14] T (0,0)):=heap_setCell_same _ b 10 _ _ v10 h10;generalize x10.setCell ⟨b,10,none⟩ v10=x11 at h11 ⊢;have h12:(x11.setCell ⟨b,11,none⟩ v11).heap[b]?=some (.cells #[v0,v1,v2,v3,v4,v5,v6,v7,v8,v9,v10,v11,c12,c13,c14] T (0,0)):=heap_setCell_same _ b 11 _ _ v11 h11;generalize x11.setCell ⟨b,11,none⟩ v11=x12 at h12 ⊢;have h13:(x12.setCell ⟨b,12,none⟩ v12).heap[b]?=some (.cells #[v0,v1,v2,v3,v4,v5,v6,v7,v8,v9,v10,v11,v12,c13,c14] T (0,0)):=heap_setCell_same _ b 12 _ _ v12 h12;generalize x12.setCell ⟨b,12,none⟩ v12=x13 at h13 ⊢;have h14:(x13.setCell ⟨b,13,none⟩ v13).heap[b]?=some (.cells #[v0,v1,v2,v3,v4,v5,v6,v7,v8,v9,v10,v11,v12,v13,c14] T (0,0)):=heap_setCell_same _ b 13 _ _ v13 h13;generalize x13.setCell ⟨b,13,none⟩ v13=x14 at h14 ⊢;have h15:(x14.setCell ⟨b,14,none⟩ v14).heap[b]?=some (.cells #[v0,v1,v2,v3,v4,v5,v6,v7,v8,v9,v10,v11,v12,v13,v14] T (0,0)):=heap_setCell_same _ b 14 _ _ v14 h14;exact h15
theorem tX {B b:Nat}{w0 w:World}(h:Below B w0 w)(hb:B≤b)(v0 v1 v2 v3 v4 v5 v6 v7 v8 v9 v10 v11 v12 v13 v14:Value):Below B w0 (((((((((((((((w.setCell ⟨b,0,none⟩ v0).setCell ⟨b,1,none⟩ v1).setCell ⟨b,2,none⟩ v2).setCell ⟨b,3,none⟩ v3).setCell ⟨b,4,none⟩ v4).setCell ⟨b,5,none⟩ v5).setCell ⟨b,6,none⟩ v6).setCell ⟨b,7,none⟩ v7).setCell ⟨b,8,none⟩ v8).setCell ⟨b,9,none⟩ v9).setCell ⟨b,10,none⟩ v10).setCell ⟨b,11,none⟩ v11).setCell ⟨b,12,none⟩ v12).setCell ⟨b,13,none⟩ v13).setCell ⟨b,14,none⟩ v14) :=
 tV hb [v0,v1,v2,v3,v4,v5,v6,v7,v8,v9,v10,v11,v12,v13,v14] 0 h
theorem vW (w:World)(b:Nat)(v0 v1 v2 v3 v4 v5 v6 v7:Value){k j:Nat}(h:k≠b):((((((((w.setCell ⟨b,5,none⟩ v0).setCell ⟨b,6,none⟩ v1).setCell ⟨b,7,none⟩ v2).setCell ⟨b,8,none⟩ v3).setCell ⟨b,9,none⟩ v4).setCell ⟨b,10,none⟩ v5).setCell ⟨b,11,none⟩ v6).setCell ⟨b,12,none⟩ v7).cell? ⟨k,j,none⟩=w.cell? ⟨k,j,none⟩ :=
 Dr h [v0,v1,v2,v3,v4,v5,v6,v7] 5 w
theorem Ob {w:World}{b:Nat}{T:TypeId}{c0 c1 c2 c3 c4 c5 c6 c7 c8 c9 c10 c11 c12 c13 c14:Value}(h:w.heap[b]?=some (.cells #[c0,c1,c2,c3,c4,c5,c6,c7,c8,c9,c10,c11,c12,c13,c14] T (0,0)))(v0 v1 v2 v3 v4 v5 v6 v7:Value):((((((((w.setCell ⟨b,5,none⟩ v0).setCell ⟨b,6,none⟩ v1).setCell ⟨b,7,none⟩ v2).setCell ⟨b,8,none⟩ v3).setCell ⟨b,9,none⟩ v4).setCell ⟨b,10,none⟩ v5).setCell ⟨b,11,none⟩ v6).setCell ⟨b,12,none⟩ v7).heap[b]?=some (.cells #[c0,c1,c2,c3,c4,v0,v1,v2,v3,v4,v5,v6,v7,c13,c14] T (0,0)):=by
 have h1:(w.setCell ⟨b,5,none⟩ v0).heap[b]?=some (.cells #[c0,c1,c2,c3,c4,v0,c6,c7,c8,c9,c10,c11,c12,c13,c14] T (0,0)):=heap_setCell_same _ b 5 _ _ v0 h;generalize w.setCell ⟨b,5,none⟩ v0=x1 at h1 ⊢;have h2:(x1.setCell ⟨b,6,none⟩ v1).heap[b]?=some (.cells #[c0,c1,c2,c3,c4,v0,v1,c7,c8,c9,c10,c11,c12,c13,c14] T (0,0)):=heap_setCell_same _ b 6 _ _ v1 h1;generalize x1.setCell ⟨b,6,none⟩ v1=x2 at h2 ⊢;have h3:(x2.setCell ⟨b,7,none⟩ v2).heap[b]?=some (.cells #[c0,c1,c2,c3,c4,v0,v1,v2,c8,c9,c10,c11,c12,c13,c14] T (0,0)):=heap_setCell_same _ b 7 _ _ v2 h2;generalize x2.setCell ⟨b,7,none⟩ v2=x3 at h3 ⊢;have h4:(x3.setCell ⟨b,8,none⟩ v3).heap[b]?=some (.cells #[c0,c1,c2,c3,c4,v0,v1,v2,v3,c9,c10,c11,c12,c13,c14] T (0,0)):=heap_setCell_same _ b 8 _ _ v3 h3;generalize x3.setCell ⟨b,8,none⟩ v3=x4 at h4 ⊢;have h5:(x4.setCell ⟨b,9,none⟩ v4).heap[b]?=some (.cells #[c0,c1,c2,c3,c4,v0,v1,v2,v3,v4,c10,c11,c12,c13,c14] T (0,0)):=heap_setCell_same _ b 9 _ _ v4 h4;generalize x4.setCell ⟨b,9,none⟩ v4=x5 at h5 ⊢;have h6:(x5.setCell ⟨b,10,none⟩ v5).heap[b]?=some (.cells #[c0,c1,c2,c3,c4,v0,v1,v2,v3,v4,v5,c11,c12,c13,c14] T (0,0)):=heap_setCell_same _ b 10 _ _ v5 h5;generalize x5.setCell ⟨b,10,none⟩ v5=x6 at h6 ⊢;have h7:(x6.setCell ⟨b,11,none⟩ v6).heap[b]?=some (.cells #[c0,c1,c2,c3,c4,v0,v1,v2,v3,v4,v5,v6,c12,c13,c14] T (0,0)):=heap_setCell_same _ b 11 _ _ v6 h6;generalize x6.setCell ⟨b,11,none⟩ v6=x7 at h7 ⊢;have h8:(x7.setCell ⟨b,12,none⟩ v7).heap[b]?=some (.cells #[c0,c1,c2,c3,c4,v0,v1,v2,v3,v4,v5,v6,v7,c13,c14] T (0,0)):=heap_setCell_same _ b 12 _ _ v7 h7;exact h8
theorem KU {B b:Nat}{w0 w:World}(h:Below B w0 w)(hb:B≤b)(v0 v1 v2 v3 v4 v5 v6 v7:Value):Below B w0 ((((((((w.setCell ⟨b,5,none⟩ v0).setCell ⟨b,6,none⟩ v1).setCell ⟨b,7,none⟩ v2).setCell ⟨b,8,none⟩ v3).setCell ⟨b,9,none⟩ v4).setCell ⟨b,10,none⟩ v5).setCell ⟨b,11,none⟩ v6).setCell ⟨b,12,none⟩ v7) :=
 tV hb [v0,v1,v2,v3,v4,v5,v6,v7] 5 h
theorem RU (P:Nat→Prop)(w:World)(b:Nat)(v0 v1 v2 v3 v4 v5 v6 v7:Value)(hP:∀ k,P k→k≠b):aQ P w ((((((((w.setCell ⟨b,5,none⟩ v0).setCell ⟨b,6,none⟩ v1).setCell ⟨b,7,none⟩ v2).setCell ⟨b,8,none⟩ v3).setCell ⟨b,9,none⟩ v4).setCell ⟨b,10,none⟩ v5).setCell ⟨b,11,none⟩ v6).setCell ⟨b,12,none⟩ v7) :=
 Ga hP [v0,v1,v2,v3,v4,v5,v6,v7] 5 w
theorem zx (P:Nat→Prop)(w:World)(b:Nat)(v0 v1 v2 v3 v4 v5 v6 v7 v8 v9 v10 v11 v12 v13 v14:Value)(hP:∀ k,P k→k≠b):aQ P w (((((((((((((((w.setCell ⟨b,0,none⟩ v0).setCell ⟨b,1,none⟩ v1).setCell ⟨b,2,none⟩ v2).setCell ⟨b,3,none⟩ v3).setCell ⟨b,4,none⟩ v4).setCell ⟨b,5,none⟩ v5).setCell ⟨b,6,none⟩ v6).setCell ⟨b,7,none⟩ v7).setCell ⟨b,8,none⟩ v8).setCell ⟨b,9,none⟩ v9).setCell ⟨b,10,none⟩ v10).setCell ⟨b,11,none⟩ v11).setCell ⟨b,12,none⟩ v12).setCell ⟨b,13,none⟩ v13).setCell ⟨b,14,none⟩ v14) :=
 Ga hP [v0,v1,v2,v3,v4,v5,v6,v7,v8,v9,v10,v11,v12,v13,v14] 0 w
end Go.Proofs.YtknicmmigbhpcaaGreatDoor
