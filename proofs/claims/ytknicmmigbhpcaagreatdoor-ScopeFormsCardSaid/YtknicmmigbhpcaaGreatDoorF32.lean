/- Walks and plain laws: RDefL, SetAt. -/
import Derived.Test.YtknicmmigbhpcaaGreatDoorF31
set_option maxHeartbeats 16000000
set_option maxRecDepth 100000
set_option linter.unusedVariables false
set_option linter.unusedSimpArgs false
namespace Go.Proofs.YtknicmmigbhpcaaGreatDoor
open Go.RowKit Go
theorem jV:∀ (a b:List It) (u:Nat),dH u (a++b)=dH u a++dH (u+bJ (a.map It.pt)) b
 | [],b,u=>by simp[dH,bJ]
 | i :: a,b,u=>by rw[List.cons_append,dH,jV a b,dH,List.map_cons,bJ,Nat.add_assoc,List.cons_append]
theorem yL:∀ (l:List It) (u:Nat) (p:It × Nat),p∈dH u l→p.1∈l
 | [],u,p,h=>by cases h
 | i :: l,u,p,h=>by
  rw[dH,List.mem_cons] at h
  rcases h with rfl|h
  ·exact List.mem_cons_self
  ·exact List.mem_cons_of_mem _ (yL l _ p h)
def It.GL (toks:List Tok)(v:Nat):It→List FF
 | .par t=>[t.uF toks v]
 | _=>[]
theorem Ei (toks:List Tok)(u:Nat)(i:It):fC toks u [i]=i.GL toks u:=by
 cases i with
 | par t=>rw[fC,fC];rfl
 | leaf=>rw[fC,fC];rfl;simp
 | base=>rw[fC,fC];rfl;simp
 | expr e=>rw[fC,fC];rfl;simp
 | cl e=>rw[fC,fC];rfl;simp
theorem Ej (toks:List Tok):∀ (l:List It) (u:Nat) (j:Nat) (h:j<(dH u l).length),fC toks u (l.take (j+1))=fC toks u (l.take j)++(dH u l)[j].1.GL toks (dH u l)[j].2
 | [],u,j,h=>absurd h (by simp[dH])
 | i :: l,u,0,h=>by
  rw[List.take_zero,List.take_succ_cons,List.take_zero,Ei];simp[fC,dH]
 | i :: l,u,j+1,h=>by
  have:=Ej toks l (u+i.pt.lv) j (by simpa [dH] using h)
  have h1:∀ k:List It,fC toks u (i :: k)=i.GL toks u++fC toks (u+i.pt.lv) k:=fun k=>by
   have:=gH toks [i] k u;rw[Ei] at this
   simpa [bJ] using this
  rw[List.take_succ_cons,List.take_succ_cons,h1,h1,this,List.append_assoc];simp only[dH,List.getElem_cons_succ]
theorem El (toks:List Tok):∀ (l:List It) (u:Nat),(fC toks u l).length≤l.length
 | [],u=>by rw[fC];exact Nat.le_refl _
 | i :: l,u=>by
  have h1:=El toks l (u+i.pt.lv);have h2:=gH toks [i] l u
  have h3:(i.GL toks u).length≤1:=by cases i<;>simp[It.GL]
  rw[Ei] at h2;rw[show i :: l=[i]++l from rfl,h2,bC,bC];simp only[List.map_cons,List.map_nil,bJ,Nat.add_zero,dI,List.length_nil] at h1 ⊢;omega
theorem dG.Jh (d:dG):bJ (d.fD.map It.pt)=bJ d.lead:=by unfold dG.fD dG.lead;split<;>rfl
theorem dG.XJ (d:dG)(u:Nat):∃ pre,d.its=pre++[.expr d.body,.leaf]∧u+bJ (pre.map It.pt)=d.at3 u:=by
 refine⟨d.fD++([.leaf,.leaf,.leaf]++(fJ d.kJ++([.leaf]++(d.ty.its++[.leaf])))),by simp[dG.its],?_⟩;simp only[List.map_append,iI,d.Jh,rE,d.ty.D5,List.map_cons,List.map_nil,It.pt,bJ,PT.lv,dG.at3,dG.at2,dG.C8];omega
theorem dG.abQ (d:dG)(u:Nat):∃ pre post,d.its=pre++(d.ty.its++post)∧u+bJ (pre.map It.pt)=d.at2 u∧(∀ i∈pre++post,(i matches .leaf)∨(i matches .par _)∨(i matches .expr _)):=by
 refine⟨d.fD++([.leaf,.leaf,.leaf]++(fJ d.kJ++[.leaf])),[.leaf,.expr d.body,.leaf],by simp[dG.its],?_,?_⟩
 ·simp only[List.map_append,iI,d.Jh,rE,List.map_cons,List.map_nil,It.pt,bJ,PT.lv,dG.at2,dG.C8]
  omega
 ·intro i hi
  simp only[List.mem_append,List.mem_cons,List.not_mem_nil,or_false] at hi
  rcases hi with (hi|(hi|hi|hi)|hi|hi)|hi|hi|hi
  ·unfold dG.fD at hi
   split at hi
   ·rw[List.mem_singleton] at hi;subst hi;exact .inl rfl
   ·cases hi
  ·subst hi;exact .inl rfl
  ·subst hi;exact .inl rfl
  ·subst hi;exact .inl rfl
  ·exact D6 _ _ hi
  ·subst hi;exact .inl rfl
  ·subst hi;exact .inl rfl
  ·subst hi;exact .inr (.inr rfl)
  ·subst hi;exact .inl rfl
theorem dG.XK (d:dG)(u:Nat)(p:It × Nat)(h:p∈dH u d.its)(hp:p.1.plain=false):p∈dH (d.at2 u) d.ty.its:=by
 obtain⟨pre,post,e,hl,hn⟩:=d.abQ u
 have hno:∀ q:It × Nat,q.1∈pre++post→q.1.plain=true:=fun q hq=>by
  rcases hn _ hq with h|h|h<;>(generalize q.1=x at h ⊢;cases x<;>simp_all [It.plain])
 rw[e,jV,jV,hl,List.mem_append,List.mem_append] at h
 rcases h with h|h|h
 ·have:=hno p (List.mem_append_left _ (yL _ _ _ h));rw[hp] at this;cases this
 ·exact h
 ·have:=hno p (List.mem_append_right _ (yL _ _ _ h));rw[hp] at this;cases this
theorem fK.MO {toks:List Tok}{t:fK}{u:Nat}(h:t.ok toks u)(v:Nat)(hv:(It.base,v)∈dH u t.its):aH toks v∈[OB,yc]:=by
 unfold fK.its at hv;have h1:=h.1
 cases hc:t.cl with
 | none =>
  rw[hc] at hv;simp only[List.append_nil,dH,It.pt,PT.lv,List.mem_cons,Prod.mk.injEq,reduceCtorEq,false_and,true_and,List.not_mem_nil,or_false,false_or] at hv;subst hv;exact h1
 | some e =>
  rw[hc] at hv;simp only[List.cons_append,List.nil_append,dH,It.pt,PT.lv,List.mem_cons,Prod.mk.injEq,reduceCtorEq,false_and,true_and,List.not_mem_nil,or_false,false_or] at hv;subst hv;exact h1
theorem fK.XL {toks:List Tok}{t:fK}{u:Nat}(h:t.ok toks u)(e:CE)(v:Nat)(hv:(It.cl e,v)∈dH u t.its):e.ok toks true (v+1):=by
 unfold fK.its at hv;have h1:=h.2
 cases hc:t.cl with
 | none =>
  rw[hc] at hv;simp[dH,It.pt,PT.lv] at hv
 | some e' =>
  rw[hc] at hv h1;simp only[List.cons_append,List.nil_append,dH,It.pt,PT.lv,bJ,List.mem_cons,Prod.mk.injEq,reduceCtorEq,false_and,It.cl.injEq,List.not_mem_nil,or_false,false_or] at hv;obtain⟨rfl,rfl⟩:=hv;exact h1
theorem Rm {toks:List Tok}:∀ (l:List fK) (u:Nat) (t:fK) (v:Nat),wP toks u l→(It.par t,v)∈dH u (fJ l)→t.Lr toks v
 | [],u,t,v,_,h=>by rw[fJ,dH] at h;cases h
 | [s],u,t,v,ho,h=>by
  rw[fJ,dH,dH,List.mem_singleton] at h;simp only[Prod.mk.injEq,It.par.injEq] at h;obtain⟨rfl,rfl⟩:=h;exact ho.1
 | s :: s' :: l,u,t,v,ho,h=>by
  rw[show fJ (s :: s' :: l)=.par s :: .leaf :: fJ (s' :: l) from by rw[fJ],dH,dH,List.mem_cons,List.mem_cons] at h
  rcases h with h|h|h
  ·simp only[Prod.mk.injEq,It.par.injEq] at h
   obtain⟨rfl,rfl⟩:=h;exact ho.1
  ·simp at h
  ·exact Rm (s' :: l) _ t v ho.2 h
theorem abR {toks:List Tok}{d:dG}{u:Nat}(ho:d.ok toks u){t:fK}{v:Nat}(h:(It.par t,v)∈dH u d.its):t.Lr toks v:=by
 have hno:∀ l:List It,(∀ i∈l,¬ (i matches .par _))→∀ x,(It.par t,v) ∉ dH x l:=fun l hl x hx=>by
  have:=hl _ (yL _ _ _ hx);simp at this
 rw[dG.its,jV,jV,jV,List.mem_append,List.mem_append,List.mem_append] at h
 rcases h with h|h|h|h
 ·refine absurd h (hno _ (fun i hi=>?_) _)
  unfold dG.fD at hi
  split at hi
  ·rw[List.mem_singleton] at hi;subst hi;simp
  ·cases hi
 ·refine absurd h (hno _ (fun i hi=>?_) _)
  simp only[List.mem_cons,List.not_mem_nil,or_false,or_self] at hi;subst hi;simp
 ·refine Rm d.kJ _ t v ho.2.2.2.2.1 ?_
  have e:u+bJ (d.fD.map It.pt)+bJ ([It.leaf,.leaf,.leaf].map It.pt)=d.C8 u+3:=by
   rw[d.Jh];simp only[List.map_cons,List.map_nil,It.pt,bJ,PT.lv,dG.C8]
  rw[e] at h;exact h
 ·refine absurd h (hno _ (fun i hi=>?_) _)
  unfold fK.its at hi
  cases hc:d.ty.cl with
  | none =>
   rw[hc] at hi;simp only[List.mem_append,List.mem_cons,List.not_mem_nil,or_false] at hi
   rcases hi with rfl|(rfl|rfl)|rfl|rfl|rfl<;>simp
  | some e =>
   rw[hc] at hi;simp only[List.mem_append,List.mem_cons,List.not_mem_nil,or_false] at hi
   rcases hi with rfl|((rfl|rfl)|rfl)|rfl|rfl|rfl<;>simp
theorem It.Qe (i:It)(h:∀ t,i≠.par t):i.pt.kd≠4:=by
 cases i with
 | leaf=>exact(by decide:(19:Int)≠4)
 | par t=>exact absurd rfl (h t)
 | base=>exact show ((5:Nat):Int)≠4 by decide
 | cl e=>exact show ((6:Nat):Int)≠4 by decide
 | expr e =>
  obtain⟨c,la,ea,c1,c2⟩:=e.node;simp only[It.pt,ea,PT.kd];omega
theorem It.Ue (i:It)(toks:List Tok)(v:Nat)(h:∀ t,i≠.par t):i.GL toks v=[]:=by
 cases i with
 | par t=>exact absurd rfl (h t)
 | _=>rfl
structure RdE (B:Nat) (tv nv:Value) (toks:List Tok) (nodes:List Nd):Prop where
 pl:∀ v,dF toks v+(aH toks v).length≤1099511627776
 few:∀ n∈nodes,n.kids.length≤1000000
 exprs:∀ (cl:Bool) (e:CE) (u:Nat),e.ok toks cl u→u+e.pt.lv≤toks.length→∀ (k:Nat) (W:World),mH nodes k u e.pt→aO B W (.agg #[tv,nv]) toks nodes→B≤W.heap.size→Calls Tryz.prog 113 #[.agg #[tv,nv],.int .i64 k] W (EPost XA (e.pe toks u) W)
theorem Qf {B:Nat}{tv nv:Value}{toks:List Tok}{nodes:List Nd}(E:RdE B tv nv toks nodes)(t:fK)(v:Nat)(ho:t.Lr toks v)(hl:v+t.par.lv≤toks.length)(i:Nat)(w:World)(hr:mH nodes i v t.par)(h:aO B w (.agg #[tv,nv]) toks nodes)(hB:B≤w.heap.size) :
  Calls Tryz.prog 112 #[.agg #[tv,nv],.int .i64 i] w (Qa (t.uF toks v) w):=by
 rw[t.T9] at hr hl;obtain⟨ks,hn,hk⟩:=dY hr
 have hlv:v+bJ (t.pE.map It.pt)≤toks.length:=by rw[PT.lv] at hl;exact hl
 have hks:=E.few _ (List.mem_of_getElem? hn);have hk2:=hk;rw[fK.pE,List.map_cons] at hk2;obtain⟨k0,ks',hke,hl0,_⟩:=bN (show eH nodes ks v (.leaf :: _) from hk2)
 have hvt:v<toks.length:=by
  rw[fK.pE,List.map_cons,bJ] at hlv;simp only[It.pt,PT.lv] at hlv;omega
 have:=Qb B tv nv toks nodes i 4 ks w h hB hn k0 v (by rw[hke];rfl) hl0 hvt (lY toks v t.pE ⟨0,[],-1⟩) (fun W hT hW =>
  Ed B tv nv toks nodes i 4 ks v t.pE W hT hW hn hk hlv hks E.pl (fun x hx=>?_) (fun e x hx k W' hrk hT' hW'=>?_))
 ·rw[fK.aaj] at this
  exact this
 ·rw[fK.pE,dH,List.mem_cons] at hx
  rcases hx with hx|hx
  ·cases hx
  ·exact fK.MO ho.2 x hx
 ·have hend:=rG _ _ _ hx
  simp only[It.pt,PT.lv,bJ] at hend;rw[fK.pE,dH,List.mem_cons] at hx
  rcases hx with hx|hx
  ·cases hx
  ·exact E.exprs true e (x+1) (fK.XL ho.2 e x hx) (by omega) k W' hrk hT' hW'
theorem aan {B:Nat}{tv nv:Value}{toks:List Tok}{nodes:List Nd}(E:RdE B tv nv toks nodes)(d:dG)(u:Nat)(ho:d.ok toks u)(ks:List Int)(hlv:u+bJ (d.its.map It.pt)≤toks.length)(i:Nat)(hn:nodes[i]?=some ⟨(3:Nat),-1,ks⟩)(hk:eH nodes ks u (d.its.map It.pt))(w:World)(h:aO B w (.agg #[tv,nv]) toks nodes)(hB:B≤w.heap.size) :
  Calls Tryz.prog 111 #[.agg #[tv,nv],.int .i64 i] w (Jg ⟨(d.dd toks u).res.base,(d.dd toks u).res.clause,(d.dd toks u).res.bare⟩ w):=by
 have hks:=E.few _ (List.mem_of_getElem? hn);have hty:=ho.2.2.2.2.2.1
 have:=Ed B tv nv toks nodes i 3 ks u d.its w h hB hn hk hlv hks E.pl (fun x hx=>fK.MO hty x (d.XK u _ hx rfl)) (fun e x hx k W' hrk hT' hW'=>by
  have hend:=rG _ _ _ hx;simp only[It.pt,PT.lv,bJ] at hend
  exact E.exprs true e (x+1) (fK.XL hty e x (d.XK u _ hx rfl)) (by omega) k W' hrk hT' hW')
 rw[d.typ] at this;exact this
structure aao (toks:List Tok) (nodes:List Nd) (d:dG) (u:Nat) (ks:List Int):Prop where
 len:ks.length=d.its.length
 many:3≤ks.length
 first:∃ k:Nat,ks[0]?=some (k:Int)∧nodes[k]?=some ⟨19,(u:Nat),[]⟩∧u<toks.length
 name:∃ k:Nat,ks[if d.pub=true then 2 else 1]?=some (k:Int)∧nodes[k]?=some ⟨19,((d.C8 u+1:Nat):Int),[]⟩∧d.C8 u+1<toks.length
 body:∃ k:Nat,ks[ks.length - 2]?=some (k:Int)∧mH nodes k (d.at3 u) d.body.pt∧d.at3 u+d.body.pt.lv≤toks.length
 pub:(aH toks u=zw)↔d.pub=true
theorem XM {toks:List Tok}{nodes:List Nd}{d:dG}{u:Nat}{ks:List Int}(ho:d.ok toks u)(hlv:u+bJ (d.its.map It.pt)≤toks.length)(hk:eH nodes ks u (d.its.map It.pt)):aao toks nodes d u ks:=by
 obtain⟨hlen,hat⟩:=yK _ _ _ hk
 have hat':∀ (j:Nat) (p:It × Nat),(dH u d.its)[j]?=some p→∃ k:Nat,ks[j]?=some (k:Int)∧mH nodes k p.2 p.1.pt∧p.2+p.1.pt.lv≤toks.length:=fun j p hp=>by
  obtain⟨h2,e⟩:=nY hp
  have h1:j<ks.length:=by rw[rF] at h2;omega
  have hr:=hat j h1 h2;have hend:=rG _ _ _ (List.mem_of_getElem? hp);rw[e] at hr;have hok:=zV hr;refine⟨ks[j].toNat,?_,?_,by omega⟩
  ·rw[List.getElem?_eq_getElem h1];congr 1;omega
  ·have:((ks[j].toNat:Nat):Int)=ks[j]:=by omega
   rw[this];exact hr
 have Av:∀ (j v:Nat),(dH u d.its)[j]?=some (.leaf,v)→∃ k:Nat,ks[j]?=some (k:Int)∧nodes[k]?=some ⟨19,(v:Nat),[]⟩∧v<toks.length:=fun j v hp=>by
  obtain⟨k,h1,h2,h3⟩:=hat' j _ hp;obtain⟨i,hi,hn⟩:=mH.Od h2
  obtain rfl:k=i:=by omega
  exact⟨k,h1,hn,by simp only[It.pt,PT.lv] at h3;omega⟩
 obtain⟨pre,e,hp3⟩:=d.XJ u
 have hne:Ik≠zw:=by decide
 refine⟨hlen,?_,Av 0 u ?_,Av _ _ ?_,?_,?_⟩
 ·rw[hlen,dG.its];simp;omega
 ·rw[dG.its]
  unfold dG.fD
  cases d.pub<;>simp[dH]
 ·rw[dG.its]
  unfold dG.fD dG.C8 dG.lead
  cases d.pub<;>simp[dH,It.pt,PT.lv,bJ]
 ·have hl:ks.length - 2=(dH u pre).length:=by rw[hlen,e,rF];simp
  rw[hl];obtain⟨k,h1,h2,h3⟩:=hat' (dH u pre).length (.expr d.body,d.at3 u) (by rw[e,jV,hp3];simp[dH]);exact⟨k,h1,h2,h3⟩
 ·constructor
  ·intro h
   cases hd:d.pub with
   | true=>rfl
   | false =>
    have h1:=ho.2.1;unfold dG.C8 dG.lead at h1;rw[hd] at h1;simp only[Bool.false_eq_true,if_false,bJ,Nat.add_zero] at h1;rw[h1] at h;exact absurd h hne
  ·exact ho.1
def setAt (b:Nat):Nat→List Value→World→World
 | _,[],w=>w
 | j,v :: l,w=>setAt b (j+1) l (w.setCell ⟨b,j,none⟩ v)
theorem uN {b k:Nat}(hk:k≠b):∀ (l:List Value) (j:Nat) (w:World),(setAt b j l w).heap[k]?=w.heap[k]?
 | [],_,_=>rfl
 | _v :: l,j,_w=>(uN hk l (j+1) _).trans (heap_setCell_other _ _ _ _ hk)
theorem Em {b:Nat}:∀ (l:List Value) (j:Nat) (w:World),(setAt b j l w).heap.size=w.heap.size
 | [],_,_=>rfl
 | v :: l,j,w=>(Em l (j+1) _).trans (by simp)
theorem uO {B b:Nat}{w0:World}(hb:B≤b):∀ (l:List Value) (j:Nat) {w:World},Below B w0 w→Below B w0 (setAt b j l w)
 | [],_,_,h=>h
 | v :: l,j,_,h=>uO hb l (j+1) (h.setCell hb v)
theorem GN {P:Nat→Prop}{b:Nat}(hP:∀ k,P k→k≠b)(l:List Value)(j:Nat)(w:World):aT P w (setAt b j l w):=⟨Nat.le_of_eq (Em l j w).symm,fun k hk _=>uN (hP k hk) l j w⟩
theorem En {b k i:Nat}(hk:k≠b)(l:List Value)(j:Nat)(w:World):(setAt b j l w).cell? ⟨k,i,none⟩=w.cell? ⟨k,i,none⟩:=World.cell?_of_block (a:=⟨k,i,none⟩) (uN hk l j w)
theorem fV {w:World}{b:Nat}{c0 c1 c2 c3 c4 c5 c6 c7 c8 c9 c10 c11 c12 c13 c14:Value}(h:w.heap[b]?=some (.cells #[c0,c1,c2,c3,c4,c5,c6,c7,c8,c9,c10,c11,c12,c13,c14] 48 (0,0))):(w.cell? ⟨b,0,none⟩=some c0∧w.cell? ⟨b,1,none⟩=some c1∧w.cell? ⟨b,2,none⟩=some c2∧w.cell? ⟨b,3,none⟩=some c3∧w.cell? ⟨b,4,none⟩=some c4)∧(w.cell? ⟨b,5,none⟩=some c5∧w.cell? ⟨b,6,none⟩=some c6∧w.cell? ⟨b,7,none⟩=some c7∧w.cell? ⟨b,8,none⟩=some c8∧w.cell? ⟨b,9,none⟩=some c9)∧(w.cell? ⟨b,10,none⟩=some c10∧w.cell? ⟨b,11,none⟩=some c11∧w.cell? ⟨b,12,none⟩=some c12∧w.cell? ⟨b,13,none⟩=some c13∧w.cell? ⟨b,14,none⟩=some c14)∧∀ j,w.frozen? ⟨b,j,none⟩=false:=by
 refine⟨⟨?_,?_,?_,?_,?_⟩,⟨?_,?_,?_,?_,?_⟩,⟨?_,?_,?_,?_,?_⟩,fun j=>by simp[World.frozen?,h]⟩<;>(rw[Lib.cell_of_heap h];rfl)
theorem mX (w:World)(b:Nat)(v0 v1 v2 v3 v4 v5 v6 v7 v8 v9 v10 v11 v12 v13 v14:Value){k j:Nat}(h:k≠b):(((((((((((((((w.setCell ⟨b,0,none⟩ v0).setCell ⟨b,1,none⟩ v1).setCell ⟨b,2,none⟩ v2).setCell ⟨b,3,none⟩ v3).setCell ⟨b,4,none⟩ v4).setCell ⟨b,5,none⟩ v5).setCell ⟨b,6,none⟩ v6).setCell ⟨b,7,none⟩ v7).setCell ⟨b,8,none⟩ v8).setCell ⟨b,9,none⟩ v9).setCell ⟨b,10,none⟩ v10).setCell ⟨b,11,none⟩ v11).setCell ⟨b,12,none⟩ v12).setCell ⟨b,13,none⟩ v13).setCell ⟨b,14,none⟩ v14).cell? ⟨k,j,none⟩=w.cell? ⟨k,j,none⟩ :=
 En h [v0,v1,v2,v3,v4,v5,v6,v7,v8,v9,v10,v11,v12,v13,v14] 0 w
theorem Eo {w:World}{b:Nat}{T:TypeId}{c0 c1 c2 c3 c4 c5 c6 c7 c8 c9 c10 c11 c12 c13 c14:Value}(h:w.heap[b]?=some (.cells #[c0,c1,c2,c3,c4,c5,c6,c7,c8,c9,c10,c11,c12,c13,c14] T (0,0)))(v0 v1 v2 v3 v4 v5 v6 v7 v8 v9 v10 v11 v12 v13 v14:Value):(((((((((((((((w.setCell ⟨b,0,none⟩ v0).setCell ⟨b,1,none⟩ v1).setCell ⟨b,2,none⟩ v2).setCell ⟨b,3,none⟩ v3).setCell ⟨b,4,none⟩ v4).setCell ⟨b,5,none⟩ v5).setCell ⟨b,6,none⟩ v6).setCell ⟨b,7,none⟩ v7).setCell ⟨b,8,none⟩ v8).setCell ⟨b,9,none⟩ v9).setCell ⟨b,10,none⟩ v10).setCell ⟨b,11,none⟩ v11).setCell ⟨b,12,none⟩ v12).setCell ⟨b,13,none⟩ v13).setCell ⟨b,14,none⟩ v14).heap[b]?=some (.cells #[v0,v1,v2,v3,v4,v5,v6,v7,v8,v9,v10,v11,v12,v13,v14] T (0,0)):=by
 have h1:(w.setCell ⟨b,0,none⟩ v0).heap[b]?=some (.cells #[v0,c1,c2,c3,c4,c5,c6,c7,c8,c9,c10,c11,c12,c13,c14] T (0,0)):=heap_setCell_same _ b 0 _ _ v0 h;generalize w.setCell ⟨b,0,none⟩ v0=x1 at h1 ⊢;have h2:(x1.setCell ⟨b,1,none⟩ v1).heap[b]?=some (.cells #[v0,v1,c2,c3,c4,c5,c6,c7,c8,c9,c10,c11,c12,c13,c14] T (0,0)):=heap_setCell_same _ b 1 _ _ v1 h1;generalize x1.setCell ⟨b,1,none⟩ v1=x2 at h2 ⊢;have h3:(x2.setCell ⟨b,2,none⟩ v2).heap[b]?=some (.cells #[v0,v1,v2,c3,c4,c5,c6,c7,c8,c9,c10,c11,c12,c13,c14] T (0,0)):=heap_setCell_same _ b 2 _ _ v2 h2;generalize x2.setCell ⟨b,2,none⟩ v2=x3 at h3 ⊢;have h4:(x3.setCell ⟨b,3,none⟩ v3).heap[b]?=some (.cells #[v0,v1,v2,v3,c4,c5,c6,c7,c8,c9,c10,c11,c12,c13,c14] T (0,0)):=heap_setCell_same _ b 3 _ _ v3 h3;generalize x3.setCell ⟨b,3,none⟩ v3=x4 at h4 ⊢;have h5:(x4.setCell ⟨b,4,none⟩ v4).heap[b]?=some (.cells #[v0,v1,v2,v3,v4,c5,c6,c7,c8,c9,c10,c11,c12,c13,c14] T (0,0)):=heap_setCell_same _ b 4 _ _ v4 h4;generalize x4.setCell ⟨b,4,none⟩ v4=x5 at h5 ⊢;have h6:(x5.setCell ⟨b,5,none⟩ v5).heap[b]?=some (.cells #[v0,v1,v2,v3,v4,v5,c6,c7,c8,c9,c10,c11,c12,c13,c14] T (0,0)):=heap_setCell_same _ b 5 _ _ v5 h5;generalize x5.setCell ⟨b,5,none⟩ v5=x6 at h6 ⊢;have h7:(x6.setCell ⟨b,6,none⟩ v6).heap[b]?=some (.cells #[v0,v1,v2,v3,v4,v5,v6,c7,c8,c9,c10,c11,c12,c13,c14] T (0,0)):=heap_setCell_same _ b 6 _ _ v6 h6;generalize x6.setCell ⟨b,6,none⟩ v6=x7 at h7 ⊢;have h8:(x7.setCell ⟨b,7,none⟩ v7).heap[b]?=some (.cells #[v0,v1,v2,v3,v4,v5,v6,v7,c8,c9,c10,c11,c12,c13,c14] T (0,0)):=heap_setCell_same _ b 7 _ _ v7 h7;generalize x7.setCell ⟨b,7,none⟩ v7=x8 at h8 ⊢;have h9:(x8.setCell ⟨b,8,none⟩ v8).heap[b]?=some (.cells #[v0,v1,v2,v3,v4,v5,v6,v7,v8,c9,c10,c11,c12,c13,c14] T (0,0)):=heap_setCell_same _ b 8 _ _ v8 h8;generalize x8.setCell ⟨b,8,none⟩ v8=x9 at h9 ⊢;have h10:(x9.setCell ⟨b,9,none⟩ v9).heap[b]?=some (.cells #[v0,v1,v2,v3,v4,v5,v6,v7,v8,v9,c10,c11,c12,c13,c14] T (0,0)):=heap_setCell_same _ b 9 _ _ v9 h9
 generalize x9.setCell ⟨b,9,none⟩ v9=x10 at h10 ⊢;have h11:(x10.setCell ⟨b,10,none⟩ v10).heap[b]?=some (.cells #[v0,v1,v2,v3,v4,v5,v6,v7,v8,v9,v10,c11,c12,c13,c14] T (0,0)):=heap_setCell_same _ b 10 _ _ v10 h10;generalize x10.setCell ⟨b,10,none⟩ v10=x11 at h11 ⊢;have h12:(x11.setCell ⟨b,11,none⟩ v11).heap[b]?=some (.cells #[v0,v1,v2,v3,v4,v5,v6,v7,v8,v9,v10,v11,c12,c13,c14] T (0,0)):=heap_setCell_same _ b 11 _ _ v11 h11;generalize x11.setCell ⟨b,11,none⟩ v11=x12 at h12 ⊢;have h13:(x12.setCell ⟨b,12,none⟩ v12).heap[b]?=some (.cells #[v0,v1,v2,v3,v4,v5,v6,v7,v8,v9,v10,v11,v12,c13,c14] T (0,0)):=heap_setCell_same _ b 12 _ _ v12 h12;generalize x12.setCell ⟨b,12,none⟩ v12=x13 at h13 ⊢;have h14:(x13.setCell ⟨b,13,none⟩ v13).heap[b]?=some (.cells #[v0,v1,v2,v3,v4,v5,v6,v7,v8,v9,v10,v11,v12,v13,c14] T (0,0)):=heap_setCell_same _ b 13 _ _ v13 h13;generalize x13.setCell ⟨b,13,none⟩ v13=x14 at h14 ⊢;have h15:(x14.setCell ⟨b,14,none⟩ v14).heap[b]?=some (.cells #[v0,v1,v2,v3,v4,v5,v6,v7,v8,v9,v10,v11,v12,v13,v14] T (0,0)):=heap_setCell_same _ b 14 _ _ v14 h14;exact h15
theorem uP {B b:Nat}{w0 w:World}(h:Below B w0 w)(hb:B≤b)(v0 v1 v2 v3 v4 v5 v6 v7 v8 v9 v10 v11 v12 v13 v14:Value):Below B w0 (((((((((((((((w.setCell ⟨b,0,none⟩ v0).setCell ⟨b,1,none⟩ v1).setCell ⟨b,2,none⟩ v2).setCell ⟨b,3,none⟩ v3).setCell ⟨b,4,none⟩ v4).setCell ⟨b,5,none⟩ v5).setCell ⟨b,6,none⟩ v6).setCell ⟨b,7,none⟩ v7).setCell ⟨b,8,none⟩ v8).setCell ⟨b,9,none⟩ v9).setCell ⟨b,10,none⟩ v10).setCell ⟨b,11,none⟩ v11).setCell ⟨b,12,none⟩ v12).setCell ⟨b,13,none⟩ v13).setCell ⟨b,14,none⟩ v14) :=
 uO hb [v0,v1,v2,v3,v4,v5,v6,v7,v8,v9,v10,v11,v12,v13,v14] 0 h
theorem wY (w:World)(b:Nat)(v0 v1 v2 v3 v4 v5 v6 v7:Value){k j:Nat}(h:k≠b):((((((((w.setCell ⟨b,5,none⟩ v0).setCell ⟨b,6,none⟩ v1).setCell ⟨b,7,none⟩ v2).setCell ⟨b,8,none⟩ v3).setCell ⟨b,9,none⟩ v4).setCell ⟨b,10,none⟩ v5).setCell ⟨b,11,none⟩ v6).setCell ⟨b,12,none⟩ v7).cell? ⟨k,j,none⟩=w.cell? ⟨k,j,none⟩ :=
 En h [v0,v1,v2,v3,v4,v5,v6,v7] 5 w
theorem Qg {w:World}{b:Nat}{T:TypeId}{c0 c1 c2 c3 c4 c5 c6 c7 c8 c9 c10 c11 c12 c13 c14:Value}(h:w.heap[b]?=some (.cells #[c0,c1,c2,c3,c4,c5,c6,c7,c8,c9,c10,c11,c12,c13,c14] T (0,0)))(v0 v1 v2 v3 v4 v5 v6 v7:Value):((((((((w.setCell ⟨b,5,none⟩ v0).setCell ⟨b,6,none⟩ v1).setCell ⟨b,7,none⟩ v2).setCell ⟨b,8,none⟩ v3).setCell ⟨b,9,none⟩ v4).setCell ⟨b,10,none⟩ v5).setCell ⟨b,11,none⟩ v6).setCell ⟨b,12,none⟩ v7).heap[b]?=some (.cells #[c0,c1,c2,c3,c4,v0,v1,v2,v3,v4,v5,v6,v7,c13,c14] T (0,0)):=by
 have h1:(w.setCell ⟨b,5,none⟩ v0).heap[b]?=some (.cells #[c0,c1,c2,c3,c4,v0,c6,c7,c8,c9,c10,c11,c12,c13,c14] T (0,0)):=heap_setCell_same _ b 5 _ _ v0 h;generalize w.setCell ⟨b,5,none⟩ v0=x1 at h1 ⊢;have h2:(x1.setCell ⟨b,6,none⟩ v1).heap[b]?=some (.cells #[c0,c1,c2,c3,c4,v0,v1,c7,c8,c9,c10,c11,c12,c13,c14] T (0,0)):=heap_setCell_same _ b 6 _ _ v1 h1;generalize x1.setCell ⟨b,6,none⟩ v1=x2 at h2 ⊢;have h3:(x2.setCell ⟨b,7,none⟩ v2).heap[b]?=some (.cells #[c0,c1,c2,c3,c4,v0,v1,v2,c8,c9,c10,c11,c12,c13,c14] T (0,0)):=heap_setCell_same _ b 7 _ _ v2 h2;generalize x2.setCell ⟨b,7,none⟩ v2=x3 at h3 ⊢;have h4:(x3.setCell ⟨b,8,none⟩ v3).heap[b]?=some (.cells #[c0,c1,c2,c3,c4,v0,v1,v2,v3,c9,c10,c11,c12,c13,c14] T (0,0)):=heap_setCell_same _ b 8 _ _ v3 h3;generalize x3.setCell ⟨b,8,none⟩ v3=x4 at h4 ⊢;have h5:(x4.setCell ⟨b,9,none⟩ v4).heap[b]?=some (.cells #[c0,c1,c2,c3,c4,v0,v1,v2,v3,v4,c10,c11,c12,c13,c14] T (0,0)):=heap_setCell_same _ b 9 _ _ v4 h4;generalize x4.setCell ⟨b,9,none⟩ v4=x5 at h5 ⊢;have h6:(x5.setCell ⟨b,10,none⟩ v5).heap[b]?=some (.cells #[c0,c1,c2,c3,c4,v0,v1,v2,v3,v4,v5,c11,c12,c13,c14] T (0,0)):=heap_setCell_same _ b 10 _ _ v5 h5;generalize x5.setCell ⟨b,10,none⟩ v5=x6 at h6 ⊢;have h7:(x6.setCell ⟨b,11,none⟩ v6).heap[b]?=some (.cells #[c0,c1,c2,c3,c4,v0,v1,v2,v3,v4,v5,v6,c12,c13,c14] T (0,0)):=heap_setCell_same _ b 11 _ _ v6 h6;generalize x6.setCell ⟨b,11,none⟩ v6=x7 at h7 ⊢;have h8:(x7.setCell ⟨b,12,none⟩ v7).heap[b]?=some (.cells #[c0,c1,c2,c3,c4,v0,v1,v2,v3,v4,v5,v6,v7,c13,c14] T (0,0)):=heap_setCell_same _ b 12 _ _ v7 h7;exact h8
theorem MP {B b:Nat}{w0 w:World}(h:Below B w0 w)(hb:B≤b)(v0 v1 v2 v3 v4 v5 v6 v7:Value):Below B w0 ((((((((w.setCell ⟨b,5,none⟩ v0).setCell ⟨b,6,none⟩ v1).setCell ⟨b,7,none⟩ v2).setCell ⟨b,8,none⟩ v3).setCell ⟨b,9,none⟩ v4).setCell ⟨b,10,none⟩ v5).setCell ⟨b,11,none⟩ v6).setCell ⟨b,12,none⟩ v7) :=
 uO hb [v0,v1,v2,v3,v4,v5,v6,v7] 5 h
theorem Uf (P:Nat→Prop)(w:World)(b:Nat)(v0 v1 v2 v3 v4 v5 v6 v7:Value)(hP:∀ k,P k→k≠b):aT P w ((((((((w.setCell ⟨b,5,none⟩ v0).setCell ⟨b,6,none⟩ v1).setCell ⟨b,7,none⟩ v2).setCell ⟨b,8,none⟩ v3).setCell ⟨b,9,none⟩ v4).setCell ⟨b,10,none⟩ v5).setCell ⟨b,11,none⟩ v6).setCell ⟨b,12,none⟩ v7) :=
 GN hP [v0,v1,v2,v3,v4,v5,v6,v7] 5 w
theorem zZ (P:Nat→Prop)(w:World)(b:Nat)(v0 v1 v2 v3 v4 v5 v6 v7 v8 v9 v10 v11 v12 v13 v14:Value)(hP:∀ k,P k→k≠b):aT P w (((((((((((((((w.setCell ⟨b,0,none⟩ v0).setCell ⟨b,1,none⟩ v1).setCell ⟨b,2,none⟩ v2).setCell ⟨b,3,none⟩ v3).setCell ⟨b,4,none⟩ v4).setCell ⟨b,5,none⟩ v5).setCell ⟨b,6,none⟩ v6).setCell ⟨b,7,none⟩ v7).setCell ⟨b,8,none⟩ v8).setCell ⟨b,9,none⟩ v9).setCell ⟨b,10,none⟩ v10).setCell ⟨b,11,none⟩ v11).setCell ⟨b,12,none⟩ v12).setCell ⟨b,13,none⟩ v13).setCell ⟨b,14,none⟩ v14) :=
 GN hP [v0,v1,v2,v3,v4,v5,v6,v7,v8,v9,v10,v11,v12,v13,v14] 0 w
end Go.Proofs.YtknicmmigbhpcaaGreatDoor
