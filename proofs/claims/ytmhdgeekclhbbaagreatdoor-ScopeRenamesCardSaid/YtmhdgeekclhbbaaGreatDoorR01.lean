/- Walks and plain laws: Base, BagPlain, MapPlain, Bytes, LexPlain, LexFacts, ParsePlain, ParseLaws1, ParseTree, TreePlain. -/
import Derived.WalkKit
import Derived.WalkSpells
import Derived.WalkLawsBesides
import Derived.Lib.OthersKept
import Derived.Lib.Hide
import Derived.BigQuiet
import Derived.BigGuardPart
import Derived.Deep.QuietTactic
import Derived.StillTailTactics
import Derived.Deep.RegionHeld3
import Derived.Deep.AppendLies
import Derived.Deep.DrawnRows
import Derived.Deep.DeepCutAuto
import Derived.Lib.SlicesCompact
import Derived.Lib.RowBridge
import Derived.Lib.Bytealg
import Derived.Lib.IndexLaws
set_option maxHeartbeats 16000000
set_option maxRecDepth 100000
set_option linter.unusedVariables false
set_option linter.unusedSimpArgs false
namespace Go.Proofs.YtmhdgeekclhbbaaGreatDoor
open Go.RowKit
theorem ay{p:Prop}(h:p):Go.RowKit.Hid p:=Go.Lib.hid h
theorem bS{α}{xs:Array α}{i:Nat}{a:α}(h:xs[i]?=some a):∃ h:i<xs.size,xs[i]=a:=Array.getElem?_eq_some_iff.1 h
theorem pJ{α}{xs:List α}{i:Nat}{a:α}(h:xs[i]?=some a):∃ h:i<xs.length,xs[i]=a:=List.getElem?_eq_some_iff.1 h
theorem cK{α β}{o:Option α}{f:α→Option β}{b:β}(h:o.bind f=some b):∃ a,o=some a∧f a=some b:=Option.bind_eq_some_iff.1 h
theorem bN{α}{as bs:List α}:(as++bs).length=as.length+bs.length:=List.length_append
theorem dR{α}{a:α}{as:List α}:(a::as).length=as.length+1:=List.length_cons
set_option linter.defProp false
universe u
def aY:=@Go.heap_alloc_new
def aV:=@Go.Lib.cell_of_heap
def gY:=@Go.Lib.alloc_old
def bI:=@Go.RowKit.Below.refl
def oP:=@Go.World.size_alloc
def iW:=@Go.cell_later
def dA:=@decide_eq_false
def iX:=@decide_eq_true
def bD:=@Nat.le_refl
def jc:=@Nat.le_trans
def lI:=@Nat.zero_le
def kR:=@Option.some.inj.{u}
def mX:=@List.getElem_mem.{u}
def gX:=@List.length_nil.{u}
def jN:=@List.cons_append.{u}
def nQ:=@List.append_assoc.{u}
def qc:=@List.nil_append.{u}
def Dg:=@List.take_succ_eq_append_getElem.{u}
def yV:=@List.getElem?_eq_getElem.{u}
def qZ:=@List.length_take.{u}
def wM:=@List.mem_cons_of_mem.{u}
def vB:=@List.mem_cons_self.{u}
def Au:=@List.take_of_length_le.{u}
def vv:=@Go.World.news_of_block
def BU:=@beq_eq_false_iff_ne
def Sl (B:Nat)(w:World)(v:Value)(sz n:Nat)(cs:List Value):Prop :=
 ∃ ao cap,v=.slice ao n cap∧n≤cap∧cs.length=n * sz ∧
  (0<n→∃ b off,ao=some ⟨b,off,none⟩∧b<B∧∀ i,(h:i<cs.length)→w.cell? ⟨b,off+i,none⟩=some cs[i])
theorem Sl.below {B:Nat}{w w':World}{v:Value}{sz n:Nat}{cs:List Value}(h:Sl B w v sz n cs)(hb:Below B w w'):Sl B w' v sz n cs:=by
 obtain⟨ao,cap,hv,hn,hl,hc⟩:=h;refine⟨ao,cap,hv,hn,hl,fun h0=>?_⟩;obtain⟨b,off,ha,hB,hcell⟩:=hc h0;exact⟨b,off,ha,hB,fun i hi=>(hb.cell (p:=⟨b,off+i,none⟩) hB).trans (hcell i hi)⟩
theorem Sl.mono {B B':Nat}{w:World}{v:Value}{sz n:Nat}{cs:List Value}(h:Sl B w v sz n cs)(hB:B≤B'):Sl B' w v sz n cs:=by
 obtain⟨ao,cap,hv,hn,hl,hc⟩:=h;refine⟨ao,cap,hv,hn,hl,fun h0=>?_⟩;obtain⟨b,off,ha,hb,hcell⟩:=hc h0;exact⟨b,off,ha,Nat.lt_of_lt_of_le hb hB,hcell⟩
theorem Sl.fZ {B:Nat}{w:World}{e sz:Nat}{v:Value}{n:Nat}{cs:List Value}(h:w.ownsRow B e sz v n cs):Sl w.heap.size w v sz n cs:=by
 obtain⟨hl,h⟩:=h
 rcases h with ⟨rfl,rfl⟩|⟨g,cap,cur,rfl,hg,hh,hn,hm,hs,hx⟩
 ·exact⟨none,0,rfl,bD _,hl,fun h0=>absurd h0 (by omega)⟩
 ·refine⟨some ⟨g,0,none⟩,cap,rfl,hn,hl,fun _=>⟨g,0,rfl,?_,fun i hi=>?_⟩⟩
  ·rcases Nat.lt_or_ge g w.heap.size with h'|h'
   ·exact h'
   ·simp[Array.getElem?_eq_none h'] at hh
  ·subst hx
   simp only[qZ] at hi;simp only[World.cell?,hh,Nat.zero_add,List.getElem_take];simp only[Option.isSome_none,Bool.false_eq_true,if_false];rw[Array.getElem?_eq_getElem (by simpa using (by omega:i<cur.toList.length))]
   simp
theorem yX {α:Type}{f:α→List Value}{sz:Nat}(hf:∀ x,(f x).length=sz):∀ (l:List α) (k j:Nat) (hk:k<l.length),j<sz →
  (l.flatMap f)[k * sz+j]?=(f l[k])[j]?
 | [],k,j,hk,_=>absurd hk (by simp)
 | x :: l,0,j,_,hj=>by
  simp only[List.flatMap_cons,Nat.zero_mul,Nat.zero_add,List.getElem_cons_zero];rw[List.getElem?_append_left (by rw[hf];exact hj)]
 | x :: l,k+1,j,hk,hj=>by
  have:=yX hf l k j (by simpa using hk) hj;simp only[List.flatMap_cons,List.getElem_cons_succ];rw[List.getElem?_append_right (by rw[hf,Nat.succ_mul];omega),hf,show (k+1) * sz+j - sz=k * sz+j by rw[Nat.succ_mul];omega];exact this
def Rec {α:Type}(B:Nat)(w:World)(v:Value)(sz:Nat)(f:α→List Value)(l:List α):Prop:=Sl B w v sz l.length (l.flatMap f)
theorem Rec.form {α:Type}{B:Nat}{w:World}{v:Value}{sz:Nat}{f:α→List Value}{l:List α}(h:Rec B w v sz f l)(hf:∀ x,(f x).length=sz) :
  ∃ ao cap,v=.slice ao l.length cap∧l.length≤cap∧(0<l.length→∃ b off,ao=some ⟨b,off,none⟩∧b<B ∧
   ∀ k j u,(hk:k<l.length)→(f l[k])[j]?=some u→w.cell? ⟨b,off+k * sz+j,none⟩=some u):=by
 obtain⟨ao,cap,hv,hn,hl,hc⟩:=h;refine⟨ao,cap,hv,hn,fun h0=>?_⟩;obtain⟨b,off,ha,hB,hcell⟩:=hc h0;refine⟨b,off,ha,hB,fun k j u hk hu=>?_⟩
 have hj:j<sz:=by
  rcases Nat.lt_or_ge j sz with h'|h'
  ·exact h'
  ·rw[List.getElem?_eq_none (by rw[hf];exact h')] at hu;cases hu
 have hi:=yX hf l k j hk hj;rw[hu] at hi;obtain⟨h',e⟩:=pJ hi;have:=hcell (k * sz+j) h';rw[e] at this;rw[Nat.add_assoc];exact this
theorem Rec.below {α:Type}{B:Nat}{w w':World}{v:Value}{sz:Nat}{f:α→List Value}{l:List α}(h:Rec B w v sz f l)(hb:Below B w w'):Rec B w' v sz f l:=Sl.below h hb
theorem Rec.mono {α:Type}{B B':Nat}{w:World}{v:Value}{sz:Nat}{f:α→List Value}{l:List α}(h:Rec B w v sz f l)(hB:B≤B'):Rec B' w v sz f l:=Sl.mono h hB
theorem nZ {w:World}{base e sz n:Nat}{v:Value}{xs:List Value}(h:w.ownsRow base e sz v n xs):w.drew.ownsRow base e sz v n xs:=h
theorem own_ne {w:World}{base e sz n k:Nat}{v:Value}{xs:List Value}(hr:w.ownsRow base e sz v n xs){cs:Array Value}{T:TypeId}{fr:Nat × Nat}(hk:w.heap[k]?=some (.cells cs T fr))(hT:T≠e):some k≠v.ownBlock:=by
 rcases hr.2 with ⟨rfl,_⟩|⟨g,cap,cur,rfl,_,hgg,_⟩
 ·simp[Value.ownBlock]
 ·intro q
  simp only[Value.ownBlock,Option.some.injEq] at q;subst q;rw[hk] at hgg;simp only[Option.some.injEq,Obj.cells.injEq] at hgg;exact hT hgg.2.1
theorem iI {w w':World}{base e sz n k:Nat}{v:Value}{xs:List Value}(hr:w.ownsRow base e sz v n xs)(hg:w.grownBy w' v.ownBlock){cs:Array Value}{T:TypeId}{fr:Nat × Nat}(hk:w.heap[k]?=some (.cells cs T fr))(hT:T≠e) :
  w'.heap[k]?=some (.cells cs T fr):=by
 rw[hg.block k (bS hk).1 (own_ne hr hk hT)];exact hk
theorem lJ {k:IntKind}{a b:Int}(h:a=b):Ending.returned (.int k a)=.returned (.int k b):=by rw[h]
theorem aT {a b:Bool}(h:a=b):Ending.returned (.bool a)=.returned (.bool b):=by rw[h]
theorem um (s:ByteArray):s.toList.isEmpty=decide (s.size=0):=by
 rw[Go.ByteArray.toList_eq]
 have:s.data.toList.length=s.size:=by cases s;rfl
 cases h:s.data.toList with
 | nil=>rw[h,gX] at this;exact(iX (by omega)).symm
 | cons a t=>rw[h,dR] at this;exact(dA (by omega)).symm
end Go.Proofs.YtmhdgeekclhbbaaGreatDoor

namespace Go.Proofs.YtmhdgeekclhbbaaGreatDoor
theorem qh {x y:List UInt8}(h1:x≤y)(h2:y≤x):x=y:=List.le_antisymm h1 h2
theorem Hw {x y z:List UInt8}(h1:x≤y)(h2:y≤z):x≤z:=List.le_trans h1 h2
theorem Ub (x y:List UInt8):x≤y∨y≤x:=List.le_total x y
theorem JC {x y:List UInt8}:x<y↔x≤y∧x≠y:=by
 constructor
 ·intro h
  exact⟨List.le_of_lt h,fun q=>by subst q;exact List.lt_irrefl _ h⟩
 ·rintro⟨h1,h2⟩
  apply Classical.byContradiction
  intro q;exact h2 (qh h1 (List.not_lt.1 q))
theorem Uc {x y z:List UInt8}(h1:x≤y)(h2:y<z):x<z:=by
 rw[JC] at h2 ⊢;exact⟨Hw h1 h2.1,fun q=>by subst q;exact h2.2 (qh h2.1 h1)⟩
def gG (l:List (List UInt8)):List (List UInt8):=l.mergeSort fun x y=>decide (x≤y)
theorem PG (l:List (List UInt8)):(gG l).Perm l:=List.mergeSort_perm _ _
theorem ql (l:List (List UInt8)):(gG l).length=l.length:=List.length_mergeSort l
theorem JD (l:List (List UInt8)):(gG l).Pairwise (·≤·):=by
 have:=List.pairwise_mergeSort (le:=fun x y:List UInt8=>decide (x≤y)) (fun a b c h1 h2=>by simp only[decide_eq_true_eq] at *;exact Hw h1 h2) (fun a b=>by simp only[Bool.or_eq_true,decide_eq_true_eq];exact Ub a b) l
 exact this.imp fun h=>by simpa using h
def fH (l:List (List UInt8)):List (List UInt8):=Lib.compact (gG l)
theorem pK (d:Array (List UInt8)):∀ (m:Nat) (j:Nat),j<m→d[j]!∈Lib.compactUpTo d m
 | 0,j,h=>absurd h (by omega)
 | m+1,j,h=>by
  rw[Lib.compactUpTo_succ,List.mem_append]
  by_cases q:j<m
  ·exact .inl (pK d m j q)
  ·obtain rfl:j=m:=by omega
   by_cases k:Lib.keeps d j=true
   ·rw[if_pos k];exact .inr (by simp)
   ·left
    unfold Lib.keeps at k;simp only[decide_eq_true_eq,not_or,Classical.not_not,ne_eq] at k;rw[k.2];exact pK d j (j - 1) (by omega)
theorem vC (d:Array (List UInt8))(m:Nat)(x:List UInt8)(h:x∈Lib.compactUpTo d m):∃ j,j<m∧x=d[j]!:=by
 unfold Lib.compactUpTo at h;obtain⟨j,hj,rfl⟩:=List.mem_map.1 h;exact⟨j,List.mem_range.1 (List.mem_filter.1 hj).1,rfl⟩
theorem oQ {l:List (List UInt8)}{x:List UInt8}:x∈fH l↔x∈l:=by
 rw[← (PG l).mem_iff];unfold fH Lib.compact
 constructor
 ·intro h
  obtain⟨j,hj,rfl⟩:=vC _ _ _ h;rw[getElem!_pos _ _ (by simpa using hj)]
  simp
 ·intro h
  obtain⟨j,hj,rfl⟩:=List.getElem_of_mem h;have:=pK (gG l).toArray (gG l).length j hj;rw[getElem!_pos _ _ (by simpa using hj)] at this
  simpa using this
theorem qA (zs:List (List UInt8))(hs:zs.Pairwise (·≤·)):∀ m,m≤zs.length→(Lib.compactUpTo zs.toArray m).Pairwise (· < ·)
 | 0,_=>by simp[Lib.compactUpTo]
 | m+1,h=>by
  rw[Lib.compactUpTo_succ,List.pairwise_append];refine⟨qA zs hs m (by omega),by split<;>simp,fun x hx y hy=>?_⟩
  split at hy
  ·rename_i k
   rw[List.mem_singleton] at hy;subst hy;obtain⟨j,hj,rfl⟩:=vC _ _ _ hx;unfold Lib.keeps at k;rw[decide_eq_true_eq] at k;have hne:zs.toArray[m]!≠zs.toArray[m - 1]!:=k.resolve_left (by omega)
   have e:∀ i,(hi:i<zs.length)→zs.toArray[i]! = zs[i]:=fun i hi=>by rw[getElem!_pos _ _ (by simpa using hi)];simp
   rw[e m (by omega),e (m - 1) (by omega)] at hne;rw[e j (by omega),e m (by omega)]
   have h1:zs[j]≤zs[m - 1]:=by
    by_cases q:j=m - 1
    ·subst q;exact List.le_refl _
    ·exact List.pairwise_iff_getElem.1 hs j (m - 1) (by omega) (by omega) (by omega)
   have h2:zs[m - 1]≤zs[m]:=List.pairwise_iff_getElem.1 hs (m - 1) m (by omega) (by omega) (by omega);exact Uc h1 (JC.2 ⟨h2,fun q=>hne q.symm⟩)
  ·cases hy
theorem vD (l:List (List UInt8)):(fH l).Pairwise (· < ·):=qA _ (JD l) _ (bD _)
theorem sJ (l:List (List UInt8)):(fH l).length≤l.length:=by
 have:=Lib.compact_length_le (gG l);rw[ql] at this;exact this
theorem LD:fH []=[]:=List.eq_nil_of_length_eq_zero (by have:=sJ [];simpa using this)
end Go.Proofs.YtmhdgeekclhbbaaGreatDoor

namespace Go.Proofs.YtmhdgeekclhbbaaGreatDoor
open Go.RowKit
abbrev ML:=List (List UInt8 × List Value)
def dF (p:List UInt8 × List Value):List Value:=.string ⟨p.1.toArray⟩ :: p.2
def jO (l:ML):List Value:=l.flatMap dF
structure BX (k:Nat) (l:ML):Prop where
 sorted:(l.map Prod.fst).Pairwise (· < ·)
 wid:∀ p∈l,p.2.length=k
 one:∀ p∈l,∀ u∈p.2,u.oneCell'=true
theorem BX.nil (k:Nat):BX k []:=⟨List.Pairwise.nil,(by intro p h;cases h),(by intro p h;cases h)⟩
def bP (l:ML)(x:List UInt8):Nat:=(l.takeWhile fun p=>decide (p.1<x)).length
def rE (l:ML)(x:List UInt8):Bool:=decide (x∈l.map Prod.fst)
def sK (l:ML)(x:List UInt8):Option (List Value):=(l.find? fun p=>decide (p.1=x)).map Prod.snd
def sj (l:ML)(x:List UInt8)(v:List Value):ML:=l.take (bP l x)++(x,v) :: l.drop (bP l x)
def aaU (l:ML)(x:List UInt8)(v:List Value):ML:=l.map fun p=>if p.1=x then (x,v) else p
def ad6 (l:ML)(x:List UInt8)(v:List Value):ML:=if rE l x=true then aaU l x v else sj l x v
theorem sM (l:ML)(x:List UInt8):bP l x≤l.length:=(List.takeWhile_prefix (l:=l) _).length_le
theorem Av {x:List UInt8}:∀ {l:ML} {t:Nat} (h:t<l.length),t<bP l x→l[t].1<x
 | [],_,h,_=>absurd h (by simp)
 | p :: l,t,h,ht=>by
  unfold bP at ht;rw[List.takeWhile_cons] at ht
  split at ht
  ·rename_i hp
   cases t with
   | zero=>exact of_decide_eq_true hp
   | succ t =>
    rw[dR] at ht h;exact Av (Nat.lt_of_succ_lt_succ h) (show t<bP l x from Nat.lt_of_succ_lt_succ ht)
  ·simp at ht
theorem rO {x:List UInt8}:∀ {l:ML} (h:bP l x<l.length),¬ l[bP l x].1<x
 | [],h=>absurd h (by simp)
 | p :: l,h=>by
  by_cases hp:p.1<x
  ·have e:bP (p :: l) x=bP l x+1:=by unfold bP;rw[List.takeWhile_cons,if_pos (iX hp)];rfl
   simp only[e,List.getElem_cons_succ];exact rO (by rw[e] at h;simpa using h)
  ·have e:bP (p :: l) x=0:=by unfold bP;rw[List.takeWhile_cons,if_neg (by simpa using hp)];rfl
   simp only[e,List.getElem_cons_zero];exact hp
theorem BX.mono {k:Nat}{l:ML}(h:BX k l){i j:Nat}(hij:i<j)(hj:j<l.length):l[i].1<l[j].1:=by
 have:=List.pairwise_iff_getElem.1 h.sorted i j (by simpa using Nat.lt_trans hij hj) (by simpa using hj) hij
 simpa using this
theorem xW {k:Nat}{l:ML}(h:BX k l){x:List UInt8}{t:Nat}(ht:t<l.length):l[t].1<x↔t<bP l x:=by
 constructor
 ·intro hlt
  apply Classical.byContradiction
  intro q
  by_cases e:bP l x=t
  ·subst e;exact rO ht hlt
  ·have h1:bP l x<l.length:=by omega
   exact rO h1 (List.lt_trans (h.mono (by omega) ht) hlt)
 ·exact Av ht
theorem Dv {k:Nat}{l:ML}(h:BX k l)(x:List UInt8):rE l x=decide (∃ hi:bP l x<l.length,l[bP l x].1=x):=by
 unfold rE
 congr 1
 apply propext
 constructor
 ·intro hm
  obtain⟨j,hj,e⟩:=List.getElem_of_mem hm;rw[List.length_map] at hj;rw[List.getElem_map] at e
  have h1:¬ l[j].1<x:=by rw[e];exact List.lt_irrefl _
  rw[xW h hj] at h1
  have h2:bP l x<l.length:=by omega
  refine⟨h2,?_⟩
  by_cases q:bP l x=j
  ·simp only[q];exact e
  ·have h3:=h.mono (show bP l x<j by omega) hj
   rw[e] at h3;exact absurd h3 (rO h2)
 ·rintro⟨hi,e⟩
  rw[← e];exact List.mem_map_of_mem (mX hi)
theorem yY (l:ML)(x:List UInt8):(sK l x).isSome=rE l x:=by
 unfold sK rE;rw[Option.isSome_map]
 induction l with
 | nil=>rfl
 | cons p l ih =>
  rw[List.find?_cons,List.map_cons]
  by_cases e:p.1=x
  ·rw[iX e,iX (by rw[e];exact vB)];rfl
  ·rw[dA e]
   simp only[ih]
   apply decide_eq_decide.2
   constructor
   ·exact wM _
   ·intro q
    rcases List.mem_cons.1 q with q|q
    ·exact absurd q.symm e
    ·exact q
theorem Ud {l:ML}{x:List UInt8}(h:rE l x=false):sK l x=none:=by
 have:=yY l x;rw[h] at this
 simpa using this
theorem aaV {k:Nat}{l:ML}(h:BX k l){x:List UInt8}{i:Nat}(hi:i<l.length)(e:l[i].1=x):sK l x=some l[i].2:=by
 unfold sK
 have:l.find? (fun p=>decide (p.1=x))=some l[i]:=by
  rw[List.find?_eq_some_iff_getElem];refine⟨iX e,i,hi,rfl,fun j hj=>?_⟩;have:=h.mono hj hi;rw[e] at this;simp only[Bool.not_eq_true',decide_eq_false_iff_not];intro q;rw[q] at this;exact List.lt_irrefl _ this
 rw[this];rfl
theorem Ue (l:ML)(x:List UInt8)(v:List Value):(sj l x v).map Prod.fst=(l.map Prod.fst).take (bP l x)++x :: (l.map Prod.fst).drop (bP l x):=by
 unfold sj;rw[List.map_append,List.map_cons,List.map_take,List.map_drop]
theorem BX.ins {k:Nat}{l:ML}(h:BX k l){x:List UInt8}{v:List Value}(hx:rE l x=false)(hv:v.length=k)(h1:∀ u∈v,u.oneCell'=true):BX k (sj l x v):=by
 have hmem:∀ p∈sj l x v,p∈l∨p=(x,v):=fun p hp=>by
  unfold sj at hp
  rcases List.mem_append.1 hp with q|q
  ·exact .inl (List.mem_of_mem_take q)
  ·rcases List.mem_cons.1 q with q|q
   ·exact .inr q
   ·exact .inl (List.mem_of_mem_drop q)
 refine⟨?_,fun p hp=>?_,fun p hp=>?_⟩
 ·have hg:∀ j,(hj:j<l.length)→bP l x≤j→x<l[j].1:=fun j hj hij=>by
   have h1:¬ l[j].1<x:=by rw[xW h hj];omega
   rw[JC];refine⟨List.not_lt.1 h1,fun q=>?_⟩
   have:x∈l.map Prod.fst:=by rw[q];exact List.mem_map_of_mem (mX hj)
   unfold rE at hx;exact of_decide_eq_false hx this
  rw[Ue,List.pairwise_append];refine⟨h.sorted.sublist (List.take_sublist _ _),List.pairwise_cons.2 ⟨fun y hy=>?_,h.sorted.sublist (List.drop_sublist _ _)⟩,fun y hy z hz=>?_⟩
  ·obtain⟨j,hj,rfl⟩:=List.getElem_of_mem hy
   rw[List.length_drop,List.length_map] at hj;rw[List.getElem_drop,List.getElem_map];exact hg _ (by omega) (by omega)
  ·obtain⟨j,hj,rfl⟩:=List.getElem_of_mem hy
   rw[qZ,List.length_map] at hj;rw[List.getElem_take,List.getElem_map];have hlt:l[j].1<x:=Av (by omega) (by omega)
   rcases List.mem_cons.1 hz with q|q
   ·rw[q];exact hlt
   ·obtain⟨m,hm,rfl⟩:=List.getElem_of_mem q
    rw[List.length_drop,List.length_map] at hm;rw[List.getElem_drop,List.getElem_map];exact List.lt_trans hlt (hg _ (by omega) (by omega))
 ·rcases hmem p hp with q|q
  ·exact h.wid p q
  ·rw[q];exact hv
 ·rcases hmem p hp with q|q
  ·exact h.one p q
  ·rw[q];exact h1
theorem LG (l:ML)(x:List UInt8)(v:List Value):(sj l x v).length=l.length+1:=by
 have:=sM l x;unfold sj;rw[bN,qZ,dR,List.length_drop];omega
theorem Xc {l:ML}{x:List UInt8}(v:List Value)(hx:rE l x=false)(y:List UInt8):sK (sj l x v) y=if y=x then some v else sK l y:=by
 have hn:∀ p∈l,p.1≠x:=fun p hp q=>by
  unfold rE at hx;exact of_decide_eq_false hx (by rw[← q];exact List.mem_map_of_mem hp)
 have hl:l.find? (fun p=>decide (p.1=y))=((l.take (bP l x)).find? fun p=>decide (p.1=y)).or ((l.drop (bP l x)).find? fun p=>decide (p.1=y)):=by
  rw[← List.find?_append,List.take_append_drop]
 unfold sK sj;rw[List.find?_append,List.find?_cons,hl]
 by_cases e:y=x
 ·subst e
  rw[if_pos rfl,iX rfl]
  have:(l.take (bP l y)).find? (fun p=>decide (p.1=y))=none:=List.find?_eq_none.2 fun p hp=>by simpa using hn p (List.mem_of_mem_take hp)
  rw[this]
  rfl
 ·rw[if_neg e,dA (fun q=>e q.symm)]
theorem Uf (l:ML)(x:List UInt8)(v:List Value):(aaU l x v).map Prod.fst=l.map Prod.fst:=by
 unfold aaU;rw[List.map_map]
 refine List.map_congr_left fun p _=>?_
 simp only[Function.comp]
 split
 ·rename_i h;exact h.symm
 ·rfl
theorem BX.set {k:Nat}{l:ML}(h:BX k l)(x:List UInt8){v:List Value}(hv:v.length=k)(h1:∀ u∈v,u.oneCell'=true):BX k (aaU l x v):=by
 refine⟨by rw[Uf];exact h.sorted,fun p hp=>?_,fun p hp=>?_⟩
 ·obtain⟨q,hq,rfl⟩:=List.mem_map.1 hp
  split
  ·exact hv
  ·exact h.wid q hq
 ·obtain⟨q,hq,rfl⟩:=List.mem_map.1 hp
  split
  ·exact h1
  ·exact h.one q hq
theorem BX.put {k:Nat}{l:ML}(h:BX k l)(x:List UInt8){v:List Value}(hv:v.length=k)(h1:∀ u∈v,u.oneCell'=true):BX k (ad6 l x v):=by
 unfold ad6
 split
 ·exact h.set x hv h1
 ·rename_i q;exact h.ins (by simpa using q) hv h1
theorem qB {k:Nat}:∀ {l:ML},(∀ p∈l,p.2.length=k)→(jO l).length=l.length * (k+1)
 | [],_=>by simp[jO]
 | p :: l,h=>by
  have:=qB (l:=l) fun q hq=>h q (wM _ hq)
  unfold jO at this ⊢;rw[List.flatMap_cons,bN,this,dF,dR,h p (by simp),dR,Nat.succ_mul,Nat.add_comm]
theorem BZ (a b:ML):jO (a++b)=jO a++jO b:=by unfold jO;rw[List.flatMap_append]
theorem Sq {k:Nat}:∀ {l:ML} (_:∀ p∈l,p.2.length=k) (i j:Nat) (hi:i<l.length),j<k+1→(jO l)[i * (k+1)+j]?=(dF l[i])[j]?
 | [],_,i,j,h,_=>absurd h (by simp)
 | p :: l,hw,0,j,_,hj=>by
  unfold jO;rw[List.flatMap_cons,Nat.zero_mul,Nat.zero_add,List.getElem?_append_left (by rw[dF,dR,hw p (by simp)];exact hj)]
  rfl
 | p :: l,hw,i+1,j,h,hj=>by
  have:=Sq (l:=l) (fun q hq=>hw q (wM _ hq)) i j (by simpa using h) hj;unfold jO at this ⊢
  have hp:(dF p).length=k+1:=by rw[dF,dR,hw p (by simp)]
  rw[List.flatMap_cons,List.getElem?_append_right (by rw[hp,Nat.succ_mul];omega),hp,show (i+1) * (k+1)+j - (k+1)=i * (k+1)+j by rw[Nat.succ_mul];omega,this]
  rfl
theorem LH {k:Nat}{l:ML}(h:BX k l):∀ u∈jO l,u.oneCell'=true:=fun u hu=>by
 obtain⟨p,hp,hq⟩:=List.mem_flatMap.1 hu
 rcases List.mem_cons.1 hq with q|q
 ·rw[q];rfl
 ·exact h.one p hp u q
theorem Aw {k:Nat}:∀ {l:ML},(∀ p∈l,p.2.length=k)→∀ i,jO (l.take i)=(jO l).take (i * (k+1))
 | [],_,i=>by simp[jO]
 | p :: l,h,0=>by simp[jO]
 | p :: l,h,i+1=>by
  have hp:(dF p).length=k+1:=by rw[dF,dR,h p (by simp)]
  have:=Aw (l:=l) (fun q hq=>h q (wM _ hq)) i;unfold jO at this ⊢;rw[List.take_succ_cons,List.flatMap_cons,List.flatMap_cons,this,List.take_append,Au (l:=dF p) (by rw[hp,Nat.succ_mul];omega),hp,show (i+1) * (k+1) - (k+1)=i * (k+1) by rw[Nat.succ_mul];omega]
theorem Ug {k:Nat}{l:ML}(h:∀ p∈l,p.2.length=k)(i:Nat):jO (l.drop i)=(jO l).drop (i * (k+1)):=by
 have h1:=Aw h i;have h2:=BZ (l.take i) (l.drop i);rw[List.take_append_drop,h1] at h2
 by_cases hi:i≤l.length
 ·have hl:=qB h
  have:=congrArg (List.drop (i * (k+1))) h2;rw[List.drop_append,List.drop_of_length_le (l:=(jO l).take (i * (k+1))) (by rw[qZ];omega),qc,qZ,Nat.min_eq_left (by rw[hl];exact Nat.mul_le_mul_right _ hi),Nat.sub_self,List.drop_zero] at this;exact this.symm
 ·rw[List.drop_of_length_le (by omega),List.drop_of_length_le (by rw[qB h];exact Nat.mul_le_mul_right _ (by omega))]
  rfl
theorem Dw (l:ML)(x:List UInt8)(v:List Value){k:Nat}(h:∀ p∈l,p.2.length=k):jO (sj l x v)=(jO l).take (bP l x * (k+1))++(dF (x,v)++(jO l).drop (bP l x * (k+1))):=by
 unfold sj;rw[BZ,Aw h]
 congr 1
 rw[← Ug h];unfold jO;rw[List.flatMap_cons]
end Go.Proofs.YtmhdgeekclhbbaaGreatDoor

namespace Go.Proofs.YtmhdgeekclhbbaaGreatDoor
theorem aR (o:ByteArray):o.data.toList.length=o.size:=by cases o;rfl
theorem Ca (a b:ByteArray):(a++b).data.toList=a.data.toList++b.data.toList:=by simp
theorem sN {a b:ByteArray}(h:a.data.toList=b.data.toList):a=b:=by
 cases a;cases b
 congr 1
 exact Array.toList_inj.1 h
theorem dL (s:ByteArray)(a b:Nat):(s.extract a b).data.toList=(s.data.toList.take b).drop a:=by
 rw[Lib.extract_data,List.drop_take]
theorem oU (s:ByteArray)(a:Nat):(s.extract a s.size).data.toList=s.data.toList.drop a:=by
 rw[dL,Au]
 simp
theorem Sr {a b:ByteArray}(h:a=b):Ending.returned (.string a)=.returned (.string b):=by rw[h]
theorem Uh (T:List UInt8):(Lib.indexByte T 10=-1∧∀ j:Nat,T[j]?≠some 10)∨∃ i:Nat,Lib.indexByte T 10=i∧T[i]?=some 10∧i<T.length∧∀ j:Nat,j<i→T[j]?≠some 10:=by
 rcases hq:Lib.indexByte T 10 with n|n
 ·right
  obtain⟨h1,h2⟩:=Lib.indexByte_some (o:=n) hq;exact⟨n,rfl,h1,(pJ h1).1,h2⟩
 ·left
  have:=Lib.indexByte_ge T 10
  have h1:Lib.indexByte T 10=-1:=by rw[hq] at this ⊢;omega
  rw[hq] at h1;refine⟨h1,?_⟩;rw[← hq] at h1;exact Lib.indexByte_none h1
def PI:Value→Nat
 | .string s=>s.size
 | _=>0
def cZ (c:UInt8):Bool:=(97≤c && c≤122) || (65≤c && c≤90)
def aP (c:UInt8):Bool:=48≤c && c≤57
def aS (c:UInt8):Bool:=cZ c || aP c || c == 95
def dB (c:UInt8):Bool:=c == 32 || c == 9 || c == 13 || c == 10
def bE:Bool→List UInt8→Nat
 | _,[]=>0
 | true,c :: r=>if c=10 then 1+bE false r else 1+bE true r
 | false,c :: r=>if dB c then 1+bE false r else if c=45∧r.head?=some 45 then 1+bE true r else 0
theorem mY:∀ (m:Bool) (T:List UInt8),bE m T≤T.length
 | _,[]=>by simp[bE]
 | true,c :: r=>by
  have h1:=mY false r;have h2:=mY true r;rw[bE]
  split<;>simp<;>omega
 | false,c :: r=>by
  have h1:=mY false r;have h2:=mY true r;rw[bE]
  split
  ·simp;omega
  ·split<;>simp
   omega
theorem yZ:∀ (T:List UInt8),bE false T=(T.takeWhile dB).length+bE false (T.dropWhile dB)
 | []=>by simp[bE]
 | c :: r=>by
  by_cases hc:dB c=true
  ·rw[List.takeWhile_cons_of_pos hc,List.dropWhile_cons_of_pos hc,bE,if_pos hc,dR,yZ r]
   omega
  ·rw[List.takeWhile_cons_of_neg hc,List.dropWhile_cons_of_neg hc]
   simp
theorem Dx:∀ (T:List UInt8),(∀ j:Nat,T[j]?≠some 10)→bE true T=T.length
 | [],_=>rfl
 | c :: r,h=>by
  have h0:c≠10:=fun e=>h 0 (by simp[e])
  rw[bE,if_neg h0,Dx r (fun j=>by have:=h (j+1);simpa using this),dR];omega
theorem Dy:∀ (n:Nat) (T:List UInt8),T[n]?=some 10→(∀ j:Nat,j<n→T[j]?≠some 10)→bE true T=n+bE false (T.drop n)
 | _,[],h,_=>by simp at h
 | 0,c :: r,h,_=>by
  have h0:c=10:=by simpa using h
  subst h0;rw[bE,if_pos rfl,List.drop_zero,bE,if_pos (by decide)];omega
 | n+1,c :: r,h,hj=>by
  have h0:c≠10:=fun e=>hj 0 (by omega) (by simp[e])
  rw[bE,if_neg h0,Dy n r (by simpa using h) (fun j hjm=>by have:=hj (j+1) (by omega);simpa using this)]
  simp
  omega
theorem JE (T:List UInt8)(h:[45,45] <+: T):bE false T=bE true T:=by
 obtain⟨r,rfl⟩:=h;show bE false (45 :: 45 :: r)=bE true (45 :: 45 :: r)
 have h1:bE false (45 :: 45 :: r)=1+bE true (45 :: r):=by
  conv=>lhs;rw[bE]
  rw[if_neg (by decide),if_pos ⟨rfl,rfl⟩]
 have h2:bE true (45 :: 45 :: r)=1+bE true (45 :: r):=by
  conv=>lhs;rw[bE]
  rw[if_neg (by decide)]
 rw[h1,h2]
theorem PK (T:List UInt8)(h:¬ [45,45] <+: T)(hb:T.takeWhile dB=[]):bE false T=0:=by
 cases T with
 | nil=>rfl
 | cons c r =>
  have hc:¬ dB c=true:=fun q=>by rw[List.takeWhile_cons_of_pos q] at hb;cases hb
  rw[bE,if_neg hc,if_neg];rintro⟨rfl,h2⟩
  cases r with
  | nil=>cases h2
  | cons d r =>
   injection h2 with h2
   subst h2;exact h ⟨r,rfl⟩
def lD:List (List UInt8):=[[97,115,115,101,114,116],[98,111,111,108],[101,108,115,101],[102,97,108,115,101],[102,117,110],[105,102],[105,109,112,111,114,116],[105,110],[105,110,116],[108,101,116],[110,111,116],[112,117,98],[114,101,115],[116,104,101,110],[116,114,117,101]]
def nS:List (List UInt8):=[[60,62],[60,61],[62,61],[38,38],[124,124],[61,62]]
def JF:List UInt8:=[40,41,123,125,44,58,59,46,43,45,42,47,37,61,60,62]
def iK:List (List UInt8):=nS++JF.map fun c=>[c]
def nT (T:List UInt8):Option (List UInt8):=iK.find? (fun x=>x.isPrefixOf T)
def jm (T:List UInt8):Nat × Nat × Nat :=
 let w:=T.takeWhile aS
 if 40<w.length then (0,0,20) else if w∈lD then (2,w.length,0) else (1,w.length,0)
def jD (T:List UInt8):Nat × Nat × Nat :=
 let w:=T.takeWhile aP
 if 60<w.length∨(1<w.length∧w[0]?=some 48) then (0,0,21) else (3,w.length,0)
def xX (T:List UInt8):Nat × Nat × Nat :=
 match nT T with
 | some x=>(4,x.length,0)
 | none=>(0,0,20)
def bR:List UInt8→Nat × Nat × Nat
 | []=>(5,0,0)
 | c :: r=>if cZ c then jm (c :: r) else if aP c then jD (c :: r) else xX (c :: r)
structure Tok where
 kind:Nat
 lead:List UInt8
 text:List UInt8
 place:Nat
def bV (t:Tok):List Value:=[.int .i64 t.kind,.string ⟨t.lead.toArray⟩,.string ⟨t.text.toArray⟩,.int .i64 t.place]
def kX:Nat→List UInt8→Nat→Except (Nat × Nat) (List Tok)
 | 0,_,_=>.error (99,0)
 | n+1,T,p =>
  let k:=bE false T
  let U:=T.drop k
  let t:=bR U
  if t.2.2≠0 then .error (t.2.2,p+k)
  else if t.1=5 then .ok [⟨5,T.take k,[],p+k⟩]
  else match kX n (U.drop t.2.1) (p+k+t.2.1) with
   | .error e=>.error e
   | .ok l=>.ok (⟨t.1,T.take k,U.take t.2.1,p+k⟩ :: l)
def bO (S:List UInt8):Except (Nat × Nat) (List Tok):=if 65536<S.length then .error (11,0) else kX (S.length+1) S 0
theorem jF {α:Type}(p:α→Bool)(l:List α):(l.takeWhile p).length≤l.length:=(List.takeWhile_prefix p).length_le
theorem uo {T x:List UInt8}(h:nT T=some x):x <+: T∧0<x.length∧x.length≤2:=by
 have h1:=List.find?_some h;have h2:=List.mem_of_find?_eq_some h;refine⟨List.isPrefixOf_iff_prefix.1 h1,?_⟩
 have:∀ y∈iK,0<y.length∧y.length≤2:=by decide
 exact this x h2
theorem vE (T:List UInt8):(bR T).2.1≤T.length:=by
 cases T with
 | nil=>simp[bR]
 | cons c r =>
  rw[bR]
  split
  ·have:=jF aS (c :: r)
   simp only[jm]
   split
   ·simp
   ·split<;>exact this
  ·split
   ·have:=jF aP (c :: r)
    simp only[jD]
    split
    ·simp
    ·exact this
   ·rw[xX]
    split
    ·rename_i x hx
     exact(uo hx).1.length_le
    ·simp
theorem vF (T:List UInt8)(h:(bR T).2.2=0)(h5:(bR T).1≠5):0<(bR T).2.1:=by
 cases T with
 | nil=>simp[bR] at h5
 | cons c r =>
  rw[bR] at h h5 ⊢
  by_cases hc:cZ c=true
  ·have hp:0<((c :: r).takeWhile aS).length:=by rw[List.takeWhile_cons_of_pos (by simp[aS,hc])];simp
   rw[if_pos hc] at h ⊢;simp only[jm] at h ⊢
   split at h
   ·cases h
   ·rename_i Pw
    rw[if_neg Pw]
    split<;>exact hp
  ·rw[if_neg hc] at h ⊢
   by_cases hd:aP c=true
   ·have hp:0<((c :: r).takeWhile aP).length:=by rw[List.takeWhile_cons_of_pos hd];simp
    rw[if_pos hd] at h ⊢;simp only[jD] at h ⊢
    split at h
    ·cases h
    ·rename_i Ay
     rw[if_neg Ay];exact hp
   ·rw[if_neg hd] at h ⊢
    rw[xX] at h ⊢
    split at h
    ·rename_i x hx
     exact(uo hx).2.1
    ·cases h
def og (t:Tok):Nat:=t.lead.length+t.text.length
def gT:List Tok→Nat→Nat
 | [],_=>0
 | _ :: _,0=>0
 | t :: l,i+1=>og t+gT l i
theorem xY (l:List Tok):gT l 0=0:=by cases l<;>rfl
theorem lT (t:Tok)(l:List Tok)(i:Nat):gT (t :: l) (i+1)=og t+gT l i:=rfl
theorem kr:∀ (l:List Tok) (i:Nat) (h:i<l.length),gT l (i+1)=gT l i+og l[i]
 | [],i,h=>absurd h (by simp)
 | t :: l,0,_=>by simp[gT,xY]
 | t :: l,i+1,h=>by
  have:=kr l i (by simpa using h);simp only[lT,List.getElem_cons_succ];rw[this];omega
theorem LJ (T:List UInt8)(h:(bR T).1=5):T=[]:=by
 cases T with
 | nil=>rfl
 | cons c r =>
  exfalso
  rw[bR] at h
  split at h
  ·rw[jm] at h
   split at h
   ·cases h
   ·split at h<;>cases h
  ·split at h
   ·rw[jD] at h
    split at h<;>cases h
   ·rw[xX] at h
    split at h<;>cases h
structure Laid (T:List UInt8) (p:Nat) (l:List Tok):Prop where
 some:0<l.length
 whole:gT l l.length=T.length
 place:∀ (i:Nat) (h:i<l.length),l[i].place=p+gT l i+l[i].lead.length
 last:∀ (i:Nat) (h:i<l.length),l[i].kind=5↔i=l.length - 1
 empty:∀ (i:Nat) (h:i<l.length),l[i].text=[]↔l[i].kind=5
 text:∀ (i:Nat) (h:i<l.length),(T.drop (gT l i+l[i].lead.length)).take l[i].text.length=l[i].text
 lead:∀ (i:Nat) (h:i<l.length),(T.drop (gT l i)).take l[i].lead.length=l[i].lead
theorem Laid.inside {T:List UInt8}{p:Nat}{l:List Tok}(h:Laid T p l):∀ i,i≤l.length→gT l i≤T.length:=by
 intro i hi
 have:∀ k,i+k=l.length→gT l i≤T.length:=by
  intro k
  induction k generalizing i with
  | zero=>intro e;rw[← h.whole,← e];exact bD _
  | succ k ih =>
   intro e;have:=ih (i+1) (by omega) (by omega);rw[kr l i (by omega)] at this;omega
 exact this (l.length - i) (by omega)
theorem Laid.count {T:List UInt8}{p:Nat}{l:List Tok}(h:Laid T p l):l.length≤T.length+1:=by
 have h1:∀ i,i<l.length→i≤gT l i:=by
  intro i
  induction i with
  | zero=>omega
  | succ i ih =>
   intro hi;have h2:=ih (by omega)
   have h5:l[i].kind≠5:=fun q=>by have:=(h.last i (by omega)).1 q;omega
   have h6:l[i].text≠[]:=fun q=>h5 ((h.empty i (by omega)).1 q)
   have h7:0<l[i].text.length:=List.length_pos_iff.2 h6;rw[kr l i (by omega),og];omega
 have hs:=h.some;have:=h1 (l.length - 1) (by omega);have:=h.inside (l.length - 1) (by omega);omega
theorem Hy:∀ (n:Nat) (T:List UInt8) (p:Nat) (l:List Tok),kX n T p=.ok l→Laid T p l
 | 0,_,_,_,h=>by cases h
 | n+1,T,p,l,h=>by
  rw[kX] at h;have hk:=mY false T;generalize hkk:bE false T=k at h hk
  by_cases he:(bR (T.drop k)).2.2≠0
  ·rw[if_pos he] at h;cases h
  rw[if_neg he] at h
  by_cases h5:(bR (T.drop k)).1=5
  ·rw[if_pos h5] at h
   injection h with h
   subst h;have hnil:=LJ _ h5
   have hl:T.length=k:=by
    have:=congrArg List.length hnil;rw[List.length_drop,gX] at this;omega
   have htk:(T.take k).length=k:=by rw[qZ];omega
   have one:∀ i,i<1→i=0:=fun i h=>by omega
   refine⟨by simp,by simp[gT,og];omega,?_,?_,?_,?_,?_⟩<;>(intro i hi;obtain rfl:=one i hi;simp[gT])<;>omega
  ·rw[if_neg h5] at h
   have hpos:=vF (T.drop k) (by omega) h5;have hlen:=vE (T.drop k);rw[List.length_drop] at hlen;generalize bR (T.drop k)=t at h he h5 hpos hlen
   cases hr:kX n ((T.drop k).drop t.2.1) (p+k+t.2.1) with
   | error e=>simp only[hr] at h;cases h
   | ok r =>
    simp only[hr] at h
    injection h with h
    subst h;have ih:=Hy n _ _ _ hr
    have htk:(T.take k).length=k:=by rw[qZ];omega
    have htx:((T.drop k).take t.2.1).length=t.2.1:=by rw[qZ,List.length_drop];omega
    have hone:og ⟨t.1,T.take k,(T.drop k).take t.2.1,p+k⟩=k+t.2.1:=by simp only[og];rw[htk,htx]
    have hs:=ih.some;refine⟨by simp,?_,?_,?_,?_,?_,?_⟩
    ·rw[dR,lT,ih.whole,hone,List.length_drop,List.length_drop];omega
    ·intro i hi
     cases i with
     | zero=>simp only[List.getElem_cons_zero,gT];rw[htk];omega
     | succ i =>
      have:=ih.place i (by simpa using hi);simp only[List.getElem_cons_succ,lT];rw[this,hone];omega
    ·intro i hi
     cases i with
     | zero=>simp only[List.getElem_cons_zero,dR];exact⟨fun h=>absurd h h5,fun h=>by omega⟩
     | succ i =>
      have:=ih.last i (by simpa using hi);simp only[List.getElem_cons_succ,dR];rw[this];omega
    ·intro i hi
     cases i with
     | zero =>
      simp only[List.getElem_cons_zero];exact⟨fun h=>by rw[h] at htx;simp at htx;omega,fun h=>absurd h h5⟩
     | succ i =>
      simp only[List.getElem_cons_succ];exact ih.empty i (by simpa using hi)
    ·intro i hi
     cases i with
     | zero=>simp only[List.getElem_cons_zero,gT];rw[htk,htx,Nat.zero_add]
     | succ i =>
      have:=ih.text i (by simpa using hi);simp only[List.getElem_cons_succ,lT];rw[List.drop_drop,List.drop_drop] at this;rw[hone]
      have hi':i<r.length:=by simpa using hi
      rw[show k+t.2.1+gT r i+r[i].lead.length=k+(t.2.1+(gT r i+r[i].lead.length)) from by omega];exact this
    ·intro i hi
     cases i with
     | zero=>simp only[List.getElem_cons_zero,gT];rw[htk,List.drop_zero]
     | succ i =>
      have:=ih.lead i (by simpa using hi);simp only[List.getElem_cons_succ,lT];rw[List.drop_drop,List.drop_drop] at this;rw[hone];rw[show k+t.2.1+gT r i=k+(t.2.1+gT r i) from by omega];exact this
theorem Dz:∀ (n:Nat) (T:List UInt8) (p:Nat) (e:Nat × Nat),kX n T p=.error e→T.length<n→p≤e.2∧e.2≤p+T.length∧(e.1=20∨e.1=21)
 | 0,_,_,_,_,h=>absurd h (by omega)
 | n+1,T,p,e,h,hn=>by
  rw[kX] at h;have hk:=mY false T;generalize hkk:bE false T=k at h hk
  by_cases he:(bR (T.drop k)).2.2≠0
  ·rw[if_pos he] at h
   injection h with h
   subst h;refine⟨by simp,by simp only;omega,?_⟩;simp only
   cases hd:T.drop k with
   | nil=>rw[hd] at he;exact absurd rfl he
   | cons c r =>
    rw[hd] at he;rw[bR] at he ⊢
    by_cases hc:cZ c=true
    ·rw[if_pos hc] at he ⊢
     simp only[jm] at he ⊢
     split
     ·exact .inl rfl
     ·rename_i Pw;rw[if_neg Pw] at he;exfalso;apply he;split<;>rfl
    ·rw[if_neg hc] at he ⊢
     by_cases hd:aP c=true
     ·rw[if_pos hd] at he ⊢
      simp only[jD] at he ⊢
      split
      ·exact .inr rfl
      ·rename_i Ay;rw[if_neg Ay] at he;exact absurd rfl he
     ·rw[if_neg hd] at he ⊢
      rw[xX] at he ⊢
      cases hs:nT (c :: r) with
      | none=>exact .inl rfl
      | some x=>rw[hs] at he;exact absurd rfl he
  rw[if_neg he] at h
  by_cases h5:(bR (T.drop k)).1=5
  ·rw[if_pos h5] at h;cases h
  ·rw[if_neg h5] at h
   have hpos:=vF (T.drop k) (by omega) h5;have hlen:=vE (T.drop k);rw[List.length_drop] at hlen;generalize bR (T.drop k)=t at h he h5 hpos hlen
   cases hr:kX n ((T.drop k).drop t.2.1) (p+k+t.2.1) with
   | ok r=>simp only[hr] at h;cases h
   | error x =>
    simp only[hr] at h
    injection h with h
    subst h;have:=Dz n _ _ _ hr (by rw[List.length_drop,List.length_drop];omega);rw[List.length_drop,List.length_drop] at this;omega
theorem iL {S:List UInt8}{l:List Tok}(h:bO S=.ok l):Laid S 0 l:=by
 rw[bO] at h
 split at h
 ·cases h
 ·exact Hy _ _ _ _ h
theorem qj {S:List UInt8}{e:Nat × Nat}(h:bO S=.error e):e.2≤S.length∧(e.1=20∨e.1=21∨e.1=11):=by
 rw[bO] at h
 split at h
 ·injection h with h;subst h;exact⟨lI _,.inr (.inr rfl)⟩
 ·have:=Dz _ _ _ _ h (by omega);omega
structure Nd where
 kind:Int
 tok:Int
 aA:List Int
structure aJ where
 aj:List Nd
 used:Nat
 aC:Bool
 fE:Nat
 fAt:Nat
def ad7:Tok:=⟨0,[],[],0⟩
def dh (ah:List Tok)(u:Nat):Tok:=ah.getD (min u (ah.length - 1)) ad7
def bF (ah:List Tok)(st:aJ)(l:List (List UInt8)):Bool:=((dh ah st.used).kind == 2 || (dh ah st.used).kind == 4) && decide ((dh ah st.used).text∈l)
def gU (ah:List Tok)(e:Nat)(st:aJ):aJ:=if st.fE=0 then { st with fE:=e,fAt:=(dh ah st.used).place } else st
def aD (ah:List Tok)(st:aJ):Int × aJ :=
 if st.used=ah.length then (-1,st) else ((st.aj.length:Nat),{ st with aj:=st.aj++[⟨19,(st.used:Nat),[]⟩],used:=st.used+1 })
def GI (kind:Int)(aA:List Int)(st:aJ):Int × aJ :=
 if aA.any (fun k=>decide (k<0) || decide ((st.aj.length:Int)≤k)) then (-1,st) else ((st.aj.length:Nat),{ st with aj:=st.aj++[⟨kind,-1,aA⟩] })
def bJ (kind:Int)(aA:List Int)(st:aJ):Int × aJ:=if st.fE=0 then GI kind aA st else (0,st)
def aH (ah:List Tok)(l:List (List UInt8))(st:aJ):Int × aJ:=if st.fE=0∧bF ah st l=true then aD ah st else (0,gU ah 22 st)
def bA (ah:List Tok)(k:Nat)(st:aJ):Int × aJ:=if st.fE=0∧(dh ah st.used).kind=k then aD ah st else (0,gU ah 22 st)
def aX (ah:List Tok)(depth aF:Nat)(st:aJ):aJ:=if depth<aF then gU ah 23 st else st
def Az:Nat→List (List UInt8)
 | 0=>[[124,124]]
 | 1=>[[38,38]]
 | 2=>[[61],[60,62],[60],[60,61],[62],[62,61]]
 | 3=>[[43],[45]]
 | _=>[[42],[47],[37]]
def bC (ah:List Tok)(one:aJ→Option (Int × aJ)):Nat→List Int→aJ→Option (List Int × aJ)
 | 0,aA,st=>some (aA,if st.fE=0 then gU ah 15 st else st)
 | r+1,aA,st =>
  if st.fE≠0 then some (aA,st)
  else (one st).bind fun k =>
   if k.2.fE=0∧bF ah k.2 [[44]]=true then bC ah one r (aA++[k.1,(aD ah k.2).1]) (aD ah k.2).2
   else some (aA++[k.1],k.2)
def jP (ah:List Tok)(one:aJ→Option (Int × aJ))(st:aJ):Option (List Int × aJ) :=
 if bF ah st [[41]]=true then some ([],st) else bC ah one 8 [] st
inductive Task where
 | expr (aF:Nat)
 | formula (aF:Nat)
 | part (l aF:Nat)
 | row (l aF:Nat)
 | loop (l aF:Nat) (a:Int)
 | neg (aF:Nat)
 | factor (aF:Nat)
 | atom (aF:Nat)
 | name (aF:Nat)
def ad8:List UInt8:=[108,101,116]
def tIf:List UInt8:=[105,102]
def Sv:List UInt8:=[97,115,115,101,114,116]
def WT:List UInt8:=[105,110]
def Hz:List UInt8:=[116,104,101,110]
def H7:List UInt8:=[101,108,115,101]
def Sw:List UInt8:=[116,114,117,101]
def PL:List UInt8:=[102,97,108,115,101]
def aaW:List UInt8:=[110,111,116]
def acL:List UInt8:=[114,101,115]
def nU (ah:List Tok)(a:Int × aJ):List Int × aJ :=
 if bF ah a.2 [[46]]=true then ([a.1,(aD ah a.2).1,(bA ah 1 (aD ah a.2).2).1],(bA ah 1 (aD ah a.2).2).2) else ([a.1],a.2)
def run (ah:List Tok)(depth:Nat):Nat→Task→aJ→Option (Int × aJ)
 | 0,_,_=>none
 | g+1,.expr aF,st0 =>
  if (aX ah depth aF st0).fE≠0 then some (0,aX ah depth aF st0)
  else if (aX ah depth aF st0).aC=true then run ah depth g (.formula aF) (aX ah depth aF st0)
  else if bF ah (aX ah depth aF st0) [ad8]=true then
   (run ah depth g (.expr (aF+1)) (aH ah [[61]] (bA ah 1 (aD ah (aX ah depth aF st0)).2).2).2).bind fun d =>
    (run ah depth g (.expr (aF+1)) (aH ah [WT] d.2).2).bind fun f =>
     some (bJ 7 [(aD ah (aX ah depth aF st0)).1,(bA ah 1 (aD ah (aX ah depth aF st0)).2).1,(aH ah [[61]] (bA ah 1 (aD ah (aX ah depth aF st0)).2).2).1,d.1,(aH ah [WT] d.2).1,f.1] f.2)
  else if bF ah (aX ah depth aF st0) [tIf]=true then
   (run ah depth g (.expr (aF+1)) (aD ah (aX ah depth aF st0)).2).bind fun b =>
    (run ah depth g (.expr (aF+1)) (aH ah [Hz] b.2).2).bind fun d =>
     (run ah depth g (.expr (aF+1)) (aH ah [H7] d.2).2).bind fun f =>
      some (bJ 8 [(aD ah (aX ah depth aF st0)).1,b.1,(aH ah [Hz] b.2).1,d.1,(aH ah [H7] d.2).1,f.1] f.2)
  else if bF ah (aX ah depth aF st0) [Sv]=true then
   (run ah depth g (.expr (aF+1)) (aD ah (aX ah depth aF st0)).2).bind fun b =>
    (run ah depth g (.expr (aF+1)) (aH ah [WT] b.2).2).bind fun d =>
     some (bJ 9 [(aD ah (aX ah depth aF st0)).1,b.1,(aH ah [WT] b.2).1,d.1] d.2)
  else run ah depth g (.formula aF) (aX ah depth aF st0)
 | g+1,.formula aF,st0 =>
  (run ah depth g (.row 0 aF) st0).bind fun a =>
   if a.2.fE=0∧bF ah a.2 [[61,62]]=true then
    if (aX ah depth (aF+1) (aD ah a.2).2).fE≠0 then some (0,aX ah depth (aF+1) (aD ah a.2).2)
    else (run ah depth g (.formula (aF+1)) (aX ah depth (aF+1) (aD ah a.2).2)).bind fun b=>some (bJ 10 [a.1,(aD ah a.2).1,b.1] b.2)
   else some a
 | g+1,.part l aF,st=>if l=1 then run ah depth g (.neg aF) st else if l=4 then run ah depth g (.factor aF) st else run ah depth g (.row (l+1) aF) st
 | g+1,.row l aF,st=>(run ah depth g (.part l aF) st).bind fun a=>run ah depth g (.loop l aF a.1) a.2
 | g+1,.loop l aF a,st =>
  if st.fE=0∧bF ah st (Az l)=true then
   (run ah depth g (.part l aF) (aD ah st).2).bind fun b =>
    if l=2 then some (bJ 10 [a,(aD ah st).1,b.1] b.2)
    else run ah depth g (.loop l aF (bJ 10 [a,(aD ah st).1,b.1] b.2).1) (bJ 10 [a,(aD ah st).1,b.1] b.2).2
  else some (a,st)
 | g+1,.neg aF,st =>
  if st.fE=0∧bF ah st [aaW]=true then
   if (aX ah depth (aF+1) (aD ah st).2).fE≠0 then some (0,aX ah depth (aF+1) (aD ah st).2)
   else (run ah depth g (.neg (aF+1)) (aX ah depth (aF+1) (aD ah st).2)).bind fun b=>some (bJ 11 [(aD ah st).1,b.1] b.2)
  else run ah depth g (.row 2 aF) st
 | g+1,.factor aF,st =>
  if st.fE=0∧bF ah st [[45]]=true then
   if (aX ah depth (aF+1) (aD ah st).2).fE≠0 then some (0,aX ah depth (aF+1) (aD ah st).2)
   else (run ah depth g (.factor (aF+1)) (aX ah depth (aF+1) (aD ah st).2)).bind fun b=>some (bJ 11 [(aD ah st).1,b.1] b.2)
  else run ah depth g (.atom aF) st
 | g+1,.atom aF,st =>
  if st.fE≠0 then some (0,st)
  else if (dh ah st.used).kind=3 then some (bJ 15 [(aD ah st).1] (aD ah st).2)
  else if bF ah st [Sw,PL]=true then some (bJ 16 [(aD ah st).1] (aD ah st).2)
  else if st.aC=true∧bF ah st [acL]=true then some (bJ 17 [(aD ah st).1] (aD ah st).2)
  else if bF ah st [[40]]=true then
   (run ah depth g (.expr (aF+1)) (aD ah st).2).bind fun b =>
    some (bJ 12 [(aD ah st).1,b.1,(aH ah [[41]] b.2).1] (aH ah [[41]] b.2).2)
  else if (dh ah st.used).kind=1 then run ah depth g (.name aF) st
  else some (0,gU ah 22 st)
 | g+1,.name aF,st =>
  if (aD ah st).2.aC=true∨bF ah (aD ah st).2 [[46],[40]]=false then some (bJ 14 [(aD ah st).1] (aD ah st).2)
  else
   (jP ah (fun s=>run ah depth g (.expr (aF+1)) s) (aH ah [[40]] (nU ah (aD ah st)).2).2).bind fun l =>
    some (bJ 13 ((nU ah (aD ah st)).1++[(aH ah [[40]] (nU ah (aD ah st)).2).1]++l.1++[(aH ah [[41]] l.2).1]) (aH ah [[41]] l.2).2)
def ku:aJ:=⟨[],0,false,0,0⟩
def acM (ah:List Tok)(depth g:Nat):Option aJ :=
 (run ah depth g (.expr 1) { ku with aC:=true }).bind fun a=>some (bJ 18 [a.1,(bA ah 5 a.2).1] (bA ah 5 a.2).2).2
def dP (a b:aJ):Prop:=a.used≤b.used∧(a.fE≠0→b.fE=a.fE)∧b.aC=a.aC∧a.aj.length≤b.aj.length
theorem dP.refl (a:aJ):dP a a:=⟨bD _,fun _=>rfl,rfl,bD _⟩
theorem dP.trans {a b c:aJ}(h:dP a b)(k:dP b c):dP a c :=
 ⟨jc h.1 k.1,fun q=>by have h1:=h.2.1 q;rw[k.2.1 (by rw[h1];exact q),h1],k.2.2.1.trans h.2.2.1,jc h.2.2.2 k.2.2.2⟩
theorem dP.zero {a b:aJ}(h:dP a b)(hb:b.fE=0):a.fE=0:=by
 apply Classical.byContradiction
 intro q;exact q (by rw[← h.2.1 q];exact hb)
theorem qm (ah:List Tok)(e:Nat)(st:aJ):dP st (gU ah e st):=by
 unfold gU
 split
 ·rename_i h;exact⟨bD _,fun q=>absurd h q,rfl,bD _⟩
 ·exact dP.refl _
theorem aO (ah:List Tok)(st:aJ):dP st (aD ah st).2:=by
 unfold aD
 split
 ·exact dP.refl _
 ·exact⟨Nat.le_succ _,fun _=>rfl,rfl,by simp⟩
theorem Xd (k:Int)(l:List Int)(st:aJ):dP st (GI k l st).2:=by
 unfold GI
 split
 ·exact dP.refl _
 ·exact⟨bD _,fun _=>rfl,rfl,by simp⟩
theorem aL (k:Int)(l:List Int)(st:aJ):dP st (bJ k l st).2:=by
 unfold bJ
 split
 ·exact Xd _ _ _
 ·exact dP.refl _
theorem aM (ah:List Tok)(l:List (List UInt8))(st:aJ):dP st (aH ah l st).2:=by
 unfold aH
 split
 ·exact aO _ _
 ·exact qm _ _ _
theorem fA (ah:List Tok)(k:Nat)(st:aJ):dP st (bA ah k st).2:=by
 unfold bA
 split
 ·exact aO _ _
 ·exact qm _ _ _
theorem fK (ah:List Tok)(d n:Nat)(st:aJ):dP st (aX ah d n st):=by
 unfold aX
 split
 ·exact qm _ _ _
 ·exact dP.refl _
theorem AA (ah:List Tok)(a:Int × aJ):dP a.2 (nU ah a).2:=by
 unfold nU
 split
 ·exact(aO _ _).trans (fA _ _ _)
 ·exact dP.refl _
theorem mZ (ah:List Tok)(one:aJ→Option (Int × aJ))(h1:∀ s k,one s=some k→dP s k.2):∀ (r:Nat) (aA:List Int) (st:aJ) (l:List Int × aJ),bC ah one r aA st=some l→dP st l.2
 | 0,aA,st,l,h=>by
  rw[bC] at h
  injection h with h
  subst h;show dP st (if st.fE=0 then gU ah 15 st else st)
  split
  ·exact qm _ _ _
  ·exact dP.refl _
 | r+1,aA,st,l,h=>by
  rw[bC] at h
  split at h
  ·injection h with h;subst h;exact dP.refl _
  ·obtain⟨k,hk,h⟩:=cK h
   have:=h1 _ _ hk
   split at h
   ·exact(this.trans (aO _ _)).trans (mZ ah one h1 r _ _ _ h)
   ·injection h with h;subst h;exact this
theorem mE (ah:List Tok)(one:aJ→Option (Int × aJ))(h1:∀ s k,one s=some k→dP s k.2)(st:aJ)(l:List Int × aJ)(h:jP ah one st=some l):dP st l.2:=by
 unfold jP at h
 split at h
 ·injection h with h;subst h;exact dP.refl _
 ·exact mZ ah one h1 _ _ _ _ h
theorem bg (ah:List Tok)(depth:Nat):∀ (g:Nat) (t:Task) (st:aJ) (r:Int × aJ),run ah depth g t st=some r→dP st r.2
 | 0,_,_,_,h=>by rw[run] at h;cases h
 | g+1,.expr aF,st,r,h=>by
  have ih:=bg ah depth g;rw[run] at h;have hd:=fK ah depth aF st;generalize aX ah depth aF st=s at h hd
  split at h
  ·injection h with h;subst h;exact hd
  split at h
  ·exact hd.trans (ih _ _ _ h)
  split at h
  ·obtain⟨d,h1,h⟩:=cK h
   obtain⟨f,h2,h⟩:=cK h
   injection h with h;subst h
   exact(((((hd.trans (aO _ _)).trans (fA _ _ _)).trans (aM _ _ _)).trans (ih _ _ _ h1)).trans (aM _ _ _)).trans ((ih _ _ _ h2).trans (aL _ _ _))
  split at h
  ·obtain⟨b,h1,h⟩:=cK h
   obtain⟨d,h2,h⟩:=cK h;obtain⟨f,h3,h⟩:=cK h
   injection h with h;subst h
   exact(((((hd.trans (aO _ _)).trans (ih _ _ _ h1)).trans (aM _ _ _)).trans (ih _ _ _ h2)).trans (aM _ _ _)).trans ((ih _ _ _ h3).trans (aL _ _ _))
  split at h
  ·obtain⟨b,h1,h⟩:=cK h
   obtain⟨d,h2,h⟩:=cK h
   injection h with h;subst h
   exact(((hd.trans (aO _ _)).trans (ih _ _ _ h1)).trans (aM _ _ _)).trans ((ih _ _ _ h2).trans (aL _ _ _))
  ·exact hd.trans (ih _ _ _ h)
 | g+1,.formula aF,st,r,h=>by
  have ih:=bg ah depth g;rw[run] at h;obtain⟨a,h1,h⟩:=cK h;have ha:=ih _ _ _ h1
  split at h
  ·have hd:=(ha.trans (aO ah a.2)).trans (fK ah depth (aF+1) _)
   split at h
   ·injection h with h;subst h;exact hd
   ·obtain⟨b,h2,h⟩:=cK h
    injection h with h;subst h
    exact(hd.trans (ih _ _ _ h2)).trans (aL _ _ _)
  ·injection h with h;subst h;exact ha
 | g+1,.part l aF,st,r,h=>by
  have ih:=bg ah depth g;rw[run] at h
  split at h
  ·exact ih _ _ _ h
  ·split at h
   ·exact ih _ _ _ h
   ·exact ih _ _ _ h
 | g+1,.row l aF,st,r,h=>by
  have ih:=bg ah depth g;rw[run] at h;obtain⟨a,h1,h⟩:=cK h;exact(ih _ _ _ h1).trans (ih _ _ _ h)
 | g+1,.loop l aF a,st,r,h=>by
  have ih:=bg ah depth g;rw[run] at h
  split at h
  ·obtain⟨b,h1,h⟩:=cK h
   have hb:=((aO ah st).trans (ih _ _ _ h1)).trans (aL 10 [a,(aD ah st).1,b.1] _)
   split at h
   ·injection h with h;subst h;exact hb
   ·exact hb.trans (ih _ _ _ h)
  ·injection h with h;subst h;exact dP.refl _
 | g+1,.neg aF,st,r,h=>by
  have ih:=bg ah depth g;rw[run] at h
  split at h
  ·have hd:=(aO ah st).trans (fK ah depth (aF+1) _)
   split at h
   ·injection h with h;subst h;exact hd
   ·obtain⟨b,h2,h⟩:=cK h
    injection h with h;subst h
    exact(hd.trans (ih _ _ _ h2)).trans (aL _ _ _)
  ·exact ih _ _ _ h
 | g+1,.factor aF,st,r,h=>by
  have ih:=bg ah depth g;rw[run] at h
  split at h
  ·have hd:=(aO ah st).trans (fK ah depth (aF+1) _)
   split at h
   ·injection h with h;subst h;exact hd
   ·obtain⟨b,h2,h⟩:=cK h
    injection h with h;subst h
    exact(hd.trans (ih _ _ _ h2)).trans (aL _ _ _)
  ·exact ih _ _ _ h
 | g+1,.atom aF,st,r,h=>by
  have ih:=bg ah depth g;rw[run] at h
  split at h
  ·injection h with h;subst h;exact dP.refl _
  split at h
  ·injection h with h;subst h;exact(aO _ _).trans (aL _ _ _)
  split at h
  ·injection h with h;subst h;exact(aO _ _).trans (aL _ _ _)
  split at h
  ·injection h with h;subst h;exact(aO _ _).trans (aL _ _ _)
  split at h
  ·obtain⟨b,h1,h⟩:=cK h
   injection h with h;subst h
   exact(((aO _ _).trans (ih _ _ _ h1)).trans (aM _ _ _)).trans (aL _ _ _)
  split at h
  ·exact ih _ _ _ h
  ·injection h with h;subst h;exact qm _ _ _
 | g+1,.name aF,st,r,h=>by
  have ih:=bg ah depth g;rw[run] at h
  split at h
  ·injection h with h;subst h;exact(aO _ _).trans (aL _ _ _)
  ·obtain⟨l,h1,h⟩:=cK h
   injection h with h;subst h
   exact((((aO _ _).trans (AA _ _)).trans (aM _ _ _)).trans (mE ah _ (fun s k hk=>ih _ _ _ hk) _ _ h1)).trans ((aM _ _ _).trans (aL _ _ _))
def iE (ah:List Tok):Prop:=(dh ah ah.length).kind=5
theorem iE.pos {ah:List Tok}(h:iE ah):0<ah.length:=by
 cases ah with
 | nil=>cases h
 | cons t l=>simp
theorem iE.before {ah:List Tok}(h:iE ah){u:Nat}(hu:(dh ah u).kind≠5):u+1<ah.length:=by
 apply Classical.byContradiction
 intro q
 apply hu
 have hp:=h.pos;rw[iE] at h;unfold dh at h ⊢;rw[show min u (ah.length - 1)=min ah.length (ah.length - 1) by omega];exact h
theorem bK {ah:List Tok}{st:aJ}{l:List (List UInt8)}(h:bF ah st l=true):(dh ah st.used).kind≠5:=by
 simp only[bF,Bool.and_eq_true,Bool.or_eq_true,beq_iff_eq] at h;omega
theorem PN {ah:List Tok}{st:aJ}(h:st.used+1<ah.length):aD ah st=(((st.aj.length:Nat):Int),{ st with aj:=st.aj++[⟨19,(st.used:Nat),[]⟩],used:=st.used+1 }):=by
 unfold aD;rw[if_neg (by omega)]
theorem jS {ah:List Tok}(hE:iE ah){st:aJ}(h:(dh ah st.used).kind≠5):(aD ah st).2.used=st.used+1∧st.used+1<ah.length:=by
 have:=hE.before h;rw[PN this];exact⟨rfl,this⟩
def jQ:Task→Nat
 | .expr _=>18
 | .formula _=>17
 | .row l _=>if l≤1 then 16 - 2 * l else 15 - 2 * l
 | .part l _=>if l≤1 then 15 - 2 * l else 14 - 2 * l
 | .neg _=>12
 | .factor _=>5
 | .atom _=>4
 | .name _=>3
 | .loop _ _ _=>1
def okT (ah:List Tok)(st:aJ):Task→Prop
 | .row l _=>l≤4
 | .part l _=>l≤4
 | .loop l _ _=>l≤4
 | .name _=>st.used<ah.length
 | _=>True
def fI (ah:List Tok)(t:Task)(st:aJ):Nat:=20 * (ah.length - st.used)+jQ t
theorem ny {ah:List Tok}{e:Nat}(he:e≠0)(st:aJ):(gU ah e st).fE≠0:=by
 unfold gU
 split
 ·exact he
 ·assumption
theorem Ui {ah:List Tok}(hE:iE ah)(l:List (List UInt8))(st:aJ):st.used+1≤(aH ah l st).2.used∨(aH ah l st).2.fE≠0:=by
 unfold aH
 split
 ·rename_i h
  have:=(jS hE (bK h.2)).1;exact .inl (by rw[this];exact bD _)
 ·exact .inr (ny (by decide) st)
theorem qC (ah:List Tok)(one:aJ→Option (Int × aJ))(base:Nat)(h1:∀ s,base≤s.used→∃ k,one s=some k∧dP s k.2):∀ (r:Nat) (aA:List Int) (st:aJ),base≤st.used∨st.fE≠0→∃ l,bC ah one r aA st=some l
 | 0,aA,st,_=>⟨_,rfl⟩
 | r+1,aA,st,hb=>by
  rw[bC]
  split
  ·exact⟨_,rfl⟩
  ·rename_i hf
   obtain⟨k,hk,hx⟩:=h1 st (hb.resolve_right hf);rw[hk];simp only[Option.bind_some]
   split
   ·exact qC ah one base h1 r _ _ (.inl (jc (hb.resolve_right hf) (jc hx.1 (aO ah k.2).1)))
   ·exact⟨_,rfl⟩
theorem jT (ah:List Tok)(depth:Nat)(hE:iE ah):∀ (g:Nat) (t:Task) (st:aJ),okT ah st t→fI ah t st≤g→∃ r,run ah depth g t st=some r
 | 0,t,st,_,h=>by
  exfalso
  have:1≤jQ t:=by
   cases t<;>simp only[jQ]<;>first|omega|(simp only[okT] at *;split<;>omega)
  unfold fI at h;omega
 | g+1,.expr aF,st,_,h=>by
  have ih:=jT ah depth hE g;rw[run];have hd:=fK ah depth aF st;generalize aX ah depth aF st=s at hd;have hu:=hd.1;simp only[fI,jQ] at h
  split
  ·exact⟨_,rfl⟩
  split
  ·exact ih _ _ trivial (by simp only[fI,jQ];omega)
  split
  ·rename_i hn
   obtain⟨e1,e2⟩:=jS hE (bK hn);have x1:=(fA ah 1 (aD ah s).2).1;have x2:=(aM ah [[61]] (bA ah 1 (aD ah s).2).2).1;obtain⟨d,hd1⟩:=ih (.expr (aF+1)) (aH ah [[61]] (bA ah 1 (aD ah s).2).2).2 trivial (by simp only[fI,jQ];omega);have x3:=(bg ah depth g _ _ _ hd1).1;have x4:=(aM ah [WT] d.2).1;obtain⟨f,hf⟩:=ih (.expr (aF+1)) (aH ah [WT] d.2).2 trivial (by simp only[fI,jQ];omega);rw[hd1,Option.bind_some,hf,Option.bind_some];exact⟨_,rfl⟩
  split
  ·rename_i hn
   obtain⟨e1,e2⟩:=jS hE (bK hn);obtain⟨b,hb⟩:=ih (.expr (aF+1)) (aD ah s).2 trivial (by simp only[fI,jQ];omega);have x3:=(bg ah depth g _ _ _ hb).1;have x4:=(aM ah [Hz] b.2).1;obtain⟨d,hd1⟩:=ih (.expr (aF+1)) (aH ah [Hz] b.2).2 trivial (by simp only[fI,jQ];omega);have x5:=(bg ah depth g _ _ _ hd1).1;have x6:=(aM ah [H7] d.2).1;obtain⟨f,hf⟩:=ih (.expr (aF+1)) (aH ah [H7] d.2).2 trivial (by simp only[fI,jQ];omega);rw[hb,Option.bind_some,hd1,Option.bind_some,hf,Option.bind_some];exact⟨_,rfl⟩
  split
  ·rename_i hn
   obtain⟨e1,e2⟩:=jS hE (bK hn);obtain⟨b,hb⟩:=ih (.expr (aF+1)) (aD ah s).2 trivial (by simp only[fI,jQ];omega);have x3:=(bg ah depth g _ _ _ hb).1;have x4:=(aM ah [WT] b.2).1;obtain⟨d,hd1⟩:=ih (.expr (aF+1)) (aH ah [WT] b.2).2 trivial (by simp only[fI,jQ];omega);rw[hb,Option.bind_some,hd1,Option.bind_some];exact⟨_,rfl⟩
  ·exact ih _ _ trivial (by simp only[fI,jQ];omega)
 | g+1,.formula aF,st,_,h=>by
  have ih:=jT ah depth hE g;rw[run];simp only[fI,jQ] at h;obtain⟨a,ha⟩:=ih (.row 0 aF) st (by simp[okT]) (by simp only[fI,jQ];simp;omega);have x1:=(bg ah depth g _ _ _ ha).1;rw[ha,Option.bind_some]
  split
  ·rename_i hn
   obtain⟨e1,e2⟩:=jS hE (bK hn.2);have x2:=(fK ah depth (aF+1) (aD ah a.2).2).1
   split
   ·exact⟨_,rfl⟩
   ·obtain⟨b,hb⟩:=ih (.formula (aF+1)) (aX ah depth (aF+1) (aD ah a.2).2) trivial (by simp only[fI,jQ];omega)
    rw[hb,Option.bind_some];exact⟨_,rfl⟩
  ·exact⟨_,rfl⟩
 | g+1,.part l aF,st,hl,h=>by
  have ih:=jT ah depth hE g;rw[run];simp only[fI,jQ] at h;simp only[okT] at hl
  split
  ·rename_i h1;subst h1
   exact ih _ _ trivial (by simp only[fI,jQ];simp at h;omega)
  ·split
   ·rename_i h4;subst h4
    exact ih _ _ trivial (by simp only[fI,jQ];simp at h;omega)
   ·refine ih _ _ (by simp only[okT];omega) ?_
    simp only[fI,jQ]
    split at h
    ·obtain rfl:l=0:=by omega
     simp;omega
    ·rw[if_neg (by omega)];omega
 | g+1,.row l aF,st,hl,h=>by
  have ih:=jT ah depth hE g;rw[run];simp only[fI,jQ] at h;simp only[okT] at hl;obtain⟨a,ha⟩:=ih (.part l aF) st hl (by simp only[fI,jQ];split at h<;>split<;>omega);have x1:=(bg ah depth g _ _ _ ha).1;rw[ha,Option.bind_some];refine ih _ _ hl ?_;simp only[fI,jQ]
  split at h<;>omega
 | g+1,.loop l aF a,st,hl,h=>by
  have ih:=jT ah depth hE g;rw[run];simp only[fI,jQ] at h;simp only[okT] at hl
  split
  ·rename_i hn
   obtain⟨e1,e2⟩:=jS hE (bK hn.2);obtain⟨b,hb⟩:=ih (.part l aF) (aD ah st).2 hl (by simp only[fI,jQ];split<;>omega);have x1:=(bg ah depth g _ _ _ hb).1;have x2:=(aL 10 [a,(aD ah st).1,b.1] b.2).1;rw[hb,Option.bind_some]
   split
   ·exact⟨_,rfl⟩
   ·exact ih _ _ hl (by simp only[fI,jQ];omega)
  ·exact⟨_,rfl⟩
 | g+1,.neg aF,st,_,h=>by
  have ih:=jT ah depth hE g;rw[run];simp only[fI,jQ] at h
  split
  ·rename_i hn
   obtain⟨e1,e2⟩:=jS hE (bK hn.2);have x2:=(fK ah depth (aF+1) (aD ah st).2).1
   split
   ·exact⟨_,rfl⟩
   ·obtain⟨b,hb⟩:=ih (.neg (aF+1)) (aX ah depth (aF+1) (aD ah st).2) trivial (by simp only[fI,jQ];omega)
    rw[hb,Option.bind_some];exact⟨_,rfl⟩
  ·exact ih _ _ (by simp[okT]) (by simp only[fI,jQ];simp;omega)
 | g+1,.factor aF,st,_,h=>by
  have ih:=jT ah depth hE g;rw[run];simp only[fI,jQ] at h
  split
  ·rename_i hn
   obtain⟨e1,e2⟩:=jS hE (bK hn.2);have x2:=(fK ah depth (aF+1) (aD ah st).2).1
   split
   ·exact⟨_,rfl⟩
   ·obtain⟨b,hb⟩:=ih (.factor (aF+1)) (aX ah depth (aF+1) (aD ah st).2) trivial (by simp only[fI,jQ];omega)
    rw[hb,Option.bind_some];exact⟨_,rfl⟩
  ·exact ih _ _ trivial (by simp only[fI,jQ];omega)
 | g+1,.atom aF,st,_,h=>by
  have ih:=jT ah depth hE g;rw[run];simp only[fI,jQ] at h
  split
  ·exact⟨_,rfl⟩
  split
  ·exact⟨_,rfl⟩
  split
  ·exact⟨_,rfl⟩
  split
  ·exact⟨_,rfl⟩
  split
  ·rename_i hn
   obtain⟨e1,e2⟩:=jS hE (bK hn);obtain⟨b,hb⟩:=ih (.expr (aF+1)) (aD ah st).2 trivial (by simp only[fI,jQ];omega);rw[hb,Option.bind_some];exact⟨_,rfl⟩
  split
  ·rename_i hk
   have:=hE.before (u:=st.used) (by omega);exact ih _ _ (by simp only[okT];omega) (by simp only[fI,jQ];omega)
  ·exact⟨_,rfl⟩
 | g+1,.name aF,st,hl0,h=>by
  have ih:=jT ah depth hE g;rw[run];simp only[fI,jQ] at h
  split
  ·exact⟨_,rfl⟩
  ·have x1:=(aO ah st).1
   have x2:=(AA ah (aD ah st)).1;have x3:=Ui hE [[40]] (nU ah (aD ah st)).2;generalize (aH ah [[40]] (nU ah (aD ah st)).2)=b at x3
   have hl:∃ l,jP ah (fun s=>run ah depth g (.expr (aF+1)) s) b.2=some l:=by
    unfold jP
    split
    ·exact⟨_,rfl⟩
    ·refine qC ah _ (st.used+1) (fun s hs=>?_) _ _ _ (x3.imp (by omega) id)
     have hlt:st.used<ah.length:=hl0;obtain⟨k,hk⟩:=ih (.expr (aF+1)) s trivial (by simp only[fI,jQ];omega);exact⟨k,hk,bg ah depth g _ _ _ hk⟩
   obtain⟨l,hl⟩:=hl;rw[hl,Option.bind_some];exact⟨_,rfl⟩
inductive PT where
 | leaf
 | node (k:Nat) (l:List PT)
mutual
def PT.lv:PT→Nat
 | .leaf=>1
 | .node _ l=>bU l
def bU:List PT→Nat
 | []=>0
 | t :: l=>t.lv+bU l
end
mutual
def PT.nd:PT→Nat
 | .leaf=>1
 | .node _ l=>eP l+1
def eP:List PT→Nat
 | []=>0
 | t :: l=>t.nd+eP l
end
def dw (b:Nat):List PT→List Int
 | []=>[]
 | t :: l=>(((b+t.nd:Nat):Int) - 1) :: dw (b+t.nd) l
mutual
def PT.em (b u:Nat):PT→List Nd
 | .leaf=>[⟨19,(u:Nat),[]⟩]
 | .node k l=>za b u l++[⟨k,-1,dw b l⟩]
def za (b u:Nat):List PT→List Nd
 | []=>[]
 | t :: l=>t.em b u++za (b+t.nd) (u+t.lv) l
end
theorem iY:∀ (l k:List PT),bU (l++k)=bU l+bU k
 | [],k=>by simp[bU]
 | t :: l,k=>by simp only[jN,bU,iY l k];omega
theorem oh:∀ (l k:List PT),eP (l++k)=eP l+eP k
 | [],k=>by simp[eP]
 | t :: l,k=>by simp only[jN,eP,oh l k];omega
theorem oV:∀ (b:Nat) (l k:List PT),dw b (l++k)=dw b l++dw (b+eP l) k
 | b,[],k=>by simp[dw,eP]
 | b,t :: l,k=>by simp only[jN,dw,oV _ l k,eP];rw[Nat.add_assoc]
theorem DC:∀ (b u:Nat) (l k:List PT),za b u (l++k)=za b u l++za (b+eP l) (u+bU l) k
 | b,u,[],k=>by simp[za,eP,bU]
 | b,u,t :: l,k=>by simp only[jN,za,DC _ _ l k,eP,bU,nQ];rw[Nat.add_assoc,Nat.add_assoc]
mutual
theorem PT.uq (b u:Nat):∀ (t:PT),(t.em b u).length=t.nd
 | .leaf=>by simp[PT.em,PT.nd]
 | .node k l=>by simp[PT.em,PT.nd,ze b u l]
theorem ze (b u:Nat):∀ (l:List PT),(za b u l).length=eP l
 | []=>by simp[za,eP]
 | t :: l=>by rw[za,eP,bN,PT.uq b u t,ze _ _ l]
end
theorem PT.gZ (t:PT):0<t.nd:=by cases t<;>simp[PT.nd]
theorem xZ:∀ (b:Nat) (l:List PT) (k:Int),k∈dw b l→(b:Int)≤k∧k<((b+eP l:Nat):Int)
 | _,[],k,h=>by cases h
 | b,t :: l,k,h=>by
  have hp:=t.gZ;rw[dw,List.mem_cons] at h;rw[eP]
  rcases h with rfl|h
  ·omega
  ·have:=xZ _ l k h
   omega
def fD (st:aJ)(l:List PT)(st':aJ):Prop:=st'={ st with aj:=st.aj++za st.aj.length st.used l,used:=st.used+bU l }
theorem fD.nil (st:aJ):fD st [] st:=by simp[fD,za,bU]
theorem fD.append {a b c:aJ}{l k:List PT}(h:fD a l b)(h2:fD b k c):fD a (l++k) c:=by
 rw[fD] at h h2 ⊢;rw[h2,h];simp only[bN,ze,DC,iY,nQ,Nat.add_assoc]
theorem fD.len {a b:aJ}{l:List PT}(h:fD a l b):b.aj.length=a.aj.length+eP l:=by rw[h];simp[ze]
theorem fD.used {a b:aJ}{l:List PT}(h:fD a l b):b.used=a.used+bU l:=by rw[h]
theorem fD.aC {a b:aJ}{l:List PT}(h:fD a l b):b.aC=a.aC:=by rw[h]
theorem fD.fE {a b:aJ}{l:List PT}(h:fD a l b):b.fE=a.fE:=by rw[h]
theorem fD.leaf {ah:List Tok}{st:aJ}(h:st.used+1≤ah.length):fD st [.leaf] (aD ah st).2∧(aD ah st).1=((st.aj.length:Nat):Int):=by
 unfold aD;rw[if_neg (by omega)];exact⟨by simp[fD,za,PT.em,bU,PT.lv],rfl⟩
theorem fD.node {a b:aJ}{l:List PT}(h:fD a l b)(hf:b.fE=0)(k:Nat):fD a [.node k l] (bJ k (dw a.aj.length l) b).2∧(bJ k (dw a.aj.length l) b).1=((a.aj.length+eP l:Nat):Int):=by
 have hlen:=h.len;unfold bJ;rw[if_pos hf];unfold GI;rw[if_neg]
 ·refine⟨?_,by rw[hlen]⟩
  rw[fD] at h ⊢;rw[h];simp[za,PT.em,bU,PT.lv]
 ·intro q
  obtain⟨x,hx,hy⟩:=List.any_eq_true.1 q;have:=xZ _ _ _ hx;simp only[Bool.or_eq_true,decide_eq_true_eq] at hy;omega
inductive CE where
 | num|truth|res|PO
 | group (e:CE)
 | un (e:CE)
 | bin (a b:CE)
 | iff (a b c:CE)
 | sO (a b:CE)
 | sP (a b:CE)
 | call (q:Bool) (l:List CE)
mutual
def CE.pt:CE→PT
 | .num=>.node 15 [.leaf]
 | .truth=>.node 16 [.leaf]
 | .res=>.node 17 [.leaf]
 | .PO=>.node 14 [.leaf]
 | .group e=>.node 12 [.leaf,e.pt,.leaf]
 | .un e=>.node 11 [.leaf,e.pt]
 | .bin a b=>.node 10 [a.pt,.leaf,b.pt]
 | .iff a b c=>.node 8 [.leaf,a.pt,.leaf,b.pt,.leaf,c.pt]
 | .sO a b=>.node 7 [.leaf,.leaf,.leaf,a.pt,.leaf,b.pt]
 | .sP a b=>.node 9 [.leaf,a.pt,.leaf,b.pt]
 | .call q l=>.node 13 ((if q then [.leaf,.leaf,.leaf] else [.leaf])++[.leaf]++fG l++[.leaf])
def fG:List CE→List PT
 | []=>[]
 | e :: l=>e.pt :: (match l with | []=>[]|_ :: _=>.leaf :: fG l)
end
theorem uw (e:CE):fG [e]=[e.pt]:=by simp[fG]
theorem om (e f:CE)(l:List CE):fG (e :: f :: l)=e.pt :: .leaf :: fG (f :: l):=by
 conv=>lhs;rw[fG]
def aN (ah:List Tok)(u:Nat):List UInt8:=(dh ah u).text
def iq (ah:List Tok)(u:Nat):Nat:=(dh ah u).kind
def qD:List (List UInt8):=[[43],[45],[42],[47],[37],[61],[60,62],[60],[60,61],[62],[62,61],[38,38],[124,124],[61,62]]
mutual
def CE.ok (ah:List Tok)(cl:Bool)(u:Nat):CE→Prop
 | .num=>iq ah u=3
 | .truth=>aN ah u=Sw∨aN ah u=PL
 | .res=>cl=true∧aN ah u=acL
 | .PO=>iq ah u=1
 | .group e=>aN ah u=[40]∧e.ok ah cl (u+1)
 | .un e=>(aN ah u=aaW∨aN ah u=[45])∧e.ok ah cl (u+1)
 | .bin a b=>aN ah (u+a.pt.lv)∈qD∧a.ok ah cl u∧b.ok ah cl (u+a.pt.lv+1)
 | .iff a b c=>cl=false∧a.ok ah cl (u+1)∧b.ok ah cl (u+1+a.pt.lv+1)∧c.ok ah cl (u+1+a.pt.lv+1+b.pt.lv+1)
 | .sO a b=>cl=false∧iq ah (u+1)=1∧a.ok ah cl (u+3)∧b.ok ah cl (u+3+a.pt.lv+1)
 | .sP a b=>cl=false∧a.ok ah cl (u+1)∧b.ok ah cl (u+1+a.pt.lv+1)
 | .call q l=>cl=false∧iq ah u=1∧l.length≤8∧(if q then aN ah (u+1)=[46]∧iq ah (u+2)=1∧pO ah cl (u+4) l else aN ah (u+1)=[40]∧pO ah cl (u+2) l)
def pO (ah:List Tok)(cl:Bool)(u:Nat):List CE→Prop
 | []=>True
 | e :: l=>e.ok ah cl u∧pO ah cl (u+e.pt.lv+1) l
end
def WU (ah:List Tok)(st:aJ)(r:Int × aJ)(e:CE):Prop :=
 fD st [e.pt] r.2∧r.1=((st.aj.length+e.pt.nd:Nat):Int) - 1∧e.ok ah st.aC st.used∧(st.used<ah.length→r.2.used<ah.length)
def jh (nt i:Nat)(n:Nd):Bool :=
 if n.kind<1∨19<n.kind then false
 else if n.kind=19 then decide (n.aA.length=0) && (decide (0≤n.tok) && decide (n.tok<nt))
 else decide (n.tok=-1) && !(n.aA.any fun k=>decide (k<0) || decide ((i:Int)≤k))
def zf:List Bool→List Int→Option (List Bool)
 | mV,[]=>some mV
 | mV,k :: ks=>if mV.getD k.toNat false=true then none else zf (mV.set k.toNat true) ks
def nA (nt:Nat):Nat→List Nd→List Bool→Option (List Bool)
 | _,[],mV=>some mV
 | i,n :: l,mV=>if jh nt i n=true then (zf mV n.aA).bind (nA nt (i+1) l) else none
def fQ (aj:List Nd):Nat→List Int→List Int→Option (List Int)
 | 0,_,_=>none
 | _+1,[],out=>some out
 | g+1,i :: rest,out =>
  if i<0 then none
  else match aj[i.toNat]? with
   | none=>none
   | some x=>if x.kind=19 then fQ aj g rest (out++[x.tok]) else if 549755813888<(x.aA++rest).length then none else fQ aj g (x.aA++rest) out
def oL:Nat→List Int→Bool
 | _,[]=>true
 | i,k :: l=>decide ((i:Int)=k) && oL (i+1) l
def qE (nt:Nat)(aj:List Nd):Option (List Bool):=nA nt 0 aj (List.replicate aj.length false)
def lU (nt:Nat)(aj:List Nd)(l:List Int):Bool :=
 match qE nt aj with
 | none=>false
 | some mV=>!(decide (mV.length=0)) && !((mV.take (aj.length - 1)).contains false) && oL 0 l && decide (l.length=nt)
def gN (n:Nat):List UInt8:=if h:n<10 then [UInt8.ofNat (48+n)] else gN (n / 10)++[UInt8.ofNat (48+n % 10)]
decreasing_by omega
def oW (t:Tok):List UInt8:=(if t.kind=5 then [36] else [])++t.text
def nC (f:Int→Option (List UInt8)):List Int→Option (List UInt8)
 | []=>some []
 | k :: ks=>(f k).bind fun a=>(nC f ks).bind fun b=>some ([32]++a++b)
def uP (ah:List Tok)(aj:List Nd):Nat→Int→Option (List UInt8)
 | 0,_=>none
 | g+1,n =>
  if n<0 then none
  else match aj[n.toNat]? with
   | none=>none
   | some x =>
    if x.kind=19 then (if x.tok<0 then none else (ah[x.tok.toNat]?).map oW)
    else (nC (uP ah aj g) x.aA).map fun b=>[40]++gN x.kind.toNat++b++[41]
mutual
def PT.dump (ah:List Tok)(u:Nat):PT→List UInt8
 | .leaf=>oW (dh ah u)
 | .node k l=>[40]++gN k++Cb ah u l++[41]
def Cb (ah:List Tok)(u:Nat):List PT→List UInt8
 | []=>[]
 | t :: l=>[32]++t.dump ah u++Cb ah (u+t.lv) l
end
mutual
def oo (aj:List Nd)(n:Int)(u:Nat):PT→Prop
 | .leaf=>0≤n∧aj[n.toNat]?=some ⟨19,(u:Nat),[]⟩
 | .node k l=>∃ ks,0≤n∧aj[n.toNat]?=some ⟨k,-1,ks⟩∧fJ aj ks u l
def fJ (aj:List Nd)(ks:List Int)(u:Nat):List PT→Prop
 | []=>ks=[]
 | t :: l=>∃ k ks',ks=k :: ks'∧oo aj k u t∧fJ aj ks' (u+t.lv) l
end
mutual
theorem oo.more {aj more:List Nd}:∀ {t:PT} {n:Int} {u:Nat},oo aj n u t→oo (aj++more) n u t
 | .leaf,n,u,h=>by
  rw[oo] at h ⊢;exact⟨h.1,by rw[List.getElem?_append_left (pJ h.2).1];exact h.2⟩
 | .node k l,n,u,h=>by
  rw[oo] at h ⊢;obtain⟨ks,h0,h1,h2⟩:=h;exact⟨ks,h0,by rw[List.getElem?_append_left (pJ h1).1];exact h1,fJ.more h2⟩
theorem fJ.more {aj more:List Nd}:∀ {l:List PT} {ks:List Int} {u:Nat},fJ aj ks u l→fJ (aj++more) ks u l
 | [],ks,u,h=>by rw[fJ] at h ⊢;exact h
 | t :: l,ks,u,h=>by
  rw[fJ] at h ⊢;obtain⟨k,ks',e,h1,h2⟩:=h;exact⟨k,ks',e,oo.more h1,fJ.more h2⟩
end
mutual
theorem oo.em {pre:List Nd}:∀ (t:PT) (b u:Nat),pre.length=b→oo (pre++t.em b u) (((b+t.nd:Nat):Int) - 1) u t
 | .leaf,b,u,hb=>by
  rw[oo,PT.em,PT.nd];refine⟨by omega,?_⟩;rw[show ((((b+1:Nat):Int) - 1).toNat)=pre.length by omega]
  simp
 | .node k l,b,u,hb=>by
  have hl:=fJ.em (pre:=pre) l b u hb
  have hn:(pre++za b u l).length=b+eP l:=by rw[bN,ze,hb]
  rw[oo,PT.em,PT.nd,← nQ];refine⟨dw b l,by omega,?_,hl.more⟩;rw[show ((((b+(eP l+1):Nat):Int) - 1).toNat)=(pre++za b u l).length by omega]
  simp
theorem fJ.em {pre:List Nd}:∀ (l:List PT) (b u:Nat),pre.length=b→fJ (pre++za b u l) (dw b l) u l
 | [],b,u,hb=>by rw[fJ,dw]
 | t :: l,b,u,hb=>by
  have h1:=oo.em (pre:=pre) t b u hb;have h2:=fJ.em (pre:=pre++t.em b u) l (b+t.nd) (u+t.lv) (by rw[bN,PT.uq,hb]);rw[fJ,za,dw];refine⟨_,_,rfl,?_,?_⟩
  ·rw[← nQ];exact h1.more
  ·rw[← nQ];exact h2
end
