/- Walks and plain laws: Base, BagPlain, MapPlain, Bytes, LexPlain, LexFacts, ParsePlain. -/
import Derived.WalkKit
import Derived.WalkSpells
import Derived.WalkLawsBesides
import Derived.Lib.OthersKept
import Derived.Lib.Hide
import Derived.BigQuiet
import Derived.BigGuardPart
import Derived.Deep.QuietTactic
import Derived.StillTailTactics
import Derived.Deep.RegionHeld3
import Derived.Deep.AppendLies
import Derived.Deep.DrawnRows
import Derived.Deep.DeepCutAuto
import Derived.Lib.SlicesCompact
import Derived.Lib.RowBridge
import Derived.Lib.Bytealg
import Derived.Lib.IndexLaws
set_option maxHeartbeats 16000000
set_option maxRecDepth 100000
set_option linter.unusedVariables false
set_option linter.unusedSimpArgs false
namespace Go.Proofs.YtknicmmigbhpcaaGreatDoor
open Go.RowKit
theorem ah{p:Prop}(h:p):Go.RowKit.Hid p:=Go.Lib.hid h
theorem bQ{α}{xs:Array α}{i:Nat}{a:α}(h:xs[i]?=some a):∃ h:i<xs.size,xs[i]=a:=Array.getElem?_eq_some_iff.1 h
theorem nY{α}{xs:List α}{i:Nat}{a:α}(h:xs[i]?=some a):∃ h:i<xs.length,xs[i]=a:=List.getElem?_eq_some_iff.1 h
theorem bP{α β}{o:Option α}{f:α→Option β}{b:β}(h:o.bind f=some b):∃ a,o=some a∧f a=some b:=Option.bind_eq_some_iff.1 h
theorem bC{α}{as bs:List α}:(as++bs).length=as.length+bs.length:=List.length_append
theorem dI{α}{a:α}{as:List α}:(a::as).length=as.length+1:=List.length_cons
def Sl (B:Nat)(w:World)(v:Value)(sz n:Nat)(cs:List Value):Prop :=
 ∃ ao cap,v=.slice ao n cap∧n≤cap∧cs.length=n * sz ∧
  (0<n→∃ b off,ao=some ⟨b,off,none⟩∧b<B∧∀ i,(h:i<cs.length)→w.cell? ⟨b,off+i,none⟩=some cs[i])
theorem Sl.below {B:Nat}{w w':World}{v:Value}{sz n:Nat}{cs:List Value}(h:Sl B w v sz n cs)(hb:Below B w w'):Sl B w' v sz n cs:=by
 obtain⟨ao,cap,hv,hn,hl,hc⟩:=h;refine⟨ao,cap,hv,hn,hl,fun h0=>?_⟩;obtain⟨b,off,ha,hB,hcell⟩:=hc h0;exact⟨b,off,ha,hB,fun i hi=>(hb.cell (p:=⟨b,off+i,none⟩) hB).trans (hcell i hi)⟩
theorem Sl.mono {B B':Nat}{w:World}{v:Value}{sz n:Nat}{cs:List Value}(h:Sl B w v sz n cs)(hB:B≤B'):Sl B' w v sz n cs:=by
 obtain⟨ao,cap,hv,hn,hl,hc⟩:=h;refine⟨ao,cap,hv,hn,hl,fun h0=>?_⟩;obtain⟨b,off,ha,hb,hcell⟩:=hc h0;exact⟨b,off,ha,Nat.lt_of_lt_of_le hb hB,hcell⟩
theorem Sl.eP {B:Nat}{w:World}{e sz:Nat}{v:Value}{n:Nat}{cs:List Value}(h:w.ownsRow B e sz v n cs):Sl w.heap.size w v sz n cs:=by
 obtain⟨hl,h⟩:=h
 rcases h with ⟨rfl,rfl⟩|⟨g,cap,cur,rfl,hg,hh,hn,hm,hs,hx⟩
 ·exact⟨none,0,rfl,Nat.le_refl _,hl,fun h0=>absurd h0 (by omega)⟩
 ·refine⟨some ⟨g,0,none⟩,cap,rfl,hn,hl,fun _=>⟨g,0,rfl,?_,fun i hi=>?_⟩⟩
  ·rcases Nat.lt_or_ge g w.heap.size with h'|h'
   ·exact h'
   ·simp[Array.getElem?_eq_none h'] at hh
  ·subst hx
   simp only[List.length_take] at hi;simp only[World.cell?,hh,Nat.zero_add,List.getElem_take];simp only[Option.isSome_none,Bool.false_eq_true,if_false];rw[Array.getElem?_eq_getElem (by simpa using (by omega:i<cur.toList.length))]
   simp
theorem xg {α:Type}{f:α→List Value}{sz:Nat}(hf:∀ x,(f x).length=sz):∀ (l:List α) (k j:Nat) (hk:k<l.length),j<sz →
  (l.flatMap f)[k * sz+j]?=(f l[k])[j]?
 | [],k,j,hk,_=>absurd hk (by simp)
 | x :: l,0,j,_,hj=>by
  simp only[List.flatMap_cons,Nat.zero_mul,Nat.zero_add,List.getElem_cons_zero];rw[List.getElem?_append_left (by rw[hf];exact hj)]
 | x :: l,k+1,j,hk,hj=>by
  have:=xg hf l k j (by simpa using hk) hj;simp only[List.flatMap_cons,List.getElem_cons_succ];rw[List.getElem?_append_right (by rw[hf,Nat.succ_mul];omega),hf,show (k+1) * sz+j - sz=k * sz+j by rw[Nat.succ_mul];omega];exact this
def Rec {α:Type}(B:Nat)(w:World)(v:Value)(sz:Nat)(f:α→List Value)(l:List α):Prop:=Sl B w v sz l.length (l.flatMap f)
theorem Rec.form {α:Type}{B:Nat}{w:World}{v:Value}{sz:Nat}{f:α→List Value}{l:List α}(h:Rec B w v sz f l)(hf:∀ x,(f x).length=sz) :
  ∃ ao cap,v=.slice ao l.length cap∧l.length≤cap∧(0<l.length→∃ b off,ao=some ⟨b,off,none⟩∧b<B ∧
   ∀ k j u,(hk:k<l.length)→(f l[k])[j]?=some u→w.cell? ⟨b,off+k * sz+j,none⟩=some u):=by
 obtain⟨ao,cap,hv,hn,hl,hc⟩:=h;refine⟨ao,cap,hv,hn,fun h0=>?_⟩;obtain⟨b,off,ha,hB,hcell⟩:=hc h0;refine⟨b,off,ha,hB,fun k j u hk hu=>?_⟩
 have hj:j<sz:=by
  rcases Nat.lt_or_ge j sz with h'|h'
  ·exact h'
  ·rw[List.getElem?_eq_none (by rw[hf];exact h')] at hu;cases hu
 have hi:=xg hf l k j hk hj;rw[hu] at hi;obtain⟨h',e⟩:=nY hi;have:=hcell (k * sz+j) h';rw[e] at this;rw[Nat.add_assoc];exact this
theorem Rec.below {α:Type}{B:Nat}{w w':World}{v:Value}{sz:Nat}{f:α→List Value}{l:List α}(h:Rec B w v sz f l)(hb:Below B w w'):Rec B w' v sz f l:=Sl.below h hb
theorem Rec.mono {α:Type}{B B':Nat}{w:World}{v:Value}{sz:Nat}{f:α→List Value}{l:List α}(h:Rec B w v sz f l)(hB:B≤B'):Rec B' w v sz f l:=Sl.mono h hB
theorem oq {w:World}{base e sz n:Nat}{v:Value}{xs:List Value}(h:w.ownsRow base e sz v n xs):w.drew.ownsRow base e sz v n xs:=h
theorem own_ne {w:World}{base e sz n k:Nat}{v:Value}{xs:List Value}(hr:w.ownsRow base e sz v n xs){cs:Array Value}{T:TypeId}{fr:Nat × Nat}(hk:w.heap[k]?=some (.cells cs T fr))(hT:T≠e):some k≠v.ownBlock:=by
 rcases hr.2 with ⟨rfl,_⟩|⟨g,cap,cur,rfl,_,hgg,_⟩
 ·simp[Value.ownBlock]
 ·intro q
  simp only[Value.ownBlock,Option.some.injEq] at q;subst q;rw[hk] at hgg;simp only[Option.some.injEq,Obj.cells.injEq] at hgg;exact hT hgg.2.1
theorem gZ {w w':World}{base e sz n k:Nat}{v:Value}{xs:List Value}(hr:w.ownsRow base e sz v n xs)(hg:w.grownBy w' v.ownBlock){cs:Array Value}{T:TypeId}{fr:Nat × Nat}(hk:w.heap[k]?=some (.cells cs T fr))(hT:T≠e) :
  w'.heap[k]?=some (.cells cs T fr):=by
 rw[hg.block k (bQ hk).1 (own_ne hr hk hT)];exact hk
theorem kg {k:IntKind}{a b:Int}(h:a=b):Ending.returned (.int k a)=.returned (.int k b):=by rw[h]
theorem aM {a b:Bool}(h:a=b):Ending.returned (.bool a)=.returned (.bool b):=by rw[h]
theorem rJ (s:ByteArray):s.toList.isEmpty=decide (s.size=0):=by
 rw[Go.ByteArray.toList_eq]
 have:s.data.toList.length=s.size:=by cases s;rfl
 cases h:s.data.toList with
 | nil=>rw[h,List.length_nil] at this;exact(decide_eq_true (by omega)).symm
 | cons a t=>rw[h,dI] at this;exact(decide_eq_false (by omega)).symm
end Go.Proofs.YtknicmmigbhpcaaGreatDoor

namespace Go.Proofs.YtknicmmigbhpcaaGreatDoor
theorem oh {x y:List UInt8}(h1:x≤y)(h2:y≤x):x=y:=List.le_antisymm h1 h2
theorem Fu {x y z:List UInt8}(h1:x≤y)(h2:y≤z):x≤z:=List.le_trans h1 h2
theorem Rv (x y:List UInt8):x≤y∨y≤x:=List.le_total x y
theorem GX {x y:List UInt8}:x<y↔x≤y∧x≠y:=by
 constructor
 ·intro h
  exact⟨List.le_of_lt h,fun q=>by subst q;exact List.lt_irrefl _ h⟩
 ·rintro⟨h1,h2⟩
  apply Classical.byContradiction
  intro q;exact h2 (oh h1 (List.not_lt.1 q))
theorem Rw {x y z:List UInt8}(h1:x≤y)(h2:y<z):x<z:=by
 rw[GX] at h2 ⊢;exact⟨Fu h1 h2.1,fun q=>by subst q;exact h2.2 (oh h2.1 h1)⟩
def fP (l:List (List UInt8)):List (List UInt8):=l.mergeSort fun x y=>decide (x≤y)
theorem Nr (l:List (List UInt8)):(fP l).Perm l:=List.mergeSort_perm _ _
theorem ou (l:List (List UInt8)):(fP l).length=l.length:=List.length_mergeSort l
theorem GY (l:List (List UInt8)):(fP l).Pairwise (·≤·):=by
 have:=List.pairwise_mergeSort (le:=fun x y:List UInt8=>decide (x≤y)) (fun a b c h1 h2=>by simp only[decide_eq_true_eq] at *;exact Fu h1 h2) (fun a b=>by simp only[Bool.or_eq_true,decide_eq_true_eq];exact Rv a b) l
 exact this.imp fun h=>by simpa using h
def fF (l:List (List UInt8)):List (List UInt8):=Lib.compact (fP l)
theorem nR (d:Array (List UInt8)):∀ (m:Nat) (j:Nat),j<m→d[j]!∈Lib.compactUpTo d m
 | 0,j,h=>absurd h (by omega)
 | m+1,j,h=>by
  rw[Lib.compactUpTo_succ,List.mem_append]
  by_cases q:j<m
  ·exact .inl (nR d m j q)
  ·obtain rfl:j=m:=by omega
   by_cases k:Lib.keeps d j=true
   ·rw[if_pos k];exact .inr (by simp)
   ·left
    unfold Lib.keeps at k;simp only[decide_eq_true_eq,not_or,Classical.not_not,ne_eq] at k;rw[k.2];exact nR d j (j - 1) (by omega)
theorem tF (d:Array (List UInt8))(m:Nat)(x:List UInt8)(h:x∈Lib.compactUpTo d m):∃ j,j<m∧x=d[j]!:=by
 unfold Lib.compactUpTo at h;obtain⟨j,hj,rfl⟩:=List.mem_map.1 h;exact⟨j,List.mem_range.1 (List.mem_filter.1 hj).1,rfl⟩
theorem UZ {l:List (List UInt8)}{x:List UInt8}:x∈fF l↔x∈l:=by
 rw[← (Nr l).mem_iff];unfold fF Lib.compact
 constructor
 ·intro h
  obtain⟨j,hj,rfl⟩:=tF _ _ _ h;rw[getElem!_pos _ _ (by simpa using hj)]
  simp
 ·intro h
  obtain⟨j,hj,rfl⟩:=List.getElem_of_mem h;have:=nR (fP l).toArray (fP l).length j hj;rw[getElem!_pos _ _ (by simpa using hj)] at this
  simpa using this
theorem oH (zs:List (List UInt8))(hs:zs.Pairwise (·≤·)):∀ m,m≤zs.length→(Lib.compactUpTo zs.toArray m).Pairwise (· < ·)
 | 0,_=>by simp[Lib.compactUpTo]
 | m+1,h=>by
  rw[Lib.compactUpTo_succ,List.pairwise_append];refine⟨oH zs hs m (by omega),by split<;>simp,fun x hx y hy=>?_⟩
  split at hy
  ·rename_i k
   rw[List.mem_singleton] at hy;subst hy;obtain⟨j,hj,rfl⟩:=tF _ _ _ hx;unfold Lib.keeps at k;rw[decide_eq_true_eq] at k;have hne:zs.toArray[m]!≠zs.toArray[m - 1]!:=k.resolve_left (by omega)
   have e:∀ i,(hi:i<zs.length)→zs.toArray[i]! = zs[i]:=fun i hi=>by rw[getElem!_pos _ _ (by simpa using hi)];simp
   rw[e m (by omega),e (m - 1) (by omega)] at hne;rw[e j (by omega),e m (by omega)]
   have h1:zs[j]≤zs[m - 1]:=by
    by_cases q:j=m - 1
    ·subst q;exact List.le_refl _
    ·exact List.pairwise_iff_getElem.1 hs j (m - 1) (by omega) (by omega) (by omega)
   have h2:zs[m - 1]≤zs[m]:=List.pairwise_iff_getElem.1 hs (m - 1) m (by omega) (by omega) (by omega);exact Rw h1 (GX.2 ⟨h2,fun q=>hne q.symm⟩)
  ·cases hy
theorem tH (l:List (List UInt8)):(fF l).Pairwise (· < ·):=oH _ (GY l) _ (Nat.le_refl _)
theorem qD (l:List (List UInt8)):(fF l).length≤l.length:=by
 have:=Lib.compact_length_le (fP l);rw[ou] at this;exact this
theorem JG:fF []=[]:=List.eq_nil_of_length_eq_zero (by have:=qD [];simpa using this)
end Go.Proofs.YtknicmmigbhpcaaGreatDoor

namespace Go.Proofs.YtknicmmigbhpcaaGreatDoor
open Go.RowKit
abbrev ML:=List (List UInt8 × List Value)
def bY (p:List UInt8 × List Value):List Value:=.string ⟨p.1.toArray⟩ :: p.2
def jo (l:ML):List Value:=l.flatMap bY
structure Ab (k:Nat) (l:ML):Prop where
 sorted:(l.map Prod.fst).Pairwise (· < ·)
 wid:∀ p∈l,p.2.length=k
 one:∀ p∈l,∀ u∈p.2,u.oneCell'=true
theorem Ab.nil (k:Nat):Ab k []:=⟨List.Pairwise.nil,(by intro p h;cases h),(by intro p h;cases h)⟩
def bE (l:ML)(x:List UInt8):Nat:=(l.takeWhile fun p=>decide (p.1<x)).length
def pK (l:ML)(x:List UInt8):Bool:=decide (x∈l.map Prod.fst)
def qE (l:ML)(x:List UInt8):Option (List Value):=(l.find? fun p=>decide (p.1=x)).map Prod.snd
def qp (l:ML)(x:List UInt8)(v:List Value):ML:=l.take (bE l x)++(x,v) :: l.drop (bE l x)
def YJ (l:ML)(x:List UInt8)(v:List Value):ML:=l.map fun p=>if p.1=x then (x,v) else p
def ace (l:ML)(x:List UInt8)(v:List Value):ML:=if pK l x=true then YJ l x v else qp l x v
theorem qF (l:ML)(x:List UInt8):bE l x≤l.length:=(List.takeWhile_prefix (l:=l) _).length_le
theorem yS {x:List UInt8}:∀ {l:ML} {t:Nat} (h:t<l.length),t<bE l x→l[t].1<x
 | [],_,h,_=>absurd h (by simp)
 | p :: l,t,h,ht=>by
  unfold bE at ht;rw[List.takeWhile_cons] at ht
  split at ht
  ·rename_i hp
   cases t with
   | zero=>exact of_decide_eq_true hp
   | succ t =>
    rw[dI] at ht h;exact yS (Nat.lt_of_succ_lt_succ h) (show t<bE l x from Nat.lt_of_succ_lt_succ ht)
  ·simp at ht
theorem pV {x:List UInt8}:∀ {l:ML} (h:bE l x<l.length),¬ l[bE l x].1<x
 | [],h=>absurd h (by simp)
 | p :: l,h=>by
  by_cases hp:p.1<x
  ·have e:bE (p :: l) x=bE l x+1:=by unfold bE;rw[List.takeWhile_cons,if_pos (decide_eq_true hp)];rfl
   simp only[e,List.getElem_cons_succ];exact pV (by rw[e] at h;simpa using h)
  ·have e:bE (p :: l) x=0:=by unfold bE;rw[List.takeWhile_cons,if_neg (by simpa using hp)];rfl
   simp only[e,List.getElem_cons_zero];exact hp
theorem Ab.mono {k:Nat}{l:ML}(h:Ab k l){i j:Nat}(hij:i<j)(hj:j<l.length):l[i].1<l[j].1:=by
 have:=List.pairwise_iff_getElem.1 h.sorted i j (by simpa using Nat.lt_trans hij hj) (by simpa using hj) hij
 simpa using this
theorem vY {k:Nat}{l:ML}(h:Ab k l){x:List UInt8}{t:Nat}(ht:t<l.length):l[t].1<x↔t<bE l x:=by
 constructor
 ·intro hlt
  apply Classical.byContradiction
  intro q
  by_cases e:bE l x=t
  ·subst e;exact pV ht hlt
  ·have h1:bE l x<l.length:=by omega
   exact pV h1 (List.lt_trans (h.mono (by omega) ht) hlt)
 ·exact yS ht
theorem Bz {k:Nat}{l:ML}(h:Ab k l)(x:List UInt8):pK l x=decide (∃ hi:bE l x<l.length,l[bE l x].1=x):=by
 unfold pK
 congr 1
 apply propext
 constructor
 ·intro hm
  obtain⟨j,hj,e⟩:=List.getElem_of_mem hm;rw[List.length_map] at hj;rw[List.getElem_map] at e
  have h1:¬ l[j].1<x:=by rw[e];exact List.lt_irrefl _
  rw[vY h hj] at h1
  have h2:bE l x<l.length:=by omega
  refine⟨h2,?_⟩
  by_cases q:bE l x=j
  ·simp only[q];exact e
  ·have h3:=h.mono (show bE l x<j by omega) hj
   rw[e] at h3;exact absurd h3 (pV h2)
 ·rintro⟨hi,e⟩
  rw[← e];exact List.mem_map_of_mem (List.getElem_mem hi)
theorem xk (l:ML)(x:List UInt8):(qE l x).isSome=pK l x:=by
 unfold qE pK;rw[Option.isSome_map]
 induction l with
 | nil=>rfl
 | cons p l ih =>
  rw[List.find?_cons,List.map_cons]
  by_cases e:p.1=x
  ·rw[decide_eq_true e,decide_eq_true (by rw[e];exact List.mem_cons_self)];rfl
  ·rw[decide_eq_false e]
   simp only[ih]
   apply decide_eq_decide.2
   constructor
   ·exact List.mem_cons_of_mem _
   ·intro q
    rcases List.mem_cons.1 q with q|q
    ·exact absurd q.symm e
    ·exact q
theorem Rx {l:ML}{x:List UInt8}(h:pK l x=false):qE l x=none:=by
 have:=xk l x;rw[h] at this
 simpa using this
theorem YK {k:Nat}{l:ML}(h:Ab k l){x:List UInt8}{i:Nat}(hi:i<l.length)(e:l[i].1=x):qE l x=some l[i].2:=by
 unfold qE
 have:l.find? (fun p=>decide (p.1=x))=some l[i]:=by
  rw[List.find?_eq_some_iff_getElem];refine⟨decide_eq_true e,i,hi,rfl,fun j hj=>?_⟩;have:=h.mono hj hi;rw[e] at this;simp only[Bool.not_eq_true',decide_eq_false_iff_not];intro q;rw[q] at this;exact List.lt_irrefl _ this
 rw[this];rfl
theorem Ry (l:ML)(x:List UInt8)(v:List Value):(qp l x v).map Prod.fst=(l.map Prod.fst).take (bE l x)++x :: (l.map Prod.fst).drop (bE l x):=by
 unfold qp;rw[List.map_append,List.map_cons,List.map_take,List.map_drop]
theorem Ab.ins {k:Nat}{l:ML}(h:Ab k l){x:List UInt8}{v:List Value}(hx:pK l x=false)(hv:v.length=k)(h1:∀ u∈v,u.oneCell'=true):Ab k (qp l x v):=by
 have hmem:∀ p∈qp l x v,p∈l∨p=(x,v):=fun p hp=>by
  unfold qp at hp
  rcases List.mem_append.1 hp with q|q
  ·exact .inl (List.mem_of_mem_take q)
  ·rcases List.mem_cons.1 q with q|q
   ·exact .inr q
   ·exact .inl (List.mem_of_mem_drop q)
 refine⟨?_,fun p hp=>?_,fun p hp=>?_⟩
 ·have hg:∀ j,(hj:j<l.length)→bE l x≤j→x<l[j].1:=fun j hj hij=>by
   have h1:¬ l[j].1<x:=by rw[vY h hj];omega
   rw[GX];refine⟨List.not_lt.1 h1,fun q=>?_⟩
   have:x∈l.map Prod.fst:=by rw[q];exact List.mem_map_of_mem (List.getElem_mem hj)
   unfold pK at hx;exact of_decide_eq_false hx this
  rw[Ry,List.pairwise_append];refine⟨h.sorted.sublist (List.take_sublist _ _),List.pairwise_cons.2 ⟨fun y hy=>?_,h.sorted.sublist (List.drop_sublist _ _)⟩,fun y hy z hz=>?_⟩
  ·obtain⟨j,hj,rfl⟩:=List.getElem_of_mem hy
   rw[List.length_drop,List.length_map] at hj;rw[List.getElem_drop,List.getElem_map];exact hg _ (by omega) (by omega)
  ·obtain⟨j,hj,rfl⟩:=List.getElem_of_mem hy
   rw[List.length_take,List.length_map] at hj;rw[List.getElem_take,List.getElem_map];have hlt:l[j].1<x:=yS (by omega) (by omega)
   rcases List.mem_cons.1 hz with q|q
   ·rw[q];exact hlt
   ·obtain⟨m,hm,rfl⟩:=List.getElem_of_mem q
    rw[List.length_drop,List.length_map] at hm;rw[List.getElem_drop,List.getElem_map];exact List.lt_trans hlt (hg _ (by omega) (by omega))
 ·rcases hmem p hp with q|q
  ·exact h.wid p q
  ·rw[q];exact hv
 ·rcases hmem p hp with q|q
  ·exact h.one p q
  ·rw[q];exact h1
theorem JH (l:ML)(x:List UInt8)(v:List Value):(qp l x v).length=l.length+1:=by
 have:=qF l x;unfold qp;rw[bC,List.length_take,dI,List.length_drop];omega
theorem U0 {l:ML}{x:List UInt8}(v:List Value)(hx:pK l x=false)(y:List UInt8):qE (qp l x v) y=if y=x then some v else qE l y:=by
 have hn:∀ p∈l,p.1≠x:=fun p hp q=>by
  unfold pK at hx;exact of_decide_eq_false hx (by rw[← q];exact List.mem_map_of_mem hp)
 have hl:l.find? (fun p=>decide (p.1=y))=((l.take (bE l x)).find? fun p=>decide (p.1=y)).or ((l.drop (bE l x)).find? fun p=>decide (p.1=y)):=by
  rw[← List.find?_append,List.take_append_drop]
 unfold qE qp;rw[List.find?_append,List.find?_cons,hl]
 by_cases e:y=x
 ·subst e
  rw[if_pos rfl,decide_eq_true rfl]
  have:(l.take (bE l y)).find? (fun p=>decide (p.1=y))=none:=List.find?_eq_none.2 fun p hp=>by simpa using hn p (List.mem_of_mem_take hp)
  rw[this]
  rfl
 ·rw[if_neg e,decide_eq_false (fun q=>e q.symm)]
theorem Rz (l:ML)(x:List UInt8)(v:List Value):(YJ l x v).map Prod.fst=l.map Prod.fst:=by
 unfold YJ;rw[List.map_map]
 refine List.map_congr_left fun p _=>?_
 simp only[Function.comp]
 split
 ·rename_i h;exact h.symm
 ·rfl
theorem Ab.set {k:Nat}{l:ML}(h:Ab k l)(x:List UInt8){v:List Value}(hv:v.length=k)(h1:∀ u∈v,u.oneCell'=true):Ab k (YJ l x v):=by
 refine⟨by rw[Rz];exact h.sorted,fun p hp=>?_,fun p hp=>?_⟩
 ·obtain⟨q,hq,rfl⟩:=List.mem_map.1 hp
  split
  ·exact hv
  ·exact h.wid q hq
 ·obtain⟨q,hq,rfl⟩:=List.mem_map.1 hp
  split
  ·exact h1
  ·exact h.one q hq
theorem Ab.put {k:Nat}{l:ML}(h:Ab k l)(x:List UInt8){v:List Value}(hv:v.length=k)(h1:∀ u∈v,u.oneCell'=true):Ab k (ace l x v):=by
 unfold ace
 split
 ·exact h.set x hv h1
 ·rename_i q;exact h.ins (by simpa using q) hv h1
theorem oI {k:Nat}:∀ {l:ML},(∀ p∈l,p.2.length=k)→(jo l).length=l.length * (k+1)
 | [],_=>by simp[jo]
 | p :: l,h=>by
  have:=oI (l:=l) fun q hq=>h q (List.mem_cons_of_mem _ hq)
  unfold jo at this ⊢;rw[List.flatMap_cons,bC,this,bY,dI,h p (by simp),dI,Nat.succ_mul,Nat.add_comm]
theorem Ac (a b:ML):jo (a++b)=jo a++jo b:=by unfold jo;rw[List.flatMap_append]
theorem Qq {k:Nat}:∀ {l:ML} (_:∀ p∈l,p.2.length=k) (i j:Nat) (hi:i<l.length),j<k+1→(jo l)[i * (k+1)+j]?=(bY l[i])[j]?
 | [],_,i,j,h,_=>absurd h (by simp)
 | p :: l,hw,0,j,_,hj=>by
  unfold jo;rw[List.flatMap_cons,Nat.zero_mul,Nat.zero_add,List.getElem?_append_left (by rw[bY,dI,hw p (by simp)];exact hj)]
  rfl
 | p :: l,hw,i+1,j,h,hj=>by
  have:=Qq (l:=l) (fun q hq=>hw q (List.mem_cons_of_mem _ hq)) i j (by simpa using h) hj;unfold jo at this ⊢
  have hp:(bY p).length=k+1:=by rw[bY,dI,hw p (by simp)]
  rw[List.flatMap_cons,List.getElem?_append_right (by rw[hp,Nat.succ_mul];omega),hp,show (i+1) * (k+1)+j - (k+1)=i * (k+1)+j by rw[Nat.succ_mul];omega,this]
  rfl
theorem JI {k:Nat}{l:ML}(h:Ab k l):∀ u∈jo l,u.oneCell'=true:=fun u hu=>by
 obtain⟨p,hp,hq⟩:=List.mem_flatMap.1 hu
 rcases List.mem_cons.1 hq with q|q
 ·rw[q];rfl
 ·exact h.one p hp u q
theorem yT {k:Nat}:∀ {l:ML},(∀ p∈l,p.2.length=k)→∀ i,jo (l.take i)=(jo l).take (i * (k+1))
 | [],_,i=>by simp[jo]
 | p :: l,h,0=>by simp[jo]
 | p :: l,h,i+1=>by
  have hp:(bY p).length=k+1:=by rw[bY,dI,h p (by simp)]
  have:=yT (l:=l) (fun q hq=>h q (List.mem_cons_of_mem _ hq)) i;unfold jo at this ⊢;rw[List.take_succ_cons,List.flatMap_cons,List.flatMap_cons,this,List.take_append,List.take_of_length_le (l:=bY p) (by rw[hp,Nat.succ_mul];omega),hp,show (i+1) * (k+1) - (k+1)=i * (k+1) by rw[Nat.succ_mul];omega]
theorem RA {k:Nat}{l:ML}(h:∀ p∈l,p.2.length=k)(i:Nat):jo (l.drop i)=(jo l).drop (i * (k+1)):=by
 have h1:=yT h i;have h2:=Ac (l.take i) (l.drop i);rw[List.take_append_drop,h1] at h2
 by_cases hi:i≤l.length
 ·have hl:=oI h
  have:=congrArg (List.drop (i * (k+1))) h2;rw[List.drop_append,List.drop_of_length_le (l:=(jo l).take (i * (k+1))) (by rw[List.length_take];omega),List.nil_append,List.length_take,Nat.min_eq_left (by rw[hl];exact Nat.mul_le_mul_right _ hi),Nat.sub_self,List.drop_zero] at this;exact this.symm
 ·rw[List.drop_of_length_le (by omega),List.drop_of_length_le (by rw[oI h];exact Nat.mul_le_mul_right _ (by omega))]
  rfl
theorem BA (l:ML)(x:List UInt8)(v:List Value){k:Nat}(h:∀ p∈l,p.2.length=k):jo (qp l x v)=(jo l).take (bE l x * (k+1))++(bY (x,v)++(jo l).drop (bE l x * (k+1))):=by
 unfold qp;rw[Ac,yT h]
 congr 1
 rw[← RA h];unfold jo;rw[List.flatMap_cons]
end Go.Proofs.YtknicmmigbhpcaaGreatDoor

namespace Go.Proofs.YtknicmmigbhpcaaGreatDoor
theorem aK (o:ByteArray):o.data.toList.length=o.size:=by cases o;rfl
theorem Ad (a b:ByteArray):(a++b).data.toList=a.data.toList++b.data.toList:=by simp
theorem qG {a b:ByteArray}(h:a.data.toList=b.data.toList):a=b:=by
 cases a;cases b
 congr 1
 exact Array.toList_inj.1 h
theorem dh (s:ByteArray)(a b:Nat):(s.extract a b).data.toList=(s.data.toList.take b).drop a:=by
 rw[Lib.extract_data,List.drop_take]
theorem nC (s:ByteArray)(a:Nat):(s.extract a s.size).data.toList=s.data.toList.drop a:=by
 rw[dh,List.take_of_length_le]
 simp
theorem Qr {a b:ByteArray}(h:a=b):Ending.returned (.string a)=.returned (.string b):=by rw[h]
theorem RB (T:List UInt8):(Lib.indexByte T 10=-1∧∀ j:Nat,T[j]?≠some 10)∨∃ i:Nat,Lib.indexByte T 10=i∧T[i]?=some 10∧i<T.length∧∀ j:Nat,j<i→T[j]?≠some 10:=by
 rcases hq:Lib.indexByte T 10 with n|n
 ·right
  obtain⟨h1,h2⟩:=Lib.indexByte_some (o:=n) hq;exact⟨n,rfl,h1,(nY h1).1,h2⟩
 ·left
  have:=Lib.indexByte_ge T 10
  have h1:Lib.indexByte T 10=-1:=by rw[hq] at this ⊢;omega
  rw[hq] at h1;refine⟨h1,?_⟩;rw[← hq] at h1;exact Lib.indexByte_none h1
def Ns:Value→Nat
 | .string s=>s.size
 | _=>0
def bT (c:UInt8):Bool:=(97≤c && c≤122) || (65≤c && c≤90)
def aJ (c:UInt8):Bool:=48≤c && c≤57
def aL (c:UInt8):Bool:=bT c || aJ c || c == 95
def dn (c:UInt8):Bool:=c == 32 || c == 9 || c == 13 || c == 10
def bf:Bool→List UInt8→Nat
 | _,[]=>0
 | true,c :: r=>if c=10 then 1+bf false r else 1+bf true r
 | false,c :: r=>if dn c then 1+bf false r else if c=45∧r.head?=some 45 then 1+bf true r else 0
theorem lG:∀ (m:Bool) (T:List UInt8),bf m T≤T.length
 | _,[]=>by simp[bf]
 | true,c :: r=>by
  have h1:=lG false r;have h2:=lG true r;rw[bf]
  split<;>simp<;>omega
 | false,c :: r=>by
  have h1:=lG false r;have h2:=lG true r;rw[bf]
  split
  ·simp;omega
  ·split<;>simp
   omega
theorem xq:∀ (T:List UInt8),bf false T=(T.takeWhile dn).length+bf false (T.dropWhile dn)
 | []=>by simp[bf]
 | c :: r=>by
  by_cases hc:dn c=true
  ·rw[List.takeWhile_cons_of_pos hc,List.dropWhile_cons_of_pos hc,bf,if_pos hc,dI,xq r]
   omega
  ·rw[List.takeWhile_cons_of_neg hc,List.dropWhile_cons_of_neg hc]
   simp
theorem BD:∀ (T:List UInt8),(∀ j:Nat,T[j]?≠some 10)→bf true T=T.length
 | [],_=>rfl
 | c :: r,h=>by
  have h0:c≠10:=fun e=>h 0 (by simp[e])
  rw[bf,if_neg h0,BD r (fun j=>by have:=h (j+1);simpa using this),dI];omega
theorem BF:∀ (n:Nat) (T:List UInt8),T[n]?=some 10→(∀ j:Nat,j<n→T[j]?≠some 10)→bf true T=n+bf false (T.drop n)
 | _,[],h,_=>by simp at h
 | 0,c :: r,h,_=>by
  have h0:c=10:=by simpa using h
  subst h0;rw[bf,if_pos rfl,List.drop_zero,bf,if_pos (by decide)];omega
 | n+1,c :: r,h,hj=>by
  have h0:c≠10:=fun e=>hj 0 (by omega) (by simp[e])
  rw[bf,if_neg h0,BF n r (by simpa using h) (fun j hjm=>by have:=hj (j+1) (by omega);simpa using this)]
  simp
  omega
theorem GZ (T:List UInt8)(h:[45,45] <+: T):bf false T=bf true T:=by
 obtain⟨r,rfl⟩:=h;show bf false (45 :: 45 :: r)=bf true (45 :: 45 :: r)
 have h1:bf false (45 :: 45 :: r)=1+bf true (45 :: r):=by
  conv=>lhs;rw[bf]
  rw[if_neg (by decide),if_pos ⟨rfl,rfl⟩]
 have h2:bf true (45 :: 45 :: r)=1+bf true (45 :: r):=by
  conv=>lhs;rw[bf]
  rw[if_neg (by decide)]
 rw[h1,h2]
theorem Nt (T:List UInt8)(h:¬ [45,45] <+: T)(hb:T.takeWhile dn=[]):bf false T=0:=by
 cases T with
 | nil=>rfl
 | cons c r =>
  have hc:¬ dn c=true:=fun q=>by rw[List.takeWhile_cons_of_pos q] at hb;cases hb
  rw[bf,if_neg hc,if_neg];rintro⟨rfl,h2⟩
  cases r with
  | nil=>cases h2
  | cons d r =>
   injection h2 with h2
   subst h2;exact h ⟨r,rfl⟩
def j5:List (List UInt8):=[[97,115,115,101,114,116],[98,111,111,108],[101,108,115,101],[102,97,108,115,101],[102,117,110],[105,102],[105,109,112,111,114,116],[105,110],[105,110,116],[108,101,116],[110,111,116],[112,117,98],[114,101,115],[116,104,101,110],[116,114,117,101]]
def l8:List (List UInt8):=[[60,62],[60,61],[62,61],[38,38],[124,124],[61,62]]
def G5:List UInt8:=[40,41,123,125,44,58,59,46,43,45,42,47,37,61,60,62]
def iw:List (List UInt8):=l8++G5.map fun c=>[c]
def l9 (T:List UInt8):Option (List UInt8):=iw.find? (fun x=>x.isPrefixOf T)
def iP (T:List UInt8):Nat × Nat × Nat :=
 let w:=T.takeWhile aL
 if 40<w.length then (0,0,20) else if w∈j5 then (2,w.length,0) else (1,w.length,0)
def jc (T:List UInt8):Nat × Nat × Nat :=
 let w:=T.takeWhile aJ
 if 60<w.length∨(1<w.length∧w[0]?=some 48) then (0,0,21) else (3,w.length,0)
def vZ (T:List UInt8):Nat × Nat × Nat :=
 match l9 T with
 | some x=>(4,x.length,0)
 | none=>(0,0,20)
def bG:List UInt8→Nat × Nat × Nat
 | []=>(5,0,0)
 | c :: r=>if bT c then iP (c :: r) else if aJ c then jc (c :: r) else vZ (c :: r)
structure Tok where
 kind:Nat
 lead:List UInt8
 text:List UInt8
 place:Nat
def bK (t:Tok):List Value:=[.int .i64 t.kind,.string ⟨t.lead.toArray⟩,.string ⟨t.text.toArray⟩,.int .i64 t.place]
def nD:Nat→List UInt8→Nat→Except (Nat × Nat) (List Tok)
 | 0,_,_=>.error (99,0)
 | n+1,T,p =>
  let k:=bf false T
  let U:=T.drop k
  let t:=bG U
  if t.2.2≠0 then .error (t.2.2,p+k)
  else if t.1=5 then .ok [⟨5,T.take k,[],p+k⟩]
  else match nD n (U.drop t.2.1) (p+k+t.2.1) with
   | .error e=>.error e
   | .ok l=>.ok (⟨t.1,T.take k,U.take t.2.1,p+k⟩ :: l)
def bH (S:List UInt8):Except (Nat × Nat) (List Tok):=if 65536<S.length then .error (11,0) else nD (S.length+1) S 0
theorem je {α:Type}(p:α→Bool)(l:List α):(l.takeWhile p).length≤l.length:=(List.takeWhile_prefix p).length_le
theorem rM {T x:List UInt8}(h:l9 T=some x):x <+: T∧0<x.length∧x.length≤2:=by
 have h1:=List.find?_some h;have h2:=List.mem_of_find?_eq_some h;refine⟨List.isPrefixOf_iff_prefix.1 h1,?_⟩
 have:∀ y∈iw,0<y.length∧y.length≤2:=by decide
 exact this x h2
theorem tJ (T:List UInt8):(bG T).2.1≤T.length:=by
 cases T with
 | nil=>simp[bG]
 | cons c r =>
  rw[bG]
  split
  ·have:=je aL (c :: r)
   simp only[iP]
   split
   ·simp
   ·split<;>exact this
  ·split
   ·have:=je aJ (c :: r)
    simp only[jc]
    split
    ·simp
    ·exact this
   ·rw[vZ]
    split
    ·rename_i x hx
     exact(rM hx).1.length_le
    ·simp
theorem tK (T:List UInt8)(h:(bG T).2.2=0)(h5:(bG T).1≠5):0<(bG T).2.1:=by
 cases T with
 | nil=>simp[bG] at h5
 | cons c r =>
  rw[bG] at h h5 ⊢
  by_cases hc:bT c=true
  ·have hp:0<((c :: r).takeWhile aL).length:=by rw[List.takeWhile_cons_of_pos (by simp[aL,hc])];simp
   rw[if_pos hc] at h ⊢;simp only[iP] at h ⊢
   split at h
   ·cases h
   ·rename_i Nj
    rw[if_neg Nj]
    split<;>exact hp
  ·rw[if_neg hc] at h ⊢
   by_cases hd:aJ c=true
   ·have hp:0<((c :: r).takeWhile aJ).length:=by rw[List.takeWhile_cons_of_pos hd];simp
    rw[if_pos hd] at h ⊢;simp only[jc] at h ⊢
    split at h
    ·cases h
    ·rename_i yU
     rw[if_neg yU];exact hp
   ·rw[if_neg hd] at h ⊢
    rw[vZ] at h ⊢
    split at h
    ·rename_i x hx
     exact(rM hx).2.1
    ·cases h
def mE (t:Tok):Nat:=t.lead.length+t.text.length
def gD:List Tok→Nat→Nat
 | [],_=>0
 | _ :: _,0=>0
 | t :: l,i+1=>mE t+gD l i
theorem wh (l:List Tok):gD l 0=0:=by cases l<;>rfl
theorem kD (t:Tok)(l:List Tok)(i:Nat):gD (t :: l) (i+1)=mE t+gD l i:=rfl
theorem jK:∀ (l:List Tok) (i:Nat) (h:i<l.length),gD l (i+1)=gD l i+mE l[i]
 | [],i,h=>absurd h (by simp)
 | t :: l,0,_=>by simp[gD,wh]
 | t :: l,i+1,h=>by
  have:=jK l i (by simpa using h);simp only[kD,List.getElem_cons_succ];rw[this];omega
theorem JJ (T:List UInt8)(h:(bG T).1=5):T=[]:=by
 cases T with
 | nil=>rfl
 | cons c r =>
  exfalso
  rw[bG] at h
  split at h
  ·rw[iP] at h
   split at h
   ·cases h
   ·split at h<;>cases h
  ·split at h
   ·rw[jc] at h
    split at h<;>cases h
   ·rw[vZ] at h
    split at h<;>cases h
structure Laid (T:List UInt8) (p:Nat) (l:List Tok):Prop where
 some:0<l.length
 whole:gD l l.length=T.length
 place:∀ (i:Nat) (h:i<l.length),l[i].place=p+gD l i+l[i].lead.length
 last:∀ (i:Nat) (h:i<l.length),l[i].kind=5↔i=l.length - 1
 empty:∀ (i:Nat) (h:i<l.length),l[i].text=[]↔l[i].kind=5
 text:∀ (i:Nat) (h:i<l.length),(T.drop (gD l i+l[i].lead.length)).take l[i].text.length=l[i].text
 lead:∀ (i:Nat) (h:i<l.length),(T.drop (gD l i)).take l[i].lead.length=l[i].lead
theorem Laid.inside {T:List UInt8}{p:Nat}{l:List Tok}(h:Laid T p l):∀ i,i≤l.length→gD l i≤T.length:=by
 intro i hi
 have:∀ k,i+k=l.length→gD l i≤T.length:=by
  intro k
  induction k generalizing i with
  | zero=>intro e;rw[← h.whole,← e];exact Nat.le_refl _
  | succ k ih =>
   intro e;have:=ih (i+1) (by omega) (by omega);rw[jK l i (by omega)] at this;omega
 exact this (l.length - i) (by omega)
theorem Laid.count {T:List UInt8}{p:Nat}{l:List Tok}(h:Laid T p l):l.length≤T.length+1:=by
 have h1:∀ i,i<l.length→i≤gD l i:=by
  intro i
  induction i with
  | zero=>omega
  | succ i ih =>
   intro hi;have h2:=ih (by omega)
   have h5:l[i].kind≠5:=fun q=>by have:=(h.last i (by omega)).1 q;omega
   have h6:l[i].text≠[]:=fun q=>h5 ((h.empty i (by omega)).1 q)
   have h7:0<l[i].text.length:=List.length_pos_iff.2 h6;rw[jK l i (by omega),mE];omega
 have hs:=h.some;have:=h1 (l.length - 1) (by omega);have:=h.inside (l.length - 1) (by omega);omega
theorem Fv:∀ (n:Nat) (T:List UInt8) (p:Nat) (l:List Tok),nD n T p=.ok l→Laid T p l
 | 0,_,_,_,h=>by cases h
 | n+1,T,p,l,h=>by
  rw[nD] at h;have hk:=lG false T;generalize hkk:bf false T=k at h hk
  by_cases he:(bG (T.drop k)).2.2≠0
  ·rw[if_pos he] at h;cases h
  rw[if_neg he] at h
  by_cases h5:(bG (T.drop k)).1=5
  ·rw[if_pos h5] at h
   injection h with h
   subst h;have hnil:=JJ _ h5
   have hl:T.length=k:=by
    have:=congrArg List.length hnil;rw[List.length_drop,List.length_nil] at this;omega
   have htk:(T.take k).length=k:=by rw[List.length_take];omega
   have one:∀ i,i<1→i=0:=fun i h=>by omega
   refine⟨by simp,by simp[gD,mE];omega,?_,?_,?_,?_,?_⟩<;>(intro i hi;obtain rfl:=one i hi;simp[gD])<;>omega
  ·rw[if_neg h5] at h
   have hpos:=tK (T.drop k) (by omega) h5;have hlen:=tJ (T.drop k);rw[List.length_drop] at hlen;generalize bG (T.drop k)=t at h he h5 hpos hlen
   cases hr:nD n ((T.drop k).drop t.2.1) (p+k+t.2.1) with
   | error e=>simp only[hr] at h;cases h
   | ok r =>
    simp only[hr] at h
    injection h with h
    subst h;have ih:=Fv n _ _ _ hr
    have htk:(T.take k).length=k:=by rw[List.length_take];omega
    have htx:((T.drop k).take t.2.1).length=t.2.1:=by rw[List.length_take,List.length_drop];omega
    have hone:mE ⟨t.1,T.take k,(T.drop k).take t.2.1,p+k⟩=k+t.2.1:=by simp only[mE];rw[htk,htx]
    have hs:=ih.some;refine⟨by simp,?_,?_,?_,?_,?_,?_⟩
    ·rw[dI,kD,ih.whole,hone,List.length_drop,List.length_drop];omega
    ·intro i hi
     cases i with
     | zero=>simp only[List.getElem_cons_zero,gD];rw[htk];omega
     | succ i =>
      have:=ih.place i (by simpa using hi);simp only[List.getElem_cons_succ,kD];rw[this,hone];omega
    ·intro i hi
     cases i with
     | zero=>simp only[List.getElem_cons_zero,dI];exact⟨fun h=>absurd h h5,fun h=>by omega⟩
     | succ i =>
      have:=ih.last i (by simpa using hi);simp only[List.getElem_cons_succ,dI];rw[this];omega
    ·intro i hi
     cases i with
     | zero =>
      simp only[List.getElem_cons_zero];exact⟨fun h=>by rw[h] at htx;simp at htx;omega,fun h=>absurd h h5⟩
     | succ i =>
      simp only[List.getElem_cons_succ];exact ih.empty i (by simpa using hi)
    ·intro i hi
     cases i with
     | zero=>simp only[List.getElem_cons_zero,gD];rw[htk,htx,Nat.zero_add]
     | succ i =>
      have:=ih.text i (by simpa using hi);simp only[List.getElem_cons_succ,kD];rw[List.drop_drop,List.drop_drop] at this;rw[hone]
      have hi':i<r.length:=by simpa using hi
      rw[show k+t.2.1+gD r i+r[i].lead.length=k+(t.2.1+(gD r i+r[i].lead.length)) from by omega];exact this
    ·intro i hi
     cases i with
     | zero=>simp only[List.getElem_cons_zero,gD];rw[htk,List.drop_zero]
     | succ i =>
      have:=ih.lead i (by simpa using hi);simp only[List.getElem_cons_succ,kD];rw[List.drop_drop,List.drop_drop] at this;rw[hone];rw[show k+t.2.1+gD r i=k+(t.2.1+gD r i) from by omega];exact this
theorem BG:∀ (n:Nat) (T:List UInt8) (p:Nat) (e:Nat × Nat),nD n T p=.error e→T.length<n→p≤e.2∧e.2≤p+T.length∧(e.1=20∨e.1=21)
 | 0,_,_,_,_,h=>absurd h (by omega)
 | n+1,T,p,e,h,hn=>by
  rw[nD] at h;have hk:=lG false T;generalize hkk:bf false T=k at h hk
  by_cases he:(bG (T.drop k)).2.2≠0
  ·rw[if_pos he] at h
   injection h with h
   subst h;refine⟨by simp,by simp only;omega,?_⟩;simp only
   cases hd:T.drop k with
   | nil=>rw[hd] at he;exact absurd rfl he
   | cons c r =>
    rw[hd] at he;rw[bG] at he ⊢
    by_cases hc:bT c=true
    ·rw[if_pos hc] at he ⊢
     simp only[iP] at he ⊢
     split
     ·exact .inl rfl
     ·rename_i Nj;rw[if_neg Nj] at he;exfalso;apply he;split<;>rfl
    ·rw[if_neg hc] at he ⊢
     by_cases hd:aJ c=true
     ·rw[if_pos hd] at he ⊢
      simp only[jc] at he ⊢
      split
      ·exact .inr rfl
      ·rename_i yU;rw[if_neg yU] at he;exact absurd rfl he
     ·rw[if_neg hd] at he ⊢
      rw[vZ] at he ⊢
      cases hs:l9 (c :: r) with
      | none=>exact .inl rfl
      | some x=>rw[hs] at he;exact absurd rfl he
  rw[if_neg he] at h
  by_cases h5:(bG (T.drop k)).1=5
  ·rw[if_pos h5] at h;cases h
  ·rw[if_neg h5] at h
   have hpos:=tK (T.drop k) (by omega) h5;have hlen:=tJ (T.drop k);rw[List.length_drop] at hlen;generalize bG (T.drop k)=t at h he h5 hpos hlen
   cases hr:nD n ((T.drop k).drop t.2.1) (p+k+t.2.1) with
   | ok r=>simp only[hr] at h;cases h
   | error x =>
    simp only[hr] at h
    injection h with h
    subst h;have:=BG n _ _ _ hr (by rw[List.length_drop,List.length_drop];omega);rw[List.length_drop,List.length_drop] at this;omega
theorem iy {S:List UInt8}{l:List Tok}(h:bH S=.ok l):Laid S 0 l:=by
 rw[bH] at h
 split at h
 ·cases h
 ·exact Fv _ _ _ _ h
theorem om {S:List UInt8}{e:Nat × Nat}(h:bH S=.error e):e.2≤S.length∧(e.1=20∨e.1=21∨e.1=11):=by
 rw[bH] at h
 split at h
 ·injection h with h;subst h;exact⟨Nat.zero_le _,.inr (.inr rfl)⟩
 ·have:=BG _ _ _ _ h (by omega);omega
structure Nd where
 kind:Int
 tok:Int
 kids:List Int
structure aB where
 nodes:List Nd
 used:Nat
 clause:Bool
 fE:Nat
 YL:Nat
def acf:Tok:=⟨0,[],[],0⟩
def bU (toks:List Tok)(u:Nat):Tok:=toks.getD (min u (toks.length - 1)) acf
def aV (toks:List Tok)(st:aB)(l:List (List UInt8)):Bool:=((bU toks st.used).kind == 2 || (bU toks st.used).kind == 4) && decide ((bU toks st.used).text∈l)
def gG (toks:List Tok)(e:Nat)(st:aB):aB:=if st.fE=0 then { st with fE:=e,YL:=(bU toks st.used).place } else st
def ay (toks:List Tok)(st:aB):Int × aB :=
 if st.used=toks.length then (-1,st) else ((st.nodes.length:Nat),{ st with nodes:=st.nodes++[⟨19,(st.used:Nat),[]⟩],used:=st.used+1 })
def EH (kind:Int)(kids:List Int)(st:aB):Int × aB :=
 if kids.any (fun k=>decide (k<0) || decide ((st.nodes.length:Int)≤k)) then (-1,st) else ((st.nodes.length:Nat),{ st with nodes:=st.nodes++[⟨kind,-1,kids⟩] })
def bg (kind:Int)(kids:List Int)(st:aB):Int × aB:=if st.fE=0 then EH kind kids st else (0,st)
def aA (toks:List Tok)(l:List (List UInt8))(st:aB):Int × aB:=if st.fE=0∧aV toks st l=true then ay toks st else (0,gG toks 22 st)
def aQ (toks:List Tok)(k:Nat)(st:aB):Int × aB:=if st.fE=0∧(bU toks st.used).kind=k then ay toks st else (0,gG toks 22 st)
def aN (toks:List Tok)(depth nest:Nat)(st:aB):aB:=if depth<nest then gG toks 23 st else st
def yV:Nat→List (List UInt8)
 | 0=>[[124,124]]
 | 1=>[[38,38]]
 | 2=>[[61],[60,62],[60],[60,61],[62],[62,61]]
 | 3=>[[43],[45]]
 | _=>[[42],[47],[37]]
def aU (toks:List Tok)(one:aB→Option (Int × aB)):Nat→List Int→aB→Option (List Int × aB)
 | 0,kids,st=>some (kids,if st.fE=0 then gG toks 15 st else st)
 | r+1,kids,st =>
  if st.fE≠0 then some (kids,st)
  else (one st).bind fun k =>
   if k.2.fE=0∧aV toks k.2 [[44]]=true then aU toks one r (kids++[k.1,(ay toks k.2).1]) (ay toks k.2).2
   else some (kids++[k.1],k.2)
def jq (toks:List Tok)(one:aB→Option (Int × aB))(st:aB):Option (List Int × aB) :=
 if aV toks st [[41]]=true then some ([],st) else aU toks one 8 [] st
inductive Task where
 | expr (nest:Nat)
 | formula (nest:Nat)
 | part (l nest:Nat)
 | row (l nest:Nat)
 | loop (l nest:Nat) (a:Int)
 | neg (nest:Nat)
 | factor (nest:Nat)
 | atom (nest:Nat)
 | name (nest:Nat)
def acg:List UInt8:=[108,101,116]
def tIf:List UInt8:=[105,102]
def Qs:List UInt8:=[97,115,115,101,114,116]
def UJ:List UInt8:=[105,110]
def Fw:List UInt8:=[116,104,101,110]
def Fx:List UInt8:=[101,108,115,101]
def Qt:List UInt8:=[116,114,117,101]
def Nu:List UInt8:=[102,97,108,115,101]
def YM:List UInt8:=[110,111,116]
def aaW:List UInt8:=[114,101,115]
def mh (toks:List Tok)(a:Int × aB):List Int × aB :=
 if aV toks a.2 [[46]]=true then ([a.1,(ay toks a.2).1,(aQ toks 1 (ay toks a.2).2).1],(aQ toks 1 (ay toks a.2).2).2) else ([a.1],a.2)
def run (toks:List Tok)(depth:Nat):Nat→Task→aB→Option (Int × aB)
 | 0,_,_=>none
 | g+1,.expr nest,st0 =>
  if (aN toks depth nest st0).fE≠0 then some (0,aN toks depth nest st0)
  else if (aN toks depth nest st0).clause=true then run toks depth g (.formula nest) (aN toks depth nest st0)
  else if aV toks (aN toks depth nest st0) [acg]=true then
   (run toks depth g (.expr (nest+1)) (aA toks [[61]] (aQ toks 1 (ay toks (aN toks depth nest st0)).2).2).2).bind fun d =>
    (run toks depth g (.expr (nest+1)) (aA toks [UJ] d.2).2).bind fun f =>
     some (bg 7 [(ay toks (aN toks depth nest st0)).1,(aQ toks 1 (ay toks (aN toks depth nest st0)).2).1,(aA toks [[61]] (aQ toks 1 (ay toks (aN toks depth nest st0)).2).2).1,d.1,(aA toks [UJ] d.2).1,f.1] f.2)
  else if aV toks (aN toks depth nest st0) [tIf]=true then
   (run toks depth g (.expr (nest+1)) (ay toks (aN toks depth nest st0)).2).bind fun b =>
    (run toks depth g (.expr (nest+1)) (aA toks [Fw] b.2).2).bind fun d =>
     (run toks depth g (.expr (nest+1)) (aA toks [Fx] d.2).2).bind fun f =>
      some (bg 8 [(ay toks (aN toks depth nest st0)).1,b.1,(aA toks [Fw] b.2).1,d.1,(aA toks [Fx] d.2).1,f.1] f.2)
  else if aV toks (aN toks depth nest st0) [Qs]=true then
   (run toks depth g (.expr (nest+1)) (ay toks (aN toks depth nest st0)).2).bind fun b =>
    (run toks depth g (.expr (nest+1)) (aA toks [UJ] b.2).2).bind fun d =>
     some (bg 9 [(ay toks (aN toks depth nest st0)).1,b.1,(aA toks [UJ] b.2).1,d.1] d.2)
  else run toks depth g (.formula nest) (aN toks depth nest st0)
 | g+1,.formula nest,st0 =>
  (run toks depth g (.row 0 nest) st0).bind fun a =>
   if a.2.fE=0∧aV toks a.2 [[61,62]]=true then
    if (aN toks depth (nest+1) (ay toks a.2).2).fE≠0 then some (0,aN toks depth (nest+1) (ay toks a.2).2)
    else (run toks depth g (.formula (nest+1)) (aN toks depth (nest+1) (ay toks a.2).2)).bind fun b=>some (bg 10 [a.1,(ay toks a.2).1,b.1] b.2)
   else some a
 | g+1,.part l nest,st=>if l=1 then run toks depth g (.neg nest) st else if l=4 then run toks depth g (.factor nest) st else run toks depth g (.row (l+1) nest) st
 | g+1,.row l nest,st=>(run toks depth g (.part l nest) st).bind fun a=>run toks depth g (.loop l nest a.1) a.2
 | g+1,.loop l nest a,st =>
  if st.fE=0∧aV toks st (yV l)=true then
   (run toks depth g (.part l nest) (ay toks st).2).bind fun b =>
    if l=2 then some (bg 10 [a,(ay toks st).1,b.1] b.2)
    else run toks depth g (.loop l nest (bg 10 [a,(ay toks st).1,b.1] b.2).1) (bg 10 [a,(ay toks st).1,b.1] b.2).2
  else some (a,st)
 | g+1,.neg nest,st =>
  if st.fE=0∧aV toks st [YM]=true then
   if (aN toks depth (nest+1) (ay toks st).2).fE≠0 then some (0,aN toks depth (nest+1) (ay toks st).2)
   else (run toks depth g (.neg (nest+1)) (aN toks depth (nest+1) (ay toks st).2)).bind fun b=>some (bg 11 [(ay toks st).1,b.1] b.2)
  else run toks depth g (.row 2 nest) st
 | g+1,.factor nest,st =>
  if st.fE=0∧aV toks st [[45]]=true then
   if (aN toks depth (nest+1) (ay toks st).2).fE≠0 then some (0,aN toks depth (nest+1) (ay toks st).2)
   else (run toks depth g (.factor (nest+1)) (aN toks depth (nest+1) (ay toks st).2)).bind fun b=>some (bg 11 [(ay toks st).1,b.1] b.2)
  else run toks depth g (.atom nest) st
 | g+1,.atom nest,st =>
  if st.fE≠0 then some (0,st)
  else if (bU toks st.used).kind=3 then some (bg 15 [(ay toks st).1] (ay toks st).2)
  else if aV toks st [Qt,Nu]=true then some (bg 16 [(ay toks st).1] (ay toks st).2)
  else if st.clause=true∧aV toks st [aaW]=true then some (bg 17 [(ay toks st).1] (ay toks st).2)
  else if aV toks st [[40]]=true then
   (run toks depth g (.expr (nest+1)) (ay toks st).2).bind fun b =>
    some (bg 12 [(ay toks st).1,b.1,(aA toks [[41]] b.2).1] (aA toks [[41]] b.2).2)
  else if (bU toks st.used).kind=1 then run toks depth g (.name nest) st
  else some (0,gG toks 22 st)
 | g+1,.name nest,st =>
  if (ay toks st).2.clause=true∨aV toks (ay toks st).2 [[46],[40]]=false then some (bg 14 [(ay toks st).1] (ay toks st).2)
  else
   (jq toks (fun s=>run toks depth g (.expr (nest+1)) s) (aA toks [[40]] (mh toks (ay toks st)).2).2).bind fun l =>
    some (bg 13 ((mh toks (ay toks st)).1++[(aA toks [[40]] (mh toks (ay toks st)).2).1]++l.1++[(aA toks [[41]] l.2).1]) (aA toks [[41]] l.2).2)
def startP:aB:=⟨[],0,false,0,0⟩
def aaX (toks:List Tok)(depth g:Nat):Option aB :=
 (run toks depth g (.expr 1) { startP with clause:=true }).bind fun a=>some (bg 18 [a.1,(aQ toks 5 a.2).1] (aQ toks 5 a.2).2).2
end Go.Proofs.YtknicmmigbhpcaaGreatDoor
