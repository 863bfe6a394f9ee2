/- Walks and plain laws: MapPlain, BagW1, BagW2, MapS1, MapCopy, MapS2, MapS3. -/
import Derived.Test.YtknicmmigbhpcaaGreatDoorF22
import Derived.Lib.OwnBridge
import Derived.Sort.OwnSorted
import Derived.Sort.Walk0
import Derived.Shelf.Spec.SlicesInsert
import Derived.Lib.AppendZerosOnto
import Derived.Laws.CopyOwn
set_option maxHeartbeats 16000000
set_option maxRecDepth 100000
set_option linter.unusedVariables false
set_option linter.unusedSimpArgs false
namespace Go.Proofs.YtknicmmigbhpcaaGreatDoor
open Go.RowKit
abbrev ML:=List (List UInt8 × List Value)
def pK (p:List UInt8 × List Value):List Value:=.string ⟨p.1.toArray⟩ :: p.2
def Za (l:ML):List Value:=l.flatMap pK
structure Iu (k:Nat) (l:ML):Prop where
 sorted:(l.map Prod.fst).Pairwise (· < ·)
 wid:∀ p∈l,p.2.length=k
 one:∀ p∈l,∀ u∈p.2,u.oneCell'=true
theorem Iu.nil (k:Nat):Iu k []:=⟨List.Pairwise.nil,(by intro p h;cases h),(by intro p h;cases h)⟩
def cO (l:ML)(x:List UInt8):Nat:=(l.takeWhile fun p=>decide (p.1<x)).length
def rA (l:ML)(x:List UInt8):Bool:=decide (x∈l.map Prod.fst)
def rV (l:ML)(x:List UInt8):Option (List Value):=(l.find? fun p=>decide (p.1=x)).map Prod.snd
def EB (l:ML)(x:List UInt8)(v:List Value):ML:=l.take (cO l x)++(x,v) :: l.drop (cO l x)
def Zb (l:ML)(x:List UInt8)(v:List Value):ML:=l.map fun p=>if p.1=x then (x,v) else p
def acW (l:ML)(x:List UInt8)(v:List Value):ML:=if rA l x=true then Zb l x v else EB l x v
theorem Gd (l:ML)(x:List UInt8):cO l x≤l.length:=(List.takeWhile_prefix (l:=l) _).length_le
theorem zy {x:List UInt8}:∀ {l:ML} {t:Nat} (h:t<l.length),t<cO l x→l[t].1<x
 | [],_,h,_=>absurd h (by simp)
 | p :: l,t,h,ht=>by
  unfold cO at ht;rw[List.takeWhile_cons] at ht
  split at ht
  ·rename_i hp
   cases t with
   | zero=>exact of_decide_eq_true hp
   | succ t =>
    rw[dX] at ht h;exact zy (Nat.lt_of_succ_lt_succ h) (show t<cO l x from Nat.lt_of_succ_lt_succ ht)
  ·simp at ht
theorem pq {x:List UInt8}:∀ {l:ML} (h:cO l x<l.length),¬ l[cO l x].1<x
 | [],h=>absurd h (by simp)
 | p :: l,h=>by
  by_cases hp:p.1<x
  ·have e:cO (p :: l) x=cO l x+1:=by unfold cO;rw[List.takeWhile_cons,if_pos (decide_eq_true hp)];rfl
   simp only[e,List.getElem_cons_succ];exact pq (by rw[e] at h;simpa using h)
  ·have e:cO (p :: l) x=0:=by unfold cO;rw[List.takeWhile_cons,if_neg (by simpa using hp)];rfl
   simp only[e,List.getElem_cons_zero];exact hp
theorem Iu.mono {k:Nat}{l:ML}(h:Iu k l){i j:Nat}(hij:i<j)(hj:j<l.length):l[i].1<l[j].1:=by
 have:=List.pairwise_iff_getElem.1 h.sorted i j (by simpa using Nat.lt_trans hij hj) (by simpa using hj) hij
 simpa using this
theorem vY {k:Nat}{l:ML}(h:Iu k l){x:List UInt8}{t:Nat}(ht:t<l.length):l[t].1<x↔t<cO l x:=by
 constructor
 ·intro hlt
  apply Classical.byContradiction
  intro q
  by_cases e:cO l x=t
  ·subst e;exact pq ht hlt
  ·have h1:cO l x<l.length:=by omega
   exact pq h1 (List.lt_trans (h.mono (by omega) ht) hlt)
 ·exact zy ht
theorem Dx {k:Nat}{l:ML}(h:Iu k l)(x:List UInt8):rA l x=decide (∃ hi:cO l x<l.length,l[cO l x].1=x):=by
 unfold rA
 congr 1
 apply propext
 constructor
 ·intro hm
  obtain⟨j,hj,e⟩:=List.getElem_of_mem hm;rw[List.length_map] at hj;rw[List.getElem_map] at e
  have h1:¬ l[j].1<x:=by rw[e];exact List.lt_irrefl _
  rw[vY h hj] at h1
  have h2:cO l x<l.length:=by omega
  refine⟨h2,?_⟩
  by_cases q:cO l x=j
  ·simp only[q];exact e
  ·have h3:=h.mono (show cO l x<j by omega) hj
   rw[e] at h3;exact absurd h3 (pq h2)
 ·rintro⟨hi,e⟩
  rw[← e];exact List.mem_map_of_mem (List.getElem_mem hi)
theorem Dy (l:ML)(x:List UInt8):(rV l x).isSome=rA l x:=by
 unfold rV rA;rw[Option.isSome_map]
 induction l with
 | nil=>rfl
 | cons p l ih =>
  rw[List.find?_cons,List.map_cons]
  by_cases e:p.1=x
  ·rw[decide_eq_true e,decide_eq_true (by rw[e];exact List.mem_cons_self)];rfl
  ·rw[decide_eq_false e]
   simp only[ih]
   apply decide_eq_decide.2
   constructor
   ·exact List.mem_cons_of_mem _
   ·intro q
    rcases List.mem_cons.1 q with q|q
    ·exact absurd q.symm e
    ·exact q
theorem Sb {l:ML}{x:List UInt8}(h:rA l x=false):rV l x=none:=by
 have:=Dy l x;rw[h] at this
 simpa using this
theorem Zc {k:Nat}{l:ML}(h:Iu k l){x:List UInt8}{i:Nat}(hi:i<l.length)(e:l[i].1=x):rV l x=some l[i].2:=by
 unfold rV
 have:l.find? (fun p=>decide (p.1=x))=some l[i]:=by
  rw[List.find?_eq_some_iff_getElem];refine⟨decide_eq_true e,i,hi,rfl,fun j hj=>?_⟩;have:=h.mono hj hi;rw[e] at this;simp only[Bool.not_eq_true',decide_eq_false_iff_not];intro q;rw[q] at this;exact List.lt_irrefl _ this
 rw[this];rfl
theorem Sc (l:ML)(x:List UInt8)(v:List Value):(EB l x v).map Prod.fst=(l.map Prod.fst).take (cO l x)++x :: (l.map Prod.fst).drop (cO l x):=by
 unfold EB;rw[List.map_append,List.map_cons,List.map_take,List.map_drop]
theorem Iu.ins {k:Nat}{l:ML}(h:Iu k l){x:List UInt8}{v:List Value}(hx:rA l x=false)(hv:v.length=k)(h1:∀ u∈v,u.oneCell'=true):Iu k (EB l x v):=by
 have hmem:∀ p∈EB l x v,p∈l∨p=(x,v):=fun p hp=>by
  unfold EB at hp
  rcases List.mem_append.1 hp with q|q
  ·exact .inl (List.mem_of_mem_take q)
  ·rcases List.mem_cons.1 q with q|q
   ·exact .inr q
   ·exact .inl (List.mem_of_mem_drop q)
 refine⟨?_,fun p hp=>?_,fun p hp=>?_⟩
 ·have hg:∀ j,(hj:j<l.length)→cO l x≤j→x<l[j].1:=fun j hj hij=>by
   have h1:¬ l[j].1<x:=by rw[vY h hj];omega
   rw[Ie];refine⟨List.not_lt.1 h1,fun q=>?_⟩
   have:x∈l.map Prod.fst:=by rw[q];exact List.mem_map_of_mem (List.getElem_mem hj)
   unfold rA at hx;exact of_decide_eq_false hx this
  rw[Sc,List.pairwise_append];refine⟨h.sorted.sublist (List.take_sublist _ _),List.pairwise_cons.2 ⟨fun y hy=>?_,h.sorted.sublist (List.drop_sublist _ _)⟩,fun y hy z hz=>?_⟩
  ·obtain⟨j,hj,rfl⟩:=List.getElem_of_mem hy
   rw[List.length_drop,List.length_map] at hj;rw[List.getElem_drop,List.getElem_map];exact hg _ (by omega) (by omega)
  ·obtain⟨j,hj,rfl⟩:=List.getElem_of_mem hy
   rw[List.length_take,List.length_map] at hj;rw[List.getElem_take,List.getElem_map];have hlt:l[j].1<x:=zy (by omega) (by omega)
   rcases List.mem_cons.1 hz with q|q
   ·rw[q];exact hlt
   ·obtain⟨m,hm,rfl⟩:=List.getElem_of_mem q
    rw[List.length_drop,List.length_map] at hm;rw[List.getElem_drop,List.getElem_map];exact List.lt_trans hlt (hg _ (by omega) (by omega))
 ·rcases hmem p hp with q|q
  ·exact h.wid p q
  ·rw[q];exact hv
 ·rcases hmem p hp with q|q
  ·exact h.one p q
  ·rw[q];exact h1
theorem Wv {l:ML}{x:List UInt8}(v:List Value)(hx:rA l x=false)(y:List UInt8):rV (EB l x v) y=if y=x then some v else rV l y:=by
 have hn:∀ p∈l,p.1≠x:=fun p hp q=>by
  unfold rA at hx;exact of_decide_eq_false hx (by rw[← q];exact List.mem_map_of_mem hp)
 have hl:l.find? (fun p=>decide (p.1=y))=((l.take (cO l x)).find? fun p=>decide (p.1=y)).or ((l.drop (cO l x)).find? fun p=>decide (p.1=y)):=by
  rw[← List.find?_append,List.take_append_drop]
 unfold rV EB;rw[List.find?_append,List.find?_cons,hl]
 by_cases e:y=x
 ·subst e
  rw[if_pos rfl,decide_eq_true rfl]
  have:(l.take (cO l y)).find? (fun p=>decide (p.1=y))=none:=List.find?_eq_none.2 fun p hp=>by simpa using hn p (List.mem_of_mem_take hp)
  rw[this]
  rfl
 ·rw[if_neg e,decide_eq_false (fun q=>e q.symm)]
theorem Sd (l:ML)(x:List UInt8)(v:List Value):(Zb l x v).map Prod.fst=l.map Prod.fst:=by
 unfold Zb;rw[List.map_map]
 refine List.map_congr_left fun p _=>?_
 simp only[Function.comp]
 split
 ·rename_i h;exact h.symm
 ·rfl
theorem Iu.set {k:Nat}{l:ML}(h:Iu k l)(x:List UInt8){v:List Value}(hv:v.length=k)(h1:∀ u∈v,u.oneCell'=true):Iu k (Zb l x v):=by
 refine⟨by rw[Sd];exact h.sorted,fun p hp=>?_,fun p hp=>?_⟩
 ·obtain⟨q,hq,rfl⟩:=List.mem_map.1 hp
  split
  ·exact hv
  ·exact h.wid q hq
 ·obtain⟨q,hq,rfl⟩:=List.mem_map.1 hp
  split
  ·exact h1
  ·exact h.one q hq
theorem Iu.put {k:Nat}{l:ML}(h:Iu k l)(x:List UInt8){v:List Value}(hv:v.length=k)(h1:∀ u∈v,u.oneCell'=true):Iu k (acW l x v):=by
 unfold acW
 split
 ·exact h.set x hv h1
 ·rename_i q;exact h.ins (by simpa using q) hv h1
theorem PK {k:Nat}:∀ {l:ML} (_:∀ p∈l,p.2.length=k) (i j:Nat) (hi:i<l.length),j<k+1→(Za l)[i * (k+1)+j]?=(pK l[i])[j]?
 | [],_,i,j,h,_=>absurd h (by simp)
 | p :: l,hw,0,j,_,hj=>by
  unfold Za;rw[List.flatMap_cons,Nat.zero_mul,Nat.zero_add,List.getElem?_append_left (by rw[pK,dX,hw p (by simp)];exact hj)]
  rfl
 | p :: l,hw,i+1,j,h,hj=>by
  have:=PK (l:=l) (fun q hq=>hw q (List.mem_cons_of_mem _ hq)) i j (by simpa using h) hj;unfold Za at this ⊢
  have hp:(pK p).length=k+1:=by rw[pK,dX,hw p (by simp)]
  rw[List.flatMap_cons,List.getElem?_append_right (by rw[hp,Nat.succ_mul];omega),hp,show (i+1) * (k+1)+j - (k+1)=i * (k+1)+j by rw[Nat.succ_mul];omega,this]
  rfl
end Go.Proofs.YtknicmmigbhpcaaGreatDoor

namespace Go.Proofs.YtknicmmigbhpcaaGreatDoor
open Go.RowKit Go Go.Sort
def bC (P:Nat→Prop)(w:World)(v:Value)(l:List (List UInt8)):Prop:=lS P w v 1 l.length (l.map encStr)∧∀ n c,v=.slice none n c→c=0
theorem bC.clip {P:Nat→Prop}{w:World}{ao:Option Addr}{n c:Nat}{l:List (List UInt8)}(h:bC P w (.slice ao n c) l):n=l.length∧bC P w (.slice ao l.length l.length) l:=by
 obtain⟨⟨Tf,cap,hv,h1,h2,h3⟩,h4⟩:=h;simp only[Value.slice.injEq] at hv;obtain⟨rfl,rfl,rfl⟩:=hv;refine⟨rfl,⟨ao,l.length,rfl,Nat.le_refl _,h2,h3⟩,fun n' c' q=>?_⟩;simp only[Value.slice.injEq] at q;obtain⟨q1,-,rfl⟩:=q
 rcases Nat.eq_zero_or_pos l.length with q|q
 ·exact q
 ·obtain⟨b,off,q2,_⟩:=h3 (by simpa using q)
  rw[q1] at q2;cases q2
theorem bC.slice {P:Nat→Prop}{w:World}{v:Value}{l:List (List UInt8)}(h:bC P w v l):∃ ao cap,v=.slice ao l.length cap∧l.length≤cap∧(0<l.length→∃ b off,ao=some ⟨b,off,none⟩∧P b∧b<w.heap.size∧∀ i,(hi:i<l.length)→w.cell? ⟨b,off+i,none⟩=some (.string ⟨l[i].toArray⟩)):=by
 obtain⟨ao,cap,hv,h1,h2,h3⟩:=h.1;refine⟨ao,cap,hv,h1,fun h0=>?_⟩;obtain⟨b,off,q1,q2,q3,q4⟩:=h3 (by simpa using h0);refine⟨b,off,q1,q2,q3,fun i hi=>?_⟩;have:=q4 i (by simpa using hi);simp only[List.getElem_map] at this;exact this
theorem bC.frame {P:Nat→Prop}{w w':World}{v:Value}{l:List (List UInt8)}(h:bC P w v l)(ha:aQ P w w'):bC P w' v l:=⟨lS.frame h.1 ha,h.2⟩
theorem bC.imp {P Q:Nat→Prop}{w:World}{v:Value}{l:List (List UInt8)}(h:bC P w v l)(hq:∀ b,P b→b<w.heap.size→Q b):bC Q w v l:=⟨lS.imp h.1 hq,h.2⟩
theorem bC.below {P:Nat→Prop}{w w':World}{v:Value}{l:List (List UInt8)}(h:bC P w v l)(hb:Below w.heap.size w w'):bC P w' v l:=h.frame (aQ.of hb)
theorem bC.nil (P:Nat→Prop)(w:World):bC P w (.slice none 0 0) []:=⟨lS.nil P w 1,fun n c q=>by injection q with _ _ q;exact q.symm⟩
theorem bC.owns {P:Nat→Prop}{B:Nat}{w:World}{e:TypeId}{v:Value}{l:List (List UInt8)}(h:w.ownsRow B e 1 v l.length (l.map encStr))(hP:∀ b,B≤b→P b):bC P w v l:=by
 refine⟨lS.fF h hP,fun n c q=>?_⟩
 rcases h.2 with ⟨h3,_⟩|⟨g,cap,cur,h3,_⟩
 ·rw[q] at h3;injection h3
 ·rw[q] at h3;injection h3 with h3;cases h3
def Od (l:List (List UInt8))(w:World)(e:Ending)(w':World):Prop:=∃ v',e=.returned v'∧w'.ownsRow w.heap.size 9 1 v' l.length (l.map encStr)∧Below w.heap.size w w'
theorem Dz (P:Nat→Prop)(v:Value)(l:List (List UInt8))(w:World)(h:bC P w v l)(hl:l.length≤1000000):Calls Tryz.prog 153 #[v] w (Od l w):=by
 obtain⟨ao,cap,rfl,hcap,hc⟩:=h.slice
 rcases Nat.eq_zero_or_pos l.length with h0|h0
 ·obtain rfl:=List.eq_nil_of_length_eq_zero h0
  cases ao with
  | none=>exact(Tryz.slices_Clone_string_nil 0 cap w).mono fun e w' q=>⟨_,q.1,World.ownsRow_nil _ _ _ _,by rw[q.2];exact Below.refl _ _⟩
  | some a=>exact(Tryz.slices_Clone_string_zero a cap w).mono fun e w' ⟨v',q1,q2,_,q3⟩=>⟨v',q1,q2,q3⟩
 ·obtain⟨b,off,rfl,_,_,hcell⟩:=hc h0
  refine(Tryz.slices_Clone_string b off l.length cap (l.map fun s=>⟨s.toArray⟩) w (by simp) (by omega) (fun j hj=>?_)).mono fun e w' ⟨v',q1,q2,_,q3⟩=>⟨v',q1,?_,q3⟩
  ·have hj':j<l.length:=by simpa using hj
   rw[hcell j hj'];simp[List.getD_eq_getElem?_getD,hj']
  ·rw[List.take_of_length_le (by simp),List.map_map] at q2
   exact q2
theorem KX (a:Option Addr)(n c:Nat)(w:World)(h:n≤c)(hc:c≤9223372036854775807)(h0:a=none→n=0):Calls Tryz.prog 155 #[.slice a n c] w fun e w'=>e=.returned (.slice a n n)∧w'=w:=by
 have h1:(n:Int)≤(c:Int):=by omega
 have h2:(0:Int)≤(n:Int):=by omega
 cases a with
 | none =>
  obtain rfl:=h0 rfl;clear h0;go_enter Tryz.func155,Tryz.ntmps155;go_wp2;go_ret;exact⟨rfl,rfl⟩
 | some a =>
  clear h0;go_enter Tryz.func155,Tryz.ntmps155;go_wp2;go_ret;exact⟨rfl,rfl⟩
def nG (l:List (List UInt8))(w:World)(e:Ending)(w':World):Prop:=∃ ao c,e=.returned (.agg #[.slice ao l.length c])∧bC (fun b=>w.heap.size≤b) w' (.slice ao l.length c) l∧Below w.heap.size w w'
theorem Ww {w w1:World}{B g cap n nn q:Nat}{os:Array Obj}{ss:List (List UInt8)}(hown:w1.ownsRow B 9 1 (.slice (some ⟨g,0,none⟩) n cap) n (ss.map encStr))(hbel:Below B w w1)(hbg:B≤g)(hBw:B≤w.heap.size)(hlen:ss.length=n) :
  (putRow encStr (Sort.ahead (grow (putRow encStr (Sort.ahead w1 nn) g 0 (fD ss).toArray) os) q) g 0 (Lib.compact (fD ss)++List.replicate (n - (Lib.compact (fD ss)).length) []).toArray).ownsRow B 9 1 (.slice (some ⟨g,0,none⟩) (bF ss).length cap) (bF ss).length ((bF ss).map encStr) ∧
  Below B w (putRow encStr (Sort.ahead (grow (putRow encStr (Sort.ahead w1 nn) g 0 (fD ss).toArray) os) q) g 0 (Lib.compact (fD ss)++List.replicate (n - (Lib.compact (fD ss)).length) []).toArray):=by
 have hl2:(fD ss).length=ss.length:=nM ss;have hle:=Lib.compact_length_le (fD ss);subst hlen
 rcases hown.2 with ⟨h0,_⟩|⟨g',cap',cur,hv,hbase,hb,h1,h2,h3,h4⟩
 ·cases h0
 cases hv;have hs:=ownsRow_sorted (n:=nn) (os:=os) (ts:=fD ss) hl2 hbase hb h1 h2 h3;have hc:=Lib.ownsRow_putRow (q:=q) (k:=(Lib.compact (fD ss)).length) (ys:=Lib.compact (fD ss)++List.replicate (ss.length - (Lib.compact (fD ss)).length) []) hs (by simp;omega) (by omega);rw[List.take_left] at hc;exact⟨hc,Lib.below_putRow (hbel.grown (grownBy_sorted _) (Nat.le_trans hBw hbel.size) (fun j hj=>by cases hj;exact hbase)) hbg⟩
theorem Iw (P:Nat→Prop)(v:Value)(l:List (List UInt8))(w:World)(h:bC P w v l)(hl:l.length≤1000000):Calls Tryz.prog 93 #[v] w (nG (bF l) w):=by
 have hal:=aj w (.cells #[.slice none 0 0] 114);have hN:=heap_alloc_new w (.cells #[.slice none 0 0] 114);have HC:=ah (fun W (hW:Below w.heap.size w W)=>Dz P v l W (h.below hW) hl);clear h;go_enter Tryz.func93,Tryz.ntmps93
 go_upto_region 1 with fail
 change Code.wp _ _ _ _ (w.alloc (.cells #[.slice none 0 0] 114));generalize w.alloc _=w1 at hal hN ⊢;have hl1:=(bG hN).1
 go_upto_region 2 with (go_at_call 153;refine(HC.out _ hal).mono ?_;rintro e w2 ⟨v',rfl,hown,hb2⟩)
 have hz1:=hal.size;have hz2:=hb2.size;have LV:=(hb2.block w.heap.size hl1).trans hN
 by_cases hv:v'=.slice none 0 0
 ·subst hv
  have hl0:l=[]:=by
   rcases hown.2 with ⟨_,q⟩|⟨g,cap,cur,hv,_⟩
   ·exact List.eq_nil_of_length_eq_zero q
   ·cases hv
  subst hl0
  have hfz:w2.frozen? ⟨w.heap.size,0,none⟩=false:=by simp[World.frozen?,LV]
  have hc0:w2.cell? ⟨w.heap.size,0,none⟩=some (.slice none 0 0):=by rw[Lib.cell_of_heap LV];rfl
  have hbw:Below w.heap.size w (w2.setCell ⟨w.heap.size,0,none⟩ (.slice none 0 0)):=(hal.trans (hb2.mono hz1)).setCell (Nat.le_refl _) _
  have hs0:(w2.setCell ⟨w.heap.size,0,none⟩ (.slice none 0 0)).cell? ⟨w.heap.size,0,none⟩=some (.slice none 0 0):=by
   have:=heap_setCell_same w2 w.heap.size 0 _ _ (.slice none 0 0) LV;rw[Lib.cell_of_heap this];rfl
  clear hN LV hown HC hal hb2;go_wp2_with (first|(go_at_call 154;refine(Tryz.slices_Sort_string_none none 0 _).mono ?_;rintro e w' ⟨rfl,rfl⟩)|(go_at_call 156;refine(Tryz.slices_Compact_string_empty none 0 _).mono ?_;rintro e w' ⟨rfl,rfl⟩)|(go_at_call 155;refine(KX none 0 0 _ (by omega) (by omega) (fun _=>rfl)).mono ?_;rintro e w' ⟨rfl,rfl⟩));refine bodyPost_ret (v:=.agg #[.slice none 0 0]) (by simp[results,Tryz.results93,go_sem,hs0]) rfl ⟨none,0,by rw[KH];rfl,by rw[KH];exact bC.nil _ _,hbw⟩
 ·obtain⟨g,cap,rfl,hbg,hgl,ae3,hcm,hlen,hH⟩:=Lib.holds_of_ownsRow hown hv
  have hlen':l.length=l.length:=rfl;have HS:=ah (Tryz.slices_Sort_string g 0 cap l w2 hH hgl (by omega))
  have HCP:Hid (∀ nn os,Calls Tryz.prog 156 #[.slice (some ⟨g,0,none⟩) l.length cap] (grow (putRow encStr (Sort.ahead w2 nn) g 0 (fD l).toArray) os) fun e w'=>e=.returned (.slice (some ⟨g,0,none⟩) (bF l).length cap)∧∃ q,w'=putRow encStr (Sort.ahead (grow (putRow encStr (Sort.ahead w2 nn) g 0 (fD l).toArray) os) q) g 0 (Lib.compact (fD l)++List.replicate (l.length - (Lib.compact (fD l)).length) []).toArray):=ah fun nn os=>by
   have hH2:Holds encStr (grow (putRow encStr (Sort.ahead w2 nn) g 0 (fD l).toArray) os) g 0 (fD l).toArray :=
    holds_grow encStr _ os g 0 _ (by simpa [putRow,mapBlock,Sort.ahead] using hgl) (holds_putRow encStr _ g 0 _ _ (holds_ahead encStr w2 nn g 0 _ hH) (by simp[nM]))
   have:=Tryz.slices_Compact_string g 0 cap (fD l) _ hH2 (by rw[nM];omega) (by rw[nM];omega);rw[nM] at this;exact this
  have hsl:=kY l
  have hcp:cap≤9223372036854775807:=by unfold maxLen at hcm;omega
  have HOWN:=ah hown;have hN1:=hN;clear hown hH HC hN LV hv
  go_upto_region 3 with (go_at_call 154;refine HS.out.mono ?_;rintro e w3 ⟨rfl,nn,os,rfl⟩)
  have Ee:=ah (HCP.out nn os)
  have HF:Hid (∀ q,(putRow encStr (Sort.ahead (grow (putRow encStr (Sort.ahead w2 nn) g 0 (fD l).toArray) os) q) g 0 (Lib.compact (fD l)++List.replicate (l.length - (Lib.compact (fD l)).length) []).toArray).ownsRow w1.heap.size 9 1 (.slice (some ⟨g,0,none⟩) (bF l).length cap) (bF l).length ((bF l).map encStr)∧Below w1.heap.size w1 (putRow encStr (Sort.ahead (grow (putRow encStr (Sort.ahead w2 nn) g 0 (fD l).toArray) os) q) g 0 (Lib.compact (fD l)++List.replicate (l.length - (Lib.compact (fD l)).length) []).toArray)):=ah fun q=>Ww (nn:=nn) (q:=q) (os:=os) HOWN.out hb2 hbg (Nat.le_refl _) rfl
  clear HCP HS;change Code.wp _ _ _ _ (grow (putRow encStr (Sort.ahead w2 nn) g 0 (fD l).toArray) os);generalize grow (putRow encStr (Sort.ahead w2 nn) g 0 (fD l).toArray) os=w3 at Ee HF ⊢;have Tj:=ah (fun W=>KX (some ⟨g,0,none⟩) (bF l).length cap W (by omega) hcp (fun q=>by cases q));go_wp2_with (first|(go_at_call 156;refine Ee.out.mono ?_;rintro e w4 ⟨rfl,q,rfl⟩;have hF:=HF.out q;clear Ee HF;generalize putRow encStr _ _ _ _=w4 at hF ⊢;have Vb:=(hF.2.block w.heap.size hl1).trans hN1;have hfz:w4.frozen? ⟨w.heap.size,0,none⟩=false:=(by simp[World.frozen?,Vb]);have hc0:w4.cell? ⟨w.heap.size,0,none⟩=some (.slice none 0 0):=(by rw[Lib.cell_of_heap Vb];rfl))|(go_at_call 155;refine(Tj.out _).mono ?_;rintro e w' ⟨rfl,rfl⟩))
  have hs0:(w'.setCell ⟨w.heap.size,0,none⟩ (.slice (some ⟨g,0,none⟩) (bF l).length (bF l).length)).cell? ⟨w.heap.size,0,none⟩=some (.slice (some ⟨g,0,none⟩) (bF l).length (bF l).length):=by
   have:=heap_setCell_same w' w.heap.size 0 _ _ (.slice (some ⟨g,0,none⟩) (bF l).length (bF l).length) Vb;rw[Lib.cell_of_heap this];rfl
  have hbw:Below w.heap.size w (w'.setCell ⟨w.heap.size,0,none⟩ (.slice (some ⟨g,0,none⟩) (bF l).length (bF l).length)):=(hal.trans (hF.2.mono hz1)).setCell (Nat.le_refl _) _;have htx:bC (fun b=>w1.heap.size≤b) w' (.slice (some ⟨g,0,none⟩) (bF l).length cap) (bF l):=bC.owns hF.1 (fun _ hb=>hb)
  have Oe:bC (fun b=>w.heap.size≤b) (w'.setCell ⟨w.heap.size,0,none⟩ (.slice (some ⟨g,0,none⟩) (bF l).length (bF l).length)) (.slice (some ⟨g,0,none⟩) (bF l).length (bF l).length) (bF l):=(htx.clip.2.frame (aQ.set _ fun b hb=>by show b≠w.heap.size;omega)).imp fun b hb _=>by omega
  exact bodyPost_ret (v:=.agg #[.slice (some ⟨g,0,none⟩) (bF l).length (bF l).length]) (by simp[results,Tryz.results93,go_sem,hs0]) rfl ⟨_,_,rfl,Oe,hbw⟩
def Aa (l:List (List UInt8))(x:ByteArray)(j:Nat):ByteArray:=if h:j<l.length then ⟨l[j].toArray⟩ else x
theorem vZ (l:List (List UInt8))(x:ByteArray)(j:Nat):(Aa l x j).data.toList=if h:j<l.length then l[j] else x.data.toList:=by
 unfold Aa
 split<;>rfl
theorem Zd (l:List (List UInt8))(x:List UInt8):∀ t,t<(l.takeWhile fun y=>decide (y<x)).length→∀ (h:t<l.length),l[t]<x:=fun t ht h2=>by
 have h1:(l.takeWhile fun y=>decide (y<x))[t]=l[t]:=List.IsPrefix.getElem (List.takeWhile_prefix _) ht;have h3:=List.all_takeWhile (l:=l) (p:=fun y=>decide (y<x));have h4:=List.all_eq_true.1 h3 _ (List.getElem_mem ht);rw[h1] at h4
 simpa using h4
theorem Gf (x:List UInt8):∀ (l:List (List UInt8)) (h:(l.takeWhile fun y=>decide (y<x)).length<l.length),¬ l[(l.takeWhile fun y=>decide (y<x)).length]<x
 | [],h=>absurd h (by simp)
 | y :: l,h=>by
  by_cases q:y<x
  ·have e:((y :: l).takeWhile fun y=>decide (y<x))=y :: (l.takeWhile fun y=>decide (y<x)):=List.takeWhile_cons_of_pos (by simpa using q)
   have h2:(l.takeWhile fun y=>decide (y<x)).length<l.length:=by
    rw[e] at h
    simpa using h
   have ih:=Gf x l h2
   have:∀ n,(hn:n<(y :: l).length)→n=(l.takeWhile fun y=>decide (y<x)).length+1→¬ (y :: l)[n]<x:=by
    rintro n hn rfl;exact ih
   exact this _ h (by rw[e];rfl)
  ·have e:((y :: l).takeWhile fun y=>decide (y<x))=[]:=List.takeWhile_cons_of_neg (by simpa using q)
   have:∀ n,(hn:n<(y :: l).length)→n=0→¬ (y :: l)[n]<x:=by
    rintro n hn rfl;exact q
   exact this _ h (by rw[e];rfl)
theorem Og (l:List (List UInt8))(x:ByteArray)(hl:l.Pairwise (· < ·)):decide (Lib.bsGo (fun t=>Op.bytesLess (Aa l x t).toList x.toList) l.length 0 l.length<l.length∧Aa l x (Lib.bsGo (fun t=>Op.bytesLess (Aa l x t).toList x.toList) l.length 0 l.length)=x)=decide (x.data.toList∈l):=by
 simp only[Lib.toList_data,Go.Proofs.bytesLess_eq,vZ];have hA:=Zd l x.data.toList;have hB:=Gf x.data.toList l;have hC:=(List.takeWhile_prefix (l:=l) (fun y=>decide (y<x.data.toList))).length_le;generalize (l.takeWhile fun y=>decide (y<x.data.toList)).length=k at hA hB hC
 have hk:=Lib.bsGo_spec (fun t=>decide ((if h:t<l.length then l[t] else x.data.toList)<x.data.toList)) k (fun t ht=>by
   have htl:t<l.length:=by omega
   rw[dif_pos htl]
   exact decide_eq_true (hA t ht htl)) (fun t ht=>by
   by_cases htl:t<l.length
   ·rw[dif_pos htl]
    refine decide_eq_false fun q=>?_
    by_cases e:t=k
    ·subst e;exact hB htl q
    ·exact hB (by omega) (List.lt_trans (List.pairwise_iff_getElem.1 hl k t (by omega) htl (by omega)) q)
   ·rw[dif_neg htl]
    exact decide_eq_false (List.lt_irrefl _)) l.length 0 l.length (by omega) (by omega) hC
 rw[hk]
 congr 1
 apply propext
 constructor
 ·rintro⟨h1,h2⟩
  have h3:=congrArg (fun b:ByteArray=>b.data.toList) h2;simp only[vZ] at h3;rw[dif_pos h1] at h3;rw[← h3];exact List.getElem_mem h1
 ·intro h
  obtain⟨j,hj,e⟩:=List.getElem_of_mem h
  have hjk:k≤j:=by
   apply Classical.byContradiction
   intro q;have:=hA j (by omega) hj;rw[e] at this;exact List.lt_irrefl _ this
  have hkj:k=j:=by
   apply Classical.byContradiction
   intro q;refine hB (by omega) ?_;rw[← e];exact List.pairwise_iff_getElem.1 hl k j (by omega) hj (by omega)
  subst hkj;refine⟨hj,pW ?_⟩;rw[vZ,dif_pos hj,e]
def Wx (l:List (List UInt8))(x:ByteArray)(w:World)(e:Ending)(w':World):Prop:=(∃ i:Int,e=.returned (.tuple #[.int .i64 i,.bool (decide (x.data.toList∈l))]))∧Below w.heap.size w w'
theorem Wy (P:Nat→Prop)(ao:Option Addr)(c:Nat)(l:List (List UInt8))(x:ByteArray)(w:World)(h:bC P w (.slice ao l.length c) l)(hr:l.Pairwise (· < ·))(hn:l.length≤1000000):Calls Tryz.prog 92 #[.slice ao l.length c,.string x] w (Wx l x w):=by
 obtain⟨Tf,cap,hv,hcap,hc⟩:=h.slice;simp only[Value.slice.injEq] at hv;obtain⟨rfl,-,rfl⟩:=hv
 rcases Nat.eq_zero_or_pos l.length with h0|h0
 ·obtain rfl:=List.eq_nil_of_length_eq_zero h0
  refine(Any2.slices_BinarySearch_string_empty Tryz.A8 ao c x w).mono fun e w' q=>⟨⟨0,by rw[q.1];simp⟩,by rw[q.2];exact Below.refl _ _⟩
 ·obtain⟨b,off,rfl,_,_,hcell⟩:=hc h0
  refine(Any2.slices_BinarySearch_string Tryz.A8 b off l.length c (Aa l x) x w (by omega) (fun j hj=>by rw[hcell j hj,Aa,dif_pos hj])).mono fun e w' ⟨q1,n,q2⟩=>⟨⟨(Lib.bsGo (fun t=>Op.bytesLess (Aa l x t).toList x.toList) l.length 0 l.length:Nat),by rw[q1,Og l x hr]⟩,by rw[q2];exact⟨rfl,rfl,rfl,Nat.le_refl _,fun _ _=>rfl⟩⟩
theorem aH {w:World}{b:Nat}{v:Value}(h:w.heap[b]?=some (.cells #[v] 114 (0,0))):w.cell? ⟨b,0,none⟩=some v∧w.frozen? ⟨b,0,none⟩=false:=⟨by rw[Lib.cell_of_heap h];rfl,by simp[World.frozen?,h]⟩
def Iy (l:List (List UInt8))(w:World)(e:Ending)(w':World):Prop:=∃ ao c,e=.returned (.slice ao l.length c)∧bC (fun b=>w.heap.size≤b) w' (.slice ao l.length c) l∧Below w.heap.size w w'
theorem Od.tx {l:List (List UInt8)}{w w':World}{e:Ending}(h:Od l w e w'):Iy l w e w':=by
 obtain⟨v',h1,h2,h3⟩:=h;have h4:bC (fun b=>w.heap.size≤b) w' v' l:=bC.owns h2 (fun _ hb=>hb);obtain⟨ao,cap,rfl,_,_⟩:=h4.slice;exact⟨ao,cap,h1,h4,h3⟩
theorem Gg (P:Nat→Prop)(ao:Option Addr)(c:Nat)(l:List (List UInt8))(w:World)(h:bC P w (.slice ao l.length c) l)(hl:l.length≤1000000):Calls Tryz.prog 160 #[.agg #[.slice ao l.length c]] w (Iy l w):=by
 have hal:=aj w (.cells #[.slice ao l.length c] 114);have hN:=heap_alloc_new w (.cells #[.slice ao l.length c] 114);have HC:=ah (fun W (hW:Below w.heap.size w W)=>(Dz P _ l W (h.below hW) hl).mono fun _ _ q=>q.tx);clear h;go_enter Tryz.func160,Tryz.ntmps160
 go_upto_region 1 with fail
 change Code.wp _ _ _ _ (w.alloc (.cells #[.slice ao l.length c] 114));generalize w.alloc _=w1 at hal hN ⊢;have c0:=(aH hN).1;go_wp2_with (go_at_call 153;refine(HC.out _ hal).mono ?_;rintro e w2 ⟨Tf,c',rfl,htx,hb2⟩);go_ret;exact⟨Tf,c',rfl,htx.imp fun b hb _=>Nat.le_trans hal.size hb,hal.trans (hb2.mono hal.size)⟩
theorem xZ (P:Nat→Prop)(ao:Option Addr)(c:Nat)(l:List (List UInt8))(x:ByteArray)(w:World)(h:bC P w (.slice ao l.length c) l)(hr:l.Pairwise (· < ·))(hl:l.length≤1000000):Calls Tryz.prog 60 #[.agg #[.slice ao l.length c],.string x] w fun e w'=>e=.returned (.bool (decide (x.data.toList∈l)))∧Below w.heap.size w w':=by
 have hal:=aj w (.cells #[.slice ao l.length c] 114);have hN:=heap_alloc_new w (.cells #[.slice ao l.length c] 114);have HC:=ah (fun W (hW:Below w.heap.size w W)=>Wy P ao c l x W (h.below hW) hr hl);clear h hr;unfold Wx at HC;generalize decide (x.data.toList∈l)=r at *;go_enter Tryz.func60,Tryz.ntmps60
 go_upto_region 1 with fail
 change Code.wp _ _ _ _ (w.alloc (.cells #[.slice ao l.length c] 114));generalize w.alloc _=w1 at hal hN ⊢;have c0:=(aH hN).1;go_wp2_with (go_at_call 92;refine(HC.out _ hal).mono ?_;rintro e w2 ⟨⟨i,rfl⟩,hb2⟩);go_ret;exact⟨rfl,hal.trans (hb2.mono hal.size)⟩
end Go.Proofs.YtknicmmigbhpcaaGreatDoor

namespace Go.Proofs.YtknicmmigbhpcaaGreatDoor
open Go.RowKit Go
def zA (a b:List UInt8):Int:=if a<b then -1 else if b<a then 1 else 0
theorem Ze {a b:List UInt8}(h:a<b):zA a b=-1:=by unfold zA;rw[if_pos h]
theorem Zf {a b:List UInt8}(h:¬ a<b):0≤zA a b:=by
 unfold zA;rw[if_neg h]
 split<;>omega
theorem Zg {a b:List UInt8}(h:¬ a<b):decide (zA a b=0)=decide (a=b):=by
 unfold zA;rw[if_neg h]
 split
 ·rename_i h2
  rw[decide_eq_false (by omega),decide_eq_false (fun q=>by subst q;exact List.lt_irrefl _ h2)]
 ·rename_i h2
  rw[decide_eq_true rfl,decide_eq_true (nD (List.not_lt.1 h2) (List.not_lt.1 h))]
theorem Iz (x:ByteArray)(w:World):Calls Tryz.prog 217 #[.string x] w fun e w'=>e=.returned (.bool false)∧w'=w:=by
 go_enter Tryz.func217,Tryz.ntmps217;go_wp2;go_ret;exact⟨by simp,rfl⟩
theorem KY (x y:ByteArray)(w:World):Calls Tryz.prog 139 #[.string x,.string y] w fun e w'=>e=.returned (.int .i64 (zA x.data.toList y.data.toList))∧w'=w:=by
 have h1:Op.bytesLess x.toList y.toList=decide (x.data.toList<y.data.toList):=by simp only[Lib.toList_data,Go.Proofs.bytesLess_eq]
 have h2:Op.bytesLess y.toList x.toList=decide (y.data.toList<x.data.toList):=by simp only[Lib.toList_data,Go.Proofs.bytesLess_eq]
 unfold zA
 by_cases a:x.data.toList<y.data.toList
 ·rw[if_pos a]
  rw[decide_eq_true a] at h1;clear h2 a;go_enter Tryz.func139,Tryz.ntmps139;go_wp2_with (go_at_call 217;refine(Iz _ _).mono ?_;rintro e w' ⟨rfl,rfl⟩);go_ret;exact⟨rfl,rfl⟩
 ·rw[if_neg a]
  rw[decide_eq_false a] at h1
  have h3:(x.toList == y.toList)=decide (x.data.toList=y.data.toList):=by rw[Bool.eq_iff_iff];simp only[Lib.toList_data,beq_iff_eq,decide_eq_true_eq]
  by_cases b:y.data.toList<x.data.toList
  ·rw[if_pos b]
   rw[decide_eq_false (fun q=>by rw[q] at b;exact List.lt_irrefl _ b)] at h3;clear a b h2;go_enter Tryz.func139,Tryz.ntmps139;go_wp2_with (go_at_call 217;refine(Iz _ _).mono ?_;rintro e w' ⟨rfl,rfl⟩);go_ret;exact⟨rfl,rfl⟩
  ·rw[if_neg b]
   rw[decide_eq_true (nD (List.not_lt.1 b) (List.not_lt.1 a))] at h3;clear a b h2;go_enter Tryz.func139,Tryz.ntmps139;go_wp2_with (go_at_call 217;refine(Iz _ _).mono ?_;rintro e w' ⟨rfl,rfl⟩);go_ret;exact⟨rfl,rfl⟩
theorem abh {l:List Value}(h:l.length=4):∃ a b c d,l=[a,b,c,d]:=by
 match l,h with
 | [a,b,c,d],_=>exact⟨a,b,c,d,rfl⟩
theorem KZ {w:World}{b:Nat}{v0 v1 v2 v3 v4:Value}(h:w.heap[b]?=some (.cells #[v0,v1,v2,v3,v4] 170 (0,0))):w.cell? ⟨b,0,none⟩=some v0:=by rw[Lib.cell_of_heap h];rfl
theorem Tryz.Oh:∀ args w,(callFunc 138 args).run Tryz.prog w=.ok (.enter 138 args) w:=Go.Proofs.enters_of Tryz.func138 (by kernel_rfl) rfl
theorem La (k x:List UInt8)(v1 v2 v3 v4:Value)(w:World) :
  Calls Tryz.prog 138 (#[.agg #[.string ⟨k.toArray⟩,v1,v2,v3,v4],.string ⟨x.toArray⟩]++#[]) w fun e w'=>e=.returned (.int .i64 (zA k x))∧Below w.heap.size w w':=by
 have hal:=aj w (.cells #[.string ⟨k.toArray⟩,v1,v2,v3,v4] 170);have hN:=heap_alloc_new w (.cells #[.string ⟨k.toArray⟩,v1,v2,v3,v4] 170);have HC:=ah (fun W=>KY ⟨k.toArray⟩ ⟨x.toArray⟩ W);simp only at HC;show Calls Tryz.prog 138 #[.agg #[.string ⟨k.toArray⟩,v1,v2,v3,v4],.string ⟨x.toArray⟩] w _;generalize zA k x=c at *;go_enter Tryz.func138,Tryz.ntmps138
 go_upto_region 1 with fail
 change Code.wp _ _ _ _ (w.alloc (.cells #[.string ⟨k.toArray⟩,v1,v2,v3,v4] 170));generalize w.alloc _=w1 at hal hN ⊢;have c0:=KZ hN;go_wp2_with (go_at_call 139;refine(HC.out _).mono ?_;rintro e w2 ⟨rfl,rfl⟩);go_ret;exact⟨rfl,hal⟩
def Wz (w:World)(b off:Nat)(l:ML):Prop:=∀ i,(hi:i<l.length)→∀ j u,(pK l[i])[j]?=some u→w.cell? ⟨b,off+i * 5+j,none⟩=some u
theorem Wz.below {w w':World}{b off:Nat}{l:ML}(h:Wz w b off l)(hb:Below w.heap.size w w'):Wz w' b off l:=fun i hi j u hu=>cell_later hb (h i hi j u hu)
theorem Lb (ao:Option Addr)(cap:Nat)(l:ML)(x:List UInt8)(w:World)(hw:Iu 4 l)(h:0<l.length→∃ b off,ao=some ⟨b,off,none⟩∧Wz w b off l)(hn:l.length≤1000000) :
  Calls Tryz.prog 137 #[.slice ao l.length cap,.string ⟨x.toArray⟩,.func (.func 138) #[] #[]] w
   fun e w'=>e=.returned (.tuple #[.int .i64 (cO l x:Nat),.bool (rA l x)])∧Below w.heap.size w w':=by
 have HW:=ah hw;have HR:=ah h;have hpl:=Gd l x;have HH:=ah (Dx hw x);have HI:=ah (fun t (ht:t<l.length)=>vY hw (x:=x) ht);generalize hp:cO l x=p at *;have HP:=ah hp;generalize rA l x=hs at *;have eg:=Tryz.Oh;clear hw h hp;go_enter Tryz.func137,Tryz.ntmps137;go_wp2
 go_loopw [9,10] (fun s9 s10 wr=>∃ lo hi:Nat,s9=.int .i64 lo∧s10=.int .i64 hi∧lo≤p∧p≤hi∧hi≤l.length∧Below w.heap.size w wr) (fun s9 s10 _=>(intOf s10).toNat - (intOf s9).toNat)
 case atStart=>exact⟨0,l.length,rfl,rfl,Nat.zero_le _,hpl,Nat.le_refl _,Below.refl _ _⟩
 case round =>
  obtain⟨lo,hi,rfl,rfl,h1,h2,h3,hb⟩:=hrel;have hz:=hb.size
  by_cases hlt:lo<hi
  ·have hmid:(lo+hi) / 2<l.length:=by omega
   obtain⟨b,off,rfl,hrw⟩:=HR.out (by omega);have hc:=(hrw.below hb) ((lo+hi) / 2) hmid;obtain⟨v1,v2,v3,v4,hv⟩:=abh (HW.out.wid _ (List.getElem_mem hmid));rw[pK,hv] at hc;have x0:=hc 0 _ rfl;have x1:=hc 1 _ rfl;have x2:=hc 2 _ rfl;have x3:=hc 3 _ rfl;have x4:=hc 4 _ rfl;rw[Nat.add_zero] at x0;have hiff:=HI.out _ hmid;generalize l[(lo+hi) / 2].1=k at x0 hiff;have HC:=ah (fun W=>La k x v1 v2 v3 v4 W);clear hc hv hrw
   by_cases hm:(lo+hi) / 2<p
   ·have hcv:=Ze (hiff.2 hm)
    rw[hcv] at HC;clear hcv hiff;go_wp2_with (go_at_fn 138;refine(HC.out _).mono ?_;rintro e w2 ⟨rfl,hb2⟩)
    go_roundw
    case rel=>exact⟨(lo+hi) / 2+1,hi,by rw[show ((lo:Int)+(hi:Int)) / 2+1=(((lo+hi) / 2+1:Nat):Int) by omega],rfl,by omega,h2,h3,hb.trans (hb2.mono hz)⟩
    case measure=>simp[intOf];omega
   ·have hcv:=Zf (fun q=>hm (hiff.1 q))
    generalize zA k x=c at HC hcv
    have hcI:¬ (c<0):=by omega
    clear hiff hcv;go_wp2_with (go_at_fn 138;refine(HC.out _).mono ?_;rintro e w2 ⟨rfl,hb2⟩)
    go_roundw
    case rel=>exact⟨lo,(lo+hi) / 2,rfl,by rw[show ((lo:Int)+(hi:Int)) / 2=(((lo+hi) / 2:Nat):Int) by omega],h1,by omega,by omega,hb.trans (hb2.mono hz)⟩
    case measure=>simp[intOf];omega
  ·obtain rfl:lo=hi:=by omega
   obtain rfl:lo=p:=by omega
   by_cases hn2:lo<l.length
   ·obtain⟨b,off,rfl,hrw⟩:=HR.out (by omega)
    have hc:=(hrw.below hb) lo hn2;obtain⟨v1,v2,v3,v4,hv⟩:=abh (HW.out.wid _ (List.getElem_mem hn2));rw[pK,hv] at hc;have x0:=hc 0 _ rfl;have x1:=hc 1 _ rfl;have x2:=hc 2 _ rfl;have x3:=hc 3 _ rfl;have x4:=hc 4 _ rfl;rw[Nat.add_zero] at x0;have hiff:=HI.out _ hn2
    have hhs:hs=decide (l[lo].1=x):=by
     rw[HH.out]
     apply decide_eq_decide.2
     exact⟨fun ⟨_,q⟩=>q,fun q=>⟨hn2,q⟩⟩
    generalize l[lo].1=k at x0 hiff hhs;have hce:=Zg (fun q:k<x=>Nat.lt_irrefl _ (hiff.1 q));rw[← hhs] at hce;have HC:=ah (fun W=>La k x v1 v2 v3 v4 W);have HE:Hid (∀ c,zA k x=c→decide (c=0)=hs):=ah (fun c q=>by rw[← q];exact hce);generalize hcc:zA k x=c at HC;have hc0:=HE.out c hcc;clear hc hv hrw hiff hhs hce hcc HE
    have Vk:(lo:Int)<(l.length:Int):=by omega
    go_wp2_with (go_at_fn 138;refine(HC.out _).mono ?_;rintro e w2 ⟨rfl,hb2⟩);go_ret2;exact⟨by rw[← hc0];rfl,hb.trans (hb2.mono hz)⟩
   ·have hhs:hs=false:=by
     rw[HH.out];exact decide_eq_false (fun ⟨q,_⟩=>hn2 q)
    subst hhs
    have Vk:¬ (lo:Int)<(l.length:Int):=by omega
    go_wp2;go_ret2;exact⟨by simp,hb⟩
structure DC (B mb:Nat) (v:Value) (l:ML) (w:World):Prop where
 wf:Iu 4 l
 box:w.heap[mb]?=some (.cells #[v] 165 (0,0))
 own:w.ownsRow B 170 5 v l.length (Za l)
theorem DC.below {B mb:Nat}{v:Value}{l:ML}{w w':World}(h:DC B mb v l w)(hb:Below w.heap.size w w'):DC B mb v l w' :=
 ⟨h.wf,(hb.block mb (bG h.box).1).trans h.box,own_below h.own hb⟩
theorem DC.slice {B mb:Nat}{v:Value}{l:ML}{w:World}(h:DC B mb v l w):∃ ao cap,v=.slice ao l.length cap∧(0<l.length→∃ b off,ao=some ⟨b,off,none⟩∧Wz w b off l):=by
 obtain⟨ao,cap,hv,hn,hl,hc⟩:=Sl.fF h.own;refine⟨ao,cap,hv,fun h0=>?_⟩;obtain⟨b,off,e,hlt,hcell⟩:=hc h0;refine⟨b,off,e,fun i hi j u hu=>?_⟩
 have hj:j<5:=by
  rcases Nat.lt_or_ge j 5 with q|q
  ·exact q
  ·rw[List.getElem?_eq_none (by rw[pK,dX,h.wf.wid _ (List.getElem_mem hi)];exact q)] at hu;cases hu
 obtain⟨h',e'⟩:=mR ((PK h.wf.wid i j hi hj).trans hu);have:=hcell (i * 5+j) h';rw[Nat.add_assoc,this,e']
theorem Ab {w:World}{b:Nat}{v:Value}(h:w.heap[b]?=some (.cells #[v] 165 (0,0))):w.cell? ⟨b,0,none⟩=some v∧w.frozen? ⟨b,0,none⟩=false:=⟨by rw[Lib.cell_of_heap h];rfl,by simp[World.frozen?,h]⟩
theorem Sg (B mb:Nat)(v:Value)(l:ML)(x:List UInt8)(w:World)(h:DC B mb v l w)(hn:l.length≤1000000) :
  Calls Tryz.prog 83 #[.pointer (some ⟨mb,0,none⟩),.string ⟨x.toArray⟩] w
   fun e w'=>e=.returned (.tuple #[.int .i64 (cO l x:Nat),.bool (rA l x)])∧Below w.heap.size w w':=by
 obtain⟨ao,cap,rfl,hr⟩:=h.slice;have c0:=(Ab h.box).1;have HS:=ah (Lb ao cap l x w h.wf hr hn);generalize cO l x=p at *;generalize rA l x=q at *;clear h hr;go_enter Tryz.func83,Tryz.ntmps83;go_wp2_with (go_at_call 137;refine HS.out.mono ?_;rintro e w2 ⟨rfl,hb2⟩);go_ret2;exact⟨rfl,hb2⟩
def jN (w:World)(b:Nat)(v0 v1 v2 v3:Value):World:=(((w.setCell ⟨b,0,none⟩ v0).setCell ⟨b,1,none⟩ v1).setCell ⟨b,2,none⟩ v2).setCell ⟨b,3,none⟩ v3
theorem eF {B:Nat}{w0 w:World}(h:Below B w0 w){b:Nat}(hb:B≤b)(v0 v1 v2 v3:Value):Below B w0 (jN w b v0 v1 v2 v3) :=
 (((h.setCell hb _).setCell hb _).setCell hb _).setCell hb _
theorem fI {w:World}{b:Nat}{c0 c1 c2 c3:Value}{T:TypeId}(h:w.heap[b]?=some (.cells #[c0,c1,c2,c3] T (0,0)))(v0 v1 v2 v3:Value) :
  (jN w b v0 v1 v2 v3).heap[b]?=some (.cells #[v0,v1,v2,v3] T (0,0)) :=
 heap_setCell_same _ b 3 _ _ v3 (heap_setCell_same _ b 2 _ _ v2 (heap_setCell_same _ b 1 _ _ v1 (heap_setCell_same w b 0 _ _ v0 h)))
theorem fA {w:World}{b:Nat}{c0 c1 c2 c3:Value}{T:TypeId}(h:w.heap[b]?=some (.cells #[c0,c1,c2,c3] T (0,0))):(w.cell? ⟨b,0,none⟩=some c0∧w.cell? ⟨b,1,none⟩=some c1∧w.cell? ⟨b,2,none⟩=some c2∧w.cell? ⟨b,3,none⟩=some c3)∧(w.frozen? ⟨b,0,none⟩=false∧w.frozen? ⟨b,1,none⟩=false∧w.frozen? ⟨b,2,none⟩=false∧w.frozen? ⟨b,3,none⟩=false):=by
 refine⟨⟨?_,?_,?_,?_⟩,?_,?_,?_,?_⟩
 ·rw[Lib.cell_of_heap h];rfl
 ·rw[Lib.cell_of_heap h];rfl
 ·rw[Lib.cell_of_heap h];rfl
 ·rw[Lib.cell_of_heap h];rfl
 ·simp[World.frozen?,h]
 ·simp[World.frozen?,h]
 ·simp[World.frozen?,h]
 ·simp[World.frozen?,h]
def EC (l:ML)(x:List UInt8)(w:World)(e:Ending)(w':World):Prop :=
 (match rV l x with|none=>e=.returned (.tuple #[.agg #[.string ⟨#[]⟩,.slice none 0 0,.int .i64 0,.slice none 0 0],.bool false])|some v=>e=.returned (.tuple #[.agg v.toArray,.bool true]))∧Below w.heap.size w w'
theorem EC.no {l:ML}{x:List UInt8}{w w':World}{e:Ending}(h:rV l x=none)(he:e=.returned (.tuple #[.agg #[.string ⟨#[]⟩,.slice none 0 0,.int .i64 0,.slice none 0 0],.bool false]))(hb:Below w.heap.size w w'):EC l x w e w':=⟨by rw[h];exact he,hb⟩
theorem EC.yes {l:ML}{x:List UInt8}{w w':World}{e:Ending}{v:List Value}(h:rV l x=some v)(he:e=.returned (.tuple #[.agg v.toArray,.bool true]))(hb:Below w.heap.size w w'):EC l x w e w':=⟨by rw[h];exact he,hb⟩
theorem WA (B mb:Nat)(v:Value)(l:ML)(x:List UInt8)(w:World)(h:DC B mb v l w)(hn:l.length≤1000000) :
  Calls Tryz.prog 55 #[.pointer (some ⟨mb,0,none⟩),.string ⟨x.toArray⟩] w (EC l x w):=by
 have hal:=aj w (.cells #[.string ⟨#[]⟩,.slice none 0 0,.int .i64 0,.slice none 0 0] 31);have hR:=heap_alloc_new w (.cells #[.string ⟨#[]⟩,.slice none 0 0,.int .i64 0,.slice none 0 0] 31);have h1:=h.below hal;have HM:=ah h1;have HF:=ah (Sg B mb v l x (w.alloc (.cells #[.string ⟨#[]⟩,.slice none 0 0,.int .i64 0,.slice none 0 0] 31)) h1 hn);have hmb:=(bG h.box).1;have hpl:=Gd l x;have HH:=ah (Dx h.wf x);have HN:=ah (fun (q:rA l x=false)=>Sb q);have HG:=ah (fun i (hi:i<l.length) e=>Zc h.wf (x:=x) (i:=i) hi e);clear h h1;generalize hp:cO l x=p at *;generalize rA l x=q at *;clear hp;go_enter Tryz.func55,Tryz.ntmps55
 go_upto_region 1 with fail
 change Code.wp _ _ _ _ (w.alloc (.cells #[.string ⟨#[]⟩,.slice none 0 0,.int .i64 0,.slice none 0 0] 31))
 have hz:w.heap.size<(w.alloc (.cells #[.string ⟨#[]⟩,.slice none 0 0,.int .i64 0,.slice none 0 0] 31)).heap.size:=by simp
 generalize w.alloc _=w1 at *
 go_upto_region 2 with (go_at_call 83;refine HF.out.mono ?_;rintro e w2 ⟨rfl,hb2⟩)
 have hR2:=(hb2.block _ hz).trans hR;have hM2:=HM.out.below hb2;have hbw:=hal.trans (hb2.mono hal.size);have hz2:=hb2.size;clear HF HM hR hal
 cases q with
 | false =>
  have hnone:=ah (HN.out rfl);clear HN HG HH;have kW:=aj w2 (.cells #[.string ⟨#[]⟩,.slice none 0 0,.int .i64 0,.slice none 0 0] 31);have KG:=heap_alloc_new w2 (.cells #[.string ⟨#[]⟩,.slice none 0 0,.int .i64 0,.slice none 0 0] 31);have PL:=(kW.block w.heap.size (by omega)).trans hR2
  go_upto_region 4 with fail
  change Code.wp _ _ _ _ (w2.alloc (.cells #[.string ⟨#[]⟩,.slice none 0 0,.int .i64 0,.slice none 0 0] 31));have Ar:=hbw.trans (kW.mono hbw.size);generalize w2.alloc _=w3 at *;obtain⟨⟨a0,a1,a2,a3⟩,-⟩:=fA KG;obtain⟨⟨c0,c1,c2,c3⟩,f0,f1,f2,f3⟩:=fA PL;go_wp2;change bodyPost _ _ _ _ _ (jN w3 w.heap.size (.string ⟨#[]⟩) (.slice none 0 0) (.int .i64 0) (.slice none 0 0));have hP:=fI PL (.string ⟨#[]⟩) (.slice none 0 0) (.int .i64 0) (.slice none 0 0);have Ef:=eF Ar (Nat.le_refl _) (.string ⟨#[]⟩) (.slice none 0 0) (.int .i64 0) (.slice none 0 0);generalize jN w3 _ _ _ _ _=w4 at *;obtain⟨⟨d0,d1,d2,d3⟩,-⟩:=fA hP;exact bodyPost_ret (v:=.tuple #[.agg #[.string ⟨#[]⟩,.slice none 0 0,.int .i64 0,.slice none 0 0],.bool false]) (by simp[results,Tryz.results55,go_sem,d0,d1,d2,d3]) rfl (EC.no hnone.out rfl Ef)
 | true =>
  have hq:=HH.out;obtain⟨hpn,hpx⟩:=of_decide_eq_true hq.symm;have hg:=HG.out p hpn hpx;obtain⟨ao,cap,rfl,hr⟩:=hM2.slice;obtain⟨b,off,rfl,hrw⟩:=hr (by omega);have hc:=hrw p hpn;obtain⟨v1,v2,v3,v4,hv⟩:=abh (hM2.wf.wid _ (List.getElem_mem hpn));rw[hv] at hg;rw[pK,hv] at hc;have x1:=hc 1 _ rfl;have x2:=hc 2 _ rfl;have x3:=hc 3 _ rfl;have x4:=hc 4 _ rfl;have m0:=(Ab hM2.box).1;have hG:=ah hg;have ho:=hM2.wf.one _ (List.getElem_mem hpn);rw[hv] at ho
  have s1:=fun a m W=>run_store Tryz.prog W a v1 m (ho v1 (by simp))
  have s2:=fun a m W=>run_store Tryz.prog W a v2 m (ho v2 (by simp))
  have s3:=fun a m W=>run_store Tryz.prog W a v3 m (ho v3 (by simp))
  have s4:=fun a m W=>run_store Tryz.prog W a v4 m (ho v4 (by simp))
  clear ho;obtain⟨⟨c0,c1,c2,c3⟩,f0,f1,f2,f3⟩:=fA hR2;clear hc hv hg hq HH HG HN hpx hrw hr hM2;go_wp2;change bodyPost _ _ _ _ _ (jN w2 w.heap.size v1 v2 v3 v4);have hP:=fI hR2 v1 v2 v3 v4;have Ef:=eF hbw (Nat.le_refl _) v1 v2 v3 v4;generalize jN w2 _ _ _ _ _=w4 at *;obtain⟨⟨d0,d1,d2,d3⟩,-⟩:=fA hP;exact bodyPost_ret (v:=.tuple #[.agg #[v1,v2,v3,v4],.bool true]) (by simp[results,Tryz.results55,go_sem,d0,d1,d2,d3]) rfl (EC.yes hG.out rfl Ef)
end Go.Proofs.YtknicmmigbhpcaaGreatDoor

namespace Go.Proofs.YtknicmmigbhpcaaGreatDoor
open Go.RowKit Go
open Go.RowKit Go Go.Lib
open Go.RowKit Go Go.Lib
end Go.Proofs.YtknicmmigbhpcaaGreatDoor
