/- Walks and plain laws, without a condition. -/
import Derived.Test.YtmleecdnkmoohaaGreatDoorK04
import Derived.Lib.OwnBridge
import Derived.Sort.OwnSorted
import Derived.Sort.Walk0
import Derived.Shelf.Spec.SlicesInsert
import Derived.Lib.AppendZerosOnto
import Derived.Laws.CopyOwn
set_option maxHeartbeats 16000000
set_option maxRecDepth 100000
set_option linter.unusedVariables false
set_option linter.unusedSimpArgs false
namespace Go.Proofs.YtmleecdnkmoohaaGreatDoor
open Go.RowKit
variable{i k:Nat}{x:aH}{v:List Value}
abbrev ML:=List (aH × List Value)
def bf (p:aH × List Value):List Value:=.string ⟨p.1.toArray⟩ :: p.2
def dZ (l:ML):List Value:=l.flatMap bf
structure xR (k:Nat) (l:ML):Prop where
 sorted:(l.map Prod.fst).Pairwise (· < ·)
 wid:∀ p∈l,p.2.length=k
 one:∀ p∈l,∀ u∈p.2,u.oneCell'=true
theorem xR.nil (k:Nat):xR k []:=⟨List.Pairwise.nil,(by intro p h;cases h),(by intro p h;cases h)⟩
def aT (l:ML)(x:aH):Nat:=(l.takeWhile λp=>decide (p.1<x)).length
def lJ (l:ML)(x:aH):Bool:=decide (x∈l.map Prod.fst)
def oh (l:ML)(x:aH):Option (List Value):=(l.find? λp=>decide (p.1=x)).map Prod.snd
def oW (l:ML)(x:aH)(v:List Value):ML:=l.take (aT l x)++(x,v) :: l.drop (aT l x)
def Ao (l:ML)(x:aH)(v:List Value):ML:=l.map λp=>if p.1=x then (x,v) else p
def Ap (l:ML)(x:aH)(v:List Value):ML:=if lJ l x=true then Ao l x v else oW l x v
theorem lK (l:ML)(x:aH):aT l x<=l.length:=(List.takeWhile_prefix (l:=l) _).length_le
theorem BQ {x:aH}:∀ {l:ML} {t:Nat} (h:t<l.length),t<aT l x->l[t].1<x
 | [],_,h,_=>absurd h (by simp)
 | p :: l,t,h,ht=>by
  unfold aT at ht;rw[List.takeWhile_cons] at ht
  split at ht
  ·rename_i hp
   cases t with
   | zero=>exact PY hp
   | succ t =>
    rw[fu] at ht h;exact BQ (Nat.lt_of_succ_lt_succ h) (show t<aT l x from Nat.lt_of_succ_lt_succ ht)
  ·simp at ht
theorem sK {x:aH}:∀ {l:ML} (h:aT l x<l.length),¬ l[aT l x].1<x
 | [],h=>absurd h (by simp)
 | p :: l,h=>by
  by_cases hp:p.1<x
  ·have e:aT (p :: l) x=aT l x+1:=by unfold aT;rw[List.takeWhile_cons,bR (jV hp)];rfl
   simp only[e,H9];exact sK (by rw[e] at h;simpa using h)
  ·have e:aT (p :: l) x=0:=by unfold aT;rw[List.takeWhile_cons,aU (by simpa using hp)];rfl
   simp only[e,List.getElem_cons_zero];exact hp
theorem xR.mono {l:ML}(h:xR k l){j:Nat}(hij:i<j)(hj:j<l.length):l[i].1<l[j].1:=by
 have:=List.pairwise_iff_getElem.1 h.sorted i j (by simpa using Nat.lt_trans hij hj) (by simpa using hj) hij
 simpa using this
theorem uT {l:ML}(h:xR k l){t:Nat}(ht:t<l.length):l[t].1<x↔t<aT l x:=by
 constructor
 ·intro hlt
  apply SY
  intro q
  by_cases e:aT l x=t
  ·subst e;exact sK ht hlt
  ·have h1:aT l x<l.length:=by omega
   exact sK h1 (List.lt_trans (h.mono (by omega) ht) hlt)
 ·exact BQ ht
theorem rD {l:ML}(h:xR k l)(x:aH):lJ l x=decide (∃ hi:aT l x<l.length,l[aT l x].1=x):=by
 unfold lJ
 congr 1
 apply propext
 constructor
 ·intro hm
  obtain⟨j,hj,e⟩:=List.getElem_of_mem hm;rw[oC] at hj;rw[List.getElem_map] at e
  have h1:¬ l[j].1<x:=by rw[e];exact List.lt_irrefl _
  rw[uT h hj] at h1
  have h2:aT l x<l.length:=by omega
  refine⟨h2,?_⟩
  by_cases q:aT l x=j
  ·simp only[q];exact e
  ·have h3:=h.mono (show aT l x<j by omega) hj
   rw[e] at h3;exact absurd h3 (sK h2)
 ·rintro⟨hi,e⟩
  rw[<- e];exact List.mem_map_of_mem (nH hi)
theorem wQ (l:ML)(x:aH):(oh l x).isSome=lJ l x:=by
 unfold oh lJ;rw[Option.isSome_map]
 induction l with
 | nil=>rfl
 | cons p l ih =>
  rw[List.find?_cons,lN]
  by_cases e:p.1=x
  ·rw[jV e,jV (by rw[e];exact Cu)];rfl
  ·rw[dX e]
   simp only[ih]
   apply decide_eq_decide.2
   constructor
   ·exact Dy _
   ·intro q
    rcases nY.1 q with q|q
    ·exact absurd q.symm e
    ·exact q
theorem VU {l:ML}(h:lJ l x=false):oh l x=none:=by
 have:=wQ l x;rw[h] at this
 simpa using this
theorem TN {l:ML}(h:xR k l)(hi:i<l.length)(e:l[i].1=x):oh l x=some l[i].2:=by
 unfold oh
 have:l.find? (λp=>decide (p.1=x))=some l[i]:=by
  rw[List.find?_eq_some_iff_getElem];refine⟨jV e,i,hi,rfl,λj hj=>?_⟩;have:=h.mono hj hi;rw[e] at this;simp only[Bool.not_eq_true',decide_eq_false_iff_not];intro q;rw[q] at this;exact List.lt_irrefl _ this
 rw[this];rfl
theorem VW (l:ML)(x:aH)(v:List Value):(oW l x v).map Prod.fst=(l.map Prod.fst).take (aT l x)++x :: (l.map Prod.fst).drop (aT l x):=by
 unfold oW;rw[xZ,lN,List.map_take,List.map_drop]
theorem xR.ins {l:ML}(h:xR k l)(hx:lJ l x=false)(hv:v.length=k)(h1:∀ u∈v,u.oneCell'=true):xR k (oW l x v):=by
 have hmem:∀ p∈oW l x v,p∈l\/p=(x,v):=λp hp=>by
  unfold oW at hp
  rcases List.mem_append.1 hp with q|q
  ·exact .inl (List.mem_of_mem_take q)
  ·rcases nY.1 q with q|q
   ·exact .inr q
   ·exact .inl (List.mem_of_mem_drop q)
 refine⟨?_,λp hp=>?_,λp hp=>?_⟩
 ·have hg:∀ j,(hj:j<l.length)->aT l x<=j->x<l[j].1:=λj hj hij=>by
   have h1:¬ l[j].1<x:=by rw[uT h hj];omega
   rw[Kt];refine⟨List.not_lt.1 h1,λq=>?_⟩
   have:x∈l.map Prod.fst:=by rw[q];exact List.mem_map_of_mem (nH hj)
   unfold lJ at hx;exact of_decide_eq_false hx this
  rw[VW,List.pairwise_append];refine⟨h.sorted.sublist (List.take_sublist _ _),List.pairwise_cons.2 ⟨λy hy=>?_,h.sorted.sublist (List.drop_sublist _ _)⟩,λy hy z hz=>?_⟩
  ·obtain⟨j,hj,rfl⟩:=List.getElem_of_mem hy
   rw[yL,oC] at hj;rw[List.getElem_drop,List.getElem_map];exact hg _ (by omega) (by omega)
  ·obtain⟨j,hj,rfl⟩:=List.getElem_of_mem hy
   rw[pK,oC] at hj;rw[List.getElem_take,List.getElem_map];have hlt:l[j].1<x:=BQ (by omega) (by omega)
   rcases nY.1 hz with q|q
   ·rw[q];exact hlt
   ·obtain⟨m,hm,rfl⟩:=List.getElem_of_mem q
    rw[yL,oC] at hm;rw[List.getElem_drop,List.getElem_map];exact List.lt_trans hlt (hg _ (by omega) (by omega))
 ·rcases hmem p hp with q|q
  ·exact h.wid p q
  ·rw[q];exact hv
 ·rcases hmem p hp with q|q
  ·exact h.one p q
  ·rw[q];exact h1
theorem Aq (l:ML)(x:aH)(v:List Value):(oW l x v).length=l.length+1:=by
 have:=lK l x;unfold oW;rw[bY,pK,fu,yL];omega
theorem Oi {l:ML}(v:List Value)(hx:lJ l x=false)(y:aH):oh (oW l x v) y=if y=x then some v else oh l y:=by
 have hn:∀ p∈l,p.1≠x:=λp hp q=>by
  unfold lJ at hx;exact of_decide_eq_false hx (by rw[<- q];exact List.mem_map_of_mem hp)
 have hl:l.find? (λp=>decide (p.1=y))=((l.take (aT l x)).find? λp=>decide (p.1=y)).or ((l.drop (aT l x)).find? λp=>decide (p.1=y)):=by
  rw[<- List.find?_append,List.take_append_drop]
 unfold oh oW;rw[List.find?_append,List.find?_cons,hl]
 by_cases e:y=x
 ·subst e
  rw[bR rfl,jV rfl]
  have:(l.take (aT l y)).find? (λp=>decide (p.1=y))=none:=List.find?_eq_none.2 λp hp=>by simpa using hn p (List.mem_of_mem_take hp)
  rw[this]
  rfl
 ·rw[aU e,dX (λq=>e q.symm)]
theorem VX (l:ML)(x:aH)(v:List Value):(Ao l x v).map Prod.fst=l.map Prod.fst:=by
 unfold Ao;rw[List.map_map]
 refine List.map_congr_left λp _=>?_
 simp only[Function.comp]
 split
 ·rename_i h;exact h.symm
 ·rfl
theorem xR.set {l:ML}(h:xR k l)(x:aH)(hv:v.length=k)(h1:∀ u∈v,u.oneCell'=true):xR k (Ao l x v):=by
 refine⟨by rw[VX];exact h.sorted,λp hp=>?_,λp hp=>?_⟩
 ·obtain⟨q,hq,rfl⟩:=List.mem_map.1 hp
  split
  ·exact hv
  ·exact h.wid q hq
 ·obtain⟨q,hq,rfl⟩:=List.mem_map.1 hp
  split
  ·exact h1
  ·exact h.one q hq
theorem F3 (x:aH)(v:List Value)(y:aH):∀ {l:ML},lJ l x=true->oh (Ao l x v) y=if y=x then some v else oh l y
 | [],h=>by simp[lJ] at h
 | p :: l,h=>by
  unfold oh Ao;rw[lN,List.find?_cons,List.find?_cons]
  by_cases e:p.1=x
  ·rw[bR e]
   by_cases f:y=x
   ·subst f;simp
   ·rw[dX (λq=>f q.symm),aU f,dX (λq=>f (q.symm.trans e))]
    by_cases g:lJ l x=true
    ·have:=F3 x v y g
     rw[aU f] at this;exact this
    ·have hn:Ao l x v=l:=by
      unfold Ao
      conv=>rhs;rw[<- List.map_id l]
      refine List.map_congr_left λr hr=>?_
      rw[aU λq=>g (by unfold lJ;exact jV (by rw[<- q];exact List.mem_map_of_mem hr))]
      rfl
     unfold Ao at hn;rw[hn]
  ·rw[aU e]
   have g:lJ l x=true:=by
    unfold lJ at h |-;have:=PY h;rw[lN,nY] at this;exact jV (this.resolve_left λq=>e q.symm)
   by_cases f:p.1=y
   ·rw[jV f,aU (λq=>e (f.trans q))]
   ·rw[dX f]
    exact F3 x v y g
theorem Y8 {l:ML}(x:aH)(v:List Value)(y:aH):oh (Ap l x v) y=if y=x then some v else oh l y:=by
 unfold Ap
 split
 ·rename_i h;exact F3 x v y h
 ·rename_i h;exact Oi v (by simpa using h) y
theorem xR.put {l:ML}(h:xR k l)(x:aH)(hv:v.length=k)(h1:∀ u∈v,u.oneCell'=true):xR k (Ap l x v):=by
 unfold Ap
 split
 ·exact h.set x hv h1
 ·rename_i q;exact h.ins (by simpa using q) hv h1
theorem Y9 (l:ML)(x:aH)(v:List Value):(Ap l x v).length<=l.length+1:=by
 unfold Ap
 split
 ·unfold Ao;rw[oC];omega
 ·rw[Aq];omega
theorem j4 {k:Nat}:∀ {l:ML},(∀ p∈l,p.2.length=k)->(dZ l).length=l.length * (k+1)
 | [],_=>by simp[dZ]
 | p :: l,h=>by
  have:=j4 (l:=l) λq hq=>h q (Dy _ hq)
  unfold dZ at this |-;rw[List.flatMap_cons,bY,this,bf,fu,h p (by simp),fu,Nat.succ_mul,Nat.add_comm]
theorem Dc (a b:ML):dZ (a++b)=dZ a++dZ b:=by unfold dZ;rw[abo]
theorem Lp {k:Nat}:∀ {l:ML} (_:∀ p∈l,p.2.length=k) (i j:Nat) (hi:i<l.length),j<k+1->(dZ l)[i * (k+1)+j]?=(bf l[i])[j]?
 | [],_,i,j,h,_=>absurd h (by simp)
 | p :: l,hw,0,j,_,hj=>by
  unfold dZ;rw[List.flatMap_cons,Nat.zero_mul,Nat.zero_add,List.getElem?_append_left (by rw[bf,fu,hw p (by simp)];exact hj)]
  rfl
 | p :: l,hw,i+1,j,h,hj=>by
  have:=Lp (l:=l) (λq hq=>hw q (Dy _ hq)) i j (by simpa using h) hj;unfold dZ at this |-
  have hp:(bf p).length=k+1:=by rw[bf,fu,hw p (by simp)]
  rw[List.flatMap_cons,abj (by rw[hp,Nat.succ_mul];omega),hp,show (i+1) * (k+1)+j - (k+1)=i * (k+1)+j by rw[Nat.succ_mul];omega,this]
  rfl
theorem wR {l:ML}(h:xR k l):∀ u∈dZ l,u.oneCell'=true:=λu hu=>by
 obtain⟨p,hp,hq⟩:=List.mem_flatMap.1 hu
 rcases nY.1 hq with q|q
 ·rw[q];rfl
 ·exact h.one p hp u q
theorem BR {k:Nat}:∀ {l:ML},(∀ p∈l,p.2.length=k)->∀ i,dZ (l.take i)=(dZ l).take (i * (k+1))
 | [],_,i=>by simp[dZ]
 | p :: l,h,0=>by simp[dZ]
 | p :: l,h,i+1=>by
  have hp:(bf p).length=k+1:=by rw[bf,fu,h p (by simp)]
  have:=BR (l:=l) (λq hq=>h q (Dy _ hq)) i;unfold dZ at this |-;rw[List.take_succ_cons,List.flatMap_cons,List.flatMap_cons,this,List.take_append,Ba (l:=bf p) (by rw[hp,Nat.succ_mul];omega),hp,show (i+1) * (k+1) - (k+1)=i * (k+1) by rw[Nat.succ_mul];omega]
theorem VY {l:ML}(h:∀ p∈l,p.2.length=k)(i:Nat):dZ (l.drop i)=(dZ l).drop (i * (k+1)):=by
 have h1:=BR h i;have h2:=Dc (l.take i) (l.drop i);rw[List.take_append_drop,h1] at h2
 by_cases hi:i<=l.length
 ·have hl:=j4 h
  have:=congrArg (List.drop (i * (k+1))) h2;rw[List.drop_append,List.drop_of_length_le (l:=(dZ l).take (i * (k+1))) (by rw[pK];omega),uD,pK,Nat.min_eq_left (by rw[hl];exact Nat.mul_le_mul_right _ hi),Nat.sub_self,List.drop_zero] at this;exact this.symm
 ·rw[List.drop_of_length_le (by omega),List.drop_of_length_le (by rw[j4 h];exact Nat.mul_le_mul_right _ (by omega))]
  rfl
theorem tY (l:ML)(x:aH)(v:List Value)(h:∀ p∈l,p.2.length=k):dZ (oW l x v)=(dZ l).take (aT l x * (k+1))++(bf (x,v)++(dZ l).drop (aT l x * (k+1))):=by
 unfold oW;rw[Dc,BR h]
 congr 1
 rw[<- VY h];unfold dZ;rw[List.flatMap_cons]
open Go Go.Sort
variable{l:List aH}{n B:Nat}{w w':World}{P:Nat->Prop}{v:Value}
def fK (P:Nat->Prop)(w:World)(v:Value)(l:List aH):Prop:=oJ P w v 1 l.length (l.map encStr)/\∀ n c,v=.slice none n c->c=0
theorem fK.clip {ao:Option Addr}{c:Nat}(h:fK P w (.slice ao n c) l):n=l.length/\fK P w (.slice ao l.length l.length) l:=by
 obtain⟨⟨ao',cap,hv,h1,h2,h3⟩,h4⟩:=h;simp only[Value.slice.injEq] at hv;obtain⟨rfl,rfl,rfl⟩:=hv;refine⟨rfl,⟨ao,l.length,rfl,bD _,h2,h3⟩,λn' c' q=>?_⟩;simp only[Value.slice.injEq] at q;obtain⟨q1,-,rfl⟩:=q
 rcases Nat.eq_zero_or_pos l.length with q|q
 ·exact q
 ·obtain⟨b,off,q2,_⟩:=h3 (by simpa using q)
  rw[q1] at q2;cases q2
theorem fK.slice {P:Nat->Prop}{w:World}{v:Value}{l:List aH}(h:fK P w v l):∃ ao cap,v=.slice ao l.length cap/\l.length<=cap/\(0<l.length->∃ b off,ao=some ⟨b,off,none⟩/\P b/\b<w.heap.size/\∀ i,(hi:i<l.length)->w.cell? ⟨b,off+i,none⟩=some (.string ⟨l[i].toArray⟩)):=by
 obtain⟨ao,cap,hv,h1,h2,h3⟩:=h.1;refine⟨ao,cap,hv,h1,λh0=>?_⟩;obtain⟨b,off,q1,q2,q3,q4⟩:=h3 (by simpa using h0);refine⟨b,off,q1,q2,q3,λi hi=>?_⟩;have:=q4 i (by simpa using hi);simp only[List.getElem_map] at this;exact this
theorem fK.frame {P:Nat->Prop}{w w':World}{v:Value}{l:List aH}(h:fK P w v l)(ha:aW P w w'):fK P w' v l:=⟨oJ.frame h.1 ha,h.2⟩
theorem fK.imp {P Q:Nat->Prop}{w:World}{v:Value}{l:List aH}(h:fK P w v l)(hq:∀ b,P b->b<w.heap.size->Q b):fK Q w v l:=⟨oJ.imp h.1 hq,h.2⟩
theorem fK.below (h:fK P w v l)(hb:Below w.heap.size w w'):fK P w' v l:=h.frame (aW.of hb)
theorem fK.nil (P:Nat->Prop)(w:World):fK P w (.slice none 0 0) []:=⟨oJ.nil P w 1,λn c q=>by injection q with _ _ q;exact q.symm⟩
theorem fK.owns {e:TypeId}(h:w.ownsRow B e 1 v l.length (l.map encStr))(hP:∀ b,B<=b->P b):fK P w v l:=by
 refine⟨oJ.fQ h hP,λn c q=>?_⟩
 rcases h.2 with ⟨h3,_⟩|⟨g,cap,cur,h3,_⟩
 ·rw[q] at h3;injection h3
 ·rw[q] at h3;injection h3 with h3;cases h3
def RG (l:List aH)(w:World)(e:Ending)(w':World):Prop:=∃ v',e=.returned v'/\w'.ownsRow w.heap.size 9 1 v' l.length (l.map encStr)/\Below w.heap.size w w'
theorem RH (P:Nat->Prop)(v:Value)(l:List aH)(w:World)(h:fK P w v l)(hl:l.length<=1000000):Calls Tryz.prog 96 #[v] w (RG l w):=by
 obtain⟨ao,cap,rfl,hcap,hc⟩:=h.slice
 rcases Nat.eq_zero_or_pos l.length with h0|h0
 ·obtain rfl:=List.eq_nil_of_length_eq_zero h0
  cases ao with
  | none=>exact(Tryz.slices_Clone_string_nil 0 cap w).mono λe w' q=>⟨_,q.1,World.ownsRow_nil _ _ _ _,by rw[q.2];exact bQ _ _⟩
  | some a=>exact(Tryz.slices_Clone_string_zero a cap w).mono λe w' ⟨v',q1,q2,_,q3⟩=>⟨v',q1,q2,q3⟩
 ·obtain⟨b,off,rfl,_,_,hcell⟩:=hc h0
  refine(Tryz.slices_Clone_string b off l.length cap (l.map λs=>⟨s.toArray⟩) w (by simp) (by omega) (λj hj=>?_)).mono λe w' ⟨v',q1,q2,_,q3⟩=>⟨v',q1,?_,q3⟩
  ·have hj':j<l.length:=by simpa using hj
   rw[hcell j hj'];simp[Kr,hj']
  ·rw[Ba (by simp),List.map_map] at q2
   exact q2
theorem Oj (a:Option Addr)(n c:Nat)(w:World)(h:n<=c)(hc:c<=9223372036854775807)(h0:a=none->n=0):Calls Tryz.prog 141 #[.slice a n c] w λe w'=>e=.returned (.slice a n n)/\w'=w:=by
 have h1:(n:Int)<=(c:Int):=by omega
 have h2:(0:Int)<=(n:Int):=by omega
 cases a with
 | none =>
  obtain rfl:=h0 rfl;clear h0;go_enter Tryz.func141,Tryz.ntmps141;go_wp2;go_ret;exact⟨rfl,rfl⟩
 | some a =>
  clear h0;go_enter Tryz.func141,Tryz.ntmps141;go_wp2;go_ret;exact⟨rfl,rfl⟩
def TP (l:List aH)(w:World)(e:Ending)(w':World):Prop:=∃ ao c,e=.returned (.agg #[.slice ao l.length c])/\fK (λb=>w.heap.size<=b) w' (.slice ao l.length c) l/\Below w.heap.size w w'
theorem Za {w1:World}{g cap nn q:Nat}{os:Array Obj}{ss:List aH}(hown:w1.ownsRow B 9 1 (.slice (some ⟨g,0,none⟩) n cap) n (ss.map encStr))(hbel:Below B w w1)(hbg:B<=g)(hBw:B<=w.heap.size)(hlen:ss.length=n) :
  (putRow encStr (Sort.ahead (grow (putRow encStr (Sort.ahead w1 nn) g 0 (iD ss).toArray) os) q) g 0 (Lib.compact (iD ss)++List.replicate (n - (Lib.compact (iD ss)).length) []).toArray).ownsRow B 9 1 (.slice (some ⟨g,0,none⟩) (gD ss).length cap) (gD ss).length ((gD ss).map encStr) /\
  Below B w (putRow encStr (Sort.ahead (grow (putRow encStr (Sort.ahead w1 nn) g 0 (iD ss).toArray) os) q) g 0 (Lib.compact (iD ss)++List.replicate (n - (Lib.compact (iD ss)).length) []).toArray):=by
 have hl2:(iD ss).length=ss.length:=qM ss;have hle:=Lib.compact_length_le (iD ss);subst hlen
 rcases hown.2 with ⟨h0,_⟩|⟨g',jw,cur,hv,hbase,hb,h1,h2,h3,h4⟩
 ·cases h0
 cases hv;have hs:=ownsRow_sorted (n:=nn) (os:=os) (ts:=iD ss) hl2 hbase hb h1 h2 h3;have hc:=Lib.ownsRow_putRow (q:=q) (k:=(Lib.compact (iD ss)).length) (ys:=Lib.compact (iD ss)++List.replicate (ss.length - (Lib.compact (iD ss)).length) []) hs (by simp;omega) (by omega);rw[List.take_left] at hc;exact⟨hc,Lib.below_putRow (hbel.grown (grownBy_sorted _) (jq hBw hbel.size) (λj hj=>by cases hj;exact hbase)) hbg⟩
theorem aei (P:Nat->Prop)(v:Value)(l:List aH)(w:World)(h:fK P w v l)(hl:l.length<=1000000):Calls Tryz.prog 94 #[v] w (TP (gD l) w):=by
 have hal:=aA w (.cells #[.slice none 0 0] 120);have hN:=aX w (.cells #[.slice none 0 0] 120);have HC:=ay (λW (hW:Below w.heap.size w W)=>RH P v l W (h.below hW) hl);clear h;go_enter Tryz.func94,Tryz.ntmps94
 go_upto_region 1 with fail
 change Code.wp _ _ _ _ (w.alloc (.cells #[.slice none 0 0] 120));generalize w.alloc _=w1 at hal hN |-;have hl1:=(bP hN).1
 go_upto_region 2 with (go_at_call 96;refine(HC.out _ hal).mono ?_;rintro e w2 ⟨v',rfl,hown,hb2⟩)
 have hz1:=hal.size;have hz2:=hb2.size;have Ol:=(hb2.block w.heap.size hl1).trans hN
 by_cases hv:v'=.slice none 0 0
 ·subst hv
  have hl0:l=[]:=by
   rcases hown.2 with ⟨_,q⟩|⟨g,cap,cur,hv,_⟩
   ·exact List.eq_nil_of_length_eq_zero q
   ·cases hv
  subst hl0
  have hfz:w2.frozen? ⟨w.heap.size,0,none⟩=false:=by simp[World.frozen?,Ol]
  have hc0:w2.cell? ⟨w.heap.size,0,none⟩=some (.slice none 0 0):=by rw[aZ Ol];rfl
  have hbw:Below w.heap.size w (w2.setCell ⟨w.heap.size,0,none⟩ (.slice none 0 0)):=(hal.trans (hb2.mono hz1)).setCell (bD _) _
  have hs0:(w2.setCell ⟨w.heap.size,0,none⟩ (.slice none 0 0)).cell? ⟨w.heap.size,0,none⟩=some (.slice none 0 0):=by
   have:=jN w2 w.heap.size 0 _ _ (.slice none 0 0) Ol;rw[aZ this];rfl
  clear hN Ol hown HC hal hb2;go_wp2_with (first|(go_at_call 140;refine(Tryz.slices_Sort_string_none none 0 _).mono ?_;rintro e w' ⟨rfl,rfl⟩)|(go_at_call 142;refine(Tryz.slices_Compact_string_empty none 0 _).mono ?_;rintro e w' ⟨rfl,rfl⟩)|(go_at_call 141;refine(Oj none 0 0 _ (by omega) (by omega) (λ_=>rfl)).mono ?_;rintro e w' ⟨rfl,rfl⟩));refine nI (v:=.agg #[.slice none 0 0]) (by simp[results,Tryz.results94,go_sem,hs0]) rfl ⟨none,0,by rw[Mh];rfl,by rw[Mh];exact fK.nil _ _,hbw⟩
 ·obtain⟨g,cap,rfl,hbg,hgl,aiP,hcm,hlen,hH⟩:=Lib.holds_of_ownsRow hown hv
  have hlen':l.length=l.length:=rfl;have HS:=ay (Tryz.slices_Sort_string g 0 cap l w2 hH hgl (by omega))
  have HCP:Hid (∀ nn os,Calls Tryz.prog 142 #[.slice (some ⟨g,0,none⟩) l.length cap] (grow (putRow encStr (Sort.ahead w2 nn) g 0 (iD l).toArray) os) λe w'=>e=.returned (.slice (some ⟨g,0,none⟩) (gD l).length cap)/\∃ q,w'=putRow encStr (Sort.ahead (grow (putRow encStr (Sort.ahead w2 nn) g 0 (iD l).toArray) os) q) g 0 (Lib.compact (iD l)++List.replicate (l.length - (Lib.compact (iD l)).length) []).toArray):=ay λnn os=>by
   have hH2:Holds encStr (grow (putRow encStr (Sort.ahead w2 nn) g 0 (iD l).toArray) os) g 0 (iD l).toArray :=
    holds_grow encStr _ os g 0 _ (by simpa [putRow,mapBlock,Sort.ahead] using hgl) (holds_putRow encStr _ g 0 _ _ (holds_ahead encStr w2 nn g 0 _ hH) (by simp[qM]))
   have:=Tryz.slices_Compact_string g 0 cap (iD l) _ hH2 (by rw[qM];omega) (by rw[qM];omega);rw[qM] at this;exact this
  have hsl:=pR l
  have hcp:cap<=9223372036854775807:=by unfold maxLen at hcm;omega
  have HOWN:=ay hown;have hN1:=hN;clear hown hH HC hN Ol hv
  go_upto_region 3 with (go_at_call 140;refine HS.out.mono ?_;rintro e w3 ⟨rfl,nn,os,rfl⟩)
  have zH:=ay (HCP.out nn os)
  have HF:Hid (∀ q,(putRow encStr (Sort.ahead (grow (putRow encStr (Sort.ahead w2 nn) g 0 (iD l).toArray) os) q) g 0 (Lib.compact (iD l)++List.replicate (l.length - (Lib.compact (iD l)).length) []).toArray).ownsRow w1.heap.size 9 1 (.slice (some ⟨g,0,none⟩) (gD l).length cap) (gD l).length ((gD l).map encStr)/\Below w1.heap.size w1 (putRow encStr (Sort.ahead (grow (putRow encStr (Sort.ahead w2 nn) g 0 (iD l).toArray) os) q) g 0 (Lib.compact (iD l)++List.replicate (l.length - (Lib.compact (iD l)).length) []).toArray)):=ay λq=>Za (nn:=nn) (q:=q) (os:=os) HOWN.out hb2 hbg (bD _) rfl
  clear HCP HS;change Code.wp _ _ _ _ (grow (putRow encStr (Sort.ahead w2 nn) g 0 (iD l).toArray) os);generalize grow (putRow encStr (Sort.ahead w2 nn) g 0 (iD l).toArray) os=w3 at zH HF |-;have DL:=ay (λW=>Oj (some ⟨g,0,none⟩) (gD l).length cap W (by omega) hcp (λq=>by cases q));go_wp2_with (first|(go_at_call 142;refine zH.out.mono ?_;rintro e w4 ⟨rfl,q,rfl⟩;have hF:=HF.out q;clear zH HF;generalize putRow encStr _ _ _ _=w4 at hF |-;have hN4:=(hF.2.block w.heap.size hl1).trans hN1;have hfz:w4.frozen? ⟨w.heap.size,0,none⟩=false:=(by simp[World.frozen?,hN4]);have hc0:w4.cell? ⟨w.heap.size,0,none⟩=some (.slice none 0 0):=(by rw[aZ hN4];rfl))|(go_at_call 141;refine(DL.out _).mono ?_;rintro e w' ⟨rfl,rfl⟩))
  have hs0:(w'.setCell ⟨w.heap.size,0,none⟩ (.slice (some ⟨g,0,none⟩) (gD l).length (gD l).length)).cell? ⟨w.heap.size,0,none⟩=some (.slice (some ⟨g,0,none⟩) (gD l).length (gD l).length):=by
   have:=jN w' w.heap.size 0 _ _ (.slice (some ⟨g,0,none⟩) (gD l).length (gD l).length) hN4;rw[aZ this];rfl
  have hbw:Below w.heap.size w (w'.setCell ⟨w.heap.size,0,none⟩ (.slice (some ⟨g,0,none⟩) (gD l).length (gD l).length)):=(hal.trans (hF.2.mono hz1)).setCell (bD _) _;have htx:fK (λb=>w1.heap.size<=b) w' (.slice (some ⟨g,0,none⟩) (gD l).length cap) (gD l):=fK.owns hF.1 (λ_ hb=>hb)
  have aej:fK (λb=>w.heap.size<=b) (w'.setCell ⟨w.heap.size,0,none⟩ (.slice (some ⟨g,0,none⟩) (gD l).length (gD l).length)) (.slice (some ⟨g,0,none⟩) (gD l).length (gD l).length) (gD l):=(htx.clip.2.frame (aW.set _ λb hb=>by show b≠w.heap.size;omega)).imp λb hb _=>by omega
  exact nI (v:=.agg #[.slice (some ⟨g,0,none⟩) (gD l).length (gD l).length]) (by simp[results,Tryz.results94,go_sem,hs0]) rfl ⟨_,_,rfl,aej,hbw⟩
def Df (l:List aH)(x:ByteArray)(j:Nat):ByteArray:=if h:j<l.length then ⟨l[j].toArray⟩ else x
theorem zw (l:List aH)(x:ByteArray)(j:Nat):(Df l x j).data.toList=if h:j<l.length then l[j] else x.data.toList:=by
 unfold Df
 split<;>rfl
theorem acG (l:List aH)(x:aH):∀ t,t<(l.takeWhile λy=>decide (y<x)).length->∀ (h:t<l.length),l[t]<x:=λt ht h2=>by
 have h1:(l.takeWhile λy=>decide (y<x))[t]=l[t]:=List.IsPrefix.getElem (List.takeWhile_prefix _) ht;have h3:=List.all_takeWhile (l:=l) (p:=λy=>decide (y<x));have h4:=List.all_eq_true.1 h3 _ (nH ht);rw[h1] at h4
 simpa using h4
theorem JN (x:aH):∀ (l:List aH) (h:(l.takeWhile λy=>decide (y<x)).length<l.length),¬ l[(l.takeWhile λy=>decide (y<x)).length]<x
 | [],h=>absurd h (by simp)
 | y :: l,h=>by
  by_cases q:y<x
  ·have e:((y :: l).takeWhile λy=>decide (y<x))=y :: (l.takeWhile λy=>decide (y<x)):=List.takeWhile_cons_of_pos (by simpa using q)
   have h2:(l.takeWhile λy=>decide (y<x)).length<l.length:=by
    rw[e] at h
    simpa using h
   have ih:=JN x l h2
   have:∀ n,(hn:n<(y :: l).length)->n=(l.takeWhile λy=>decide (y<x)).length+1->¬ (y :: l)[n]<x:=by
    rintro n hn rfl;exact ih
   exact this _ h (by rw[e];rfl)
  ·have e:((y :: l).takeWhile λy=>decide (y<x))=[]:=List.takeWhile_cons_of_neg (by simpa using q)
   have:∀ n,(hn:n<(y :: l).length)->n=0->¬ (y :: l)[n]<x:=by
    rintro n hn rfl;exact q
   exact this _ h (by rw[e];rfl)
theorem RI (l:List aH)(x:ByteArray)(hl:l.Pairwise (· < ·)):decide (Lib.bsGo (λt=>Op.bytesLess (Df l x t).toList x.toList) l.length 0 l.length<l.length/\Df l x (Lib.bsGo (λt=>Op.bytesLess (Df l x t).toList x.toList) l.length 0 l.length)=x)=decide (x.data.toList∈l):=by
 simp only[Lib.toList_data,Go.Proofs.bytesLess_eq,zw];have hA:=acG l x.data.toList;have hB:=JN x.data.toList l;have hC:=(List.takeWhile_prefix (l:=l) (λy=>decide (y<x.data.toList))).length_le;generalize (l.takeWhile λy=>decide (y<x.data.toList)).length=k at hA hB hC
 have hk:=Lib.bsGo_spec (λt=>decide ((if h:t<l.length then l[t] else x.data.toList)<x.data.toList)) k (λt ht=>by
   have htl:t<l.length:=by omega
   rw[dif_pos htl]
   exact jV (hA t ht htl)) (λt ht=>by
   by_cases htl:t<l.length
   ·rw[dif_pos htl]
    refine dX λq=>?_
    by_cases e:t=k
    ·subst e;exact hB htl q
    ·exact hB (by omega) (List.lt_trans (List.pairwise_iff_getElem.1 hl k t (by omega) htl (by omega)) q)
   ·rw[dif_neg htl]
    exact dX (List.lt_irrefl _)) l.length 0 l.length (by omega) (by omega) hC
 rw[hk]
 congr 1
 apply propext
 constructor
 ·rintro⟨h1,h2⟩
  have h3:=congrArg (λb:ByteArray=>b.data.toList) h2;simp only[zw] at h3;rw[dif_pos h1] at h3;rw[<- h3];exact nH h1
 ·intro h
  obtain⟨j,hj,e⟩:=List.getElem_of_mem h
  have hjk:k<=j:=by
   apply SY
   intro q;have:=hA j (by omega) hj;rw[e] at this;exact List.lt_irrefl _ this
  have hkj:k=j:=by
   apply SY
   intro q;refine hB (by omega) ?_;rw[<- e];exact List.pairwise_iff_getElem.1 hl k j (by omega) hj (by omega)
  subst hkj;refine⟨hj,sZ ?_⟩;rw[zw,dif_pos hj,e]
def Zb (l:List aH)(x:ByteArray)(w:World)(e:Ending)(w':World):Prop:=(∃ i:Int,e=.returned (.tuple #[.int .i64 i,.bool (decide (x.data.toList∈l))]))/\Below w.heap.size w w'
theorem Zc (P:Nat->Prop)(ao:Option Addr)(c:Nat)(l:List aH)(x:ByteArray)(w:World)(h:fK P w (.slice ao l.length c) l)(hr:l.Pairwise (· < ·))(hn:l.length<=1000000):Calls Tryz.prog 124 #[.slice ao l.length c,.string x] w (Zb l x w):=by
 obtain⟨ao',cap,hv,hcap,hc⟩:=h.slice;simp only[Value.slice.injEq] at hv;obtain⟨rfl,-,rfl⟩:=hv
 rcases Nat.eq_zero_or_pos l.length with h0|h0
 ·obtain rfl:=List.eq_nil_of_length_eq_zero h0
  refine(Any2.slices_BinarySearch_string_empty Tryz.Eu ao c x w).mono λe w' q=>⟨⟨0,by rw[q.1];simp⟩,by rw[q.2];exact bQ _ _⟩
 ·obtain⟨b,off,rfl,_,_,hcell⟩:=hc h0
  refine(Any2.slices_BinarySearch_string Tryz.Eu b off l.length c (Df l x) x w (by omega) (λj hj=>by rw[hcell j hj,Df,dif_pos hj])).mono λe w' ⟨q1,n,q2⟩=>⟨⟨(Lib.bsGo (λt=>Op.bytesLess (Df l x t).toList x.toList) l.length 0 l.length:Nat),by rw[q1,RI l x hr]⟩,by rw[q2];exact⟨rfl,rfl,rfl,bD _,λ_ _=>rfl⟩⟩
theorem bN {b:Nat}(h:w.heap[b]?=some (.cells #[v] 120 (0,0))):w.cell? ⟨b,0,none⟩=some v/\w.frozen? ⟨b,0,none⟩=false:=⟨by rw[aZ h];rfl,by simp[World.frozen?,h]⟩
def aek (l:List aH)(w:World)(e:Ending)(w':World):Prop:=∃ ao c,e=.returned (.slice ao l.length c)/\fK (λb=>w.heap.size<=b) w' (.slice ao l.length c) l/\Below w.heap.size w w'
theorem RG.tx {e:Ending}(h:RG l w e w'):aek l w e w':=by
 obtain⟨v',h1,h2,h3⟩:=h;have h4:fK (λb=>w.heap.size<=b) w' v' l:=fK.owns h2 (λ_ hb=>hb);obtain⟨ao,cap,rfl,_,_⟩:=h4.slice;exact⟨ao,cap,h1,h4,h3⟩
theorem Ar (P:Nat->Prop)(ao:Option Addr)(c:Nat)(l:List aH)(x:ByteArray)(w:World)(h:fK P w (.slice ao l.length c) l)(hr:l.Pairwise (· < ·))(hl:l.length<=1000000):Calls Tryz.prog 78 #[.agg #[.slice ao l.length c],.string x] w λe w'=>e=.returned (.bool (decide (x.data.toList∈l)))/\Below w.heap.size w w':=by
 have hal:=aA w (.cells #[.slice ao l.length c] 120);have hN:=aX w (.cells #[.slice ao l.length c] 120);have HC:=ay (λW (hW:Below w.heap.size w W)=>Zc P ao c l x W (h.below hW) hr hl);clear h hr;unfold Zb at HC;generalize decide (x.data.toList∈l)=r at *;go_enter Tryz.func78,Tryz.ntmps78
 go_upto_region 1 with fail
 change Code.wp _ _ _ _ (w.alloc (.cells #[.slice ao l.length c] 120));generalize w.alloc _=w1 at hal hN |-;have c0:=(bN hN).1;go_wp2_with (go_at_call 124;refine(HC.out _ hal).mono ?_;rintro e w2 ⟨⟨i,rfl⟩,hb2⟩);go_ret;exact⟨rfl,hal.trans (hb2.mono hal.size)⟩
variable{a:aH}{b g:Nat}{l:ML}{c0 c1 c2 c3:Value}{e:Ending}{cur:Array Value}
def vS (a b:aH):Int:=if a<b then -1 else if b<a then 1 else 0
theorem TQ {b:aH}(h:a<b):vS a b=-1:=by unfold vS;rw[bR h]
theorem TR {b:aH}(h:¬ a<b):0<=vS a b:=by
 unfold vS;rw[aU h]
 split<;>omega
theorem TS {b:aH}(h:¬ a<b):decide (vS a b=0)=decide (a=b):=by
 unfold vS;rw[aU h]
 split
 ·rename_i h2
  rw[dX (by omega),dX (λq=>by subst q;exact List.lt_irrefl _ h2)]
 ·rename_i h2
  rw[jV rfl,jV (qG (List.not_lt.1 h2) (List.not_lt.1 h))]
theorem Lr (x:ByteArray)(w:World):Calls Tryz.prog 187 #[.string x] w λe w'=>e=.returned (.bool false)/\w'=w:=by
 go_enter Tryz.func187,Tryz.ntmps187;go_wp2;go_ret;exact⟨by simp,rfl⟩
theorem Dg (x y:ByteArray)(w:World):Calls Tryz.prog 127 #[.string x,.string y] w λe w'=>e=.returned (.int .i64 (vS x.data.toList y.data.toList))/\w'=w:=by
 have h1:Op.bytesLess x.toList y.toList=decide (x.data.toList<y.data.toList):=by simp only[Lib.toList_data,Go.Proofs.bytesLess_eq]
 have h2:Op.bytesLess y.toList x.toList=decide (y.data.toList<x.data.toList):=by simp only[Lib.toList_data,Go.Proofs.bytesLess_eq]
 unfold vS
 by_cases a:x.data.toList<y.data.toList
 ·rw[bR a]
  rw[jV a] at h1;clear h2 a;go_enter Tryz.func127,Tryz.ntmps127;go_wp2_with (go_at_call 187;refine(Lr _ _).mono ?_;rintro e w' ⟨rfl,rfl⟩);go_ret;exact⟨rfl,rfl⟩
 ·rw[aU a]
  rw[dX a] at h1
  have h3:(x.toList == y.toList)=decide (x.data.toList=y.data.toList):=by rw[Bool.eq_iff_iff];simp only[Lib.toList_data,beq_iff_eq,AZ]
  by_cases b:y.data.toList<x.data.toList
  ·rw[bR b]
   rw[dX (λq=>by rw[q] at b;exact List.lt_irrefl _ b)] at h3;clear a b h2;go_enter Tryz.func127,Tryz.ntmps127;go_wp2_with (go_at_call 187;refine(Lr _ _).mono ?_;rintro e w' ⟨rfl,rfl⟩);go_ret;exact⟨rfl,rfl⟩
  ·rw[aU b]
   rw[jV (qG (List.not_lt.1 b) (List.not_lt.1 a))] at h3;clear a b h2;go_enter Tryz.func127,Tryz.ntmps127;go_wp2_with (go_at_call 187;refine(Lr _ _).mono ?_;rintro e w' ⟨rfl,rfl⟩);go_ret;exact⟨rfl,rfl⟩
theorem acH {l:List Value}(h:l.length=4):∃ a b c d,l=[a,b,c,d]:=by
 match l,h with
 | [a,b,c,d],_=>exact⟨a,b,c,d,rfl⟩
theorem Om {v0 v1 v2 v3 v4:Value}(h:w.heap[b]?=some (.cells #[v0,v1,v2,v3,v4] 175 (0,0))):w.cell? ⟨b,0,none⟩=some v0:=by rw[aZ h];rfl
theorem Tryz.RJ:∀ args w,(callFunc 126 args).run Tryz.prog w=.ok (.enter 126 args) w:=Go.Proofs.enters_of Tryz.func126 (by kernel_rfl) rfl
theorem Oo (k x:aH)(v1 v2 v3 v4:Value)(w:World) :
  Calls Tryz.prog 126 (#[.agg #[.string ⟨k.toArray⟩,v1,v2,v3,v4],.string ⟨x.toArray⟩]++#[]) w λe w'=>e=.returned (.int .i64 (vS k x))/\Below w.heap.size w w':=by
 have hal:=aA w (.cells #[.string ⟨k.toArray⟩,v1,v2,v3,v4] 175);have hN:=aX w (.cells #[.string ⟨k.toArray⟩,v1,v2,v3,v4] 175);have HC:=ay (λW=>Dg ⟨k.toArray⟩ ⟨x.toArray⟩ W);simp only at HC;show Calls Tryz.prog 126 #[.agg #[.string ⟨k.toArray⟩,v1,v2,v3,v4],.string ⟨x.toArray⟩] w _;generalize vS k x=c at *;go_enter Tryz.func126,Tryz.ntmps126
 go_upto_region 1 with fail
 change Code.wp _ _ _ _ (w.alloc (.cells #[.string ⟨k.toArray⟩,v1,v2,v3,v4] 175));generalize w.alloc _=w1 at hal hN |-;have c0:=Om hN;go_wp2_with (go_at_call 127;refine(HC.out _).mono ?_;rintro e w2 ⟨rfl,rfl⟩);go_ret;exact⟨rfl,hal⟩
def Zd (w:World)(b off:Nat)(l:ML):Prop:=∀ i,(hi:i<l.length)->∀ j u,(bf l[i])[j]?=some u->w.cell? ⟨b,off+i * 5+j,none⟩=some u
theorem Zd.below {off:Nat}(h:Zd w b off l)(hb:Below w.heap.size w w'):Zd w' b off l:=λi hi j u hu=>jo hb (h i hi j u hu)
theorem Oq (ao:Option Addr)(cap:Nat)(l:ML)(x:aH)(w:World)(hw:xR 4 l)(h:0<l.length->∃ b off,ao=some ⟨b,off,none⟩/\Zd w b off l)(hn:l.length<=1000000) :
  Calls Tryz.prog 125 #[.slice ao l.length cap,.string ⟨x.toArray⟩,.func (.func 126) #[] #[]] w
   λe w'=>e=.returned (.tuple #[.int .i64 (aT l x:Nat),.bool (lJ l x)])/\Below w.heap.size w w':=by
 have HW:=ay hw;have HR:=ay h;have hpl:=lK l x;have HH:=ay (rD hw x);have HI:=ay (λt (ht:t<l.length)=>uT hw (x:=x) ht);generalize hp:aT l x=p at *;have HP:=ay hp;generalize lJ l x=hs at *;have eg:=Tryz.RJ;clear hw h hp;go_enter Tryz.func125,Tryz.ntmps125;go_wp2
 go_loopw [9,10] (λs9 s10 wr=>∃ lo hi:Nat,s9=.int .i64 lo/\s10=.int .i64 hi/\lo<=p/\p<=hi/\hi<=l.length/\Below w.heap.size w wr) (λs9 s10 _=>(intOf s10).toNat - (intOf s9).toNat)
 case atStart=>exact⟨0,l.length,rfl,rfl,kJ _,hpl,bD _,bQ _ _⟩
 case round =>
  obtain⟨lo,hi,rfl,rfl,h1,h2,h3,hb⟩:=hrel;have hz:=hb.size
  by_cases hlt:lo<hi
  ·have hmid:(lo+hi) / 2<l.length:=by omega
   obtain⟨b,off,rfl,hrw⟩:=HR.out (by omega);have hc:=(hrw.below hb) ((lo+hi) / 2) hmid;obtain⟨v1,v2,v3,v4,hv⟩:=acH (HW.out.wid _ (nH hmid));rw[bf,hv] at hc;have x0:=hc 0 _ rfl;have x1:=hc 1 _ rfl;have x2:=hc 2 _ rfl;have x3:=hc 3 _ rfl;have x4:=hc 4 _ rfl;rw[nZ] at x0;have hiff:=HI.out _ hmid;generalize l[(lo+hi) / 2].1=k at x0 hiff;have HC:=ay (λW=>Oo k x v1 v2 v3 v4 W);clear hc hv hrw
   by_cases hm:(lo+hi) / 2<p
   ·have hcv:=TQ (hiff.2 hm)
    rw[hcv] at HC;clear hcv hiff;go_wp2_with (go_at_fn 126;refine(HC.out _).mono ?_;rintro e w2 ⟨rfl,hb2⟩)
    go_roundw
    case rel=>exact⟨(lo+hi) / 2+1,hi,by rw[show ((lo:Int)+(hi:Int)) / 2+1=(((lo+hi) / 2+1:Nat):Int) by omega],rfl,by omega,h2,h3,hb.trans (hb2.mono hz)⟩
    case measure=>simp[intOf];omega
   ·have hcv:=TR (λq=>hm (hiff.1 q))
    generalize vS k x=c at HC hcv
    have hcI:¬ (c<0):=by omega
    clear hiff hcv;go_wp2_with (go_at_fn 126;refine(HC.out _).mono ?_;rintro e w2 ⟨rfl,hb2⟩)
    go_roundw
    case rel=>exact⟨lo,(lo+hi) / 2,rfl,by rw[show ((lo:Int)+(hi:Int)) / 2=(((lo+hi) / 2:Nat):Int) by omega],h1,by omega,by omega,hb.trans (hb2.mono hz)⟩
    case measure=>simp[intOf];omega
  ·obtain rfl:lo=hi:=by omega
   obtain rfl:lo=p:=by omega
   by_cases hn2:lo<l.length
   ·obtain⟨b,off,rfl,hrw⟩:=HR.out (by omega)
    have hc:=(hrw.below hb) lo hn2;obtain⟨v1,v2,v3,v4,hv⟩:=acH (HW.out.wid _ (nH hn2));rw[bf,hv] at hc;have x0:=hc 0 _ rfl;have x1:=hc 1 _ rfl;have x2:=hc 2 _ rfl;have x3:=hc 3 _ rfl;have x4:=hc 4 _ rfl;rw[nZ] at x0;have hiff:=HI.out _ hn2
    have Ze:hs=decide (l[lo].1=x):=by
     rw[HH.out]
     apply decide_eq_decide.2
     exact⟨λ⟨_,q⟩=>q,λq=>⟨hn2,q⟩⟩
    generalize l[lo].1=k at x0 hiff Ze;have hce:=TS (λq:k<x=>Nat.lt_irrefl _ (hiff.1 q));rw[<- Ze] at hce;have HC:=ay (λW=>Oo k x v1 v2 v3 v4 W);have HE:Hid (∀ c,vS k x=c->decide (c=0)=hs):=ay (λc q=>by rw[<- q];exact hce);generalize hcc:vS k x=c at HC;have hc0:=HE.out c hcc;clear hc hv hrw hiff Ze hce hcc HE
    have hnI:(lo:Int)<(l.length:Int):=by omega
    go_wp2_with (go_at_fn 126;refine(HC.out _).mono ?_;rintro e w2 ⟨rfl,hb2⟩);go_ret2;exact⟨by rw[<- hc0];rfl,hb.trans (hb2.mono hz)⟩
   ·have Ze:hs=false:=by
     rw[HH.out];exact dX (λ⟨q,_⟩=>hn2 q)
    subst Ze
    have hnI:¬ (lo:Int)<(l.length:Int):=by omega
    go_wp2;go_ret2;exact⟨by simp,hb⟩
structure zx (B mb:Nat) (v:Value) (l:ML) (w:World):Prop where
 wf:xR 4 l
 box:w.heap[mb]?=some (.cells #[v] 169 (0,0))
 own:w.ownsRow B 175 5 v l.length (dZ l)
theorem zx.below {mb:Nat}(h:zx B mb v l w)(hb:Below w.heap.size w w'):zx B mb v l w' :=
 ⟨h.wf,(hb.block mb (bP h.box).1).trans h.box,own_below h.own hb⟩
theorem zx.slice {B mb:Nat}{v:Value}{l:ML}{w:World}(h:zx B mb v l w):∃ ao cap,v=.slice ao l.length cap/\(0<l.length->∃ b off,ao=some ⟨b,off,none⟩/\Zd w b off l):=by
 obtain⟨ao,cap,hv,hn,hl,hc⟩:=Sl.fQ h.own;refine⟨ao,cap,hv,λh0=>?_⟩;obtain⟨b,off,e,hlt,hcell⟩:=hc h0;refine⟨b,off,e,λi hi j u hu=>?_⟩
 have hj:j<5:=by
  rcases Nat.lt_or_ge j 5 with q|q
  ·exact q
  ·rw[List.getElem?_eq_none (by rw[bf,fu,h.wf.wid _ (nH hi)];exact q)] at hu;cases hu
 obtain⟨h',e'⟩:=pE ((Lp h.wf.wid i j hi hj).trans hu);have:=hcell (i * 5+j) h';rw[vN,this,e']
theorem sM (h:w.heap[b]?=some (.cells #[v] 169 (0,0))):w.cell? ⟨b,0,none⟩=some v/\w.frozen? ⟨b,0,none⟩=false:=⟨by rw[aZ h];rfl,by simp[World.frozen?,h]⟩
theorem JO (B mb:Nat)(v:Value)(l:ML)(x:aH)(w:World)(h:zx B mb v l w)(hn:l.length<=1000000) :
  Calls Tryz.prog 80 #[.pointer (some ⟨mb,0,none⟩),.string ⟨x.toArray⟩] w
   λe w'=>e=.returned (.tuple #[.int .i64 (aT l x:Nat),.bool (lJ l x)])/\Below w.heap.size w w':=by
 obtain⟨ao,cap,rfl,hr⟩:=h.slice;have c0:=(sM h.box).1;have HS:=ay (Oq ao cap l x w h.wf hr hn);generalize aT l x=p at *;generalize lJ l x=q at *;clear h hr;go_enter Tryz.func80,Tryz.ntmps80;go_wp2_with (go_at_call 125;refine HS.out.mono ?_;rintro e w2 ⟨rfl,hb2⟩);go_ret2;exact⟨rfl,hb2⟩
def qA (w:World)(b:Nat)(v0 v1 v2 v3:Value):World:=(((w.setCell ⟨b,0,none⟩ v0).setCell ⟨b,1,none⟩ v1).setCell ⟨b,2,none⟩ v2).setCell ⟨b,3,none⟩ v3
theorem fZ {w0:World}(h:Below B w0 w)(hb:B<=b)(v0 v1 v2 v3:Value):Below B w0 (qA w b v0 v1 v2 v3) :=
 (((h.setCell hb _).setCell hb _).setCell hb _).setCell hb _
theorem iM {T:TypeId}(h:w.heap[b]?=some (.cells #[c0,c1,c2,c3] T (0,0)))(v0 v1 v2 v3:Value) :
  (qA w b v0 v1 v2 v3).heap[b]?=some (.cells #[v0,v1,v2,v3] T (0,0)) :=
 jN _ b 3 _ _ v3 (jN _ b 2 _ _ v2 (jN _ b 1 _ _ v1 (jN w b 0 _ _ v0 h)))
theorem mF {T:TypeId}(h:w.heap[b]?=some (.cells #[c0,c1,c2,c3] T (0,0))):(w.cell? ⟨b,0,none⟩=some c0/\w.cell? ⟨b,1,none⟩=some c1/\w.cell? ⟨b,2,none⟩=some c2/\w.cell? ⟨b,3,none⟩=some c3)/\(w.frozen? ⟨b,0,none⟩=false/\w.frozen? ⟨b,1,none⟩=false/\w.frozen? ⟨b,2,none⟩=false/\w.frozen? ⟨b,3,none⟩=false):=by
 refine⟨⟨?_,?_,?_,?_⟩,?_,?_,?_,?_⟩
 ·rw[aZ h];rfl
 ·rw[aZ h];rfl
 ·rw[aZ h];rfl
 ·rw[aZ h];rfl
 ·simp[World.frozen?,h]
 ·simp[World.frozen?,h]
 ·simp[World.frozen?,h]
 ·simp[World.frozen?,h]
def BU (l:ML)(x:aH)(w:World)(e:Ending)(w':World):Prop :=
 (match oh l x with|none=>e=.returned (.tuple #[.agg #[.string ⟨#[]⟩,.slice none 0 0,.int .i64 0,.slice none 0 0],.bool false])|some v=>e=.returned (.tuple #[.agg v.toArray,.bool true]))/\Below w.heap.size w w'
theorem BU.no (h:oh l x=none)(he:e=.returned (.tuple #[.agg #[.string ⟨#[]⟩,.slice none 0 0,.int .i64 0,.slice none 0 0],.bool false]))(hb:Below w.heap.size w w'):BU l x w e w':=⟨by rw[h];exact he,hb⟩
theorem BU.yes {v:List Value}(h:oh l x=some v)(he:e=.returned (.tuple #[.agg v.toArray,.bool true]))(hb:Below w.heap.size w w'):BU l x w e w':=⟨by rw[h];exact he,hb⟩
theorem Ot (B mb:Nat)(v:Value)(l:ML)(x:aH)(w:World)(h:zx B mb v l w)(hn:l.length<=1000000) :
  Calls Tryz.prog 36 #[.pointer (some ⟨mb,0,none⟩),.string ⟨x.toArray⟩] w (BU l x w):=by
 have hal:=aA w (.cells #[.string ⟨#[]⟩,.slice none 0 0,.int .i64 0,.slice none 0 0] 115);have hR:=aX w (.cells #[.string ⟨#[]⟩,.slice none 0 0,.int .i64 0,.slice none 0 0] 115);have h1:=h.below hal;have HM:=ay h1;have HF:=ay (JO B mb v l x (w.alloc (.cells #[.string ⟨#[]⟩,.slice none 0 0,.int .i64 0,.slice none 0 0] 115)) h1 hn);have hmb:=(bP h.box).1;have hpl:=lK l x;have HH:=ay (rD h.wf x);have HN:=ay (λ(q:lJ l x=false)=>VU q);have HG:=ay (λi (hi:i<l.length) e=>TN h.wf (x:=x) (i:=i) hi e);clear h h1;generalize hp:aT l x=p at *;generalize lJ l x=q at *;clear hp;go_enter Tryz.func36,Tryz.ntmps36
 go_upto_region 1 with fail
 change Code.wp _ _ _ _ (w.alloc (.cells #[.string ⟨#[]⟩,.slice none 0 0,.int .i64 0,.slice none 0 0] 115))
 have hz:w.heap.size<(w.alloc (.cells #[.string ⟨#[]⟩,.slice none 0 0,.int .i64 0,.slice none 0 0] 115)).heap.size:=by simp
 generalize w.alloc _=w1 at *
 go_upto_region 2 with (go_at_call 80;refine HF.out.mono ?_;rintro e w2 ⟨rfl,hb2⟩)
 have hR2:=(hb2.block _ hz).trans hR;have hM2:=HM.out.below hb2;have hbw:=hal.trans (hb2.mono hal.size);have hz2:=hb2.size;clear HF HM hR hal
 cases q with
 | false =>
  have hnone:=ay (HN.out rfl);clear HN HG HH;have fJ:=aA w2 (.cells #[.string ⟨#[]⟩,.slice none 0 0,.int .i64 0,.slice none 0 0] 115);have hN3:=aX w2 (.cells #[.string ⟨#[]⟩,.slice none 0 0,.int .i64 0,.slice none 0 0] 115);have hR3:=(fJ.block w.heap.size (by omega)).trans hR2
  go_upto_region 4 with fail
  change Code.wp _ _ _ _ (w2.alloc (.cells #[.string ⟨#[]⟩,.slice none 0 0,.int .i64 0,.slice none 0 0] 115));have rX:=hbw.trans (fJ.mono hbw.size);generalize w2.alloc _=w3 at *;obtain⟨⟨a0,a1,a2,a3⟩,-⟩:=mF hN3;obtain⟨⟨c0,c1,c2,c3⟩,f0,f1,f2,f3⟩:=mF hR3;go_wp2;change bodyPost _ _ _ _ _ (qA w3 w.heap.size (.string ⟨#[]⟩) (.slice none 0 0) (.int .i64 0) (.slice none 0 0));have hP:=iM hR3 (.string ⟨#[]⟩) (.slice none 0 0) (.int .i64 0) (.slice none 0 0);have H8:=fZ rX (bD _) (.string ⟨#[]⟩) (.slice none 0 0) (.int .i64 0) (.slice none 0 0);generalize qA w3 _ _ _ _ _=w4 at *;obtain⟨⟨d0,d1,d2,d3⟩,-⟩:=mF hP;exact nI (v:=.tuple #[.agg #[.string ⟨#[]⟩,.slice none 0 0,.int .i64 0,.slice none 0 0],.bool false]) (by simp[results,Tryz.results36,go_sem,d0,d1,d2,d3]) rfl (BU.no hnone.out rfl H8)
 | true =>
  have hq:=HH.out;obtain⟨hpn,hpx⟩:=PY hq.symm;have hg:=HG.out p hpn hpx;obtain⟨ao,cap,rfl,hr⟩:=hM2.slice;obtain⟨b,off,rfl,hrw⟩:=hr (by omega);have hc:=hrw p hpn;obtain⟨v1,v2,v3,v4,hv⟩:=acH (hM2.wf.wid _ (nH hpn));rw[hv] at hg;rw[bf,hv] at hc;have x1:=hc 1 _ rfl;have x2:=hc 2 _ rfl;have x3:=hc 3 _ rfl;have x4:=hc 4 _ rfl;have m0:=(sM hM2.box).1;have hG:=ay hg;have ho:=hM2.wf.one _ (nH hpn);rw[hv] at ho
  have s1:=λa m W=>run_store Tryz.prog W a v1 m (ho v1 (by simp))
  have s2:=λa m W=>run_store Tryz.prog W a v2 m (ho v2 (by simp))
  have s3:=λa m W=>run_store Tryz.prog W a v3 m (ho v3 (by simp))
  have s4:=λa m W=>run_store Tryz.prog W a v4 m (ho v4 (by simp))
  clear ho;obtain⟨⟨c0,c1,c2,c3⟩,f0,f1,f2,f3⟩:=mF hR2;clear hc hv hg hq HH HG HN hpx hrw hr hM2;go_wp2;change bodyPost _ _ _ _ _ (qA w2 w.heap.size v1 v2 v3 v4);have hP:=iM hR2 v1 v2 v3 v4;have H8:=fZ hbw (bD _) v1 v2 v3 v4;generalize qA w2 _ _ _ _ _=w4 at *;obtain⟨⟨d0,d1,d2,d3⟩,-⟩:=mF hP;exact nI (v:=.tuple #[.agg #[v1,v2,v3,v4],.bool true]) (by simp[results,Tryz.results36,go_sem,d0,d1,d2,d3]) rfl (BU.yes hG.out rfl H8)
theorem iB {P:Program}(w:World)(dT sT ty elem:TypeId)(k g o dLen dCap:Nat)(a:Addr)(sLen sCap:Nat)(cur:Array Value)(t:TypeId)(cs:List Value)
  (hu:P.underlying dT=some (.slice elem)) (hs:(P.info? elem).map (·.size)=some k) (hg:w.heap[g]?=some (.cells cur t (0,0))) (hn:cs.length=Nat.min sLen dLen * k)
  (hsrc:∀ j v,cs[j]?=some v->w.cell? (a.add j)=some v) (hfit:o+cs.length<=cur.size) (h1:∀ v∈cs,v.oneCell'=true) :
  (Builtin.copy_ #[dT,sT] ty #[.slice (some ⟨g,o,none⟩) dLen dCap,.slice (some a) sLen sCap]).run P w =
   .ok (goInt (Nat.min sLen dLen)) (w.setRow g (cur.toList.take o++cs++cur.toList.drop (o+cs.length)).toArray):=by
 have hf:=run_firstCells_some (P:=P) w k (Nat.min sLen dLen) a sLen sCap cs hn hsrc;have hst:=run_storeCells_at P g o t cs 0 cur w hg (by simpa using hfit) h1
 cases hq:P.info? elem with
 | none=>simp[hq] at hs
 | some i =>
  have hi:i.size=k:=by simpa [hq] using hs
  simp[Builtin.copy_,run_underlying hu,Builtin.lenOf,sizeOf,typeInfo,hq,hi,hf,hst]
theorem Au {n:Nat}{t:TypeId}{fr:Nat × Nat}(h:w.heap[g]?=some (.cells cur t fr))(hn:cur.size=n):w.shape? g=some (t,n):=by
 subst hn;simp only[World.shape?,h]
theorem setRow_size (w:World)(g:Nat)(A:Array Value):(w.setRow g A).heap.size=w.heap.size:=by simp[World.setRow]
theorem qK {t:TypeId}(hg:w.heap[g]?=some (.cells cur t (0,0))){j:Nat}(h:cur.toList[j]?=some v):w.cell? ⟨g,j,none⟩=some v:=by
 simp only[World.cell?,hg];rw[Array.getElem?_toList] at h
 simpa using h
theorem F6 (cur:List Value)(n i k:Nat)(hi:i<=n)(hc:(n+1) * k<=cur.length)(nw row:List Value)(hr:cur.take (n * k)=row)(hw:nw.length=k) :
  let c1:=cur.take ((i+1) * k)++row.drop (i * k)++cur.drop ((i+1) * k+(row.drop (i * k)).length)
  let c2:=c1.take (i * k)++nw++c1.drop (i * k+nw.length)
  c1.length=cur.length/\c2.length=cur.length/\c2.take ((n+1) * k)=row.take (i * k)++(nw++row.drop (i * k)):=by
 have e1:(n+1) * k=n * k+k:=Nat.succ_mul n k;have e2:(i+1) * k=i * k+k:=Nat.succ_mul i k;have e3:i * k<=n * k:=Nat.mul_le_mul_right k hi;rw[e1] at hc
 have hrl:row.length=n * k:=by rw[<- hr,pK];omega
 have hd:(row.drop (i * k)).length=n * k - i * k:=by rw[yL,hrl]
 simp only[e1,e2,hd,hw];generalize hN:n * k=N at *;generalize hI:i * k=I at *
 have hl1:(cur.take (I+k)++row.drop I++cur.drop (I+k+(N - I))).length=cur.length:=by
  rw[bY,bY,pK,yL,yL,hrl];omega
 refine⟨hl1,?_,?_⟩
 ·rw[bY,bY,pK,yL,hl1,hw];omega
 ·have ht:(cur.take (I+k)++row.drop I++cur.drop (I+k+(N - I))).take I=row.take I:=by
   rw[om,abk (by rw[pK];omega),List.take_take,Nat.min_eq_left (by omega),<- hr,List.take_take,Nat.min_eq_left e3]
  have hdr:(cur.take (I+k)++row.drop I++cur.drop (I+k+(N - I))).drop (I+k)=row.drop I++cur.drop (I+k+(N - I)):=by
   rw[om,List.drop_append_of_le_length (by rw[pK];omega),List.drop_of_length_le (by rw[pK];omega),uD]
  rw[ht,hdr,om]
  have hlt:(row.take I).length=I:=by rw[pK,hrl];omega
  rw[List.take_append,Ba (l:=row.take I) (by rw[hlt];omega),hlt,List.take_append,Ba (l:=nw) (by rw[hw];omega),hw,List.take_append,Ba (l:=row.drop I) (by rw[hd];omega),hd];rw[show N+k - I - k - (N - I)=0 by omega,List.take_zero,List.append_nil]
theorem Dh (R:List Value)(n i k:Nat)(hi:i<=n)(hc:(n+1) * k<=R.length)(nw row:List Value)(hr:R.take (i * k)=row.take (i * k))(hrl:row.length=n * k)(hw:nw.length=k) :
  let c1:=R.take (i * k)++nw++R.drop (i * k+nw.length)
  let c2:=c1.take ((i+1) * k)++row.drop (i * k)++c1.drop ((i+1) * k+(row.drop (i * k)).length)
  c1.length=R.length/\c2.length=R.length/\c2.take ((n+1) * k)=row.take (i * k)++(nw++row.drop (i * k)):=by
 have e1:(n+1) * k=n * k+k:=Nat.succ_mul n k;have e2:(i+1) * k=i * k+k:=Nat.succ_mul i k;have e3:i * k<=n * k:=Nat.mul_le_mul_right k hi;rw[e1] at hc
 have hd:(row.drop (i * k)).length=n * k - i * k:=by rw[yL,hrl]
 simp only[e1,e2,hd,hw];generalize hN:n * k=N at *;generalize hI:i * k=I at *
 have hl0:(R.take I).length=I:=by rw[pK];omega
 have hl1:(R.take I++nw++R.drop (I+k)).length=R.length:=by
  rw[bY,bY,hl0,yL,hw];omega
 refine⟨hl1,?_,?_⟩
 ·rw[bY,bY,pK,hd,yL,hl1];omega
 ·have ht:(R.take I++nw++R.drop (I+k)).take (I+k)=row.take I++nw:=by
   rw[abk (by rw[bY,hl0,hw];omega),Ba (by rw[bY,hl0,hw];omega),hr]
  have hl2:(row.take I).length=I:=by rw[<- hr,hl0]
  rw[ht,om,om,List.take_append,Ba (l:=row.take I) (by rw[hl2];omega),hl2,List.take_append,Ba (l:=nw) (by rw[hw];omega),hw,List.take_append,Ba (l:=row.drop I) (by rw[hd];omega),hd];rw[show N+k - I - k - (N - I)=0 by omega,List.take_zero,List.append_nil]
open Go.Lib
theorem Tryz.BX:(Tryz.prog.info? 175).map (λi=>(i.zero,i.size,i.bytes))=some (some (.agg #[.string ⟨#[]⟩,.string ⟨#[]⟩,.slice none 0 0,.int .i64 0,.slice none 0 0]),5,88):=by kernel_rfl
def RL (B:Nat)(v:Value)(l:ML)(x:aH)(vs:List Value)(w:World)(e:Ending)(w':World):Prop :=
 ∃ g cap,e=.returned (.slice (some ⟨g,0,none⟩) (l.length+1) cap)/\w'.ownsRow B 175 5 (.slice (some ⟨g,0,none⟩) (l.length+1) cap) (l.length+1) (dZ (oW l x vs))/\w.grownBy w' v.ownBlock/\(v.ownBlock=some g\/w.heap.size<=g)
theorem DU (B sb:Nat)(v:Value)(l:ML)(x:aH)(vs:List Value)(w:World)(hw:xR 4 l)(hB:B<=w.heap.size)(hn:l.length<=1000000)(hp:aT l x=l.length)(hvl:vs.length=4)(h1:∀ u∈vs,u.oneCell'=true)
  (hown:w.ownsRow B 175 5 v l.length (dZ l)) (hsb:w.heap[sb]?=some (.cells (bf (x,vs)).toArray 175 (0,0))) :
  Calls Tryz.prog 81 #[v,.int .i64 l.length,.slice (some ⟨sb,0,none⟩) 1 1] w (RL B v l x vs w):=by
 obtain⟨i0,hi,hz0,hz1,hz2⟩:=info_parts Tryz.BX
 have hrow:dZ (oW l x vs)=dZ l++bf (x,vs):=by
  rw[tY l x vs hw.wid,hp,Ba (by rw[j4 hw.wid];omega),List.drop_of_length_le (by rw[j4 hw.wid];omega),List.append_nil]
 have hnl:(bf (x,vs)).length=1 * 5:=by rw[bf,fu,hvl]
 have hn1:∀ u∈bf (x,vs),u.oneCell'=true:=λu hu=>by
  rcases nY.1 hu with q|q
  ·rw[q];rfl
  ·exact h1 u q
 have HW:=ay hown;have HR:=ay hrow;have hnews:=vL hsb;unfold RL;generalize hmr:dZ l=mr at *;generalize dZ (oW l x vs)=mr' at *;generalize hmc:bf (x,vs)=mc at *;generalize hnn:l.length=n at *;clear hrow hp hmr hmc hw hsb hnn
 rcases hown.2 with ⟨rfl,rfl⟩|⟨g,cap,cur,rfl,hg,hh,hnc,hm,hs,hx⟩
 ·clear hown
  go_enter Tryz.func81,Tryz.ntmps81;go_wp2_with (at_builtin;refine wpList_append_lies _ rfl _ _ 167 rfl B 175 i0 _ 5 88 Tryz.underlying167 hi hz0 hz1 hz2 rfl (by decide) _ 0 _ rfl HW.out ⟨sb,0,none⟩ 1 1 _ rfl hnl hnews hn1 (by decide) (by unfold maxLen;omega) (by omega) hB _ rfl ?_;intro g cap w' hown' hgrow hor hlt);go_ret;exact⟨g,cap,rfl,by rw[HR.out];exact hown',hgrow,hor.imp id (λq=>by omega)⟩
 ·clear hown hh hs hx hg
  unfold maxLen at hm;go_enter Tryz.func81,Tryz.ntmps81;go_wp2_with (at_builtin;refine wpList_append_lies _ rfl _ _ 167 rfl B 175 i0 _ 5 88 Tryz.underlying167 hi hz0 hz1 hz2 rfl (by decide) _ n _ rfl HW.out ⟨sb,0,none⟩ 1 1 _ rfl hnl hnews hn1 (by decide) (by unfold maxLen;omega) (by omega) hB _ rfl ?_;intro g cap w' hown' hgrow hor hlt)
  all_goals
   go_ret;exact⟨g,cap,rfl,by rw[HR.out];exact hown',hgrow,hor.imp id (λq=>by omega)⟩
theorem F7 (B sb g c:Nat)(l:ML)(x:aH)(vs:List Value)(w:World)(hw:xR 4 l)(hn:l.length<=1000000)(hp:aT l x<l.length)(hvl:vs.length=4)(h1:∀ u∈vs,u.oneCell'=true)(hroom:l.length+1<=c)
  (hown:w.ownsRow B 175 5 (.slice (some ⟨g,0,none⟩) l.length c) l.length (dZ l)) (hsb:w.heap[sb]?=some (.cells (bf (x,vs)).toArray 175 (0,0))) (hne:sb≠g) :
  Calls Tryz.prog 81 #[.slice (some ⟨g,0,none⟩) l.length c,.int .i64 (aT l x:Nat),.slice (some ⟨sb,0,none⟩) 1 1] w (RL B (.slice (some ⟨g,0,none⟩) l.length c) l x vs w):=by
 obtain⟨i0,hi0,hz0,hzs,hzb⟩:=info_parts Tryz.BX
 have hsz:(Tryz.prog.info? 175).map (·.size)=some 5:=by rw[hi0];simp[hzs]
 have hnl:(bf (x,vs)).length=5:=by rw[bf,fu,hvl]
 have hn1:∀ u∈bf (x,vs),u.oneCell'=true:=λu hu=>by
  rcases nY.1 hu with q|q
  ·rw[q];rfl
  ·exact h1 u q
 have Ls:w.heap[sb]?=some (.cells (bf (x,vs)).toArray 175 (0,0)):=hsb
 have ael:(bf (x,vs)).toArray.size=5:=by rw[List.size_toArray,hnl]
 have hr1:=wR hw;have hrl:=j4 hw.wid;have hnews:=vL hsb;have hrow:=tY l x vs hw.wid
 rcases hown.2 with ⟨hv,_⟩|⟨g',jw,cur,hv,hg,hh,hnc,hm,hs,hx⟩
 ·cases hv
 simp only[Value.slice.injEq,Option.some.injEq,Addr.mk.injEq,and_true] at hv;obtain⟨rfl,-,rfl⟩:=hv;unfold maxLen at hm
 have hcl:cur.toList.length=c * 5:=by rw[Array.length_toList,hs]
 have hins:=F6 cur.toList l.length (aT l x) 5 (Nat.le_of_lt hp) (by omega) (bf (x,vs)) (dZ l) hx hnl;simp only at hins;obtain⟨k1,k2,k3⟩:=hins;rw[<- hrow] at k3;unfold RL;generalize dZ (oW l x vs)=mr' at *;generalize hmr:dZ l=mr at *;generalize hmc:bf (x,vs)=mc at *;generalize hii:aT l x=i at *;generalize hnn:l.length=n at *;clear hrow hmr hmc hw hsb hnn hii h1 hvl
 have hdl:(mr.drop (i * 5)).length=(n - i) * 5:=by rw[yL,hrl];omega
 -- the two copies
 obtain⟨c1,hc1⟩:∃ c1,c1=cur.toList.take ((i+1) * 5)++mr.drop (i * 5)++cur.toList.drop ((i+1) * 5+(mr.drop (i * 5)).length):=⟨_,rfl⟩
 rw[<- hc1] at k1 k2 k3
 have hcp1:∀ (W:World),W.heap[g]?=some (.cells cur 175 (0,0))->∀ ty dc sc,(Builtin.copy_ #[167,167] ty #[.slice (some ⟨g,(i+1) * 5,none⟩) (n - i) dc,.slice (some ⟨g,i * 5,none⟩) (n+1 - i) sc]).run Tryz.prog W=.ok (goInt (n - i:Nat)) (W.setRow g c1.toArray):=λW hW ty dc sc=>by
  have hmin:Nat.min (n+1 - i) (n - i)=n - i:=by simp only[Nat.min_def];split<;>omega
  have:=iB (P:=Tryz.prog) W 167 167 ty 175 5 g ((i+1) * 5) (n - i) dc ⟨g,i * 5,none⟩ (n+1 - i) sc cur _ (mr.drop (i * 5)) Tryz.underlying167 hsz hW (by rw[hmin,hdl])
   (λj v hj=>by
    rw[List.getElem?_drop,<- hx] at hj;rw[List.getElem?_take] at hj
    split at hj
    ·rw[Addr.add_lit]
     exact qK hW hj
    ·cases hj) (by rw[hdl,hs];omega) (λv hv=>hr1 v (List.mem_of_mem_drop hv))
  rw[hmin,<- hc1] at this;exact this
 obtain⟨c2,hc2⟩:∃ c2,c2=c1.take (i * 5)++mc++c1.drop (i * 5+mc.length):=⟨_,rfl⟩
 rw[<- hc2] at k2 k3
 have hcp2:∀ (W:World),W.heap[g]?=some (.cells c1.toArray 175 (0,0))->(∀ j u,mc[j]?=some u->W.cell? ((⟨sb,0,none⟩:Addr).add j)=some u)->∀ ty dc,(Builtin.copy_ #[167,167] ty #[.slice (some ⟨g,i * 5,none⟩) (n+1 - i) dc,.slice (some ⟨sb,0,none⟩) 1 1]).run Tryz.prog W=.ok (goInt 1) (W.setRow g c2.toArray):=λW hW hsrc ty dc=>by
  have hmin:Nat.min 1 (n+1 - i)=1:=by simp only[Nat.min_def];split<;>omega
  have:=iB (P:=Tryz.prog) W 167 167 ty 175 5 g (i * 5) (n+1 - i) dc ⟨sb,0,none⟩ 1 1 c1.toArray _ mc Tryz.underlying167 hsz hW (by rw[hmin,hnl]) hsrc (by rw[List.size_toArray,k1,hnl,hcl];omega) hn1;rw[hmin,List.toList_toArray,<- hc2] at this;exact this
 have hbg:g<w.heap.size:=(bP hh).1
 have hov:∀ lb cb,(callFunc 128 #[.slice (some ⟨sb,0,none⟩) 1 1,.slice (some ⟨g,(i+1) * 5,none⟩) lb cb]).run Tryz.prog w=.ok (.value (.bool false)) w:=λlb cb=>by
  rw[run_callFunc_extern Tryz.func128 (by kernel_rfl) (by kernel_rfl) (by kernel_rfl) (e:=Extern.SlicesOverlaps.overlaps #[167,167] #[4]) (by kernel_rfl),
   Lib.run_overlaps_apart w 167 4 175 Tryz.underlying167 5 Tryz.sizeOf175 ⟨sb,0,none⟩ ⟨g,(i+1) * 5,none⟩ 1 1 lb cb hne 175 175 5 (c * 5) (Au Ls ael) (Au hh hs) (by omega) (by simp[World.frozen?,Ls]) (by simp[World.frozen?,Ls])]
  rfl
 have hcpA:=hcp1 w.drew hh;have hw1:(w.drew.setRow g c1.toArray).heap[g]?=some (.cells c1.toArray 175 (0,0)):=setRow_heap w.drew g cur _ _ _ hh
 have hcpB:=hcp2 (w.drew.setRow g c1.toArray) hw1 (λj u hj=>by
  rw[show (w.drew.setRow g c1.toArray).cell? ((⟨sb,0,none⟩:Addr).add j)=w.cell? ((⟨sb,0,none⟩:Addr).add j) from by
   rw[Addr.add_lit]
   exact yK (a:=⟨sb,0+j,none⟩) (setRow_other w.drew g sb _ hne)]
  exact hnews j u (by simpa using hj))
 have hw2:((w.drew.setRow g c1.toArray).setRow g c2.toArray).heap[g]?=some (.cells c2.toArray 175 (0,0)):=setRow_heap _ g _ _ _ _ hw1
 have hgr:w.grownBy ((w.drew.setRow g c1.toArray).setRow g c2.toArray) (some g):=⟨rfl,rfl,rfl,by rw[setRow_size,setRow_size];exact bD _,λk hk hkg=>by
  have hkn:k≠g:=λq=>hkg (by rw[q])
  rw[setRow_other _ g k _ hkn,setRow_other _ g k _ hkn]
  rfl⟩
 have mixed:Tryz.prog.follows .mixedOrders=true:=by kernel_rfl
 have hwr:IntKind.i64.wrap ((i:Int)+1)=(i:Int)+1:=by rw[IntKind.wrap_i64];omega
 have hb1:(0:Int)<=(i:Int)+1:=by omega
 have hb5:(i:Int)+1<=(n:Int)+1:=by omega
 have htn:((i:Int)+1).toNat=i+1:=by omega
 have hb2:¬ (c=i+1):=by omega
 have hb3:(i:Int)<=(n:Int)+1:=by omega
 have hb4:¬ (c=i):=by omega
 have hiI:¬ ((i:Int)=(n:Int)):=by omega
 have HK:=ay k3;clear hcp1 hcp2 hw1 Ls hc1 hc2 hdl k3 hx hown hrl;go_enter Tryz.func81,Tryz.ntmps81;go_wp2_with (simp only[hov])
 go_region_law_o (refine step_copy_runI rfl _ _ 167 167 rfl _ _ (by simp[Act.eval,Act.put]) (by simp[Act.eval,Act.put]) (hcpA _ _ _) ?_)
 go_wp2_with (at_builtin;refine wpList_copy_runI _ rfl _ _ 167 167 rfl _ _ rfl rfl (hcpB _ _) ?_);go_ret;exact⟨g,c,rfl,⟨by rw[<- HK.out,pK,k2,hcl];omega,.inr ⟨g,c,c2.toArray,rfl,hg,hw2,hroom,by unfold maxLen;exact hm,by rw[List.size_toArray,k2,hcl],by rw[List.toList_toArray];exact HK.out⟩⟩,hgr,.inl rfl⟩
theorem DW (B sb g c:Nat)(l:ML)(x:aH)(vs:List Value)(w:World)(hw:xR 4 l)(hB:B<=w.heap.size)(hn:l.length<=1000000)(hp:aT l x<l.length)(hvl:vs.length=4)(h1:∀ u∈vs,u.oneCell'=true)(hroom:c<l.length+1)
  (hown:w.ownsRow B 175 5 (.slice (some ⟨g,0,none⟩) l.length c) l.length (dZ l)) (hsb:w.heap[sb]?=some (.cells (bf (x,vs)).toArray 175 (0,0))) :
  Calls Tryz.prog 81 #[.slice (some ⟨g,0,none⟩) l.length c,.int .i64 (aT l x:Nat),.slice (some ⟨sb,0,none⟩) 1 1] w (RL B (.slice (some ⟨g,0,none⟩) l.length c) l x vs w):=by
 obtain⟨i0,hi0,hz0,hzs,hzb⟩:=info_parts Tryz.BX
 have hsz:(Tryz.prog.info? 175).map (·.size)=some 5:=by rw[hi0];simp[hzs]
 have hnl:(bf (x,vs)).length=5:=by rw[bf,fu,hvl]
 have hn1:∀ u∈bf (x,vs),u.oneCell'=true:=λu hu=>by
  rcases nY.1 hu with q|q
  ·rw[q];rfl
  ·exact h1 u q
 have hr1:=wR hw;have hrl:=j4 hw.wid;have hnews:=vL hsb;have hrow:=tY l x vs hw.wid
 rcases hown.2 with ⟨hv,_⟩|⟨g',jw,cur,hv,hg,hh,hnc,hm,hs,hx⟩
 ·cases hv
 simp only[Value.slice.injEq,Option.some.injEq,Addr.mk.injEq,and_true] at hv;obtain⟨rfl,-,rfl⟩:=hv;have hbs:=(bP hsb).1;have hbg:=(bP hh).1;unfold RL;generalize dZ (oW l x vs)=mr' at *;generalize hmr:dZ l=mr at *;generalize hmc:bf (x,vs)=mc at *;generalize hii:aT l x=i at *;generalize hnn:l.length=n at *;clear hmr hmc hw hsb hnn hii h1 hvl hown
 obtain rfl:c=n:=by omega
 have hdl:(mr.drop (i * 5)).length=(c - i) * 5:=by rw[yL,hrl];omega
 have hcg:∀ j v,mr[j]?=some v->w.cell? ⟨g,j,none⟩=some v:=λj v hj=>by
  rw[<- hx,List.getElem?_take] at hj
  split at hj
  ·exact qK hh hj
  ·cases hj
 have hold:(Builtin.firstCells i0.size i (.slice (some ⟨g,0,none⟩) i c)).run Tryz.prog w.drew=.ok (mr.take (i * 5)).toArray w.drew:=by
  rw[hzs]
  exact run_firstCells_some w.drew 5 i ⟨g,0,none⟩ i c (mr.take (i * 5)) (by rw[pK];omega) (λj v hj=>by
   rw[Addr.add_lit,Nat.zero_add];rw[List.getElem?_take] at hj
   split at hj
   ·exact hcg j v hj
   ·cases hj)
 have hik:i+(c+1 - i)=c+1:=by omega
 have hkk:(c:Int)+1 - (i:Int)=((c+1 - i:Nat):Int):=by omega
 obtain⟨z,hz⟩:∃ z:Value,z=.agg #[.string ⟨#[]⟩,.string ⟨#[]⟩,.slice none 0 0,.int .i64 0,.slice none 0 0]:=⟨_,rfl⟩
 rw[<- hz] at hz0
 have hrz:∀ ty,(Builtin.append_ #[167,3] ty #[.slice (some ⟨g,0,none⟩) i c,.int .i64 ((c:Int)+1 - (i:Int))]).run Tryz.prog w =
   .ok (.slice (some ⟨w.heap.size,0,none⟩) (c+1) (grownCap w (c+1) c 175)) (w.drew.alloc (.cells ((mr.take (i * 5)).toArray++Builtin.zeroCells z.cells (c+1 - i)++Builtin.zeroCells z.cells (grownCap w (c+1) c 175 - (c+1))) 175)):=λty=>by
  have h:=Lib.run_append_grow_zeros w 167 3 ty 175 i0 z .i64 .i64 Tryz.underlying167 Tryz.underlying3 hi0 hz0 (some ⟨g,0,none⟩) i c (mr.take (i * 5)) hold (c+1 - i) (by omega) (by omega) (by omega) (by omega) (by rw[hzb];omega) (by rw[hzb,hik];exact growslice_fits hroom (by omega));rw[hik] at h;rw[hkk];exact h
 have hGn:c+1<=grownCap w (c+1) c 175:=grownCap_ge w _ _ _
 have hG63:grownCap w (c+1) c 175<=9223372036854775807:=by
  have:=grownCap_le_maxLen w (c+1) c 175 (by unfold maxLen;omega);unfold maxLen at this;omega
 generalize grownCap w (c+1) c 175=G at *
 have hzc:∀ k,(Builtin.zeroCells z.cells k).size=k * 5:=λk=>by rw[hz];simp[Builtin.zeroCells,Value.cells]
 obtain⟨ROW,hROW⟩:∃ ROW:Array Value,ROW=(mr.take (i * 5)).toArray++Builtin.zeroCells z.cells (c+1 - i)++Builtin.zeroCells z.cells (G - (c+1)):=⟨_,rfl⟩
 have hRl:ROW.toList.length=G * 5:=by
  rw[hROW,Array.length_toList,Array.size_append,Array.size_append,hzc,hzc,List.size_toArray,pK,hrl];omega
 have hRt:ROW.toList.take (i * 5)=mr.take (i * 5):=by
  rw[hROW,Array.toList_append,Array.toList_append,om,abk (by rw[List.toList_toArray,pK];omega),List.toList_toArray,List.take_take,Nat.min_self]
 rw[<- hROW] at hrz
 obtain⟨W1,hW1⟩:∃ W1,W1=w.drew.alloc (.cells ROW 175):=⟨_,rfl⟩
 rw[<- hW1] at hrz
 have a1:W1.heap[w.heap.size]?=some (.cells ROW 175 (0,0)):=by rw[hW1];exact aX w.drew _
 have a2:∀ k,k<w.heap.size->W1.heap[k]?=w.heap[k]?:=λk hk=>by rw[hW1];exact gZ w.drew _ k hk
 have a3:W1.heap.size=w.heap.size+1:=by rw[hW1];simp
 have a4:W1.os=w.os/\W1.tape=w.tape/\W1.output=w.output:=by rw[hW1];exact⟨rfl,rfl,rfl⟩
 have hins:=Dh ROW.toList c i 5 (Nat.le_of_lt hp) (by rw[hRl];omega) mc mr hRt hrl hnl;simp only at hins;obtain⟨k1,k2,k3⟩:=hins;rw[<- hrow] at k3
 obtain⟨c1,hc1⟩:∃ c1,c1=ROW.toList.take (i * 5)++mc++ROW.toList.drop (i * 5+mc.length):=⟨_,rfl⟩
 rw[<- hc1] at k1 k2 k3
 obtain⟨c2,hc2⟩:∃ c2,c2=c1.take ((i+1) * 5)++mr.drop (i * 5)++c1.drop ((i+1) * 5+(mr.drop (i * 5)).length):=⟨_,rfl⟩
 rw[<- hc2] at k2 k3
 have hcpA:∀ ty dc,(Builtin.copy_ #[167,167] ty #[.slice (some ⟨w.heap.size,i * 5,none⟩) (c+1 - i) dc,.slice (some ⟨sb,0,none⟩) 1 1]).run Tryz.prog W1=.ok (goInt 1) (W1.setRow w.heap.size c1.toArray):=λty dc=>by
  have hmin:Nat.min 1 (c+1 - i)=1:=by simp only[Nat.min_def];split<;>omega
  have:=iB (P:=Tryz.prog) W1 167 167 ty 175 5 w.heap.size (i * 5) (c+1 - i) dc ⟨sb,0,none⟩ 1 1 ROW _ mc Tryz.underlying167 hsz a1 (by rw[hmin,hnl]) (λj u hj=>by
   rw[Addr.add_lit,show W1.cell? ⟨sb,0+j,none⟩=w.cell? ⟨sb,0+j,none⟩ from yK (a:=⟨sb,0+j,none⟩) (a2 sb hbs)];have:=hnews j u (by simpa using hj)
   rwa [Addr.add_lit] at this) (by rw[<- Array.length_toList,hRl,hnl];omega) hn1
  rw[hmin,<- hc1] at this;exact this
 have b1:(W1.setRow w.heap.size c1.toArray).heap[w.heap.size]?=some (.cells c1.toArray 175 (0,0)):=setRow_heap W1 _ ROW _ _ _ a1
 have hcpB:∀ ty dc sc,(Builtin.copy_ #[167,167] ty #[.slice (some ⟨w.heap.size,(i+1) * 5,none⟩) (c - i) dc,.slice (some ⟨g,i * 5,none⟩) (c - i) sc]).run Tryz.prog (W1.setRow w.heap.size c1.toArray).drew=.ok (goInt (c - i:Nat)) ((W1.setRow w.heap.size c1.toArray).drew.setRow w.heap.size c2.toArray):=λty dc sc=>by
  have hmin:Nat.min (c - i) (c - i)=c - i:=Nat.min_self _
  have:=iB (P:=Tryz.prog) (W1.setRow w.heap.size c1.toArray).drew 167 167 ty 175 5 w.heap.size ((i+1) * 5) (c - i) dc ⟨g,i * 5,none⟩ (c - i) sc c1.toArray _ (mr.drop (i * 5)) Tryz.underlying167 hsz b1 (by rw[hmin,hdl])
   (λj v hj=>by
    rw[List.getElem?_drop] at hj;rw[Addr.add_lit,show (W1.setRow w.heap.size c1.toArray).drew.cell? ⟨g,i * 5+j,none⟩=w.cell? ⟨g,i * 5+j,none⟩ from yK (a:=⟨g,i * 5+j,none⟩) ((setRow_other W1 w.heap.size g _ (by omega)).trans (a2 g hbg))]
    exact hcg _ v hj) (by rw[List.size_toArray,k1,hRl,hdl];omega) (λv hv=>hr1 v (List.mem_of_mem_drop hv))
  rw[hmin,List.toList_toArray,<- hc2] at this;exact this
 have b2:((W1.setRow w.heap.size c1.toArray).drew.setRow w.heap.size c2.toArray).heap[w.heap.size]?=some (.cells c2.toArray 175 (0,0)):=setRow_heap _ _ _ _ _ _ b1
 have hgr:w.grownBy ((W1.setRow w.heap.size c1.toArray).drew.setRow w.heap.size c2.toArray) (some g):=⟨a4.1,a4.2.1,a4.2.2,by rw[setRow_size];show w.heap.size<=(W1.setRow w.heap.size c1.toArray).heap.size;rw[setRow_size,a3];omega,λk hk _=>by
  rw[setRow_other _ _ k _ (by omega)]
  exact(setRow_other W1 _ k _ (by omega)).trans (a2 k hk)⟩
 have HK:=ay k3
 have mixed:Tryz.prog.follows .mixedOrders=true:=by kernel_rfl
 have hwr:IntKind.i64.wrap ((i:Int)+1)=(i:Int)+1:=by rw[IntKind.wrap_i64];omega
 have hb1:(0:Int)<=(i:Int)+1:=by omega
 have htn:((i:Int)+1).toNat=i+1:=by omega
 have hb2:¬ (G=i+1):=by omega
 have hb6:¬ (G=i):=by omega
 have hb4:¬ (c=i):=by omega
 have hb5:(i:Int)+1<=(c:Int)+1:=by omega
 have hb3:(i:Int)<=(c:Int)+1:=by omega
 have Ad:(i:Int)<=(c:Int):=by omega
 have hiI:¬ ((i:Int)=(c:Int)):=by omega
 have Zf:=hRl;clear hkk hik hold hROW hRl hRt hc1 hc2 hdl k3 hx hrl hrow hz hz0 hzc hcg hW1 a1 a2 a3 a4 b1 hnews hr1;go_enter Tryz.func81,Tryz.ntmps81
 go_wp2_with (first
  | (at_builtin;refine Lib.wpList_append_run _ rfl _ _ _ _ rfl _ _ rfl rfl _ _ (hrz _) ?_)
  | (at_builtin;refine wpList_copy_runI _ rfl _ _ 167 167 rfl _ _ rfl rfl (hcpA _ _) ?_))
 go_region_law_o (refine step_copy_runI rfl _ _ 167 167 rfl _ _ (by simp[Act.eval,Act.put]) (by simp[Act.eval,Act.put]) (hcpB _ _ _) ?_)
 go_wp2;go_ret;exact⟨w.heap.size,G,rfl,⟨by rw[<- HK.out,pK,k2,Zf];omega,.inr ⟨w.heap.size,G,c2.toArray,rfl,hB,b2,hGn,by unfold maxLen;exact hG63,by rw[List.size_toArray,k2,Zf],by rw[List.toList_toArray];exact HK.out⟩⟩,hgr,.inr (bD _)⟩
theorem Ou (B sb:Nat)(v:Value)(l:ML)(x:aH)(vs:List Value)(w:World)(hw:xR 4 l)(hB:B<=w.heap.size)(hn:l.length<=1000000)(hvl:vs.length=4)(h1:∀ u∈vs,u.oneCell'=true)
  (hown:w.ownsRow B 175 5 v l.length (dZ l)) (hsb:w.heap[sb]?=some (.cells (bf (x,vs)).toArray 175 (0,0))) (hne:some sb≠v.ownBlock) :
  Calls Tryz.prog 81 #[v,.int .i64 (aT l x:Nat),.slice (some ⟨sb,0,none⟩) 1 1] w (RL B v l x vs w):=by
 have hpl:=lK l x
 by_cases hp:aT l x=l.length
 ·have:=DU B sb v l x vs w hw hB hn hp hvl h1 hown hsb
  rw[<- hp] at this;exact this
 ·rcases hown.2 with ⟨_,q⟩|⟨g,cap,cur,rfl,hg,hh,hnc,_⟩
  ·omega
  ·by_cases hr:l.length+1<=cap
   ·exact F7 B sb g cap l x vs w hw hn (by omega) hvl h1 hr hown hsb (λq=>hne (by rw[q];rfl))
   ·exact DW B sb g cap l x vs w hw hB hn (by omega) hvl h1 (by omega) hown hsb
