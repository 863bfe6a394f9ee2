/- Walks and plain laws: Base, BagPlain, Bytes, LexPlain, LexFacts, ParsePlain. -/
import Derived.WalkKit
import Derived.WalkSpells
import Derived.WalkLawsBesides
import Derived.Lib.OthersKept
import Derived.Lib.Hide
import Derived.BigQuiet
import Derived.BigGuardPart
import Derived.Deep.QuietTactic
import Derived.StillTailTactics
import Derived.Deep.RegionHeld3
import Derived.Deep.AppendLies
import Derived.Deep.DrawnRows
import Derived.Deep.DeepCutAuto
import Derived.Lib.SlicesCompact
import Derived.Lib.RowBridge
import Derived.Lib.Bytealg
import Derived.Lib.IndexLaws
set_option maxHeartbeats 16000000
set_option maxRecDepth 100000
set_option linter.unusedVariables false
set_option linter.unusedSimpArgs false
namespace Go.Proofs.YtknicmmigbhpcaaGreatDoor
open Go.RowKit
theorem ah{p:Prop}(h:p):Go.RowKit.Hid p:=Go.Lib.hid h
theorem bG{α}{xs:Array α}{i:Nat}{a:α}(h:xs[i]?=some a):∃ h:i<xs.size,xs[i]=a:=Array.getElem?_eq_some_iff.1 h
theorem mR{α}{xs:List α}{i:Nat}{a:α}(h:xs[i]?=some a):∃ h:i<xs.length,xs[i]=a:=List.getElem?_eq_some_iff.1 h
theorem bH{α β}{o:Option α}{f:α→Option β}{b:β}(h:o.bind f=some b):∃ a,o=some a∧f a=some b:=Option.bind_eq_some_iff.1 h
theorem bN{α}{as bs:List α}:(as++bs).length=as.length+bs.length:=List.length_append
theorem eG{α}{a:α}{as:List α}:(a::as).length=as.length+1:=List.length_cons
def Sl (B:Nat)(w:World)(v:Value)(sz n:Nat)(cs:List Value):Prop :=
 ∃ ao cap,v=.slice ao n cap∧n≤cap∧cs.length=n * sz ∧
  (0<n→∃ b off,ao=some ⟨b,off,none⟩∧b<B∧∀ i,(h:i<cs.length)→w.cell? ⟨b,off+i,none⟩=some cs[i])
theorem Sl.below {B:Nat}{w w':World}{v:Value}{sz n:Nat}{cs:List Value}(h:Sl B w v sz n cs)(hb:Below B w w'):Sl B w' v sz n cs:=by
 obtain⟨ao,cap,hv,hn,hl,hc⟩:=h;refine⟨ao,cap,hv,hn,hl,fun h0=>?_⟩;obtain⟨b,off,ha,hB,hcell⟩:=hc h0;exact⟨b,off,ha,hB,fun i hi=>(hb.cell (p:=⟨b,off+i,none⟩) hB).trans (hcell i hi)⟩
theorem Sl.mono {B B':Nat}{w:World}{v:Value}{sz n:Nat}{cs:List Value}(h:Sl B w v sz n cs)(hB:B≤B'):Sl B' w v sz n cs:=by
 obtain⟨ao,cap,hv,hn,hl,hc⟩:=h;refine⟨ao,cap,hv,hn,hl,fun h0=>?_⟩;obtain⟨b,off,ha,hb,hcell⟩:=hc h0;exact⟨b,off,ha,Nat.lt_of_lt_of_le hb hB,hcell⟩
theorem Sl.eZ {B:Nat}{w:World}{e sz:Nat}{v:Value}{n:Nat}{cs:List Value}(h:w.ownsRow B e sz v n cs):Sl w.heap.size w v sz n cs:=by
 obtain⟨hl,h⟩:=h
 rcases h with ⟨rfl,rfl⟩|⟨g,cap,cur,rfl,hg,hh,hn,hm,hs,hx⟩
 ·exact⟨none,0,rfl,Nat.le_refl _,hl,fun h0=>absurd h0 (by omega)⟩
 ·refine⟨some ⟨g,0,none⟩,cap,rfl,hn,hl,fun _=>⟨g,0,rfl,?_,fun i hi=>?_⟩⟩
  ·rcases Nat.lt_or_ge g w.heap.size with h'|h'
   ·exact h'
   ·simp[Array.getElem?_eq_none h'] at hh
  ·subst hx
   simp only[List.length_take] at hi;simp only[World.cell?,hh,Nat.zero_add,List.getElem_take];simp only[Option.isSome_none,Bool.false_eq_true,if_false];rw[Array.getElem?_eq_getElem (by simpa using (by omega:i<cur.toList.length))]
   simp
theorem wG {α:Type}{f:α→List Value}{sz:Nat}(hf:∀ x,(f x).length=sz):∀ (l:List α) (k j:Nat) (hk:k<l.length),j<sz →
  (l.flatMap f)[k * sz+j]?=(f l[k])[j]?
 | [],k,j,hk,_=>absurd hk (by simp)
 | x :: l,0,j,_,hj=>by
  simp only[List.flatMap_cons,Nat.zero_mul,Nat.zero_add,List.getElem_cons_zero];rw[List.getElem?_append_left (by rw[hf];exact hj)]
 | x :: l,k+1,j,hk,hj=>by
  have:=wG hf l k j (by simpa using hk) hj;simp only[List.flatMap_cons,List.getElem_cons_succ];rw[List.getElem?_append_right (by rw[hf,Nat.succ_mul];omega),hf,show (k+1) * sz+j - sz=k * sz+j by rw[Nat.succ_mul];omega];exact this
def Rec {α:Type}(B:Nat)(w:World)(v:Value)(sz:Nat)(f:α→List Value)(l:List α):Prop:=Sl B w v sz l.length (l.flatMap f)
theorem Rec.form {α:Type}{B:Nat}{w:World}{v:Value}{sz:Nat}{f:α→List Value}{l:List α}(h:Rec B w v sz f l)(hf:∀ x,(f x).length=sz) :
  ∃ ao cap,v=.slice ao l.length cap∧l.length≤cap∧(0<l.length→∃ b off,ao=some ⟨b,off,none⟩∧b<B ∧
   ∀ k j u,(hk:k<l.length)→(f l[k])[j]?=some u→w.cell? ⟨b,off+k * sz+j,none⟩=some u):=by
 obtain⟨ao,cap,hv,hn,hl,hc⟩:=h;refine⟨ao,cap,hv,hn,fun h0=>?_⟩;obtain⟨b,off,ha,hB,hcell⟩:=hc h0;refine⟨b,off,ha,hB,fun k j u hk hu=>?_⟩
 have hj:j<sz:=by
  rcases Nat.lt_or_ge j sz with h'|h'
  ·exact h'
  ·rw[List.getElem?_eq_none (by rw[hf];exact h')] at hu;cases hu
 have hi:=wG hf l k j hk hj;rw[hu] at hi;obtain⟨h',e⟩:=mR hi;have:=hcell (k * sz+j) h';rw[e] at this;rw[Nat.add_assoc];exact this
theorem Rec.below {α:Type}{B:Nat}{w w':World}{v:Value}{sz:Nat}{f:α→List Value}{l:List α}(h:Rec B w v sz f l)(hb:Below B w w'):Rec B w' v sz f l:=Sl.below h hb
theorem Rec.mono {α:Type}{B B':Nat}{w:World}{v:Value}{sz:Nat}{f:α→List Value}{l:List α}(h:Rec B w v sz f l)(hB:B≤B'):Rec B' w v sz f l:=Sl.mono h hB
theorem pV {w:World}{base e sz n:Nat}{v:Value}{xs:List Value}(h:w.ownsRow base e sz v n xs):w.drew.ownsRow base e sz v n xs:=h
theorem own_ne {w:World}{base e sz n k:Nat}{v:Value}{xs:List Value}(hr:w.ownsRow base e sz v n xs){cs:Array Value}{T:TypeId}{fr:Nat × Nat}(hk:w.heap[k]?=some (.cells cs T fr))(hT:T≠e):some k≠v.ownBlock:=by
 rcases hr.2 with ⟨rfl,_⟩|⟨g,cap,cur,rfl,_,hgg,_⟩
 ·simp[Value.ownBlock]
 ·intro q
  simp only[Value.ownBlock,Option.some.injEq] at q;subst q;rw[hk] at hgg;simp only[Option.some.injEq,Obj.cells.injEq] at hgg;exact hT hgg.2.1
theorem gL {w w':World}{base e sz n k:Nat}{v:Value}{xs:List Value}(hr:w.ownsRow base e sz v n xs)(hg:w.grownBy w' v.ownBlock){cs:Array Value}{T:TypeId}{fr:Nat × Nat}(hk:w.heap[k]?=some (.cells cs T fr))(hT:T≠e) :
  w'.heap[k]?=some (.cells cs T fr):=by
 rw[hg.block k (bG hk).1 (own_ne hr hk hT)];exact hk
theorem GJ {k:IntKind}{a b:Int}(h:a=b):Ending.returned (.int k a)=.returned (.int k b):=by rw[h]
theorem aX {a b:Bool}(h:a=b):Ending.returned (.bool a)=.returned (.bool b):=by rw[h]
theorem qO (s:ByteArray):s.toList.isEmpty=decide (s.size=0):=by
 rw[Go.ByteArray.toList_eq]
 have:s.data.toList.length=s.size:=by cases s;rfl
 cases h:s.data.toList with
 | nil=>rw[h,List.length_nil] at this;exact(decide_eq_true (by omega)).symm
 | cons a t=>rw[h,eG] at this;exact(decide_eq_false (by omega)).symm
end Go.Proofs.YtknicmmigbhpcaaGreatDoor

namespace Go.Proofs.YtknicmmigbhpcaaGreatDoor
theorem nD {x y:List UInt8}(h1:x≤y)(h2:y≤x):x=y:=List.le_antisymm h1 h2
theorem EN {x y z:List UInt8}(h1:x≤y)(h2:y≤z):x≤z:=List.le_trans h1 h2
theorem Qn (x y:List UInt8):x≤y∨y≤x:=List.le_total x y
theorem GK {x y:List UInt8}:x<y↔x≤y∧x≠y:=by
 constructor
 ·intro h
  exact⟨List.le_of_lt h,fun q=>by subst q;exact List.lt_irrefl _ h⟩
 ·rintro⟨h1,h2⟩
  apply Classical.byContradiction
  intro q;exact h2 (nD h1 (List.not_lt.1 q))
theorem Qo {x y z:List UInt8}(h1:x≤y)(h2:y<z):x<z:=by
 rw[GK] at h2 ⊢;exact⟨EN h1 h2.1,fun q=>by subst q;exact h2.2 (nD h2.1 h1)⟩
def fC (l:List (List UInt8)):List (List UInt8):=l.mergeSort fun x y=>decide (x≤y)
theorem Me (l:List (List UInt8)):(fC l).Perm l:=List.mergeSort_perm _ _
theorem nI (l:List (List UInt8)):(fC l).length=l.length:=List.length_mergeSort l
theorem GL (l:List (List UInt8)):(fC l).Pairwise (·≤·):=by
 have:=List.pairwise_mergeSort (le:=fun x y:List UInt8=>decide (x≤y)) (fun a b c h1 h2=>by simp only[decide_eq_true_eq] at *;exact EN h1 h2) (fun a b=>by simp only[Bool.or_eq_true,decide_eq_true_eq];exact Qn a b) l
 exact this.imp fun h=>by simpa using h
def bF (l:List (List UInt8)):List (List UInt8):=Lib.compact (fC l)
theorem mU (d:Array (List UInt8)):∀ (m:Nat) (j:Nat),j<m→d[j]!∈Lib.compactUpTo d m
 | 0,j,h=>absurd h (by omega)
 | m+1,j,h=>by
  rw[Lib.compactUpTo_succ,List.mem_append]
  by_cases q:j<m
  ·exact .inl (mU d m j q)
  ·obtain rfl:j=m:=by omega
   by_cases k:Lib.keeps d j=true
   ·rw[if_pos k];exact .inr (by simp)
   ·left
    unfold Lib.keeps at k;simp only[decide_eq_true_eq,not_or,Classical.not_not,ne_eq] at k;rw[k.2];exact mU d j (j - 1) (by omega)
theorem sD (d:Array (List UInt8))(m:Nat)(x:List UInt8)(h:x∈Lib.compactUpTo d m):∃ j,j<m∧x=d[j]!:=by
 unfold Lib.compactUpTo at h;obtain⟨j,hj,rfl⟩:=List.mem_map.1 h;exact⟨j,List.mem_range.1 (List.mem_filter.1 hj).1,rfl⟩
theorem TL {l:List (List UInt8)}{x:List UInt8}:x∈bF l↔x∈l:=by
 rw[← (Me l).mem_iff];unfold bF Lib.compact
 constructor
 ·intro h
  obtain⟨j,hj,rfl⟩:=sD _ _ _ h;rw[getElem!_pos _ _ (by simpa using hj)]
  simp
 ·intro h
  obtain⟨j,hj,rfl⟩:=List.getElem_of_mem h;have:=mU (fC l).toArray (fC l).length j hj;rw[getElem!_pos _ _ (by simpa using hj)] at this
  simpa using this
theorem nO (zs:List (List UInt8))(hs:zs.Pairwise (·≤·)):∀ m,m≤zs.length→(Lib.compactUpTo zs.toArray m).Pairwise (· < ·)
 | 0,_=>by simp[Lib.compactUpTo]
 | m+1,h=>by
  rw[Lib.compactUpTo_succ,List.pairwise_append];refine⟨nO zs hs m (by omega),by split<;>simp,fun x hx y hy=>?_⟩
  split at hy
  ·rename_i k
   rw[List.mem_singleton] at hy;subst hy;obtain⟨j,hj,rfl⟩:=sD _ _ _ hx;unfold Lib.keeps at k;rw[decide_eq_true_eq] at k;have hne:zs.toArray[m]!≠zs.toArray[m - 1]!:=k.resolve_left (by omega)
   have e:∀ i,(hi:i<zs.length)→zs.toArray[i]! = zs[i]:=fun i hi=>by rw[getElem!_pos _ _ (by simpa using hi)];simp
   rw[e m (by omega),e (m - 1) (by omega)] at hne;rw[e j (by omega),e m (by omega)]
   have h1:zs[j]≤zs[m - 1]:=by
    by_cases q:j=m - 1
    ·subst q;exact List.le_refl _
    ·exact List.pairwise_iff_getElem.1 hs j (m - 1) (by omega) (by omega) (by omega)
   have h2:zs[m - 1]≤zs[m]:=List.pairwise_iff_getElem.1 hs (m - 1) m (by omega) (by omega) (by omega);exact Qo h1 (GK.2 ⟨h2,fun q=>hne q.symm⟩)
  ·cases hy
theorem sF (l:List (List UInt8)):(bF l).Pairwise (· < ·):=nO _ (GL l) _ (Nat.le_refl _)
theorem kK (l:List (List UInt8)):(bF l).length≤l.length:=by
 have:=Lib.compact_length_le (fC l);rw[nI] at this;exact this
theorem Jg:bF []=[]:=List.eq_nil_of_length_eq_zero (by have:=kK [];simpa using this)
theorem aK (o:ByteArray):o.data.toList.length=o.size:=by cases o;rfl
theorem zM (a b:ByteArray):(a++b).data.toList=a.data.toList++b.data.toList:=by simp
theorem pW {a b:ByteArray}(h:a.data.toList=b.data.toList):a=b:=by
 cases a;cases b
 congr 1
 exact Array.toList_inj.1 h
theorem gN (s:ByteArray)(a b:Nat):(s.extract a b).data.toList=(s.data.toList.take b).drop a:=by
 rw[Lib.extract_data,List.drop_take]
theorem mD (s:ByteArray)(a:Nat):(s.extract a s.size).data.toList=s.data.toList.drop a:=by
 rw[gN,List.take_of_length_le]
 simp
theorem O4 {a b:ByteArray}(h:a=b):Ending.returned (.string a)=.returned (.string b):=by rw[h]
theorem Qp (T:List UInt8):(Lib.indexByte T 10=-1∧∀ j:Nat,T[j]?≠some 10)∨∃ i:Nat,Lib.indexByte T 10=i∧T[i]?=some 10∧i<T.length∧∀ j:Nat,j<i→T[j]?≠some 10:=by
 rcases hq:Lib.indexByte T 10 with n|n
 ·right
  obtain⟨h1,h2⟩:=Lib.indexByte_some (o:=n) hq;exact⟨n,rfl,h1,(mR h1).1,h2⟩
 ·left
  have:=Lib.indexByte_ge T 10
  have h1:Lib.indexByte T 10=-1:=by rw[hq] at this ⊢;omega
  rw[hq] at h1;refine⟨h1,?_⟩;rw[← hq] at h1;exact Lib.indexByte_none h1
def Mf:Value→Nat
 | .string s=>s.size
 | _=>0
def dH (c:UInt8):Bool:=(97≤c && c≤122) || (65≤c && c≤90)
def aL (c:UInt8):Bool:=48≤c && c≤57
def aV (c:UInt8):Bool:=dH c || aL c || c == 95
def dK (c:UInt8):Bool:=c == 32 || c == 9 || c == 13 || c == 10
def bK:Bool→List UInt8→Nat
 | _,[]=>0
 | true,c :: r=>if c=10 then 1+bK false r else 1+bK true r
 | false,c :: r=>if dK c then 1+bK false r else if c=45∧r.head?=some 45 then 1+bK true r else 0
theorem mE:∀ (m:Bool) (T:List UInt8),bK m T≤T.length
 | _,[]=>by simp[bK]
 | true,c :: r=>by
  have h1:=mE false r;have h2:=mE true r;rw[bK]
  split<;>simp<;>omega
 | false,c :: r=>by
  have h1:=mE false r;have h2:=mE true r;rw[bK]
  split
  ·simp;omega
  ·split<;>simp
   omega
theorem wH:∀ (T:List UInt8),bK false T=(T.takeWhile dK).length+bK false (T.dropWhile dK)
 | []=>by simp[bK]
 | c :: r=>by
  by_cases hc:dK c=true
  ·rw[List.takeWhile_cons_of_pos hc,List.dropWhile_cons_of_pos hc,bK,if_pos hc,eG,wH r]
   omega
  ·rw[List.takeWhile_cons_of_neg hc,List.dropWhile_cons_of_neg hc]
   simp
theorem Ba:∀ (T:List UInt8),(∀ j:Nat,T[j]?≠some 10)→bK true T=T.length
 | [],_=>rfl
 | c :: r,h=>by
  have h0:c≠10:=fun e=>h 0 (by simp[e])
  rw[bK,if_neg h0,Ba r (fun j=>by have:=h (j+1);simpa using this),eG];omega
theorem Bb:∀ (n:Nat) (T:List UInt8),T[n]?=some 10→(∀ j:Nat,j<n→T[j]?≠some 10)→bK true T=n+bK false (T.drop n)
 | _,[],h,_=>by simp at h
 | 0,c :: r,h,_=>by
  have h0:c=10:=by simpa using h
  subst h0;rw[bK,if_pos rfl,List.drop_zero,bK,if_pos (by decide)];omega
 | n+1,c :: r,h,hj=>by
  have h0:c≠10:=fun e=>hj 0 (by omega) (by simp[e])
  rw[bK,if_neg h0,Bb n r (by simpa using h) (fun j hjm=>by have:=hj (j+1) (by omega);simpa using this)]
  simp
  omega
theorem GN (T:List UInt8)(h:[45,45] <+: T):bK false T=bK true T:=by
 obtain⟨r,rfl⟩:=h;show bK false (45 :: 45 :: r)=bK true (45 :: 45 :: r)
 have h1:bK false (45 :: 45 :: r)=1+bK true (45 :: r):=by
  conv=>lhs;rw[bK]
  rw[if_neg (by decide),if_pos ⟨rfl,rfl⟩]
 have h2:bK true (45 :: 45 :: r)=1+bK true (45 :: r):=by
  conv=>lhs;rw[bK]
  rw[if_neg (by decide)]
 rw[h1,h2]
theorem Mg (T:List UInt8)(h:¬ [45,45] <+: T)(hb:T.takeWhile dK=[]):bK false T=0:=by
 cases T with
 | nil=>rfl
 | cons c r =>
  have hc:¬ dK c=true:=fun q=>by rw[List.takeWhile_cons_of_pos q] at hb;cases hb
  rw[bK,if_neg hc,if_neg];rintro⟨rfl,h2⟩
  cases r with
  | nil=>cases h2
  | cons d r =>
   injection h2 with h2
   subst h2;exact h ⟨r,rfl⟩
def pF:List (List UInt8):=[[97,115,115,101,114,116],[98,111,111,108],[101,108,115,101],[102,97,108,115,101],[102,117,110],[105,102],[105,109,112,111,114,116],[105,110],[105,110,116],[108,101,116],[110,111,116],[112,117,98],[114,101,115],[116,104,101,110],[116,114,117,101]]
def abN:List (List UInt8):=[[60,62],[60,61],[62,61],[38,38],[124,124],[61,62]]
def abO:List UInt8:=[40,41,123,125,44,58,59,46,43,45,42,47,37,61,60,62]
def iI:List (List UInt8):=abN++abO.map fun c=>[c]
def pX (T:List UInt8):Option (List UInt8):=iI.find? (fun x=>x.isPrefixOf T)
def lu (T:List UInt8):Nat × Nat × Nat :=
 let w:=T.takeWhile aV
 if 40<w.length then (0,0,20) else if w∈pF then (2,w.length,0) else (1,w.length,0)
def nP (T:List UInt8):Nat × Nat × Nat :=
 let w:=T.takeWhile aL
 if 60<w.length∨(1<w.length∧w[0]?=some 48) then (0,0,21) else (3,w.length,0)
def Aq (T:List UInt8):Nat × Nat × Nat :=
 match pX T with
 | some x=>(4,x.length,0)
 | none=>(0,0,20)
def dY:List UInt8→Nat × Nat × Nat
 | []=>(5,0,0)
 | c :: r=>if dH c then lu (c :: r) else if aL c then nP (c :: r) else Aq (c :: r)
structure Tok where
 kind:Nat
 lead:List UInt8
 text:List UInt8
 place:Nat
def bY (t:Tok):List Value:=[.int .i64 t.kind,.string ⟨t.lead.toArray⟩,.string ⟨t.text.toArray⟩,.int .i64 t.place]
def nQ:Nat→List UInt8→Nat→Except (Nat × Nat) (List Tok)
 | 0,_,_=>.error (99,0)
 | n+1,T,p =>
  let k:=bK false T
  let U:=T.drop k
  let t:=dY U
  if t.2.2≠0 then .error (t.2.2,p+k)
  else if t.1=5 then .ok [⟨5,T.take k,[],p+k⟩]
  else match nQ n (U.drop t.2.1) (p+k+t.2.1) with
   | .error e=>.error e
   | .ok l=>.ok (⟨t.1,T.take k,U.take t.2.1,p+k⟩ :: l)
def bO (S:List UInt8):Except (Nat × Nat) (List Tok):=if 65536<S.length then .error (11,0) else nQ (S.length+1) S 0
theorem jM {α:Type}(p:α→Bool)(l:List α):(l.takeWhile p).length≤l.length:=(List.takeWhile_prefix p).length_le
theorem Bc {T x:List UInt8}(h:pX T=some x):x <+: T∧0<x.length∧x.length≤2:=by
 have h1:=List.find?_some h;have h2:=List.mem_of_find?_eq_some h;refine⟨List.isPrefixOf_iff_prefix.1 h1,?_⟩
 have:∀ y∈iI,0<y.length∧y.length≤2:=by decide
 exact this x h2
theorem wJ (T:List UInt8):(dY T).2.1≤T.length:=by
 cases T with
 | nil=>simp[dY]
 | cons c r =>
  rw[dY]
  split
  ·have:=jM aV (c :: r)
   simp only[lu]
   split
   ·simp
   ·split<;>exact this
  ·split
   ·have:=jM aL (c :: r)
    simp only[nP]
    split
    ·simp
    ·exact this
   ·rw[Aq]
    split
    ·rename_i x hx
     exact(Bc hx).1.length_le
    ·simp
theorem wK (T:List UInt8)(h:(dY T).2.2=0)(h5:(dY T).1≠5):0<(dY T).2.1:=by
 cases T with
 | nil=>simp[dY] at h5
 | cons c r =>
  rw[dY] at h h5 ⊢
  by_cases hc:dH c=true
  ·have hp:0<((c :: r).takeWhile aV).length:=by rw[List.takeWhile_cons_of_pos (by simp[aV,hc])];simp
   rw[if_pos hc] at h ⊢;simp only[lu] at h ⊢
   split at h
   ·cases h
   ·rename_i XM
    rw[if_neg XM]
    split<;>exact hp
  ·rw[if_neg hc] at h ⊢
   by_cases hd:aL c=true
   ·have hp:0<((c :: r).takeWhile aL).length:=by rw[List.takeWhile_cons_of_pos hd];simp
    rw[if_pos hd] at h ⊢;simp only[nP] at h ⊢
    split at h
    ·cases h
    ·rename_i GQ
     rw[if_neg GQ];exact hp
   ·rw[if_neg hd] at h ⊢
    rw[Aq] at h ⊢
    split at h
    ·rename_i x hx
     exact(Bc hx).2.1
    ·cases h
def lI (t:Tok):Nat:=t.lead.length+t.text.length
def fP:List Tok→Nat→Nat
 | [],_=>0
 | _ :: _,0=>0
 | t :: l,i+1=>lI t+fP l i
theorem vk (l:List Tok):fP l 0=0:=by cases l<;>rfl
theorem jY (t:Tok)(l:List Tok)(i:Nat):fP (t :: l) (i+1)=lI t+fP l i:=rfl
theorem jA:∀ (l:List Tok) (i:Nat) (h:i<l.length),fP l (i+1)=fP l i+lI l[i]
 | [],i,h=>absurd h (by simp)
 | t :: l,0,_=>by simp[fP,vk]
 | t :: l,i+1,h=>by
  have:=jA l i (by simpa using h);simp only[jY,List.getElem_cons_succ];rw[this];omega
theorem TM (T:List UInt8)(h:(dY T).1=5):T=[]:=by
 cases T with
 | nil=>rfl
 | cons c r =>
  exfalso
  rw[dY] at h
  split at h
  ·rw[lu] at h
   split at h
   ·cases h
   ·split at h<;>cases h
  ·split at h
   ·rw[nP] at h
    split at h<;>cases h
   ·rw[Aq] at h
    split at h<;>cases h
structure Laid (T:List UInt8) (p:Nat) (l:List Tok):Prop where
 some:0<l.length
 whole:fP l l.length=T.length
 place:∀ (i:Nat) (h:i<l.length),l[i].place=p+fP l i+l[i].lead.length
 last:∀ (i:Nat) (h:i<l.length),l[i].kind=5↔i=l.length - 1
 empty:∀ (i:Nat) (h:i<l.length),l[i].text=[]↔l[i].kind=5
 text:∀ (i:Nat) (h:i<l.length),(T.drop (fP l i+l[i].lead.length)).take l[i].text.length=l[i].text
 lead:∀ (i:Nat) (h:i<l.length),(T.drop (fP l i)).take l[i].lead.length=l[i].lead
theorem Laid.inside {T:List UInt8}{p:Nat}{l:List Tok}(h:Laid T p l):∀ i,i≤l.length→fP l i≤T.length:=by
 intro i hi
 have:∀ k,i+k=l.length→fP l i≤T.length:=by
  intro k
  induction k generalizing i with
  | zero=>intro e;rw[← h.whole,← e];exact Nat.le_refl _
  | succ k ih =>
   intro e;have:=ih (i+1) (by omega) (by omega);rw[jA l i (by omega)] at this;omega
 exact this (l.length - i) (by omega)
theorem Laid.count {T:List UInt8}{p:Nat}{l:List Tok}(h:Laid T p l):l.length≤T.length+1:=by
 have h1:∀ i,i<l.length→i≤fP l i:=by
  intro i
  induction i with
  | zero=>omega
  | succ i ih =>
   intro hi;have h2:=ih (by omega)
   have h5:l[i].kind≠5:=fun q=>by have:=(h.last i (by omega)).1 q;omega
   have h6:l[i].text≠[]:=fun q=>h5 ((h.empty i (by omega)).1 q)
   have h7:0<l[i].text.length:=List.length_pos_iff.2 h6;rw[jA l i (by omega),lI];omega
 have hs:=h.some;have:=h1 (l.length - 1) (by omega);have:=h.inside (l.length - 1) (by omega);omega
theorem EO:∀ (n:Nat) (T:List UInt8) (p:Nat) (l:List Tok),nQ n T p=.ok l→Laid T p l
 | 0,_,_,_,h=>by cases h
 | n+1,T,p,l,h=>by
  rw[nQ] at h;have hk:=mE false T;generalize hkk:bK false T=k at h hk
  by_cases he:(dY (T.drop k)).2.2≠0
  ·rw[if_pos he] at h;cases h
  rw[if_neg he] at h
  by_cases h5:(dY (T.drop k)).1=5
  ·rw[if_pos h5] at h
   injection h with h
   subst h;have hnil:=TM _ h5
   have hl:T.length=k:=by
    have:=congrArg List.length hnil;rw[List.length_drop,List.length_nil] at this;omega
   have htk:(T.take k).length=k:=by rw[List.length_take];omega
   have one:∀ i,i<1→i=0:=fun i h=>by omega
   refine⟨by simp,by simp[fP,lI];omega,?_,?_,?_,?_,?_⟩<;>(intro i hi;obtain rfl:=one i hi;simp[fP])<;>omega
  ·rw[if_neg h5] at h
   have hpos:=wK (T.drop k) (by omega) h5;have hlen:=wJ (T.drop k);rw[List.length_drop] at hlen;generalize dY (T.drop k)=t at h he h5 hpos hlen
   cases hr:nQ n ((T.drop k).drop t.2.1) (p+k+t.2.1) with
   | error e=>simp only[hr] at h;cases h
   | ok r =>
    simp only[hr] at h
    injection h with h
    subst h;have ih:=EO n _ _ _ hr
    have htk:(T.take k).length=k:=by rw[List.length_take];omega
    have htx:((T.drop k).take t.2.1).length=t.2.1:=by rw[List.length_take,List.length_drop];omega
    have hone:lI ⟨t.1,T.take k,(T.drop k).take t.2.1,p+k⟩=k+t.2.1:=by simp only[lI];rw[htk,htx]
    have hs:=ih.some;refine⟨by simp,?_,?_,?_,?_,?_,?_⟩
    ·rw[eG,jY,ih.whole,hone,List.length_drop,List.length_drop];omega
    ·intro i hi
     cases i with
     | zero=>simp only[List.getElem_cons_zero,fP];rw[htk];omega
     | succ i =>
      have:=ih.place i (by simpa using hi);simp only[List.getElem_cons_succ,jY];rw[this,hone];omega
    ·intro i hi
     cases i with
     | zero=>simp only[List.getElem_cons_zero,eG];exact⟨fun h=>absurd h h5,fun h=>by omega⟩
     | succ i =>
      have:=ih.last i (by simpa using hi);simp only[List.getElem_cons_succ,eG];rw[this];omega
    ·intro i hi
     cases i with
     | zero =>
      simp only[List.getElem_cons_zero];exact⟨fun h=>by rw[h] at htx;simp at htx;omega,fun h=>absurd h h5⟩
     | succ i =>
      simp only[List.getElem_cons_succ];exact ih.empty i (by simpa using hi)
    ·intro i hi
     cases i with
     | zero=>simp only[List.getElem_cons_zero,fP];rw[htk,htx,Nat.zero_add]
     | succ i =>
      have:=ih.text i (by simpa using hi);simp only[List.getElem_cons_succ,jY];rw[List.drop_drop,List.drop_drop] at this;rw[hone]
      have hi':i<r.length:=by simpa using hi
      rw[show k+t.2.1+fP r i+r[i].lead.length=k+(t.2.1+(fP r i+r[i].lead.length)) from by omega];exact this
    ·intro i hi
     cases i with
     | zero=>simp only[List.getElem_cons_zero,fP];rw[htk,List.drop_zero]
     | succ i =>
      have:=ih.lead i (by simpa using hi);simp only[List.getElem_cons_succ,jY];rw[List.drop_drop,List.drop_drop] at this;rw[hone];rw[show k+t.2.1+fP r i=k+(t.2.1+fP r i) from by omega];exact this
theorem Bd:∀ (n:Nat) (T:List UInt8) (p:Nat) (e:Nat × Nat),nQ n T p=.error e→T.length<n→p≤e.2∧e.2≤p+T.length∧(e.1=20∨e.1=21)
 | 0,_,_,_,_,h=>absurd h (by omega)
 | n+1,T,p,e,h,hn=>by
  rw[nQ] at h;have hk:=mE false T;generalize hkk:bK false T=k at h hk
  by_cases he:(dY (T.drop k)).2.2≠0
  ·rw[if_pos he] at h
   injection h with h
   subst h;refine⟨by simp,by simp only;omega,?_⟩;simp only
   cases hd:T.drop k with
   | nil=>rw[hd] at he;exact absurd rfl he
   | cons c r =>
    rw[hd] at he;rw[dY] at he ⊢
    by_cases hc:dH c=true
    ·rw[if_pos hc] at he ⊢
     simp only[lu] at he ⊢
     split
     ·exact .inl rfl
     ·rename_i XM;rw[if_neg XM] at he;exfalso;apply he;split<;>rfl
    ·rw[if_neg hc] at he ⊢
     by_cases hd:aL c=true
     ·rw[if_pos hd] at he ⊢
      simp only[nP] at he ⊢
      split
      ·exact .inr rfl
      ·rename_i GQ;rw[if_neg GQ] at he;exact absurd rfl he
     ·rw[if_neg hd] at he ⊢
      rw[Aq] at he ⊢
      cases hs:pX (c :: r) with
      | none=>exact .inl rfl
      | some x=>rw[hs] at he;exact absurd rfl he
  rw[if_neg he] at h
  by_cases h5:(dY (T.drop k)).1=5
  ·rw[if_pos h5] at h;cases h
  ·rw[if_neg h5] at h
   have hpos:=wK (T.drop k) (by omega) h5;have hlen:=wJ (T.drop k);rw[List.length_drop] at hlen;generalize dY (T.drop k)=t at h he h5 hpos hlen
   cases hr:nQ n ((T.drop k).drop t.2.1) (p+k+t.2.1) with
   | ok r=>simp only[hr] at h;cases h
   | error x =>
    simp only[hr] at h
    injection h with h
    subst h;have:=Bd n _ _ _ hr (by rw[List.length_drop,List.length_drop];omega);rw[List.length_drop,List.length_drop] at this;omega
theorem gP {S:List UInt8}{l:List Tok}(h:bO S=.ok l):Laid S 0 l:=by
 rw[bO] at h
 split at h
 ·cases h
 ·exact EO _ _ _ _ h
theorem qP {S:List UInt8}{e:Nat × Nat}(h:bO S=.error e):e.2≤S.length∧(e.1=20∨e.1=21∨e.1=11):=by
 rw[bO] at h
 split at h
 ·injection h with h;subst h;exact⟨Nat.zero_le _,.inr (.inr rfl)⟩
 ·have:=Bd _ _ _ _ h (by omega);omega
structure Nd where
 kind:Int
 tok:Int
 kids:List Int
structure aB where
 nodes:List Nd
 used:Nat
 clause:Bool
 fE:Nat
 Ya:Nat
def abP:Tok:=⟨0,[],[],0⟩
def bP (toks:List Tok)(u:Nat):Tok:=toks.getD (min u (toks.length - 1)) abP
def aS (toks:List Tok)(st:aB)(l:List (List UInt8)):Bool:=((bP toks st.used).kind == 2 || (bP toks st.used).kind == 4) && decide ((bP toks st.used).text∈l)
def fQ (toks:List Tok)(e:Nat)(st:aB):aB:=if st.fE=0 then { st with fE:=e,Ya:=(bP toks st.used).place } else st
def ay (toks:List Tok)(st:aB):Int × aB :=
 if st.used=toks.length then (-1,st) else ((st.nodes.length:Nat),{ st with nodes:=st.nodes++[⟨19,(st.used:Nat),[]⟩],used:=st.used+1 })
def Er (kind:Int)(kids:List Int)(st:aB):Int × aB :=
 if kids.any (fun k=>decide (k<0) || decide ((st.nodes.length:Int)≤k)) then (-1,st) else ((st.nodes.length:Nat),{ st with nodes:=st.nodes++[⟨kind,-1,kids⟩] })
def aY (kind:Int)(kids:List Int)(st:aB):Int × aB:=if st.fE=0 then Er kind kids st else (0,st)
def aA (toks:List Tok)(l:List (List UInt8))(st:aB):Int × aB:=if st.fE=0∧aS toks st l=true then ay toks st else (0,fQ toks 22 st)
def aP (toks:List Tok)(k:Nat)(st:aB):Int × aB:=if st.fE=0∧(bP toks st.used).kind=k then ay toks st else (0,fQ toks 22 st)
def aM (toks:List Tok)(depth nest:Nat)(st:aB):aB:=if depth<nest then fQ toks 23 st else st
def yI:Nat→List (List UInt8)
 | 0=>[[124,124]]
 | 1=>[[38,38]]
 | 2=>[[61],[60,62],[60],[60,61],[62],[62,61]]
 | 3=>[[43],[45]]
 | _=>[[42],[47],[37]]
def aR (toks:List Tok)(one:aB→Option (Int × aB)):Nat→List Int→aB→Option (List Int × aB)
 | 0,kids,st=>some (kids,if st.fE=0 then fQ toks 15 st else st)
 | r+1,kids,st =>
  if st.fE≠0 then some (kids,st)
  else (one st).bind fun k =>
   if k.2.fE=0∧aS toks k.2 [[44]]=true then aR toks one r (kids++[k.1,(ay toks k.2).1]) (ay toks k.2).2
   else some (kids++[k.1],k.2)
def jh (toks:List Tok)(one:aB→Option (Int × aB))(st:aB):Option (List Int × aB) :=
 if aS toks st [[41]]=true then some ([],st) else aR toks one 8 [] st
inductive Task where
 | expr (nest:Nat)
 | formula (nest:Nat)
 | part (l nest:Nat)
 | row (l nest:Nat)
 | loop (l nest:Nat) (a:Int)
 | neg (nest:Nat)
 | factor (nest:Nat)
 | atom (nest:Nat)
 | name (nest:Nat)
def abQ:List UInt8:=[108,101,116]
def tIf:List UInt8:=[105,102]
def O8:List UInt8:=[97,115,115,101,114,116]
def Tq:List UInt8:=[105,110]
def EP:List UInt8:=[116,104,101,110]
def ER:List UInt8:=[101,108,115,101]
def O9:List UInt8:=[116,114,117,101]
def Mh:List UInt8:=[102,97,108,115,101]
def Yb:List UInt8:=[110,111,116]
def aaz:List UInt8:=[114,101,115]
def lC (toks:List Tok)(a:Int × aB):List Int × aB :=
 if aS toks a.2 [[46]]=true then ([a.1,(ay toks a.2).1,(aP toks 1 (ay toks a.2).2).1],(aP toks 1 (ay toks a.2).2).2) else ([a.1],a.2)
def run (toks:List Tok)(depth:Nat):Nat→Task→aB→Option (Int × aB)
 | 0,_,_=>none
 | g+1,.expr nest,st0 =>
  if (aM toks depth nest st0).fE≠0 then some (0,aM toks depth nest st0)
  else if (aM toks depth nest st0).clause=true then run toks depth g (.formula nest) (aM toks depth nest st0)
  else if aS toks (aM toks depth nest st0) [abQ]=true then
   (run toks depth g (.expr (nest+1)) (aA toks [[61]] (aP toks 1 (ay toks (aM toks depth nest st0)).2).2).2).bind fun d =>
    (run toks depth g (.expr (nest+1)) (aA toks [Tq] d.2).2).bind fun f =>
     some (aY 7 [(ay toks (aM toks depth nest st0)).1,(aP toks 1 (ay toks (aM toks depth nest st0)).2).1,(aA toks [[61]] (aP toks 1 (ay toks (aM toks depth nest st0)).2).2).1,d.1,(aA toks [Tq] d.2).1,f.1] f.2)
  else if aS toks (aM toks depth nest st0) [tIf]=true then
   (run toks depth g (.expr (nest+1)) (ay toks (aM toks depth nest st0)).2).bind fun b =>
    (run toks depth g (.expr (nest+1)) (aA toks [EP] b.2).2).bind fun d =>
     (run toks depth g (.expr (nest+1)) (aA toks [ER] d.2).2).bind fun f =>
      some (aY 8 [(ay toks (aM toks depth nest st0)).1,b.1,(aA toks [EP] b.2).1,d.1,(aA toks [ER] d.2).1,f.1] f.2)
  else if aS toks (aM toks depth nest st0) [O8]=true then
   (run toks depth g (.expr (nest+1)) (ay toks (aM toks depth nest st0)).2).bind fun b =>
    (run toks depth g (.expr (nest+1)) (aA toks [Tq] b.2).2).bind fun d =>
     some (aY 9 [(ay toks (aM toks depth nest st0)).1,b.1,(aA toks [Tq] b.2).1,d.1] d.2)
  else run toks depth g (.formula nest) (aM toks depth nest st0)
 | g+1,.formula nest,st0 =>
  (run toks depth g (.row 0 nest) st0).bind fun a =>
   if a.2.fE=0∧aS toks a.2 [[61,62]]=true then
    if (aM toks depth (nest+1) (ay toks a.2).2).fE≠0 then some (0,aM toks depth (nest+1) (ay toks a.2).2)
    else (run toks depth g (.formula (nest+1)) (aM toks depth (nest+1) (ay toks a.2).2)).bind fun b=>some (aY 10 [a.1,(ay toks a.2).1,b.1] b.2)
   else some a
 | g+1,.part l nest,st=>if l=1 then run toks depth g (.neg nest) st else if l=4 then run toks depth g (.factor nest) st else run toks depth g (.row (l+1) nest) st
 | g+1,.row l nest,st=>(run toks depth g (.part l nest) st).bind fun a=>run toks depth g (.loop l nest a.1) a.2
 | g+1,.loop l nest a,st =>
  if st.fE=0∧aS toks st (yI l)=true then
   (run toks depth g (.part l nest) (ay toks st).2).bind fun b =>
    if l=2 then some (aY 10 [a,(ay toks st).1,b.1] b.2)
    else run toks depth g (.loop l nest (aY 10 [a,(ay toks st).1,b.1] b.2).1) (aY 10 [a,(ay toks st).1,b.1] b.2).2
  else some (a,st)
 | g+1,.neg nest,st =>
  if st.fE=0∧aS toks st [Yb]=true then
   if (aM toks depth (nest+1) (ay toks st).2).fE≠0 then some (0,aM toks depth (nest+1) (ay toks st).2)
   else (run toks depth g (.neg (nest+1)) (aM toks depth (nest+1) (ay toks st).2)).bind fun b=>some (aY 11 [(ay toks st).1,b.1] b.2)
  else run toks depth g (.row 2 nest) st
 | g+1,.factor nest,st =>
  if st.fE=0∧aS toks st [[45]]=true then
   if (aM toks depth (nest+1) (ay toks st).2).fE≠0 then some (0,aM toks depth (nest+1) (ay toks st).2)
   else (run toks depth g (.factor (nest+1)) (aM toks depth (nest+1) (ay toks st).2)).bind fun b=>some (aY 11 [(ay toks st).1,b.1] b.2)
  else run toks depth g (.atom nest) st
 | g+1,.atom nest,st =>
  if st.fE≠0 then some (0,st)
  else if (bP toks st.used).kind=3 then some (aY 15 [(ay toks st).1] (ay toks st).2)
  else if aS toks st [O9,Mh]=true then some (aY 16 [(ay toks st).1] (ay toks st).2)
  else if st.clause=true∧aS toks st [aaz]=true then some (aY 17 [(ay toks st).1] (ay toks st).2)
  else if aS toks st [[40]]=true then
   (run toks depth g (.expr (nest+1)) (ay toks st).2).bind fun b =>
    some (aY 12 [(ay toks st).1,b.1,(aA toks [[41]] b.2).1] (aA toks [[41]] b.2).2)
  else if (bP toks st.used).kind=1 then run toks depth g (.name nest) st
  else some (0,fQ toks 22 st)
 | g+1,.name nest,st =>
  if (ay toks st).2.clause=true∨aS toks (ay toks st).2 [[46],[40]]=false then some (aY 14 [(ay toks st).1] (ay toks st).2)
  else
   (jh toks (fun s=>run toks depth g (.expr (nest+1)) s) (aA toks [[40]] (lC toks (ay toks st)).2).2).bind fun l =>
    some (aY 13 ((lC toks (ay toks st)).1++[(aA toks [[40]] (lC toks (ay toks st)).2).1]++l.1++[(aA toks [[41]] l.2).1]) (aA toks [[41]] l.2).2)
def startP:aB:=⟨[],0,false,0,0⟩
def aaA (toks:List Tok)(depth g:Nat):Option aB :=
 (run toks depth g (.expr 1) { startP with clause:=true }).bind fun a=>some (aY 18 [a.1,(aP toks 5 a.2).1] (aP toks 5 a.2).2).2
end Go.Proofs.YtknicmmigbhpcaaGreatDoor
