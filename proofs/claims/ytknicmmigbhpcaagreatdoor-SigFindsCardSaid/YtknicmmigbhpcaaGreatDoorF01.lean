/- Walks and plain laws: Base, Bytes, LexPlain. -/
import Derived.WalkKit
import Derived.WalkSpells
import Derived.WalkLawsBesides
import Derived.Lib.OthersKept
import Derived.Lib.Hide
import Derived.BigQuiet
import Derived.BigGuardPart
import Derived.Deep.QuietTactic
import Derived.StillTailTactics
import Derived.Deep.RegionHeld3
import Derived.Deep.AppendLies
import Derived.Deep.DrawnRows
import Derived.Deep.DeepCutAuto
import Derived.Lib.Bytealg
import Derived.Lib.IndexLaws
set_option maxHeartbeats 16000000
set_option maxRecDepth 100000
set_option linter.unusedVariables false
set_option linter.unusedSimpArgs false
namespace Go.Proofs.YtknicmmigbhpcaaGreatDoor
open Go.RowKit
theorem ah{p:Prop}(h:p):Go.RowKit.Hid p:=Go.Lib.hid h
theorem bG{α}{xs:Array α}{i:Nat}{a:α}(h:xs[i]?=some a):∃ h:i<xs.size,xs[i]=a:=Array.getElem?_eq_some_iff.1 h
theorem mR{α}{xs:List α}{i:Nat}{a:α}(h:xs[i]?=some a):∃ h:i<xs.length,xs[i]=a:=List.getElem?_eq_some_iff.1 h
theorem bH{α β}{o:Option α}{f:α→Option β}{b:β}(h:o.bind f=some b):∃ a,o=some a∧f a=some b:=Option.bind_eq_some_iff.1 h
theorem bP{α}{as bs:List α}:(as++bs).length=as.length+bs.length:=List.length_append
theorem dX{α}{a:α}{as:List α}:(a::as).length=as.length+1:=List.length_cons
def Sl (B:Nat)(w:World)(v:Value)(sz n:Nat)(cs:List Value):Prop :=
 ∃ ao cap,v=.slice ao n cap∧n≤cap∧cs.length=n * sz ∧
  (0<n→∃ b off,ao=some ⟨b,off,none⟩∧b<B∧∀ i,(h:i<cs.length)→w.cell? ⟨b,off+i,none⟩=some cs[i])
theorem Sl.below {B:Nat}{w w':World}{v:Value}{sz n:Nat}{cs:List Value}(h:Sl B w v sz n cs)(hb:Below B w w'):Sl B w' v sz n cs:=by
 obtain⟨ao,cap,hv,hn,hl,hc⟩:=h;refine⟨ao,cap,hv,hn,hl,fun h0=>?_⟩;obtain⟨b,off,ha,hB,hcell⟩:=hc h0;exact⟨b,off,ha,hB,fun i hi=>(hb.cell (p:=⟨b,off+i,none⟩) hB).trans (hcell i hi)⟩
theorem Sl.mono {B B':Nat}{w:World}{v:Value}{sz n:Nat}{cs:List Value}(h:Sl B w v sz n cs)(hB:B≤B'):Sl B' w v sz n cs:=by
 obtain⟨ao,cap,hv,hn,hl,hc⟩:=h;refine⟨ao,cap,hv,hn,hl,fun h0=>?_⟩;obtain⟨b,off,ha,hb,hcell⟩:=hc h0;exact⟨b,off,ha,Nat.lt_of_lt_of_le hb hB,hcell⟩
theorem Sl.fF {B:Nat}{w:World}{e sz:Nat}{v:Value}{n:Nat}{cs:List Value}(h:w.ownsRow B e sz v n cs):Sl w.heap.size w v sz n cs:=by
 obtain⟨hl,h⟩:=h
 rcases h with ⟨rfl,rfl⟩|⟨g,cap,cur,rfl,hg,hh,hn,hm,hs,hx⟩
 ·exact⟨none,0,rfl,Nat.le_refl _,hl,fun h0=>absurd h0 (by omega)⟩
 ·refine⟨some ⟨g,0,none⟩,cap,rfl,hn,hl,fun _=>⟨g,0,rfl,?_,fun i hi=>?_⟩⟩
  ·rcases Nat.lt_or_ge g w.heap.size with h'|h'
   ·exact h'
   ·simp[Array.getElem?_eq_none h'] at hh
  ·subst hx
   simp only[List.length_take] at hi;simp only[World.cell?,hh,Nat.zero_add,List.getElem_take];simp only[Option.isSome_none,Bool.false_eq_true,if_false];rw[Array.getElem?_eq_getElem (by simpa using (by omega:i<cur.toList.length))]
   simp
theorem uj {α:Type}{f:α→List Value}{sz:Nat}(hf:∀ x,(f x).length=sz):∀ (l:List α) (k j:Nat) (hk:k<l.length),j<sz →
  (l.flatMap f)[k * sz+j]?=(f l[k])[j]?
 | [],k,j,hk,_=>absurd hk (by simp)
 | x :: l,0,j,_,hj=>by
  simp only[List.flatMap_cons,Nat.zero_mul,Nat.zero_add,List.getElem_cons_zero];rw[List.getElem?_append_left (by rw[hf];exact hj)]
 | x :: l,k+1,j,hk,hj=>by
  have:=uj hf l k j (by simpa using hk) hj;simp only[List.flatMap_cons,List.getElem_cons_succ];rw[List.getElem?_append_right (by rw[hf,Nat.succ_mul];omega),hf,show (k+1) * sz+j - sz=k * sz+j by rw[Nat.succ_mul];omega];exact this
theorem zH {α:Type}{f:α→List Value}{sz:Nat}(hf:∀ x,(f x).length=sz)(l:List α):(l.flatMap f).length=l.length * sz:=by
 induction l with
 | nil=>simp
 | cons x l ih=>simp[hf,ih,Nat.succ_mul];omega
def Rec {α:Type}(B:Nat)(w:World)(v:Value)(sz:Nat)(f:α→List Value)(l:List α):Prop:=Sl B w v sz l.length (l.flatMap f)
theorem Rec.form {α:Type}{B:Nat}{w:World}{v:Value}{sz:Nat}{f:α→List Value}{l:List α}(h:Rec B w v sz f l)(hf:∀ x,(f x).length=sz) :
  ∃ ao cap,v=.slice ao l.length cap∧l.length≤cap∧(0<l.length→∃ b off,ao=some ⟨b,off,none⟩∧b<B ∧
   ∀ k j u,(hk:k<l.length)→(f l[k])[j]?=some u→w.cell? ⟨b,off+k * sz+j,none⟩=some u):=by
 obtain⟨ao,cap,hv,hn,hl,hc⟩:=h;refine⟨ao,cap,hv,hn,fun h0=>?_⟩;obtain⟨b,off,ha,hB,hcell⟩:=hc h0;refine⟨b,off,ha,hB,fun k j u hk hu=>?_⟩
 have hj:j<sz:=by
  rcases Nat.lt_or_ge j sz with h'|h'
  ·exact h'
  ·rw[List.getElem?_eq_none (by rw[hf];exact h')] at hu;cases hu
 have hi:=uj hf l k j hk hj;rw[hu] at hi;obtain⟨h',e⟩:=mR hi;have:=hcell (k * sz+j) h';rw[e] at this;rw[Nat.add_assoc];exact this
theorem Rec.below {α:Type}{B:Nat}{w w':World}{v:Value}{sz:Nat}{f:α→List Value}{l:List α}(h:Rec B w v sz f l)(hb:Below B w w'):Rec B w' v sz f l:=Sl.below h hb
theorem Rec.mono {α:Type}{B B':Nat}{w:World}{v:Value}{sz:Nat}{f:α→List Value}{l:List α}(h:Rec B w v sz f l)(hB:B≤B'):Rec B' w v sz f l:=Sl.mono h hB
theorem pV {w:World}{base e sz n:Nat}{v:Value}{xs:List Value}(h:w.ownsRow base e sz v n xs):w.drew.ownsRow base e sz v n xs:=h
theorem own_ne {w:World}{base e sz n k:Nat}{v:Value}{xs:List Value}(hr:w.ownsRow base e sz v n xs){cs:Array Value}{T:TypeId}{fr:Nat × Nat}(hk:w.heap[k]?=some (.cells cs T fr))(hT:T≠e):some k≠v.ownBlock:=by
 rcases hr.2 with ⟨rfl,_⟩|⟨g,cap,cur,rfl,_,hgg,_⟩
 ·simp[Value.ownBlock]
 ·intro q
  simp only[Value.ownBlock,Option.some.injEq] at q;subst q;rw[hk] at hgg;simp only[Option.some.injEq,Obj.cells.injEq] at hgg;exact hT hgg.2.1
theorem fU {w w':World}{base e sz n k:Nat}{v:Value}{xs:List Value}(hr:w.ownsRow base e sz v n xs)(hg:w.grownBy w' v.ownBlock){cs:Array Value}{T:TypeId}{fr:Nat × Nat}(hk:w.heap[k]?=some (.cells cs T fr))(hT:T≠e) :
  w'.heap[k]?=some (.cells cs T fr):=by
 rw[hg.block k (bG hk).1 (own_ne hr hk hT)];exact hk
theorem Gw {k:IntKind}{a b:Int}(h:a=b):Ending.returned (.int k a)=.returned (.int k b):=by rw[h]
theorem aX {a b:Bool}(h:a=b):Ending.returned (.bool a)=.returned (.bool b):=by rw[h]
theorem qN (s:ByteArray):s.toList.isEmpty=decide (s.size=0):=by
 rw[Go.ByteArray.toList_eq]
 have:s.data.toList.length=s.size:=by cases s;rfl
 cases h:s.data.toList with
 | nil=>rw[h,List.length_nil] at this;exact(decide_eq_true (by omega)).symm
 | cons a t=>rw[h,dX] at this;exact(decide_eq_false (by omega)).symm
end Go.Proofs.YtknicmmigbhpcaaGreatDoor

namespace Go.Proofs.YtknicmmigbhpcaaGreatDoor
theorem aK (o:ByteArray):o.data.toList.length=o.size:=by cases o;rfl
theorem zI (a b:ByteArray):(a++b).data.toList=a.data.toList++b.data.toList:=by simp
theorem pW {a b:ByteArray}(h:a.data.toList=b.data.toList):a=b:=by
 cases a;cases b
 congr 1
 exact Array.toList_inj.1 h
theorem gL (s:ByteArray)(a b:Nat):(s.extract a b).data.toList=(s.data.toList.take b).drop a:=by
 rw[Lib.extract_data,List.drop_take]
theorem mF (s:ByteArray)(a:Nat):(s.extract a s.size).data.toList=s.data.toList.drop a:=by
 rw[gL,List.take_of_length_le]
 simp
theorem OP {a b:ByteArray}(h:a=b):Ending.returned (.string a)=.returned (.string b):=by rw[h]
theorem P9 (T:List UInt8):(Lib.indexByte T 10=-1∧∀ j:Nat,T[j]?≠some 10)∨∃ i:Nat,Lib.indexByte T 10=i∧T[i]?=some 10∧i<T.length∧∀ j:Nat,j<i→T[j]?≠some 10:=by
 rcases hq:Lib.indexByte T 10 with n|n
 ·right
  obtain⟨h1,h2⟩:=Lib.indexByte_some (o:=n) hq;exact⟨n,rfl,h1,(mR h1).1,h2⟩
 ·left
  have:=Lib.indexByte_ge T 10
  have h1:Lib.indexByte T 10=-1:=by rw[hq] at this ⊢;omega
  rw[hq] at h1;refine⟨h1,?_⟩;rw[← hq] at h1;exact Lib.indexByte_none h1
def LW:Value→Nat
 | .string s=>s.size
 | _=>0
def dG (c:UInt8):Bool:=(97≤c && c≤122) || (65≤c && c≤90)
def aL (c:UInt8):Bool:=48≤c && c≤57
def aV (c:UInt8):Bool:=dG c || aL c || c == 95
def dJ (c:UInt8):Bool:=c == 32 || c == 9 || c == 13 || c == 10
def bJ:Bool→List UInt8→Nat
 | _,[]=>0
 | true,c :: r=>if c=10 then 1+bJ false r else 1+bJ true r
 | false,c :: r=>if dJ c then 1+bJ false r else if c=45∧r.head?=some 45 then 1+bJ true r else 0
theorem mG:∀ (m:Bool) (T:List UInt8),bJ m T≤T.length
 | _,[]=>by simp[bJ]
 | true,c :: r=>by
  have h1:=mG false r;have h2:=mG true r;rw[bJ]
  split<;>simp<;>omega
 | false,c :: r=>by
  have h1:=mG false r;have h2:=mG true r;rw[bJ]
  split
  ·simp;omega
  ·split<;>simp
   omega
theorem wE:∀ (T:List UInt8),bJ false T=(T.takeWhile dJ).length+bJ false (T.dropWhile dJ)
 | []=>by simp[bJ]
 | c :: r=>by
  by_cases hc:dJ c=true
  ·rw[List.takeWhile_cons_of_pos hc,List.dropWhile_cons_of_pos hc,bJ,if_pos hc,dX,wE r]
   omega
  ·rw[List.takeWhile_cons_of_neg hc,List.dropWhile_cons_of_neg hc]
   simp
theorem AX:∀ (T:List UInt8),(∀ j:Nat,T[j]?≠some 10)→bJ true T=T.length
 | [],_=>rfl
 | c :: r,h=>by
  have h0:c≠10:=fun e=>h 0 (by simp[e])
  rw[bJ,if_neg h0,AX r (fun j=>by have:=h (j+1);simpa using this),dX];omega
theorem AY:∀ (n:Nat) (T:List UInt8),T[n]?=some 10→(∀ j:Nat,j<n→T[j]?≠some 10)→bJ true T=n+bJ false (T.drop n)
 | _,[],h,_=>by simp at h
 | 0,c :: r,h,_=>by
  have h0:c=10:=by simpa using h
  subst h0;rw[bJ,if_pos rfl,List.drop_zero,bJ,if_pos (by decide)];omega
 | n+1,c :: r,h,hj=>by
  have h0:c≠10:=fun e=>hj 0 (by omega) (by simp[e])
  rw[bJ,if_neg h0,AY n r (by simpa using h) (fun j hjm=>by have:=hj (j+1) (by omega);simpa using this)]
  simp
  omega
theorem Gx (T:List UInt8)(h:[45,45] <+: T):bJ false T=bJ true T:=by
 obtain⟨r,rfl⟩:=h;show bJ false (45 :: 45 :: r)=bJ true (45 :: 45 :: r)
 have h1:bJ false (45 :: 45 :: r)=1+bJ true (45 :: r):=by
  conv=>lhs;rw[bJ]
  rw[if_neg (by decide),if_pos ⟨rfl,rfl⟩]
 have h2:bJ true (45 :: 45 :: r)=1+bJ true (45 :: r):=by
  conv=>lhs;rw[bJ]
  rw[if_neg (by decide)]
 rw[h1,h2]
theorem LX (T:List UInt8)(h:¬ [45,45] <+: T)(hb:T.takeWhile dJ=[]):bJ false T=0:=by
 cases T with
 | nil=>rfl
 | cons c r =>
  have hc:¬ dJ c=true:=fun q=>by rw[List.takeWhile_cons_of_pos q] at hb;cases hb
  rw[bJ,if_neg hc,if_neg];rintro⟨rfl,h2⟩
  cases r with
  | nil=>cases h2
  | cons d r =>
   injection h2 with h2
   subst h2;exact h ⟨r,rfl⟩
def pE:List (List UInt8):=[[97,115,115,101,114,116],[98,111,111,108],[101,108,115,101],[102,97,108,115,101],[102,117,110],[105,102],[105,109,112,111,114,116],[105,110],[105,110,116],[108,101,116],[110,111,116],[112,117,98],[114,101,115],[116,104,101,110],[116,114,117,101]]
def abI:List (List UInt8):=[[60,62],[60,61],[62,61],[38,38],[124,124],[61,62]]
def abJ:List UInt8:=[40,41,123,125,44,58,59,46,43,45,42,47,37,61,60,62]
def iF:List (List UInt8):=abI++abJ.map fun c=>[c]
def pX (T:List UInt8):Option (List UInt8):=iF.find? (fun x=>x.isPrefixOf T)
def lC (T:List UInt8):Nat × Nat × Nat :=
 let w:=T.takeWhile aV
 if 40<w.length then (0,0,20) else if w∈pE then (2,w.length,0) else (1,w.length,0)
def nP (T:List UInt8):Nat × Nat × Nat :=
 let w:=T.takeWhile aL
 if 60<w.length∨(1<w.length∧w[0]?=some 48) then (0,0,21) else (3,w.length,0)
def Aj (T:List UInt8):Nat × Nat × Nat :=
 match pX T with
 | some x=>(4,x.length,0)
 | none=>(0,0,20)
def dY:List UInt8→Nat × Nat × Nat
 | []=>(5,0,0)
 | c :: r=>if dG c then lC (c :: r) else if aL c then nP (c :: r) else Aj (c :: r)
structure Tok where
 kind:Nat
 lead:List UInt8
 text:List UInt8
 place:Nat
def bV (t:Tok):List Value:=[.int .i64 t.kind,.string ⟨t.lead.toArray⟩,.string ⟨t.text.toArray⟩,.int .i64 t.place]
def nQ:Nat→List UInt8→Nat→Except (Nat × Nat) (List Tok)
 | 0,_,_=>.error (99,0)
 | n+1,T,p =>
  let k:=bJ false T
  let U:=T.drop k
  let t:=dY U
  if t.2.2≠0 then .error (t.2.2,p+k)
  else if t.1=5 then .ok [⟨5,T.take k,[],p+k⟩]
  else match nQ n (U.drop t.2.1) (p+k+t.2.1) with
   | .error e=>.error e
   | .ok l=>.ok (⟨t.1,T.take k,U.take t.2.1,p+k⟩ :: l)
def bW (S:List UInt8):Except (Nat × Nat) (List Tok):=if 65536<S.length then .error (11,0) else nQ (S.length+1) S 0
theorem jL {α:Type}(p:α→Bool)(l:List α):(l.takeWhile p).length≤l.length:=(List.takeWhile_prefix p).length_le
theorem AZ {T x:List UInt8}(h:pX T=some x):x <+: T∧0<x.length∧x.length≤2:=by
 have h1:=List.find?_some h;have h2:=List.mem_of_find?_eq_some h;refine⟨List.isPrefixOf_iff_prefix.1 h1,?_⟩
 have:∀ y∈iF,0<y.length∧y.length≤2:=by decide
 exact this x h2
theorem wF (T:List UInt8):(dY T).2.1≤T.length:=by
 cases T with
 | nil=>simp[dY]
 | cons c r =>
  rw[dY]
  split
  ·have:=jL aV (c :: r)
   simp only[lC]
   split
   ·simp
   ·split<;>exact this
  ·split
   ·have:=jL aL (c :: r)
    simp only[nP]
    split
    ·simp
    ·exact this
   ·rw[Aj]
    split
    ·rename_i x hx
     exact(AZ hx).1.length_le
    ·simp
theorem wG (T:List UInt8)(h:(dY T).2.2=0)(h5:(dY T).1≠5):0<(dY T).2.1:=by
 cases T with
 | nil=>simp[dY] at h5
 | cons c r =>
  rw[dY] at h h5 ⊢
  by_cases hc:dG c=true
  ·have hp:0<((c :: r).takeWhile aV).length:=by rw[List.takeWhile_cons_of_pos (by simp[aV,hc])];simp
   rw[if_pos hc] at h ⊢;simp only[lC] at h ⊢
   split at h
   ·cases h
   ·rename_i XE
    rw[if_neg XE]
    split<;>exact hp
  ·rw[if_neg hc] at h ⊢
   by_cases hd:aL c=true
   ·have hp:0<((c :: r).takeWhile aL).length:=by rw[List.takeWhile_cons_of_pos hd];simp
    rw[if_pos hd] at h ⊢;simp only[nP] at h ⊢
    split at h
    ·cases h
    ·rename_i Gy
     rw[if_neg Gy];exact hp
   ·rw[if_neg hd] at h ⊢
    rw[Aj] at h ⊢
    split at h
    ·rename_i x hx
     exact(AZ hx).2.1
    ·cases h
end Go.Proofs.YtknicmmigbhpcaaGreatDoor
