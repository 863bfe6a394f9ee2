/- Walks and plain laws, without a condition. -/
import Derived.WalkKit
import Derived.WalkSpells
import Derived.WalkLawsBesides
import Derived.Lib.OthersKept
import Derived.Lib.Hide
import Derived.BigQuiet
import Derived.BigGuardPart
import Derived.Deep.QuietTactic
import Derived.StillTailTactics
import Derived.Deep.RegionHeld3
import Derived.Deep.AppendLies
import Derived.Deep.DrawnRows
import Derived.Deep.DeepCutAuto
import Derived.Lib.SlicesCompact
import Derived.Lib.RowBridge
import Derived.Lib.Bytealg
import Derived.Lib.IndexLaws
import Derived.Shelf.Spec.SearchS
import Derived.Shelf.Strings.Builder1
import Derived.Shelf.Strings.Trim
import Derived.Shelf.Small.Utf8
import Derived.Shelf.Small.Bits
import Derived.Shelf.Small.Strs
import Derived.Shelf.Small.Wraps
import Derived.Shelf.Strings.BuilderF
import Derived.Shelf.Strings.BuilderK
import Derived.Shelf.Strconv.Itoa0
import Derived.Shelf.Strconv.Itoa1
import Derived.Shelf.LaysM
import Derived.Shelf.Strconv.Itoa2
import Derived.Shelf.Strconv.Itoa3
import Derived.Shelf.Strings.Search1
import Derived.Shelf.Strings.Search2
import Derived.Shelf.Strings.Search3
import Derived.Shelf.Strings.Shaped
import Derived.Shelf.Sort.Plain
import Derived.Shelf.Strings.Prefix
import Derived.Shelf.Strings.Runes
import Derived.Shelf.Strings.AsciiSet
import Derived.Shelf.Unicode.DecodeSlow
import Derived.Shelf.Slices.Turned
import Derived.Ground.Names2Prog
import Derived.Shelf.Slices.Clone
import Derived.Shelf.Slices.CompactS
import Derived.Shelf.Slices.Cells
import Derived.Shelf.Slices.In.SortNone
import Derived.Test.YtmleecdnkmoohaaGreatDoorProg
import Derived.Shelf.Strings.SlTrimAscii
import Derived.Lib.SlTrimSet
import Derived.Great.BuildSlice
import Derived.Deep.WholeRow
set_option maxHeartbeats 16000000
set_option maxRecDepth 100000
set_option linter.unusedVariables false
set_option linter.unusedSimpArgs false
namespace Go.Proofs.YtmleecdnkmoohaaGreatDoor
open Go.RowKit
variable{i sz n B e base k:Nat}{cs xs:List Value}{v:Value}{w w':World}{fr:Nat × Nat}
abbrev aH:=List UInt8
theorem ay{p:Prop}(h:p):Go.RowKit.Hid p:=Go.Lib.hid h
theorem bP{α}{xs:Array α}{a:α}(h:xs[i]?=some a):∃ h:i<xs.size,xs[i]=a:=Array.getElem?_eq_some_iff.1 h
theorem pE{α}{xs:List α}{a:α}(h:xs[i]?=some a):∃ h:i<xs.length,xs[i]=a:=List.getElem?_eq_some_iff.1 h
theorem cZ{α β}{o:Option α}{f:α->Option β}{b:β}(h:o.bind f=some b):∃ a,o=some a/\f a=some b:=Option.bind_eq_some_iff.1 h
theorem bY{α}{xs ys:List α}:(xs++ys).length=xs.length+ys.length:=List.length_append
theorem fu{α}{a:α}{xs:List α}:(a::xs).length=xs.length+1:=List.length_cons
set_option linter.defProp false
universe u v
def aX:=@Go.heap_alloc_new
def aZ:=@Go.Lib.cell_of_heap
def gZ:=@Go.Lib.alloc_old
def bQ:=@Go.RowKit.Below.refl
def nG:=@Go.World.size_alloc
def jo:=@Go.cell_later
def dX:=@decide_eq_false
def jV:=@decide_eq_true
def bD:=@Nat.le_refl
def jq:=@Nat.le_trans
def kJ:=@Nat.zero_le
def lG:=@Option.some.inj.{u}
def nH:=@List.getElem_mem.{u}
def jC:=@List.length_nil.{u}
def pJ:=@List.cons_append.{u}
def om:=@List.append_assoc.{u}
def uD:=@List.nil_append.{u}
def zF:=@List.take_succ_eq_append_getElem.{u}
def AY:=@List.getElem?_eq_getElem.{u}
def pK:=@List.length_take.{u}
def Dy:=@List.mem_cons_of_mem.{u}
def Cu:=@List.mem_cons_self.{u}
def Ba:=@List.take_of_length_le.{u}
def vL:=@Go.World.news_of_block
def Ea:=@beq_eq_false_iff_ne
def aU:=@if_neg.{u}
def bR:=@if_pos.{u}
def jN:=@Go.heap_setCell_same
def qm:=@Go.heap_setCell_other
def pO:=@Option.bind_some.{u}
def uw:=@Bool.and_eq_true
def lN:=@List.map_cons.{u,v}
def nY:=@List.mem_cons.{u}
def AZ:=@decide_eq_true_eq
def gy:=@And.intro
def yK:=@Go.World.cell?_of_block
def nI:=@Go.bodyPost_ret
def xw:=@Nat.lt_of_lt_of_le
def nZ:=@Nat.add_zero
def vM:=@Bool.not_eq_true
def oC:=@List.length_map.{u,v}
def yL:=@List.length_drop.{u}
def Kr:=@List.getD_eq_getElem?_getD.{u}
def H9:=@List.getElem_cons_succ.{u}
def SY:=@Classical.byContradiction
def Ia:=@List.mem_singleton.{u}
def vN:=@Nat.add_assoc
def xZ:=@List.map_append.{u,v}
def zG:=@List.take_length.{u}
def abj:=@List.getElem?_append_right.{u}
def abk:=@List.take_append_of_le_length.{u}
def abo:=@List.flatMap_append.{u,v}
def abp:=@List.mem_append_left.{u}
def PY:=@of_decide_eq_true
def abt:=@List.length_replicate.{u}
def Sl (B:Nat)(w:World)(v:Value)(sz n:Nat)(cs:List Value):Prop :=
 ∃ ao cap,v=.slice ao n cap/\n<=cap/\cs.length=n * sz /\
  (0<n->∃ b off,ao=some ⟨b,off,none⟩/\b<B/\∀ i,(h:i<cs.length)->w.cell? ⟨b,off+i,none⟩=some cs[i])
theorem Sl.below (h:Sl B w v sz n cs)(hb:Below B w w'):Sl B w' v sz n cs:=by
 obtain⟨ao,cap,hv,hn,hl,hc⟩:=h;refine⟨ao,cap,hv,hn,hl,λh0=>?_⟩;obtain⟨b,off,ha,hB,hcell⟩:=hc h0;exact⟨b,off,ha,hB,λi hi=>(hb.cell (p:=⟨b,off+i,none⟩) hB).trans (hcell i hi)⟩
theorem Sl.mono {B':Nat}(h:Sl B w v sz n cs)(hB:B<=B'):Sl B' w v sz n cs:=by
 obtain⟨ao,cap,hv,hn,hl,hc⟩:=h;refine⟨ao,cap,hv,hn,hl,λh0=>?_⟩;obtain⟨b,off,ha,hb,hcell⟩:=hc h0;exact⟨b,off,ha,xw hb hB,hcell⟩
theorem Sl.fQ (h:w.ownsRow B e sz v n cs):Sl w.heap.size w v sz n cs:=by
 obtain⟨hl,h⟩:=h
 rcases h with ⟨rfl,rfl⟩|⟨g,cap,cur,rfl,hg,hh,hn,hm,hs,hx⟩
 ·exact⟨none,0,rfl,bD _,hl,λh0=>absurd h0 (by omega)⟩
 ·refine⟨some ⟨g,0,none⟩,cap,rfl,hn,hl,λ_=>⟨g,0,rfl,?_,λi hi=>?_⟩⟩
  ·rcases Nat.lt_or_ge g w.heap.size with h'|h'
   ·exact h'
   ·simp[Array.getElem?_eq_none h'] at hh
  ·subst hx
   simp only[pK] at hi;simp only[World.cell?,hh,Nat.zero_add,List.getElem_take];simp only[Option.isSome_none,Bool.false_eq_true,if_false];rw[Array.getElem?_eq_getElem (by simpa using (by omega:i<cur.toList.length))]
   simp
theorem zK {α:Type}{f:α->List Value}{sz:Nat}(hf:∀ x,(f x).length=sz):∀ (l:List α) (k j:Nat) (hk:k<l.length),j<sz ->
  (l.flatMap f)[k * sz+j]?=(f l[k])[j]?
 | [],k,j,hk,_=>absurd hk (by simp)
 | x :: l,0,j,_,hj=>by
  simp only[List.flatMap_cons,Nat.zero_mul,Nat.zero_add,List.getElem_cons_zero];rw[List.getElem?_append_left (by rw[hf];exact hj)]
 | x :: l,k+1,j,hk,hj=>by
  have:=zK hf l k j (by simpa using hk) hj;simp only[List.flatMap_cons,H9];rw[abj (by rw[hf,Nat.succ_mul];omega),hf,show (k+1) * sz+j - sz=k * sz+j by rw[Nat.succ_mul];omega];exact this
def Rec {α:Type}(B:Nat)(w:World)(v:Value)(sz:Nat)(f:α->List Value)(l:List α):Prop:=Sl B w v sz l.length (l.flatMap f)
theorem Rec.form {α:Type}{f:α->List Value}{l:List α}(h:Rec B w v sz f l)(hf:∀ x,(f x).length=sz) :
  ∃ ao cap,v=.slice ao l.length cap/\l.length<=cap/\(0<l.length->∃ b off,ao=some ⟨b,off,none⟩/\b<B /\
   ∀ k j u,(hk:k<l.length)->(f l[k])[j]?=some u->w.cell? ⟨b,off+k * sz+j,none⟩=some u):=by
 obtain⟨ao,cap,hv,hn,hl,hc⟩:=h;refine⟨ao,cap,hv,hn,λh0=>?_⟩;obtain⟨b,off,ha,hB,hcell⟩:=hc h0;refine⟨b,off,ha,hB,λk j u hk hu=>?_⟩
 have hj:j<sz:=by
  rcases Nat.lt_or_ge j sz with h'|h'
  ·exact h'
  ·rw[List.getElem?_eq_none (by rw[hf];exact h')] at hu;cases hu
 have hi:=zK hf l k j hk hj;rw[hu] at hi;obtain⟨h',e⟩:=pE hi;have:=hcell (k * sz+j) h';rw[e] at this;rw[vN];exact this
theorem Rec.below {α:Type}{B:Nat}{w w':World}{v:Value}{sz:Nat}{f:α->List Value}{l:List α}(h:Rec B w v sz f l)(hb:Below B w w'):Rec B w' v sz f l:=Sl.below h hb
theorem Rec.mono {α:Type}{B B':Nat}{w:World}{v:Value}{sz:Nat}{f:α->List Value}{l:List α}(h:Rec B w v sz f l)(hB:B<=B'):Rec B' w v sz f l:=Sl.mono h hB
theorem sW (h:w.ownsRow base e sz v n xs):w.drew.ownsRow base e sz v n xs:=h
theorem own_ne (hr:w.ownsRow base e sz v n xs){cs:Array Value}{T:TypeId}(hk:w.heap[k]?=some (.cells cs T fr))(hT:T≠e):some k≠v.ownBlock:=by
 rcases hr.2 with ⟨rfl,_⟩|⟨g,cap,cur,rfl,_,hgg,_⟩
 ·simp[Value.ownBlock]
 ·intro q
  simp only[Value.ownBlock,Option.some.injEq] at q;subst q;rw[hk] at hgg;simp only[Option.some.injEq,Obj.cells.injEq] at hgg;exact hT hgg.2.1
theorem iW (hr:w.ownsRow base e sz v n xs)(hg:w.grownBy w' v.ownBlock){cs:Array Value}{T:TypeId}(hk:w.heap[k]?=some (.cells cs T fr))(hT:T≠e) :
  w'.heap[k]?=some (.cells cs T fr):=by
 rw[hg.block k (bP hk).1 (own_ne hr hk hT)];exact hk
theorem zL {k:IntKind}{a b:Int}(h:a=b):Ending.returned (.int k a)=.returned (.int k b):=by rw[h]
theorem bB {a b:Bool}(h:a=b):Ending.returned (.bool a)=.returned (.bool b):=by rw[h]
theorem uE (s:ByteArray):s.toList.isEmpty=decide (s.size=0):=by
 rw[Go.ByteArray.toList_eq]
 have:s.data.toList.length=s.size:=by cases s;rfl
 cases h:s.data.toList with
 | nil=>rw[h,jC] at this;exact(jV (by omega)).symm
 | cons a t=>rw[h,fu] at this;exact(dX (by omega)).symm
variable{x y z:aH}{a b:ByteArray}
theorem qG (h1:x<=y)(h2:y<=x):x=y:=List.le_antisymm h1 h2
theorem IZ (h1:x<=y)(h2:y<=z):x<=z:=List.le_trans h1 h2
theorem Ur (x y:aH):x<=y\/y<=x:=List.le_total x y
theorem Kt:x<y↔x<=y/\x≠y:=by
 constructor
 ·intro h
  exact⟨List.le_of_lt h,λq=>by subst q;exact List.lt_irrefl _ h⟩
 ·rintro⟨h1,h2⟩
  apply SY
  intro q;exact h2 (qG h1 (List.not_lt.1 q))
theorem Us (h1:x<=y)(h2:y<z):x<z:=by
 rw[Kt] at h2 |-;exact⟨IZ h1 h2.1,λq=>by subst q;exact h2.2 (qG h2.1 h1)⟩
def iD (l:List aH):List aH:=l.mergeSort λx y=>decide (x<=y)
theorem qM (l:List aH):(iD l).length=l.length:=List.length_mergeSort l
theorem Ku (l:List aH):(iD l).Pairwise (·<=·):=by
 have:=List.pairwise_mergeSort (le:=λx y:aH=>decide (x<=y)) (λa b c h1 h2=>by simp only[AZ] at *;exact IZ h1 h2) (λa b=>by simp only[Bool.or_eq_true,AZ];exact Ur a b) l
 exact this.imp λh=>by simpa using h
def gD (l:List aH):List aH:=Lib.compact (iD l)
theorem En (d:Array aH)(m:Nat)(x:aH)(h:x∈Lib.compactUpTo d m):∃ j,j<m/\x=d[j]!:=by
 unfold Lib.compactUpTo at h;obtain⟨j,hj,rfl⟩:=List.mem_map.1 h;exact⟨j,List.mem_range.1 (List.mem_filter.1 hj).1,rfl⟩
theorem qU (zs:List aH)(hs:zs.Pairwise (·<=·)):∀ m,m<=zs.length->(Lib.compactUpTo zs.toArray m).Pairwise (· < ·)
 | 0,_=>by simp[Lib.compactUpTo]
 | m+1,h=>by
  rw[Lib.compactUpTo_succ,List.pairwise_append];refine⟨qU zs hs m (by omega),by split<;>simp,λx hx y hy=>?_⟩
  split at hy
  ·rename_i k
   rw[Ia] at hy;subst hy;obtain⟨j,hj,rfl⟩:=En _ _ _ hx;unfold Lib.keeps at k;rw[AZ] at k;have hne:zs.toArray[m]!≠zs.toArray[m - 1]!:=k.resolve_left (by omega)
   have e:∀ i,(hi:i<zs.length)->zs.toArray[i]! = zs[i]:=λi hi=>by rw[getElem!_pos _ _ (by simpa using hi)];simp
   rw[e m (by omega),e (m - 1) (by omega)] at hne;rw[e j (by omega),e m (by omega)]
   have h1:zs[j]<=zs[m - 1]:=by
    by_cases q:j=m - 1
    ·subst q;exact List.le_refl _
    ·exact List.pairwise_iff_getElem.1 hs j (m - 1) (by omega) (by omega) (by omega)
   have h2:zs[m - 1]<=zs[m]:=List.pairwise_iff_getElem.1 hs (m - 1) m (by omega) (by omega) (by omega);exact Us h1 (Kt.2 ⟨h2,λq=>hne q.symm⟩)
  ·cases hy
theorem pQ (l:List aH):(gD l).Pairwise (· < ·):=qU _ (Ku l) _ (bD _)
theorem pR (l:List aH):(gD l).length<=l.length:=by
 have:=Lib.compact_length_le (iD l);rw[qM] at this;exact this
theorem Mh:gD []=[]:=List.eq_nil_of_length_eq_zero (by have:=pR [];simpa using this)
theorem aY (o:ByteArray):o.data.toList.length=o.size:=by cases o;rfl
theorem Cv (a b:ByteArray):(a++b).data.toList=a.data.toList++b.data.toList:=by simp
theorem sZ (h:a.data.toList=b.data.toList):a=b:=by
 cases a;cases b
 congr 1
 exact Array.toList_inj.1 h
theorem iY (s:ByteArray)(a b:Nat):(s.extract a b).data.toList=(s.data.toList.take b).drop a:=by
 rw[Lib.extract_data,List.drop_take]
theorem pU (s:ByteArray)(a:Nat):(s.extract a s.size).data.toList=s.data.toList.drop a:=by
 rw[iY,Ba]
 simp
theorem Ta (h:a=b):Ending.returned (.string a)=.returned (.string b):=by rw[h]
theorem Ut (T:aH):(Lib.indexByte T 10=-1/\∀ j:Nat,T[j]?≠some 10)\/∃ i:Nat,Lib.indexByte T 10=i/\T[i]?=some 10/\i<T.length/\∀ j:Nat,j<i->T[j]?≠some 10:=by
 rcases hq:Lib.indexByte T 10 with n|n
 ·right
  obtain⟨h1,h2⟩:=Lib.indexByte_some (o:=n) hq;exact⟨n,rfl,h1,(pE h1).1,h2⟩
 ·left
  have:=Lib.indexByte_ge T 10
  have h1:Lib.indexByte T 10=-1:=by rw[hq] at this |-;omega
  rw[hq] at h1;refine⟨h1,?_⟩;rw[<- hq] at h1;exact Lib.indexByte_none h1
def P6:Value->Nat
 | .string s=>s.size
 | _=>0
def kF (c:UInt8):Bool:=(97<=c && c<=122) || (65<=c && c<=90)
def bI (c:UInt8):Bool:=48<=c && c<=57
def bZ (c:UInt8):Bool:=kF c || bI c || c == 95
def iT (c:UInt8):Bool:=c == 32 || c == 9 || c == 13 || c == 10
def eB:Bool->aH->Nat
 | _,[]=>0
 | true,c :: r=>if c=10 then 1+eB false r else 1+eB true r
 | false,c :: r=>if iT c then 1+eB false r else if c=45/\r.head?=some 45 then 1+eB true r else 0
theorem pV:∀ (m:Bool) (T:aH),eB m T<=T.length
 | _,[]=>by simp[eB]
 | true,c :: r=>by
  have h1:=pV false r;have h2:=pV true r;rw[eB]
  split<;>simp<;>omega
 | false,c :: r=>by
  have h1:=pV false r;have h2:=pV true r;rw[eB]
  split
  ·simp;omega
  ·split<;>simp
   omega
theorem zM:∀ (T:aH),eB false T=(T.takeWhile iT).length+eB false (T.dropWhile iT)
 | []=>by simp[eB]
 | c :: r=>by
  by_cases hc:iT c=true
  ·rw[List.takeWhile_cons_of_pos hc,List.dropWhile_cons_of_pos hc,eB,bR hc,fu,zM r]
   omega
  ·rw[List.takeWhile_cons_of_neg hc,List.dropWhile_cons_of_neg hc]
   simp
theorem Eo:∀ (T:aH),(∀ j:Nat,T[j]?≠some 10)->eB true T=T.length
 | [],_=>rfl
 | c :: r,h=>by
  have h0:c≠10:=λe=>h 0 (by simp[e])
  rw[eB,aU h0,Eo r (λj=>by have:=h (j+1);simpa using this),fu];omega
theorem Ep:∀ (n:Nat) (T:aH),T[n]?=some 10->(∀ j:Nat,j<n->T[j]?≠some 10)->eB true T=n+eB false (T.drop n)
 | _,[],h,_=>by simp at h
 | 0,c :: r,h,_=>by
  have h0:c=10:=by simpa using h
  subst h0;rw[eB,bR rfl,List.drop_zero,eB,bR (by decide)];omega
 | n+1,c :: r,h,hj=>by
  have h0:c≠10:=λe=>hj 0 (by omega) (by simp[e])
  rw[eB,aU h0,Ep n r (by simpa using h) (λj hjm=>by have:=hj (j+1) (by omega);simpa using this)]
  simp
  omega
theorem Kv (T:aH)(h:[45,45] <+: T):eB false T=eB true T:=by
 obtain⟨r,rfl⟩:=h;show eB false (45 :: 45 :: r)=eB true (45 :: 45 :: r)
 have h1:eB false (45 :: 45 :: r)=1+eB true (45 :: r):=by
  conv=>lhs;rw[eB]
  rw[aU (by decide),bR ⟨rfl,rfl⟩]
 have h2:eB true (45 :: 45 :: r)=1+eB true (45 :: r):=by
  conv=>lhs;rw[eB]
  rw[aU (by decide)]
 rw[h1,h2]
theorem P7 (T:aH)(h:¬ [45,45] <+: T)(hb:T.takeWhile iT=[]):eB false T=0:=by
 cases T with
 | nil=>rfl
 | cons c r =>
  have hc:¬ iT c=true:=λq=>by rw[List.takeWhile_cons_of_pos q] at hb;cases hb
  rw[eB,aU hc,aU];rintro⟨rfl,h2⟩
  cases r with
  | nil=>cases h2
  | cons d r =>
   injection h2 with h2
   subst h2;exact h ⟨r,rfl⟩
def uF:List aH:=[[97,115,115,101,114,116],[98,111,111,108],[101,108,115,101],[102,97,108,115,101],[102,117,110],[105,102],[105,109,112,111,114,116],[105,110],[105,110,116],[108,101,116],[110,111,116],[112,117,98],[114,101,115],[116,104,101,110],[116,114,117,101]]
def ahn:List aH:=[[60,62],[60,61],[62,61],[38,38],[124,124],[61,62]]
def aho:aH:=[40,41,123,125,44,58,59,46,43,45,42,47,37,61,60,62]
def vU:List aH:=ahn++aho.map λc=>[c]
def I4 (T:aH):Option aH:=vU.find? (λx=>x.isPrefixOf T)
def qD (T:aH):Nat × Nat × Nat :=
 let w:=T.takeWhile bZ
 if 40<w.length then (0,0,20) else if w∈uF then (2,w.length,0) else (1,w.length,0)
def sO (T:aH):Nat × Nat × Nat :=
 let w:=T.takeWhile bI
 if 60<w.length\/(1<w.length/\w[0]?=some 48) then (0,0,21) else (3,w.length,0)
def Ib (T:aH):Nat × Nat × Nat :=
 match I4 T with
 | some x=>(4,x.length,0)
 | none=>(0,0,20)
def iP:aH->Nat × Nat × Nat
 | []=>(5,0,0)
 | c :: r=>if kF c then qD (c :: r) else if bI c then sO (c :: r) else Ib (c :: r)
structure Tok where
 kind:Nat
 lead:aH
 text:aH
 place:Nat
def dP (t:Tok):List Value:=[.int .i64 t.kind,.string ⟨t.lead.toArray⟩,.string ⟨t.text.toArray⟩,.int .i64 t.place]
def rT:Nat->aH->Nat->Except (Nat × Nat) (List Tok)
 | 0,_,_=>.error (99,0)
 | n+1,T,p =>
  let k:=eB false T
  let U:=T.drop k
  let t:=iP U
  if t.2.2≠0 then .error (t.2.2,p+k)
  else if t.1=5 then .ok [⟨5,T.take k,[],p+k⟩]
  else match rT n (U.drop t.2.1) (p+k+t.2.1) with
   | .error e=>.error e
   | .ok l=>.ok (⟨t.1,T.take k,U.take t.2.1,p+k⟩ :: l)
def dQ (S:aH):Except (Nat × Nat) (List Tok):=if 65536<S.length then .error (11,0) else rT (S.length+1) S 0
theorem lH {α:Type}(p:α->Bool)(l:List α):(l.takeWhile p).length<=l.length:=(List.takeWhile_prefix p).length_le
theorem Er {T:aH}(h:I4 T=some x):x <+: T/\0<x.length/\x.length<=2:=by
 have h1:=List.find?_some h;have h2:=List.mem_of_find?_eq_some h;refine⟨List.isPrefixOf_iff_prefix.1 h1,?_⟩
 have:∀ y∈vU,0<y.length/\y.length<=2:=by decide
 exact this x h2
theorem Es (T:aH):(iP T).2.1<=T.length:=by
 cases T with
 | nil=>simp[iP]
 | cons c r =>
  rw[iP]
  split
  ·have:=lH bZ (c :: r)
   simp only[qD]
   split
   ·simp
   ·split<;>exact this
  ·split
   ·have:=lH bI (c :: r)
    simp only[sO]
    split
    ·simp
    ·exact this
   ·rw[Ib]
    split
    ·rename_i x hx
     exact(Er hx).1.length_le
    ·simp
theorem Et (T:aH)(h:(iP T).2.2=0)(h5:(iP T).1≠5):0<(iP T).2.1:=by
 cases T with
 | nil=>simp[iP] at h5
 | cons c r =>
  rw[iP] at h h5 |-
  by_cases hc:kF c=true
  ·have hp:0<((c :: r).takeWhile bZ).length:=by rw[List.takeWhile_cons_of_pos (by simp[bZ,hc])];simp
   rw[bR hc] at h |-;simp only[qD] at h |-
   split at h
   ·cases h
   ·rename_i h40
    rw[aU h40]
    split<;>exact hp
  ·rw[aU hc] at h |-
   by_cases hd:bI c=true
   ·have hp:0<((c :: r).takeWhile bI).length:=by rw[List.takeWhile_cons_of_pos hd];simp
    rw[bR hd] at h |-;simp only[sO] at h |-
    split at h
    ·cases h
    ·rename_i P8
     rw[aU P8];exact hp
   ·rw[aU hd] at h |-
    rw[Ib] at h |-
    split at h
    ·rename_i x hx
     exact(Er hx).2.1
    ·cases h
end Go.Proofs.YtmleecdnkmoohaaGreatDoor

namespace Go.Proofs
open Go.Shelf
def Tryz.Cw:Go.Shelf.Ren:=⟨fun|169=>123|n=>n,fun|70=>221|9=>9|0=>0|72=>223|37=>195|127=>291|3=>3|5=>5|n=>n,fun|n=>n⟩
theorem Tryz.abT:Go.Proofs.Lays.n169 Tryz.prog Tryz.Cw:={
 mixed:=by kernel_rfl
 f169:=Tryz.func123.trans (congrArg some (by kernel_rfl))
 t0:=Tryz.underlying0
 a0:=Tryz.isAgg0
 z0:=Tryz.sizeOf0
 v0:=Tryz.zeroValue0
 t3:=Tryz.underlying3
 a3:=Tryz.isAgg3
 z3:=Tryz.sizeOf3
 v3:=Tryz.zeroValue3
 t9:=Tryz.underlying9
 a9:=Tryz.isAgg9
 z9:=Tryz.sizeOf9
 v9:=Tryz.zeroValue9
 t37:=Tryz.underlying195
 a37:=Tryz.isAgg195
 z37:=Tryz.sizeOf195
 v37:=Tryz.zeroValue195
 t70:=Tryz.underlying221
 a70:=Tryz.isAgg221
 z70:=Tryz.sizeOf221
 v70:=Tryz.zeroValue221
 t72:=Tryz.underlying223
 a72:=Tryz.isAgg223
 z72:=Tryz.sizeOf223
 v72:=Tryz.zeroValue223
 t127:=Tryz.underlying291
 a127:=Tryz.isAgg291
 z127:=Tryz.sizeOf291
 v127:=Tryz.zeroValue291 }
theorem Tryz.zN:Builder.Extra Tryz.prog Tryz.Cw:={
 sizeBuilder:=by kernel_rfl
 liesBuilder:=by kernel_rfl
 t5:=Tryz.underlying5
 a5:=Tryz.isAgg5
 z5:=Tryz.sizeOf5
 v5:=Tryz.zeroValue5
 infoByte:=by kernel_rfl
 cellsByte:=by kernel_rfl
 sizeByte:=by kernel_rfl
 neB5:=by decide }
def Tryz.Mi:Go.Shelf.Ren:=⟨fun|161=>201|231=>256|227=>147|233=>257|235=>258|228=>198|197=>254|151=>200|260=>286|152=>255|137=>287|119=>288|224=>289|225=>290|217=>291|266=>301|n=>n,fun|9=>9|4=>4|3=>3|5=>5|117=>251|116=>250|0=>0|124=>254|105=>296|21=>21|119=>368|46=>245|139=>371|138=>370|n=>n,fun|3=>1|4=>2|n=>n⟩
theorem Tryz.abU:Go.Proofs.Lays.n161 Tryz.prog Tryz.Mi:={
 mixed:=by kernel_rfl
 f119:=Tryz.func288.trans (congrArg some (by kernel_rfl))
 f137:=Tryz.func287.trans (congrArg some (by kernel_rfl))
 f151:=Tryz.func200.trans (congrArg some (by kernel_rfl))
 f152:=Tryz.func255.trans (congrArg some (by kernel_rfl))
 f161:=Tryz.func201.trans (congrArg some (by kernel_rfl))
 f197:=Tryz.func254.trans (congrArg some (by kernel_rfl))
 f217:=Tryz.func291.trans (congrArg some (by kernel_rfl))
 f224:=Tryz.func289.trans (congrArg some (by kernel_rfl))
 f225:=Tryz.func290.trans (congrArg some (by kernel_rfl))
 f227:=Tryz.func147.trans (congrArg some (by kernel_rfl))
 f228:=Tryz.func198.trans (congrArg some (by kernel_rfl))
 f231:=Tryz.func256.trans (congrArg some (by kernel_rfl))
 f233:=Tryz.func257.trans (congrArg some (by kernel_rfl))
 f235:=Tryz.func258.trans (congrArg some (by kernel_rfl))
 f260:=Tryz.func286.trans (congrArg some (by kernel_rfl))
 f266:=Tryz.func301.trans (congrArg some (by kernel_rfl))
 t0:=Tryz.underlying0
 a0:=Tryz.isAgg0
 z0:=Tryz.sizeOf0
 v0:=Tryz.zeroValue0
 t3:=Tryz.underlying3
 a3:=Tryz.isAgg3
 z3:=Tryz.sizeOf3
 v3:=Tryz.zeroValue3
 t4:=Tryz.underlying4
 a4:=Tryz.isAgg4
 z4:=Tryz.sizeOf4
 v4:=Tryz.zeroValue4
 t5:=Tryz.underlying5
 a5:=Tryz.isAgg5
 z5:=Tryz.sizeOf5
 v5:=Tryz.zeroValue5
 t9:=Tryz.underlying9
 a9:=Tryz.isAgg9
 z9:=Tryz.sizeOf9
 v9:=Tryz.zeroValue9
 t21:=Tryz.underlying21
 a21:=Tryz.isAgg21
 z21:=Tryz.sizeOf21
 v21:=Tryz.zeroValue21
 t46:=Tryz.underlying245
 a46:=Tryz.isAgg245
 z46:=Tryz.sizeOf245
 v46:=Tryz.zeroValue245
 t105:=Tryz.underlying296
 a105:=Tryz.isAgg296
 z105:=Tryz.sizeOf296
 v105:=Tryz.zeroValue296
 t116:=Tryz.underlying250
 a116:=Tryz.isAgg250
 z116:=Tryz.sizeOf250
 t117:=Tryz.underlying251
 a117:=Tryz.isAgg251
 z117:=Tryz.sizeOf251
 v117:=Tryz.zeroValue251
 t119:=Tryz.underlying368
 a119:=Tryz.isAgg368
 z119:=Tryz.sizeOf368
 t124:=Tryz.underlying254
 a124:=Tryz.isAgg254
 z124:=Tryz.sizeOf254
 v124:=Tryz.zeroValue254
 t138:=Tryz.underlying370
 a138:=Tryz.isAgg370
 z138:=Tryz.sizeOf370
 v138:=Tryz.zeroValue370
 t139:=Tryz.underlying371
 a139:=Tryz.isAgg371
 z139:=Tryz.sizeOf371
 v139:=Tryz.zeroValue371
 g3:=by kernel_rfl
 g4:=by kernel_rfl }
def Tryz.Mj:Go.Shelf.Ren:=⟨fun|162=>98|232=>146|227=>147|234=>148|236=>149|228=>198|271=>199|151=>200|120=>253|197=>254|152=>255|260=>286|137=>287|119=>288|224=>289|225=>290|217=>291|266=>301|n=>n,fun|9=>9|4=>4|3=>3|5=>5|117=>251|116=>250|0=>0|124=>254|21=>21|105=>296|46=>245|119=>368|139=>371|138=>370|n=>n,fun|3=>1|4=>2|n=>n⟩
theorem Tryz.abV:Go.Proofs.Lays.n162 Tryz.prog Tryz.Mj:={
 mixed:=by kernel_rfl
 f119:=Tryz.func288.trans (congrArg some (by kernel_rfl))
 f120:=Tryz.func253.trans (congrArg some (by kernel_rfl))
 f137:=Tryz.func287.trans (congrArg some (by kernel_rfl))
 f151:=Tryz.func200.trans (congrArg some (by kernel_rfl))
 f152:=Tryz.func255.trans (congrArg some (by kernel_rfl))
 f162:=Tryz.func98.trans (congrArg some (by kernel_rfl))
 f197:=Tryz.func254.trans (congrArg some (by kernel_rfl))
 f217:=Tryz.func291.trans (congrArg some (by kernel_rfl))
 f224:=Tryz.func289.trans (congrArg some (by kernel_rfl))
 f225:=Tryz.func290.trans (congrArg some (by kernel_rfl))
 f227:=Tryz.func147.trans (congrArg some (by kernel_rfl))
 f228:=Tryz.func198.trans (congrArg some (by kernel_rfl))
 f232:=Tryz.func146.trans (congrArg some (by kernel_rfl))
 f234:=Tryz.func148.trans (congrArg some (by kernel_rfl))
 f236:=Tryz.func149.trans (congrArg some (by kernel_rfl))
 f260:=Tryz.func286.trans (congrArg some (by kernel_rfl))
 f266:=Tryz.func301.trans (congrArg some (by kernel_rfl))
 f271:=Tryz.func199.trans (congrArg some (by kernel_rfl))
 t0:=Tryz.underlying0
 a0:=Tryz.isAgg0
 z0:=Tryz.sizeOf0
 v0:=Tryz.zeroValue0
 t3:=Tryz.underlying3
 a3:=Tryz.isAgg3
 z3:=Tryz.sizeOf3
 v3:=Tryz.zeroValue3
 t4:=Tryz.underlying4
 a4:=Tryz.isAgg4
 z4:=Tryz.sizeOf4
 v4:=Tryz.zeroValue4
 t5:=Tryz.underlying5
 a5:=Tryz.isAgg5
 z5:=Tryz.sizeOf5
 v5:=Tryz.zeroValue5
 t9:=Tryz.underlying9
 a9:=Tryz.isAgg9
 z9:=Tryz.sizeOf9
 v9:=Tryz.zeroValue9
 t21:=Tryz.underlying21
 a21:=Tryz.isAgg21
 z21:=Tryz.sizeOf21
 v21:=Tryz.zeroValue21
 t46:=Tryz.underlying245
 a46:=Tryz.isAgg245
 z46:=Tryz.sizeOf245
 v46:=Tryz.zeroValue245
 t105:=Tryz.underlying296
 a105:=Tryz.isAgg296
 z105:=Tryz.sizeOf296
 v105:=Tryz.zeroValue296
 t116:=Tryz.underlying250
 a116:=Tryz.isAgg250
 z116:=Tryz.sizeOf250
 t117:=Tryz.underlying251
 a117:=Tryz.isAgg251
 z117:=Tryz.sizeOf251
 v117:=Tryz.zeroValue251
 t119:=Tryz.underlying368
 a119:=Tryz.isAgg368
 z119:=Tryz.sizeOf368
 t124:=Tryz.underlying254
 a124:=Tryz.isAgg254
 z124:=Tryz.sizeOf254
 v124:=Tryz.zeroValue254
 t138:=Tryz.underlying370
 a138:=Tryz.isAgg370
 z138:=Tryz.sizeOf370
 v138:=Tryz.zeroValue370
 t139:=Tryz.underlying371
 a139:=Tryz.isAgg371
 z139:=Tryz.sizeOf371
 v139:=Tryz.zeroValue371
 g3:=by kernel_rfl
 g4:=by kernel_rfl }
open Go.RowKit in
theorem Tryz.strings_TrimRight_one (s:ByteArray)(c:UInt8)(hc:c.toNat<128)(w:World)(hs:s.size<=9223372036854775807) :
  Calls Tryz.prog 98 #[.string s,.string ⟨#[c]⟩] w λe w'=>e=.returned (.string ⟨(Lib.trimRightB s.data.toList c).toArray⟩)/\w'=w:=Any.strings_TrimRight_one Tryz.abV s c hc w hs
def Tryz.Mk:Go.Shelf.Ren:=⟨fun|160=>220|232=>146|231=>256|227=>147|234=>148|233=>257|236=>149|235=>258|228=>198|271=>199|151=>200|197=>254|120=>253|152=>255|260=>286|137=>287|119=>288|224=>289|225=>290|217=>291|266=>301|n=>n,fun|9=>9|4=>4|3=>3|5=>5|117=>251|116=>250|0=>0|124=>254|21=>21|105=>296|46=>245|119=>368|139=>371|138=>370|n=>n,fun|3=>1|4=>2|n=>n⟩
theorem Tryz.abW:Go.Proofs.Lays.n160 Tryz.prog Tryz.Mk:={
 mixed:=by kernel_rfl
 f119:=Tryz.func288.trans (congrArg some (by kernel_rfl))
 f120:=Tryz.func253.trans (congrArg some (by kernel_rfl))
 f137:=Tryz.func287.trans (congrArg some (by kernel_rfl))
 f151:=Tryz.func200.trans (congrArg some (by kernel_rfl))
 f152:=Tryz.func255.trans (congrArg some (by kernel_rfl))
 f160:=Tryz.func220.trans (congrArg some (by kernel_rfl))
 f197:=Tryz.func254.trans (congrArg some (by kernel_rfl))
 f217:=Tryz.func291.trans (congrArg some (by kernel_rfl))
 f224:=Tryz.func289.trans (congrArg some (by kernel_rfl))
 f225:=Tryz.func290.trans (congrArg some (by kernel_rfl))
 f227:=Tryz.func147.trans (congrArg some (by kernel_rfl))
 f228:=Tryz.func198.trans (congrArg some (by kernel_rfl))
 f231:=Tryz.func256.trans (congrArg some (by kernel_rfl))
 f232:=Tryz.func146.trans (congrArg some (by kernel_rfl))
 f233:=Tryz.func257.trans (congrArg some (by kernel_rfl))
 f234:=Tryz.func148.trans (congrArg some (by kernel_rfl))
 f235:=Tryz.func258.trans (congrArg some (by kernel_rfl))
 f236:=Tryz.func149.trans (congrArg some (by kernel_rfl))
 f260:=Tryz.func286.trans (congrArg some (by kernel_rfl))
 f266:=Tryz.func301.trans (congrArg some (by kernel_rfl))
 f271:=Tryz.func199.trans (congrArg some (by kernel_rfl))
 t0:=Tryz.underlying0
 a0:=Tryz.isAgg0
 z0:=Tryz.sizeOf0
 v0:=Tryz.zeroValue0
 t3:=Tryz.underlying3
 a3:=Tryz.isAgg3
 z3:=Tryz.sizeOf3
 v3:=Tryz.zeroValue3
 t4:=Tryz.underlying4
 a4:=Tryz.isAgg4
 z4:=Tryz.sizeOf4
 v4:=Tryz.zeroValue4
 t5:=Tryz.underlying5
 a5:=Tryz.isAgg5
 z5:=Tryz.sizeOf5
 v5:=Tryz.zeroValue5
 t9:=Tryz.underlying9
 a9:=Tryz.isAgg9
 z9:=Tryz.sizeOf9
 v9:=Tryz.zeroValue9
 t21:=Tryz.underlying21
 a21:=Tryz.isAgg21
 z21:=Tryz.sizeOf21
 v21:=Tryz.zeroValue21
 t46:=Tryz.underlying245
 a46:=Tryz.isAgg245
 z46:=Tryz.sizeOf245
 v46:=Tryz.zeroValue245
 t105:=Tryz.underlying296
 a105:=Tryz.isAgg296
 z105:=Tryz.sizeOf296
 v105:=Tryz.zeroValue296
 t116:=Tryz.underlying250
 a116:=Tryz.isAgg250
 z116:=Tryz.sizeOf250
 t117:=Tryz.underlying251
 a117:=Tryz.isAgg251
 z117:=Tryz.sizeOf251
 v117:=Tryz.zeroValue251
 t119:=Tryz.underlying368
 a119:=Tryz.isAgg368
 z119:=Tryz.sizeOf368
 t124:=Tryz.underlying254
 a124:=Tryz.isAgg254
 z124:=Tryz.sizeOf254
 v124:=Tryz.zeroValue254
 t138:=Tryz.underlying370
 a138:=Tryz.isAgg370
 z138:=Tryz.sizeOf370
 v138:=Tryz.zeroValue370
 t139:=Tryz.underlying371
 a139:=Tryz.isAgg371
 z139:=Tryz.sizeOf371
 v139:=Tryz.zeroValue371
 g3:=by kernel_rfl
 g4:=by kernel_rfl }
def Tryz.Ml:Go.Shelf.Ren:=⟨fun|103=>219|210=>271|206=>259|n=>n,fun|9=>9|4=>4|24=>307|3=>3|n=>n,fun|n=>n⟩
theorem Tryz.abX:Go.Proofs.Lays.n103 Tryz.prog Tryz.Ml:={
 mixed:=by kernel_rfl
 f103:=Tryz.func219.trans (congrArg some (by kernel_rfl))
 f206:=Tryz.func259.trans (congrArg some (by kernel_rfl))
 f210:=Tryz.func271.trans (congrArg some (by kernel_rfl))
 t3:=Tryz.underlying3
 a3:=Tryz.isAgg3
 z3:=Tryz.sizeOf3
 v3:=Tryz.zeroValue3
 t4:=Tryz.underlying4
 a4:=Tryz.isAgg4
 z4:=Tryz.sizeOf4
 v4:=Tryz.zeroValue4
 t9:=Tryz.underlying9
 a9:=Tryz.isAgg9
 z9:=Tryz.sizeOf9
 v9:=Tryz.zeroValue9
 t24:=Tryz.underlying307
 a24:=Tryz.isAgg307
 z24:=Tryz.sizeOf307
 v24:=Tryz.zeroValue307 }
open Go.RowKit in
theorem Tryz.strings_CutPrefix (s p:ByteArray)(w:World) :
  Calls Tryz.prog 219 #[.string s,.string p] w λe w'=>e=.returned (.tuple #[.string ⟨(Lib.trimPrefix s.data.toList p.data.toList).toArray⟩,.bool (Lib.hasPrefix s.data.toList p.data.toList)])/\w'=w:=Any.strings_CutPrefix Tryz.abX s p w
open Go.RowKit in
theorem Tryz.Builder_String_any_k (B b:Nat)(l:List UInt8)(w:World)(h:Lib.IsBuilderF 223 5 B b (Lib.byteCells l) w)(hBw:B<=w.heap.size) :
  Calls Tryz.prog 123 #[.pointer (some ⟨b,0,none⟩)] w λe w'=>e=.returned (.string ⟨l.toArray⟩)/\(Lib.IsBuilderF 223 5 B b (Lib.byteCells l) w'/\Below B w w'/\Lib.OthersKept 5 (some b) w w'):=Any.Builder_String_any_k Tryz.abT Tryz.zN B b l w h hBw
def Tryz.Mq:Go.Shelf.Ren:=⟨fun|171=>216|243=>270|246=>298|283=>306|284=>307|285=>308|286=>309|129=>252|317=>312|318=>313|319=>314|320=>315|337=>317|338=>318|n=>n,fun|3=>3|9=>9|2=>2|4=>4|171=>375|0=>0|53=>196|37=>195|5=>5|173=>377|212=>381|51=>246|20=>20|213=>382|46=>245|232=>383|233=>384|n=>n,fun|17=>3|18=>4|19=>5|n=>n⟩
theorem Tryz.abY:Go.Proofs.Lays.n171 Tryz.prog Tryz.Mq:={
 mixed:=by kernel_rfl
 f129:=Tryz.func252.trans (congrArg some (by kernel_rfl))
 f171:=Tryz.func216.trans (congrArg some (by kernel_rfl))
 f243:=Tryz.func270.trans (congrArg some (by kernel_rfl))
 f246:=Tryz.func298.trans (congrArg some (by kernel_rfl))
 f283:=Tryz.func306.trans (congrArg some (by kernel_rfl))
 f284:=Tryz.func307.trans (congrArg some (by kernel_rfl))
 f285:=Tryz.func308.trans (congrArg some (by kernel_rfl))
 f286:=Tryz.func309.trans (congrArg some (by kernel_rfl))
 f317:=Tryz.func312.trans (congrArg some (by kernel_rfl))
 f318:=Tryz.func313.trans (congrArg some (by kernel_rfl))
 f319:=Tryz.func314.trans (congrArg some (by kernel_rfl))
 f320:=Tryz.func315.trans (congrArg some (by kernel_rfl))
 f337:=Tryz.func317.trans (congrArg some (by kernel_rfl))
 f338:=Tryz.func318.trans (congrArg some (by kernel_rfl))
 t0:=Tryz.underlying0
 a0:=Tryz.isAgg0
 z0:=Tryz.sizeOf0
 v0:=Tryz.zeroValue0
 t2:=Tryz.underlying2
 a2:=Tryz.isAgg2
 z2:=Tryz.sizeOf2
 v2:=Tryz.zeroValue2
 t3:=Tryz.underlying3
 a3:=Tryz.isAgg3
 z3:=Tryz.sizeOf3
 v3:=Tryz.zeroValue3
 t4:=Tryz.underlying4
 a4:=Tryz.isAgg4
 z4:=Tryz.sizeOf4
 v4:=Tryz.zeroValue4
 t5:=Tryz.underlying5
 a5:=Tryz.isAgg5
 z5:=Tryz.sizeOf5
 v5:=Tryz.zeroValue5
 t9:=Tryz.underlying9
 a9:=Tryz.isAgg9
 z9:=Tryz.sizeOf9
 v9:=Tryz.zeroValue9
 t20:=Tryz.underlying20
 a20:=Tryz.isAgg20
 z20:=Tryz.sizeOf20
 v20:=Tryz.zeroValue20
 t37:=Tryz.underlying195
 a37:=Tryz.isAgg195
 z37:=Tryz.sizeOf195
 v37:=Tryz.zeroValue195
 t46:=Tryz.underlying245
 a46:=Tryz.isAgg245
 z46:=Tryz.sizeOf245
 v46:=Tryz.zeroValue245
 t51:=Tryz.underlying246
 a51:=Tryz.isAgg246
 z51:=Tryz.sizeOf246
 v51:=Tryz.zeroValue246
 t53:=Tryz.underlying196
 a53:=Tryz.isAgg196
 z53:=Tryz.sizeOf196
 v53:=Tryz.zeroValue196
 t171:=Tryz.underlying375
 a171:=Tryz.isAgg375
 z171:=Tryz.sizeOf375
 v171:=Tryz.zeroValue375
 t173:=Tryz.underlying377
 a173:=Tryz.isAgg377
 z173:=Tryz.sizeOf377
 v173:=Tryz.zeroValue377
 t212:=Tryz.underlying381
 a212:=Tryz.isAgg381
 z212:=Tryz.sizeOf381
 v212:=Tryz.zeroValue381
 t213:=Tryz.underlying382
 a213:=Tryz.isAgg382
 z213:=Tryz.sizeOf382
 t232:=Tryz.underlying383
 a232:=Tryz.isAgg383
 z232:=Tryz.sizeOf383
 v232:=Tryz.zeroValue383
 t233:=Tryz.underlying384
 a233:=Tryz.isAgg384
 z233:=Tryz.sizeOf384
 v233:=Tryz.zeroValue384
 g17:=by kernel_rfl
 g18:=by kernel_rfl
 g19:=by kernel_rfl }
open Go.RowKit Go.Sort Go.Lib in
theorem Tryz.strconv_Itoa_small (i:Nat)(hi:i<100)(w:World) :
  Calls Tryz.prog 216 #[.int .i64 i] w λe w'=>e=.returned (.string ⟨(Lib.decDigits i).toArray⟩)/\w'=w:=Any.strconv_Itoa_small Tryz.abY i hi w
def Tryz.Mr:Go.Shelf.Ren:=⟨fun|143=>203|219=>260|217=>291|225=>290|224=>289|267=>292|266=>301|314=>302|n=>n,fun|9=>9|3=>3|4=>4|5=>5|46=>245|146=>372|51=>246|n=>n,fun|1=>0|n=>n⟩
theorem Tryz.abZ:Go.Proofs.Lays.n143 Tryz.prog Tryz.Mr:={
 mixed:=by kernel_rfl
 f143:=Tryz.func203.trans (congrArg some (by kernel_rfl))
 f217:=Tryz.func291.trans (congrArg some (by kernel_rfl))
 f219:=Tryz.func260.trans (congrArg some (by kernel_rfl))
 f224:=Tryz.func289.trans (congrArg some (by kernel_rfl))
 f225:=Tryz.func290.trans (congrArg some (by kernel_rfl))
 f266:=Tryz.func301.trans (congrArg some (by kernel_rfl))
 f267:=Tryz.func292.trans (congrArg some (by kernel_rfl))
 f314:=Tryz.func302.trans (congrArg some (by kernel_rfl))
 t3:=Tryz.underlying3
 a3:=Tryz.isAgg3
 z3:=Tryz.sizeOf3
 v3:=Tryz.zeroValue3
 t4:=Tryz.underlying4
 a4:=Tryz.isAgg4
 z4:=Tryz.sizeOf4
 v4:=Tryz.zeroValue4
 t5:=Tryz.underlying5
 a5:=Tryz.isAgg5
 z5:=Tryz.sizeOf5
 v5:=Tryz.zeroValue5
 t9:=Tryz.underlying9
 a9:=Tryz.isAgg9
 z9:=Tryz.sizeOf9
 v9:=Tryz.zeroValue9
 t46:=Tryz.underlying245
 a46:=Tryz.isAgg245
 z46:=Tryz.sizeOf245
 v46:=Tryz.zeroValue245
 t51:=Tryz.underlying246
 a51:=Tryz.isAgg246
 z51:=Tryz.sizeOf246
 v51:=Tryz.zeroValue246
 t146:=Tryz.underlying372
 a146:=Tryz.isAgg372
 z146:=Tryz.sizeOf372
 v146:=Tryz.zeroValue372
 g1:=by kernel_rfl }
open Go.RowKit Go.Lib in
theorem Tryz.strings_Index_one (s:ByteArray)(c:UInt8)(w:World) :
  Calls Tryz.prog 203 #[.string s,.string ⟨#[c]⟩] w λe w'=>e=.returned (.int .i64 (Lib.indexByte s.data.toList c))/\w'=w:=Any.strings_Index_one Tryz.abZ s c w
def Tryz.Ms:Go.Shelf.Ren:=⟨fun|190=>140|125=>197|258=>196|128=>251|129=>252|302=>243|303=>244|304=>245|305=>246|306=>247|307=>248|308=>185|309=>249|310=>250|333=>281|329=>282|330=>283|334=>284|335=>285|336=>187|344=>300|n=>n,fun|31=>41|9=>9|3=>3|46=>245|0=>0|51=>246|53=>196|4=>4|183=>328|182=>327|131=>172|5=>5|218=>352|222=>356|228=>365|229=>366|n=>n,fun|n=>n⟩
theorem Tryz.Tc:Go.Proofs.Lays.n190 Tryz.prog Tryz.Ms:={
 mixed:=by kernel_rfl
 f125:=Tryz.func197.trans (congrArg some (by kernel_rfl))
 f128:=Tryz.func251.trans (congrArg some (by kernel_rfl))
 f129:=Tryz.func252.trans (congrArg some (by kernel_rfl))
 f190:=Tryz.func140.trans (congrArg some (by kernel_rfl))
 f258:=Tryz.func196.trans (congrArg some (by kernel_rfl))
 f302:=Tryz.func243.trans (congrArg some (by kernel_rfl))
 f303:=Tryz.func244.trans (congrArg some (by kernel_rfl))
 f304:=Tryz.func245.trans (congrArg some (by kernel_rfl))
 f305:=Tryz.func246.trans (congrArg some (by kernel_rfl))
 f306:=Tryz.func247.trans (congrArg some (by kernel_rfl))
 f307:=Tryz.func248.trans (congrArg some (by kernel_rfl))
 f308:=Tryz.func185.trans (congrArg some (by kernel_rfl))
 f309:=Tryz.func249.trans (congrArg some (by kernel_rfl))
 f310:=Tryz.func250.trans (congrArg some (by kernel_rfl))
 f329:=Tryz.func282.trans (congrArg some (by kernel_rfl))
 f330:=Tryz.func283.trans (congrArg some (by kernel_rfl))
 f333:=Tryz.func281.trans (congrArg some (by kernel_rfl))
 f334:=Tryz.func284.trans (congrArg some (by kernel_rfl))
 f335:=Tryz.func285.trans (congrArg some (by kernel_rfl))
 f336:=Tryz.func187.trans (congrArg some (by kernel_rfl))
 f344:=Tryz.func300.trans (congrArg some (by kernel_rfl))
 t0:=Tryz.underlying0
 a0:=Tryz.isAgg0
 z0:=Tryz.sizeOf0
 v0:=Tryz.zeroValue0
 t3:=Tryz.underlying3
 a3:=Tryz.isAgg3
 z3:=Tryz.sizeOf3
 v3:=Tryz.zeroValue3
 t4:=Tryz.underlying4
 a4:=Tryz.isAgg4
 z4:=Tryz.sizeOf4
 v4:=Tryz.zeroValue4
 t5:=Tryz.underlying5
 a5:=Tryz.isAgg5
 z5:=Tryz.sizeOf5
 v5:=Tryz.zeroValue5
 t9:=Tryz.underlying9
 a9:=Tryz.isAgg9
 z9:=Tryz.sizeOf9
 v9:=Tryz.zeroValue9
 t31:=Tryz.underlying41
 a31:=Tryz.isAgg41
 z31:=Tryz.sizeOf41
 v31:=Tryz.zeroValue41
 t46:=Tryz.underlying245
 a46:=Tryz.isAgg245
 z46:=Tryz.sizeOf245
 v46:=Tryz.zeroValue245
 t51:=Tryz.underlying246
 a51:=Tryz.isAgg246
 z51:=Tryz.sizeOf246
 v51:=Tryz.zeroValue246
 t53:=Tryz.underlying196
 a53:=Tryz.isAgg196
 z53:=Tryz.sizeOf196
 v53:=Tryz.zeroValue196
 t131:=Tryz.underlying172
 a131:=Tryz.isAgg172
 z131:=Tryz.sizeOf172
 v131:=Tryz.zeroValue172
 t182:=Tryz.underlying327
 a182:=Tryz.isAgg327
 z182:=Tryz.sizeOf327
 v182:=Tryz.zeroValue327
 t183:=Tryz.underlying328
 a183:=Tryz.isAgg328
 z183:=Tryz.sizeOf328
 v183:=Tryz.zeroValue328
 t218:=Tryz.underlying352
 a218:=Tryz.isAgg352
 z218:=Tryz.sizeOf352
 v218:=Tryz.zeroValue352
 t222:=Tryz.underlying356
 a222:=Tryz.isAgg356
 z222:=Tryz.sizeOf356
 v222:=Tryz.zeroValue356
 t228:=Tryz.underlying365
 a228:=Tryz.isAgg365
 z228:=Tryz.sizeOf365
 v228:=Tryz.zeroValue365
 t229:=Tryz.underlying366
 a229:=Tryz.isAgg366
 z229:=Tryz.sizeOf366
 v229:=Tryz.zeroValue366 }
open Go.Sort Go.RowKit in
theorem Tryz.slices_Sort_string (blk off cap:Nat)(ss:List (List UInt8))(w:World)(hH:Holds encStr w blk off ss.toArray)(hblk:blk<w.heap.size)(hsz:ss.length<4611686018427387904) :
  Calls Tryz.prog 140 #[.slice (some ⟨blk,off,none⟩) ss.length cap] w λe w' =>
   e=.returned (.tuple #[])/\∃ n os,w'=grow (putRow encStr (Sort.ahead w n) blk off (ss.mergeSort λx y=>decide (x<=y)).toArray) os:=Any.slices_Sort_string Tryz.Tc blk off cap ss w hH hblk hsz
def Tryz.P9:Go.Shelf.Ren:=⟨fun|99=>202|206=>259|n=>n,fun|9=>9|4=>4|3=>3|n=>n,fun|n=>n⟩
theorem Tryz.adK:Go.Proofs.Lays.n99 Tryz.prog Tryz.P9:={
 mixed:=by kernel_rfl
 f99:=Tryz.func202.trans (congrArg some (by kernel_rfl))
 f206:=Tryz.func259.trans (congrArg some (by kernel_rfl))
 t3:=Tryz.underlying3
 a3:=Tryz.isAgg3
 z3:=Tryz.sizeOf3
 v3:=Tryz.zeroValue3
 t4:=Tryz.underlying4
 a4:=Tryz.isAgg4
 z4:=Tryz.sizeOf4
 v4:=Tryz.zeroValue4
 t9:=Tryz.underlying9
 a9:=Tryz.isAgg9
 z9:=Tryz.sizeOf9
 v9:=Tryz.zeroValue9 }
open Go.RowKit Go.Lib in
theorem Tryz.strings_HasPrefix (s p:ByteArray)(w:World) :
  Calls Tryz.prog 202 #[.string s,.string p] w λe w'=>e=.returned (.bool (Lib.hasPrefix s.data.toList p.data.toList))/\w'=w:=Any.strings_HasPrefix Tryz.adK s p w
def Tryz.Mt:Go.Shelf.Ren:=⟨fun|110=>209|109=>264|n=>n,fun|31=>41|9=>9|4=>4|3=>3|0=>0|n=>n,fun|n=>n⟩
theorem Tryz.ab0:Go.Proofs.Lays.n110 Tryz.prog Tryz.Mt:={
 mixed:=by kernel_rfl
 f109:=Tryz.func264.trans (congrArg some (by kernel_rfl))
 f110:=Tryz.func209.trans (congrArg some (by kernel_rfl))
 t0:=Tryz.underlying0
 a0:=Tryz.isAgg0
 z0:=Tryz.sizeOf0
 v0:=Tryz.zeroValue0
 t3:=Tryz.underlying3
 a3:=Tryz.isAgg3
 z3:=Tryz.sizeOf3
 v3:=Tryz.zeroValue3
 t4:=Tryz.underlying4
 a4:=Tryz.isAgg4
 z4:=Tryz.sizeOf4
 v4:=Tryz.zeroValue4
 t9:=Tryz.underlying9
 a9:=Tryz.isAgg9
 z9:=Tryz.sizeOf9
 v9:=Tryz.zeroValue9
 t31:=Tryz.underlying41
 a31:=Tryz.isAgg41
 z31:=Tryz.sizeOf41
 v31:=Tryz.zeroValue41 }
open Go.Lib in
theorem Tryz.slices_Contains_string (b off n c:Nat)(zs:List ByteArray)(x:ByteArray)(w:World)(hz:n<=zs.length)(hbig:n<=9223372036854775807)(hc:∀ j,j<zs.length->w.cell? ⟨b,off+j,none⟩=some (.string (zs.getD j ByteArray.empty))) :
  Calls Tryz.prog 209 #[.slice (some ⟨b,off,none⟩) n c,.string x] w λe w'=>e=.returned (.bool (Lib.containsS (zs.take n) x))/\w'=w:=Any.slices_Contains_string Tryz.ab0 b off n c zs x w hz hbig hc
def Tryz.Ic:Go.Shelf.Ren:=⟨fun|15=>154|n=>n,fun|22=>46|3=>3|4=>4|n=>n,fun|n=>n⟩
theorem Tryz.Bb:Go.Proofs.Lays2.n15 Tryz.prog Tryz.Ic:={
 mixed:=by kernel_rfl
 f15:=Tryz.func154.trans (congrArg some (by kernel_rfl))
 t3:=Tryz.underlying3
 a3:=Tryz.isAgg3
 z3:=Tryz.sizeOf3
 v3:=Tryz.zeroValue3
 t4:=Tryz.underlying4
 a4:=Tryz.isAgg4
 z4:=Tryz.sizeOf4
 v4:=Tryz.zeroValue4
 t22:=Tryz.underlying46
 a22:=Tryz.isAgg46
 z22:=Tryz.sizeOf46
 v22:=Tryz.zeroValue46
 i3:=by kernel_rfl }
open Go.RowKit Go.Lib in
theorem Tryz.slices_Clone_int (b off n c:Nat)(zs:List Int)(w:World)(hz:n<=zs.length)(hbig:n * 8<=140737488355328)(hc:∀ j,j<zs.length->w.cell? ⟨b,off+j,none⟩=some (.int .i64 (zs.getD j 0))) :
  Calls Tryz.prog 154 #[.slice (some ⟨b,off,none⟩) n c] w λe w'=>∃ v',e=.returned v'/\w'.ownsRow w.heap.size 3 1 v' n ((zs.take n).map (Value.int .i64))/\v'≠.slice none 0 0/\Below w.heap.size w w':=Any.slices_Clone_int Tryz.Bb b off n c zs w hz hbig hc
open Go.RowKit Go.Lib in
theorem Tryz.slices_Clone_int_nil (n c:Nat)(w:World) :
  Calls Tryz.prog 154 #[.slice none n c] w λe w'=>e=.returned (.slice none 0 0)/\w'=w:=Any.slices_Clone_int_nil Tryz.Bb n c w
def Tryz.Ie:Go.Shelf.Ren:=⟨fun|16=>96|n=>n,fun|24=>41|9=>9|4=>4|n=>n,fun|n=>n⟩
theorem Tryz.Bc:Go.Proofs.Lays2.n16 Tryz.prog Tryz.Ie:={
 mixed:=by kernel_rfl
 f16:=Tryz.func96.trans (congrArg some (by kernel_rfl))
 t4:=Tryz.underlying4
 a4:=Tryz.isAgg4
 z4:=Tryz.sizeOf4
 v4:=Tryz.zeroValue4
 t9:=Tryz.underlying9
 a9:=Tryz.isAgg9
 z9:=Tryz.sizeOf9
 v9:=Tryz.zeroValue9
 t24:=Tryz.underlying41
 a24:=Tryz.isAgg41
 z24:=Tryz.sizeOf41
 v24:=Tryz.zeroValue41
 i9:=by kernel_rfl }
open Go.RowKit Go.Lib in
theorem Tryz.slices_Clone_string (b off n c:Nat)(zs:List ByteArray)(w:World)(hz:n<=zs.length)(hbig:n * 16<=140737488355328)(hc:∀ j,j<zs.length->w.cell? ⟨b,off+j,none⟩=some (.string (zs.getD j ByteArray.empty))) :
  Calls Tryz.prog 96 #[.slice (some ⟨b,off,none⟩) n c] w λe w'=>∃ v',e=.returned v'/\w'.ownsRow w.heap.size 9 1 v' n ((zs.take n).map (Value.string))/\v'≠.slice none 0 0/\Below w.heap.size w w':=Any.slices_Clone_string Tryz.Bc b off n c zs w hz hbig hc
open Go.RowKit Go.Lib in
theorem Tryz.slices_Clone_string_nil (n c:Nat)(w:World) :
  Calls Tryz.prog 96 #[.slice none n c] w λe w'=>e=.returned (.slice none 0 0)/\w'=w:=Any.slices_Clone_string_nil Tryz.Bc n c w
open Go.RowKit Go.Lib in
theorem Tryz.slices_Clone_int_zero (a:Addr)(c:Nat)(w:World) :
  Calls Tryz.prog 154 #[.slice (some a) 0 c] w λe w'=>∃ v',e=.returned v'/\w'.ownsRow w.heap.size 3 1 v' 0 []/\v'≠.slice none 0 0/\Below w.heap.size w w':=Any.slices_Clone_int_zero Tryz.Bb a c w
open Go.RowKit Go.Lib in
theorem Tryz.slices_Clone_string_zero (a:Addr)(c:Nat)(w:World) :
  Calls Tryz.prog 96 #[.slice (some a) 0 c] w λe w'=>∃ v',e=.returned v'/\w'.ownsRow w.heap.size 9 1 v' 0 []/\v'≠.slice none 0 0/\Below w.heap.size w w':=Any.slices_Clone_string_zero Tryz.Bc a c w
def Tryz.Mv:Go.Shelf.Ren:=⟨fun|194=>142|n=>n,fun|31=>41|9=>9|3=>3|4=>4|0=>0|n=>n,fun|n=>n⟩
theorem Tryz.Td:Go.Proofs.Lays.n194 Tryz.prog Tryz.Mv:={
 mixed:=by kernel_rfl
 f194:=Tryz.func142.trans (congrArg some (by kernel_rfl))
 t0:=Tryz.underlying0
 a0:=Tryz.isAgg0
 z0:=Tryz.sizeOf0
 v0:=Tryz.zeroValue0
 t3:=Tryz.underlying3
 a3:=Tryz.isAgg3
 z3:=Tryz.sizeOf3
 v3:=Tryz.zeroValue3
 t4:=Tryz.underlying4
 a4:=Tryz.isAgg4
 z4:=Tryz.sizeOf4
 v4:=Tryz.zeroValue4
 t9:=Tryz.underlying9
 a9:=Tryz.isAgg9
 z9:=Tryz.sizeOf9
 v9:=Tryz.zeroValue9
 t31:=Tryz.underlying41
 a31:=Tryz.isAgg41
 z31:=Tryz.sizeOf41
 v31:=Tryz.zeroValue41 }
open Go.RowKit Go.Lib Go.Sort in
theorem Tryz.slices_Compact_string (blk off cap:Nat)(zs:List (List UInt8))(w:World)(hH:Holds encStr w blk off zs.toArray)(hsz:zs.length<=9223372036854775807)(hcap:zs.length<=cap) :
  Calls Tryz.prog 142 #[.slice (some ⟨blk,off,none⟩) zs.length cap] w λe w'=>e=.returned (.slice (some ⟨blk,off,none⟩) (Lib.compact zs).length cap)/\∃ q,w'=putRow encStr (Sort.ahead w q) blk off (Lib.compact zs++List.replicate (zs.length - (Lib.compact zs).length) []).toArray:=Any.slices_Compact_string Tryz.Td blk off cap zs w hH hsz hcap
open Go.RowKit Go.Lib Go.Sort in
theorem Tryz.slices_Compact_string_empty (a:Option Addr)(cap:Nat)(w:World) :
  Calls Tryz.prog 142 #[.slice a 0 cap] w λe w'=>e=.returned (.slice a 0 cap)/\w'=w:=Any.slices_Compact_string_empty Tryz.Td a cap w
open Go.RowKit Go.Sort in
theorem Tryz.slices_Sort_string_none (p:Option Addr)(cap:Nat)(w:World) :
  Calls Tryz.prog 140 #[.slice p 0 cap] w λe w'=>e=.returned (.tuple #[])/\w'=w:=Any.slices_Sort_string_none Tryz.Tc p cap w
def Tryz.Kw:Go.Shelf.Ren:=⟨fun|26=>124|33=>185|34=>186|38=>187|n=>n,fun|24=>41|9=>9|3=>3|4=>4|40=>245|0=>0|n=>n,fun|n=>n⟩
theorem Tryz.Eu:Go.Proofs.Lays2.n26 Tryz.prog Tryz.Kw:={
 mixed:=by kernel_rfl
 f26:=Tryz.func124.trans (congrArg some (by kernel_rfl))
 f33:=Tryz.func185.trans (congrArg some (by kernel_rfl))
 f34:=Tryz.func186.trans (congrArg some (by kernel_rfl))
 f38:=Tryz.func187.trans (congrArg some (by kernel_rfl))
 t0:=Tryz.underlying0
 a0:=Tryz.isAgg0
 z0:=Tryz.sizeOf0
 v0:=Tryz.zeroValue0
 t3:=Tryz.underlying3
 a3:=Tryz.isAgg3
 z3:=Tryz.sizeOf3
 v3:=Tryz.zeroValue3
 t4:=Tryz.underlying4
 a4:=Tryz.isAgg4
 z4:=Tryz.sizeOf4
 v4:=Tryz.zeroValue4
 t9:=Tryz.underlying9
 a9:=Tryz.isAgg9
 z9:=Tryz.sizeOf9
 v9:=Tryz.zeroValue9
 t24:=Tryz.underlying41
 a24:=Tryz.isAgg41
 z24:=Tryz.sizeOf41
 v24:=Tryz.zeroValue41
 t40:=Tryz.underlying245
 a40:=Tryz.isAgg245
 z40:=Tryz.sizeOf245
 v40:=Tryz.zeroValue245 }
end Go.Proofs

namespace Go.Proofs.YtmleecdnkmoohaaGreatDoor
open Go.RowKit
variable{s:ByteArray}
theorem Ig (c:UInt8):kF c=((decide (97<=(c.toNat:Int)) && decide ((c.toNat:Int)<=122)) || (decide (65<=(c.toNat:Int)) && decide ((c.toNat:Int)<=90))):=by
  have h1:(97<=c)↔(97<=(c.toNat:Int)):=by rw[UInt8.le_iff_toNat_le];show 97<=c.toNat↔_;omega
  have h2:(c<=122)↔((c.toNat:Int)<=122):=by rw[UInt8.le_iff_toNat_le];show c.toNat<=122↔_;omega
  have h3:(65<=c)↔(65<=(c.toNat:Int)):=by rw[UInt8.le_iff_toNat_le];show 65<=c.toNat↔_;omega
  have h4:(c<=90)↔((c.toNat:Int)<=90):=by rw[UInt8.le_iff_toNat_le];show c.toNat<=90↔_;omega
  simp only[kF,h1,h2,h3,h4]
theorem Ky (c:UInt8):bI c=(decide (48<=(c.toNat:Int)) && decide ((c.toNat:Int)<=57)):=by
  have h1:(48<=c)↔(48<=(c.toNat:Int)):=by rw[UInt8.le_iff_toNat_le];show 48<=c.toNat↔_;omega
  have h2:(c<=57)↔((c.toNat:Int)<=57):=by rw[UInt8.le_iff_toNat_le];show c.toNat<=57↔_;omega
  simp only[bI,h1,h2]
theorem afx (c:UInt8)(k:UInt8):(c == k)=((c.toNat:Int) == (k.toNat:Int)):=by
  rw[Bool.eq_iff_iff,beq_iff_eq,beq_iff_eq,<- UInt8.toNat_inj];omega
theorem uG (c:UInt8)(w:World):Calls Tryz.prog 204 #[.int .u8 c.toNat] w λe w'=>e=.returned (.bool (kF c))/\w'=w:=by
  rw[Ig];go_enter Tryz.func204,Tryz.ntmps204;go_wp2
  all_goals (go_ret;refine⟨bB ?_,rfl⟩;simp;try omega)
theorem tq (c:UInt8)(w:World):Calls Tryz.prog 206 #[.int .u8 c.toNat] w λe w'=>e=.returned (.bool (bI c))/\w'=w:=by
  rw[Ky];go_enter Tryz.func206,Tryz.ntmps206;go_wp2
  all_goals (go_ret;refine⟨bB ?_,rfl⟩;simp;try omega)
theorem Ev (c:UInt8)(w:World):Calls Tryz.prog 262 #[.int .u8 c.toNat] w λe w'=>e=.returned (.bool (bZ c))/\w'=w:=by
  have hq:bZ c=(kF c || bI c || ((c.toNat:Int) == 95)):=by rw[bZ,afx];rfl
  rw[hq];clear hq;generalize hL:kF c=L;generalize hD:bI c=D
  cases L<;>cases D<;>
  (go_enter Tryz.func262,Tryz.ntmps262
   go_wp2_with (first|(go_at_call 204;refine(uG c _).mono ?_;rintro e w' ⟨rfl,rfl⟩;rw[hL])|(go_at_call 206;refine(tq c _).mono ?_;rintro e w' ⟨rfl,rfl⟩;rw[hD]))
   all_goals (go_ret;refine⟨bB ?_,rfl⟩;simp))
def ny (p:UInt8->Bool)(s:ByteArray):Nat:=(s.data.toList.takeWhile p).length
theorem Bd (p:UInt8->Bool):∀ (T:aH) (k:Nat),k<=(T.takeWhile p).length->(k<(T.takeWhile p).length↔∃ c,T[k]?=some c/\p c=true)
  | [],k,hk=>by simp
  | c :: r,0,hk=>by
    by_cases h:p c=true
    · simp[List.takeWhile_cons_of_pos h,h]
    · simp[List.takeWhile_cons_of_neg h,h]
  | c :: r,k+1,hk=>by
    by_cases h:p c=true
    · rw[List.takeWhile_cons_of_pos h,fu] at hk |-
      have:=Bd p r k (by omega);simp only[List.getElem?_cons_succ];rw[<- this];omega
    · rw[List.takeWhile_cons_of_neg h] at hk
      simp at hk
theorem Eb {i:Nat}(hi:i<s.size):s.data.toList[i]?=some (s[i]'hi):=by
  rw[AY (by rw[Lib.size_eq] at hi;exact hi)]
  rfl
theorem Qa (s:ByteArray)(w:World)(hs:s.size<=1099511627776) :
    Calls Tryz.prog 261 #[.string s,.func (.func 262) #[] #[]] w λe w'=>e=.returned (.string (s.extract 0 (ny bZ s)))/\w'=w:=by
  have hr:ny bZ s<=s.size:=by rw[Lib.size_eq];exact lH bZ _
  go_enter Tryz.func261,Tryz.ntmps261;go_wp2
  go_loop [5] (λn=>∃ k:Nat,n=.int .i64 k/\k<=ny bZ s) (λn=>s.size - (intOf n).toNat)
  case atStart=>exact⟨0,rfl,kJ _⟩
  case round =>
    obtain⟨k,rfl,hk⟩:=hrel;have hm:=Bd bZ s.data.toList k hk
    by_cases hlt:k<s.size
    · have hI:(k:Int) < ↑s.size:=by omega
      have hD:decide ((k:Int) < ↑s.size)=true:=jV hI;rw[Eb hlt] at hm
      by_cases hp:bZ (s[k]'hlt)=true
      · have hk1:k<ny bZ s:=hm.2 ⟨_,rfl,hp⟩
        have HM:=ay hm;clear hm;go_wp2_with (go_at_call 262;refine(Ev _ _).mono ?_;rintro e w1 ⟨rfl,rfl⟩)
        go_round
        case rel=>exact⟨k+1,by go_num,by omega⟩
        case measure=>simp[intOf];omega
      · have hk1:k=ny bZ s:=by
          rcases Nat.lt_or_ge k (ny bZ s) with h|h
          · obtain⟨c,h1,h2⟩:=hm.1 h
            injection h1 with h1
            subst h1;exact absurd h2 hp
          · omega
        have hp':bZ (s[k]'hlt)=false:=by simpa using hp
        have HK:=ay hk1;clear hm hp hk1;go_wp2_with (go_at_call 262;refine(Ev _ _).mono ?_;rintro e w1 ⟨rfl,rfl⟩);go_ret;exact⟨by rw[<- HK.out];rfl,rfl⟩
    · have hk1:k=ny bZ s:=by omega
      have hD:decide ((k:Int) < ↑s.size)=false:=dX (by omega);have HK:=ay hk1;clear hm hk1;go_wp2;go_ret;exact⟨by rw[<- HK.out];rfl,rfl⟩
theorem Uu (s:ByteArray)(w:World)(hs:s.size<=1099511627776) :
    Calls Tryz.prog 261 #[.string s,.func (.func 206) #[] #[]] w λe w'=>e=.returned (.string (s.extract 0 (ny bI s)))/\w'=w:=by
  have hr:ny bI s<=s.size:=by rw[Lib.size_eq];exact lH bI _
  go_enter Tryz.func261,Tryz.ntmps261;go_wp2
  go_loop [5] (λn=>∃ k:Nat,n=.int .i64 k/\k<=ny bI s) (λn=>s.size - (intOf n).toNat)
  case atStart=>exact⟨0,rfl,kJ _⟩
  case round =>
    obtain⟨k,rfl,hk⟩:=hrel;have hm:=Bd bI s.data.toList k hk
    by_cases hlt:k<s.size
    · have hI:(k:Int) < ↑s.size:=by omega
      have hD:decide ((k:Int) < ↑s.size)=true:=jV hI;rw[Eb hlt] at hm
      by_cases hp:bI (s[k]'hlt)=true
      · have hk1:k<ny bI s:=hm.2 ⟨_,rfl,hp⟩
        have HM:=ay hm;clear hm;go_wp2_with (go_at_call 206;refine(tq _ _).mono ?_;rintro e w1 ⟨rfl,rfl⟩)
        go_round
        case rel=>exact⟨k+1,by go_num,by omega⟩
        case measure=>simp[intOf];omega
      · have hk1:k=ny bI s:=by
          rcases Nat.lt_or_ge k (ny bI s) with h|h
          · obtain⟨c,h1,h2⟩:=hm.1 h
            injection h1 with h1
            subst h1;exact absurd h2 hp
          · omega
        have hp':bI (s[k]'hlt)=false:=by simpa using hp
        have HK:=ay hk1;clear hm hp hk1;go_wp2_with (go_at_call 206;refine(tq _ _).mono ?_;rintro e w1 ⟨rfl,rfl⟩);go_ret;exact⟨by rw[<- HK.out];rfl,rfl⟩
    · have hk1:k=ny bI s:=by omega
      have hD:decide ((k:Int) < ↑s.size)=false:=dX (by omega);have HK:=ay hk1;clear hm hk1;go_wp2;go_ret;exact⟨by rw[<- HK.out];rfl,rfl⟩
theorem Qb:∀ c:UInt8,iT c=([32,9,13,10]:aH).contains c:=by
 intro c;simp only[iT,List.contains_cons,List.contains_nil,Bool.or_false,Bool.or_assoc]
theorem Xx (s:ByteArray)(w:World):Calls Tryz.prog 201 #[.string s,.string ⟨#[32,9,13,10]⟩] w λe w'=>e=.returned (.string ⟨(s.data.toList.dropWhile iT).toArray⟩)/\Below w.heap.size w w':=by
 have h:=Any.strings_TrimLeft_laid Tryz.abU (by kernel_rfl) s ⟨#[32,9,13,10]⟩ w (by decide) (ascii_of_all (by decide))
 have e:Lib.trimLeftS s.data.toList (ByteArray.mk #[32,9,13,10]).data.toList=s.data.toList.dropWhile iT:=by
  unfold Lib.trimLeftS
  congr 1
  funext c
  exact(Qb c).symm
 rw[e] at h;exact h
theorem Mw (T:aH):T.dropWhile iT=T.drop (T.takeWhile iT).length:=by
 induction T with
 | nil=>rfl
 | cons c r ih =>
  by_cases h:iT c=true
  ·rw[List.dropWhile_cons_of_pos h,List.takeWhile_cons_of_pos h,ih];rfl
  ·rw[List.dropWhile_cons_of_neg h,List.takeWhile_cons_of_neg h];rfl
theorem Uv (T:aH):(T.dropWhile iT).takeWhile iT=[]:=by
 cases h:T.dropWhile iT with
 | nil=>rfl
 | cons c r =>
  have:=List.head?_dropWhile_not iT T;rw[h] at this;simp only[List.head?_cons] at this;rw[List.takeWhile_cons_of_neg (by simpa using this)]
theorem ab1 (T:aH)(i:Nat)(h:[45,45] <+: T)(hi:T[i]?=some 10):0<i:=by
 obtain⟨r,rfl⟩:=h
 cases i with
 | zero=>cases hi
 | succ i=>omega
theorem Mx (s:ByteArray)(w:World)(hs:s.size<=1099511627776) :
  Calls Tryz.prog 151 #[.string s] w λe w'=>e=.returned (.string (s.extract 0 (eB false s.data.toList)))/\Below w.heap.size w w':=by
 have hle:=pV false s.data.toList;rw[<- Lib.size_eq] at hle;go_enter Tryz.func151,Tryz.ntmps151;go_wp2
 go_loopw [3] (λr wr=>∃ (d:Nat) (x:ByteArray),r=.string x/\d<=s.size/\x.data.toList=s.data.toList.drop d/\eB false s.data.toList=d+eB false (s.data.toList.drop d)/\Below w.heap.size w wr) (λr _=>P6 r)
 case atStart=>exact⟨0,s,rfl,kJ _,rfl,by simp,bQ _ _⟩
 case round =>
  obtain⟨d,x,rfl,hd,hx,hl,hb⟩:=hrel;have hz:=hb.size
  have hxs:x.size=s.size - d:=by rw[Lib.size_eq,hx,yL,<- Lib.size_eq]
  rw[zM (s.data.toList.drop d),<- hx] at hl;have hkl:=lH iT x.data.toList;have hnone:=Uv x.data.toList;have hdrop:=Mw x.data.toList;rw[<- Lib.size_eq] at hkl;generalize hk:(x.data.toList.takeWhile iT).length=k at hl hkl hdrop;generalize hy:(ByteArray.mk (x.data.toList.dropWhile iT).toArray)=y
  have hyl:y.data.toList=x.data.toList.dropWhile iT:=by rw[<- hy]
  have hys:y.size=s.size - (d+k):=by rw[Lib.size_eq,hyl,hdrop,yL,<- Lib.size_eq,hxs];omega
  rw[<- hyl] at hl hnone hdrop;have HT:=ay (Xx x wr);have HY:=ay hy
  by_cases hp:[45,45] <+: y.data.toList
  ·have hpre:Lib.hasPrefix y.data.toList (ByteArray.mk #[45,45]).data.toList=true:=List.isPrefixOf_iff_prefix.2 hp
   rw[Kv _ hp] at hl
   rcases Ut y.data.toList with ⟨h1,h2⟩|⟨i,h1,h2,h3,h4⟩
   ·have HP:=ay (Tryz.strings_HasPrefix y ⟨#[45,45]⟩)
    have HI:=ay (Tryz.strings_Index_one y 10);have HJ:=ay h1;rw[Eo _ h2,<- Lib.size_eq,hys] at hl;have HL:=ay hl;have HB:=ay hpre;clear hl hy hyl hx hnone hdrop hp hpre hk hle h1 h2;go_wp2_with (first|(go_at_call 201;refine HT.out.mono ?_;rw[HY.out];rintro e w1 ⟨rfl,hb1⟩)|(go_at_call 202;refine(HP.out _).mono ?_;rw[HB.out];rintro e w2 ⟨rfl,rfl⟩)|(go_at_call 203;refine(HI.out _).mono ?_;rw[HJ.out];rintro e w2 ⟨rfl,rfl⟩));go_ret;exact⟨Ta (by rw[HL.out];exact sZ (by rw[show d+(k+(s.size - (d+k)))=s.size by omega,pU];rfl)),hb.trans (hb1.mono hz)⟩
   ·have HP:=ay (Tryz.strings_HasPrefix y ⟨#[45,45]⟩)
    have HI:=ay (Tryz.strings_Index_one y 10);have HJ:=ay h1;rw[Ep i _ h2 h4] at hl;rw[<- Lib.size_eq] at h3;have hi0:=ab1 _ _ hp h2;have HL:=ay hl;have HB:=ay hpre
    have hq:(y.extract i y.size).data.toList=s.data.toList.drop (d+k+i):=by
     rw[pU,hdrop,hx,List.drop_drop,List.drop_drop]
     congr 1
     omega
    have hq2:y.data.toList.drop i=s.data.toList.drop (d+k+i):=by rw[<- hq,pU]
    have hes:(y.extract i y.size).size=y.size - i:=by rw[ByteArray.size_extract];omega
    rw[hys] at hq hes;have HQ:=ay hq;have Qc:=ay hq2;have HES:=ay hes;clear hl hy hyl hx hnone hdrop hp hpre hk hle h1 h2 h4 hq hq2 hes;go_wp2_with (first|(go_at_call 201;refine HT.out.mono ?_;rw[HY.out];rintro e w1 ⟨rfl,hb1⟩)|(go_at_call 202;refine(HP.out _).mono ?_;rw[HB.out];rintro e w2 ⟨rfl,rfl⟩)|(go_at_call 203;refine(HI.out _).mono ?_;rw[HJ.out];rintro e w2 ⟨rfl,rfl⟩))
    go_roundw
    case rel=>exact⟨d+k+i,_,rfl,by omega,HQ.out,by rw[HL.out,Qc.out];omega,hb.trans (hb1.mono hz)⟩
    case measure=>simp only[P6];rw[HES.out];omega
  ·have hpre:Lib.hasPrefix y.data.toList (ByteArray.mk #[45,45]).data.toList=false:=by
    cases h:Lib.hasPrefix y.data.toList (ByteArray.mk #[45,45]).data.toList with
    | false=>rfl
    | true=>exact absurd (List.isPrefixOf_iff_prefix.1 h) hp
   rw[P7 _ hp hnone,nZ] at hl;have HP:=ay (Tryz.strings_HasPrefix y ⟨#[45,45]⟩);have HL:=ay hl;have HB:=ay hpre;clear hl hy hyl hx hnone hdrop hp hpre hk hle;go_wp2_with (first|(go_at_call 201;refine HT.out.mono ?_;rw[HY.out];rintro e w1 ⟨rfl,hb1⟩)|(go_at_call 202;refine(HP.out _).mono ?_;rw[HB.out];rintro e w2 ⟨rfl,rfl⟩));go_ret;exact⟨Ta (by rw[HL.out];congr 1;omega),hb.trans (hb1.mono hz)⟩
def Uw (s:ByteArray)(t:Nat × Nat × Nat):Value:=.tuple #[.int .i64 t.1,.string (s.extract 0 t.2.1),.int .i64 t.2.2]
theorem lZ {t:Nat × Nat × Nat}{a b:Int}{x:ByteArray}(h1:a=t.1)(h2:x=s.extract 0 t.2.1)(h3:b=t.2.2):Ending.returned (.tuple #[.int .i64 a,.string x,.int .i64 b])=.returned (Uw s t):=by
 rw[h1,h2,h3];rfl
theorem vV (s:ByteArray):(⟨#[]⟩:ByteArray)=s.extract 0 0:=sZ (by rw[iY];rfl)
theorem ext_size (s:ByteArray)(k:Nat)(h:k<=s.size):(s.extract 0 k).size=k:=by rw[ByteArray.size_extract];omega
theorem take_takeWhile (p:UInt8->Bool)(T:aH):T.take (T.takeWhile p).length=T.takeWhile p:=by
 obtain⟨r,hr⟩:=List.takeWhile_prefix (p:=p) (l:=T)
 conv=>lhs;arg 2;rw[<- hr]
 simp
theorem Xy (p:UInt8->Bool)(s:ByteArray):ny p s<=s.size:=by rw[Lib.size_eq];exact lH p _
theorem MB (p:UInt8->Bool)(s:ByteArray):(s.extract 0 (ny p s)).data.toList=s.data.toList.takeWhile p:=by
 rw[iY,List.drop_zero,ny,take_takeWhile]
theorem Qd (s:ByteArray)(w:World)(hs:s.size<=1099511627776) :
  Calls Tryz.prog 207 #[.string s] w λe w'=>e=.returned (Uw s (sO s.data.toList))/\w'=w:=by
 have hr:=Xy bI s;have hn:=MB bI s;have hz:=ext_size s _ hr;have HR:=ay (Uu s w hs)
 by_cases P8:60<ny bI s
 ·have hq:sO s.data.toList=(0,0,21):=by rw[sO,bR (.inl P8)]
  have HQ:=ay hq;generalize hy:s.extract 0 (ny bI s)=y at HR hz
  have hI:(60:Int) < ↑y.size:=by omega
  have hD:decide ((60:Int) < ↑y.size)=true:=jV hI;clear hq hn hz;go_enter Tryz.func207,Tryz.ntmps207;go_wp2_with (go_at_call 261;refine HR.out.mono ?_;rintro e w1 ⟨rfl,rfl⟩);go_ret3
  refine⟨lZ (t:=sO s.data.toList) ?_ ?_ ?_,rfl⟩<;>rw[HQ.out]
  ·rfl
  ·exact vV s
  ·rfl
 ·by_cases h1:1<ny bI s
  ·have h0:0<(s.extract 0 (ny bI s)).size:=by omega
   generalize hy:s.extract 0 (ny bI s)=y at HR hz hn h0;have hb:=Eb h0;rw[hn] at hb
   have hI:¬ (60:Int) < ↑y.size:=by omega
   have hD:decide ((60:Int) < ↑y.size)=false:=dX hI
   have hI1:(1:Int) < ↑y.size:=by omega
   have hD1:decide ((1:Int) < ↑y.size)=true:=jV hI1
   by_cases hc:(y[0]'h0)=48
   ·have hq:sO s.data.toList=(0,0,21):=by rw[sO,bR (.inr ⟨h1,by rw[hb,hc]⟩)]
    have hE:(((y[0]'h0).toNat:Int) == 48)=true:=by rw[hc];rfl
    have HQ:=ay hq;clear hq hn hb hc hz;go_enter Tryz.func207,Tryz.ntmps207;go_wp2_with (go_at_call 261;refine HR.out.mono ?_;rintro e w1 ⟨rfl,rfl⟩);go_ret3
    refine⟨lZ (t:=sO s.data.toList) ?_ ?_ ?_,rfl⟩<;>rw[HQ.out]
    ·rfl
    ·exact vV s
    ·rfl
   ·have hq:sO s.data.toList=(3,ny bI s,0):=by
     rw[sO,aU]
     ·rfl
     ·rintro(h|⟨_,h⟩)
      ·exact P8 h
      ·rw[hb] at h;injection h with h;exact hc h
    have hE:(((y[0]'h0).toNat:Int) == 48)=false:=by
     rw[<- vM,beq_iff_eq];intro h;exact hc (UInt8.toNat_inj.1 (by show _=48;omega))
    have HQ:=ay hq;have HY:=ay hy;clear hq hn hb hc hy hz;go_enter Tryz.func207,Tryz.ntmps207;go_wp2_with (go_at_call 261;refine HR.out.mono ?_;rintro e w1 ⟨rfl,rfl⟩);go_ret3
    refine⟨lZ (t:=sO s.data.toList) ?_ ?_ ?_,rfl⟩<;>rw[HQ.out]
    ·rfl
    ·exact HY.out.symm
    ·rfl
  ·have hq:sO s.data.toList=(3,ny bI s,0):=by
    rw[sO,aU]
    ·rfl
    ·rintro(h|⟨h,_⟩)
     ·exact P8 h
     ·exact h1 h
   generalize hy:s.extract 0 (ny bI s)=y at HR hz
   have hI:¬ (60:Int) < ↑y.size:=by omega
   have hD:decide ((60:Int) < ↑y.size)=false:=dX hI
   have hI1:¬ (1:Int) < ↑y.size:=by omega
   have hD1:decide ((1:Int) < ↑y.size)=false:=dX hI1;have HQ:=ay hq;have HY:=ay hy;clear hq hn hy hz;go_enter Tryz.func207,Tryz.ntmps207;go_wp2_with (go_at_call 261;refine HR.out.mono ?_;rintro e w1 ⟨rfl,rfl⟩);go_ret3
   refine⟨lZ (t:=sO s.data.toList) ?_ ?_ ?_,rfl⟩<;>rw[HQ.out]
   ·rfl
   ·exact HY.out.symm
   ·rfl
theorem Xz (w:World):Calls Tryz.prog 263 #[] w λe w'=>e=.returned (.agg #[.string ⟨#[97,115,115,101,114,116]⟩,.string ⟨#[98,111,111,108]⟩,.string ⟨#[101,108,115,101]⟩,.string ⟨#[102,97,108,115,101]⟩,.string ⟨#[102,117,110]⟩,.string ⟨#[105,102]⟩,.string ⟨#[105,109,112,111,114,116]⟩,.string ⟨#[105,110]⟩,.string ⟨#[105,110,116]⟩,.string ⟨#[108,101,116]⟩,.string ⟨#[110,111,116]⟩,.string ⟨#[112,117,98]⟩,.string ⟨#[114,101,115]⟩,.string ⟨#[116,104,101,110]⟩,.string ⟨#[116,114,117,101]⟩])/\Below w.heap.size w w':=by
 go_enter Tryz.func263,Tryz.ntmps263;go_wp2;refine nI (v:=.agg #[.string ⟨#[97,115,115,101,114,116]⟩,.string ⟨#[98,111,111,108]⟩,.string ⟨#[101,108,115,101]⟩,.string ⟨#[102,97,108,115,101]⟩,.string ⟨#[102,117,110]⟩,.string ⟨#[105,102]⟩,.string ⟨#[105,109,112,111,114,116]⟩,.string ⟨#[105,110]⟩,.string ⟨#[105,110,116]⟩,.string ⟨#[108,101,116]⟩,.string ⟨#[110,111,116]⟩,.string ⟨#[112,117,98]⟩,.string ⟨#[114,101,115]⟩,.string ⟨#[116,104,101,110]⟩,.string ⟨#[116,114,117,101]⟩]) (results_cell_row rfl _ _ w.heap.size 323 _ (0,0) _ rfl (aX _ _) Tryz.underlying323 rfl (by kernel_rfl)) rfl ⟨rfl,(bQ _ _).alloc (bD _) _⟩
def Cx (x:ByteArray)(j:Nat):ByteArray:=if j<15 then ⟨(uF.getD j []).toArray⟩ else x
theorem Ux:∀ j:Fin 15,Lib.bsGo (λt=>Op.bytesLess (if t<15 then uF.getD t [] else uF.getD j []) (uF.getD j [])) 15 0 15=j:=by decide
theorem yM (x:ByteArray)(j:Nat):(Cx x j).data.toList=if j<15 then uF.getD j [] else x.data.toList:=by
 unfold Cx
 split<;>rfl
theorem Uy (x:ByteArray):∀ j,j<15->(#[.string ⟨#[97,115,115,101,114,116]⟩,.string ⟨#[98,111,111,108]⟩,.string ⟨#[101,108,115,101]⟩,.string ⟨#[102,97,108,115,101]⟩,.string ⟨#[102,117,110]⟩,.string ⟨#[105,102]⟩,.string ⟨#[105,109,112,111,114,116]⟩,.string ⟨#[105,110]⟩,.string ⟨#[105,110,116]⟩,.string ⟨#[108,101,116]⟩,.string ⟨#[110,111,116]⟩,.string ⟨#[112,117,98]⟩,.string ⟨#[114,101,115]⟩,.string ⟨#[116,104,101,110]⟩,.string ⟨#[116,114,117,101]⟩]:Array Value)[0+j]?=some (.string (Cx x j))
 | 0,_=>rfl
 | 1,_=>rfl
 | 2,_=>rfl
 | 3,_=>rfl
 | 4,_=>rfl
 | 5,_=>rfl
 | 6,_=>rfl
 | 7,_=>rfl
 | 8,_=>rfl
 | 9,_=>rfl
 | 10,_=>rfl
 | 11,_=>rfl
 | 12,_=>rfl
 | 13,_=>rfl
 | 14,_=>rfl
 | n+15,h=>absurd h (by omega)
theorem ab2 (j:Nat)(hj:j<15):uF.getD j []∈uF:=by
 have hj0:j<uF.length:=hj;rw[Kr,AY hj0,Option.getD_some];exact nH _
theorem Uz (x:ByteArray):decide (Lib.bsGo (λt=>Op.bytesLess (Cx x t).toList x.toList) 15 0 15<15/\Cx x (Lib.bsGo (λt=>Op.bytesLess (Cx x t).toList x.toList) 15 0 15)=x)=decide (x.data.toList∈uF):=by
 simp only[Lib.toList_data,yM]
 by_cases h:x.data.toList∈uF
 ·obtain⟨j,hj0,e⟩:=List.mem_iff_getElem.1 h
  have ek:uF.getD j []=x.data.toList:=by rw[Kr,AY hj0,Option.getD_some,e]
  have hj:j<15:=hj0;have hk:=Ux ⟨j,hj⟩;simp only[ek] at hk;rw[hk,jV h,jV];refine⟨hj,sZ ?_⟩;rw[yM,bR hj,ek]
 ·rw[dX h,dX]
  rintro⟨hb,e⟩
  apply h
  rw[<- e,yM,bR hb];exact ab2 _ hb
def XB (x:ByteArray)(w:World)(e:Ending)(w':World):Prop :=
 (∃ n:Nat,e=.returned (.tuple #[.int .i64 n,.bool (decide (x.data.toList∈uF))]))/\Below w.heap.size w w'
theorem Qe (b:Nat)(x:ByteArray)(w:World)(hc:∀ j,j<15->w.cell? ⟨b,0+j,none⟩=some (.string (Cx x j))) :
  Calls Tryz.prog 124 #[.slice (some ⟨b,0,none⟩) 15 15,.string x] w (XB x w):=by
 refine(Any2.slices_BinarySearch_string Tryz.Eu b 0 15 15 (Cx x) x w (by decide) hc).mono ?_;rintro e w' ⟨rfl,q,rfl⟩;rw[Uz];exact⟨⟨_,rfl⟩,below_drewN (bQ _ _) _⟩
theorem XC (s:ByteArray)(w:World)(hs:s.size<=1099511627776) :
  Calls Tryz.prog 205 #[.string s] w λe w'=>e=.returned (Uw s (qD s.data.toList))/\Below w.heap.size w w':=by
 have hr:=Xy bZ s;have hn:=MB bZ s;have hz:=ext_size s _ hr;have HR:=ay (Qa s w hs)
 by_cases h40:40<ny bZ s
 ·have hq:qD s.data.toList=(0,0,20):=by unfold qD;exact bR h40
  have HQ:=ay hq;generalize hy:s.extract 0 (ny bZ s)=y at HR hz
  have hI:(40:Int) < ↑y.size:=by omega
  clear hq hn hz;go_enter Tryz.func205,Tryz.ntmps205;go_wp2_with (go_at_call 261;refine HR.out.mono ?_;rintro e w1 ⟨rfl,rfl⟩);go_ret3
  refine⟨lZ (t:=qD s.data.toList) ?_ ?_ ?_,bQ _ _⟩<;>rw[HQ.out]
  ·rfl
  ·exact vV s
  ·rfl
 ·have hq:qD s.data.toList=(if s.data.toList.takeWhile bZ∈uF then (2,ny bZ s,0) else (1,ny bZ s,0)):=by unfold qD;exact aU h40
  have HQ:=ay hq;generalize hy:s.extract 0 (ny bZ s)=y at HR hz hn;have HY:=ay hy;have HN:=ay hn
  have hI:¬ (40:Int) < ↑y.size:=by omega
  clear hq hn hy hz;go_enter Tryz.func205,Tryz.ntmps205;go_wp2_with (first|(go_at_call 261;refine HR.out.mono ?_;rintro e w1 ⟨rfl,rfl⟩)|(go_at_call 263;refine(Xz _).mono ?_;rintro e w2 ⟨rfl,hb⟩)|(go_at_call 124;refine(Qe _ y _ ?c1).mono ?_))
  case c1 =>
   intro j hj;rw[aZ (aX _ _)];exact Uy y j hj
  rintro e w3 ⟨⟨n,rfl⟩,hb3⟩;have hbb:=(hb.alloc hb.size _).trans (hb3.mono (by have:=hb.size;simp;omega))
  cases hk:decide (y.data.toList∈uF) with
  | true =>
   have HK:=ay hk;clear hk;go_wp2;go_ret3
   refine⟨lZ (t:=qD s.data.toList) ?_ ?_ ?_,hbb⟩<;>rw[HQ.out,bR (by rw[<- HN.out];exact PY HK.out)]
   ·rfl
   ·exact HY.out.symm
   ·rfl
  | false =>
   have HK:=ay hk;clear hk;go_wp2;go_ret3
   refine⟨lZ (t:=qD s.data.toList) ?_ ?_ ?_,hbb⟩<;>rw[HQ.out,aU (by rw[<- HN.out];exact of_decide_eq_false HK.out)]
   ·rfl
   ·exact HY.out.symm
   ·rfl
def MC:Array Value:=(vU.map λx=>Value.string ⟨x.toArray⟩).toArray
theorem UA (w:World):Calls Tryz.prog 208 #[] w λe w'=>e=.returned (.agg MC)/\Below w.heap.size w w':=by
 go_enter Tryz.func208,Tryz.ntmps208
 apply wp_seq_k
 intro K0 hK0;have HK:=ay hK0;clear hK0;go_wp2
 apply HK.out
 apply wp_seq_k
 intro K1 hK1
 apply wp_region_lit
 refine wpList_buildTo rfl 299 _ rfl (some 1) rfl MC (by kernel_rfl) ?_;refine wpList_store_rowTo rfl 299 _ _ rfl rfl w.heap.size MC rfl rfl 299 _ (aX _ _) (by kernel_rfl) (by decide) (by kernel_rfl) ?_;rw[World.setRow_alloc_new]
 apply wpList_nil
 apply hK1
 go_wp2;refine nI (v:=.agg MC) (results_cell_row rfl _ _ w.heap.size 299 _ (0,0) _ rfl (aX _ _) Tryz.underlying299 rfl (by kernel_rfl)) rfl ⟨rfl,(bQ _ _).alloc (bD _) _⟩
