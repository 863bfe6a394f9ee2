/- Walks and plain laws, without a condition. -/
import Derived.WalkKit
import Derived.WalkSpells
import Derived.WalkLawsBesides
import Derived.Lib.OthersKept
import Derived.Lib.Hide
import Derived.BigQuiet
import Derived.BigGuardPart
import Derived.Deep.QuietTactic
import Derived.StillTailTactics
import Derived.Deep.RegionHeld3
import Derived.Deep.AppendLies
import Derived.Deep.DrawnRows
import Derived.Deep.DeepCutAuto
import Derived.Lib.Bytealg
import Derived.Lib.IndexLaws
set_option maxHeartbeats 16000000
set_option maxRecDepth 100000
set_option linter.unusedVariables false
set_option linter.unusedSimpArgs false
namespace Go.Proofs.YtmhdgeekclhbbaaGreatDoor
open Go.RowKit
variable{i sz n B e base k:Nat}{cs xs:List Value}{v:Value}{w w':World}{fr:Nat × Nat}
abbrev aH:=List UInt8
theorem ay{p:Prop}(h:p):Go.RowKit.Hid p:=Go.Lib.hid h
theorem bU{α}{xs:Array α}{a:α}(h:xs[i]?=some a):∃ h:i<xs.size,xs[i]=a:=Array.getElem?_eq_some_iff.1 h
theorem qm{α}{xs:List α}{a:α}(h:xs[i]?=some a):∃ h:i<xs.length,xs[i]=a:=List.getElem?_eq_some_iff.1 h
theorem bS{α β}{o:Option α}{f:α->Option β}{b:β}(h:o.bind f=some b):∃ a,o=some a/\f a=some b:=Option.bind_eq_some_iff.1 h
theorem bQ{α}{as bs:List α}:(as++bs).length=as.length+bs.length:=List.length_append
theorem dN{α}{a:α}{as:List α}:(a::as).length=as.length+1:=List.length_cons
set_option linter.defProp false
universe u v
def aZ:=@Go.heap_alloc_new
def bg:=@Go.Lib.cell_of_heap
def iB:=@Go.Lib.alloc_old
def bY:=@Go.RowKit.Below.refl
def oU:=@Go.World.size_alloc
def jy:=@Go.cell_later
def fu:=@decide_eq_false
def kS:=@decide_eq_true
def bI:=@Nat.le_refl
def iY:=@Nat.le_trans
def mD:=@Nat.zero_le
def kE:=@Option.some.inj.{u}
def oQ:=@List.getElem_mem.{u}
def iF:=@List.length_nil.{u}
def kF:=@List.cons_append.{u}
def om:=@List.append_assoc.{u}
def qW:=@List.nil_append.{u}
def EF:=@List.take_succ_eq_append_getElem.{u}
def AB:=@List.getElem?_eq_getElem.{u}
def qX:=@List.length_take.{u}
def xu:=@List.mem_cons_of_mem.{u}
def xq:=@List.mem_cons_self.{u}
def DL:=@List.take_of_length_le.{u}
def wS:=@Go.World.news_of_block
def Fa:=@beq_eq_false_iff_ne
def aP:=@if_neg.{u}
def bq:=@if_pos.{u}
def kG:=@Go.heap_setCell_same
def qo:=@Go.heap_setCell_other
def ko:=@Option.bind_some.{u}
def qM:=@Bool.and_eq_true
def mE:=@List.map_cons.{u,v}
def oo:=@List.mem_cons.{u}
def uK:=@decide_eq_true_eq
def iq:=@And.intro
def AJ:=@Go.World.cell?_of_block
def o9:=@Go.bodyPost_ret
def zI:=@Nat.lt_of_lt_of_le
def qp:=@Nat.add_zero
def wT:=@Bool.not_eq_true
def vL:=@List.length_map.{u,v}
def zh:=@List.length_drop.{u}
def Fb:=@List.getD_eq_getElem?_getD.{u}
def JG:=@List.getElem_cons_succ.{u}
def LY:=@Classical.byContradiction
def DN:=@List.mem_singleton.{u}
def wU:=@Nat.add_assoc
def zJ:=@List.map_append.{u,v}
def Fe:=@List.take_length.{u}
def abj:=@List.getElem?_append_right.{u}
def abk:=@List.take_append_of_le_length.{u}
def abl:=@List.getElem?_map.{u,v}
def abn:=@Bool.or_eq_false_iff
def abo:=@List.flatMap_append.{u,v}
def abp:=@List.mem_append_left.{u}
def V7:=@of_decide_eq_true
def abt:=@List.length_replicate.{u}
def Sl (B:Nat)(w:World)(v:Value)(sz n:Nat)(cs:List Value):Prop :=
 ∃ ao cap,v=.slice ao n cap/\n<=cap/\cs.length=n * sz /\
  (0<n->∃ b off,ao=some ⟨b,off,none⟩/\b<B/\∀ i,(h:i<cs.length)->w.cell? ⟨b,off+i,none⟩=some cs[i])
theorem Sl.below (h:Sl B w v sz n cs)(hb:Below B w w'):Sl B w' v sz n cs:=by
 obtain⟨ao,cap,hv,hn,hl,hc⟩:=h;refine⟨ao,cap,hv,hn,hl,λh0=>?_⟩;obtain⟨b,off,ha,hB,hcell⟩:=hc h0;exact⟨b,off,ha,hB,λi hi=>(hb.cell (p:=⟨b,off+i,none⟩) hB).trans (hcell i hi)⟩
theorem Sl.mono {B':Nat}(h:Sl B w v sz n cs)(hB:B<=B'):Sl B' w v sz n cs:=by
 obtain⟨ao,cap,hv,hn,hl,hc⟩:=h;refine⟨ao,cap,hv,hn,hl,λh0=>?_⟩;obtain⟨b,off,ha,hb,hcell⟩:=hc h0;exact⟨b,off,ha,zI hb hB,hcell⟩
theorem Sl.fZ (h:w.ownsRow B e sz v n cs):Sl w.heap.size w v sz n cs:=by
 obtain⟨hl,h⟩:=h
 rcases h with ⟨rfl,rfl⟩|⟨g,cap,cur,rfl,hg,hh,hn,hm,hs,hx⟩
 ·exact⟨none,0,rfl,bI _,hl,λh0=>absurd h0 (by omega)⟩
 ·refine⟨some ⟨g,0,none⟩,cap,rfl,hn,hl,λ_=>⟨g,0,rfl,?_,λi hi=>?_⟩⟩
  ·rcases Nat.lt_or_ge g w.heap.size with h'|h'
   ·exact h'
   ·simp[Array.getElem?_eq_none h'] at hh
  ·subst hx
   simp only[qX] at hi;simp only[World.cell?,hh,Nat.zero_add,List.getElem_take];simp only[Option.isSome_none,Bool.false_eq_true,if_false];rw[Array.getElem?_eq_getElem (by simpa using (by omega:i<cur.toList.length))]
   simp
theorem AL {α:Type}{f:α->List Value}{sz:Nat}(hf:∀ x,(f x).length=sz):∀ (l:List α) (k j:Nat) (hk:k<l.length),j<sz ->
  (l.flatMap f)[k * sz+j]?=(f l[k])[j]?
 | [],k,j,hk,_=>absurd hk (by simp)
 | x :: l,0,j,_,hj=>by
  simp only[List.flatMap_cons,Nat.zero_mul,Nat.zero_add,List.getElem_cons_zero];rw[List.getElem?_append_left (by rw[hf];exact hj)]
 | x :: l,k+1,j,hk,hj=>by
  have:=AL hf l k j (by simpa using hk) hj;simp only[List.flatMap_cons,JG];rw[abj (by rw[hf,Nat.succ_mul];omega),hf,show (k+1) * sz+j - sz=k * sz+j by rw[Nat.succ_mul];omega];exact this
def Rec {α:Type}(B:Nat)(w:World)(v:Value)(sz:Nat)(f:α->List Value)(l:List α):Prop:=Sl B w v sz l.length (l.flatMap f)
theorem Rec.form {α:Type}{f:α->List Value}{l:List α}(h:Rec B w v sz f l)(hf:∀ x,(f x).length=sz) :
  ∃ ao cap,v=.slice ao l.length cap/\l.length<=cap/\(0<l.length->∃ b off,ao=some ⟨b,off,none⟩/\b<B /\
   ∀ k j u,(hk:k<l.length)->(f l[k])[j]?=some u->w.cell? ⟨b,off+k * sz+j,none⟩=some u):=by
 obtain⟨ao,cap,hv,hn,hl,hc⟩:=h;refine⟨ao,cap,hv,hn,λh0=>?_⟩;obtain⟨b,off,ha,hB,hcell⟩:=hc h0;refine⟨b,off,ha,hB,λk j u hk hu=>?_⟩
 have hj:j<sz:=by
  rcases Nat.lt_or_ge j sz with h'|h'
  ·exact h'
  ·rw[List.getElem?_eq_none (by rw[hf];exact h')] at hu;cases hu
 have hi:=AL hf l k j hk hj;rw[hu] at hi;obtain⟨h',e⟩:=qm hi;have:=hcell (k * sz+j) h';rw[e] at this;rw[wU];exact this
theorem Rec.below {α:Type}{B:Nat}{w w':World}{v:Value}{sz:Nat}{f:α->List Value}{l:List α}(h:Rec B w v sz f l)(hb:Below B w w'):Rec B w' v sz f l:=Sl.below h hb
theorem Rec.mono {α:Type}{B B':Nat}{w:World}{v:Value}{sz:Nat}{f:α->List Value}{l:List α}(h:Rec B w v sz f l)(hB:B<=B'):Rec B' w v sz f l:=Sl.mono h hB
theorem uL (h:w.ownsRow base e sz v n xs):w.drew.ownsRow base e sz v n xs:=h
theorem own_ne (hr:w.ownsRow base e sz v n xs){cs:Array Value}{T:TypeId}(hk:w.heap[k]?=some (.cells cs T fr))(hT:T≠e):some k≠v.ownBlock:=by
 rcases hr.2 with ⟨rfl,_⟩|⟨g,cap,cur,rfl,_,hgg,_⟩
 ·simp[Value.ownBlock]
 ·intro q
  simp only[Value.ownBlock,Option.some.injEq] at q;subst q;rw[hk] at hgg;simp only[Option.some.injEq,Obj.cells.injEq] at hgg;exact hT hgg.2.1
theorem jf (hr:w.ownsRow base e sz v n xs)(hg:w.grownBy w' v.ownBlock){cs:Array Value}{T:TypeId}(hk:w.heap[k]?=some (.cells cs T fr))(hT:T≠e) :
  w'.heap[k]?=some (.cells cs T fr):=by
 rw[hg.block k (bU hk).1 (own_ne hr hk hT)];exact hk
theorem AO {k:IntKind}{a b:Int}(h:a=b):Ending.returned (.int k a)=.returned (.int k b):=by rw[h]
theorem bF {a b:Bool}(h:a=b):Ending.returned (.bool a)=.returned (.bool b):=by rw[h]
theorem vM (s:ByteArray):s.toList.isEmpty=decide (s.size=0):=by
 rw[Go.ByteArray.toList_eq]
 have:s.data.toList.length=s.size:=by cases s;rfl
 cases h:s.data.toList with
 | nil=>rw[h,iF] at this;exact(kS (by omega)).symm
 | cons a t=>rw[h,dN] at this;exact(fu (by omega)).symm
variable{a b:ByteArray}{T S:aH}{p d:Nat}
theorem aS (o:ByteArray):o.data.toList.length=o.size:=by cases o;rfl
theorem DT (a b:ByteArray):(a++b).data.toList=a.data.toList++b.data.toList:=by simp
theorem uM (h:a.data.toList=b.data.toList):a=b:=by
 cases a;cases b
 congr 1
 exact Array.toList_inj.1 h
theorem jh (s:ByteArray)(a b:Nat):(s.extract a b).data.toList=(s.data.toList.take b).drop a:=by
 rw[Lib.extract_data,List.drop_take]
theorem qx (s:ByteArray)(a:Nat):(s.extract a s.size).data.toList=s.data.toList.drop a:=by
 rw[jh,DL]
 simp
theorem UY (h:a=b):Ending.returned (.string a)=.returned (.string b):=by rw[h]
theorem V8 (T:aH):(Lib.indexByte T 10=-1/\∀ j:Nat,T[j]?≠some 10)\/∃ i:Nat,Lib.indexByte T 10=i/\T[i]?=some 10/\i<T.length/\∀ j:Nat,j<i->T[j]?≠some 10:=by
 rcases hq:Lib.indexByte T 10 with n|n
 ·right
  obtain⟨h1,h2⟩:=Lib.indexByte_some (o:=n) hq;exact⟨n,rfl,h1,(qm h1).1,h2⟩
 ·left
  have:=Lib.indexByte_ge T 10
  have h1:Lib.indexByte T 10=-1:=by rw[hq] at this |-;omega
  rw[hq] at h1;refine⟨h1,?_⟩;rw[<- hq] at h1;exact Lib.indexByte_none h1
def RD:Value->Nat
 | .string s=>s.size
 | _=>0
def fq (c:UInt8):Bool:=(97<=c && c<=122) || (65<=c && c<=90)
def bf (c:UInt8):Bool:=48<=c && c<=57
def bJ (c:UInt8):Bool:=fq c || bf c || c == 95
def eH (c:UInt8):Bool:=c == 32 || c == 9 || c == 13 || c == 10
def cK:Bool->aH->Nat
 | _,[]=>0
 | true,c :: r=>if c=10 then 1+cK false r else 1+cK true r
 | false,c :: r=>if eH c then 1+cK false r else if c=45/\r.head?=some 45 then 1+cK true r else 0
theorem qy:∀ (m:Bool) (T:aH),cK m T<=T.length
 | _,[]=>by simp[cK]
 | true,c :: r=>by
  have h1:=qy false r;have h2:=qy true r;rw[cK]
  split<;>simp<;>omega
 | false,c :: r=>by
  have h1:=qy false r;have h2:=qy true r;rw[cK]
  split
  ·simp;omega
  ·split<;>simp
   omega
theorem AP:∀ (T:aH),cK false T=(T.takeWhile eH).length+cK false (T.dropWhile eH)
 | []=>by simp[cK]
 | c :: r=>by
  by_cases hc:eH c=true
  ·rw[List.takeWhile_cons_of_pos hc,List.dropWhile_cons_of_pos hc,cK,bq hc,dN,AP r]
   omega
  ·rw[List.takeWhile_cons_of_neg hc,List.dropWhile_cons_of_neg hc]
   simp
theorem FC:∀ (T:aH),(∀ j:Nat,T[j]?≠some 10)->cK true T=T.length
 | [],_=>rfl
 | c :: r,h=>by
  have h0:c≠10:=λe=>h 0 (by simp[e])
  rw[cK,aP h0,FC r (λj=>by have:=h (j+1);simpa using this),dN];omega
theorem FD:∀ (n:Nat) (T:aH),T[n]?=some 10->(∀ j:Nat,j<n->T[j]?≠some 10)->cK true T=n+cK false (T.drop n)
 | _,[],h,_=>by simp at h
 | 0,c :: r,h,_=>by
  have h0:c=10:=by simpa using h
  subst h0;rw[cK,bq rfl,List.drop_zero,cK,bq (by decide)];omega
 | n+1,c :: r,h,hj=>by
  have h0:c≠10:=λe=>hj 0 (by omega) (by simp[e])
  rw[cK,aP h0,FD n r (by simpa using h) (λj hjm=>by have:=hj (j+1) (by omega);simpa using this)]
  simp
  omega
theorem LZ (T:aH)(h:[45,45] <+: T):cK false T=cK true T:=by
 obtain⟨r,rfl⟩:=h;show cK false (45 :: 45 :: r)=cK true (45 :: 45 :: r)
 have h1:cK false (45 :: 45 :: r)=1+cK true (45 :: r):=by
  conv=>lhs;rw[cK]
  rw[aP (by decide),bq ⟨rfl,rfl⟩]
 have h2:cK true (45 :: 45 :: r)=1+cK true (45 :: r):=by
  conv=>lhs;rw[cK]
  rw[aP (by decide)]
 rw[h1,h2]
theorem RF (T:aH)(h:¬ [45,45] <+: T)(hb:T.takeWhile eH=[]):cK false T=0:=by
 cases T with
 | nil=>rfl
 | cons c r =>
  have hc:¬ eH c=true:=λq=>by rw[List.takeWhile_cons_of_pos q] at hb;cases hb
  rw[cK,aP hc,aP];rintro⟨rfl,h2⟩
  cases r with
  | nil=>cases h2
  | cons d r =>
   injection h2 with h2
   subst h2;exact h ⟨r,rfl⟩
def uy:List aH:=[[97,115,115,101,114,116],[98,111,111,108],[101,108,115,101],[102,97,108,115,101],[102,117,110],[105,102],[105,109,112,111,114,116],[105,110],[105,110,116],[108,101,116],[110,111,116],[112,117,98],[114,101,115],[116,104,101,110],[116,114,117,101]]
def agu:List aH:=[[60,62],[60,61],[62,61],[38,38],[124,124],[61,62]]
def agv:aH:=[40,41,123,125,44,58,59,46,43,45,42,47,37,61,60,62]
def jQ:List aH:=agu++agv.map λc=>[c]
def uN (T:aH):Option aH:=jQ.find? (λx=>x.isPrefixOf T)
def pq (T:aH):Nat × Nat × Nat :=
 let w:=T.takeWhile bJ
 if 40<w.length then (0,0,20) else if w∈uy then (2,w.length,0) else (1,w.length,0)
def rT (T:aH):Nat × Nat × Nat :=
 let w:=T.takeWhile bf
 if 60<w.length\/(1<w.length/\w[0]?=some 48) then (0,0,21) else (3,w.length,0)
def EG (T:aH):Nat × Nat × Nat :=
 match uN T with
 | some x=>(4,x.length,0)
 | none=>(0,0,20)
def fP:aH->Nat × Nat × Nat
 | []=>(5,0,0)
 | c :: r=>if fq c then pq (c :: r) else if bf c then rT (c :: r) else EG (c :: r)
structure Tok where
 kind:Nat
 lead:aH
 text:aH
 place:Nat
def dW (t:Tok):List Value:=[.int .i64 t.kind,.string ⟨t.lead.toArray⟩,.string ⟨t.text.toArray⟩,.int .i64 t.place]
def kZ:Nat->aH->Nat->Except (Nat × Nat) (List Tok)
 | 0,_,_=>.error (99,0)
 | n+1,T,p =>
  let k:=cK false T
  let U:=T.drop k
  let t:=fP U
  if t.2.2≠0 then .error (t.2.2,p+k)
  else if t.1=5 then .ok [⟨5,T.take k,[],p+k⟩]
  else match kZ n (U.drop t.2.1) (p+k+t.2.1) with
   | .error e=>.error e
   | .ok l=>.ok (⟨t.1,T.take k,U.take t.2.1,p+k⟩ :: l)
def bV (S:aH):Except (Nat × Nat) (List Tok):=if 65536<S.length then .error (11,0) else kZ (S.length+1) S 0
theorem lY {α:Type}(p:α->Bool)(l:List α):(l.takeWhile p).length<=l.length:=(List.takeWhile_prefix p).length_le
theorem FE {x:aH}(h:uN T=some x):x <+: T/\0<x.length/\x.length<=2:=by
 have h1:=List.find?_some h;have h2:=List.mem_of_find?_eq_some h;refine⟨List.isPrefixOf_iff_prefix.1 h1,?_⟩
 have:∀ y∈jQ,0<y.length/\y.length<=2:=by decide
 exact this x h2
theorem AQ (T:aH):(fP T).2.1<=T.length:=by
 cases T with
 | nil=>simp[fP]
 | cons c r =>
  rw[fP]
  split
  ·have:=lY bJ (c :: r)
   simp only[pq]
   split
   ·simp
   ·split<;>exact this
  ·split
   ·have:=lY bf (c :: r)
    simp only[rT]
    split
    ·simp
    ·exact this
   ·rw[EG]
    split
    ·rename_i x hx
     exact(FE hx).1.length_le
    ·simp
theorem AU (T:aH)(h:(fP T).2.2=0)(h5:(fP T).1≠5):0<(fP T).2.1:=by
 cases T with
 | nil=>simp[fP] at h5
 | cons c r =>
  rw[fP] at h h5 |-
  by_cases hc:fq c=true
  ·have hp:0<((c :: r).takeWhile bJ).length:=by rw[List.takeWhile_cons_of_pos (by simp[bJ,hc])];simp
   rw[bq hc] at h |-;simp only[pq] at h |-
   split at h
   ·cases h
   ·rename_i h40
    rw[aP h40]
    split<;>exact hp
  ·rw[aP hc] at h |-
   by_cases hd:bf c=true
   ·have hp:0<((c :: r).takeWhile bf).length:=by rw[List.takeWhile_cons_of_pos hd];simp
    rw[bq hd] at h |-;simp only[rT] at h |-
    split at h
    ·cases h
    ·rename_i L6
     rw[aP L6];exact hp
   ·rw[aP hd] at h |-
    rw[EG] at h |-
    split at h
    ·rename_i x hx
     exact(FE hx).2.1
    ·cases h
def pG (t:Tok):Nat:=t.lead.length+t.text.length
def iC:List Tok->Nat->Nat
 | [],_=>0
 | _ :: _,0=>0
 | t :: l,i+1=>pG t+iC l i
theorem zK (l:List Tok):iC l 0=0:=by cases l<;>rfl
theorem mV (t:Tok)(l:List Tok)(i:Nat):iC (t :: l) (i+1)=pG t+iC l i:=rfl
theorem lH:∀ (l:List Tok) (i:Nat) (h:i<l.length),iC l (i+1)=iC l i+pG l[i]
 | [],i,h=>absurd h (by simp)
 | t :: l,0,_=>by simp[iC,zK]
 | t :: l,i+1,h=>by
  have:=lH l i (by simpa using h);simp only[mV,JG];rw[this];omega
theorem Y3 (T:aH)(h:(fP T).1=5):T=[]:=by
 cases T with
 | nil=>rfl
 | cons c r =>
  exfalso
  rw[fP] at h
  split at h
  ·rw[pq] at h
   split at h
   ·cases h
   ·split at h<;>cases h
  ·split at h
   ·rw[rT] at h
    split at h<;>cases h
   ·rw[EG] at h
    split at h<;>cases h
structure Laid (T:aH) (p:Nat) (l:List Tok):Prop where
 some:0<l.length
 whole:iC l l.length=T.length
 place:∀ (i:Nat) (h:i<l.length),l[i].place=p+iC l i+l[i].lead.length
 last:∀ (i:Nat) (h:i<l.length),l[i].kind=5↔i=l.length - 1
 empty:∀ (i:Nat) (h:i<l.length),l[i].text=[]↔l[i].kind=5
 text:∀ (i:Nat) (h:i<l.length),(T.drop (iC l i+l[i].lead.length)).take l[i].text.length=l[i].text
 lead:∀ (i:Nat) (h:i<l.length),(T.drop (iC l i)).take l[i].lead.length=l[i].lead
theorem Laid.inside {l:List Tok}(h:Laid T p l):∀ i,i<=l.length->iC l i<=T.length:=by
 intro i hi
 have:∀ k,i+k=l.length->iC l i<=T.length:=by
  intro k
  induction k generalizing i with
  | zero=>intro e;rw[<- h.whole,<- e];exact bI _
  | succ k ih =>
   intro e;have:=ih (i+1) (by omega) (by omega);rw[lH l i (by omega)] at this;omega
 exact this (l.length - i) (by omega)
theorem Laid.count {l:List Tok}(h:Laid T p l):l.length<=T.length+1:=by
 have h1:∀ i,i<l.length->i<=iC l i:=by
  intro i
  induction i with
  | zero=>omega
  | succ i ih =>
   intro hi;have h2:=ih (by omega)
   have h5:l[i].kind≠5:=λq=>by have:=(h.last i (by omega)).1 q;omega
   have h6:l[i].text≠[]:=λq=>h5 ((h.empty i (by omega)).1 q)
   have h7:0<l[i].text.length:=List.length_pos_iff.2 h6;rw[lH l i (by omega),pG];omega
 have hs:=h.some;have:=h1 (l.length - 1) (by omega);have:=h.inside (l.length - 1) (by omega);omega
theorem Kc:∀ (n:Nat) (T:aH) (p:Nat) (l:List Tok),kZ n T p=.ok l->Laid T p l
 | 0,_,_,_,h=>by cases h
 | n+1,T,p,l,h=>by
  rw[kZ] at h;have hk:=qy false T;generalize hkk:cK false T=k at h hk
  by_cases he:(fP (T.drop k)).2.2≠0
  ·rw[bq he] at h;cases h
  rw[aP he] at h
  by_cases h5:(fP (T.drop k)).1=5
  ·rw[bq h5] at h
   injection h with h
   subst h;have hnil:=Y3 _ h5
   have hl:T.length=k:=by
    have:=congrArg List.length hnil;rw[zh,iF] at this;omega
   have htk:(T.take k).length=k:=by rw[qX];omega
   have one:∀ i,i<1->i=0:=λi h=>by omega
   refine⟨by simp,by simp[iC,pG];omega,?_,?_,?_,?_,?_⟩<;>(intro i hi;obtain rfl:=one i hi;simp[iC])<;>omega
  ·rw[aP h5] at h
   have hpos:=AU (T.drop k) (by omega) h5;have hlen:=AQ (T.drop k);rw[zh] at hlen;generalize fP (T.drop k)=t at h he h5 hpos hlen
   cases hr:kZ n ((T.drop k).drop t.2.1) (p+k+t.2.1) with
   | error e=>simp only[hr] at h;cases h
   | ok r =>
    simp only[hr] at h
    injection h with h
    subst h;have ih:=Kc n _ _ _ hr
    have htk:(T.take k).length=k:=by rw[qX];omega
    have htx:((T.drop k).take t.2.1).length=t.2.1:=by rw[qX,zh];omega
    have hone:pG ⟨t.1,T.take k,(T.drop k).take t.2.1,p+k⟩=k+t.2.1:=by simp only[pG];rw[htk,htx]
    have hs:=ih.some;refine⟨by simp,?_,?_,?_,?_,?_,?_⟩
    ·rw[dN,mV,ih.whole,hone,zh,zh];omega
    ·intro i hi
     cases i with
     | zero=>simp only[List.getElem_cons_zero,iC];rw[htk];omega
     | succ i =>
      have:=ih.place i (by simpa using hi);simp only[JG,mV];rw[this,hone];omega
    ·intro i hi
     cases i with
     | zero=>simp only[List.getElem_cons_zero,dN];exact⟨λh=>absurd h h5,λh=>by omega⟩
     | succ i =>
      have:=ih.last i (by simpa using hi);simp only[JG,dN];rw[this];omega
    ·intro i hi
     cases i with
     | zero =>
      simp only[List.getElem_cons_zero];exact⟨λh=>by rw[h] at htx;simp at htx;omega,λh=>absurd h h5⟩
     | succ i =>
      simp only[JG];exact ih.empty i (by simpa using hi)
    ·intro i hi
     cases i with
     | zero=>simp only[List.getElem_cons_zero,iC];rw[htk,htx,Nat.zero_add]
     | succ i =>
      have:=ih.text i (by simpa using hi);simp only[JG,mV];rw[List.drop_drop,List.drop_drop] at this;rw[hone]
      have hi':i<r.length:=by simpa using hi
      rw[show k+t.2.1+iC r i+r[i].lead.length=k+(t.2.1+(iC r i+r[i].lead.length)) from by omega];exact this
    ·intro i hi
     cases i with
     | zero=>simp only[List.getElem_cons_zero,iC];rw[htk,List.drop_zero]
     | succ i =>
      have:=ih.lead i (by simpa using hi);simp only[JG,mV];rw[List.drop_drop,List.drop_drop] at this;rw[hone];rw[show k+t.2.1+iC r i=k+(t.2.1+iC r i) from by omega];exact this
theorem FH:∀ (n:Nat) (T:aH) (p:Nat) (e:Nat × Nat),kZ n T p=.error e->T.length<n->p<=e.2/\e.2<=p+T.length/\(e.1=20\/e.1=21)
 | 0,_,_,_,_,h=>absurd h (by omega)
 | n+1,T,p,e,h,hn=>by
  rw[kZ] at h;have hk:=qy false T;generalize hkk:cK false T=k at h hk
  by_cases he:(fP (T.drop k)).2.2≠0
  ·rw[bq he] at h
   injection h with h
   subst h;refine⟨by simp,by simp only;omega,?_⟩;simp only
   cases hd:T.drop k with
   | nil=>rw[hd] at he;exact absurd rfl he
   | cons c r =>
    rw[hd] at he;rw[fP] at he |-
    by_cases hc:fq c=true
    ·rw[bq hc] at he |-
     simp only[pq] at he |-
     split
     ·exact .inl rfl
     ·rename_i h40;rw[aP h40] at he;exfalso;apply he;split<;>rfl
    ·rw[aP hc] at he |-
     by_cases hd:bf c=true
     ·rw[bq hd] at he |-
      simp only[rT] at he |-
      split
      ·exact .inr rfl
      ·rename_i L6;rw[aP L6] at he;exact absurd rfl he
     ·rw[aP hd] at he |-
      rw[EG] at he |-
      cases hs:uN (c :: r) with
      | none=>exact .inl rfl
      | some x=>rw[hs] at he;exact absurd rfl he
  rw[aP he] at h
  by_cases h5:(fP (T.drop k)).1=5
  ·rw[bq h5] at h;cases h
  ·rw[aP h5] at h
   have hpos:=AU (T.drop k) (by omega) h5;have hlen:=AQ (T.drop k);rw[zh] at hlen;generalize fP (T.drop k)=t at h he h5 hpos hlen
   cases hr:kZ n ((T.drop k).drop t.2.1) (p+k+t.2.1) with
   | ok r=>simp only[hr] at h;cases h
   | error x =>
    simp only[hr] at h
    injection h with h
    subst h;have:=FH n _ _ _ hr (by rw[zh,zh];omega);rw[zh,zh] at this;omega
theorem ji {l:List Tok}(h:bV S=.ok l):Laid S 0 l:=by
 rw[bV] at h
 split at h
 ·cases h
 ·exact Kc _ _ _ _ h
theorem vN {e:Nat × Nat}(h:bV S=.error e):e.2<=S.length/\(e.1=20\/e.1=21\/e.1=11):=by
 rw[bV] at h
 split at h
 ·injection h with h;subst h;exact⟨mD _,.inr (.inr rfl)⟩
 ·have:=FH _ _ _ _ h (by omega);omega
structure Nd where
 kind:Int
 tok:Int
 aA:List Int
structure aN where
 aj:List Nd
 used:Nat
 aC:Bool
 fE:Nat
 fAt:Nat
def FI:Tok:=⟨0,[],[],0⟩
def dh (ah:List Tok)(u:Nat):Tok:=ah.getD (min u (ah.length - 1)) FI
def bG (ah:List Tok)(st:aN)(l:List aH):Bool:=((dh ah st.used).kind == 2 || (dh ah st.used).kind == 4) && decide ((dh ah st.used).text∈l)
def gT (ah:List Tok)(e:Nat)(st:aN):aN:=if st.fE=0 then { st with fE:=e,fAt:=(dh ah st.used).place } else st
def aD (ah:List Tok)(st:aN):Int × aN :=
 if st.used=ah.length then (-1,st) else ((st.aj.length:Nat),{ st with aj:=st.aj++[⟨19,(st.used:Nat),[]⟩],used:=st.used+1 })
def JH (kind:Int)(aA:List Int)(st:aN):Int × aN :=
 if aA.any (λk=>decide (k<0) || decide ((st.aj.length:Int)<=k)) then (-1,st) else ((st.aj.length:Nat),{ st with aj:=st.aj++[⟨kind,-1,aA⟩] })
def bM (kind:Int)(aA:List Int)(st:aN):Int × aN:=if st.fE=0 then JH kind aA st else (0,st)
def aM (ah:List Tok)(l:List aH)(st:aN):Int × aN:=if st.fE=0/\bG ah st l=true then aD ah st else (0,gT ah 22 st)
def bC (ah:List Tok)(k:Nat)(st:aN):Int × aN:=if st.fE=0/\(dh ah st.used).kind=k then aD ah st else (0,gT ah 22 st)
def aV (ah:List Tok)(depth aF:Nat)(st:aN):aN:=if depth<aF then gT ah 23 st else st
def zL:Nat->List aH
 | 0=>[[124,124]]
 | 1=>[[38,38]]
 | 2=>[[61],[60,62],[60],[60,61],[62],[62,61]]
 | 3=>[[43],[45]]
 | _=>[[42],[47],[37]]
def bD (ah:List Tok)(one:aN->Option (Int × aN)):Nat->List Int->aN->Option (List Int × aN)
 | 0,aA,st=>some (aA,if st.fE=0 then gT ah 15 st else st)
 | r+1,aA,st =>
  if st.fE≠0 then some (aA,st)
  else (one st).bind λk =>
   if k.2.fE=0/\bG ah k.2 [[44]]=true then bD ah one r (aA++[k.1,(aD ah k.2).1]) (aD ah k.2).2
   else some (aA++[k.1],k.2)
def jH (ah:List Tok)(one:aN->Option (Int × aN))(st:aN):Option (List Int × aN) :=
 if bG ah st [[41]]=true then some ([],st) else bD ah one 8 [] st
inductive Task where
 | expr (aF:Nat)
 | formula (aF:Nat)
 | part (l aF:Nat)
 | row (l aF:Nat)
 | loop (l aF:Nat) (a:Int)
 | neg (aF:Nat)
 | factor (aF:Nat)
 | atom (aF:Nat)
 | name (aF:Nat)
def aeY:aH:=[108,101,116]
def tIf:aH:=[105,102]
def L8:aH:=[97,115,115,101,114,116]
def YK:aH:=[105,110]
def Ke:aH:=[116,104,101,110]
def Kg:aH:=[101,108,115,101]
def Oa:aH:=[116,114,117,101]
def L9:aH:=[102,97,108,115,101]
def ada:aH:=[110,111,116]
def adb:aH:=[114,101,115]
def mq (ah:List Tok)(a:Int × aN):List Int × aN :=
 if bG ah a.2 [[46]]=true then ([a.1,(aD ah a.2).1,(bC ah 1 (aD ah a.2).2).1],(bC ah 1 (aD ah a.2).2).2) else ([a.1],a.2)
def run (ah:List Tok)(depth:Nat):Nat->Task->aN->Option (Int × aN)
 | 0,_,_=>none
 | g+1,.expr aF,st0 =>
  if (aV ah depth aF st0).fE≠0 then some (0,aV ah depth aF st0)
  else if (aV ah depth aF st0).aC=true then run ah depth g (.formula aF) (aV ah depth aF st0)
  else if bG ah (aV ah depth aF st0) [aeY]=true then
   (run ah depth g (.expr (aF+1)) (aM ah [[61]] (bC ah 1 (aD ah (aV ah depth aF st0)).2).2).2).bind λd =>
    (run ah depth g (.expr (aF+1)) (aM ah [YK] d.2).2).bind λf =>
     some (bM 7 [(aD ah (aV ah depth aF st0)).1,(bC ah 1 (aD ah (aV ah depth aF st0)).2).1,(aM ah [[61]] (bC ah 1 (aD ah (aV ah depth aF st0)).2).2).1,d.1,(aM ah [YK] d.2).1,f.1] f.2)
  else if bG ah (aV ah depth aF st0) [tIf]=true then
   (run ah depth g (.expr (aF+1)) (aD ah (aV ah depth aF st0)).2).bind λb =>
    (run ah depth g (.expr (aF+1)) (aM ah [Ke] b.2).2).bind λd =>
     (run ah depth g (.expr (aF+1)) (aM ah [Kg] d.2).2).bind λf =>
      some (bM 8 [(aD ah (aV ah depth aF st0)).1,b.1,(aM ah [Ke] b.2).1,d.1,(aM ah [Kg] d.2).1,f.1] f.2)
  else if bG ah (aV ah depth aF st0) [L8]=true then
   (run ah depth g (.expr (aF+1)) (aD ah (aV ah depth aF st0)).2).bind λb =>
    (run ah depth g (.expr (aF+1)) (aM ah [YK] b.2).2).bind λd =>
     some (bM 9 [(aD ah (aV ah depth aF st0)).1,b.1,(aM ah [YK] b.2).1,d.1] d.2)
  else run ah depth g (.formula aF) (aV ah depth aF st0)
 | g+1,.formula aF,st0 =>
  (run ah depth g (.row 0 aF) st0).bind λa =>
   if a.2.fE=0/\bG ah a.2 [[61,62]]=true then
    if (aV ah depth (aF+1) (aD ah a.2).2).fE≠0 then some (0,aV ah depth (aF+1) (aD ah a.2).2)
    else (run ah depth g (.formula (aF+1)) (aV ah depth (aF+1) (aD ah a.2).2)).bind λb=>some (bM 10 [a.1,(aD ah a.2).1,b.1] b.2)
   else some a
 | g+1,.part l aF,st=>if l=1 then run ah depth g (.neg aF) st else if l=4 then run ah depth g (.factor aF) st else run ah depth g (.row (l+1) aF) st
 | g+1,.row l aF,st=>(run ah depth g (.part l aF) st).bind λa=>run ah depth g (.loop l aF a.1) a.2
 | g+1,.loop l aF a,st =>
  if st.fE=0/\bG ah st (zL l)=true then
   (run ah depth g (.part l aF) (aD ah st).2).bind λb =>
    if l=2 then some (bM 10 [a,(aD ah st).1,b.1] b.2)
    else run ah depth g (.loop l aF (bM 10 [a,(aD ah st).1,b.1] b.2).1) (bM 10 [a,(aD ah st).1,b.1] b.2).2
  else some (a,st)
 | g+1,.neg aF,st =>
  if st.fE=0/\bG ah st [ada]=true then
   if (aV ah depth (aF+1) (aD ah st).2).fE≠0 then some (0,aV ah depth (aF+1) (aD ah st).2)
   else (run ah depth g (.neg (aF+1)) (aV ah depth (aF+1) (aD ah st).2)).bind λb=>some (bM 11 [(aD ah st).1,b.1] b.2)
  else run ah depth g (.row 2 aF) st
 | g+1,.factor aF,st =>
  if st.fE=0/\bG ah st [[45]]=true then
   if (aV ah depth (aF+1) (aD ah st).2).fE≠0 then some (0,aV ah depth (aF+1) (aD ah st).2)
   else (run ah depth g (.factor (aF+1)) (aV ah depth (aF+1) (aD ah st).2)).bind λb=>some (bM 11 [(aD ah st).1,b.1] b.2)
  else run ah depth g (.atom aF) st
 | g+1,.atom aF,st =>
  if st.fE≠0 then some (0,st)
  else if (dh ah st.used).kind=3 then some (bM 15 [(aD ah st).1] (aD ah st).2)
  else if bG ah st [Oa,L9]=true then some (bM 16 [(aD ah st).1] (aD ah st).2)
  else if st.aC=true/\bG ah st [adb]=true then some (bM 17 [(aD ah st).1] (aD ah st).2)
  else if bG ah st [[40]]=true then
   (run ah depth g (.expr (aF+1)) (aD ah st).2).bind λb =>
    some (bM 12 [(aD ah st).1,b.1,(aM ah [[41]] b.2).1] (aM ah [[41]] b.2).2)
  else if (dh ah st.used).kind=1 then run ah depth g (.name aF) st
  else some (0,gT ah 22 st)
 | g+1,.name aF,st =>
  if (aD ah st).2.aC=true\/bG ah (aD ah st).2 [[46],[40]]=false then some (bM 14 [(aD ah st).1] (aD ah st).2)
  else
   (jH ah (λs=>run ah depth g (.expr (aF+1)) s) (aM ah [[40]] (mq ah (aD ah st)).2).2).bind λl =>
    some (bM 13 ((mq ah (aD ah st)).1++[(aM ah [[40]] (mq ah (aD ah st)).2).1]++l.1++[(aM ah [[41]] l.2).1]) (aM ah [[41]] l.2).2)
def kT:aN:=⟨[],0,false,0,0⟩
def aeZ (ah:List Tok)(depth g:Nat):Option aN :=
 (run ah depth g (.expr 1) { kT with aC:=true }).bind λa=>some (bM 18 [a.1,(bC ah 5 a.2).1] (bC ah 5 a.2).2).2
def dR (a b:aN):Prop:=a.used<=b.used/\(a.fE≠0->b.fE=a.fE)/\b.aC=a.aC/\a.aj.length<=b.aj.length
theorem dR.refl (a:aN):dR a a:=⟨bI _,λ_=>rfl,rfl,bI _⟩
theorem dR.trans {a b c:aN}(h:dR a b)(k:dR b c):dR a c :=
 ⟨iY h.1 k.1,λq=>by have h1:=h.2.1 q;rw[k.2.1 (by rw[h1];exact q),h1],k.2.2.1.trans h.2.2.1,iY h.2.2.2 k.2.2.2⟩
theorem dR.zero {a b:aN}(h:dR a b)(hb:b.fE=0):a.fE=0:=by
 apply LY
 intro q;exact q (by rw[<- h.2.1 q];exact hb)
theorem rH (ah:List Tok)(e:Nat)(st:aN):dR st (gT ah e st):=by
 unfold gT
 split
 ·rename_i h;exact⟨bI _,λq=>absurd h q,rfl,bI _⟩
 ·exact dR.refl _
theorem aQ (ah:List Tok)(st:aN):dR st (aD ah st).2:=by
 unfold aD
 split
 ·exact dR.refl _
 ·exact⟨Nat.le_succ _,λ_=>rfl,rfl,by simp⟩
theorem Y4 (k:Int)(l:List Int)(st:aN):dR st (JH k l st).2:=by
 unfold JH
 split
 ·exact dR.refl _
 ·exact⟨bI _,λ_=>rfl,rfl,by simp⟩
theorem aI (k:Int)(l:List Int)(st:aN):dR st (bM k l st).2:=by
 unfold bM
 split
 ·exact Y4 _ _ _
 ·exact dR.refl _
theorem aK (ah:List Tok)(l:List aH)(st:aN):dR st (aM ah l st).2:=by
 unfold aM
 split
 ·exact aQ _ _
 ·exact rH _ _ _
theorem eu (ah:List Tok)(k:Nat)(st:aN):dR st (bC ah k st).2:=by
 unfold bC
 split
 ·exact aQ _ _
 ·exact rH _ _ _
theorem fH (ah:List Tok)(d n:Nat)(st:aN):dR st (aV ah d n st):=by
 unfold aV
 split
 ·exact rH _ _ _
 ·exact dR.refl _
theorem Cu (ah:List Tok)(a:Int × aN):dR a.2 (mq ah a).2:=by
 unfold mq
 split
 ·exact(aQ _ _).trans (eu _ _ _)
 ·exact dR.refl _
theorem lZ (ah:List Tok)(one:aN->Option (Int × aN))(h1:∀ s k,one s=some k->dR s k.2):∀ (r:Nat) (aA:List Int) (st:aN) (l:List Int × aN),bD ah one r aA st=some l->dR st l.2
 | 0,aA,st,l,h=>by
  rw[bD] at h
  injection h with h
  subst h;show dR st (if st.fE=0 then gT ah 15 st else st)
  split
  ·exact rH _ _ _
  ·exact dR.refl _
 | r+1,aA,st,l,h=>by
  rw[bD] at h
  split at h
  ·injection h with h;subst h;exact dR.refl _
  ·obtain⟨k,hk,h⟩:=bS h
   have:=h1 _ _ hk
   split at h
   ·exact(this.trans (aQ _ _)).trans (lZ ah one h1 r _ _ _ h)
   ·injection h with h;subst h;exact this
theorem kN (ah:List Tok)(one:aN->Option (Int × aN))(h1:∀ s k,one s=some k->dR s k.2)(st:aN)(l:List Int × aN)(h:jH ah one st=some l):dR st l.2:=by
 unfold jH at h
 split at h
 ·injection h with h;subst h;exact dR.refl _
 ·exact lZ ah one h1 _ _ _ _ h
theorem aW (ah:List Tok)(depth:Nat):∀ (g:Nat) (t:Task) (st:aN) (r:Int × aN),run ah depth g t st=some r->dR st r.2
 | 0,_,_,_,h=>by rw[run] at h;cases h
 | g+1,.expr aF,st,r,h=>by
  have ih:=aW ah depth g;rw[run] at h;have hd:=fH ah depth aF st;generalize aV ah depth aF st=s at h hd
  split at h
  ·injection h with h;subst h;exact hd
  split at h
  ·exact hd.trans (ih _ _ _ h)
  split at h
  ·obtain⟨d,h1,h⟩:=bS h
   obtain⟨f,h2,h⟩:=bS h
   injection h with h;subst h
   exact(((((hd.trans (aQ _ _)).trans (eu _ _ _)).trans (aK _ _ _)).trans (ih _ _ _ h1)).trans (aK _ _ _)).trans ((ih _ _ _ h2).trans (aI _ _ _))
  split at h
  ·obtain⟨b,h1,h⟩:=bS h
   obtain⟨d,h2,h⟩:=bS h;obtain⟨f,h3,h⟩:=bS h
   injection h with h;subst h
   exact(((((hd.trans (aQ _ _)).trans (ih _ _ _ h1)).trans (aK _ _ _)).trans (ih _ _ _ h2)).trans (aK _ _ _)).trans ((ih _ _ _ h3).trans (aI _ _ _))
  split at h
  ·obtain⟨b,h1,h⟩:=bS h
   obtain⟨d,h2,h⟩:=bS h
   injection h with h;subst h
   exact(((hd.trans (aQ _ _)).trans (ih _ _ _ h1)).trans (aK _ _ _)).trans ((ih _ _ _ h2).trans (aI _ _ _))
  ·exact hd.trans (ih _ _ _ h)
 | g+1,.formula aF,st,r,h=>by
  have ih:=aW ah depth g;rw[run] at h;obtain⟨a,h1,h⟩:=bS h;have ha:=ih _ _ _ h1
  split at h
  ·have hd:=(ha.trans (aQ ah a.2)).trans (fH ah depth (aF+1) _)
   split at h
   ·injection h with h;subst h;exact hd
   ·obtain⟨b,h2,h⟩:=bS h
    injection h with h;subst h
    exact(hd.trans (ih _ _ _ h2)).trans (aI _ _ _)
  ·injection h with h;subst h;exact ha
 | g+1,.part l aF,st,r,h=>by
  have ih:=aW ah depth g;rw[run] at h
  split at h
  ·exact ih _ _ _ h
  ·split at h
   ·exact ih _ _ _ h
   ·exact ih _ _ _ h
 | g+1,.row l aF,st,r,h=>by
  have ih:=aW ah depth g;rw[run] at h;obtain⟨a,h1,h⟩:=bS h;exact(ih _ _ _ h1).trans (ih _ _ _ h)
 | g+1,.loop l aF a,st,r,h=>by
  have ih:=aW ah depth g;rw[run] at h
  split at h
  ·obtain⟨b,h1,h⟩:=bS h
   have hb:=((aQ ah st).trans (ih _ _ _ h1)).trans (aI 10 [a,(aD ah st).1,b.1] _)
   split at h
   ·injection h with h;subst h;exact hb
   ·exact hb.trans (ih _ _ _ h)
  ·injection h with h;subst h;exact dR.refl _
 | g+1,.neg aF,st,r,h=>by
  have ih:=aW ah depth g;rw[run] at h
  split at h
  ·have hd:=(aQ ah st).trans (fH ah depth (aF+1) _)
   split at h
   ·injection h with h;subst h;exact hd
   ·obtain⟨b,h2,h⟩:=bS h
    injection h with h;subst h
    exact(hd.trans (ih _ _ _ h2)).trans (aI _ _ _)
  ·exact ih _ _ _ h
 | g+1,.factor aF,st,r,h=>by
  have ih:=aW ah depth g;rw[run] at h
  split at h
  ·have hd:=(aQ ah st).trans (fH ah depth (aF+1) _)
   split at h
   ·injection h with h;subst h;exact hd
   ·obtain⟨b,h2,h⟩:=bS h
    injection h with h;subst h
    exact(hd.trans (ih _ _ _ h2)).trans (aI _ _ _)
  ·exact ih _ _ _ h
 | g+1,.atom aF,st,r,h=>by
  have ih:=aW ah depth g;rw[run] at h
  split at h
  ·injection h with h;subst h;exact dR.refl _
  split at h
  ·injection h with h;subst h;exact(aQ _ _).trans (aI _ _ _)
  split at h
  ·injection h with h;subst h;exact(aQ _ _).trans (aI _ _ _)
  split at h
  ·injection h with h;subst h;exact(aQ _ _).trans (aI _ _ _)
  split at h
  ·obtain⟨b,h1,h⟩:=bS h
   injection h with h;subst h
   exact(((aQ _ _).trans (ih _ _ _ h1)).trans (aK _ _ _)).trans (aI _ _ _)
  split at h
  ·exact ih _ _ _ h
  ·injection h with h;subst h;exact rH _ _ _
 | g+1,.name aF,st,r,h=>by
  have ih:=aW ah depth g;rw[run] at h
  split at h
  ·injection h with h;subst h;exact(aQ _ _).trans (aI _ _ _)
  ·obtain⟨l,h1,h⟩:=bS h
   injection h with h;subst h
   exact((((aQ _ _).trans (Cu _ _)).trans (aK _ _ _)).trans (kN ah _ (λs k hk=>ih _ _ _ hk) _ _ h1)).trans ((aK _ _ _).trans (aI _ _ _))
def iV (ah:List Tok):Prop:=(dh ah ah.length).kind=5
theorem iV.pos {ah:List Tok}(h:iV ah):0<ah.length:=by
 cases ah with
 | nil=>cases h
 | cons t l=>simp
theorem iV.before {ah:List Tok}(h:iV ah){u:Nat}(hu:(dh ah u).kind≠5):u+1<ah.length:=by
 apply LY
 intro q
 apply hu
 have hp:=h.pos;rw[iV] at h;unfold dh at h |-;rw[show min u (ah.length - 1)=min ah.length (ah.length - 1) by omega];exact h
theorem bO {ah:List Tok}{st:aN}{l:List aH}(h:bG ah st l=true):(dh ah st.used).kind≠5:=by
 simp only[bG,qM,Bool.or_eq_true,beq_iff_eq] at h;omega
theorem RG {ah:List Tok}{st:aN}(h:st.used+1<ah.length):aD ah st=(((st.aj.length:Nat):Int),{ st with aj:=st.aj++[⟨19,(st.used:Nat),[]⟩],used:=st.used+1 }):=by
 unfold aD;rw[aP (by omega)]
theorem kP {ah:List Tok}(hE:iV ah){st:aN}(h:(dh ah st.used).kind≠5):(aD ah st).2.used=st.used+1/\st.used+1<ah.length:=by
 have:=hE.before h;rw[RG this];exact⟨rfl,this⟩
def kH:Task->Nat
 | .expr _=>18
 | .formula _=>17
 | .row l _=>if l<=1 then 16 - 2 * l else 15 - 2 * l
 | .part l _=>if l<=1 then 15 - 2 * l else 14 - 2 * l
 | .neg _=>12
 | .factor _=>5
 | .atom _=>4
 | .name _=>3
 | .loop _ _ _=>1
def okT (ah:List Tok)(st:aN):Task->Prop
 | .row l _=>l<=4
 | .part l _=>l<=4
 | .loop l _ _=>l<=4
 | .name _=>st.used<ah.length
 | _=>True
def fQ (ah:List Tok)(t:Task)(st:aN):Nat:=20 * (ah.length - st.used)+kH t
theorem iH {ah:List Tok}{e:Nat}(he:e≠0)(st:aN):(gT ah e st).fE≠0:=by
 unfold gT
 split
 ·exact he
 ·assumption
theorem V9 {ah:List Tok}(hE:iV ah)(l:List aH)(st:aN):st.used+1<=(aM ah l st).2.used\/(aM ah l st).2.fE≠0:=by
 unfold aM
 split
 ·rename_i h
  have:=(kP hE (bO h.2)).1;exact .inl (by rw[this];exact bI _)
 ·exact .inr (iH (by decide) st)
theorem rU (ah:List Tok)(one:aN->Option (Int × aN))(base:Nat)(h1:∀ s,base<=s.used->∃ k,one s=some k/\dR s k.2):∀ (r:Nat) (aA:List Int) (st:aN),base<=st.used\/st.fE≠0->∃ l,bD ah one r aA st=some l
 | 0,aA,st,_=>⟨_,rfl⟩
 | r+1,aA,st,hb=>by
  rw[bD]
  split
  ·exact⟨_,rfl⟩
  ·rename_i hf
   obtain⟨k,hk,hx⟩:=h1 st (hb.resolve_right hf);rw[hk];simp only[ko]
   split
   ·exact rU ah one base h1 r _ _ (.inl (iY (hb.resolve_right hf) (iY hx.1 (aQ ah k.2).1)))
   ·exact⟨_,rfl⟩
theorem kQ (ah:List Tok)(depth:Nat)(hE:iV ah):∀ (g:Nat) (t:Task) (st:aN),okT ah st t->fQ ah t st<=g->∃ r,run ah depth g t st=some r
 | 0,t,st,_,h=>by
  exfalso
  have:1<=kH t:=by
   cases t<;>simp only[kH]<;>first|omega|(simp only[okT] at *;split<;>omega)
  unfold fQ at h;omega
 | g+1,.expr aF,st,_,h=>by
  have ih:=kQ ah depth hE g;rw[run];have hd:=fH ah depth aF st;generalize aV ah depth aF st=s at hd;have hu:=hd.1;simp only[fQ,kH] at h
  split
  ·exact⟨_,rfl⟩
  split
  ·exact ih _ _ trivial (by simp only[fQ,kH];omega)
  split
  ·rename_i hn
   obtain⟨e1,e2⟩:=kP hE (bO hn);have x1:=(eu ah 1 (aD ah s).2).1;have x2:=(aK ah [[61]] (bC ah 1 (aD ah s).2).2).1;obtain⟨d,hd1⟩:=ih (.expr (aF+1)) (aM ah [[61]] (bC ah 1 (aD ah s).2).2).2 trivial (by simp only[fQ,kH];omega);have x3:=(aW ah depth g _ _ _ hd1).1;have x4:=(aK ah [YK] d.2).1;obtain⟨f,hf⟩:=ih (.expr (aF+1)) (aM ah [YK] d.2).2 trivial (by simp only[fQ,kH];omega);rw[hd1,ko,hf,ko];exact⟨_,rfl⟩
  split
  ·rename_i hn
   obtain⟨e1,e2⟩:=kP hE (bO hn);obtain⟨b,hb⟩:=ih (.expr (aF+1)) (aD ah s).2 trivial (by simp only[fQ,kH];omega);have x3:=(aW ah depth g _ _ _ hb).1;have x4:=(aK ah [Ke] b.2).1;obtain⟨d,hd1⟩:=ih (.expr (aF+1)) (aM ah [Ke] b.2).2 trivial (by simp only[fQ,kH];omega);have x5:=(aW ah depth g _ _ _ hd1).1;have x6:=(aK ah [Kg] d.2).1;obtain⟨f,hf⟩:=ih (.expr (aF+1)) (aM ah [Kg] d.2).2 trivial (by simp only[fQ,kH];omega);rw[hb,ko,hd1,ko,hf,ko];exact⟨_,rfl⟩
  split
  ·rename_i hn
   obtain⟨e1,e2⟩:=kP hE (bO hn);obtain⟨b,hb⟩:=ih (.expr (aF+1)) (aD ah s).2 trivial (by simp only[fQ,kH];omega);have x3:=(aW ah depth g _ _ _ hb).1;have x4:=(aK ah [YK] b.2).1;obtain⟨d,hd1⟩:=ih (.expr (aF+1)) (aM ah [YK] b.2).2 trivial (by simp only[fQ,kH];omega);rw[hb,ko,hd1,ko];exact⟨_,rfl⟩
  ·exact ih _ _ trivial (by simp only[fQ,kH];omega)
 | g+1,.formula aF,st,_,h=>by
  have ih:=kQ ah depth hE g;rw[run];simp only[fQ,kH] at h;obtain⟨a,ha⟩:=ih (.row 0 aF) st (by simp[okT]) (by simp only[fQ,kH];simp;omega);have x1:=(aW ah depth g _ _ _ ha).1;rw[ha,ko]
  split
  ·rename_i hn
   obtain⟨e1,e2⟩:=kP hE (bO hn.2);have x2:=(fH ah depth (aF+1) (aD ah a.2).2).1
   split
   ·exact⟨_,rfl⟩
   ·obtain⟨b,hb⟩:=ih (.formula (aF+1)) (aV ah depth (aF+1) (aD ah a.2).2) trivial (by simp only[fQ,kH];omega)
    rw[hb,ko];exact⟨_,rfl⟩
  ·exact⟨_,rfl⟩
 | g+1,.part l aF,st,hl,h=>by
  have ih:=kQ ah depth hE g;rw[run];simp only[fQ,kH] at h;simp only[okT] at hl
  split
  ·rename_i h1;subst h1
   exact ih _ _ trivial (by simp only[fQ,kH];simp at h;omega)
  ·split
   ·rename_i h4;subst h4
    exact ih _ _ trivial (by simp only[fQ,kH];simp at h;omega)
   ·refine ih _ _ (by simp only[okT];omega) ?_
    simp only[fQ,kH]
    split at h
    ·obtain rfl:l=0:=by omega
     simp;omega
    ·rw[aP (by omega)];omega
 | g+1,.row l aF,st,hl,h=>by
  have ih:=kQ ah depth hE g;rw[run];simp only[fQ,kH] at h;simp only[okT] at hl;obtain⟨a,ha⟩:=ih (.part l aF) st hl (by simp only[fQ,kH];split at h<;>split<;>omega);have x1:=(aW ah depth g _ _ _ ha).1;rw[ha,ko];refine ih _ _ hl ?_;simp only[fQ,kH]
  split at h<;>omega
 | g+1,.loop l aF a,st,hl,h=>by
  have ih:=kQ ah depth hE g;rw[run];simp only[fQ,kH] at h;simp only[okT] at hl
  split
  ·rename_i hn
   obtain⟨e1,e2⟩:=kP hE (bO hn.2);obtain⟨b,hb⟩:=ih (.part l aF) (aD ah st).2 hl (by simp only[fQ,kH];split<;>omega);have x1:=(aW ah depth g _ _ _ hb).1;have x2:=(aI 10 [a,(aD ah st).1,b.1] b.2).1;rw[hb,ko]
   split
   ·exact⟨_,rfl⟩
   ·exact ih _ _ hl (by simp only[fQ,kH];omega)
  ·exact⟨_,rfl⟩
 | g+1,.neg aF,st,_,h=>by
  have ih:=kQ ah depth hE g;rw[run];simp only[fQ,kH] at h
  split
  ·rename_i hn
   obtain⟨e1,e2⟩:=kP hE (bO hn.2);have x2:=(fH ah depth (aF+1) (aD ah st).2).1
   split
   ·exact⟨_,rfl⟩
   ·obtain⟨b,hb⟩:=ih (.neg (aF+1)) (aV ah depth (aF+1) (aD ah st).2) trivial (by simp only[fQ,kH];omega)
    rw[hb,ko];exact⟨_,rfl⟩
  ·exact ih _ _ (by simp[okT]) (by simp only[fQ,kH];simp;omega)
 | g+1,.factor aF,st,_,h=>by
  have ih:=kQ ah depth hE g;rw[run];simp only[fQ,kH] at h
  split
  ·rename_i hn
   obtain⟨e1,e2⟩:=kP hE (bO hn.2);have x2:=(fH ah depth (aF+1) (aD ah st).2).1
   split
   ·exact⟨_,rfl⟩
   ·obtain⟨b,hb⟩:=ih (.factor (aF+1)) (aV ah depth (aF+1) (aD ah st).2) trivial (by simp only[fQ,kH];omega)
    rw[hb,ko];exact⟨_,rfl⟩
  ·exact ih _ _ trivial (by simp only[fQ,kH];omega)
 | g+1,.atom aF,st,_,h=>by
  have ih:=kQ ah depth hE g;rw[run];simp only[fQ,kH] at h
  split
  ·exact⟨_,rfl⟩
  split
  ·exact⟨_,rfl⟩
  split
  ·exact⟨_,rfl⟩
  split
  ·exact⟨_,rfl⟩
  split
  ·rename_i hn
   obtain⟨e1,e2⟩:=kP hE (bO hn);obtain⟨b,hb⟩:=ih (.expr (aF+1)) (aD ah st).2 trivial (by simp only[fQ,kH];omega);rw[hb,ko];exact⟨_,rfl⟩
  split
  ·rename_i hk
   have:=hE.before (u:=st.used) (by omega);exact ih _ _ (by simp only[okT];omega) (by simp only[fQ,kH];omega)
  ·exact⟨_,rfl⟩
 | g+1,.name aF,st,hl0,h=>by
  have ih:=kQ ah depth hE g;rw[run];simp only[fQ,kH] at h
  split
  ·exact⟨_,rfl⟩
  ·have x1:=(aQ ah st).1
   have x2:=(Cu ah (aD ah st)).1;have x3:=V9 hE [[40]] (mq ah (aD ah st)).2;generalize (aM ah [[40]] (mq ah (aD ah st)).2)=b at x3
   have hl:∃ l,jH ah (λs=>run ah depth g (.expr (aF+1)) s) b.2=some l:=by
    unfold jH
    split
    ·exact⟨_,rfl⟩
    ·refine rU ah _ (st.used+1) (λs hs=>?_) _ _ _ (x3.imp (by omega) id)
     have hlt:st.used<ah.length:=hl0;obtain⟨k,hk⟩:=ih (.expr (aF+1)) s trivial (by simp only[fQ,kH];omega);exact⟨k,hk,aW ah depth g _ _ _ hk⟩
   obtain⟨l,hl⟩:=hl;rw[hl,ko];exact⟨_,rfl⟩
inductive PT where
 | leaf
 | node (k:Nat) (l:List PT)
mutual
def PT.lv:PT->Nat
 | .leaf=>1
 | .node _ l=>cO l
def cO:List PT->Nat
 | []=>0
 | t :: l=>t.lv+cO l
end
mutual
def PT.nd:PT->Nat
 | .leaf=>1
 | .node _ l=>fC l+1
def fC:List PT->Nat
 | []=>0
 | t :: l=>t.nd+fC l
end
def dJ (b:Nat):List PT->List Int
 | []=>[]
 | t :: l=>(((b+t.nd:Nat):Int) - 1) :: dJ (b+t.nd) l
mutual
def PT.em (b u:Nat):PT->List Nd
 | .leaf=>[⟨19,(u:Nat),[]⟩]
 | .node k l=>AV b u l++[⟨k,-1,dJ b l⟩]
def AV (b u:Nat):List PT->List Nd
 | []=>[]
 | t :: l=>t.em b u++AV (b+t.nd) (u+t.lv) l
end
theorem jA:∀ (l k:List PT),cO (l++k)=cO l+cO k
 | [],k=>by simp[cO]
 | t :: l,k=>by simp only[kF,cO,jA l k];omega
theorem pI:∀ (l k:List PT),fC (l++k)=fC l+fC k
 | [],k=>by simp[fC]
 | t :: l,k=>by simp only[kF,fC,pI l k];omega
theorem qA:∀ (b:Nat) (l k:List PT),dJ b (l++k)=dJ b l++dJ (b+fC l) k
 | b,[],k=>by simp[dJ,fC]
 | b,t :: l,k=>by simp only[kF,dJ,qA _ l k,fC];rw[wU]
theorem FJ:∀ (b u:Nat) (l k:List PT),AV b u (l++k)=AV b u l++AV (b+fC l) (u+cO l) k
 | b,u,[],k=>by simp[AV,fC,cO]
 | b,u,t :: l,k=>by simp only[kF,AV,FJ _ _ l k,fC,cO,om];rw[wU,wU]
mutual
theorem PT.vO (b u:Nat):∀ (t:PT),(t.em b u).length=t.nd
 | .leaf=>by simp[PT.em,PT.nd]
 | .node k l=>by simp[PT.em,PT.nd,AX b u l]
theorem AX (b u:Nat):∀ (l:List PT),(AV b u l).length=fC l
 | []=>by simp[AV,fC]
 | t :: l=>by rw[AV,fC,bQ,PT.vO b u t,AX _ _ l]
end
theorem PT.iI (t:PT):0<t.nd:=by cases t<;>simp[PT.nd]
theorem zM:∀ (b:Nat) (l:List PT) (k:Int),k∈dJ b l->(b:Int)<=k/\k<((b+fC l:Nat):Int)
 | _,[],k,h=>by cases h
 | b,t :: l,k,h=>by
  have hp:=t.iI;rw[dJ,oo] at h;rw[fC]
  rcases h with rfl|h
  ·omega
  ·have:=zM _ l k h
   omega
def fK (st:aN)(l:List PT)(st':aN):Prop:=st'={ st with aj:=st.aj++AV st.aj.length st.used l,used:=st.used+cO l }
theorem fK.nil (st:aN):fK st [] st:=by simp[fK,AV,cO]
theorem fK.append {a b c:aN}{l k:List PT}(h:fK a l b)(h2:fK b k c):fK a (l++k) c:=by
 rw[fK] at h h2 |-;rw[h2,h];simp only[bQ,AX,FJ,jA,om,wU]
theorem fK.len {a b:aN}{l:List PT}(h:fK a l b):b.aj.length=a.aj.length+fC l:=by rw[h];simp[AX]
theorem fK.used {a b:aN}{l:List PT}(h:fK a l b):b.used=a.used+cO l:=by rw[h]
theorem fK.aC {a b:aN}{l:List PT}(h:fK a l b):b.aC=a.aC:=by rw[h]
theorem fK.fE {a b:aN}{l:List PT}(h:fK a l b):b.fE=a.fE:=by rw[h]
theorem fK.leaf {ah:List Tok}{st:aN}(h:st.used+1<=ah.length):fK st [.leaf] (aD ah st).2/\(aD ah st).1=((st.aj.length:Nat):Int):=by
 unfold aD;rw[aP (by omega)];exact⟨by simp[fK,AV,PT.em,cO,PT.lv],rfl⟩
theorem fK.node {a b:aN}{l:List PT}(h:fK a l b)(hf:b.fE=0)(k:Nat):fK a [.node k l] (bM k (dJ a.aj.length l) b).2/\(bM k (dJ a.aj.length l) b).1=((a.aj.length+fC l:Nat):Int):=by
 have hlen:=h.len;unfold bM;rw[bq hf];unfold JH;rw[aP]
 ·refine⟨?_,by rw[hlen]⟩
  rw[fK] at h |-;rw[h];simp[AV,PT.em,cO,PT.lv]
 ·intro q
  obtain⟨x,hx,hy⟩:=List.any_eq_true.1 q;have:=zM _ _ _ hx;simp only[Bool.or_eq_true,uK] at hy;omega
inductive CE where
 | num|truth|res|Cr
 | group (e:CE)
 | un (e:CE)
 | bin (a b:CE)
 | iff (a b c:CE)
 | sZ (a b:CE)
 | tq (a b:CE)
 | call (q:Bool) (l:List CE)
mutual
def CE.pt:CE->PT
 | .num=>.node 15 [.leaf]
 | .truth=>.node 16 [.leaf]
 | .res=>.node 17 [.leaf]
 | .Cr=>.node 14 [.leaf]
 | .group e=>.node 12 [.leaf,e.pt,.leaf]
 | .un e=>.node 11 [.leaf,e.pt]
 | .bin a b=>.node 10 [a.pt,.leaf,b.pt]
 | .iff a b c=>.node 8 [.leaf,a.pt,.leaf,b.pt,.leaf,c.pt]
 | .sZ a b=>.node 7 [.leaf,.leaf,.leaf,a.pt,.leaf,b.pt]
 | .tq a b=>.node 9 [.leaf,a.pt,.leaf,b.pt]
 | .call q l=>.node 13 ((if q then [.leaf,.leaf,.leaf] else [.leaf])++[.leaf]++fO l++[.leaf])
def fO:List CE->List PT
 | []=>[]
 | e :: l=>e.pt :: (match l with | []=>[]|_ :: _=>.leaf :: fO l)
end
theorem vP (e:CE):fO [e]=[e.pt]:=by simp[fO]
theorem pJ (e f:CE)(l:List CE):fO (e :: f :: l)=e.pt :: .leaf :: fO (f :: l):=by
 conv=>lhs;rw[fO]
def aJ (ah:List Tok)(u:Nat):aH:=(dh ah u).text
def gq (ah:List Tok)(u:Nat):Nat:=(dh ah u).kind
def rV:List aH:=[[43],[45],[42],[47],[37],[61],[60,62],[60],[60,61],[62],[62,61],[38,38],[124,124],[61,62]]
mutual
def CE.ok (ah:List Tok)(cl:Bool)(u:Nat):CE->Prop
 | .num=>gq ah u=3
 | .truth=>aJ ah u=Oa\/aJ ah u=L9
 | .res=>cl=true/\aJ ah u=adb
 | .Cr=>gq ah u=1
 | .group e=>aJ ah u=[40]/\e.ok ah cl (u+1)
 | .un e=>(aJ ah u=ada\/aJ ah u=[45])/\e.ok ah cl (u+1)
 | .bin a b=>aJ ah (u+a.pt.lv)∈rV/\a.ok ah cl u/\b.ok ah cl (u+a.pt.lv+1)
 | .iff a b c=>cl=false/\a.ok ah cl (u+1)/\b.ok ah cl (u+1+a.pt.lv+1)/\c.ok ah cl (u+1+a.pt.lv+1+b.pt.lv+1)
 | .sZ a b=>cl=false/\gq ah (u+1)=1/\a.ok ah cl (u+3)/\b.ok ah cl (u+3+a.pt.lv+1)
 | .tq a b=>cl=false/\a.ok ah cl (u+1)/\b.ok ah cl (u+1+a.pt.lv+1)
 | .call q l=>cl=false/\gq ah u=1/\l.length<=8/\(if q then aJ ah (u+1)=[46]/\gq ah (u+2)=1/\mF ah cl (u+4) l else aJ ah (u+1)=[40]/\mF ah cl (u+2) l)
def mF (ah:List Tok)(cl:Bool)(u:Nat):List CE->Prop
 | []=>True
 | e :: l=>e.ok ah cl u/\mF ah cl (u+e.pt.lv+1) l
end
def YL (ah:List Tok)(st:aN)(r:Int × aN)(e:CE):Prop :=
 fK st [e.pt] r.2/\r.1=((st.aj.length+e.pt.nd:Nat):Int) - 1/\e.ok ah st.aC st.used/\(st.used<ah.length->r.2.used<ah.length)
def jK (nt i:Nat)(n:Nd):Bool :=
 if n.kind<1\/19<n.kind then false
 else if n.kind=19 then decide (n.aA.length=0) && (decide (0<=n.tok) && decide (n.tok<nt))
 else decide (n.tok=-1) && !(n.aA.any λk=>decide (k<0) || decide ((i:Int)<=k))
def AY:List Bool->List Int->Option (List Bool)
 | l6,[]=>some l6
 | l6,k :: ks=>if l6.getD k.toNat false=true then none else AY (l6.set k.toNat true) ks
def oq (nt:Nat):Nat->List Nd->List Bool->Option (List Bool)
 | _,[],l6=>some l6
 | i,n :: l,l6=>if jK nt i n=true then (AY l6 n.aA).bind (oq nt (i+1) l) else none
def gG (aj:List Nd):Nat->List Int->List Int->Option (List Int)
 | 0,_,_=>none
 | _+1,[],out=>some out
 | g+1,i :: rest,out =>
  if i<0 then none
  else match aj[i.toNat]? with
   | none=>none
   | some x=>if x.kind=19 then gG aj g rest (out++[x.tok]) else if 549755813888<(x.aA++rest).length then none else gG aj g (x.aA++rest) out
def qw:Nat->List Int->Bool
 | _,[]=>true
 | i,k :: l=>decide ((i:Int)=k) && qw (i+1) l
def rW (nt:Nat)(aj:List Nd):Option (List Bool):=oq nt 0 aj (List.replicate aj.length false)
def mW (nt:Nat)(aj:List Nd)(l:List Int):Bool :=
 match rW nt aj with
 | none=>false
 | some l6=>!(decide (l6.length=0)) && !((l6.take (aj.length - 1)).contains false) && qw 0 l && decide (l.length=nt)
def iw (n:Nat):aH:=if h:n<10 then [UInt8.ofNat (48+n)] else iw (n / 10)++[UInt8.ofNat (48+n % 10)]
decreasing_by omega
def qB (t:Tok):aH:=(if t.kind=5 then [36] else [])++t.text
def ou (f:Int->Option aH):List Int->Option aH
 | []=>some []
 | k :: ks=>(f k).bind λa=>(ou f ks).bind λb=>some ([32]++a++b)
def wJ (ah:List Tok)(aj:List Nd):Nat->Int->Option aH
 | 0,_=>none
 | g+1,n =>
  if n<0 then none
  else match aj[n.toNat]? with
   | none=>none
   | some x =>
    if x.kind=19 then (if x.tok<0 then none else (ah[x.tok.toNat]?).map qB)
    else (ou (wJ ah aj g) x.aA).map λb=>[40]++iw x.kind.toNat++b++[41]
mutual
def PT.dump (ah:List Tok)(u:Nat):PT->aH
 | .leaf=>qB (dh ah u)
 | .node k l=>[40]++iw k++DU ah u l++[41]
def DU (ah:List Tok)(u:Nat):List PT->aH
 | []=>[]
 | t :: l=>[32]++t.dump ah u++DU ah (u+t.lv) l
end
mutual
def pK (aj:List Nd)(n:Int)(u:Nat):PT->Prop
 | .leaf=>0<=n/\aj[n.toNat]?=some ⟨19,(u:Nat),[]⟩
 | .node k l=>∃ ks,0<=n/\aj[n.toNat]?=some ⟨k,-1,ks⟩/\fT aj ks u l
def fT (aj:List Nd)(ks:List Int)(u:Nat):List PT->Prop
 | []=>ks=[]
 | t :: l=>∃ k ks',ks=k :: ks'/\pK aj k u t/\fT aj ks' (u+t.lv) l
end
mutual
theorem pK.more {aj more:List Nd}:∀ {t:PT} {n:Int} {u:Nat},pK aj n u t->pK (aj++more) n u t
 | .leaf,n,u,h=>by
  rw[pK] at h |-;exact⟨h.1,by rw[List.getElem?_append_left (qm h.2).1];exact h.2⟩
 | .node k l,n,u,h=>by
  rw[pK] at h |-;obtain⟨ks,h0,h1,h2⟩:=h;exact⟨ks,h0,by rw[List.getElem?_append_left (qm h1).1];exact h1,fT.more h2⟩
theorem fT.more {aj more:List Nd}:∀ {l:List PT} {ks:List Int} {u:Nat},fT aj ks u l->fT (aj++more) ks u l
 | [],ks,u,h=>by rw[fT] at h |-;exact h
 | t :: l,ks,u,h=>by
  rw[fT] at h |-;obtain⟨k,ks',e,h1,h2⟩:=h;exact⟨k,ks',e,pK.more h1,fT.more h2⟩
end
mutual
theorem pK.em {pre:List Nd}:∀ (t:PT) (b u:Nat),pre.length=b->pK (pre++t.em b u) (((b+t.nd:Nat):Int) - 1) u t
 | .leaf,b,u,hb=>by
  rw[pK,PT.em,PT.nd];refine⟨by omega,?_⟩;rw[show ((((b+1:Nat):Int) - 1).toNat)=pre.length by omega]
  simp
 | .node k l,b,u,hb=>by
  have hl:=fT.em (pre:=pre) l b u hb
  have hn:(pre++AV b u l).length=b+fC l:=by rw[bQ,AX,hb]
  rw[pK,PT.em,PT.nd,<- om];refine⟨dJ b l,by omega,?_,hl.more⟩;rw[show ((((b+(fC l+1):Nat):Int) - 1).toNat)=(pre++AV b u l).length by omega]
  simp
theorem fT.em {pre:List Nd}:∀ (l:List PT) (b u:Nat),pre.length=b->fT (pre++AV b u l) (dJ b l) u l
 | [],b,u,hb=>by rw[fT,dJ]
 | t :: l,b,u,hb=>by
  have h1:=pK.em (pre:=pre) t b u hb;have h2:=fT.em (pre:=pre++t.em b u) l (b+t.nd) (u+t.lv) (by rw[bQ,PT.vO,hb]);rw[fT,AV,dJ];refine⟨_,_,rfl,?_,?_⟩
  ·rw[<- om];exact h1.more
  ·rw[<- om];exact h2
end
mutual
def PT.wf:PT->Prop
 | .leaf=>True
 | .node k l=>1<=k/\k<=18/\nY l
def nY:List PT->Prop
 | []=>True
 | t :: l=>t.wf/\nY l
end
def xw (u n:Nat):List Int:=(List.range' u n).map λ(k:Nat)=>(k:Int)
theorem Y5 (u n m:Nat):xw u (n+m)=xw u n++xw (u+n) m:=by
 unfold xw;rw[<- zJ,<- List.range'_append_1]
theorem AZ {aj:List Nd}:∀ {l:List PT} {ks:List Int} {u:Nat},fT aj ks u l->ks.length=l.length/\ks.length<=fC l
 | [],ks,u,h=>by rw[fT] at h;subst h;exact⟨rfl,by simp⟩
 | t :: l,ks,u,h=>by
  rw[fT] at h;obtain⟨k,ks',rfl,_,h2⟩:=h;obtain⟨a,b⟩:=AZ h2;have:=t.iI;rw[fC];simp only[dN];omega
mutual
theorem FL {aj:List Nd}:∀ (t:PT) (n:Int) (u g:Nat) (rest out:List Int),pK aj n u t->t.wf->rest.length+t.nd<=549755813888->gG aj (g+t.nd) (n :: rest) out=gG aj g rest (out++xw u t.lv)
 | .leaf,n,u,g,rest,out,h,_,_=>by
  rw[pK] at h;rw[PT.nd,gG,aP (by omega),h.2,PT.lv];simp only[if_true]
  rfl
 | .node k l,n,u,g,rest,out,h,hw,hs=>by
  rw[pK] at h;obtain⟨ks,h0,h1,h2⟩:=h;rw[PT.wf] at hw;obtain⟨e1,e2⟩:=AZ h2;rw[PT.nd] at hs;rw[PT.nd,<- wU,gG,aP (by omega),h1,PT.lv];simp only;rw[aP (by omega),aP (by rw[bQ];omega)];exact DW l ks u g rest out h2 hw.2.2 (by omega)
theorem DW {aj:List Nd}:∀ (l:List PT) (ks:List Int) (u g:Nat) (rest out:List Int),fT aj ks u l->nY l->rest.length+fC l<=549755813888->gG aj (g+fC l) (ks++rest) out=gG aj g rest (out++xw u (cO l))
 | [],ks,u,g,rest,out,h,_,_=>by
  rw[fT] at h;subst h;simp[fC,cO,xw]
 | t :: l,ks,u,g,rest,out,h,hw,hs=>by
  rw[fT] at h;obtain⟨k,ks',rfl,h1,h2⟩:=h;rw[nY] at hw;rw[fC] at hs;have hp:=t.iI;have hk:=(AZ h2).2;rw[fC,cO,Y5,kF,show g+(t.nd+fC l)=(g+fC l)+t.nd by omega,FL t k u _ _ _ h1 hw.1 (by rw[bQ];omega),DW l ks' _ g rest _ h2 hw.2 (by omega),om]
end
mutual
theorem Ob {ah:List Tok}{aj:List Nd}:∀ (t:PT) (n:Int) (u g:Nat),pK aj n u t->t.wf->u+t.lv<=ah.length->wJ ah aj (g+t.nd) n=some (t.dump ah u)
 | .leaf,n,u,g,h,_,hl=>by
  rw[pK] at h;rw[PT.lv] at hl;rw[PT.nd,wJ,aP (by omega),h.2,PT.dump];simp only[if_true];rw[aP (by omega),Int.toNat_natCast,dh,Nat.min_eq_left (by omega),AB (by omega),Fb,AB (by omega)]
  rfl
 | .node k l,n,u,g,h,hw,hl=>by
  rw[pK] at h;obtain⟨ks,h0,h1,h2⟩:=h;rw[PT.wf] at hw;rw[PT.lv] at hl;rw[PT.nd,<- wU,wJ,aP (by omega),h1,PT.dump];simp only;rw[aP (by omega),Kh l ks u g h2 hw.2.2 hl]
  simp
theorem Kh {ah:List Tok}{aj:List Nd}:∀ (l:List PT) (ks:List Int) (u g:Nat),fT aj ks u l->nY l->u+cO l<=ah.length->ou (wJ ah aj (g+fC l)) ks=some (DU ah u l)
 | [],ks,u,g,h,_,_=>by
  rw[fT] at h;subst h;rw[ou,DU]
 | t :: l,ks,u,g,h,hw,hl=>by
  rw[fT] at h;obtain⟨k,ks',rfl,h1,h2⟩:=h;rw[nY] at hw;rw[cO] at hl;have e1:=Ob (ah:=ah) t k u (g+fC l) h1 hw.1 (by omega);have e2:=Kh (ah:=ah) l ks' (u+t.lv) (g+t.nd) h2 hw.2 (by omega);rw[show g+fC l+t.nd=g+fC (t :: l) by rw[fC];omega] at e1;rw[show g+t.nd+fC l=g+fC (t :: l) by rw[fC];omega] at e2;rw[ou,e1,ko,e2,ko,DU]
end
def FM:List PT->List Bool
 | []=>[]
 | t :: l=>List.replicate (t.nd - 1) true++[false]++FM l
theorem Oc:∀ (l:List PT) (A R:List Bool) (b:Nat),A.length=b->AY (A++FM l++R) (dJ b l)=some (A++List.replicate (fC l) true++R)
 | [],A,R,b,_=>by simp[FM,dJ,AY,fC]
 | t :: l,A,R,b,hA=>by
  have hp:=t.iI
  have e:(((b+t.nd:Nat):Int) - 1).toNat=(A++List.replicate (t.nd - 1) true).length:=by simp;omega
  rw[dJ,AY,e,FM]
  have e2:A++(List.replicate (t.nd - 1) true++[false]++FM l)++R=(A++List.replicate (t.nd - 1) true)++false :: (FM l++R):=by simp
  rw[e2,aP (by simp),List.set_append_right _ _ (bI _),Nat.sub_self,List.set_cons_zero];have ih:=Oc l (A++List.replicate (t.nd - 1) true++[true]) R (b+t.nd) (by simp;omega)
  have e3:A++List.replicate (t.nd - 1) true++[true]++FM l++R=A++List.replicate (t.nd - 1) true++true :: (FM l++R):=by simp
  rw[e3] at ih;rw[ih,fC]
  have e4:List.replicate (t.nd - 1) true++[true]=List.replicate t.nd true:=by
   conv=>rhs;rw[show t.nd=(t.nd - 1)+1 by omega,List.replicate_succ']
  congr 1
  rw[om A,e4,<- List.replicate_append_replicate,om,om,om,om]
theorem ade (b:Nat)(l:List PT):(dJ b l).any (λk=>decide (k<0) || decide (((b+fC l:Nat):Int)<=k))=false:=by
 rw[<- wT,List.any_eq_true];rintro⟨x,hx,hy⟩;have:=zM _ _ _ hx;simp only[Bool.or_eq_true,uK] at hy;omega
mutual
theorem Od (nt:Nat):∀ (t:PT) (b u:Nat) (A:List Bool) (m:Nat) (more:List Nd),t.wf->A.length=b->u+t.lv<=nt ->
  oq nt b (t.em b u++more) (A++List.replicate (t.nd+m) false)=oq nt (b+t.nd) more (A++List.replicate (t.nd - 1) true++[false]++List.replicate m false)
 | .leaf,b,u,A,m,more,_,_,hu=>by
  rw[PT.lv] at hu;rw[PT.em,PT.nd,kF,qW,oq,bq]
  ·rw[AY,ko,Nat.add_comm 1 m,List.replicate_succ]
   simp
  ·simp[jK]
   omega
 | .node k l,b,u,A,m,more,hw,hA,hu=>by
  rw[PT.wf] at hw;rw[PT.lv] at hu;have h:=Kj nt l b u A (1+m) ([⟨k,-1,dJ b l⟩]++more) hw.2.2 hA hu;rw[PT.em,PT.nd,om,show fC l+1+m=fC l+(1+m) by omega,h,kF,qW,oq,bq]
  ·rw[Oc l A _ b hA,ko,Nat.add_comm 1 m,List.replicate_succ]
   simp[wU]
  ·unfold jK
   rw[aP (by simp only;omega),aP (by simp only;omega)];simp only[ade]
   rfl
theorem Kj (nt:Nat):∀ (l:List PT) (b u:Nat) (A:List Bool) (m:Nat) (more:List Nd),nY l->A.length=b->u+cO l<=nt ->
  oq nt b (AV b u l++more) (A++List.replicate (fC l+m) false)=oq nt (b+fC l) more (A++FM l++List.replicate m false)
 | [],b,u,A,m,more,_,_,_=>by simp[AV,fC,FM]
 | t :: l,b,u,A,m,more,hw,hA,hu=>by
  rw[nY] at hw;rw[cO] at hu;have hp:=t.iI;have h1:=Od nt t b u A (fC l+m) (AV (b+t.nd) (u+t.lv) l++more) hw.1 hA (by omega);have h2:=Kj nt l (b+t.nd) (u+t.lv) (A++List.replicate (t.nd - 1) true++[false]) m more hw.2 (by simp;omega) (by omega);rw[AV,fC,om,wU,h1,h2,FM,wU]
  simp
end
theorem A8:∀ (n u:Nat),qw u (xw u n)=true
 | 0,u=>by simp[xw,qw]
 | n+1,u=>by
  have h:=A8 n (u+1);simp only[xw,List.range'_succ,mE,qw] at h |-;simp[h]
theorem Y6 (t:PT)(hw:t.wf)(nt:Nat)(h:t.lv=nt):mW nt (t.em 0 0) (xw 0 nt)=true:=by
 have hp:=t.iI;have h1:=Od nt t 0 0 [] 0 [] hw rfl (by omega);rw[List.append_nil,qW,qp,oq] at h1
 have h2:rW nt (t.em 0 0)=some (List.replicate (t.nd - 1) true++[false]):=by
  rw[rW,PT.vO,h1];simp
 unfold mW;rw[h2];simp only[PT.vO,A8,Bool.and_true];rw[abk (by simp),DL (by simp)]
 have h3:(List.replicate (t.nd - 1) true).contains false=false:=by
  rw[<- wT,List.contains_iff_mem,List.mem_replicate]
  simp
 rw[h3];simp[xw]
theorem Wh (t:PT)(hw:t.wf)(h:t.nd<=549755813888):gG (t.em 0 0) (t.nd+1) [((t.nd:Nat):Int) - 1] []=some (xw 0 t.lv):=by
 have hr:=pK.em (pre:=[]) t 0 0 rfl;rw[qW,Nat.zero_add] at hr;rw[Nat.add_comm,FL t _ 0 1 [] [] hr hw (by simpa using h),gG,qW]
theorem adf (ah:List Tok)(t:PT)(hw:t.wf)(h:t.lv<=ah.length):wJ ah (t.em 0 0) t.nd (((t.nd:Nat):Int) - 1)=some (t.dump ah 0):=by
 have hr:=pK.em (pre:=[]) t 0 0 rfl;rw[qW,Nat.zero_add] at hr;have:=Ob (ah:=ah) t _ 0 0 hr hw (by omega);rw[Nat.zero_add] at this;exact this
mutual
theorem CE.wf:∀ e:CE,e.pt.wf
 | .num=>by simp[CE.pt,PT.wf,nY]
 | .truth=>by simp[CE.pt,PT.wf,nY]
 | .res=>by simp[CE.pt,PT.wf,nY]
 | .Cr=>by simp[CE.pt,PT.wf,nY]
 | .group e=>by simp[CE.pt,PT.wf,nY,CE.wf e]
 | .un e=>by simp[CE.pt,PT.wf,nY,CE.wf e]
 | .bin a b=>by simp[CE.pt,PT.wf,nY,CE.wf a,CE.wf b]
 | .iff a b c=>by simp[CE.pt,PT.wf,nY,CE.wf a,CE.wf b,CE.wf c]
 | .sZ a b=>by simp[CE.pt,PT.wf,nY,CE.wf a,CE.wf b]
 | .tq a b=>by simp[CE.pt,PT.wf,nY,CE.wf a,CE.wf b]
 | .call q l=>by
  have h:=Y7 l
  have e:∀ (a b:List PT),nY a->nY b->nY (a++b):=λa b ha hb=>by
   induction a with
   | nil=>exact hb
   | cons x a ih=>rw[nY] at ha;rw[kF,nY];exact⟨ha.1,ih ha.2⟩
  rw[CE.pt,PT.wf];refine⟨by omega,by omega,e _ _ (e _ _ (e _ _ ?_ (by simp[nY,PT.wf])) h) (by simp[nY,PT.wf])⟩
  cases q<;>simp[nY,PT.wf]
theorem Y7:∀ l:List CE,nY (fO l)
 | []=>by simp[fO,nY]
 | [e]=>by simp[fO,nY,CE.wf e]
 | e :: f :: l=>by
  rw[pJ,nY,nY];exact⟨CE.wf e,by simp[PT.wf],Y7 (f :: l)⟩
end
def jk:List Nat->Nat
 | []=>0
 | d :: l=>d+4294967296 * jk l
def dK:List Nat->List Nat
 | []=>[]
 | d :: l=>if dK l=[]/\d=0 then [] else d :: dK l
theorem yF:∀ l,jk (dK l)=jk l
 | []=>rfl
 | d :: l=>by
  rw[dK]
  split
  ·rename_i h
   have:=yF l;rw[h.1] at this;rw[jk,jk,<- this,h.2]
   rfl
  ·rw[jk,yF l,jk]
theorem zN:∀ l,jk l=0->dK l=[]
 | [],_=>rfl
 | d :: l,h=>by
  rw[jk] at h;rw[dK,bq ⟨zN l (by omega),by omega⟩]
theorem Kk:∀ l,(dK l).length<=l.length
 | []=>bI _
 | d :: l=>by
  have:=Kk l;rw[dK]
  split<;>simp
  exact this
theorem Cv:∀ (l:List Nat) (x:Nat),x∈dK l->x∈l
 | [],x,h=>h
 | d :: l,x,h=>by
  rw[dK] at h
  split at h
  ·cases h
  ·rcases oo.1 h with rfl|h
   ·exact xq
   ·exact xu _ (Cv l x h)
theorem zO:∀ l,dK (dK l)=dK l
 | []=>rfl
 | d :: l=>by
  rw[dK]
  split
  ·rfl
  ·rename_i h
   rw[dK,zO l,aP h]
theorem yG {l:List Nat}(h:dK l=l)(hl:l≠[]):0<jk l:=by
 apply Nat.pos_of_ne_zero
 intro q;exact hl (by rw[<- h,zN l q])
theorem vQ:∀ (l:List Nat),∃ n,n<=l.length/\dK l=l.take n/\(∀ j,n<=j->(h:j<l.length)->l[j]=0)/\(∀ j,j+1=n->(h:j<l.length)->l[j]≠0)
 | []=>⟨0,bI _,rfl,λj _ h=>absurd h (by simp),λj h=>by omega⟩
 | d :: l=>by
  obtain⟨n,h1,h2,h3,h4⟩:=vQ l;rw[dK]
  split
  ·rename_i h
   have hn:n=0\/l=[]:=by
    have:(l.take n).length=0:=by rw[<- h2,h.1];rfl
    rw[qX] at this
    rcases Nat.eq_zero_or_pos n with q|q
    ·exact .inl q
    ·exact .inr (List.length_eq_zero_iff.1 (by omega))
   refine⟨0,mD _,rfl,λj _ hj=>?_,λj hj=>by omega⟩
   cases j with
   | zero=>exact h.2
   | succ j =>
    simp only[dN] at hj
    rcases hn with q|q
    ·simpa using h3 j (by omega) (by omega)
    ·subst q;simp at hj
  ·rename_i h
   refine⟨n+1,by simpa using h1,by rw[h2,List.take_succ_cons],λj hj hl=>?_,λj hj hl=>?_⟩
   ·cases j with
    | zero=>omega
    | succ j=>simpa using h3 j (by omega) (by simpa using hl)
   ·cases j with
    | zero =>
     obtain rfl:n=0:=by omega
     intro q;exact h ⟨by rw[h2];rfl,q⟩
    | succ j=>simpa using h4 j (by omega) (by simpa using hl)
def gu (Ma:Nat):List Nat->Nat->List Nat
 | [],more=>[more % 4294967296]
 | d :: l,more=>(more+d * Ma) % 4294967296 :: gu Ma l ((more+d * Ma) / 4294967296)
theorem lI (b:Nat):∀ (l:List Nat) (m:Nat),(gu b l m).length=l.length+1
 | [],_=>rfl
 | d :: l,m=>by rw[gu,dN,lI b l,dN]
theorem Kl (b:Nat):∀ (l:List Nat) (m x:Nat),x∈gu b l m->x<4294967296
 | [],m,x,h=>by rw[gu,DN] at h;omega
 | d :: l,m,x,h=>by
  rw[gu] at h
  rcases oo.1 h with rfl|h
  ·omega
  ·exact Kl b l _ x h
theorem Oe {b m:Nat}(hd:d<4294967296)(hb:b<=1000000000)(hm:m<=1000000000):m+d * b<=4294967295000000000+1000000000/\(m+d * b) / 4294967296<=1000000000:=by
 have h1:d * b<=4294967295 * 1000000000:=Nat.mul_le_mul (by omega) hb;omega
theorem FN (b:Nat)(hb:b<=1000000000):∀ (l:List Nat) (m:Nat),(∀ x∈l,x<4294967296)->m<=1000000000->jk (gu b l m)=jk l * b+m
 | [],m,_,hm=>by
  rw[gu,jk,jk,jk,Nat.mod_eq_of_lt (by omega)];omega
 | d :: l,m,hl,hm=>by
  have hc:=Oe (hl d xq) hb hm;have ih:=FN b hb l _ (λx hx=>hl x (xu _ hx)) hc.2;rw[gu,jk,ih,jk];have:=Nat.div_add_mod (m+d * b) 4294967296;generalize (m+d * b) / 4294967296=q at *;generalize (m+d * b) % 4294967296=r at *
  have e:(d+4294967296 * jk l) * b+m=m+d * b+4294967296 * (jk l * b):=by
   rw[Nat.add_mul,Nat.mul_assoc];omega
  rw[e,<- this];omega
theorem FP {α:Type}{P:List α->Prop}(h0:P [])(h1:∀ (l:List α) (c:α),P l->P (l++[c]))(l:List α):P l:=by
 have h:∀ (r:List α),P r.reverse:=λr=>by
  induction r with
  | nil=>exact h0
  | cons c r ih=>rw[List.reverse_cons];exact h1 _ _ ih
 have:=h l.reverse
 rwa [List.reverse_reverse] at this
def jR (l:aH):Nat:=l.foldl (λa c=>a * 10+(c.toNat - 48)) 0
theorem uO (l:aH)(c:UInt8):jR (l++[c])=jR l * 10+(c.toNat - 48):=by
 unfold jR;rw[List.foldl_append];rfl
theorem Og:∀ (b a:aH),jR (a++b)=jR a * 10 ^ b.length+jR b:=by
 refine FP ?_ ?_
 ·intro a;simp[jR]
 ·intro b c ih a
  rw[<- om,uO,ih,uO,bQ,List.length_singleton,Nat.pow_succ,Nat.add_mul,<- Nat.mul_assoc,wU]
def gH (l:aH):Bool:=l.all λc=>decide (48<=c.toNat) && decide (c.toNat<=57)
theorem Fg:∀ (l:aH),gH l=true->jR l<10 ^ l.length:=by
 refine FP ?_ ?_
 ·intro _;decide
 ·intro l c ih h
  rw[gH,List.all_append,qM] at h;have h1:=ih h.1;have h2:=h.2;simp only[List.all_cons,List.all_nil,Bool.and_true,qM,uK] at h2;rw[uO,bQ,List.length_singleton,Nat.pow_succ];omega
theorem adg {n:Nat}(h:n<=9):10 ^ n<=1000000000:=Nat.pow_le_pow_right (by omega) h
def bL (b:Nat):List Nat->List Nat × Nat
 | []=>([],0)
 | d :: l=>(((bL b l).2 * 4294967296+d) / b :: (bL b l).1,((bL b l).2 * 4294967296+d) % b)
theorem FQ (b:Nat):∀ l,(bL b l).1.length=l.length
 | []=>rfl
 | d :: l=>by rw[bL,dN,FQ b l,dN]
theorem tH (b:Nat)(hb:0<b):∀ l,(bL b l).2<b
 | []=>hb
 | _d :: _l=>Nat.mod_lt _ hb
theorem FR (b:Nat):∀ l,jk l=jk (bL b l).1 * b+(bL b l).2
 | []=>by simp[bL,jk]
 | d :: l=>by
  rw[bL];simp only;have ih:=FR b l;have:=Nat.div_add_mod ((bL b l).2 * 4294967296+d) b;rw[jk,jk,ih];generalize ((bL b l).2 * 4294967296+d) / b=q at *;generalize ((bL b l).2 * 4294967296+d) % b=r at *;generalize jk (bL b l).1=M at *;generalize (bL b l).2=s at *;rw[Nat.add_mul,Nat.mul_assoc,Nat.mul_comm q b];omega
theorem Km (b:Nat)(hb:0<b):∀ l,(∀ x∈l,x<4294967296)->∀ x∈(bL b l).1,x<4294967296
 | [],_,x,h=>by cases h
 | d :: l,hl,x,h=>by
  rw[bL] at h;simp only at h
  rcases oo.1 h with rfl|h
  ·have h1:=tH b hb l
   have h2:=hl d xq;rw[Nat.div_lt_iff_lt_mul hb];have:((bL b l).2+1) * 4294967296<=b * 4294967296:=Nat.mul_le_mul_right _ h1;rw[Nat.mul_comm 4294967296 b];omega
  ·exact Km b hb l (λx hx=>hl x (xu _ hx)) x h
def lg:Nat->Nat->aH
 | 0,_=>[]
 | k+1,n=>UInt8.ofNat (48+n % 10) :: lg k (n / 10)
theorem A9:∀ (k j n:Nat),lg (k+j) n=lg k n++lg j (n / 10 ^ k)
 | 0,j,n=>by simp[lg]
 | k+1,j,n=>by
  rw[show k+1+j=(k+j)+1 by omega,lg,lg,A9 k j,kF,Nat.div_div_eq_div_mul,<- Nat.pow_succ']
theorem Kn (k n:Nat):lg (k+1) n=lg k n++[UInt8.ofNat (48+n / 10 ^ k % 10)]:=by
 rw[A9 k 1];rfl
theorem Oh:∀ (k j n:Nat),k<=j->lg k (n % 10 ^ j)=lg k n
 | 0,_,_,_=>rfl
 | k+1,0,_,h=>absurd h (by omega)
 | k+1,j+1,n,h=>by
  have e1:n % 10 ^ (j+1) % 10=n % 10:=Nat.mod_mod_of_dvd _ ⟨10 ^ j,by rw[Nat.pow_succ,Nat.mul_comm]⟩
  have e2:n % 10 ^ (j+1) / 10=n / 10 % 10 ^ j:=by
   rw[Nat.pow_succ,Nat.mul_comm,Nat.mod_mul_right_div_self]
  rw[lg,lg,e1,e2,Oh k j _ (by omega)]
theorem Ko:∀ k,lg k 0=List.replicate k 48
 | 0=>rfl
 | k+1=>by rw[lg,Nat.zero_div,Ko k,List.replicate_succ];rfl
theorem Y8 (n:Nat):∃ k,iw n=(lg (k+1) n).reverse/\n<10 ^ (k+1)/\(n=0->k=0)/\(0<n->10 ^ k<=n):=by
 induction n using Nat.strongRecOn with
 | _ n ih =>
  rw[iw]
  split
  ·rename_i h
   refine⟨0,?_,by omega,λ_=>rfl,λh=>by omega⟩;rw[lg,lg,Nat.mod_eq_of_lt h]
   rfl
  ·rename_i h
   obtain⟨k,h1,h2,h3,h4⟩:=ih (n / 10) (by omega);refine⟨k+1,?_,?_,λq=>by omega,λ_=>?_⟩
   ·rw[lg,List.reverse_cons,h1]
   ·rw[Nat.pow_succ];omega
   ·have:=h4 (by omega)
    rw[Nat.pow_succ];omega
def Ba (l:aH):aH:=(l.reverse.dropWhile (· == 48)).reverse
theorem RH (h:d<10):(UInt8.ofNat (48+d)).toNat=48+d:=by
 rw[UInt8.toNat_ofNat'];omega
theorem Y9 (n k:Nat)(h0:0<n)(hk:n<10 ^ k):(Ba (lg k n)).reverse=iw n:=by
 obtain⟨j,h1,h2,_,h4⟩:=Y8 n
 have hj:j+1<=k:=by
  have:=h4 h0
  have h5:10 ^ j<10 ^ k:=by omega
  have:=(Nat.pow_lt_pow_iff_right (by omega:1<10)).1 h5;omega
 rw[Ba,List.reverse_reverse,h1]
 have e:lg k n=lg (j+1) n++List.replicate (k - (j+1)) 48:=by
  conv=>lhs;rw[show k=(j+1)+(k - (j+1)) by omega,A9,Nat.div_eq_of_lt h2,Ko]
 rw[e,List.reverse_append,List.reverse_replicate]
 have e2:∀ (m:Nat) (l:aH),(List.replicate m (48:UInt8)++l).dropWhile (· == 48)=l.dropWhile (· == 48):=λm l=>by
  induction m with
  | zero=>simp
  | succ m ih=>rw[List.replicate_succ,kF,List.dropWhile_cons_of_pos (by decide),ih]
 rw[e2,Kn,List.reverse_append,List.reverse_singleton,List.singleton_append,List.dropWhile_cons_of_neg];have h6:0<n / 10 ^ j:=Nat.div_pos (h4 h0) (Nat.pow_pos (by omega))
 have h7:n / 10 ^ j<10:=by rw[Nat.div_lt_iff_lt_mul (Nat.pow_pos (by omega)),Nat.mul_comm,<- Nat.pow_succ];exact h2
 rw[Nat.mod_eq_of_lt h7];intro q;have:=congrArg UInt8.toNat (eq_of_beq q);rw[RH h7] at this;simp at this;omega
theorem Za:∀ (l:aH),gH l=true->l≠[]->(l.head?=some 48->l.length=1)->iw (jR l)=l:=by
 refine FP ?_ ?_
 ·intro _ h;exact absurd rfl h
 ·intro l c ih hd _ hh
  rw[gH,List.all_append,qM] at hd;have hc:=hd.2;simp only[List.all_cons,List.all_nil,Bool.and_true,qM,uK] at hc
  have e:UInt8.ofNat (48+(c.toNat - 48))=c:=by
   rw[show 48+(c.toNat - 48)=c.toNat by omega];exact UInt8.ofNat_toNat
  rw[uO,iw]
  by_cases hl:l=[]
  ·subst hl
   have:jR []=0:=rfl;rw[this,dif_pos (by omega),Nat.zero_mul,Nat.zero_add,e]
   rfl
  ·have hne:l.head?≠some 48:=λq=>by
    have:=hh (by rw[List.head?_append,q];rfl);rw[bQ,List.length_singleton] at this;exact hl (List.length_eq_zero_iff.1 (by omega))
   have ih':=ih hd.1 hl (λq=>absurd q hne)
   have hpos:0<jR l:=by
    apply Nat.pos_of_ne_zero
    intro q;rw[q] at ih'
    have:l=[48]:=by rw[<- ih'];rw[iw];simp
    exact hne (by rw[this];rfl)
   rw[dif_neg (by omega),show (jR l * 10+(c.toNat - 48)) / 10=jR l by omega,show (jR l * 10+(c.toNat - 48)) % 10=c.toNat - 48 by omega,ih',e]
