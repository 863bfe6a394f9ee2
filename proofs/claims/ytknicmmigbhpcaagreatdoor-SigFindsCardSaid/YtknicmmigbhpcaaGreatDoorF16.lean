/- Walks and plain laws: BytesRev, IntPlain, SizeL, AtsL, IntW, ShowB, Pieces. -/
import Derived.Lib.UnsafeStr
import Derived.Shelf.RegionOpen
import Derived.Lib.ItoaNum
import Derived.Lib.TrimByte
import Derived.Maps.AppendAt
import Derived.RangeFuncBox
import Derived.Test.YtknicmmigbhpcaaGreatDoorF15
import Derived.Lib.SlicesMore
set_option maxHeartbeats 16000000
set_option maxRecDepth 100000
set_option linter.unusedVariables false
set_option linter.unusedSimpArgs false
namespace Go.Proofs.YtknicmmigbhpcaaGreatDoor
open Go.RowKit Go
def YE (bk:Nat)(l:List UInt8)(rest:List Value)(fr:Nat × Nat)(w:World)(e:Ending)(w':World):Prop :=
 e=.returned (.tuple #[])∧w'.heap[bk]?=some (.cells (Lib.byteCells l.reverse++rest).toArray 5 fr)∧w'.heap.size=w.heap.size∧(∀ q,q≠bk→w'.heap[q]?=w.heap[q]?)∧Below bk w w'
theorem FH (w:World):w.drew.heap=w.heap:=rfl
theorem Nf {α:Type}:∀ (M:List α),2≤M.length→∃ x N y,M=x :: (N++[y])
 | [],h=>absurd h (by simp)
 | [x],h=>absurd h (by simp)
 | x :: y :: l,_=>⟨x,(y :: l).dropLast,(y :: l).getLast (by simp),by rw[List.dropLast_concat_getLast]⟩
theorem Rb {α:Type}(A N C:List α)(x y:α):((A++(x :: (N++y :: C))).set A.length y).set (A.length+N.length+1) x=A++(y :: (N++x :: C)):=by
 rw[List.set_append_right _ _ (Nat.le_refl _),Nat.sub_self,List.set_cons_zero,List.set_append_right _ _ (by omega),show A.length+N.length+1 - A.length=N.length+1 by omega,List.set_cons_succ,List.set_append_right _ _ (Nat.le_refl _),Nat.sub_self,List.set_cons_zero]
theorem zT (w:World)(b i:Nat)(cs:Array Value)(T:TypeId)(fr:Nat × Nat)(v:Value)(hb:w.heap[b]?=some (.cells cs T fr)) :
  (w.setCell ⟨b,i,none⟩ v).heap[b]?=some (.cells (cs.setIfInBounds i v) T fr):=by
 simp[World.setCell,Array.getElem?_modify,hb]
theorem Kg (bk cap:Nat)(l:List UInt8)(rest:List Value)(fr:Nat × Nat)(w:World)(h:w.heap[bk]?=some (.cells (Lib.byteCells l++rest).toArray 5 fr))(hf:l.length≤fr.1)(hn:l.length≤1099511627776) :
  Calls Tryz.prog 119 #[.slice (some ⟨bk,0,none⟩) l.length cap] w (YE bk l rest fr w):=by
 go_enter Tryz.func119,Tryz.ntmps119;go_wp2
 go_loopg [2,3] l.length (fun k s2 s3 wr=>∃ (A M C:List UInt8),s2=.int .i64 (A.length:Nat)∧s3=.int .i64 ((A.length:Int)+(M.length:Int) - 1)∧M.length≤k∧l=C.reverse++M++A.reverse ∧
  wr.heap[bk]?=some (.cells (Lib.byteCells (A++M++C)++rest).toArray 5 fr)∧wr.heap.size=w.heap.size∧(∀ q,q≠bk→wr.heap[q]?=w.heap[q]?)∧Below bk w wr)
 case atStart=>exact⟨[],l,[],rfl,by simp,Nat.le_refl _,by simp,by simpa using h,rfl,fun _ _=>rfl,Below.refl _ _⟩
 case round =>
  obtain⟨A,M,C,rfl,rfl,hk,hl,hh,hsz,hoth,hbl⟩:=hrel
  have hlen:l.length=C.length+M.length+A.length:=by rw[hl];simp;omega
  by_cases hlt:2≤M.length
  ·obtain⟨x,N,y,rfl⟩:=Nf M hlt
   have hI:(A.length:Int)<(A.length:Int)+((x :: (N++[y])).length:Int) - 1:=by simp only[dX] at hlt ⊢;omega
   have hj:(A.length:Int)+((x :: (N++[y])).length:Int) - 1=((A.length+N.length+1:Nat):Int):=by simp;omega
   simp only[dX,bP,List.length_nil] at hlen hk;rw[hj] at hI ⊢
   have e:A++(x :: (N++[y]))++C=A++(x :: (N++y :: C)):=by simp
   rw[e] at hh
   have ci:wr.cell? ⟨bk,A.length,none⟩=some (.int .u8 x.toNat):=by
    rw[Lib.cell_of_heap hh];simp[Lib.byteCells]
   have cj:wr.cell? ⟨bk,A.length+N.length+1,none⟩=some (.int .u8 y.toNat):=by
    rw[Lib.cell_of_heap hh,List.getElem?_toArray,Lib.byteCells,List.map_append,List.append_assoc,List.getElem?_append_right (by simp;omega)];simp only[List.length_map];rw[show A.length+N.length+1 - A.length=N.length+1 by omega,List.map_cons,List.cons_append,List.getElem?_cons_succ,List.map_append,List.append_assoc,List.getElem?_append_right (by simp)]
    simp
   have fi:wr.frozen? ⟨bk,A.length,none⟩=false:=by
    simp[World.frozen?,hh];omega
   have fj:wr.frozen? ⟨bk,A.length+N.length+1,none⟩=false:=by
    simp[World.frozen?,hh];omega
   have h1:=zT wr bk A.length _ _ _ (.int .u8 y.toNat) hh;have h2:=zT _ bk (A.length+N.length+1) _ _ _ (.int .u8 x.toNat) h1;have HL:=ah hl;have HH:=ah hh;have H2:=ah h2;have HO:=ah hoth;clear hj hl hh h1 h2 hoth e;go_wp2_with fail
   go_region
   go_wp2
   go_roundg N.length
   case measure=>omega
   case rel =>
    refine⟨A++[y],N,x :: C,by simp,by simp;omega,Nat.le_refl _,by rw[HL.out];simp,?_,?_,?_,((hbl.setCell (Nat.le_refl _) _).setCell (Nat.le_refl _) _).drew⟩
    ·rw[FH,H2.out]
     have e2:((Lib.byteCells (A++x :: (N++y :: C))++rest).toArray.setIfInBounds A.length (.int .u8 y.toNat)).setIfInBounds (A.length+N.length+1) (.int .u8 x.toNat)=(Lib.byteCells (A++[y]++N++x :: C)++rest).toArray:=by
      have:=Rb (Lib.byteCells A) (Lib.byteCells N) (Lib.byteCells C++rest) (.int .u8 x.toNat) (.int .u8 y.toNat);simp only[Lib.byteCells_length] at this
      apply Array.toList_inj.1
      simp only[Array.toList_setIfInBounds]
      have e3:Lib.byteCells (A++x :: (N++y :: C))++rest=Lib.byteCells A++(.int .u8 x.toNat :: (Lib.byteCells N++.int .u8 y.toNat :: (Lib.byteCells C++rest))):=by simp[Lib.byteCells]
      have e4:Lib.byteCells (A++[y]++N++x :: C)++rest=Lib.byteCells A++(.int .u8 y.toNat :: (Lib.byteCells N++.int .u8 x.toNat :: (Lib.byteCells C++rest))):=by simp[Lib.byteCells]
      rw[e3,e4,this]
     rw[e2]
    ·simpa using hsz
    ·intro q hq
     rw[FH,heap_setCell_other _ _ _ _ hq,heap_setCell_other _ _ _ _ hq];exact HO.out q hq
  ·have hI:decide ((A.length:Int)<(A.length:Int)+(M.length:Int) - 1)=false:=decide_eq_false (by omega)
   have hr:M.reverse=M:=by
    match M,hlt with
    | [],_=>rfl
    | [x],_=>rfl
    | x :: y :: l,h=>exact absurd h (by simp)
   have HR:Hid (A++M++C=l.reverse):=ah (by rw[hl];simp[hr]);have HH:=ah hh;clear hl hh hr;go_wp2
   go_end0
   exact⟨rfl,by rw[← HR.out];exact HH.out,hsz,hoth,hbl⟩
end Go.Proofs.YtknicmmigbhpcaaGreatDoor

namespace Go.Proofs.YtknicmmigbhpcaaGreatDoor
theorem Ng (u:Nat):Lib.decDigits u=fK u:=by
 induction u using Nat.strongRecOn with
 | _ u ih =>
  rw[Lib.decDigits,fK]
  split
  ·rfl
  ·rw[ih (u / 10) (by omega)]
theorem Nh (l:List UInt8):Lib.trimRightB l 48=wS l:=rfl
theorem CB:∀ (ws:List Nat) (n:Nat),bN ws=ws→gM ws<4294967296 ^ n→ws.length≤n
 | [],n,_,_=>Nat.zero_le _
 | d :: l,0,h,hm=>by
  have:=uo h (by simp);simp only[Nat.pow_zero] at hm;omega
 | d :: l,n+1,h,hm=>by
  have hl:bN l=l:=by
   rw[bN] at h
   split at h
   ·cases h
   ·injection h
  have:=CB l n hl (by
   rw[gM,Nat.pow_succ] at hm;generalize 4294967296 ^ n=p at hm ⊢
   omega)
  rw[dX];omega
theorem UQ (n:Int)(k:Nat)(h0:n≠0)(hk:n.natAbs<10 ^ k):(wS (jq k n.natAbs)++(if n<0 then [45] else [])).reverse=iW n:=by
 rw[List.reverse_append,TQ _ _ (by omega) hk,iW]
 split<;>simp
theorem CF:∀ (k n:Nat),(jq k n).length=k
 | 0,_=>rfl
 | k+1,n=>by rw[jq,dX,CF k]
theorem Rc (k n:Nat):jq (k+9) n=jq k n++jq 9 (n / 10 ^ k % 1000000000):=by
 rw[wR k 9,show (1000000000:Nat)=10 ^ 9 from rfl,Jq 9 9 _ (Nat.le_refl _)]
theorem Rf (ws:List Nat)(n k:Nat)(h:gM ws=n / 10 ^ k):gM (bN (aW 1000000000 ws).1)=n / 10 ^ (k+9)∧(aW 1000000000 ws).2=n / 10 ^ k % 1000000000:=by
 have h1:=Bo 1000000000 ws;have h2:=oO 1000000000 (by omega) ws;rw[um,← h]
 have e:n / 10 ^ (k+9)=gM ws / 1000000000:=by
  rw[h,Nat.pow_add,Nat.div_div_eq_div_mul]
 rw[e];omega
theorem UR (l:List UInt8):(wS l).length≤l.length:=by
 rw[wS,List.length_reverse];have:=(List.dropWhile_suffix (l:=l.reverse) (p:=(· == 48))).length_le
 simpa using this
end Go.Proofs.YtknicmmigbhpcaaGreatDoor

namespace Go.Proofs.YtknicmmigbhpcaaGreatDoor
open Go.RowKit Go
mutual
def PE.size:PE→Nat
 | .mk _ _ _ _ _ _ kids _=>1+jT kids
def jT:List PE→Nat
 | []=>0
 | e :: l=>e.size+jT l
end
theorem xJ:∀ (a b:List PE),jT (a++b)=jT a+jT b
 | [],b=>by simp[jT]
 | e :: a,b=>by rw[List.cons_append,jT,jT,xJ a b,Nat.add_assoc]
mutual
theorem PE.YF:∀ e:PE,e.ats.length=e.size
 | .mk _ _ _ _ _ _ kids _=>by rw[PE.ats,PE.size,dX,Kh kids,Nat.add_comm]
theorem Kh:∀ l:List PE,(Yg l).length=jT l
 | []=>rfl
 | e :: l=>by rw[Yg,jT,bP,PE.YF e,Kh l]
end
theorem FI:∀ (l:List PE) (e:PE),e∈l→e.size≤jT l
 | x :: l,e,h=>by
  rw[jT]
  rcases List.mem_cons.1 h with rfl|h
  ·omega
  ·have:=FI l e h
   omega
theorem PE.tq (e:PE):e.size=1+jT e.kids:=by cases e;rfl
theorem FJ:∀ l:List PE,l.length≤jT l
 | []=>Nat.zero_le _
 | e :: l=>by
  have:=FJ l;rw[jT,e.tq,dX];omega
theorem iT (e:PE):∀ x∈e.kids,SizeOf.sizeOf x<SizeOf.sizeOf e:=by
 intro x hx
 cases e with
 | mk op name module num txt yes kids at_ =>
  have:=List.sizeOf_lt_of_mem hx;simp only[PE.mk.sizeOf_spec,PE.kids] at this ⊢;omega
theorem kI.slX {P:Nat→Prop}{w:World}{m k:Value}{x:PE}(h:kI XA P w m k x):∃ am wn cm ae ce,m=.slice am wn cm∧k=.slice ae x.kids.length ce:=by
 obtain⟨Ap,ae,ce,rfl,_,_⟩:=h.form
 obtain⟨ws,hws,_⟩:=(Ap:kN _ _ _ _)
 obtain⟨am,cm,rfl⟩:=hws.form;exact⟨am,_,cm,ae,ce,rfl,rfl⟩
def Hr (l:List UInt8)(w:World)(r:Ending)(w':World):Prop:=r=.returned (.string ⟨l.toArray⟩)∧Below w.heap.size w w'
theorem UU {W:World}{base n:Nat}{e:TypeId}{size:Nat}{v:Value}{xs:List Value}(h:W.ownsRow base e size v n xs)(h0:0<n):∃ g cap,v=.slice (some ⟨g,0,none⟩) n cap:=by
 rcases h.2 with ⟨_,h1⟩|⟨g,cap,_,rfl,_⟩
 ·omega
 ·exact⟨g,cap,rfl⟩
theorem Rh:∀ k:Nat,k<10→∀ h:k<(ByteArray.mk #[48,49,50,51,52,53,54,55,56,57]).size,(ByteArray.mk #[48,49,50,51,52,53,54,55,56,57])[k]'h=UInt8.ofNat (48+k)
 | 0,_=>fun _=>rfl
 | 1,_=>fun _=>rfl
 | 2,_=>fun _=>rfl
 | 3,_=>fun _=>rfl
 | 4,_=>fun _=>rfl
 | 5,_=>fun _=>rfl
 | 6,_=>fun _=>rfl
 | 7,_=>fun _=>rfl
 | 8,_=>fun _=>rfl
 | 9,_=>fun _=>rfl
 | n+10,h=>absurd h (by omega)
theorem Ht (W:World){base g cap n:Nat}{l:List UInt8}(hn:l.length=n)(h:W.ownsRow base 5 1 (.slice (some ⟨g,0,none⟩) n cap) n (Lib.byteCells l)) :
  (convert 151 9 (.slice (some ⟨g,0,none⟩) n cap)).run Tryz.prog W=.ok (.string ⟨l.toArray⟩) W:=by
 subst hn;refine run_convert_bytes_back _ 151 9 5 ⟨g,0,none⟩ cap l Tryz.underlying151 Tryz.underlying5 Tryz.underlying9 (fun j hj=>?_);obtain⟨ao,c,hv,_,hl,hc⟩:=Sl.fF h;obtain⟨b,o,ha,_,hcell⟩:=hc (by omega);simp only[Value.slice.injEq] at hv;rw[ha] at hv;simp only[Option.some.injEq,Addr.mk.injEq] at hv;obtain⟨⟨rfl,rfl,-⟩,-,-⟩:=hv;rw[show Addr.add ⟨g,0,none⟩ j=⟨g,0+j,none⟩ by unfold Addr.add;split<;>simp_all];have:=hcell j (by rw[hl];omega);rw[this];simp[Lib.byteCells]
theorem Wd.append {wr w3:World}{o:Obj}{v v' m:Value}{us:List Nat}{g:Nat}(h:Wd (fun b=>some b≠v.ownBlock) wr m us)(hg:(wr.alloc o).grownBy w3 v.ownBlock)(hat:v.ownBlock=some g∨g=wr.heap.size+1)(hv:v'.ownBlock=some g) :
  Wd (fun b=>some b≠v'.ownBlock) w3 m us:=by
 have h1:Wd (fun b=>some b≠v.ownBlock∧some b≠v'.ownBlock) wr m us:=lS.imp h fun b hb hlt=>⟨hb,fun q=>by
  rw[hv] at q
  rcases hat with e|e
  ·exact hb (by rw[e,q])
  ·injection q;omega⟩
 have h2:Wd (fun b=>some b≠v.ownBlock∧some b≠v'.ownBlock) (wr.alloc o) m us:=lS.frame h1 ⟨by simp,fun b _ hb=>Lib.alloc_old _ _ _ hb⟩
 exact lS.imp (lS.frame h2 (aQ.grown hg fun b hb=>hb.1)) fun b hb _=>hb.2
theorem Ri (b:Bool)(am:Option Addr)(cm:Nat)(w:World) :
  Calls Tryz.prog 71 #[.agg #[.bool b,.slice am 0 cm]] w (Hr [48] w):=by
 go_enter Tryz.func71,Tryz.ntmps71;go_wp2;go_ret;exact⟨rfl,(Below.refl _ _).alloc (Nat.le_refl _) _⟩
theorem Kj (S:ByteArray)(c:Nat):bytesRow S c=(Lib.byteCells S.data.toList++List.replicate (c - S.size) (Value.int .u8 0)).toArray:=by
 apply Array.ext'
 simp[bytesRow,Lib.byteCells]
theorem Ni (W:World){g cap n:Nat}{l:List UInt8}{rest:List Value}{T:TypeId}{fr:Nat × Nat}(hn:l.length=n)(h:W.heap[g]?=some (.cells (Lib.byteCells l++rest).toArray T fr)) :
  (convert 151 9 (.slice (some ⟨g,0,none⟩) n cap)).run Tryz.prog W=.ok (.string ⟨l.toArray⟩) W:=by
 subst hn;refine run_convert_bytes_back _ 151 9 5 ⟨g,0,none⟩ cap l Tryz.underlying151 Tryz.underlying5 Tryz.underlying9 (fun j hj=>?_);rw[show Addr.add ⟨g,0,none⟩ j=⟨g,j,none⟩ by unfold Addr.add;split<;>simp_all,Lib.cell_of_heap h,List.getElem?_toArray,List.getElem?_append_left (by simpa [Lib.byteCells] using hj)];simp[Lib.byteCells,hj]
def ZIn (bx:Array Value)(w:World)(n:Nat)(l:List UInt8)(v m:Value)(us:List Nat)(wr:World):Prop :=
 Wd (fun b=>some b≠v.ownBlock) wr m us∧wr.ownsRow w.heap.size 5 1 v n (Lib.byteCells l)∧Below w.heap.size w wr∧wr.heap[w.heap.size]?=some (.cells bx 44 (0,0))
def acf (bx:Array Value)(w:World)(n:Nat)(l:List UInt8)(r:Nat)(m:Value)(us:List Nat)(v q c:Value)(wr:World):Prop :=
 ∃ i:Nat,i≤9∧c=.int .i64 i∧q=.int .u64 ((r / 10 ^ i:Nat):Int)∧ZIn bx w (n+i) (l++jq i r) v m us wr
def UW (bx:Array Value)(w:World)(N j:Nat)(v m:Value)(us:List Nat)(wr:World):Prop :=
 bN us=us∧(∀ x∈us,x<4294967296)∧gM us=N / 10 ^ (9 * j)∧Wd (fun b=>some b≠v.ownBlock) wr m us∧wr.ownsRow w.heap.size 5 1 v (9 * j) (Lib.byteCells (jq (9 * j) N))∧Below w.heap.size w wr∧wr.heap[w.heap.size]?=some (.cells bx 44 (0,0))
def acg (bx:Array Value)(w:World)(k N:Nat)(v m:Value)(wr:World):Prop:=∃ j us am cm,j+k=7∧m=.slice am us.length cm∧UW bx w N j v m us wr
theorem UY (P:Nat→Prop)(am:Option Addr)(cm:Nat)(n:Int)(ws:List Nat)(w:World)(h:Wd P w (.slice am ws.length cm) ws)(ht:bN ws=ws)(hw:∀ x∈ws,x<4294967296)(hv:gM ws=n.natAbs)(hn:n.natAbs<10 ^ 60)(h0:0<ws.length) :
  Calls Tryz.prog 71 #[.agg #[.bool (decide (n<0)),.slice am ws.length cm]] w (Hr (iW n) w):=by
 obtain⟨i0,hi,hz0,hz1,hz2⟩:=info_parts Tryz.infoByte
 have hN0:0<n.natAbs:=by rw[← hv];exact uo ht (by intro q;rw[q] at h0;simp at h0)
 have h7:ws.length≤7:=CB ws 7 ht (by rw[hv];exact Nat.lt_trans hn (by decide));have HT:=ah (show n≠0 by omega);have HS:Hid (acg #[.bool (decide (n<0)),.slice am ws.length cm] w 7 n.natAbs (.slice none 0 0) (.slice am ws.length cm) (w.alloc (.cells #[.bool (decide (n<0)),.slice am ws.length cm] 44))):=ah ⟨0,ws,am,cm,rfl,rfl,ht,hw,by rw[hv];simp,lS.imp (lS.frame h ⟨by simp,fun b _ hb=>Lib.alloc_old _ _ _ hb⟩) (fun b _ _ q=>by cases q),World.ownsRow_nil _ _ _ _,(Below.refl _ _).alloc (Nat.le_refl _) _,heap_alloc_new w _⟩;have HN:=ah hn
 have hwl:(0:Int)<(ws.length:Int):=by omega
 have hwn:((ws.length:Int) == 0)=false:=beq_eq_false_iff_ne.2 (by omega);clear h ht hw hv hn hN0;generalize hng:decide (n<0)=ng at *;have HNG:=ah hng;clear hng;go_enter Tryz.func71,Tryz.ntmps71
 go_upto_region 5 with fail
 go_loopg [3,4] 7 (fun k v m wr=>acg #[.bool ng,.slice am ws.length cm] w k n.natAbs v m wr)
 case atStart=>exact HS.out
 case round =>
  obtain⟨j,us,au,cu,hjk,rfl,ht,hw,hm,hwd,hrow,hbl,hbx⟩:=hrel
  obtain⟨v,rfl⟩:∃ v:Value,v=u3:=⟨_,rfl⟩
  obtain⟨w1,rfl⟩:∃ w1:World,w1=wr:=⟨_,rfl⟩
  have hz:=hbl.size
  by_cases hu:us.length=0
  ·have hu':=List.length_eq_zero_iff.1 hu
   subst hu'
   have hlt:n.natAbs<10 ^ (9 * j):=by
    rw[gM] at hm;exact(Nat.div_eq_zero_iff_lt (Nat.pow_pos (by omega))).1 hm.symm
   have LP:=ah (UQ n (9 * j) HT.out hlt);have htl:=UR (jq (9 * j) n.natAbs);rw[CF] at htl;have hll:=CF (9 * j) n.natAbs
   have h9j:0<9 * j:=by
    rcases Nat.eq_zero_or_pos j with q|q
    ·subst q;simp at hlt;have:=HT.out;omega
    ·omega
   obtain⟨g,cap,rfl⟩:=UU hrow h9j;have hcv:=Ht w1 hll hrow
   have bx0:w1.cell? ⟨w.heap.size,0,none⟩=some (.bool ng):=by rw[Lib.cell_of_heap hbx];rfl
   have Ti:=ah (Tryz.strings_TrimRight_one ⟨(jq (9 * j) n.natAbs).toArray⟩ 48 (by decide) w1 (by rw[← aK];simp[hll];omega));simp only[Nh] at Ti;generalize jq (9 * j) n.natAbs=l at htl hll hcv LP Ti hrow;obtain⟨TZ,hTZ,eTZ⟩:=je (wS l);rw[eTZ] at Ti;have HTZ:=ah hTZ
   have htz:TZ.size≤9 * j:=by rw[← aK,hTZ];exact htl
   have hcb:=fun (W:World) (S:ByteArray)=>run_bytes_of_string (P:=Tryz.prog) W 9 151 5 S Tryz.underlying9 Tryz.underlying151 Tryz.underlying5
   have HBL:=ah hbl;clear hTZ eTZ htl hll hwd hrow ht hw hm hlt hbl
   go_upto_if 37 with (go_at_call 118;refine Ti.out.mono ?_;rintro e w2 ⟨rfl,hww⟩;obtain rfl:w1=w2:=hww.symm)
   go_cut [6] (fun s wc=>∃ S:ByteArray,s=.string S∧S.data.toList.reverse=iW n∧S.size≤70∧wc=w1)
   case first =>
    cases ng with
    | true =>
     have hn0:=of_decide_eq_true HNG.out;have HR:Hid ((wS l++[45]).reverse=iW n):=ah (by have:=LP.out;rw[if_pos hn0] at this;exact this);clear hn0;go_wp2
     go_meet
     exact⟨_,rfl,by rw[zI,HTZ.out,← HR.out],by simp[ByteArray.size_append];show TZ.size+1≤70;omega,rfl⟩
    | false =>
     have hn0:=of_decide_eq_false HNG.out;have HR:Hid ((wS l).reverse=iW n):=ah (by have:=LP.out;rw[if_neg hn0,List.append_nil] at this;exact this);clear hn0;go_wp2
     go_meet
     exact⟨TZ,rfl,by rw[HTZ.out,HR.out],by omega,rfl⟩
   case rest =>
    obtain⟨S,rfl,hS,hSz,rfl⟩:=hcut
    obtain⟨wo,rfl⟩:∃ wo:World,wo=wc:=⟨_,rfl⟩
    have HSS:=ah hS;have hcS:=hcb wo S;rw[Kj] at hcS;have hnew:=heap_alloc_new wo.drew (.cells (Lib.byteCells S.data.toList++List.replicate (grownCap wo S.size 0 5 - S.size) (Value.int .u8 0)).toArray 5 ((Lib.byteCells S.data.toList++List.replicate (grownCap wo S.size 0 5 - S.size) (Value.int .u8 0)).toArray.size,(Lib.byteCells S.data.toList++List.replicate (grownCap wo S.size 0 5 - S.size) (Value.int .u8 0)).toArray.size+1));have hbn:=aj wo.drew (.cells (Lib.byteCells S.data.toList++List.replicate (grownCap wo S.size 0 5 - S.size) (Value.int .u8 0)).toArray 5 ((Lib.byteCells S.data.toList++List.replicate (grownCap wo S.size 0 5 - S.size) (Value.int .u8 0)).toArray.size,(Lib.byteCells S.data.toList++List.replicate (grownCap wo S.size 0 5 - S.size) (Value.int .u8 0)).toArray.size+1))
    have hfz:S.data.toList.length≤((Lib.byteCells S.data.toList++List.replicate (grownCap wo S.size 0 5 - S.size) (Value.int .u8 0)).toArray.size,(Lib.byteCells S.data.toList++List.replicate (grownCap wo S.size 0 5 - S.size) (Value.int .u8 0)).toArray.size+1).1:=by simp[Lib.byteCells]
    generalize List.replicate (grownCap wo S.size 0 5 - S.size) (Value.int .u8 0)=rest at *;generalize ((Lib.byteCells S.data.toList++rest).toArray.size,(Lib.byteCells S.data.toList++rest).toArray.size+1)=fr at *;generalize grownCap wo S.size 0 5=cp at *;generalize wo.drew.alloc _=w5 at hcS hnew hbn;have hrv:=Kg wo.heap.size cp S.data.toList rest fr w5 hnew hfz (by rw[aK];omega);rw[aK] at hrv;have HRV:=ah hrv;clear hcb hrv hnew hfz hS hcv bx0;go_wp2_with (go_at_call 119;refine HRV.out.mono ?_;rintro e w6 ⟨rfl,hh6,hs6,ho6,hb6⟩;have hct:=Ni (cap:=cp) (n:=S.size) w6 (by simp) hh6);go_ret;exact⟨by rw[HSS.out];rfl,(HBL.out.drew.trans (hbn.mono hz)).trans (hb6.mono hz)⟩
  ·have ZQ:(0:Int)<(us.length:Int):=by omega
   have hmp:=uo ht (by intro q;rw[q] at hu;exact hu rfl)
   have hj6:j≤6:=by
    rcases Nat.lt_or_ge 6 j with q|q
    ·obtain rfl:j=7:=by omega
     rw[Nat.div_eq_of_lt (Nat.lt_trans HN.out (by decide))] at hm;omega
    ·exact q
   have Ev:us.length≤7:=CB us 7 ht (by rw[hm];exact Nat.lt_of_le_of_lt (Nat.div_le_self _ _) (Nat.lt_trans HN.out (by decide)));have UZ:=ah (Nc _ au cu us 1000000000 w1 hwd hw (by omega) (by omega) (by omega));obtain⟨hd1,hd2⟩:=Rf us n.natAbs (9 * j) hm;have hr9:=oO 1000000000 (by omega) us;have htr:=vB (aW 1000000000 us).1
   have hlt2:∀ x∈bN (aW 1000000000 us).1,x<4294967296:=fun x hx=>EP 1000000000 (by omega) us hw x (yK _ _ hx)
   have hlow:=Rc (9 * j) n.natAbs;rw[← hd2] at hlow;have HLW:=ah hlow;have HM:=ah (show bN (bN (aW 1000000000 us).1)=bN (aW 1000000000 us).1∧(∀ x∈bN (aW 1000000000 us).1,x<4294967296)∧gM (bN (aW 1000000000 us).1)=n.natAbs / 10 ^ (9 * (j+1)) from ⟨htr,hlt2,by rw[hd1,Nat.mul_add]⟩);unfold FE at UZ;generalize (aW 1000000000 us).2=r at UZ hr9 HLW;generalize bN (aW 1000000000 us).1=YG at UZ HM;generalize jq (9 * j) n.natAbs=l at hrow HLW;clear hwd hw ht hm hmp hd1 hd2 htr hlt2 hlow
   go_upto_region 8 with (go_at_call 117;refine UZ.out.mono ?_;rintro e w2 ⟨c2,rfl,hwd2,hb2⟩)
   have aff:=hb2.size
   have hown:∀ q,v.ownBlock=some q→w.heap.size≤q∧q<w1.heap.size:=fun q hq=>hrow.lt q hq
   have HI:Hid (acf #[.bool ng,.slice am ws.length cm] w (9 * j) l r (.slice (some ⟨w1.heap.size,0,none⟩) YG.length c2) YG v (.int .u64 (r:Int)) (.int .i64 (0:Nat)) w2):=ah ⟨0,by omega,rfl,by simp,lS.imp hwd2 (fun b hb _ q=>by have:=(hown b q.symm).2;omega),by simpa [jq] using own_below hrow hb2,hbl.trans (hb2.mono hz),(hb2.block _ (bG hbx).1).trans hbx⟩;clear hown hrow hwd2 hb2 hbl hbx;go_wp2
   go_loopw [3,5,22] (fun v q c W=>acf #[.bool ng,.slice am ws.length cm] w (9 * j) l r (.slice (some ⟨w1.heap.size,0,none⟩) YG.length c2) YG v q c W) (fun _ _ c _=>9 - (intOf c).toNat)
   case atStart=>exact HI.out
   case round =>
    obtain⟨i,hi9,rfl,rfl,hwd,hrow,hbl,hbx⟩:=hrel;have hzW:=hbl.size
    by_cases hlt:i<9
    ·have Tk:r / 10 ^ i<1000000000:=Nat.lt_of_le_of_lt (Nat.div_le_self _ _) hr9
     have hsn:=ER i r
     have hdv:r / 10 ^ (i+1)=r / 10 ^ i / 10:=by rw[Nat.pow_succ,Nat.div_div_eq_div_mul]
     have HDV:=ah hdv;have pQ:=ah hsn;generalize r / 10 ^ i=q at Tk HDV pQ ⊢;have hix:=Rh (q % 10) (by omega);generalize UInt8.ofNat (48+q % 10)=c at hix pQ
     have hiI:(i:Int)<9:=by omega
     clear hsn hdv;go_wp2_with (at_builtin;refine wpList_append_lies _ rfl _ _ 151 rfl w.heap.size 5 i0 (.int .u8 0) 1 1 Tryz.underlying151 hi hz0 hz1 hz2 rfl (by decide) _ (9 * j+i) _ rfl (hrow.alloc _) ⟨wr.heap.size,0,none⟩ 1 1 [.int .u8 (c.toNat:Int)] rfl rfl ?c1 ?c2 ?c3 ?c4 ?c5 ?c6 _ rfl ?_)
     case c1 =>
      intro j' u hj';exact World.news_of_block (cs:=#[.int .u8 (c.toNat:Int)]) (t:=5) (fr:=(0,0)) (heap_alloc_new wr _) j' u (by simpa using hj')
     case c2=>simp[Value.oneCell']
     case c3=>omega
     case c4=>unfold maxLen;omega
     case c5=>omega
     case c6=>simp;omega
     intro g cap w3 hown3 hgrow3 ach hlt3;have aci:=Wd.append (v':=.slice (some ⟨g,0,none⟩) (9 * j+i+1) cap) hwd hgrow3 (by simpa using ach) rfl;have hb3:Below w.heap.size w w3:=(hbl.alloc hzW _).grown hgrow3 (by simp;omega) (fun q hq=>by have:=(hrow.lt q hq).1;omega);have HIN:Hid (ZIn #[.bool ng,.slice am ws.length cm] w (9 * j+(i+1)) (l++jq (i+1) r) (.slice (some ⟨g,0,none⟩) (9 * j+i+1) cap) (.slice (some ⟨w1.heap.size,0,none⟩) YG.length c2) YG w3):=ah ⟨aci,by rw[pQ.out,← List.append_assoc,Lib.byteCells_append];exact hown3,hb3,fU (hrow.alloc _) hgrow3 ((Lib.alloc_old _ _ _ (bG hbx).1).trans hbx) (by decide)⟩;clear aci hb3 hown3 hgrow3 ach hlt3 hwd hrow hbl hix hbx;go_wp2;exact⟨⟨i+1,by omega,by go_num,by rw[HDV.out];exact AB (by omega),HIN.out⟩,by simp[intOf];omega⟩
    ·obtain rfl:i=9:=by omega
     have HO:Hid (UW #[.bool ng,.slice am ws.length cm] w n.natAbs (j+1) u3 (.slice (some ⟨w1.heap.size,0,none⟩) YG.length c2) YG wr):=ah ⟨HM.out.1,HM.out.2.1,HM.out.2.2,hwd,by rw[Nat.mul_add,HLW.out];exact hrow,hbl,hbx⟩;clear hwd hrow hbl hbx;go_wp2
     go_roundg (6 - j)
     case measure=>omega
     case rel=>exact⟨j+1,YG,_,c2,by omega,rfl,HO.out⟩
theorem Kk (P:Nat→Prop)(am:Option Addr)(wn cm:Nat)(n:Int)(w:World)(h:kN P w n (.slice am wn cm))(hn:n.natAbs<10 ^ 60) :
  Calls Tryz.prog 71 #[.agg #[.bool (decide (n<0)),.slice am wn cm]] w (Hr (iW n) w):=by
 obtain⟨ws,h1,h2,h3,h4⟩:=h;obtain⟨ao,cap,hv⟩:=h1.form;simp only[Value.slice.injEq] at hv;obtain⟨rfl,rfl,rfl⟩:=hv
 by_cases h0:ws.length=0
 ·have hw:=List.length_eq_zero_iff.1 h0
  subst hw
  have hz:n=0:=by rw[gM] at h4;omega
  subst hz
  have e:iW 0=[48]:=by
   have:=wT 0;rw[show ((0:Nat):Int)=0 from rfl] at this;rw[this,fK,dif_pos (by omega)]
   rfl
  rw[e];exact Ri _ _ _ _
 ·exact UY P _ _ n ws w h1 h2 h3 h4 hn (by omega)
def aU (op:Int)(NM MD:ByteArray)(ng:Bool)(mv:Value)(ys:Bool)(kv:Value)(a_:Int):Array Value:=#[.int .i64 op,.string NM,.string MD,.bool ng,mv,.bool ys,kv,.int .i64 a_]
theorem aG {w:World}{b:Nat}{op:Int}{NM MD:ByteArray}{ng ys:Bool}{mv kv:Value}{a_:Int}(h:w.heap[b]?=some (.cells (aU op NM MD ng mv ys kv a_) 46 (0,0))) :
    w.cell? ⟨b,0,none⟩=some (.int .i64 op)∧w.cell? ⟨b,1,none⟩=some (.string NM)∧w.cell? ⟨b,2,none⟩=some (.string MD)∧w.cell? ⟨b,3,none⟩=some (.bool ng)∧w.cell? ⟨b,4,none⟩=some mv∧w.cell? ⟨b,5,none⟩=some (.bool ys)∧w.cell? ⟨b,6,none⟩=some kv∧w.cell? ⟨b,7,none⟩=some (.int .i64 a_):=by
  refine⟨?_,?_,?_,?_,?_,?_,?_,?_⟩<;>(rw[Lib.cell_of_heap h];rfl)
theorem yX (s:ByteArray):s.toList.isEmpty=decide (s.data.toList=[])∧(s.toList == [])=decide (s.data.toList=[]):=by
  rw[Go.ByteArray.toList_eq]
  cases s.data.toList with
  | nil=>exact⟨rfl,rfl⟩
  | cons c l=>exact⟨by simp,by simp⟩
theorem Rj (op:Int)(NM MD:ByteArray)(ng:Bool)(am:Option Addr)(wn cm:Nat)(ys:Bool)(ae:Option Addr)(wk ce:Nat)(a_:Int)(w:World)(h1:NM.size≤1099511627776)(h2:MD.size≤1099511627776) :
    Calls Tryz.prog 202 #[.agg #[.int .i64 op,.string NM,.string MD,.bool ng,.slice am wn cm,.bool ys,.slice ae wk ce,.int .i64 a_]] w fun r w'=>r=.returned (.bool (lN op NM.data.toList MD.data.toList))∧Below w.heap.size w w':=by
  have P1:=ah (fun W=>qV NM W h1);have P2:=ah (fun W=>qV MD W h2);obtain⟨q1,q2⟩:=yX MD;obtain⟨q3,q4⟩:=yX NM
  have hN:lN op NM.data.toList MD.data.toList=if op=3∨op=22 then dK NM.data.toList && decide (MD.data.toList=[]) else if op=24 then dK NM.data.toList && (decide (MD.data.toList=[]) || dK MD.data.toList) else decide (NM.data.toList=[]) && decide (MD.data.toList=[]):=rfl
  rw[hN];clear hN;generalize decide (MD.data.toList=[])=eM at *;generalize decide (NM.data.toList=[])=eN at *;generalize dK NM.data.toList=pN at *;generalize dK MD.data.toList=pM at *
  obtain⟨res,hres⟩:∃ res,res=if op=3∨op=22 then pN && eM else if op=24 then pN && (eM || pM) else eN && eM:=⟨_,rfl⟩
  rw[← hres];have HR:=ah hres;clear hres;have hb0:=aj w (.cells (aU op NM MD ng (.slice am wn cm) ys (.slice ae wk ce) a_) 46);have hB:=heap_alloc_new w (.cells (aU op NM MD ng (.slice am wn cm) ys (.slice ae wk ce) a_) 46)
  have hs0:w.heap.size<(w.alloc (.cells (aU op NM MD ng (.slice am wn cm) ys (.slice ae wk ce) a_) 46)).heap.size:=by simp
  go_enter Tryz.func202,Tryz.ntmps202
  go_upto_region 1 with fail
  change Code.wp _ _ _ _ (w.alloc (.cells (aU op NM MD ng (.slice am wn cm) ys (.slice ae wk ce) a_) 46));generalize w.alloc _=w0 at hb0 hB hs0 ⊢;obtain⟨y0,y1,y2,-⟩:=aG hB
  by_cases h3:op=3∨op=22
  · rcases h3 with rfl|rfl<;>cases pN<;>cases eM<;>
      (go_wp2_with (go_at_call 48;refine(P1.out _).mono ?_;rintro r w1 ⟨rfl,hb1⟩;have z2:=(hb1.cell (p:=⟨w.heap.size,2,none⟩) hs0).trans y2)
       go_ret;exact⟨aX (by rw[HR.out];rfl),hb0.trans (hb1.mono hb0.size)⟩)
  · have H3:=ah h3
    have t3:(op == 3)=false:=beq_eq_false_iff_ne.2 fun q=>h3 (.inl q)
    have t22:(op == 22)=false:=beq_eq_false_iff_ne.2 fun q=>h3 (.inr q)
    by_cases XG:op=24
    · subst XG
      clear h3 t3 t22
      cases pN<;>cases eM<;>cases pM<;>
        (go_wp2_with (first|(go_at_call 48;(with_reducible refine(P1.out w0).mono ?_);rintro r w1 ⟨rfl,hb1⟩;have hs1:=hb1.size;have z2:=(hb1.cell (p:=⟨w.heap.size,2,none⟩) hs0).trans y2)|(go_at_call 48;(with_reducible refine(P2.out _).mono ?_);rintro r w2 ⟨rfl,hb2⟩))
         go_ret;first|exact⟨aX (by rw[HR.out];rfl),hb0.trans (hb1.mono hb0.size)⟩|exact⟨aX (by rw[HR.out];rfl),(hb0.trans (hb1.mono hb0.size)).trans (hb2.mono (by omega))⟩)
    · have H24:=ah XG
      have t24:(op == 24)=false:=beq_eq_false_iff_ne.2 XG;clear h3 XG
      cases eN<;>cases eM<;>(go_wp2;go_ret;exact⟨aX (by rw[HR.out,if_neg H3.out,if_neg H24.out];rfl),hb0⟩)
theorem YH (op:Int)(fm:Bool)(w:World):Calls Tryz.prog 201 #[.int .i64 op,.int .i64 (if fm=true then 0 else 1)] w fun r w'=>r=.returned (.bool (Qt fm op))∧w=w':=by
  have h:Qt fm op=if fm=true then decide (op≤20) else decide (op≠4):=rfl
  rw[h];clear h
  cases fm with
  | true =>
    simp only[if_true]
    have e:decide (op≤20)=decide (op<21):=by by_cases q:op≤20<;>simp<;>omega
    rw[e];go_enter Tryz.func201,Tryz.ntmps201;go_wp2;go_ret;exact⟨rfl,rfl⟩
  | false =>
    simp only[Bool.false_eq_true,if_false]
    have e:decide (op≠4)=!(op == 4):=by by_cases q:op=4<;>simp[q]
    rw[e];go_enter Tryz.func201,Tryz.ntmps201;go_wp2;go_ret;exact⟨rfl,rfl⟩
def zU (op:Int):Int:=if op≤4 then 0 else if op≤6 then 1 else if op≤20∨op=22∨op=23 then 2 else if op=21 then 3 else -1
theorem U0 (op:Int)(w:World):Calls Tryz.prog 204 #[.int .i64 op] w fun r w'=>r=.returned (.int .i64 (zU op))∧w=w':=by
  unfold zU
  by_cases h4:op≤4
  · rw[if_pos h4]
    go_enter Tryz.func204,Tryz.ntmps204;go_wp2;go_ret;exact⟨rfl,rfl⟩
  rw[if_neg h4]
  have t4:4<op:=by omega
  by_cases h6:op≤6
  · rw[if_pos h6]
    go_enter Tryz.func204,Tryz.ntmps204;go_wp2;go_ret;exact⟨rfl,rfl⟩
  rw[if_neg h6]
  have t6:6<op:=by omega
  by_cases h20:op≤20
  · rw[if_pos (.inl h20)]
    go_enter Tryz.func204,Tryz.ntmps204;go_wp2;go_ret;exact⟨rfl,rfl⟩
  have t20:20<op:=by omega
  by_cases h22:op=22
  · subst h22
    rw[if_pos (.inr (.inl rfl))];go_enter Tryz.func204,Tryz.ntmps204;go_wp2;go_ret;exact⟨rfl,rfl⟩
  by_cases h23:op=23
  · subst h23
    rw[if_pos (.inr (.inr rfl))];go_enter Tryz.func204,Tryz.ntmps204;go_wp2;go_ret;exact⟨rfl,rfl⟩
  rw[if_neg (by rintro(h|h|h)<;>omega)];have t22:(op == 22)=false:=beq_eq_false_iff_ne.2 h22;have t23:(op == 23)=false:=beq_eq_false_iff_ne.2 h23
  by_cases h21:op=21
  · subst h21
    go_enter Tryz.func204,Tryz.ntmps204;go_wp2;go_ret;exact⟨rfl,rfl⟩
  rw[if_neg h21];have t21:(op == 21)=false:=beq_eq_false_iff_ne.2 h21;clear h22 h23 h21;go_enter Tryz.func204,Tryz.ntmps204;go_wp2;go_ret;exact⟨rfl,rfl⟩
theorem Nj (P:Nat→Prop)(op:Int)(NM MD:ByteArray)(n:Int)(am:Option Addr)(wn cm:Nat)(ys:Bool)(ae:Option Addr)(wk ce:Nat)(a_:Int)(w:World)(h:kN P w n (.slice am wn cm))(hn:n.natAbs<10 ^ 60) :
    Calls Tryz.prog 203 #[.agg #[.int .i64 op,.string NM,.string MD,.bool (decide (n<0)),.slice am wn cm,.bool ys,.slice ae wk ce,.int .i64 a_]] w fun r w'=>r=.returned (.bool (oQ op n ys))∧Below w.heap.size w w':=by
  have HS:=ah (fun W (hW:Below w.heap.size w W)=>QV P am wn cm n W (YA.frame h (aQ.of hW)));have HT:=ah (fun W (hW:Below w.heap.size w W)=>Kk P am wn cm n W (XA.frame h (aQ.of hW)) hn)
  have hV:oQ op n ys=if op=1 then decide (0≤n) && decide ((iW n).length≤60) && !ys else decide (n=0) && (decide (op=2) || !ys):=rfl
  rw[hV];clear hV h hn;obtain⟨TX,hTX,eT⟩:=je (iW n);rw[← hTX,aK];rw[show iW n=TX.data.toList from hTX.symm] at HT
  have HT:Hid (∀ W,Below w.heap.size w W→Calls Tryz.prog 71 #[.agg #[.bool (decide (n<0)),.slice am wn cm]] W fun r w'=>r=.returned (.string TX)∧Below W.heap.size W w'):=ah fun W hW=>(HT.out W hW).mono fun r w' q=>⟨by rw[q.1],q.2⟩
  have h0:decide (0≤n)=decide (0≤n.sign):=by
    rcases Int.lt_trichotomy n 0 with q|q|q
    · rw[Int.sign_eq_neg_one_of_neg q,decide_eq_false (by omega),decide_eq_false (by omega)]
    · subst q;rfl
    · rw[Int.sign_eq_one_of_pos q,decide_eq_true (by omega),decide_eq_true (by omega)]
  have h1:decide (n=0)=(n.sign == 0):=by
    rcases Int.lt_trichotomy n 0 with q|q|q
    · rw[Int.sign_eq_neg_one_of_neg q,decide_eq_false (by omega)];rfl
    · subst q;rfl
    · rw[Int.sign_eq_one_of_pos q,decide_eq_false (by omega)];rfl
  rw[h0,h1];clear h0 h1 hTX eT;generalize decide (n<0)=ng at *;generalize n.sign=sg at *
  obtain⟨res,hres⟩:∃ res,res=if op=1 then decide (0≤sg) && decide (TX.size≤60) && !ys else sg == 0 && (decide (op=2) || !ys):=⟨_,rfl⟩
  rw[← hres];have HR:=ah hres;clear hres;have hb0:=aj w (.cells (aU op NM MD ng (.slice am wn cm) ys (.slice ae wk ce) a_) 46);have hB:=heap_alloc_new w (.cells (aU op NM MD ng (.slice am wn cm) ys (.slice ae wk ce) a_) 46)
  have hs0:w.heap.size<(w.alloc (.cells (aU op NM MD ng (.slice am wn cm) ys (.slice ae wk ce) a_) 46)).heap.size:=by simp
  go_enter Tryz.func203,Tryz.ntmps203
  go_upto_region 1 with fail
  change Code.wp _ _ _ _ (w.alloc (.cells (aU op NM MD ng (.slice am wn cm) ys (.slice ae wk ce) a_) 46));generalize w.alloc _=w0 at hb0 hB hs0 ⊢;obtain⟨y0,y1,y2,y3,y4,y5,-⟩:=aG hB
  by_cases h1:op=1
  · subst h1
    have HR2:Hid (res=(decide (0≤sg) && decide (TX.size≤60) && !ys)):=ah (by rw[HR.out,if_pos rfl]);clear HR;generalize hg:decide (0≤sg)=g0 at HR2
    have hl2:decide (TX.size≤60)=decide ((TX.size:Int)≤60):=by by_cases q:TX.size≤60<;>simp<;>omega
    rw[hl2] at HR2;clear hl2;generalize hl:decide ((TX.size:Int)≤60)=l0 at HR2
    cases g0<;>cases l0<;>cases ys<;>
      (go_wp2_with (first|(go_at_call 257;refine(HS.out _ hb0).mono ?_;rintro r w1 ⟨rfl,hb1⟩;have hbw:=hb0.trans (hb1.mono hb0.size);have hs1:=hb1.size;have z3:=(hb1.cell (p:=⟨w.heap.size,3,none⟩) hs0).trans y3;have z4:=(hb1.cell (p:=⟨w.heap.size,4,none⟩) hs0).trans y4;have z5:=(hb1.cell (p:=⟨w.heap.size,5,none⟩) hs0).trans y5)|(go_at_call 71;refine(HT.out _ hbw).mono ?_;rintro r w2 ⟨rfl,hb2⟩;have x5:=(hb2.cell (p:=⟨w.heap.size,5,none⟩) (by show w.heap.size<_;omega)).trans z5))
       go_ret;first|exact⟨aX (by rw[HR2.out];rfl),hbw⟩|exact⟨aX (by rw[HR2.out];rfl),hbw.trans (hb2.mono (by omega))⟩)
  · have HR2:Hid (res=(sg == 0 && (decide (op=2) || !ys))):=ah (by rw[HR.out,if_neg h1])
    clear HR;have t1:(op == 1)=false:=beq_eq_false_iff_ne.2 h1
    have t2:(op == 2)=decide (op=2):=by
      by_cases q:op=2
      · subst q;rfl
      · rw[decide_eq_false q];exact beq_eq_false_iff_ne.2 q
    generalize decide (op=2)=d2 at *;generalize hg:(sg == 0)=g0 at *;clear h1
    cases g0<;>cases d2<;>cases ys<;>
      (go_wp2_with (go_at_call 257;refine(HS.out _ hb0).mono ?_;rintro r w1 ⟨rfl,hb1⟩;have hbw:=hb0.trans (hb1.mono hb0.size);have z0:=(hb1.cell (p:=⟨w.heap.size,0,none⟩) hs0).trans y0;have z5:=(hb1.cell (p:=⟨w.heap.size,5,none⟩) hs0).trans y5)
       go_ret;exact⟨aX (by rw[HR2.out];rfl),hbw⟩)
end Go.Proofs.YtknicmmigbhpcaaGreatDoor

namespace Go.Proofs.YtknicmmigbhpcaaGreatDoor
structure Pc where
  lead:List UInt8
  kind:Nat
  text:List UInt8
def bf:List Pc→List UInt8
  | []=>[]
  | p :: l=>p.lead++p.text++bf l
theorem bT:∀ a b:List Pc,bf (a++b)=bf a++bf b
  | [],b=>rfl
  | p :: a,b=>by rw[List.cons_append,bf,bf,bT a b];simp
def yY (k:Nat)(t:List UInt8)(c:Option UInt8):Bool :=
  match c with
  | none=>true
  | some c=>if k=4 then decide (pX (t++[c])=some t) && !(decide (t=[45]) && decide (c=45)) else if k=3 then !aL c else !aV c
def lY (p:Pc):Bool :=
  p.lead.all dJ &&
  (if p.kind=4 then decide (p.text∈iF)
   else if p.kind=3 then p.text.all aL && decide (0<p.text.length) && decide (p.text.length≤60) && (decide (p.text.length=1) || !decide (p.text[0]?=some 48))
   else p.text.all aV && (p.text.headD 0 |> dG) && decide (0<p.text.length) && decide (p.text.length≤40) && decide (p.kind=if p.text∈pE then 2 else 1))
def LQ:List Pc→List UInt8→Prop
  | [],_=>True
  | p :: l,e=>lY p=true∧yY p.kind p.text (bf l++e).head?=true∧LQ l e
theorem iy:∀ {a b:List Pc} {e:List UInt8},LQ (a++b) e↔LQ a (bf b++e)∧LQ b e
  | [],b,e=>by simp[LQ]
  | p :: a,b,e=>by
    rw[List.cons_append,LQ,LQ,iy (a:=a),bT,List.append_assoc]
    constructor
    · rintro⟨h1,h2,h3,h4⟩;exact⟨⟨h1,h2,h3⟩,h4⟩
    · rintro⟨⟨h1,h2,h3⟩,h4⟩;exact⟨h1,h2,h3,h4⟩
theorem Nk {p:UInt8→Bool}:∀ {t r:List UInt8},t.all p=true→(∀ c,r.head?=some c→p c=false)→(t++r).takeWhile p=t
  | [],[],_,_=>rfl
  | [],c :: r,_,h=>by rw[List.nil_append,List.takeWhile_cons_of_neg (by rw[h c rfl];decide)]
  | x :: t,r,h,h2=>by
    rw[List.all_cons,Bool.and_eq_true] at h;rw[List.cons_append,List.takeWhile_cons_of_pos h.1,Nk h.2 h2]
theorem FL (a b:UInt8)(r:List UInt8):pX (a :: b :: r)=pX [a,b]:=by
  simp[pX,iF,abI,abJ,List.find?,List.isPrefixOf]
theorem U6:∀ t∈iF,(∃ a,t=[a])∨∃ a b,t=[a,b]:=by
  have:∀ t∈iF,t.length=1∨t.length=2:=by decide
  intro t ht
  rcases this t ht with h|h
  · exact .inl (List.length_eq_one_iff.1 h)
  · match t,h with
    | [a,b],_=>exact .inr ⟨a,b,rfl⟩
theorem CG:∀ t∈iF,pX t=some t:=by decide
theorem Rk:∀ t∈iF,∀ c,t.head?=some c→dG c=false∧aL c=false∧dJ c=false:=by
  have:∀ t∈iF,dG (t.headD 0)=false∧aL (t.headD 0)=false∧dJ (t.headD 0)=false:=by decide
  intro t ht c hc
  cases t with
  | nil=>cases hc
  | cons x r=>cases hc;exact this _ ht
theorem U7 {t r:List UInt8}(ht:t∈iF)(h:∀ c,r.head?=some c→pX (t++[c])=some t):pX (t++r)=some t:=by
  cases r with
  | nil=>rw[List.append_nil];exact CG t ht
  | cons c r =>
    have hc:=h c rfl
    rcases U6 t ht with ⟨a,rfl⟩|⟨a,b,rfl⟩
    · rw[List.cons_append,List.nil_append,FL];exact hc
    · rw[List.cons_append,List.cons_append,List.nil_append,FL];exact CG _ ht
theorem yZ (c:UInt8)(h:dG c=true):aL c=false∧dJ c=false∧c≠45:=by
  have:∀ n:Fin 256,dG (UInt8.ofNat n.val)=true→aL (UInt8.ofNat n.val)=false∧dJ (UInt8.ofNat n.val)=false∧UInt8.ofNat n.val≠45:=by decide +kernel
  have h1:=this ⟨c.toNat,c.toNat_lt⟩;rw[UInt8.ofNat_toNat] at h1;exact h1 h
theorem Kl (c:UInt8)(h:aL c=true):dG c=false∧dJ c=false∧c≠45:=by
  have:∀ n:Fin 256,aL (UInt8.ofNat n.val)=true→dG (UInt8.ofNat n.val)=false∧dJ (UInt8.ofNat n.val)=false∧UInt8.ofNat n.val≠45:=by decide +kernel
  have h1:=this ⟨c.toNat,c.toNat_lt⟩;rw[UInt8.ofNat_toNat] at h1;exact h1 h
theorem Rl {p:Pc}{r:List UInt8}(h:lY p=true)(he:yY p.kind p.text r.head?=true):dY (p.text++r)=(p.kind,p.text.length,0)∧p.kind≠5∧0<p.text.length∧bJ false (p.text++r)=0:=by
  obtain⟨ld,k,t⟩:=p;simp only[lY,Bool.and_eq_true] at h he ⊢;obtain⟨_,h⟩:=h
  by_cases h4:k=4
  · subst h4
    rw[if_pos rfl,decide_eq_true_eq] at h
    have hs:pX (t++r)=some t:=U7 h fun c hc=>by
      rw[hc,yY,if_pos rfl,Bool.and_eq_true,decide_eq_true_eq] at he;exact he.1
    have h45:¬ (t=[45]∧r.head?=some 45):=by
      rintro⟨rfl,q⟩;rw[q,yY,if_pos rfl,Bool.and_eq_true] at he;exact absurd he.2 (by decide)
    cases t with
    | nil=>exact absurd h (by decide)
    | cons c t =>
      obtain⟨h1,h2,h3⟩:=Rk _ h c rfl;refine⟨?_,by decide,by simp,?_⟩
      · rw[List.cons_append,dY,h1,h2,if_neg (by decide),if_neg (by decide),Aj]
        rw[List.cons_append] at hs;rw[hs]
      · rw[List.cons_append,bJ,h3,if_neg (by decide),if_neg]
        rintro⟨rfl,q⟩
        have:∀ x∈iF,x.head?=some 45→x=[45]:=by decide
        have h5:=this _ h rfl;simp only[List.cons.injEq,true_and] at h5;subst h5;exact h45 ⟨rfl,q⟩
  rw[if_neg h4] at h
  by_cases h3:k=3
  · subst h3
    rw[if_pos rfl] at h;simp only[Bool.and_eq_true,decide_eq_true_eq] at h;obtain⟨⟨⟨hd,h0⟩,Gy⟩,hz⟩:=h;rw[Bool.or_eq_true,decide_eq_true_eq] at hz
    have htw:(t++r).takeWhile aL=t:=Nk hd fun c hc=>by
      rw[hc,yY,if_neg (by decide),if_pos rfl] at he
      simpa using he
    cases t with
    | nil=>simp at h0
    | cons c t =>
      have hc:aL c=true:=by rw[List.all_cons,Bool.and_eq_true] at hd;exact hd.1
      obtain⟨h1,h2,h45⟩:=Kl c hc;refine⟨?_,by decide,h0,?_⟩
      · rw[List.cons_append,dY,h1,if_neg (by decide),if_pos hc]
        rw[List.cons_append] at htw;rw[nP,htw,if_neg];rintro(q|⟨q,q2⟩)
        · omega
        · rcases hz with hz|hz
          · omega
          · rw[q2] at hz;exact absurd hz (by decide)
      · rw[List.cons_append,bJ,h2,if_neg (by decide),if_neg (fun q=>h45 q.1)]
  · rw[if_neg h3] at h
    simp only[Bool.and_eq_true,decide_eq_true_eq] at h;obtain⟨⟨⟨⟨hd,hl⟩,h0⟩,XE⟩,hk⟩:=h
    have htw:(t++r).takeWhile aV=t:=Nk hd fun c hc=>by
      rw[hc,yY,if_neg h4,if_neg h3] at he
      simpa using he
    cases t with
    | nil=>simp at h0
    | cons c t =>
      have hc:dG c=true:=hl;obtain⟨h1,h2,h45⟩:=yZ c hc;refine⟨?_,by rw[hk];split<;>decide,h0,?_⟩
      · rw[List.cons_append,dY,if_pos hc]
        rw[List.cons_append] at htw;rw[lC,htw,if_neg (by omega),hk]
        split<;>rfl
      · rw[List.cons_append,bJ,h2,if_neg (by decide),if_neg (fun q=>h45 q.1)]
end Go.Proofs.YtknicmmigbhpcaaGreatDoor
