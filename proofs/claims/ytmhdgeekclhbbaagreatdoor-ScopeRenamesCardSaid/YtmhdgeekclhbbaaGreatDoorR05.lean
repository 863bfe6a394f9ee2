/- Walks and plain laws: BagW2, MapS1, MapCopy, MapS2, MapS3, Builder, LexWhole, RefLex1, RefLex2. -/
import Derived.Test.YtmhdgeekclhbbaaGreatDoorR04
import Derived.Shelf.Spec.SlicesInsert
import Derived.Lib.AppendZerosOnto
import Derived.Laws.CopyOwn
set_option maxHeartbeats 16000000
set_option maxRecDepth 100000
set_option linter.unusedVariables false
set_option linter.unusedSimpArgs false
namespace Go.Proofs.YtmhdgeekclhbbaaGreatDoor
open Go.RowKit Go Go.Sort
def Ch (l:List (List UInt8))(x:ByteArray)(j:Nat):ByteArray:=if h:j<l.length then ⟨l[j].toArray⟩ else x
theorem yx (l:List (List UInt8))(x:ByteArray)(j:Nat):(Ch l x j).data.toList=if h:j<l.length then l[j] else x.data.toList:=by
 unfold Ch
 split<;>rfl
theorem abk (l:List (List UInt8))(x:List UInt8):∀ t,t<(l.takeWhile fun y=>decide (y<x)).length→∀ (h:t<l.length),l[t]<x:=fun t ht h2=>by
 have h1:(l.takeWhile fun y=>decide (y<x))[t]=l[t]:=List.IsPrefix.getElem (List.takeWhile_prefix _) ht;have h3:=List.all_takeWhile (l:=l) (p:=fun y=>decide (y<x));have h4:=List.all_eq_true.1 h3 _ (mX ht);rw[h1] at h4
 simpa using h4
theorem Im (x:List UInt8):∀ (l:List (List UInt8)) (h:(l.takeWhile fun y=>decide (y<x)).length<l.length),¬ l[(l.takeWhile fun y=>decide (y<x)).length]<x
 | [],h=>absurd h (by simp)
 | y :: l,h=>by
  by_cases q:y<x
  ·have e:((y :: l).takeWhile fun y=>decide (y<x))=y :: (l.takeWhile fun y=>decide (y<x)):=List.takeWhile_cons_of_pos (by simpa using q)
   have h2:(l.takeWhile fun y=>decide (y<x)).length<l.length:=by
    rw[e] at h
    simpa using h
   have ih:=Im x l h2
   have:∀ n,(hn:n<(y :: l).length)→n=(l.takeWhile fun y=>decide (y<x)).length+1→¬ (y :: l)[n]<x:=by
    rintro n hn rfl;exact ih
   exact this _ h (by rw[e];rfl)
  ·have e:((y :: l).takeWhile fun y=>decide (y<x))=[]:=List.takeWhile_cons_of_neg (by simpa using q)
   have:∀ n,(hn:n<(y :: l).length)→n=0→¬ (y :: l)[n]<x:=by
    rintro n hn rfl;exact q
   exact this _ h (by rw[e];rfl)
theorem Qg (l:List (List UInt8))(x:ByteArray)(hl:l.Pairwise (· < ·)):decide (Lib.bsGo (fun t=>Op.bytesLess (Ch l x t).toList x.toList) l.length 0 l.length<l.length∧Ch l x (Lib.bsGo (fun t=>Op.bytesLess (Ch l x t).toList x.toList) l.length 0 l.length)=x)=decide (x.data.toList∈l):=by
 simp only[Lib.toList_data,Go.Proofs.bytesLess_eq,yx];have hA:=abk l x.data.toList;have hB:=Im x.data.toList l;have hC:=(List.takeWhile_prefix (l:=l) (fun y=>decide (y<x.data.toList))).length_le;generalize (l.takeWhile fun y=>decide (y<x.data.toList)).length=k at hA hB hC
 have hk:=Lib.bsGo_spec (fun t=>decide ((if h:t<l.length then l[t] else x.data.toList)<x.data.toList)) k (fun t ht=>by
   have htl:t<l.length:=by omega
   rw[dif_pos htl]
   exact iX (hA t ht htl)) (fun t ht=>by
   by_cases htl:t<l.length
   ·rw[dif_pos htl]
    refine dA fun q=>?_
    by_cases e:t=k
    ·subst e;exact hB htl q
    ·exact hB (by omega) (List.lt_trans (List.pairwise_iff_getElem.1 hl k t (by omega) htl (by omega)) q)
   ·rw[dif_neg htl]
    exact dA (List.lt_irrefl _)) l.length 0 l.length (by omega) (by omega) hC
 rw[hk]
 congr 1
 apply propext
 constructor
 ·rintro⟨h1,h2⟩
  have h3:=congrArg (fun b:ByteArray=>b.data.toList) h2;simp only[yx] at h3;rw[dif_pos h1] at h3;rw[← h3];exact mX h1
 ·intro h
  obtain⟨j,hj,e⟩:=List.getElem_of_mem h
  have hjk:k≤j:=by
   apply Classical.byContradiction
   intro q;have:=hA j (by omega) hj;rw[e] at this;exact List.lt_irrefl _ this
  have hkj:k=j:=by
   apply Classical.byContradiction
   intro q;refine hB (by omega) ?_;rw[← e];exact List.pairwise_iff_getElem.1 hl k j (by omega) hj (by omega)
  subst hkj;refine⟨hj,sN ?_⟩;rw[yx,dif_pos hj,e]
def XC (l:List (List UInt8))(x:ByteArray)(w:World)(e:Ending)(w':World):Prop:=(∃ i:Int,e=.returned (.tuple #[.int .i64 i,.bool (decide (x.data.toList∈l))]))∧Below w.heap.size w w'
theorem XE (P:Nat→Prop)(ao:Option Addr)(c:Nat)(l:List (List UInt8))(x:ByteArray)(w:World)(h:gD P w (.slice ao l.length c) l)(hr:l.Pairwise (· < ·))(hn:l.length≤1000000):Calls Tryz.prog 87 #[.slice ao l.length c,.string x] w (XC l x w):=by
 obtain⟨ao',cap,hv,hcap,hc⟩:=h.slice;simp only[Value.slice.injEq] at hv;obtain⟨rfl,-,rfl⟩:=hv
 rcases Nat.eq_zero_or_pos l.length with h0|h0
 ·obtain rfl:=List.eq_nil_of_length_eq_zero h0
  refine(Any2.slices_BinarySearch_string_empty Tryz.D7 ao c x w).mono fun e w' q=>⟨⟨0,by rw[q.1];simp⟩,by rw[q.2];exact bI _ _⟩
 ·obtain⟨b,off,rfl,_,_,hcell⟩:=hc h0
  refine(Any2.slices_BinarySearch_string Tryz.D7 b off l.length c (Ch l x) x w (by omega) (fun j hj=>by rw[hcell j hj,Ch,dif_pos hj])).mono fun e w' ⟨q1,n,q2⟩=>⟨⟨(Lib.bsGo (fun t=>Op.bytesLess (Ch l x t).toList x.toList) l.length 0 l.length:Nat),by rw[q1,Qg l x hr]⟩,by rw[q2];exact⟨rfl,rfl,rfl,bD _,fun _ _=>rfl⟩⟩
theorem bL {w:World}{b:Nat}{v:Value}(h:w.heap[b]?=some (.cells #[v] 107 (0,0))):w.cell? ⟨b,0,none⟩=some v∧w.frozen? ⟨b,0,none⟩=false:=⟨by rw[aV h];rfl,by simp[World.frozen?,h]⟩
def acT (l:List (List UInt8))(w:World)(e:Ending)(w':World):Prop:=∃ ao c,e=.returned (.slice ao l.length c)∧gD (fun b=>w.heap.size≤b) w' (.slice ao l.length c) l∧Below w.heap.size w w'
theorem Qe.tx {l:List (List UInt8)}{w w':World}{e:Ending}(h:Qe l w e w'):acT l w e w':=by
 obtain⟨v',h1,h2,h3⟩:=h;have h4:gD (fun b=>w.heap.size≤b) w' v' l:=gD.owns h2 (fun _ hb=>hb);obtain⟨ao,cap,rfl,_,_⟩:=h4.slice;exact⟨ao,cap,h1,h4,h3⟩
theorem Dj (P:Nat→Prop)(ao:Option Addr)(c:Nat)(l:List (List UInt8))(x:ByteArray)(w:World)(h:gD P w (.slice ao l.length c) l)(hr:l.Pairwise (· < ·))(hl:l.length≤1000000):Calls Tryz.prog 54 #[.agg #[.slice ao l.length c],.string x] w fun e w'=>e=.returned (.bool (decide (x.data.toList∈l)))∧Below w.heap.size w w':=by
 have hal:=aB w (.cells #[.slice ao l.length c] 107);have hN:=aY w (.cells #[.slice ao l.length c] 107);have HC:=ay (fun W (hW:Below w.heap.size w W)=>XE P ao c l x W (h.below hW) hr hl);clear h hr;unfold XC at HC;generalize decide (x.data.toList∈l)=r at *;go_enter Tryz.func54,Tryz.ntmps54
 go_upto_region 1 with fail
 change Code.wp _ _ _ _ (w.alloc (.cells #[.slice ao l.length c] 107));generalize w.alloc _=w1 at hal hN ⊢;have c0:=(bL hN).1;go_wp2_with (go_at_call 87;refine(HC.out _ hal).mono ?_;rintro e w2 ⟨⟨i,rfl⟩,hb2⟩);go_ret;exact⟨rfl,hal.trans (hb2.mono hal.size)⟩
end Go.Proofs.YtmhdgeekclhbbaaGreatDoor

namespace Go.Proofs.YtmhdgeekclhbbaaGreatDoor
open Go.RowKit Go
def AV (a b:List UInt8):Int:=if a<b then -1 else if b<a then 1 else 0
theorem abl {a b:List UInt8}(h:a<b):AV a b=-1:=by unfold AV;rw[if_pos h]
theorem abm {a b:List UInt8}(h:¬ a<b):0≤AV a b:=by
 unfold AV;rw[if_neg h]
 split<;>omega
theorem abn {a b:List UInt8}(h:¬ a<b):decide (AV a b=0)=decide (a=b):=by
 unfold AV;rw[if_neg h]
 split
 ·rename_i h2
  rw[dA (by omega),dA (fun q=>by subst q;exact List.lt_irrefl _ h2)]
 ·rename_i h2
  rw[iX rfl,iX (qh (List.not_lt.1 h2) (List.not_lt.1 h))]
theorem JQ (x:ByteArray)(w:World):Calls Tryz.prog 212 #[.string x] w fun e w'=>e=.returned (.bool false)∧w'=w:=by
 go_enter Tryz.func212,Tryz.ntmps212;go_wp2;go_ret;exact⟨by simp,rfl⟩
theorem MF (x y:ByteArray)(w:World):Calls Tryz.prog 134 #[.string x,.string y] w fun e w'=>e=.returned (.int .i64 (AV x.data.toList y.data.toList))∧w'=w:=by
 have h1:Op.bytesLess x.toList y.toList=decide (x.data.toList<y.data.toList):=by simp only[Lib.toList_data,Go.Proofs.bytesLess_eq]
 have h2:Op.bytesLess y.toList x.toList=decide (y.data.toList<x.data.toList):=by simp only[Lib.toList_data,Go.Proofs.bytesLess_eq]
 unfold AV
 by_cases a:x.data.toList<y.data.toList
 ·rw[if_pos a]
  rw[iX a] at h1;clear h2 a;go_enter Tryz.func134,Tryz.ntmps134;go_wp2_with (go_at_call 212;refine(JQ _ _).mono ?_;rintro e w' ⟨rfl,rfl⟩);go_ret;exact⟨rfl,rfl⟩
 ·rw[if_neg a]
  rw[dA a] at h1
  have h3:(x.toList == y.toList)=decide (x.data.toList=y.data.toList):=by rw[Bool.eq_iff_iff];simp only[Lib.toList_data,beq_iff_eq,decide_eq_true_eq]
  by_cases b:y.data.toList<x.data.toList
  ·rw[if_pos b]
   rw[dA (fun q=>by rw[q] at b;exact List.lt_irrefl _ b)] at h3;clear a b h2;go_enter Tryz.func134,Tryz.ntmps134;go_wp2_with (go_at_call 212;refine(JQ _ _).mono ?_;rintro e w' ⟨rfl,rfl⟩);go_ret;exact⟨rfl,rfl⟩
  ·rw[if_neg b]
   rw[iX (qh (List.not_lt.1 b) (List.not_lt.1 a))] at h3;clear a b h2;go_enter Tryz.func134,Tryz.ntmps134;go_wp2_with (go_at_call 212;refine(JQ _ _).mono ?_;rintro e w' ⟨rfl,rfl⟩);go_ret;exact⟨rfl,rfl⟩
theorem abo {l:List Value}(h:l.length=4):∃ a b c d,l=[a,b,c,d]:=by
 match l,h with
 | [a,b,c,d],_=>exact⟨a,b,c,d,rfl⟩
theorem MG {w:World}{b:Nat}{v0 v1 v2 v3 v4:Value}(h:w.heap[b]?=some (.cells #[v0,v1,v2,v3,v4] 166 (0,0))):w.cell? ⟨b,0,none⟩=some v0:=by rw[aV h];rfl
theorem Tryz.Qh:∀ args w,(callFunc 133 args).run Tryz.prog w=.ok (.enter 133 args) w:=Go.Proofs.enters_of Tryz.func133 (by kernel_rfl) rfl
theorem MH (k x:List UInt8)(v1 v2 v3 v4:Value)(w:World) :
  Calls Tryz.prog 133 (#[.agg #[.string ⟨k.toArray⟩,v1,v2,v3,v4],.string ⟨x.toArray⟩]++#[]) w fun e w'=>e=.returned (.int .i64 (AV k x))∧Below w.heap.size w w':=by
 have hal:=aB w (.cells #[.string ⟨k.toArray⟩,v1,v2,v3,v4] 166);have hN:=aY w (.cells #[.string ⟨k.toArray⟩,v1,v2,v3,v4] 166);have HC:=ay (fun W=>MF ⟨k.toArray⟩ ⟨x.toArray⟩ W);simp only at HC;show Calls Tryz.prog 133 #[.agg #[.string ⟨k.toArray⟩,v1,v2,v3,v4],.string ⟨x.toArray⟩] w _;generalize AV k x=c at *;go_enter Tryz.func133,Tryz.ntmps133
 go_upto_region 1 with fail
 change Code.wp _ _ _ _ (w.alloc (.cells #[.string ⟨k.toArray⟩,v1,v2,v3,v4] 166));generalize w.alloc _=w1 at hal hN ⊢;have c0:=MG hN;go_wp2_with (go_at_call 134;refine(HC.out _).mono ?_;rintro e w2 ⟨rfl,rfl⟩);go_ret;exact⟨rfl,hal⟩
def XF (w:World)(b off:Nat)(l:ML):Prop:=∀ i,(hi:i<l.length)→∀ j u,(dF l[i])[j]?=some u→w.cell? ⟨b,off+i * 5+j,none⟩=some u
theorem XF.below {w w':World}{b off:Nat}{l:ML}(h:XF w b off l)(hb:Below w.heap.size w w'):XF w' b off l:=fun i hi j u hu=>iW hb (h i hi j u hu)
theorem MI (ao:Option Addr)(cap:Nat)(l:ML)(x:List UInt8)(w:World)(hw:BX 4 l)(h:0<l.length→∃ b off,ao=some ⟨b,off,none⟩∧XF w b off l)(hn:l.length≤1000000) :
  Calls Tryz.prog 132 #[.slice ao l.length cap,.string ⟨x.toArray⟩,.func (.func 133) #[] #[]] w
   fun e w'=>e=.returned (.tuple #[.int .i64 (bP l x:Nat),.bool (rE l x)])∧Below w.heap.size w w':=by
 have HW:=ay hw;have HR:=ay h;have hpl:=sM l x;have HH:=ay (Dv hw x);have HI:=ay (fun t (ht:t<l.length)=>xW hw (x:=x) ht);generalize hp:bP l x=p at *;have HP:=ay hp;generalize rE l x=hs at *;have eg:=Tryz.Qh;clear hw h hp;go_enter Tryz.func132,Tryz.ntmps132;go_wp2
 go_loopw [9,10] (fun s9 s10 wr=>∃ lo hi:Nat,s9=.int .i64 lo∧s10=.int .i64 hi∧lo≤p∧p≤hi∧hi≤l.length∧Below w.heap.size w wr) (fun s9 s10 _=>(intOf s10).toNat - (intOf s9).toNat)
 case atStart=>exact⟨0,l.length,rfl,rfl,lI _,hpl,bD _,bI _ _⟩
 case round =>
  obtain⟨lo,hi,rfl,rfl,h1,h2,h3,hb⟩:=hrel;have hz:=hb.size
  by_cases hlt:lo<hi
  ·have hmid:(lo+hi) / 2<l.length:=by omega
   obtain⟨b,off,rfl,hrw⟩:=HR.out (by omega);have hc:=(hrw.below hb) ((lo+hi) / 2) hmid;obtain⟨v1,v2,v3,v4,hv⟩:=abo (HW.out.wid _ (mX hmid));rw[dF,hv] at hc;have x0:=hc 0 _ rfl;have x1:=hc 1 _ rfl;have x2:=hc 2 _ rfl;have x3:=hc 3 _ rfl;have x4:=hc 4 _ rfl;rw[Nat.add_zero] at x0;have hiff:=HI.out _ hmid;generalize l[(lo+hi) / 2].1=k at x0 hiff;have HC:=ay (fun W=>MH k x v1 v2 v3 v4 W);clear hc hv hrw
   by_cases hm:(lo+hi) / 2<p
   ·have hcv:=abl (hiff.2 hm)
    rw[hcv] at HC;clear hcv hiff;go_wp2_with (go_at_fn 133;refine(HC.out _).mono ?_;rintro e w2 ⟨rfl,hb2⟩)
    go_roundw
    case rel=>exact⟨(lo+hi) / 2+1,hi,by rw[show ((lo:Int)+(hi:Int)) / 2+1=(((lo+hi) / 2+1:Nat):Int) by omega],rfl,by omega,h2,h3,hb.trans (hb2.mono hz)⟩
    case measure=>simp[intOf];omega
   ·have hcv:=abm (fun q=>hm (hiff.1 q))
    generalize AV k x=c at HC hcv
    have hcI:¬ (c<0):=by omega
    clear hiff hcv;go_wp2_with (go_at_fn 133;refine(HC.out _).mono ?_;rintro e w2 ⟨rfl,hb2⟩)
    go_roundw
    case rel=>exact⟨lo,(lo+hi) / 2,rfl,by rw[show ((lo:Int)+(hi:Int)) / 2=(((lo+hi) / 2:Nat):Int) by omega],h1,by omega,by omega,hb.trans (hb2.mono hz)⟩
    case measure=>simp[intOf];omega
  ·obtain rfl:lo=hi:=by omega
   obtain rfl:lo=p:=by omega
   by_cases hn2:lo<l.length
   ·obtain⟨b,off,rfl,hrw⟩:=HR.out (by omega)
    have hc:=(hrw.below hb) lo hn2;obtain⟨v1,v2,v3,v4,hv⟩:=abo (HW.out.wid _ (mX hn2));rw[dF,hv] at hc;have x0:=hc 0 _ rfl;have x1:=hc 1 _ rfl;have x2:=hc 2 _ rfl;have x3:=hc 3 _ rfl;have x4:=hc 4 _ rfl;rw[Nat.add_zero] at x0;have hiff:=HI.out _ hn2
    have hhs:hs=decide (l[lo].1=x):=by
     rw[HH.out]
     apply decide_eq_decide.2
     exact⟨fun ⟨_,q⟩=>q,fun q=>⟨hn2,q⟩⟩
    generalize l[lo].1=k at x0 hiff hhs;have hce:=abn (fun q:k<x=>Nat.lt_irrefl _ (hiff.1 q));rw[← hhs] at hce;have HC:=ay (fun W=>MH k x v1 v2 v3 v4 W);have HE:Hid (∀ c,AV k x=c→decide (c=0)=hs):=ay (fun c q=>by rw[← q];exact hce);generalize hcc:AV k x=c at HC;have hc0:=HE.out c hcc;clear hc hv hrw hiff hhs hce hcc HE
    have hnI:(lo:Int)<(l.length:Int):=by omega
    go_wp2_with (go_at_fn 133;refine(HC.out _).mono ?_;rintro e w2 ⟨rfl,hb2⟩);go_ret2;exact⟨by rw[← hc0];rfl,hb.trans (hb2.mono hz)⟩
   ·have hhs:hs=false:=by
     rw[HH.out];exact dA (fun ⟨q,_⟩=>hn2 q)
    subst hhs
    have hnI:¬ (lo:Int)<(l.length:Int):=by omega
    go_wp2;go_ret2;exact⟨by simp,hb⟩
structure yA (B mb:Nat) (v:Value) (l:ML) (w:World):Prop where
 wf:BX 4 l
 box:w.heap[mb]?=some (.cells #[v] 161 (0,0))
 own:w.ownsRow B 166 5 v l.length (jO l)
theorem yA.below {B mb:Nat}{v:Value}{l:ML}{w w':World}(h:yA B mb v l w)(hb:Below w.heap.size w w'):yA B mb v l w' :=
 ⟨h.wf,(hb.block mb (bS h.box).1).trans h.box,own_below h.own hb⟩
theorem yA.slice {B mb:Nat}{v:Value}{l:ML}{w:World}(h:yA B mb v l w):∃ ao cap,v=.slice ao l.length cap∧(0<l.length→∃ b off,ao=some ⟨b,off,none⟩∧XF w b off l):=by
 obtain⟨ao,cap,hv,hn,hl,hc⟩:=Sl.fZ h.own;refine⟨ao,cap,hv,fun h0=>?_⟩;obtain⟨b,off,e,hlt,hcell⟩:=hc h0;refine⟨b,off,e,fun i hi j u hu=>?_⟩
 have hj:j<5:=by
  rcases Nat.lt_or_ge j 5 with q|q
  ·exact q
  ·rw[List.getElem?_eq_none (by rw[dF,dR,h.wf.wid _ (mX hi)];exact q)] at hu;cases hu
 obtain⟨h',e'⟩:=pJ ((Sq h.wf.wid i j hi hj).trans hu);have:=hcell (i * 5+j) h';rw[Nat.add_assoc,this,e']
theorem rU {w:World}{b:Nat}{v:Value}(h:w.heap[b]?=some (.cells #[v] 161 (0,0))):w.cell? ⟨b,0,none⟩=some v∧w.frozen? ⟨b,0,none⟩=false:=⟨by rw[aV h];rfl,by simp[World.frozen?,h]⟩
theorem Io (B mb:Nat)(v:Value)(l:ML)(x:List UInt8)(w:World)(h:yA B mb v l w)(hn:l.length≤1000000) :
  Calls Tryz.prog 78 #[.pointer (some ⟨mb,0,none⟩),.string ⟨x.toArray⟩] w
   fun e w'=>e=.returned (.tuple #[.int .i64 (bP l x:Nat),.bool (rE l x)])∧Below w.heap.size w w':=by
 obtain⟨ao,cap,rfl,hr⟩:=h.slice;have c0:=(rU h.box).1;have HS:=ay (MI ao cap l x w h.wf hr hn);generalize bP l x=p at *;generalize rE l x=q at *;clear h hr;go_enter Tryz.func78,Tryz.ntmps78;go_wp2_with (go_at_call 132;refine HS.out.mono ?_;rintro e w2 ⟨rfl,hb2⟩);go_ret2;exact⟨rfl,hb2⟩
def uY (w:World)(b:Nat)(v0 v1 v2 v3:Value):World:=(((w.setCell ⟨b,0,none⟩ v0).setCell ⟨b,1,none⟩ v1).setCell ⟨b,2,none⟩ v2).setCell ⟨b,3,none⟩ v3
theorem jH {B:Nat}{w0 w:World}(h:Below B w0 w){b:Nat}(hb:B≤b)(v0 v1 v2 v3:Value):Below B w0 (uY w b v0 v1 v2 v3) :=
 (((h.setCell hb _).setCell hb _).setCell hb _).setCell hb _
theorem lW {w:World}{b:Nat}{c0 c1 c2 c3:Value}{T:TypeId}(h:w.heap[b]?=some (.cells #[c0,c1,c2,c3] T (0,0)))(v0 v1 v2 v3:Value) :
  (uY w b v0 v1 v2 v3).heap[b]?=some (.cells #[v0,v1,v2,v3] T (0,0)) :=
 heap_setCell_same _ b 3 _ _ v3 (heap_setCell_same _ b 2 _ _ v2 (heap_setCell_same _ b 1 _ _ v1 (heap_setCell_same w b 0 _ _ v0 h)))
theorem qH {w:World}{b:Nat}{c0 c1 c2 c3:Value}{T:TypeId}(h:w.heap[b]?=some (.cells #[c0,c1,c2,c3] T (0,0))):(w.cell? ⟨b,0,none⟩=some c0∧w.cell? ⟨b,1,none⟩=some c1∧w.cell? ⟨b,2,none⟩=some c2∧w.cell? ⟨b,3,none⟩=some c3)∧(w.frozen? ⟨b,0,none⟩=false∧w.frozen? ⟨b,1,none⟩=false∧w.frozen? ⟨b,2,none⟩=false∧w.frozen? ⟨b,3,none⟩=false):=by
 refine⟨⟨?_,?_,?_,?_⟩,?_,?_,?_,?_⟩
 ·rw[aV h];rfl
 ·rw[aV h];rfl
 ·rw[aV h];rfl
 ·rw[aV h];rfl
 ·simp[World.frozen?,h]
 ·simp[World.frozen?,h]
 ·simp[World.frozen?,h]
 ·simp[World.frozen?,h]
def AX (l:ML)(x:List UInt8)(w:World)(e:Ending)(w':World):Prop :=
 (match sK l x with|none=>e=.returned (.tuple #[.agg #[.string ⟨#[]⟩,.slice none 0 0,.int .i64 0,.slice none 0 0],.bool false])|some v=>e=.returned (.tuple #[.agg v.toArray,.bool true]))∧Below w.heap.size w w'
theorem AX.no {l:ML}{x:List UInt8}{w w':World}{e:Ending}(h:sK l x=none)(he:e=.returned (.tuple #[.agg #[.string ⟨#[]⟩,.slice none 0 0,.int .i64 0,.slice none 0 0],.bool false]))(hb:Below w.heap.size w w'):AX l x w e w':=⟨by rw[h];exact he,hb⟩
theorem AX.yes {l:ML}{x:List UInt8}{w w':World}{e:Ending}{v:List Value}(h:sK l x=some v)(he:e=.returned (.tuple #[.agg v.toArray,.bool true]))(hb:Below w.heap.size w w'):AX l x w e w':=⟨by rw[h];exact he,hb⟩
theorem MJ (B mb:Nat)(v:Value)(l:ML)(x:List UInt8)(w:World)(h:yA B mb v l w)(hn:l.length≤1000000) :
  Calls Tryz.prog 49 #[.pointer (some ⟨mb,0,none⟩),.string ⟨x.toArray⟩] w (AX l x w):=by
 have hal:=aB w (.cells #[.string ⟨#[]⟩,.slice none 0 0,.int .i64 0,.slice none 0 0] 53);have hR:=aY w (.cells #[.string ⟨#[]⟩,.slice none 0 0,.int .i64 0,.slice none 0 0] 53);have h1:=h.below hal;have HM:=ay h1;have HF:=ay (Io B mb v l x (w.alloc (.cells #[.string ⟨#[]⟩,.slice none 0 0,.int .i64 0,.slice none 0 0] 53)) h1 hn);have hmb:=(bS h.box).1;have hpl:=sM l x;have HH:=ay (Dv h.wf x);have HN:=ay (fun (q:rE l x=false)=>Ud q);have HG:=ay (fun i (hi:i<l.length) e=>aaV h.wf (x:=x) (i:=i) hi e);clear h h1;generalize hp:bP l x=p at *;generalize rE l x=q at *;clear hp;go_enter Tryz.func49,Tryz.ntmps49
 go_upto_region 1 with fail
 change Code.wp _ _ _ _ (w.alloc (.cells #[.string ⟨#[]⟩,.slice none 0 0,.int .i64 0,.slice none 0 0] 53))
 have hz:w.heap.size<(w.alloc (.cells #[.string ⟨#[]⟩,.slice none 0 0,.int .i64 0,.slice none 0 0] 53)).heap.size:=by simp
 generalize w.alloc _=w1 at *
 go_upto_region 2 with (go_at_call 78;refine HF.out.mono ?_;rintro e w2 ⟨rfl,hb2⟩)
 have hR2:=(hb2.block _ hz).trans hR;have hM2:=HM.out.below hb2;have hbw:=hal.trans (hb2.mono hal.size);have hz2:=hb2.size;clear HF HM hR hal
 cases q with
 | false =>
  have hnone:=ay (HN.out rfl);clear HN HG HH;have gW:=aB w2 (.cells #[.string ⟨#[]⟩,.slice none 0 0,.int .i64 0,.slice none 0 0] 53);have Qi:=aY w2 (.cells #[.string ⟨#[]⟩,.slice none 0 0,.int .i64 0,.slice none 0 0] 53);have hR3:=(gW.block w.heap.size (by omega)).trans hR2
  go_upto_region 4 with fail
  change Code.wp _ _ _ _ (w2.alloc (.cells #[.string ⟨#[]⟩,.slice none 0 0,.int .i64 0,.slice none 0 0] 53));have uZ:=hbw.trans (gW.mono hbw.size);generalize w2.alloc _=w3 at *;obtain⟨⟨a0,a1,a2,a3⟩,-⟩:=qH Qi;obtain⟨⟨c0,c1,c2,c3⟩,f0,f1,f2,f3⟩:=qH hR3;go_wp2;change bodyPost _ _ _ _ _ (uY w3 w.heap.size (.string ⟨#[]⟩) (.slice none 0 0) (.int .i64 0) (.slice none 0 0));have hP:=lW hR3 (.string ⟨#[]⟩) (.slice none 0 0) (.int .i64 0) (.slice none 0 0);have UC:=jH uZ (bD _) (.string ⟨#[]⟩) (.slice none 0 0) (.int .i64 0) (.slice none 0 0);generalize uY w3 _ _ _ _ _=w4 at *;obtain⟨⟨d0,d1,d2,d3⟩,-⟩:=qH hP;exact bodyPost_ret (v:=.tuple #[.agg #[.string ⟨#[]⟩,.slice none 0 0,.int .i64 0,.slice none 0 0],.bool false]) (by simp[results,Tryz.results49,go_sem,d0,d1,d2,d3]) rfl (AX.no hnone.out rfl UC)
 | true =>
  have hq:=HH.out;obtain⟨hpn,hpx⟩:=of_decide_eq_true hq.symm;have hg:=HG.out p hpn hpx;obtain⟨ao,cap,rfl,hr⟩:=hM2.slice;obtain⟨b,off,rfl,hrw⟩:=hr (by omega);have hc:=hrw p hpn;obtain⟨v1,v2,v3,v4,hv⟩:=abo (hM2.wf.wid _ (mX hpn));rw[hv] at hg;rw[dF,hv] at hc;have x1:=hc 1 _ rfl;have x2:=hc 2 _ rfl;have x3:=hc 3 _ rfl;have x4:=hc 4 _ rfl;have m0:=(rU hM2.box).1;have hG:=ay hg;have ho:=hM2.wf.one _ (mX hpn);rw[hv] at ho
  have s1:=fun a m W=>run_store Tryz.prog W a v1 m (ho v1 (by simp))
  have s2:=fun a m W=>run_store Tryz.prog W a v2 m (ho v2 (by simp))
  have s3:=fun a m W=>run_store Tryz.prog W a v3 m (ho v3 (by simp))
  have s4:=fun a m W=>run_store Tryz.prog W a v4 m (ho v4 (by simp))
  clear ho;obtain⟨⟨c0,c1,c2,c3⟩,f0,f1,f2,f3⟩:=qH hR2;clear hc hv hg hq HH HG HN hpx hrw hr hM2;go_wp2;change bodyPost _ _ _ _ _ (uY w2 w.heap.size v1 v2 v3 v4);have hP:=lW hR2 v1 v2 v3 v4;have UC:=jH hbw (bD _) v1 v2 v3 v4;generalize uY w2 _ _ _ _ _=w4 at *;obtain⟨⟨d0,d1,d2,d3⟩,-⟩:=qH hP;exact bodyPost_ret (v:=.tuple #[.agg #[v1,v2,v3,v4],.bool true]) (by simp[results,Tryz.results49,go_sem,d0,d1,d2,d3]) rfl (AX.yes hG.out rfl UC)
theorem oM {P:Program}(w:World)(dT sT ty elem:TypeId)(k g o dLen dCap:Nat)(a:Addr)(sLen sCap:Nat)(cur:Array Value)(t:TypeId)(cs:List Value)
  (hu:P.underlying dT=some (.slice elem)) (hs:(P.info? elem).map (·.size)=some k) (hg:w.heap[g]?=some (.cells cur t (0,0))) (hn:cs.length=Nat.min sLen dLen * k)
  (hsrc:∀ j v,cs[j]?=some v→w.cell? (a.add j)=some v) (hfit:o+cs.length≤cur.size) (h1:∀ v∈cs,v.oneCell'=true) :
  (Builtin.copy_ #[dT,sT] ty #[.slice (some ⟨g,o,none⟩) dLen dCap,.slice (some a) sLen sCap]).run P w =
   .ok (goInt (Nat.min sLen dLen)) (w.setRow g (cur.toList.take o++cs++cur.toList.drop (o+cs.length)).toArray):=by
 have hf:=run_firstCells_some (P:=P) w k (Nat.min sLen dLen) a sLen sCap cs hn hsrc;have hst:=run_storeCells_at P g o t cs 0 cur w hg (by simpa using hfit) h1
 cases hq:P.info? elem with
 | none=>simp[hq] at hs
 | some i =>
  have hi:i.size=k:=by simpa [hq] using hs
  simp[Builtin.copy_,run_underlying hu,Builtin.lenOf,sizeOf,typeInfo,hq,hi,hf,hst]
theorem MK {w:World}{g n:Nat}{cur:Array Value}{t:TypeId}{fr:Nat × Nat}(h:w.heap[g]?=some (.cells cur t fr))(hn:cur.size=n):w.shape? g=some (t,n):=by
 subst hn;simp only[World.shape?,h]
theorem setRow_size (w:World)(g:Nat)(A:Array Value):(w.setRow g A).heap.size=w.heap.size:=by simp[World.setRow]
theorem zC {w:World}{g:Nat}{cur:Array Value}{t:TypeId}(hg:w.heap[g]?=some (.cells cur t (0,0))){j:Nat}{v:Value}(h:cur.toList[j]?=some v):w.cell? ⟨g,j,none⟩=some v:=by
 simp only[World.cell?,hg];rw[Array.getElem?_toList] at h
 simpa using h
theorem Qj (cur:List Value)(n i k:Nat)(hi:i≤n)(hc:(n+1) * k≤cur.length)(nw row:List Value)(hr:cur.take (n * k)=row)(hw:nw.length=k) :
  let c1:=cur.take ((i+1) * k)++row.drop (i * k)++cur.drop ((i+1) * k+(row.drop (i * k)).length)
  let c2:=c1.take (i * k)++nw++c1.drop (i * k+nw.length)
  c1.length=cur.length∧c2.length=cur.length∧c2.take ((n+1) * k)=row.take (i * k)++(nw++row.drop (i * k)):=by
 have e1:(n+1) * k=n * k+k:=Nat.succ_mul n k;have e2:(i+1) * k=i * k+k:=Nat.succ_mul i k;have e3:i * k≤n * k:=Nat.mul_le_mul_right k hi;rw[e1] at hc
 have hrl:row.length=n * k:=by rw[← hr,qZ];omega
 have hd:(row.drop (i * k)).length=n * k - i * k:=by rw[List.length_drop,hrl]
 simp only[e1,e2,hd,hw];generalize hN:n * k=N at *;generalize hI:i * k=I at *
 have hl1:(cur.take (I+k)++row.drop I++cur.drop (I+k+(N - I))).length=cur.length:=by
  rw[bN,bN,qZ,List.length_drop,List.length_drop,hrl];omega
 refine⟨hl1,?_,?_⟩
 ·rw[bN,bN,qZ,List.length_drop,hl1,hw];omega
 ·have ht:(cur.take (I+k)++row.drop I++cur.drop (I+k+(N - I))).take I=row.take I:=by
   rw[nQ,List.take_append_of_le_length (by rw[qZ];omega),List.take_take,Nat.min_eq_left (by omega),← hr,List.take_take,Nat.min_eq_left e3]
  have hdr:(cur.take (I+k)++row.drop I++cur.drop (I+k+(N - I))).drop (I+k)=row.drop I++cur.drop (I+k+(N - I)):=by
   rw[nQ,List.drop_append_of_le_length (by rw[qZ];omega),List.drop_of_length_le (by rw[qZ];omega),qc]
  rw[ht,hdr,nQ]
  have hlt:(row.take I).length=I:=by rw[qZ,hrl];omega
  rw[List.take_append,Au (l:=row.take I) (by rw[hlt];omega),hlt,List.take_append,Au (l:=nw) (by rw[hw];omega),hw,List.take_append,Au (l:=row.drop I) (by rw[hd];omega),hd];rw[show N+k - I - k - (N - I)=0 by omega,List.take_zero,List.append_nil]
theorem MN (R:List Value)(n i k:Nat)(hi:i≤n)(hc:(n+1) * k≤R.length)(nw row:List Value)(hr:R.take (i * k)=row.take (i * k))(hrl:row.length=n * k)(hw:nw.length=k) :
  let c1:=R.take (i * k)++nw++R.drop (i * k+nw.length)
  let c2:=c1.take ((i+1) * k)++row.drop (i * k)++c1.drop ((i+1) * k+(row.drop (i * k)).length)
  c1.length=R.length∧c2.length=R.length∧c2.take ((n+1) * k)=row.take (i * k)++(nw++row.drop (i * k)):=by
 have e1:(n+1) * k=n * k+k:=Nat.succ_mul n k;have e2:(i+1) * k=i * k+k:=Nat.succ_mul i k;have e3:i * k≤n * k:=Nat.mul_le_mul_right k hi;rw[e1] at hc
 have hd:(row.drop (i * k)).length=n * k - i * k:=by rw[List.length_drop,hrl]
 simp only[e1,e2,hd,hw];generalize hN:n * k=N at *;generalize hI:i * k=I at *
 have hl0:(R.take I).length=I:=by rw[qZ];omega
 have hl1:(R.take I++nw++R.drop (I+k)).length=R.length:=by
  rw[bN,bN,hl0,List.length_drop,hw];omega
 refine⟨hl1,?_,?_⟩
 ·rw[bN,bN,qZ,hd,List.length_drop,hl1];omega
 ·have ht:(R.take I++nw++R.drop (I+k)).take (I+k)=row.take I++nw:=by
   rw[List.take_append_of_le_length (by rw[bN,hl0,hw];omega),Au (by rw[bN,hl0,hw];omega),hr]
  have hl2:(row.take I).length=I:=by rw[← hr,hl0]
  rw[ht,nQ,nQ,List.take_append,Au (l:=row.take I) (by rw[hl2];omega),hl2,List.take_append,Au (l:=nw) (by rw[hw];omega),hw,List.take_append,Au (l:=row.drop I) (by rw[hd];omega),hd];rw[show N+k - I - k - (N - I)=0 by omega,List.take_zero,List.append_nil]
end Go.Proofs.YtmhdgeekclhbbaaGreatDoor

namespace Go.Proofs.YtmhdgeekclhbbaaGreatDoor
open Go.RowKit Go Go.Lib
theorem Tryz.AY:(Tryz.prog.info? 166).map (fun i=>(i.zero,i.size,i.bytes))=some (some (.agg #[.string ⟨#[]⟩,.string ⟨#[]⟩,.slice none 0 0,.int .i64 0,.slice none 0 0]),5,88):=by kernel_rfl
def Qk (B:Nat)(v:Value)(l:ML)(x:List UInt8)(vs:List Value)(w:World)(e:Ending)(w':World):Prop :=
 ∃ g cap,e=.returned (.slice (some ⟨g,0,none⟩) (l.length+1) cap)∧w'.ownsRow B 166 5 (.slice (some ⟨g,0,none⟩) (l.length+1) cap) (l.length+1) (jO (sj l x vs))∧w.grownBy w' v.ownBlock∧(v.ownBlock=some g∨w.heap.size≤g)
theorem CV (B sb:Nat)(v:Value)(l:ML)(x:List UInt8)(vs:List Value)(w:World)(hw:BX 4 l)(hB:B≤w.heap.size)(hn:l.length≤1000000)(hp:bP l x=l.length)(hvl:vs.length=4)(h1:∀ u∈vs,u.oneCell'=true)
  (hown:w.ownsRow B 166 5 v l.length (jO l)) (hsb:w.heap[sb]?=some (.cells (dF (x,vs)).toArray 166 (0,0))) :
  Calls Tryz.prog 79 #[v,.int .i64 l.length,.slice (some ⟨sb,0,none⟩) 1 1] w (Qk B v l x vs w):=by
 obtain⟨i0,hi,hz0,hz1,hz2⟩:=info_parts Tryz.AY
 have hrow:jO (sj l x vs)=jO l++dF (x,vs):=by
  rw[Dw l x vs hw.wid,hp,Au (by rw[qB hw.wid];omega),List.drop_of_length_le (by rw[qB hw.wid];omega),List.append_nil]
 have hnl:(dF (x,vs)).length=1 * 5:=by rw[dF,dR,hvl]
 have hn1:∀ u∈dF (x,vs),u.oneCell'=true:=fun u hu=>by
  rcases List.mem_cons.1 hu with q|q
  ·rw[q];rfl
  ·exact h1 u q
 have HW:=ay hown;have HR:=ay hrow;have hnews:=vv hsb;unfold Qk;generalize hmr:jO l=mr at *;generalize jO (sj l x vs)=mr' at *;generalize hmc:dF (x,vs)=mc at *;generalize hnn:l.length=n at *;clear hrow hp hmr hmc hw hsb hnn
 rcases hown.2 with ⟨rfl,rfl⟩|⟨g,cap,cur,rfl,hg,hh,hnc,hm,hs,hx⟩
 ·clear hown
  go_enter Tryz.func79,Tryz.ntmps79;go_wp2_with (at_builtin;refine wpList_append_lies _ rfl _ _ 159 rfl B 166 i0 _ 5 88 Tryz.underlying159 hi hz0 hz1 hz2 rfl (by decide) _ 0 _ rfl HW.out ⟨sb,0,none⟩ 1 1 _ rfl hnl hnews hn1 (by decide) (by unfold maxLen;omega) (by omega) hB _ rfl ?_;intro g cap w' hown' hgrow hor hlt);go_ret;exact⟨g,cap,rfl,by rw[HR.out];exact hown',hgrow,hor.imp id (fun q=>by omega)⟩
 ·clear hown hh hs hx hg
  unfold maxLen at hm;go_enter Tryz.func79,Tryz.ntmps79;go_wp2_with (at_builtin;refine wpList_append_lies _ rfl _ _ 159 rfl B 166 i0 _ 5 88 Tryz.underlying159 hi hz0 hz1 hz2 rfl (by decide) _ n _ rfl HW.out ⟨sb,0,none⟩ 1 1 _ rfl hnl hnews hn1 (by decide) (by unfold maxLen;omega) (by omega) hB _ rfl ?_;intro g cap w' hown' hgrow hor hlt)
  all_goals
   go_ret;exact⟨g,cap,rfl,by rw[HR.out];exact hown',hgrow,hor.imp id (fun q=>by omega)⟩
theorem Ee (B sb g c:Nat)(l:ML)(x:List UInt8)(vs:List Value)(w:World)(hw:BX 4 l)(hn:l.length≤1000000)(hp:bP l x<l.length)(hvl:vs.length=4)(h1:∀ u∈vs,u.oneCell'=true)(hroom:l.length+1≤c)
  (hown:w.ownsRow B 166 5 (.slice (some ⟨g,0,none⟩) l.length c) l.length (jO l)) (hsb:w.heap[sb]?=some (.cells (dF (x,vs)).toArray 166 (0,0))) (hne:sb≠g) :
  Calls Tryz.prog 79 #[.slice (some ⟨g,0,none⟩) l.length c,.int .i64 (bP l x:Nat),.slice (some ⟨sb,0,none⟩) 1 1] w (Qk B (.slice (some ⟨g,0,none⟩) l.length c) l x vs w):=by
 obtain⟨i0,hi0,hz0,hzs,hzb⟩:=info_parts Tryz.AY
 have hsz:(Tryz.prog.info? 166).map (·.size)=some 5:=by rw[hi0];simp[hzs]
 have hnl:(dF (x,vs)).length=5:=by rw[dF,dR,hvl]
 have hn1:∀ u∈dF (x,vs),u.oneCell'=true:=fun u hu=>by
  rcases List.mem_cons.1 hu with q|q
  ·rw[q];rfl
  ·exact h1 u q
 have abp:w.heap[sb]?=some (.cells (dF (x,vs)).toArray 166 (0,0)):=hsb
 have afW:(dF (x,vs)).toArray.size=5:=by rw[List.size_toArray,hnl]
 have hr1:=LH hw;have hrl:=qB hw.wid;have hnews:=vv hsb;have hrow:=Dw l x vs hw.wid
 rcases hown.2 with ⟨hv,_⟩|⟨g',jE,cur,hv,hg,hh,hnc,hm,hs,hx⟩
 ·cases hv
 simp only[Value.slice.injEq,Option.some.injEq,Addr.mk.injEq,and_true] at hv;obtain⟨rfl,-,rfl⟩:=hv;unfold maxLen at hm
 have hcl:cur.toList.length=c * 5:=by rw[Array.length_toList,hs]
 have hins:=Qj cur.toList l.length (bP l x) 5 (Nat.le_of_lt hp) (by omega) (dF (x,vs)) (jO l) hx hnl;simp only at hins;obtain⟨k1,k2,k3⟩:=hins;rw[← hrow] at k3;unfold Qk;generalize jO (sj l x vs)=mr' at *;generalize hmr:jO l=mr at *;generalize hmc:dF (x,vs)=mc at *;generalize hii:bP l x=i at *;generalize hnn:l.length=n at *;clear hrow hmr hmc hw hsb hnn hii h1 hvl
 have hdl:(mr.drop (i * 5)).length=(n - i) * 5:=by rw[List.length_drop,hrl];omega
 -- the two copies
 obtain⟨c1,hc1⟩:∃ c1,c1=cur.toList.take ((i+1) * 5)++mr.drop (i * 5)++cur.toList.drop ((i+1) * 5+(mr.drop (i * 5)).length):=⟨_,rfl⟩
 rw[← hc1] at k1 k2 k3
 have hcp1:∀ (W:World),W.heap[g]?=some (.cells cur 166 (0,0))→∀ ty dc sc,(Builtin.copy_ #[159,159] ty #[.slice (some ⟨g,(i+1) * 5,none⟩) (n - i) dc,.slice (some ⟨g,i * 5,none⟩) (n+1 - i) sc]).run Tryz.prog W=.ok (goInt (n - i:Nat)) (W.setRow g c1.toArray):=fun W hW ty dc sc=>by
  have hmin:Nat.min (n+1 - i) (n - i)=n - i:=by simp only[Nat.min_def];split<;>omega
  have:=oM (P:=Tryz.prog) W 159 159 ty 166 5 g ((i+1) * 5) (n - i) dc ⟨g,i * 5,none⟩ (n+1 - i) sc cur _ (mr.drop (i * 5)) Tryz.underlying159 hsz hW (by rw[hmin,hdl])
   (fun j v hj=>by
    rw[List.getElem?_drop,← hx] at hj;rw[List.getElem?_take] at hj
    split at hj
    ·rw[Addr.add_lit]
     exact zC hW hj
    ·cases hj) (by rw[hdl,hs];omega) (fun v hv=>hr1 v (List.mem_of_mem_drop hv))
  rw[hmin,← hc1] at this;exact this
 obtain⟨c2,hc2⟩:∃ c2,c2=c1.take (i * 5)++mc++c1.drop (i * 5+mc.length):=⟨_,rfl⟩
 rw[← hc2] at k2 k3
 have hcp2:∀ (W:World),W.heap[g]?=some (.cells c1.toArray 166 (0,0))→(∀ j u,mc[j]?=some u→W.cell? ((⟨sb,0,none⟩:Addr).add j)=some u)→∀ ty dc,(Builtin.copy_ #[159,159] ty #[.slice (some ⟨g,i * 5,none⟩) (n+1 - i) dc,.slice (some ⟨sb,0,none⟩) 1 1]).run Tryz.prog W=.ok (goInt 1) (W.setRow g c2.toArray):=fun W hW hsrc ty dc=>by
  have hmin:Nat.min 1 (n+1 - i)=1:=by simp only[Nat.min_def];split<;>omega
  have:=oM (P:=Tryz.prog) W 159 159 ty 166 5 g (i * 5) (n+1 - i) dc ⟨sb,0,none⟩ 1 1 c1.toArray _ mc Tryz.underlying159 hsz hW (by rw[hmin,hnl]) hsrc (by rw[List.size_toArray,k1,hnl,hcl];omega) hn1;rw[hmin,List.toList_toArray,← hc2] at this;exact this
 have hbg:g<w.heap.size:=(bS hh).1
 have hov:∀ lb cb,(callFunc 135 #[.slice (some ⟨sb,0,none⟩) 1 1,.slice (some ⟨g,(i+1) * 5,none⟩) lb cb]).run Tryz.prog w=.ok (.value (.bool false)) w:=fun lb cb=>by
  rw[run_callFunc_extern Tryz.func135 (by kernel_rfl) (by kernel_rfl) (by kernel_rfl) (e:=Extern.SlicesOverlaps.overlaps #[159,159] #[4]) (by kernel_rfl),
   Lib.run_overlaps_apart w 159 4 166 Tryz.underlying159 5 Tryz.sizeOf166 ⟨sb,0,none⟩ ⟨g,(i+1) * 5,none⟩ 1 1 lb cb hne 166 166 5 (c * 5) (MK abp afW) (MK hh hs) (by omega) (by simp[World.frozen?,abp]) (by simp[World.frozen?,abp])]
  rfl
 have hcpA:=hcp1 w.drew hh;have hw1:(w.drew.setRow g c1.toArray).heap[g]?=some (.cells c1.toArray 166 (0,0)):=setRow_heap w.drew g cur _ _ _ hh
 have hcpB:=hcp2 (w.drew.setRow g c1.toArray) hw1 (fun j u hj=>by
  rw[show (w.drew.setRow g c1.toArray).cell? ((⟨sb,0,none⟩:Addr).add j)=w.cell? ((⟨sb,0,none⟩:Addr).add j) from by
   rw[Addr.add_lit]
   exact World.cell?_of_block (a:=⟨sb,0+j,none⟩) (setRow_other w.drew g sb _ hne)]
  exact hnews j u (by simpa using hj))
 have hw2:((w.drew.setRow g c1.toArray).setRow g c2.toArray).heap[g]?=some (.cells c2.toArray 166 (0,0)):=setRow_heap _ g _ _ _ _ hw1
 have hgr:w.grownBy ((w.drew.setRow g c1.toArray).setRow g c2.toArray) (some g):=⟨rfl,rfl,rfl,by rw[setRow_size,setRow_size];exact bD _,fun k hk hkg=>by
  have hkn:k≠g:=fun q=>hkg (by rw[q])
  rw[setRow_other _ g k _ hkn,setRow_other _ g k _ hkn]
  rfl⟩
 have mixed:Tryz.prog.follows .mixedOrders=true:=by kernel_rfl
 have hwr:IntKind.i64.wrap ((i:Int)+1)=(i:Int)+1:=by rw[IntKind.wrap_i64];omega
 have hb1:(0:Int)≤(i:Int)+1:=by omega
 have hb5:(i:Int)+1≤(n:Int)+1:=by omega
 have htn:((i:Int)+1).toNat=i+1:=by omega
 have hb2:¬ (c=i+1):=by omega
 have hb3:(i:Int)≤(n:Int)+1:=by omega
 have hb4:¬ (c=i):=by omega
 have hiI:¬ ((i:Int)=(n:Int)):=by omega
 have HK:=ay k3;clear hcp1 hcp2 hw1 abp hc1 hc2 hdl k3 hx hown hrl;go_enter Tryz.func79,Tryz.ntmps79;go_wp2_with (simp only[hov])
 go_region_law_o (refine step_copy_runI rfl _ _ 159 159 rfl _ _ (by simp[Act.eval,Act.put]) (by simp[Act.eval,Act.put]) (hcpA _ _ _) ?_)
 go_wp2_with (at_builtin;refine wpList_copy_runI _ rfl _ _ 159 159 rfl _ _ rfl rfl (hcpB _ _) ?_);go_ret;exact⟨g,c,rfl,⟨by rw[← HK.out,qZ,k2,hcl];omega,.inr ⟨g,c,c2.toArray,rfl,hg,hw2,hroom,by unfold maxLen;exact hm,by rw[List.size_toArray,k2,hcl],by rw[List.toList_toArray];exact HK.out⟩⟩,hgr,.inl rfl⟩
theorem CW (B sb g c:Nat)(l:ML)(x:List UInt8)(vs:List Value)(w:World)(hw:BX 4 l)(hB:B≤w.heap.size)(hn:l.length≤1000000)(hp:bP l x<l.length)(hvl:vs.length=4)(h1:∀ u∈vs,u.oneCell'=true)(hroom:c<l.length+1)
  (hown:w.ownsRow B 166 5 (.slice (some ⟨g,0,none⟩) l.length c) l.length (jO l)) (hsb:w.heap[sb]?=some (.cells (dF (x,vs)).toArray 166 (0,0))) :
  Calls Tryz.prog 79 #[.slice (some ⟨g,0,none⟩) l.length c,.int .i64 (bP l x:Nat),.slice (some ⟨sb,0,none⟩) 1 1] w (Qk B (.slice (some ⟨g,0,none⟩) l.length c) l x vs w):=by
 obtain⟨i0,hi0,hz0,hzs,hzb⟩:=info_parts Tryz.AY
 have hsz:(Tryz.prog.info? 166).map (·.size)=some 5:=by rw[hi0];simp[hzs]
 have hnl:(dF (x,vs)).length=5:=by rw[dF,dR,hvl]
 have hn1:∀ u∈dF (x,vs),u.oneCell'=true:=fun u hu=>by
  rcases List.mem_cons.1 hu with q|q
  ·rw[q];rfl
  ·exact h1 u q
 have hr1:=LH hw;have hrl:=qB hw.wid;have hnews:=vv hsb;have hrow:=Dw l x vs hw.wid
 rcases hown.2 with ⟨hv,_⟩|⟨g',jE,cur,hv,hg,hh,hnc,hm,hs,hx⟩
 ·cases hv
 simp only[Value.slice.injEq,Option.some.injEq,Addr.mk.injEq,and_true] at hv;obtain⟨rfl,-,rfl⟩:=hv;have hbs:=(bS hsb).1;have hbg:=(bS hh).1;unfold Qk;generalize jO (sj l x vs)=mr' at *;generalize hmr:jO l=mr at *;generalize hmc:dF (x,vs)=mc at *;generalize hii:bP l x=i at *;generalize hnn:l.length=n at *;clear hmr hmc hw hsb hnn hii h1 hvl hown
 obtain rfl:c=n:=by omega
 have hdl:(mr.drop (i * 5)).length=(c - i) * 5:=by rw[List.length_drop,hrl];omega
 have hcg:∀ j v,mr[j]?=some v→w.cell? ⟨g,j,none⟩=some v:=fun j v hj=>by
  rw[← hx,List.getElem?_take] at hj
  split at hj
  ·exact zC hh hj
  ·cases hj
 have hold:(Builtin.firstCells i0.size i (.slice (some ⟨g,0,none⟩) i c)).run Tryz.prog w.drew=.ok (mr.take (i * 5)).toArray w.drew:=by
  rw[hzs]
  exact run_firstCells_some w.drew 5 i ⟨g,0,none⟩ i c (mr.take (i * 5)) (by rw[qZ];omega) (fun j v hj=>by
   rw[Addr.add_lit,Nat.zero_add];rw[List.getElem?_take] at hj
   split at hj
   ·exact hcg j v hj
   ·cases hj)
 have hik:i+(c+1 - i)=c+1:=by omega
 have hkk:(c:Int)+1 - (i:Int)=((c+1 - i:Nat):Int):=by omega
 obtain⟨z,hz⟩:∃ z:Value,z=.agg #[.string ⟨#[]⟩,.string ⟨#[]⟩,.slice none 0 0,.int .i64 0,.slice none 0 0]:=⟨_,rfl⟩
 rw[← hz] at hz0
 have hrz:∀ ty,(Builtin.append_ #[159,3] ty #[.slice (some ⟨g,0,none⟩) i c,.int .i64 ((c:Int)+1 - (i:Int))]).run Tryz.prog w =
   .ok (.slice (some ⟨w.heap.size,0,none⟩) (c+1) (grownCap w (c+1) c 166)) (w.drew.alloc (.cells ((mr.take (i * 5)).toArray++Builtin.zeroCells z.cells (c+1 - i)++Builtin.zeroCells z.cells (grownCap w (c+1) c 166 - (c+1))) 166)):=fun ty=>by
  have h:=Lib.run_append_grow_zeros w 159 3 ty 166 i0 z .i64 .i64 Tryz.underlying159 Tryz.underlying3 hi0 hz0 (some ⟨g,0,none⟩) i c (mr.take (i * 5)) hold (c+1 - i) (by omega) (by omega) (by omega) (by omega) (by rw[hzb];omega) (by rw[hzb,hik];exact growslice_fits hroom (by omega));rw[hik] at h;rw[hkk];exact h
 have hGn:c+1≤grownCap w (c+1) c 166:=grownCap_ge w _ _ _
 have hG63:grownCap w (c+1) c 166≤9223372036854775807:=by
  have:=grownCap_le_maxLen w (c+1) c 166 (by unfold maxLen;omega);unfold maxLen at this;omega
 generalize grownCap w (c+1) c 166=G at *
 have hzc:∀ k,(Builtin.zeroCells z.cells k).size=k * 5:=fun k=>by rw[hz];simp[Builtin.zeroCells,Value.cells]
 obtain⟨ROW,hROW⟩:∃ ROW:Array Value,ROW=(mr.take (i * 5)).toArray++Builtin.zeroCells z.cells (c+1 - i)++Builtin.zeroCells z.cells (G - (c+1)):=⟨_,rfl⟩
 have hRl:ROW.toList.length=G * 5:=by
  rw[hROW,Array.length_toList,Array.size_append,Array.size_append,hzc,hzc,List.size_toArray,qZ,hrl];omega
 have hRt:ROW.toList.take (i * 5)=mr.take (i * 5):=by
  rw[hROW,Array.toList_append,Array.toList_append,nQ,List.take_append_of_le_length (by rw[List.toList_toArray,qZ];omega),List.toList_toArray,List.take_take,Nat.min_self]
 rw[← hROW] at hrz
 obtain⟨W1,hW1⟩:∃ W1,W1=w.drew.alloc (.cells ROW 166):=⟨_,rfl⟩
 rw[← hW1] at hrz
 have a1:W1.heap[w.heap.size]?=some (.cells ROW 166 (0,0)):=by rw[hW1];exact aY w.drew _
 have a2:∀ k,k<w.heap.size→W1.heap[k]?=w.heap[k]?:=fun k hk=>by rw[hW1];exact gY w.drew _ k hk
 have a3:W1.heap.size=w.heap.size+1:=by rw[hW1];simp
 have a4:W1.os=w.os∧W1.tape=w.tape∧W1.output=w.output:=by rw[hW1];exact⟨rfl,rfl,rfl⟩
 have hins:=MN ROW.toList c i 5 (Nat.le_of_lt hp) (by rw[hRl];omega) mc mr hRt hrl hnl;simp only at hins;obtain⟨k1,k2,k3⟩:=hins;rw[← hrow] at k3
 obtain⟨c1,hc1⟩:∃ c1,c1=ROW.toList.take (i * 5)++mc++ROW.toList.drop (i * 5+mc.length):=⟨_,rfl⟩
 rw[← hc1] at k1 k2 k3
 obtain⟨c2,hc2⟩:∃ c2,c2=c1.take ((i+1) * 5)++mr.drop (i * 5)++c1.drop ((i+1) * 5+(mr.drop (i * 5)).length):=⟨_,rfl⟩
 rw[← hc2] at k2 k3
 have hcpA:∀ ty dc,(Builtin.copy_ #[159,159] ty #[.slice (some ⟨w.heap.size,i * 5,none⟩) (c+1 - i) dc,.slice (some ⟨sb,0,none⟩) 1 1]).run Tryz.prog W1=.ok (goInt 1) (W1.setRow w.heap.size c1.toArray):=fun ty dc=>by
  have hmin:Nat.min 1 (c+1 - i)=1:=by simp only[Nat.min_def];split<;>omega
  have:=oM (P:=Tryz.prog) W1 159 159 ty 166 5 w.heap.size (i * 5) (c+1 - i) dc ⟨sb,0,none⟩ 1 1 ROW _ mc Tryz.underlying159 hsz a1 (by rw[hmin,hnl]) (fun j u hj=>by
   rw[Addr.add_lit,show W1.cell? ⟨sb,0+j,none⟩=w.cell? ⟨sb,0+j,none⟩ from World.cell?_of_block (a:=⟨sb,0+j,none⟩) (a2 sb hbs)];have:=hnews j u (by simpa using hj)
   rwa [Addr.add_lit] at this) (by rw[← Array.length_toList,hRl,hnl];omega) hn1
  rw[hmin,← hc1] at this;exact this
 have b1:(W1.setRow w.heap.size c1.toArray).heap[w.heap.size]?=some (.cells c1.toArray 166 (0,0)):=setRow_heap W1 _ ROW _ _ _ a1
 have hcpB:∀ ty dc sc,(Builtin.copy_ #[159,159] ty #[.slice (some ⟨w.heap.size,(i+1) * 5,none⟩) (c - i) dc,.slice (some ⟨g,i * 5,none⟩) (c - i) sc]).run Tryz.prog (W1.setRow w.heap.size c1.toArray).drew=.ok (goInt (c - i:Nat)) ((W1.setRow w.heap.size c1.toArray).drew.setRow w.heap.size c2.toArray):=fun ty dc sc=>by
  have hmin:Nat.min (c - i) (c - i)=c - i:=Nat.min_self _
  have:=oM (P:=Tryz.prog) (W1.setRow w.heap.size c1.toArray).drew 159 159 ty 166 5 w.heap.size ((i+1) * 5) (c - i) dc ⟨g,i * 5,none⟩ (c - i) sc c1.toArray _ (mr.drop (i * 5)) Tryz.underlying159 hsz b1 (by rw[hmin,hdl])
   (fun j v hj=>by
    rw[List.getElem?_drop] at hj;rw[Addr.add_lit,show (W1.setRow w.heap.size c1.toArray).drew.cell? ⟨g,i * 5+j,none⟩=w.cell? ⟨g,i * 5+j,none⟩ from World.cell?_of_block (a:=⟨g,i * 5+j,none⟩) ((setRow_other W1 w.heap.size g _ (by omega)).trans (a2 g hbg))]
    exact hcg _ v hj) (by rw[List.size_toArray,k1,hRl,hdl];omega) (fun v hv=>hr1 v (List.mem_of_mem_drop hv))
  rw[hmin,List.toList_toArray,← hc2] at this;exact this
 have b2:((W1.setRow w.heap.size c1.toArray).drew.setRow w.heap.size c2.toArray).heap[w.heap.size]?=some (.cells c2.toArray 166 (0,0)):=setRow_heap _ _ _ _ _ _ b1
 have hgr:w.grownBy ((W1.setRow w.heap.size c1.toArray).drew.setRow w.heap.size c2.toArray) (some g):=⟨a4.1,a4.2.1,a4.2.2,by rw[setRow_size];show w.heap.size≤(W1.setRow w.heap.size c1.toArray).heap.size;rw[setRow_size,a3];omega,fun k hk _=>by
  rw[setRow_other _ _ k _ (by omega)]
  exact(setRow_other W1 _ k _ (by omega)).trans (a2 k hk)⟩
 have HK:=ay k3
 have mixed:Tryz.prog.follows .mixedOrders=true:=by kernel_rfl
 have hwr:IntKind.i64.wrap ((i:Int)+1)=(i:Int)+1:=by rw[IntKind.wrap_i64];omega
 have hb1:(0:Int)≤(i:Int)+1:=by omega
 have htn:((i:Int)+1).toNat=i+1:=by omega
 have hb2:¬ (G=i+1):=by omega
 have hb6:¬ (G=i):=by omega
 have hb4:¬ (c=i):=by omega
 have hb5:(i:Int)+1≤(c:Int)+1:=by omega
 have hb3:(i:Int)≤(c:Int)+1:=by omega
 have wR:(i:Int)≤(c:Int):=by omega
 have hiI:¬ ((i:Int)=(c:Int)):=by omega
 have aej:=hRl;clear hkk hik hold hROW hRl hRt hc1 hc2 hdl k3 hx hrl hrow hz hz0 hzc hcg hW1 a1 a2 a3 a4 b1 hnews hr1;go_enter Tryz.func79,Tryz.ntmps79
 go_wp2_with (first
  | (at_builtin;refine Lib.wpList_append_run _ rfl _ _ _ _ rfl _ _ rfl rfl _ _ (hrz _) ?_)
  | (at_builtin;refine wpList_copy_runI _ rfl _ _ 159 159 rfl _ _ rfl rfl (hcpA _ _) ?_))
 go_region_law_o (refine step_copy_runI rfl _ _ 159 159 rfl _ _ (by simp[Act.eval,Act.put]) (by simp[Act.eval,Act.put]) (hcpB _ _ _) ?_)
 go_wp2;go_ret;exact⟨w.heap.size,G,rfl,⟨by rw[← HK.out,qZ,k2,aej];omega,.inr ⟨w.heap.size,G,c2.toArray,rfl,hB,b2,hGn,by unfold maxLen;exact hG63,by rw[List.size_toArray,k2,aej],by rw[List.toList_toArray];exact HK.out⟩⟩,hgr,.inr (bD _)⟩
theorem MO (B sb:Nat)(v:Value)(l:ML)(x:List UInt8)(vs:List Value)(w:World)(hw:BX 4 l)(hB:B≤w.heap.size)(hn:l.length≤1000000)(hvl:vs.length=4)(h1:∀ u∈vs,u.oneCell'=true)
  (hown:w.ownsRow B 166 5 v l.length (jO l)) (hsb:w.heap[sb]?=some (.cells (dF (x,vs)).toArray 166 (0,0))) (hne:some sb≠v.ownBlock) :
  Calls Tryz.prog 79 #[v,.int .i64 (bP l x:Nat),.slice (some ⟨sb,0,none⟩) 1 1] w (Qk B v l x vs w):=by
 have hpl:=sM l x
 by_cases hp:bP l x=l.length
 ·have:=CV B sb v l x vs w hw hB hn hp hvl h1 hown hsb
  rw[← hp] at this;exact this
 ·rcases hown.2 with ⟨_,q⟩|⟨g,cap,cur,rfl,hg,hh,hnc,_⟩
  ·omega
  ·by_cases hr:l.length+1≤cap
   ·exact Ee B sb g cap l x vs w hw hn (by omega) hvl h1 hr hown hsb (fun q=>hne (by rw[q];rfl))
   ·exact CW B sb g cap l x vs w hw hB hn (by omega) hvl h1 (by omega) hown hsb
def afX (B mb:Nat)(v:Value)(l:ML)(x:List UInt8)(vs:List Value)(w:World)(e:Ending)(w':World):Prop :=
 e=.returned (.bool true)∧(∃ v',yA B mb v' (sj l x vs) w')∧Below B w w'∧aW (fun b=>b≠mb∧some b≠v.ownBlock) w w'
theorem XG (B mb:Nat)(v:Value)(l:ML)(x:List UInt8)(v1 v2 v3 v4:Value)(w:World)(h:yA B mb v l w)(hB:B≤w.heap.size)(hBm:B≤mb)(hn:l.length≤1000000)(hx:rE l x=false)(h1:∀ u∈[v1,v2,v3,v4],u.oneCell'=true) :
  Calls Tryz.prog 51 #[.pointer (some ⟨mb,0,none⟩),.string ⟨x.toArray⟩,.agg #[v1,v2,v3,v4]] w (afX B mb v l x [v1,v2,v3,v4] w):=by
 have hal:=aB w (.cells #[v1,v2,v3,v4] 53);have hN:=aY w (.cells #[v1,v2,v3,v4] 53);have hM:=h.below hal;have HF:=ay (Io B mb v l x (w.alloc (.cells #[v1,v2,v3,v4] 53)) hM hn);rw[hx] at HF;have aho:=(bS h.box).1
 have afY:∀ b,v.ownBlock=some b→b<w.heap.size:=fun b q=>(h.own.lt b q).2
 have hne:some mb≠v.ownBlock:=own_ne h.own h.box (by decide);clear h;go_enter Tryz.func51,Tryz.ntmps51
 go_upto_region 1 with fail
 change Code.wp _ _ _ _ (w.alloc (.cells #[v1,v2,v3,v4] 53))
 have hz:w.heap.size<(w.alloc (.cells #[v1,v2,v3,v4] 53)).heap.size:=by simp
 generalize w.alloc _=w1 at *
 go_upto_region 2 with (go_at_call 78;refine HF.out.mono ?_;rintro e w2 ⟨rfl,hb2⟩)
 have Il:=(hb2.block _ hz).trans hN;have hM2:=hM.below hb2;have hbw:=hal.trans (hb2.mono hal.size);have hz2:=hb2.size;clear HF hN hM hal;obtain⟨⟨a0,a1,a2,a3⟩,-⟩:=qH Il;obtain⟨m0,-⟩:=rU hM2.box;have hpl:=sM l x;have HI:=ay (fun (W:World) (hW:Below w2.heap.size w2 W) (hs:W.heap[w2.heap.size]?=some (.cells #[.string ⟨x.toArray⟩,v1,v2,v3,v4] 166 (0,0)))=>MO B w2.heap.size v l x [v1,v2,v3,v4] W hM2.wf (by have:=hW.size;omega) hn rfl h1 (own_below hM2.own hW) hs (fun q=>by have:=afY _ q.symm;omega))
 have s1:=fun a m W=>run_store Tryz.prog W a v1 m (h1 v1 (by simp))
 have s2:=fun a m W=>run_store Tryz.prog W a v2 m (h1 v2 (by simp))
 have s3:=fun a m W=>run_store Tryz.prog W a v3 m (h1 v3 (by simp))
 have s4:=fun a m W=>run_store Tryz.prog W a v4 m (h1 v4 (by simp))
 have afZ:mb<w2.heap.size:=by omega
 have hmx:=ay hM2;have HX:=ay hx;have HO1:=ay h1;clear hM2 hx h1 Il
 go_upto_region 5 with fail
 have hA:(w2.alloc (.cells #[.string ⟨x.toArray⟩,v1,v2,v3,v4] 166)).drew.heap[w2.heap.size]?=some (.cells #[.string ⟨x.toArray⟩,v1,v2,v3,v4] 166 (0,0)):=aY w2 _;have hAb:Below w2.heap.size w2 (w2.alloc (.cells #[.string ⟨x.toArray⟩,v1,v2,v3,v4] 166)).drew:=((bI _ _).alloc (bD _) _).drew;have HIx:=ay (HI.out _ hAb hA);have hmA:(w2.alloc (.cells #[.string ⟨x.toArray⟩,v1,v2,v3,v4] 166)).drew.heap[mb]?=some (.cells #[v] 161 (0,0)):=(gY w2 _ mb afZ).trans hmx.out.box;have HMA:=ay hmA;clear hA HI hmA
 go_region_with (go_at_call 79;refine HIx.out.mono ?_;rintro e w3 ⟨g',jE,rfl,jX,hgrow,hor⟩;have XH:=(hgrow.block mb (bS HMA.out).1 hne).trans HMA.out;obtain⟨t0,f0⟩:=rU XH;have HO3:=ay jX;have HG3:=ay hgrow;have HR3:=ay hor;have HB3:=ay XH;clear jX hgrow hor XH)
 all_goals
  go_wp2;go_ret;refine⟨rfl,⟨_,hmx.out.wf.ins HX.out rfl HO1.out,heap_setCell_same w3 mb 0 _ _ _ HB3.out,?_⟩,?_,?_⟩
  ·rw[LG]
   exact iP HO3.out (fun q=>own_ne HO3.out HB3.out (by decide) q) _
  ·exact(((((hbw.mono hB).trans (hAb.mono (jc hB hbw.size))).grown HG3.out (jc (jc hB hbw.size) hAb.size) (fun b q=>(hmx.out.own.lt b q).1))).setCell hBm _)
  ·exact(aW.of hbw).trans ((aW.of hAb).trans ((aW.grown HG3.out fun b hb=>hb.2).trans (aW.set _ fun b hb=>hb.1)))
end Go.Proofs.YtmhdgeekclhbbaaGreatDoor

namespace Go.Proofs.YtmhdgeekclhbbaaGreatDoor
open Go.RowKit
theorem sizeBuilder:(Tryz.prog.info? 149).map (·.size)=some 2:=by kernel_rfl
class UD (T:TypeId):Prop where
 lies:liesAt Tryz.prog Tryz.prog.depth T (2 / Tryz.prog.cellsOf T) 0 149 1=true
 ne:T≠5
instance:UD 149:=⟨by kernel_rfl,by decide⟩
instance:UD 151:=⟨by kernel_rfl,by decide⟩
theorem Tryz.infoByte:(Tryz.prog.info? 5).map (fun i=>(i.zero,i.size,i.bytes))=some (some (.int .u8 0),1,1):=by kernel_rfl
theorem Ef (b:Nat)(w:World)(h0:w.cell? ⟨b,0,none⟩=some (.pointer (some ⟨b,0,none⟩))) :
  Calls Tryz.prog 125 #[.pointer (some ⟨b,0,none⟩)] w fun e w'=>e=.returned (.tuple #[])∧w'=w:=by
 obtain⟨j,hj,_⟩:=Option.map_eq_some_iff.1 sizeBuilder;go_enter Tryz.func125,Tryz.ntmps125;go_wp2;rw[Lib.run_neq_ptr_same w _ Tryz.underlying146 hj];go_wp2
 go_end0
 exact⟨rfl,rfl⟩
theorem CX {T:TypeId}[hT:UD T](b:Nat)(w:World)(h0:w.cell? ⟨b,0,none⟩=some (.pointer none))(hsh:w.shape? b=some (T,2))(hfz:w.frozen? ⟨b,0,none⟩=false) :
  Calls Tryz.prog 125 #[.pointer (some ⟨b,0,none⟩)] w fun e w'=>e=.returned (.tuple #[])∧w'=w.setCell ⟨b,0,none⟩ (.pointer (some ⟨b,0,none⟩)):=by
 obtain⟨j,hj,hjs⟩:=Option.map_eq_some_iff.1 sizeBuilder;go_enter Tryz.func125,Tryz.ntmps125;go_wp2;rw[Lib.run_to_unsafe w ⟨b,0,none⟩ Tryz.underlying146 Tryz.underlying273 hj (by rw[hjs];decide) hsh (Nat.zero_lt_succ 1)];simp only[Result.andThen];rw[Oper.upon_value];go_wp2;rw[run_callFunc_extern Tryz.func205 (by kernel_rfl) (by kernel_rfl) (by kernel_rfl) (e:=Extern.AbiNoEscape.same) (by kernel_rfl)];rw[Lib.run_noEscape];simp only[Result.andThen];rw[Oper.upon_value];go_wp2;rw[Lib.run_from_unsafe w ⟨b,0,none⟩ Tryz.underlying273 Tryz.underlying146 hj hsh hT.lies];simp only[Result.andThen];rw[Oper.upon_value];go_wp2
 go_end0
 exact⟨rfl,rfl⟩
theorem MP {T:TypeId}[hT:UD T](B b:Nat)(bs:List Value)(w:World)(h:Lib.IsBuilderF T 5 B b bs w) :
  Calls Tryz.prog 125 #[.pointer (some ⟨b,0,none⟩)] w fun e w'=>e=.returned (.tuple #[])∧(Lib.BuilderAtF T 5 B b (.pointer (some ⟨b,0,none⟩)) bs w'∧Below B w w'∧Lib.OthersKept 5 (some b) w w'):=by
 rcases h with h|h
 ·refine(CX b w h.cell0 h.shape h.frozen0).mono ?_
  rintro e w' ⟨rfl,rfl⟩;exact⟨rfl,h.used _,(bI B w).setCell (p:=⟨b,0,none⟩) h.1 _,(Lib.OthersKept.refl _ _ w).setCell ⟨b,0,none⟩ rfl _⟩
 ·refine(Ef b w h.cell0).mono ?_
  rintro e w' ⟨rfl,rfl⟩;exact⟨rfl,h,bI B _,Lib.OthersKept.refl _ _ _⟩
theorem writeString {T:TypeId}[hT:UD T](B b:Nat)(bs:List Value)(s:ByteArray)(w:World)(h:Lib.IsBuilderF T 5 B b bs w)(hlen:bs.length+s.size≤140737488355328)(hBw:B≤w.heap.size) :
  Calls Tryz.prog 74 #[.pointer (some ⟨b,0,none⟩),.string s] w fun e w'=>e=.returned (.tuple #[.int .i64 s.size,.nilIface])∧(Lib.IsBuilderF T 5 B b (bs++Lib.strCells s) w'∧Below B w w'∧Lib.OthersKept 5 (some b) w w'):=by
 obtain⟨i0,hi,hz0,hz1,hz2⟩:=info_parts Tryz.infoByte;go_enter Tryz.func74,Tryz.ntmps74;go_wp2_with (go_at_call 125;refine(MP B b bs _ h).mono ?_);rintro e w1 ⟨rfl,h1,hb1,hk1⟩;obtain⟨hB,v,hbk,hown,hne⟩:=h1
 have c0:w1.cell? ⟨b,0,none⟩=some (.pointer (some ⟨b,0,none⟩)):=by rw[aV hbk];rfl
 have c1:w1.cell? ⟨b,1,none⟩=some v:=by rw[aV hbk];rfl
 go_wp2_with (at_builtin;refine Lib.wpList_append_own_stringF _ rfl _ _ 147 9 rfl B 5 i0 Tryz.underlying147 Tryz.underlying9 hi hz0 hz1 hz2 _ _ _ rfl hown s rfl ?c3 ?c4 ?c5 ?_)
 case c3=>unfold maxLen;omega
 case c4=>omega
 case c5=>have:=hb1.size;omega
 intro v' w2 hown' hgrow _
 have hlt:b<w1.heap.size:=by
  rcases Nat.lt_or_ge b w1.heap.size with h'|h'
  ·exact h'
  ·simp[Array.getElem?_eq_none h'] at hbk
 have hb2:w2.heap[b]?=some (.cells #[.pointer (some ⟨b,0,none⟩),v] T (0,0)):=by
  rw[hgrow.block b hlt (fun e=>hne e.symm)];exact hbk
 have d0:w2.cell? ⟨b,0,none⟩=some (.pointer (some ⟨b,0,none⟩)):=by rw[aV hb2];rfl
 have d1:w2.cell? ⟨b,1,none⟩=some v:=by rw[aV hb2];rfl
 have f1:w2.frozen? ⟨b,1,none⟩=false:=Lib.frozen_of_heap hb2 1
 obtain⟨ao,n',cap,rfl⟩:∃ ao n' cap,v'=.slice ao n' cap:=by
  rcases hown'.2 with ⟨hv,_⟩|⟨g,cap,cur,fz,hv,_⟩
  ·exact⟨_,_,_,hv⟩
  ·exact⟨_,_,_,hv⟩
 go_wp2;go_ret2;refine⟨rfl,?_,?_,(hk1.grown hgrow (Lib.ownsRowF_kind hown)).setCell ⟨b,1,none⟩ rfl _⟩
 ·exact Or.inr (Lib.BuilderAtF.put (T:=T) (e:=5) hB hb2 (bs':=bs++Lib.strCells s) (by simpa [Lib.strCells_length] using hown') hT.ne)
 ·exact(hb1.grown hgrow (by have:=hb1.size;omega) (fun k hk=>(hown.lt k hk).1)).setCell (p:=⟨b,1,none⟩) hB _
def jY (B b:Nat)(acc:List UInt8)(w:World)(T:TypeId:=149):Prop:=Lib.IsBuilderF T 5 B b (Lib.byteCells acc) w
theorem jY.at {T:TypeId}{B b:Nat}{acc:List UInt8}{w:World}(h:jY B b acc w T):∃ p,Lib.BuilderAtF T 5 B b p (Lib.byteCells acc) w:=by
 rcases h with h|h
 ·exact⟨_,h⟩
 ·exact⟨_,h⟩
theorem jY.le {T:TypeId}{B b:Nat}{acc:List UInt8}{w:World}(h:jY B b acc w T):B≤b:=by obtain⟨p,h⟩:=h.at;exact h.1
theorem jY.lt {T:TypeId}{B b:Nat}{acc:List UInt8}{w:World}(h:jY B b acc w T):b<w.heap.size:=by obtain⟨p,h⟩:=h.at;exact h.lt
theorem jY.alloc {T:TypeId}{B b:Nat}{acc:List UInt8}{w:World}(h:jY B b acc w T)(o:Obj):jY B b acc (w.alloc o) T:=by
 rcases h with h|h
 ·exact Or.inl (h.alloc o)
 ·exact Or.inr (h.alloc o)
theorem jY.drew {T:TypeId}{B b:Nat}{acc:List UInt8}{w:World}(h:jY B b acc w T):jY B b acc w.drew T:=by
 rcases h with h|h
 ·exact Or.inl h.drew
 ·exact Or.inr h.drew
theorem jY.fresh {T:TypeId}(w:World):jY w.heap.size w.heap.size [] (w.alloc (.cells #[.pointer none,.slice none 0 0] T)) T :=
 Lib.IsBuilderF.of (Lib.fresh_isBuilder T 5 w)
theorem jY.mono {T:TypeId}{B B' b:Nat}{acc:List UInt8}{w:World}(h:jY B b acc w T)(hb:B'≤B):jY B' b acc w T:=by
 have key:∀ p,Lib.BuilderAtF T 5 B b p (Lib.byteCells acc) w→Lib.BuilderAtF T 5 B' b p (Lib.byteCells acc) w:=by
  rintro p ⟨h1,v,h2,⟨h3,h4⟩,h5⟩;refine⟨by omega,v,h2,⟨h3,?_⟩,h5⟩
  rcases h4 with h4|⟨g,cap,cur,fz,q1,q2,q3⟩
  ·exact Or.inl h4
  ·exact Or.inr ⟨g,cap,cur,fz,q1,by omega,q3⟩
 rcases h with h|h
 ·exact Or.inl (key _ h)
 ·exact Or.inr (key _ h)
theorem jY.ne {T:TypeId}{B b k:Nat}{acc:List UInt8}{w:World}(h:jY B b acc w T){cs:Array Value}{T':TypeId}{fr:Nat × Nat}(hk:w.heap[k]?=some (.cells cs T' fr))(hT:T'≠T):k≠b:=by
 obtain⟨p,_,v,hb,_⟩:=h.at;rintro rfl;rw[hk] at hb;simp only[Option.some.injEq,Obj.cells.injEq] at hb;exact hT hb.2.1
theorem jY.block {T:TypeId}{B b k:Nat}{acc:List UInt8}{w w':World}(h:jY B b acc w T)(ho:Lib.OthersKept 5 (some b) w w'){cs:Array Value}{T':TypeId}{fr:Nat × Nat}(hk:w.heap[k]?=some (.cells cs T' fr))
  (hT:T'≠T) (he:T'≠5):w'.heap[k]?=some (.cells cs T' fr) :=
 ho k _ hk (fun e=>h.ne hk hT (kR e)) (fun c fz e=>he (by injection e))
theorem jY.row {T:TypeId}{B b base e sz n:Nat}{v:Value}{xs:List Value}{acc:List UInt8}{w w':World}(h:jY B b acc w T)(ho:Lib.OthersKept 5 (some b) w w')(hr:w.ownsRow base e sz v n xs)
  (hT:e≠T) (he:e≠5):w'.ownsRow base e sz v n xs:=by
 obtain⟨h1,h2⟩:=hr;refine⟨h1,?_⟩
 rcases h2 with h2|⟨g,cap,cur,q1,q2,q3,q4⟩
 ·exact Or.inl h2
 ·exact Or.inr ⟨g,cap,cur,q1,q2,h.block ho q3 hT he,q4⟩
theorem jY.grown {T:TypeId}{B b base e sz n:Nat}{v:Value}{xs:List Value}{acc:List UInt8}{w w':World}(h:jY B b acc w T)(hr:w.ownsRow base e sz v n xs)(hg:w.grownBy w' v.ownBlock)
  (hT:e≠T) (he:e≠5):jY B b acc w' T:=by
 have hrow:∀ k,v.ownBlock=some k→∃ cs,w.heap[k]?=some (.cells cs e (0,0)):=by
  intro k hk
  rcases hr.2 with ⟨rfl,_⟩|⟨g,cap,cur,rfl,_,hgg,_⟩
  ·simp[Value.ownBlock] at hk
  ·simp[Value.ownBlock] at hk;subst hk;exact⟨_,hgg⟩
 have key:∀ p,Lib.BuilderAtF T 5 B b p (Lib.byteCells acc) w→Lib.BuilderAtF T 5 B b p (Lib.byteCells acc) w':=by
  rintro p ⟨h1,u,h2,h3,h5⟩;have hlt:b<w.heap.size:=h.lt;refine⟨h1,u,?_,h3.kept hg ?_,h5⟩
  ·rw[hg.block b hlt (fun q=>?_)]
   ·exact h2
   ·obtain⟨cs,hcs⟩:=hrow b q.symm
    exact h.ne hcs hT rfl
  ·rcases h3.2 with ⟨rfl,_⟩|⟨g,cap,cur,fz,rfl,_,hgg,_⟩
   ·exact Or.inl rfl
   ·refine Or.inr (fun q=>?_)
    obtain⟨cs,hcs⟩:=hrow g (by rw[← q];rfl);rw[hcs] at hgg;simp only[Option.some.injEq,Obj.cells.injEq] at hgg;exact he hgg.2.1
 rcases h with h|h
 ·exact Or.inl (key _ h)
 ·exact Or.inr (key _ h)
theorem mG {T:TypeId}[UD T](B b:Nat)(acc:List UInt8)(s:ByteArray)(w:World)(h:jY B b acc w T)(hlen:acc.length+s.size≤140737488355328)(hBw:B≤w.heap.size) :
  Calls Tryz.prog 74 #[.pointer (some ⟨b,0,none⟩),.string s] w fun e w'=>e=.returned (.tuple #[.int .i64 s.size,.nilIface])∧jY B b (acc++s.data.toList) w' T∧Below B w w'∧Lib.OthersKept 5 (some b) w w':=by
 have:=writeString B b (Lib.byteCells acc) s w h (by rw[Lib.byteCells_length];exact hlen) hBw;rw[Lib.strCells_eq,← Lib.byteCells_append] at this;exact this
theorem Ci (B b:Nat)(acc:List UInt8)(w:World)(h:jY B b acc w)(hBw:B≤w.heap.size) :
  Calls Tryz.prog 72 #[.pointer (some ⟨b,0,none⟩)] w fun e w'=>e=.returned (.string ⟨acc.toArray⟩)∧jY B b acc w'∧Below B w w'∧Lib.OthersKept 5 (some b) w w' :=
 Tryz.Builder_String_any_k B b acc w h hBw
def iy:List Tok→List UInt8
 | []=>[]
 | t :: l=>t.lead++t.text++iy l
theorem Eh:∀ (l:List Tok),(iy l).length=gT l l.length
 | []=>rfl
 | t :: l=>by rw[iy,bN,bN,Eh l,dR,lT,og]
theorem vO:∀ (l:List Tok) (t:Tok),iy (l++[t])=iy l++(t.lead++t.text)
 | [],t=>by simp[iy]
 | x :: l,t=>by simp only[jN,iy,vO l t,nQ]
theorem Laid.Ei {T:List UInt8}{p:Nat}{l:List Tok}(h:Laid T p l):∀ k,k≤l.length→iy (l.take k)=T.take (gT l k)
 | 0,_=>by simp[iy,xY]
 | k+1,hk=>by
  have hl:k<l.length:=hk;have hle:=h.inside (k+1) hk;rw[kr l k hl,og] at hle;rw[Dg hl,vO,h.Ei k (by omega),kr l k hl,og];have h1:=h.lead k hl;have h2:=h.text k hl;generalize gT l k=a at h1 h2 hle ⊢;rw[← Nat.add_assoc,List.take_add (i:=a+l[k].lead.length),List.take_add (i:=a),h1,h2,nQ]
theorem Laid.MQ {T:List UInt8}{p:Nat}{l:List Tok}(h:Laid T p l):iy l=T:=by
 have:=h.Ei l.length (bD _);rw[List.take_length,h.whole,List.take_length] at this;exact this
theorem uS:∀ (l:List Tok) (k:Nat),k≤l.length→(iy (l.take k)).length=gT l k
 | l,0,_=>by simp[iy,xY]
 | [],k+1,h=>absurd h (by simp)
 | t :: l,k+1,h=>by
  rw[List.take_succ_cons,iy,bN,bN,uS l k (by simpa using h),lT,og]
theorem Ql (l:List Tok):∀ (i j:Nat),i≤j→j≤l.length→gT l i≤gT l j:=by
 intro i j h hj
 induction j with
 | zero=>exact Nat.le_of_eq (by rw[Nat.le_zero.1 h])
 | succ j ih =>
  rcases Nat.lt_or_ge i (j+1) with h'|h'
  ·have:=ih (by omega) (by omega)
   rw[kr l j (by omega)];omega
  ·obtain rfl:i=j+1:=by omega
   exact bD _
theorem jq (y:List UInt8):∃ Y:ByteArray,Y.data.toList=y∧ByteArray.mk y.toArray=Y:=⟨⟨y.toArray⟩,rfl,rfl⟩
theorem UE (v:Value)(l:List Tok)(w:World)(hl:l.length≤1099511627776)(hn:gT l l.length≤1099511627776)(hv:Rec w.heap.size w v 4 bV l) :
  Calls Tryz.prog 172 #[v] w fun e w'=>e=.returned (.string ⟨(iy l).toArray⟩)∧Below w.heap.size w w':=by
 obtain⟨ao,cap,rfl,hcap,hf⟩:=hv.form (fun _=>rfl);clear hv;go_enter Tryz.func172,Tryz.ntmps172;go_wp2
 go_loopw [8] (fun i wr=>∃ k:Nat,k≤l.length∧i=.int .i64 k∧jY w.heap.size w.heap.size (iy (l.take k)) wr∧Below w.heap.size w wr) (fun i _=>l.length - (intOf i).toNat)
 case atStart=>exact⟨0,lI _,rfl,jY.fresh w,(bI _ _).alloc (bD _) _⟩
 case round =>
  obtain⟨k,hk,rfl,hbd,hbl⟩:=hrel;have hz:=hbl.size
  by_cases hlt:k<l.length
  ·obtain⟨b,off,rfl,hb,hcell⟩:=hf (by omega)
   have hx0:=(hbl.cell (p:=⟨b,off+k * 4,none⟩) hb).trans (hcell k 0 _ hlt rfl);have hx1:=(hbl.cell (p:=⟨b,off+k * 4+1,none⟩) hb).trans (hcell k 1 _ hlt rfl);have hx2:=(hbl.cell (p:=⟨b,off+k * 4+2,none⟩) hb).trans (hcell k 2 _ hlt rfl);have hx3:=(hbl.cell (p:=⟨b,off+k * 4+3,none⟩) hb).trans (hcell k 3 _ hlt rfl);have hmo:=Ql l (k+1) l.length hlt (bD _);rw[kr l k hlt,og,← uS l k hk] at hmo
   have hsn:iy (l.take (k+1))=iy (l.take k)++(l[k].lead++l[k].text):=by rw[Dg hlt,vO]
   generalize l[k]=t at hx0 hx1 hx2 hx3 hmo hsn;obtain⟨c,x,y,q⟩:=t;simp only at hx0 hx1 hx2 hx3 hmo hsn;obtain⟨X,rfl,eX⟩:=jq x;obtain⟨Y,rfl,eY⟩:=jq y;rw[eX] at hx1;rw[eY] at hx2;simp only[aR] at hmo;generalize iy (l.take k)=acc at hbd hmo hsn;have HS:=ay hsn;have af0:=hbd.alloc (.cells #[.int .i64 c,.string X,.string Y,.int .i64 q] 131);have abq:=hbl.alloc hz (.cells #[.int .i64 c,.string X,.string Y,.int .i64 q] 131);clear hcell hf hsn eX eY;go_wp2_with (go_at_call 74;refine(mG w.heap.size w.heap.size acc (X++Y) _ af0 ?c1 ?c2).mono ?_)
   case c1=>simp only[ByteArray.size_append];omega
   case c2=>simp;omega
   rintro e w2 ⟨rfl,aek,hb2,ho2⟩;rw[Ca,← HS.out] at aek;clear ho2;go_wp2
   go_roundw
   case rel=>exact⟨k+1,by omega,by go_num,aek,abq.trans hb2⟩
   case measure=>simp[intOf];omega
  ·have hkl:k=l.length:=by omega
   subst hkl;rw[List.take_length] at hbd;clear hf;go_wp2_with (go_at_call 72;refine(Ci w.heap.size w.heap.size _ _ hbd hz).mono ?_;rintro e w4 ⟨rfl,ahp,hb4,MR⟩);go_ret;exact⟨rfl,hbl.trans hb4⟩
theorem JR (c:UInt8):dB c=((c.toNat:Int) == 32 || (c.toNat:Int) == 9 || (c.toNat:Int) == 13 || (c.toNat:Int) == 10):=by
  simp only[dB,SB]
  rfl
theorem nE (c:UInt8)(w:World):Calls Tryz.prog 183 #[.int .u8 c.toNat] w fun e w'=>e=.returned (.bool (dB c))∧w'=w:=by
  rw[JR];generalize h1:((c.toNat:Int) == 32)=b1;generalize h2:((c.toNat:Int) == 9)=b2;generalize h3:((c.toNat:Int) == 13)=b3;generalize h4:((c.toNat:Int) == 10)=b4
  cases b1<;>cases b2<;>cases b3<;>cases b4<;>
  (go_enter Tryz.func183,Tryz.ntmps183
   go_wp2;go_ret
   exact⟨rfl,rfl⟩)
theorem eU (c:UInt8)(w:World):Calls Tryz.prog 184 #[.int .u8 c.toNat] w fun e w'=>e=.returned (.bool (cZ c))∧w'=w:=by
  rw[xJ];go_enter Tryz.func184,Tryz.ntmps184;go_wp2
  all_goals (go_ret;refine⟨aT ?_,rfl⟩;simp;try omega)
theorem dM (c:UInt8)(w:World):Calls Tryz.prog 185 #[.int .u8 c.toNat] w fun e w'=>e=.returned (.bool (aP c))∧w'=w:=by
  rw[zu];go_enter Tryz.func185,Tryz.ntmps185;go_wp2
  all_goals (go_ret;refine⟨aT ?_,rfl⟩;simp;try omega)
theorem drop_byte {s:ByteArray}{k:Nat}(h:k<s.size):s.data.toList.drop k=(s[k]'h) :: s.data.toList.drop (k+1):=by
  have h':k<s.data.toList.length:=by rw[← Lib.size_eq];exact h
  rw[List.drop_eq_getElem_cons h']
  rfl
theorem MS (s:ByteArray)(p:Nat)(w:World)(hs:s.size≤1099511627776)(hp:p≤s.size) :
    Calls Tryz.prog 115 #[.string s,.int .i64 p] w fun e w'=>e=.returned (.int .i64 (p+bE false (s.data.toList.drop p):Nat))∧w'=w:=by
  generalize hR:p+bE false (s.data.toList.drop p)=R;have HR:=ay hR;clear hR;go_enter Tryz.func115,Tryz.ntmps115;go_wp2
  go_loop [1] (fun a=>∃ k:Nat,k≤s.size∧a=.int .i64 k∧k+bE false (s.data.toList.drop k)=R) (fun a=>s.size - (intOf a).toNat)
  case atStart=>exact⟨p,hp,rfl,HR.out⟩
  case round =>
    clear HR;obtain⟨k,hk,rfl,hR⟩:=hrel
    by_cases hlt:k<s.size
    · rw[drop_byte hlt] at hR
      have hI:(k:Int) < ↑s.size:=by omega
      by_cases hb:dB (s[k]'hlt)=true
      · rw[bE,if_pos hb] at hR
        have HR:=ay hR;clear hR;go_wp2_with (go_at_call 183;refine(nE _ _).mono ?_;rintro e w1 ⟨rfl,rfl⟩)
        go_round
        case rel=>exact⟨k+1,by omega,by go_num,by have:=HR.out;omega⟩
        case measure=>simp[intOf];omega
      · rw[bE,if_neg hb] at hR
        have hb':dB (s[k]'hlt)=false:=by simpa using hb
        clear hb
        by_cases hlt2:k+1<s.size
        · rw[drop_byte hlt2] at hR
          have hI2:(k:Int)+1 < ↑s.size:=by omega
          by_cases hm:(s[k]'hlt)=45∧(s[k+1]'hlt2)=45
          · rw[if_pos ⟨hm.1,by rw[List.head?_cons,hm.2]⟩,← drop_byte hlt2] at hR
            have t1:(((s[k]'hlt).toNat:Int) == 45)=true:=by rw[hm.1];rfl
            have t2:(((s[k+1]'hlt2).toNat:Int) == 45)=true:=by rw[hm.2];rfl
            have HR:=ay hR;have HM:=ay hm;clear hR hm;go_wp2_with (go_at_call 183;refine(nE _ _).mono ?_;rintro e w1 ⟨rfl,rfl⟩)
            go_loop [1] (fun a=>∃ j:Nat,k≤j∧j≤s.size∧a=.int .i64 j∧j+bE true (s.data.toList.drop j)=R) (fun a=>s.size - (intOf a).toNat)
            case atStart =>
              refine⟨k,bD _,hk,rfl,?_⟩;have h1:=HR.out;have h2:=HM.out;rw[drop_byte hlt,bE,if_neg (by rw[h2.1];decide)];omega
            case round =>
              obtain⟨j,hkj,hj,rfl,hq⟩:=hrel;clear t1 t2
              by_cases hjt:j<s.size
              · have hJ:(j:Int) < ↑s.size:=by omega
                rw[drop_byte hjt,bE] at hq
                by_cases GQ:(s[j]'hjt)=10
                · rw[if_pos GQ] at hq
                  have hjk:k+1≤j:=by
                    rcases Nat.lt_or_ge k j with h|h
                    · exact h
                    · obtain rfl:j=k:=by omega
                      have:=HM.out.1;rw[GQ] at this;exact absurd this (by decide)
                  have hq2:j+bE false (s.data.toList.drop j)=R:=by
                    rw[drop_byte hjt,bE,if_pos (by rw[GQ];decide)];exact hq
                  have t3:(((s[j]'hjt).toNat:Int) != 10)=false:=by rw[GQ];rfl
                  have HQ:=ay hq2;have GR:=ay GQ;clear hq hq2 GQ;go_wp2
                  go_round
                  case rel=>exact⟨j,hj,rfl,HQ.out⟩
                  case measure=>simp[intOf];omega
                · rw[if_neg GQ] at hq
                  have t3:(((s[j]'hjt).toNat:Int) != 10)=true:=by
                    rw[bne_iff_ne];intro q;exact GQ (UInt8.toNat_inj.1 (by have e1:(10:UInt8).toNat=10:=rfl;omega))
                  have HQ:=ay hq;have GR:=ay GQ;clear hq GQ;go_wp2
                  go_round
                  case rel=>exact⟨j+1,by omega,by omega,by go_num,by have:=HQ.out;omega⟩
                  case measure=>simp[intOf];omega
              · obtain rfl:j=s.size:=by omega
                have hjk:k+1≤s.size:=hlt
                have hq2:s.size+bE false (s.data.toList.drop s.size)=R:=by
                  have e:s.data.toList.drop s.size=[]:=by rw[List.drop_eq_nil_iff,← Lib.size_eq];exact bD _
                  rw[e] at hq ⊢;exact hq
                have HQ:=ay hq2;clear hq hq2;go_wp2
                go_round
                case rel=>exact⟨s.size,bD _,rfl,HQ.out⟩
                case measure=>simp[intOf];omega
          · have hR:k=R:=by
              rw[if_neg (fun q=>hm ⟨q.1,by have:=q.2;rw[List.head?_cons] at this;injection this⟩)] at hR;exact hR
            have HR:=ay hR;clear hR
            by_cases ha:(s[k]'hlt)=45
            · have t1:(((s[k]'hlt).toNat:Int) == 45)=true:=by rw[ha];rfl
              have t2:(((s[k+1]'hlt2).toNat:Int) == 45)=false:=by
                rw[← Bool.not_eq_true,beq_iff_eq];intro q;exact hm ⟨ha,UInt8.toNat_inj.1 (by have e1:(45:UInt8).toNat=45:=rfl;omega)⟩
              clear ha hm;go_wp2_with (go_at_call 183;refine(nE _ _).mono ?_;rintro e w1 ⟨rfl,rfl⟩);go_ret;exact⟨lJ (by rw[← HR.out]),rfl⟩
            · have t1:(((s[k]'hlt).toNat:Int) == 45)=false:=by
                rw[← Bool.not_eq_true,beq_iff_eq];intro q;exact ha (UInt8.toNat_inj.1 (by have e1:(45:UInt8).toNat=45:=rfl;omega))
              clear ha hm;go_wp2_with (go_at_call 183;refine(nE _ _).mono ?_;rintro e w1 ⟨rfl,rfl⟩);go_ret;exact⟨lJ (by rw[← HR.out]),rfl⟩
        · have hR:k=R:=by
            have e:s.data.toList.drop (k+1)=[]:=by rw[List.drop_eq_nil_iff,← Lib.size_eq];omega
            rw[e,if_neg (by rintro⟨_,q⟩;cases q)] at hR;exact hR
          have HR:=ay hR;clear hR;have hI2:decide ((k:Int)+1 < ↑s.size)=false:=dA (by omega);go_wp2_with (go_at_call 183;refine(nE _ _).mono ?_;rintro e w1 ⟨rfl,rfl⟩);go_ret;exact⟨lJ (by rw[← HR.out]),rfl⟩
    · have hR:k=R:=by
        have e:s.data.toList.drop k=[]:=by rw[List.drop_eq_nil_iff,← Lib.size_eq];omega
        rw[e] at hR;exact hR
      have HR:=ay hR;clear hR;have hI:decide ((k:Int) < ↑s.size)=false:=dA (by omega);go_wp2;go_ret;exact⟨lJ (by rw[← HR.out]),rfl⟩
def jZ:List (List UInt8):=[[105,109,112,111,114,116],[112,117,98],[102,117,110],[108,101,116],[105,110],[105,102],[116,104,101,110],[101,108,115,101],[97,115,115,101,114,116],[116,114,117,101],[102,97,108,115,101],[110,111,116],[105,110,116],[98,111,111,108],[114,101,115]]
theorem MU:jZ.Perm lD:=by decide
theorem Ej (x:List UInt8):x∈jZ↔x∈lD:=MU.mem_iff
def rowOf (l:List (List UInt8)):Array Value:=(l.map fun x=>Value.string ⟨x.toArray⟩).toArray
theorem MV (l:List (List UInt8))(k:Nat)(h:k<l.length):(rowOf l)[k]?=some (.string ⟨l[k].toArray⟩):=by
 simp[rowOf,h]
theorem abr {x:List UInt8}{l:List (List UInt8)}(h:∀ j,(hj:j<l.length)→l[j]≠x):x ∉ l:=by
 intro hx;obtain⟨j,hj,e⟩:=List.mem_iff_getElem.1 hx;exact h j hj e
theorem str_eq (x:List UInt8)(s:ByteArray):((ByteArray.mk x.toArray).toList == s.toList)=decide (x=s.data.toList):=by
 rw[Lib.toList_data,Lib.toList_data]
 by_cases h:x=s.data.toList
 ·rw[iX h,beq_iff_eq];exact h
 ·rw[dA h,← Bool.not_eq_true,beq_iff_eq];exact h
theorem El (s:ByteArray)(w:World) :
  Calls Tryz.prog 186 #[.string s] w fun e w'=>e=.returned (.bool (decide (s.data.toList∈lD)))∧Below w.heap.size w w':=by
 have hz:∀ k,k<15→k<jZ.length:=fun k h=>h
 go_enter Tryz.func186,Tryz.ntmps186;go_wp2;generalize hw:w.alloc _=wx
 have hh:wx.heap[w.heap.size]?=some (.cells (rowOf jZ) 303 (0,0)):=by rw[← hw];exact aY w _
 have hb:Below w.heap.size w wx:=by rw[← hw];exact(bI _ _).alloc (bD _) _
 clear hw
 go_loop [4] (fun i=>∃ k:Nat,k≤15∧i=.int .i64 k∧∀ j,(hj:j<jZ.length)→j<k→jZ[j]≠s.data.toList) (fun i=>15 - (intOf i).toNat)
 case atStart=>exact⟨0,by omega,rfl,fun j _ h=>absurd h (by omega)⟩
 case round =>
  obtain⟨k,hk,rfl,hj⟩:=hrel
  by_cases hlt:k<15
  ·have hkl:=hz k hlt
   have hI:(k:Int)<15:=by omega
   have hc:wx.cell? ⟨w.heap.size,k,none⟩=some (.string ⟨jZ[k].toArray⟩):=by rw[aV hh];exact MV _ _ hkl
   have hs:=str_eq jZ[k] s
   by_cases he:jZ[k]=s.data.toList
   ·have hm:s.data.toList∈lD:=(Ej _).1 (he ▸ mX _)
    rw[iX he] at hs;generalize ByteArray.mk jZ[k].toArray=y at hc hs;have HM:=ay hm;clear hm he hh hj;go_wp2;go_ret;exact⟨aT (iX HM.out).symm,hb⟩
   ·rw[dA he] at hs
    have HJ:Hid (∀ j,(hj:j<jZ.length)→j<k+1→jZ[j]≠s.data.toList):=ay (fun j hjl hjk=>by
     by_cases hkj:j=k
     ·subst hkj;exact he
     ·exact hj j hjl (by omega))
    generalize ByteArray.mk jZ[k].toArray=y at hc hs;clear he hh hj;go_wp2
    go_round
    case rel=>exact⟨k+1,by omega,by go_num,HJ.out⟩
    case measure=>simp[intOf];omega
  ·have hm:s.data.toList ∉ lD:=fun q=>abr (fun j hjl=>hj j hjl (by have:jZ.length=15:=rfl;omega)) ((Ej _).2 q)
   have HM:=ay hm;have hI:decide ((k:Int)<15)=false:=dA (by omega);clear hm hj hh;go_wp2;go_ret;exact⟨aT (dA HM.out).symm,hb⟩
