/- Walks and plain laws: BagW1, BagW2, BagW3, BagW4. -/
import Derived.Test.YtknicmmigbhpcaaGreatDoorB08
import Derived.Lib.OwnBridge
import Derived.Sort.OwnSorted
import Derived.Sort.Walk0
import Derived.Lib.AppendZerosOnto
import Derived.Laws.AppendOwnNone
set_option maxHeartbeats 16000000
set_option maxRecDepth 100000
set_option linter.unusedVariables false
set_option linter.unusedSimpArgs false
namespace Go.Proofs.YtknicmmigbhpcaaGreatDoor
open Go.RowKit Go Go.Sort
def bJ (P:Nat→Prop)(w:World)(v:Value)(l:List (List UInt8)):Prop:=lF P w v 1 l.length (l.map encStr)∧∀ n c,v=.slice none n c→c=0
theorem bJ.clip {P:Nat→Prop}{w:World}{ao:Option Addr}{n c:Nat}{l:List (List UInt8)}(h:bJ P w (.slice ao n c) l):n=l.length∧bJ P w (.slice ao l.length l.length) l:=by
 obtain⟨⟨Tv,cap,hv,h1,h2,h3⟩,h4⟩:=h;simp only[Value.slice.injEq] at hv;obtain⟨rfl,rfl,rfl⟩:=hv;refine⟨rfl,⟨ao,l.length,rfl,Nat.le_refl _,h2,h3⟩,fun n' c' q=>?_⟩;simp only[Value.slice.injEq] at q;obtain⟨q1,-,rfl⟩:=q
 rcases Nat.eq_zero_or_pos l.length with q|q
 ·exact q
 ·obtain⟨b,off,q2,_⟩:=h3 (by simpa using q)
  rw[q1] at q2;cases q2
theorem bJ.slice {P:Nat→Prop}{w:World}{v:Value}{l:List (List UInt8)}(h:bJ P w v l):∃ ao cap,v=.slice ao l.length cap∧l.length≤cap∧(0<l.length→∃ b off,ao=some ⟨b,off,none⟩∧P b∧b<w.heap.size∧∀ i,(hi:i<l.length)→w.cell? ⟨b,off+i,none⟩=some (.string ⟨l[i].toArray⟩)):=by
 obtain⟨ao,cap,hv,h1,h2,h3⟩:=h.1;refine⟨ao,cap,hv,h1,fun h0=>?_⟩;obtain⟨b,off,q1,q2,q3,q4⟩:=h3 (by simpa using h0);refine⟨b,off,q1,q2,q3,fun i hi=>?_⟩;have:=q4 i (by simpa using hi);simp only[List.getElem_map] at this;exact this
theorem bJ.frame {P:Nat→Prop}{w w':World}{v:Value}{l:List (List UInt8)}(h:bJ P w v l)(ha:aQ P w w'):bJ P w' v l:=⟨lF.frame h.1 ha,h.2⟩
theorem bJ.imp {P Q:Nat→Prop}{w:World}{v:Value}{l:List (List UInt8)}(h:bJ P w v l)(hq:∀ b,P b→b<w.heap.size→Q b):bJ Q w v l:=⟨lF.imp h.1 hq,h.2⟩
theorem bJ.below {P:Nat→Prop}{w w':World}{v:Value}{l:List (List UInt8)}(h:bJ P w v l)(hb:Below w.heap.size w w'):bJ P w' v l:=h.frame (aQ.of hb)
theorem bJ.nil (P:Nat→Prop)(w:World):bJ P w (.slice none 0 0) []:=⟨lF.nil P w 1,fun n c q=>by injection q with _ _ q;exact q.symm⟩
theorem bJ.owns {P:Nat→Prop}{B:Nat}{w:World}{e:TypeId}{v:Value}{l:List (List UInt8)}(h:w.ownsRow B e 1 v l.length (l.map encStr))(hP:∀ b,B≤b→P b):bJ P w v l:=by
 refine⟨lF.eZ h hP,fun n c q=>?_⟩
 rcases h.2 with ⟨h3,_⟩|⟨g,cap,cur,h3,_⟩
 ·rw[q] at h3;injection h3
 ·rw[q] at h3;injection h3 with h3;cases h3
def Ot (l:List (List UInt8))(w:World)(e:Ending)(w':World):Prop:=∃ v',e=.returned v'∧w'.ownsRow w.heap.size 9 1 v' l.length (l.map encStr)∧Below w.heap.size w w'
theorem DL (P:Nat→Prop)(v:Value)(l:List (List UInt8))(w:World)(h:bJ P w v l)(hl:l.length≤1000000):Calls Tryz.prog 153 #[v] w (Ot l w):=by
 obtain⟨ao,cap,rfl,hcap,hc⟩:=h.slice
 rcases Nat.eq_zero_or_pos l.length with h0|h0
 ·obtain rfl:=List.eq_nil_of_length_eq_zero h0
  cases ao with
  | none=>exact(Tryz.slices_Clone_string_nil 0 cap w).mono fun e w' q=>⟨_,q.1,World.ownsRow_nil _ _ _ _,by rw[q.2];exact Below.refl _ _⟩
  | some a=>exact(Tryz.slices_Clone_string_zero a cap w).mono fun e w' ⟨v',q1,q2,_,q3⟩=>⟨v',q1,q2,q3⟩
 ·obtain⟨b,off,rfl,_,_,hcell⟩:=hc h0
  refine(Tryz.slices_Clone_string b off l.length cap (l.map fun s=>⟨s.toArray⟩) w (by simp) (by omega) (fun j hj=>?_)).mono fun e w' ⟨v',q1,q2,_,q3⟩=>⟨v',q1,?_,q3⟩
  ·have hj':j<l.length:=by simpa using hj
   rw[hcell j hj'];simp[List.getD_eq_getElem?_getD,hj']
  ·rw[List.take_of_length_le (by simp),List.map_map] at q2
   exact q2
theorem Le (a:Option Addr)(n c:Nat)(w:World)(h:n≤c)(hc:c≤9223372036854775807)(h0:a=none→n=0):Calls Tryz.prog 155 #[.slice a n c] w fun e w'=>e=.returned (.slice a n n)∧w'=w:=by
 have h1:(n:Int)≤(c:Int):=by omega
 have h2:(0:Int)≤(n:Int):=by omega
 cases a with
 | none =>
  obtain rfl:=h0 rfl;clear h0;go_enter Tryz.func155,Tryz.ntmps155;go_wp2;go_ret;exact⟨rfl,rfl⟩
 | some a =>
  clear h0;go_enter Tryz.func155,Tryz.ntmps155;go_wp2;go_ret;exact⟨rfl,rfl⟩
def nG (l:List (List UInt8))(w:World)(e:Ending)(w':World):Prop:=∃ ao c,e=.returned (.agg #[.slice ao l.length c])∧bJ (fun b=>w.heap.size≤b) w' (.slice ao l.length c) l∧Below w.heap.size w w'
theorem WG {w w1:World}{B g cap n nn q:Nat}{os:Array Obj}{ss:List (List UInt8)}(hown:w1.ownsRow B 9 1 (.slice (some ⟨g,0,none⟩) n cap) n (ss.map encStr))(hbel:Below B w w1)(hbg:B≤g)(hBw:B≤w.heap.size)(hlen:ss.length=n) :
  (putRow encStr (Sort.ahead (grow (putRow encStr (Sort.ahead w1 nn) g 0 (fC ss).toArray) os) q) g 0 (Lib.compact (fC ss)++List.replicate (n - (Lib.compact (fC ss)).length) []).toArray).ownsRow B 9 1 (.slice (some ⟨g,0,none⟩) (bF ss).length cap) (bF ss).length ((bF ss).map encStr) ∧
  Below B w (putRow encStr (Sort.ahead (grow (putRow encStr (Sort.ahead w1 nn) g 0 (fC ss).toArray) os) q) g 0 (Lib.compact (fC ss)++List.replicate (n - (Lib.compact (fC ss)).length) []).toArray):=by
 have hl2:(fC ss).length=ss.length:=nI ss;have hle:=Lib.compact_length_le (fC ss);subst hlen
 rcases hown.2 with ⟨h0,_⟩|⟨g',cap',cur,hv,hbase,hb,h1,h2,h3,h4⟩
 ·cases h0
 cases hv;have hs:=ownsRow_sorted (n:=nn) (os:=os) (ts:=fC ss) hl2 hbase hb h1 h2 h3;have hc:=Lib.ownsRow_putRow (q:=q) (k:=(Lib.compact (fC ss)).length) (ys:=Lib.compact (fC ss)++List.replicate (ss.length - (Lib.compact (fC ss)).length) []) hs (by simp;omega) (by omega);rw[List.take_left] at hc;exact⟨hc,Lib.below_putRow (hbel.grown (grownBy_sorted _) (Nat.le_trans hBw hbel.size) (fun j hj=>by cases hj;exact hbase)) hbg⟩
theorem IW (P:Nat→Prop)(v:Value)(l:List (List UInt8))(w:World)(h:bJ P w v l)(hl:l.length≤1000000):Calls Tryz.prog 93 #[v] w (nG (bF l) w):=by
 have hal:=aj w (.cells #[.slice none 0 0] 114);have hN:=heap_alloc_new w (.cells #[.slice none 0 0] 114);have HC:=ah (fun W (hW:Below w.heap.size w W)=>DL P v l W (h.below hW) hl);clear h;go_enter Tryz.func93,Tryz.ntmps93
 go_upto_region 1 with fail
 change Code.wp _ _ _ _ (w.alloc (.cells #[.slice none 0 0] 114));generalize w.alloc _=w1 at hal hN ⊢;have hl1:=(bG hN).1
 go_upto_region 2 with (go_at_call 153;refine(HC.out _ hal).mono ?_;rintro e w2 ⟨v',rfl,hown,hb2⟩)
 have hz1:=hal.size;have hz2:=hb2.size;have Md:=(hb2.block w.heap.size hl1).trans hN
 by_cases hv:v'=.slice none 0 0
 ·subst hv
  have hl0:l=[]:=by
   rcases hown.2 with ⟨_,q⟩|⟨g,cap,cur,hv,_⟩
   ·exact List.eq_nil_of_length_eq_zero q
   ·cases hv
  subst hl0
  have hfz:w2.frozen? ⟨w.heap.size,0,none⟩=false:=by simp[World.frozen?,Md]
  have hc0:w2.cell? ⟨w.heap.size,0,none⟩=some (.slice none 0 0):=by rw[Lib.cell_of_heap Md];rfl
  have hbw:Below w.heap.size w (w2.setCell ⟨w.heap.size,0,none⟩ (.slice none 0 0)):=(hal.trans (hb2.mono hz1)).setCell (Nat.le_refl _) _
  have hs0:(w2.setCell ⟨w.heap.size,0,none⟩ (.slice none 0 0)).cell? ⟨w.heap.size,0,none⟩=some (.slice none 0 0):=by
   have:=heap_setCell_same w2 w.heap.size 0 _ _ (.slice none 0 0) Md;rw[Lib.cell_of_heap this];rfl
  clear hN Md hown HC hal hb2;go_wp2_with (first|(go_at_call 154;refine(Tryz.slices_Sort_string_none none 0 _).mono ?_;rintro e w' ⟨rfl,rfl⟩)|(go_at_call 156;refine(Tryz.slices_Compact_string_empty none 0 _).mono ?_;rintro e w' ⟨rfl,rfl⟩)|(go_at_call 155;refine(Le none 0 0 _ (by omega) (by omega) (fun _=>rfl)).mono ?_;rintro e w' ⟨rfl,rfl⟩));refine bodyPost_ret (v:=.agg #[.slice none 0 0]) (by simp[results,Tryz.results93,go_sem,hs0]) rfl ⟨none,0,by rw[Jg];rfl,by rw[Jg];exact bJ.nil _ _,hbw⟩
 ·obtain⟨g,cap,rfl,hbg,hgl,afb,hcm,hlen,hH⟩:=Lib.holds_of_ownsRow hown hv
  have hlen':l.length=l.length:=rfl;have HS:=ah (Tryz.slices_Sort_string g 0 cap l w2 hH hgl (by omega))
  have HCP:Hid (∀ nn os,Calls Tryz.prog 156 #[.slice (some ⟨g,0,none⟩) l.length cap] (grow (putRow encStr (Sort.ahead w2 nn) g 0 (fC l).toArray) os) fun e w'=>e=.returned (.slice (some ⟨g,0,none⟩) (bF l).length cap)∧∃ q,w'=putRow encStr (Sort.ahead (grow (putRow encStr (Sort.ahead w2 nn) g 0 (fC l).toArray) os) q) g 0 (Lib.compact (fC l)++List.replicate (l.length - (Lib.compact (fC l)).length) []).toArray):=ah fun nn os=>by
   have hH2:Holds encStr (grow (putRow encStr (Sort.ahead w2 nn) g 0 (fC l).toArray) os) g 0 (fC l).toArray :=
    holds_grow encStr _ os g 0 _ (by simpa [putRow,mapBlock,Sort.ahead] using hgl) (holds_putRow encStr _ g 0 _ _ (holds_ahead encStr w2 nn g 0 _ hH) (by simp[nI]))
   have:=Tryz.slices_Compact_string g 0 cap (fC l) _ hH2 (by rw[nI];omega) (by rw[nI];omega);rw[nI] at this;exact this
  have hsl:=kK l
  have hcp:cap≤9223372036854775807:=by unfold maxLen at hcm;omega
  have HOWN:=ah hown;have hN1:=hN;clear hown hH HC hN Md hv
  go_upto_region 3 with (go_at_call 154;refine HS.out.mono ?_;rintro e w3 ⟨rfl,nn,os,rfl⟩)
  have En:=ah (HCP.out nn os)
  have HF:Hid (∀ q,(putRow encStr (Sort.ahead (grow (putRow encStr (Sort.ahead w2 nn) g 0 (fC l).toArray) os) q) g 0 (Lib.compact (fC l)++List.replicate (l.length - (Lib.compact (fC l)).length) []).toArray).ownsRow w1.heap.size 9 1 (.slice (some ⟨g,0,none⟩) (bF l).length cap) (bF l).length ((bF l).map encStr)∧Below w1.heap.size w1 (putRow encStr (Sort.ahead (grow (putRow encStr (Sort.ahead w2 nn) g 0 (fC l).toArray) os) q) g 0 (Lib.compact (fC l)++List.replicate (l.length - (Lib.compact (fC l)).length) []).toArray)):=ah fun q=>WG (nn:=nn) (q:=q) (os:=os) HOWN.out hb2 hbg (Nat.le_refl _) rfl
  clear HCP HS;change Code.wp _ _ _ _ (grow (putRow encStr (Sort.ahead w2 nn) g 0 (fC l).toArray) os);generalize grow (putRow encStr (Sort.ahead w2 nn) g 0 (fC l).toArray) os=w3 at En HF ⊢;have Tz:=ah (fun W=>Le (some ⟨g,0,none⟩) (bF l).length cap W (by omega) hcp (fun q=>by cases q));go_wp2_with (first|(go_at_call 156;refine En.out.mono ?_;rintro e w4 ⟨rfl,q,rfl⟩;have hF:=HF.out q;clear En HF;generalize putRow encStr _ _ _ _=w4 at hF ⊢;have Vq:=(hF.2.block w.heap.size hl1).trans hN1;have hfz:w4.frozen? ⟨w.heap.size,0,none⟩=false:=(by simp[World.frozen?,Vq]);have hc0:w4.cell? ⟨w.heap.size,0,none⟩=some (.slice none 0 0):=(by rw[Lib.cell_of_heap Vq];rfl))|(go_at_call 155;refine(Tz.out _).mono ?_;rintro e w' ⟨rfl,rfl⟩))
  have hs0:(w'.setCell ⟨w.heap.size,0,none⟩ (.slice (some ⟨g,0,none⟩) (bF l).length (bF l).length)).cell? ⟨w.heap.size,0,none⟩=some (.slice (some ⟨g,0,none⟩) (bF l).length (bF l).length):=by
   have:=heap_setCell_same w' w.heap.size 0 _ _ (.slice (some ⟨g,0,none⟩) (bF l).length (bF l).length) Vq;rw[Lib.cell_of_heap this];rfl
  have hbw:Below w.heap.size w (w'.setCell ⟨w.heap.size,0,none⟩ (.slice (some ⟨g,0,none⟩) (bF l).length (bF l).length)):=(hal.trans (hF.2.mono hz1)).setCell (Nat.le_refl _) _;have htx:bJ (fun b=>w1.heap.size≤b) w' (.slice (some ⟨g,0,none⟩) (bF l).length cap) (bF l):=bJ.owns hF.1 (fun _ hb=>hb)
  have Ou:bJ (fun b=>w.heap.size≤b) (w'.setCell ⟨w.heap.size,0,none⟩ (.slice (some ⟨g,0,none⟩) (bF l).length (bF l).length)) (.slice (some ⟨g,0,none⟩) (bF l).length (bF l).length) (bF l):=(htx.clip.2.frame (aQ.set _ fun b hb=>by show b≠w.heap.size;omega)).imp fun b hb _=>by omega
  exact bodyPost_ret (v:=.agg #[.slice (some ⟨g,0,none⟩) (bF l).length (bF l).length]) (by simp[results,Tryz.results93,go_sem,hs0]) rfl ⟨_,_,rfl,Ou,hbw⟩
def Ag (l:List (List UInt8))(x:ByteArray)(j:Nat):ByteArray:=if h:j<l.length then ⟨l[j].toArray⟩ else x
theorem vZ (l:List (List UInt8))(x:ByteArray)(j:Nat):(Ag l x j).data.toList=if h:j<l.length then l[j] else x.data.toList:=by
 unfold Ag
 split<;>rfl
theorem Zm (l:List (List UInt8))(x:List UInt8):∀ t,t<(l.takeWhile fun y=>decide (y<x)).length→∀ (h:t<l.length),l[t]<x:=fun t ht h2=>by
 have h1:(l.takeWhile fun y=>decide (y<x))[t]=l[t]:=List.IsPrefix.getElem (List.takeWhile_prefix _) ht;have h3:=List.all_takeWhile (l:=l) (p:=fun y=>decide (y<x));have h4:=List.all_eq_true.1 h3 _ (List.getElem_mem ht);rw[h1] at h4
 simpa using h4
theorem Gq (x:List UInt8):∀ (l:List (List UInt8)) (h:(l.takeWhile fun y=>decide (y<x)).length<l.length),¬ l[(l.takeWhile fun y=>decide (y<x)).length]<x
 | [],h=>absurd h (by simp)
 | y :: l,h=>by
  by_cases q:y<x
  ·have e:((y :: l).takeWhile fun y=>decide (y<x))=y :: (l.takeWhile fun y=>decide (y<x)):=List.takeWhile_cons_of_pos (by simpa using q)
   have h2:(l.takeWhile fun y=>decide (y<x)).length<l.length:=by
    rw[e] at h
    simpa using h
   have ih:=Gq x l h2
   have:∀ n,(hn:n<(y :: l).length)→n=(l.takeWhile fun y=>decide (y<x)).length+1→¬ (y :: l)[n]<x:=by
    rintro n hn rfl;exact ih
   exact this _ h (by rw[e];rfl)
  ·have e:((y :: l).takeWhile fun y=>decide (y<x))=[]:=List.takeWhile_cons_of_neg (by simpa using q)
   have:∀ n,(hn:n<(y :: l).length)→n=0→¬ (y :: l)[n]<x:=by
    rintro n hn rfl;exact q
   exact this _ h (by rw[e];rfl)
theorem Ov (l:List (List UInt8))(x:ByteArray)(hl:l.Pairwise (· < ·)):decide (Lib.bsGo (fun t=>Op.bytesLess (Ag l x t).toList x.toList) l.length 0 l.length<l.length∧Ag l x (Lib.bsGo (fun t=>Op.bytesLess (Ag l x t).toList x.toList) l.length 0 l.length)=x)=decide (x.data.toList∈l):=by
 simp only[Lib.toList_data,Go.Proofs.bytesLess_eq,vZ];have hA:=Zm l x.data.toList;have hB:=Gq x.data.toList l;have hC:=(List.takeWhile_prefix (l:=l) (fun y=>decide (y<x.data.toList))).length_le;generalize (l.takeWhile fun y=>decide (y<x.data.toList)).length=k at hA hB hC
 have hk:=Lib.bsGo_spec (fun t=>decide ((if h:t<l.length then l[t] else x.data.toList)<x.data.toList)) k (fun t ht=>by
   have htl:t<l.length:=by omega
   rw[dif_pos htl]
   exact decide_eq_true (hA t ht htl)) (fun t ht=>by
   by_cases htl:t<l.length
   ·rw[dif_pos htl]
    refine decide_eq_false fun q=>?_
    by_cases e:t=k
    ·subst e;exact hB htl q
    ·exact hB (by omega) (List.lt_trans (List.pairwise_iff_getElem.1 hl k t (by omega) htl (by omega)) q)
   ·rw[dif_neg htl]
    exact decide_eq_false (List.lt_irrefl _)) l.length 0 l.length (by omega) (by omega) hC
 rw[hk]
 congr 1
 apply propext
 constructor
 ·rintro⟨h1,h2⟩
  have h3:=congrArg (fun b:ByteArray=>b.data.toList) h2;simp only[vZ] at h3;rw[dif_pos h1] at h3;rw[← h3];exact List.getElem_mem h1
 ·intro h
  obtain⟨j,hj,e⟩:=List.getElem_of_mem h
  have hjk:k≤j:=by
   apply Classical.byContradiction
   intro q;have:=hA j (by omega) hj;rw[e] at this;exact List.lt_irrefl _ this
  have hkj:k=j:=by
   apply Classical.byContradiction
   intro q;refine hB (by omega) ?_;rw[← e];exact List.pairwise_iff_getElem.1 hl k j (by omega) hj (by omega)
  subst hkj;refine⟨hj,pW ?_⟩;rw[vZ,dif_pos hj,e]
def WH (l:List (List UInt8))(x:ByteArray)(w:World)(e:Ending)(w':World):Prop:=(∃ i:Int,e=.returned (.tuple #[.int .i64 i,.bool (decide (x.data.toList∈l))]))∧Below w.heap.size w w'
theorem WI (P:Nat→Prop)(ao:Option Addr)(c:Nat)(l:List (List UInt8))(x:ByteArray)(w:World)(h:bJ P w (.slice ao l.length c) l)(hr:l.Pairwise (· < ·))(hn:l.length≤1000000):Calls Tryz.prog 92 #[.slice ao l.length c,.string x] w (WH l x w):=by
 obtain⟨Tv,cap,hv,hcap,hc⟩:=h.slice;simp only[Value.slice.injEq] at hv;obtain⟨rfl,-,rfl⟩:=hv
 rcases Nat.eq_zero_or_pos l.length with h0|h0
 ·obtain rfl:=List.eq_nil_of_length_eq_zero h0
  refine(Any2.slices_BinarySearch_string_empty Tryz.Bu ao c x w).mono fun e w' q=>⟨⟨0,by rw[q.1];simp⟩,by rw[q.2];exact Below.refl _ _⟩
 ·obtain⟨b,off,rfl,_,_,hcell⟩:=hc h0
  refine(Any2.slices_BinarySearch_string Tryz.Bu b off l.length c (Ag l x) x w (by omega) (fun j hj=>by rw[hcell j hj,Ag,dif_pos hj])).mono fun e w' ⟨q1,n,q2⟩=>⟨⟨(Lib.bsGo (fun t=>Op.bytesLess (Ag l x t).toList x.toList) l.length 0 l.length:Nat),by rw[q1,Ov l x hr]⟩,by rw[q2];exact⟨rfl,rfl,rfl,Nat.le_refl _,fun _ _=>rfl⟩⟩
theorem aH {w:World}{b:Nat}{v:Value}(h:w.heap[b]?=some (.cells #[v] 114 (0,0))):w.cell? ⟨b,0,none⟩=some v∧w.frozen? ⟨b,0,none⟩=false:=⟨by rw[Lib.cell_of_heap h];rfl,by simp[World.frozen?,h]⟩
def IX (l:List (List UInt8))(w:World)(e:Ending)(w':World):Prop:=∃ ao c,e=.returned (.slice ao l.length c)∧bJ (fun b=>w.heap.size≤b) w' (.slice ao l.length c) l∧Below w.heap.size w w'
theorem Ot.tx {l:List (List UInt8)}{w w':World}{e:Ending}(h:Ot l w e w'):IX l w e w':=by
 obtain⟨v',h1,h2,h3⟩:=h;have h4:bJ (fun b=>w.heap.size≤b) w' v' l:=bJ.owns h2 (fun _ hb=>hb);obtain⟨ao,cap,rfl,_,_⟩:=h4.slice;exact⟨ao,cap,h1,h4,h3⟩
theorem Gr (P:Nat→Prop)(ao:Option Addr)(c:Nat)(l:List (List UInt8))(w:World)(h:bJ P w (.slice ao l.length c) l)(hl:l.length≤1000000):Calls Tryz.prog 160 #[.agg #[.slice ao l.length c]] w (IX l w):=by
 have hal:=aj w (.cells #[.slice ao l.length c] 114);have hN:=heap_alloc_new w (.cells #[.slice ao l.length c] 114);have HC:=ah (fun W (hW:Below w.heap.size w W)=>(DL P _ l W (h.below hW) hl).mono fun _ _ q=>q.tx);clear h;go_enter Tryz.func160,Tryz.ntmps160
 go_upto_region 1 with fail
 change Code.wp _ _ _ _ (w.alloc (.cells #[.slice ao l.length c] 114));generalize w.alloc _=w1 at hal hN ⊢;have c0:=(aH hN).1;go_wp2_with (go_at_call 153;refine(HC.out _ hal).mono ?_;rintro e w2 ⟨Tv,c',rfl,htx,hb2⟩);go_ret;exact⟨Tv,c',rfl,htx.imp fun b hb _=>Nat.le_trans hal.size hb,hal.trans (hb2.mono hal.size)⟩
theorem yh (P:Nat→Prop)(ao:Option Addr)(c:Nat)(l:List (List UInt8))(x:ByteArray)(w:World)(h:bJ P w (.slice ao l.length c) l)(hr:l.Pairwise (· < ·))(hl:l.length≤1000000):Calls Tryz.prog 60 #[.agg #[.slice ao l.length c],.string x] w fun e w'=>e=.returned (.bool (decide (x.data.toList∈l)))∧Below w.heap.size w w':=by
 have hal:=aj w (.cells #[.slice ao l.length c] 114);have hN:=heap_alloc_new w (.cells #[.slice ao l.length c] 114);have HC:=ah (fun W (hW:Below w.heap.size w W)=>WI P ao c l x W (h.below hW) hr hl);clear h hr;unfold WH at HC;generalize decide (x.data.toList∈l)=r at *;go_enter Tryz.func60,Tryz.ntmps60
 go_upto_region 1 with fail
 change Code.wp _ _ _ _ (w.alloc (.cells #[.slice ao l.length c] 114));generalize w.alloc _=w1 at hal hN ⊢;have c0:=(aH hN).1;go_wp2_with (go_at_call 92;refine(HC.out _ hal).mono ?_;rintro e w2 ⟨⟨i,rfl⟩,hb2⟩);go_ret;exact⟨rfl,hal.trans (hb2.mono hal.size)⟩
theorem Tryz.yj:(Tryz.prog.info? 9).map (fun i=>(i.zero,i.size,i.bytes))=some (some (.string ⟨#[]⟩),1,16):=by kernel_rfl
def qI (B:Nat)(w:World)(v:Value)(l:List (List UInt8)):Prop:=w.ownsRow B 9 1 v l.length (l.map encStr)
theorem qI.slice {B:Nat}{w:World}{v:Value}{l:List (List UInt8)}(h:qI B w v l):∃ ak ck,v=.slice ak l.length ck:=by
 obtain⟨ao,cap,e,_,_⟩:=(bJ.owns (P:=fun _=>True) h (fun _ _=>trivial)).slice;exact⟨ao,cap,e⟩
def Lf (w:World)(e:Ending)(w':World):Prop:=∃ v,e=.returned v∧qI w.heap.size w' v []∧Below w.heap.size w w'
theorem Sv (n:Nat)(w:World)(hn:n≤4000000):Calls Tryz.prog 157 #[.slice none 0 0,.int .i64 n] w (Lf w):=by
 rcases Nat.eq_zero_or_pos n with h0|h0
 ·subst h0
  go_enter Tryz.func157,Tryz.ntmps157;go_wp2;go_ret;exact⟨_,rfl,World.ownsRow_nil _ _ _ _,Below.refl _ _⟩
 ·obtain⟨i0,hi,hz0,hz1,hz2⟩:=info_parts Tryz.yj
  have hrz:=Lib.run_append_grow_zeros (P:=Tryz.prog) w 22 3 22 9 i0 _ .i64 .i64 Tryz.underlying22 Tryz.underlying3 hi hz0 none 0 0 [] (run_firstCells_none _ _ _ _ _) n h0 (by omega) (by omega) (by omega) (by rw[hz2];omega) (by rw[hz2];exact growslice_fits (by omega) (by omega));rw[Nat.zero_add] at hrz;have hG1:=grownCap_ge w n 0 9;have hG2:=grownCap_le_maxLen w n 0 9 (by unfold maxLen;omega);generalize grownCap w n 0 9=G at *
  have hown:((w.alloc (.cells (Builtin.zeroCells #[Value.string ⟨#[]⟩] n++Builtin.zeroCells #[Value.string ⟨#[]⟩] (G - n)) 9)).drew).ownsRow w.heap.size 9 1 (.slice (some ⟨w.heap.size,0,none⟩) 0 G) 0 [] :=
   ⟨rfl,.inr ⟨w.heap.size,G,_,rfl,Nat.le_refl _,heap_alloc_new w _,by omega,hG2,by simp[size_zeroCells];omega,by simp⟩⟩
  have hbel:Below w.heap.size w ((w.alloc (.cells (Builtin.zeroCells #[Value.string ⟨#[]⟩] n++Builtin.zeroCells #[Value.string ⟨#[]⟩] (G - n)) 9)).drew):=((Below.refl _ w).alloc (Nat.le_refl _) _).drew;have HO:=ah hown;have HB:=ah hbel
  have hG3:G≤9223372036854775807:=by unfold maxLen at hG2;omega
  have hnI:(0:Int)<(n:Int):=by omega
  have hn0:¬ ((n:Int)<0):=by omega
  clear hown hbel;go_enter Tryz.func157,Tryz.ntmps157;go_wp2_with (at_builtin;refine Lib.wpList_append_run _ rfl _ _ _ _ rfl _ _ rfl rfl _ _ hrz ?_)
  all_goals (go_ret;exact⟨_,rfl,HO.out,HB.out⟩)
theorem bJ.news {P:Nat→Prop}{w:World}{ad:Addr}{n c:Nat}{l:List (List UInt8)}(h:bJ P w (.slice (some ad) n c) l):∀ j u,(l.map encStr)[j]?=some u→w.cell? (ad.add j)=some u:=by
 obtain⟨ao,cap,hv,_,hc⟩:=h.slice;simp only[Value.slice.injEq] at hv;obtain⟨rfl,rfl,rfl⟩:=hv;intro j u hj;rw[List.getElem?_map] at hj;obtain⟨x,hx,rfl⟩:=Option.map_eq_some_iff.1 hj;obtain⟨hjl,rfl⟩:=mR hx;obtain⟨b,off,e,_,_,hcell⟩:=hc (by omega)
 injection e with e
 subst e;rw[Addr.add_lit];exact hcell j hjl
def Zn (l:List (List UInt8))(w:World)(e:Ending)(w':World):Prop:=∃ v,e=.returned v∧qI w.heap.size w' v l∧Below w.heap.size w w'
theorem Qa (l:List (List UInt8)):∀ u∈l.map encStr,u.oneCell'=true:=by
 intro u hu;obtain⟨x,_,rfl⟩:=List.mem_map.1 hu
 rfl
theorem qI.app {B:Nat}{w:World}{v:Value}{l a:List (List UInt8)}(h:w.ownsRow B 9 1 v (l.length+a.length) (l.map encStr++a.map encStr)):qI B w v (l++a):=by
 unfold qI;rw[bN,List.map_append];exact h
theorem Ow (P:Nat→Prop)(v1 v2:Value)(a b:List (List UInt8))(sb:Nat)(w:World)(h1:bJ P w v1 a)(h2:bJ P w v2 b)(hs:w.heap[sb]?=some (.cells #[v1,v2] 22 (0,0)))(ha:a.length≤1000000)(hb:b.length≤1000000) :
  Calls Tryz.prog 94 #[.slice (some ⟨sb,0,none⟩) 2 2] w (Zn (a++b) w):=by
 obtain⟨i0,hi,hz0,hz1,hz2⟩:=info_parts Tryz.yj;obtain⟨a1,c1,rfl,hc1,-⟩:=h1.slice;obtain⟨a2,c2,rfl,hc2,-⟩:=h2.slice;have hsl:=(bG hs).1
 have x0:w.cell? ⟨sb,0,none⟩=some (.slice a1 a.length c1):=by rw[Lib.cell_of_heap hs];rfl
 have x1:w.cell? ⟨sb,1,none⟩=some (.slice a2 b.length c2):=by rw[Lib.cell_of_heap hs];rfl
 have HG:Hid (Calls Tryz.prog 157 #[.slice none 0 0,.int .i64 ((a.length:Int)+(b.length:Int))] w (Lf w)):=ah (by
  have:=Sv (a.length+b.length) w (by omega);rw[Int.natCast_add] at this
  exact this)
 have H1:=ah h1;have H2:=ah h2;have HS:=ah hs
 have haI:(a.length:Int)≤1000000:=by omega
 have hbI:(b.length:Int)≤1000000:=by omega
 have hnn:¬ ((a.length:Int)+(b.length:Int)<0):=by omega
 have hn1:¬ ((a.length:Int)<0):=by omega
 clear h1 h2 hs;go_enter Tryz.func94,Tryz.ntmps94;go_wp2
 go_loopw [3,5,11] (fun s _ q wr=>wr=w∧((q=.int .i64 0∧s=.int .i64 0)∨(q=.int .i64 1∧s=.int .i64 a.length)∨(q=.int .i64 2∧s=.int .i64 ((a.length:Int)+(b.length:Int))))) (fun _ _ q _=>(2 - intOf q).toNat)
 case atStart=>exact⟨rfl,.inl ⟨rfl,rfl⟩⟩
 case round =>
  obtain⟨rfl,⟨rfl,rfl⟩|⟨rfl,rfl⟩|⟨rfl,rfl⟩⟩:=hrel
  ·clear HG H1 H2 HS
   go_wp2
   go_roundw
   case rel=>exact⟨by trivial,.inr (.inl ⟨rfl,by simp⟩)⟩
   case measure=>simp[intOf]
  ·clear HG H1 H2 HS
   go_wp2
   go_roundw
   case rel=>exact⟨by trivial,.inr (.inr ⟨rfl,rfl⟩)⟩
   case measure=>simp[intOf]
  ·clear x0 x1
   obtain⟨w0,rfl⟩:∃ w0:World,w0=wr:=⟨_,rfl⟩
   go_upto_region 10 with (go_at_call 157;refine HG.out.mono ?_;rintro e w2 ⟨v,rfl,hown,hb2⟩)
   obtain⟨ak0,ck0,rfl⟩:=hown.slice;have HO:=ah hown;have HB2:=ah hb2;clear hown hb2 HG;go_wp2
   go_loopw [6,8,27] (fun kv _ q w3=>∃ (ak:Option Addr) (ck:Nat) (l:List (List UInt8)),kv=.slice ak l.length ck∧qI w0.heap.size w3 (.slice ak l.length ck) l∧Below w0.heap.size w0 w3∧((q=.int .i64 0∧l=[])∨(q=.int .i64 1∧l=a)∨(q=.int .i64 2∧l=a++b))) (fun _ _ q _=>(2 - intOf q).toNat)
   case atStart=>exact⟨ak0,ck0,[],rfl,HO.out,HB2.out,.inl ⟨rfl,rfl⟩⟩
   case round =>
    obtain⟨ak,ck,l,rfl,hown,hbl,⟨rfl,rfl⟩|⟨rfl,hla⟩|⟨rfl,rfl⟩⟩:=hrel
    ·-- round 0
     have hsc:wr.cell? ⟨sb,0,none⟩=some (.slice a1 a.length c1):=by rw[Lib.cell_of_heap ((hbl.block sb hsl).trans HS.out)];rfl
     have ht:=H1.out.below hbl;have uL:=hbl.size
     cases a1 with
     | none =>
      obtain rfl:=ht.2 _ _ rfl
      have hl0:a.length=0:=by
       obtain⟨ao,cap,hv,_,hc⟩:=ht.slice
       rcases Nat.eq_zero_or_pos a.length with q|q
       ·exact q
       ·obtain⟨b,off,e,_⟩:=hc q
        simp only[Value.slice.injEq] at hv;rw[← hv.1] at e;cases e
      have he:=List.eq_nil_of_length_eq_zero hl0;rw[hl0] at hsc;have HW:=ah hown;have HE:=ah he;clear ht hown he hl0 H1 H2;go_wp2_with (at_builtin;refine wpList_append_own_none rfl _ _ 22 rfl w0.heap.size 9 i0 1 Tryz.underlying22 hi _ ([]:List (List UInt8)).length _ rfl HW.out rfl ?_)
      go_roundw
      case rel =>
       repeat apply Exists.intro
       exact⟨⟨_,_,_,rfl,HW.out,hbl,.inr (.inl ⟨rfl,HE.out.symm⟩)⟩,rfl⟩
      case measure=>simp[intOf]
     | some ad =>
      have hnews:=ht.news;have HW:=ah hown;clear ht H1 H2;go_wp2_with (at_builtin;refine wpList_append_own _ rfl _ _ 22 rfl w0.heap.size 9 i0 _ 1 16 Tryz.underlying22 hi hz0 hz1 hz2 rfl (by decide) _ ([]:List (List UInt8)).length _ rfl HW.out ad a.length c1 (a.map encStr) rfl ?q1 hnews (Qa _) ?q2 ?q3 uL ?_)
      case q1=>simp
      case q2=>unfold maxLen;first|omega|(simp only[List.length_nil];omega)
      case q3=>first|omega|(simp only[List.length_nil];omega)
      intro v' w' hown' hgrow hiff;have hb':=hbl.grown hgrow uL (fun b q=>(HW.out.lt b q).1);have Ox:Hid (qI w0.heap.size w' v' a):=ah hown';obtain⟨xP,xQ,rfl⟩:=Ox.out.slice;clear hown' hgrow hiff hown HW hnews;go_wp2
      go_roundw
      case rel =>
       repeat apply Exists.intro
       exact⟨⟨_,_,_,rfl,Ox.out,hb',.inr (.inl ⟨rfl,rfl⟩)⟩,rfl⟩
      case measure=>simp[intOf]
    ·-- round 1
     have afF:l.length≤1000000:=by rw[hla];exact ha
     have HLA:=ah hla;clear hla
     have hsc:wr.cell? ⟨sb,1,none⟩=some (.slice a2 b.length c2):=by rw[Lib.cell_of_heap ((hbl.block sb hsl).trans HS.out)];rfl
     have ht:=H2.out.below hbl;have uL:=hbl.size
     cases a2 with
     | none =>
      obtain rfl:=ht.2 _ _ rfl
      have hl0:b.length=0:=by
       obtain⟨ao,cap,hv,_,hc⟩:=ht.slice
       rcases Nat.eq_zero_or_pos b.length with q|q
       ·exact q
       ·obtain⟨b,off,e,_⟩:=hc q
        simp only[Value.slice.injEq] at hv;rw[← hv.1] at e;cases e
      have he:=List.eq_nil_of_length_eq_zero hl0;rw[hl0] at hsc;have HW:=ah hown;have HE:=ah he;clear ht hown he hl0 H1 H2;go_wp2_with (at_builtin;refine wpList_append_own_none rfl _ _ 22 rfl w0.heap.size 9 i0 1 Tryz.underlying22 hi _ l.length _ rfl HW.out rfl ?_)
      go_roundw
      case rel =>
       repeat apply Exists.intro
       exact⟨⟨_,_,_,rfl,HW.out,hbl,.inr (.inr ⟨rfl,by rw[HE.out,List.append_nil,HLA.out]⟩)⟩,rfl⟩
      case measure=>simp[intOf]
     | some ad =>
      have hnews:=ht.news;have HW:=ah hown;clear ht H1 H2;go_wp2_with (at_builtin;refine wpList_append_own _ rfl _ _ 22 rfl w0.heap.size 9 i0 _ 1 16 Tryz.underlying22 hi hz0 hz1 hz2 rfl (by decide) _ l.length _ rfl HW.out ad b.length c2 (b.map encStr) rfl ?q1 hnews (Qa _) ?q2 ?q3 uL ?_)
      case q1=>simp
      case q2=>unfold maxLen;first|omega|(simp only[List.length_nil];omega)
      case q3=>first|omega|(simp only[List.length_nil];omega)
      intro v' w' hown' hgrow hiff;have hb':=hbl.grown hgrow uL (fun b q=>(HW.out.lt b q).1);have Ox:=ah (qI.app (l:=l) (a:=b) hown');obtain⟨xP,xQ,rfl⟩:=Ox.out.slice;clear hown' hgrow hiff hown HW hnews;go_wp2
      go_roundw
      case rel =>
       repeat apply Exists.intro
       exact⟨⟨_,_,_,rfl,Ox.out,hb',.inr (.inr ⟨rfl,by rw[HLA.out]⟩)⟩,rfl⟩
      case measure=>simp[intOf]
    ·have HW:=ah hown
     clear hown H1 H2;go_wp2;go_ret;exact⟨_,rfl,HW.out,hbl⟩
theorem zC {w:World}{b:Nat}{v u:Value}(h:w.heap[b]?=some (.cells #[v] 114 (0,0))):(w.setCell ⟨b,0,none⟩ u).cell? ⟨b,0,none⟩=some u:=by
 have:=heap_setCell_same w b 0 _ _ u h;rw[Lib.cell_of_heap this];rfl
theorem DN (P:Nat→Prop)(ao:Option Addr)(c:Nat)(v2:Value)(a b:List (List UInt8))(w:World)(h1:bJ P w (.slice ao a.length c) a)(h2:bJ P w v2 b)(ha:a.length≤500000)(hb:b.length≤500000) :
  Calls Tryz.prog 61 #[.agg #[.slice ao a.length c],v2] w (nG (bF (a++b)) w):=by
 obtain⟨a2,c2,rfl,-,-⟩:=h2.slice;have hal:=(aj w (.cells #[.slice ao a.length c] 114)).alloc (by simp) (.cells #[.slice none 0 0] 114);have hN:=(Lib.alloc_old (w.alloc (.cells #[.slice ao a.length c] 114)) (.cells #[.slice none 0 0] 114) w.heap.size (by simp)).trans (heap_alloc_new w (.cells #[.slice ao a.length c] 114));have hR:=heap_alloc_new (w.alloc (.cells #[.slice ao a.length c] 114)) (.cells #[.slice none 0 0] 114);rw[World.size_alloc] at hR;have HC:=ah (fun W (hW:Below w.heap.size w W)=>Ow P (.slice ao a.length c) (.slice a2 b.length c2) a b W.heap.size (W.alloc (.cells #[.slice ao a.length c,.slice a2 b.length c2] 22)) ((h1.below hW).below (aj W _)) ((h2.below hW).below (aj W _)) (heap_alloc_new W _) (by omega) (by omega))
 have hlen:(a++b).length≤1000000:=by rw[bN];omega
 clear h1 h2;go_enter Tryz.func61,Tryz.ntmps61
 go_upto_region 1 with fail
 change Code.wp _ _ _ _ ((w.alloc (.cells #[.slice ao a.length c] 114)).alloc (.cells #[.slice none 0 0] 114));generalize (w.alloc _).alloc _=w1 at hal hN hR ⊢;have Sw:=(bG hR).1;have c0:=(aH hN).1;have hz1:=hal.size;have L6:=ah (HC.out w1 hal);clear HC hN;go_wp2_with (first|(go_at_call 94;refine L6.out.mono ?_;rintro e w2 ⟨v,rfl,hown,hb2⟩;have sj:=(aj w1 (.cells #[.slice ao a.length c,.slice a2 b.length c2] 22)).trans (hb2.mono (by simp));have hz2:=sj.size;have Lg:=ah (IW (fun _=>True) v (a++b) w2 (bJ.owns hown (fun _ _=>trivial)) hlen))|(go_at_call 93;refine Lg.out.mono ?_;rintro e w3 ⟨ar,cr,rfl,htx,hb3⟩;have vD:=sj.trans (hb3.mono hz2);have Qb:=(vD.block _ Sw).trans hR;have hfz:=(aH Qb).2;have hc0:=(aH Qb).1));have hs0:=zC (u:=.slice ar (bF (a++b)).length cr) Qb;have hbw:Below w.heap.size w (w3.setCell ⟨w.heap.size+1,0,none⟩ (.slice ar (bF (a++b)).length cr)):=(hal.trans (vD.mono hz1)).setCell (by show w.heap.size≤w.heap.size+1;omega) _
 have Ou:bJ (fun b=>w.heap.size≤b) (w3.setCell ⟨w.heap.size+1,0,none⟩ (.slice ar (bF (a++b)).length cr)) (.slice ar (bF (a++b)).length cr) (bF (a++b)):=(htx.frame (aQ.set _ fun k hk=>by show k≠w.heap.size+1;omega)).imp fun k hk _=>by omega
 exact bodyPost_ret (v:=.agg #[.slice ar (bF (a++b)).length cr]) (by simp[results,Tryz.results61,go_sem,hs0]) rfl ⟨_,_,rfl,Ou,hbw⟩
def aei (f:FuncId)(lb:Array Value)(p:List UInt8→Bool)(w:World)(x:List UInt8):Prop:=∀ W,Below w.heap.size w W→Calls Tryz.prog f (#[.string ⟨x.toArray⟩]++lb) W fun r w'=>r=.returned (.bool (p x))∧Below W.heap.size W w'
theorem Ah {p:List UInt8→Bool}{l:List (List UInt8)}{k:Nat}(h:k<l.length):(l.take (k+1)).filter p=(l.take k).filter p++if p l[k]=true then [l[k]] else []:=by
 rw[List.take_succ_eq_append_getElem h,List.filter_append]
 congr 1
 cases h':p l[k]<;>simp[h']
theorem WJ (f:FuncId)(lb:Array Value)(p:List UInt8→Bool)(eg:∀ args w,(callFunc f args).run Tryz.prog w=.ok (.enter f args) w)(P:Nat→Prop)(ao:Option Addr)(c:Nat)(l:List (List UInt8))(w:World)(h:bJ P w (.slice ao l.length c) l)(hl:l.length≤1000000)(hk:∀ x∈l,aei f lb p w x) :
  Calls Tryz.prog 230 #[.agg #[.slice ao l.length c],.func (.func f) #[] lb] w (nG (l.filter p) w):=by
 obtain⟨i0,hi,hz0,hz1',hz2'⟩:=info_parts Tryz.yj;have hal:=(aj w (.cells #[.slice ao l.length c] 114)).alloc (by simp) (.cells #[.slice none 0 0] 114);have hN:=(Lib.alloc_old (w.alloc (.cells #[.slice ao l.length c] 114)) (.cells #[.slice none 0 0] 114) w.heap.size (by simp)).trans (heap_alloc_new w (.cells #[.slice ao l.length c] 114));have hR:=heap_alloc_new (w.alloc (.cells #[.slice ao l.length c] 114)) (.cells #[.slice none 0 0] 114);rw[World.size_alloc] at hR;have HT:=ah (fun W (hW:Below w.heap.size w W)=>h.below hW);have HK:=ah hk;clear h hk;go_enter Tryz.func230,Tryz.ntmps230
 go_upto_region 1 with fail
 change Code.wp _ _ _ _ ((w.alloc (.cells #[.slice ao l.length c] 114)).alloc (.cells #[.slice none 0 0] 114));generalize (w.alloc _).alloc _=w1 at hal hN hR ⊢;have Sw:=(bG hR).1;have c0:=(aH hN).1;have hz1:=hal.size;go_wp2
 go_loopw [5,7,11] (fun kv _ q wr=>∃ (k:Nat) (ak:Option Addr) (ck:Nat),k≤l.length∧q=.int .i64 k∧kv=.slice ak ((l.take k).filter p).length ck∧qI w1.heap.size wr (.slice ak ((l.take k).filter p).length ck) ((l.take k).filter p)∧Below w1.heap.size w1 wr) (fun _ _ q _=>l.length - (intOf q).toNat)
 case atStart=>exact⟨0,none,0,Nat.zero_le _,rfl,rfl,World.ownsRow_nil _ _ _ _,Below.refl _ _⟩
 case round =>
  obtain⟨k,ak,ck,hkl,rfl,rfl,hown,hbl⟩:=hrel;have uL:=hbl.size;have hbw:=hal.trans (hbl.mono hz1)
  by_cases hlt:k<l.length
  ·obtain⟨Tv,cap,hv,_,hc⟩:=(HT.out wr hbw).slice
   simp only[Value.slice.injEq] at hv;obtain⟨rfl,-,rfl⟩:=hv;obtain⟨b,off,rfl,_,_,hcell⟩:=hc (by omega);have x0:=hcell k hlt;have hA:=HK.out _ (List.getElem_mem hlt) wr hbw;have hsn:=Ah (p:=p) hlt;have hfl:((l.take k).filter p).length≤1000000:=Nat.le_trans (List.length_filter_le _ _) (by rw[List.length_take];omega);have pK:=ah hsn;have HA:=ah hA;have HW:=ah hown
   have oH:(k:Int)<(l.length:Int):=by omega
   clear hcell hA hsn hown;generalize hzs:(l.take k).filter p=zs at *;generalize l[k]=x at *;clear hzs
   cases hp:p x with
   | false =>
    have HN:Hid ((l.take (k+1)).filter p=zs):=ah (by rw[pK.out,hp];simp);have HA2:Hid (Calls Tryz.prog f (#[.string ⟨x.toArray⟩]++lb) wr fun r w'=>r=.returned (.bool false)∧Below wr.heap.size wr w'):=ah (by have:=HA.out;rw[hp] at this;exact this);clear pK hp HA;go_wp2_with (go_at_fn f;refine HA2.out.mono ?_;rintro r w2 ⟨rfl,hb2⟩)
    go_roundw
    case rel =>
     exact⟨k+1,ak,ck,by omega,by go_num,by rw[HN.out],by rw[HN.out];exact own_below HW.out hb2,hbl.trans (hb2.mono uL)⟩
    case measure=>simp[intOf];omega
   | true =>
    have HN:Hid ((l.take (k+1)).filter p=zs++[x]):=ah (by rw[pK.out,hp];simp);have HA2:Hid (Calls Tryz.prog f (#[.string ⟨x.toArray⟩]++lb) wr fun r w'=>r=.returned (.bool true)∧Below wr.heap.size wr w'):=ah (by have:=HA.out;rw[hp] at this;exact this);clear pK hp HA
    go_upto_region 6 with (go_at_fn f;refine HA2.out.mono ?_;rintro r w2 ⟨rfl,hb2⟩)
    have hz2:=hb2.size;have HW2:=ah (own_below HW.out hb2);clear HW HA2;go_wp2_with (at_builtin;refine wpList_append_own _ rfl _ _ 22 rfl w1.heap.size 9 i0 _ 1 16 Tryz.underlying22 hi hz0 hz1' hz2' rfl (by decide) _ zs.length _ rfl (HW2.out.alloc _) ⟨w2.heap.size,0,none⟩ 1 1 [.string ⟨x.toArray⟩] rfl rfl ?q0 ?q00 ?q2 ?q3 ?q4 ?_)
    case q0=>exact World.news_of_block (cs:=#[.string ⟨x.toArray⟩]) (t:=9) (fr:=(0,0)) (heap_alloc_new w2 _)
    case q00=>simp[Value.oneCell']
    case q2=>unfold maxLen;omega
    case q3=>omega
    case q4=>simp;omega
    intro v' w' hown' hgrow hiff;have hb':Below w1.heap.size w1 w':=((hbl.trans (hb2.mono uL)).alloc (by omega) _).grown hgrow (by simp;omega) (fun b q=>(HW2.out.lt b q).1);have Ox:Hid (qI w1.heap.size w' v' (zs++[x])):=ah (qI.app (l:=zs) (a:=[x]) hown');obtain⟨xP,xQ,rfl⟩:=Ox.out.slice;clear hown' hgrow hiff HW2;go_wp2
    go_roundw
    case rel =>
     exact⟨k+1,xP,xQ,by omega,by go_num,by rw[HN.out],by rw[HN.out];exact Ox.out,hb'⟩
    case measure=>simp[intOf];omega
  ·obtain rfl:k=l.length:=by omega
   have oH:decide ((l.length:Int)<(l.length:Int))=false:=decide_eq_false (by omega);rw[List.take_length] at hown ⊢;have HW:=ah hown;have Qb:=(hbl.block _ Sw).trans hR;have hfz:=(aH Qb).2;have hc0:=(aH Qb).1;have hs0:=zC (u:=.slice ak (l.filter p).length ck) Qb;have hbw2:Below w.heap.size w (wr.setCell ⟨w.heap.size+1,0,none⟩ (.slice ak (l.filter p).length ck)):=hbw.setCell (by show w.heap.size≤w.heap.size+1;omega) _
   have Ou:bJ (fun b=>w.heap.size≤b) (wr.setCell ⟨w.heap.size+1,0,none⟩ (.slice ak (l.filter p).length ck)) (.slice ak (l.filter p).length ck) (l.filter p):=((bJ.owns (P:=fun b=>w1.heap.size≤b) hown (fun _ hb=>hb)).frame (aQ.set _ fun k hk=>by show k≠w.heap.size+1;omega)).imp fun k hk _=>by omega
   clear hown hN hR;go_wp2;exact bodyPost_ret (v:=.agg #[.slice ak (l.filter p).length ck]) (by simp[results,Tryz.results230,go_sem,hs0]) rfl ⟨ak,ck,rfl,Ou,hbw2⟩
end Go.Proofs.YtknicmmigbhpcaaGreatDoor
