/- Walks and plain laws, without a condition. -/
import Derived.Lib.OwnBridge
import Derived.Sort.OwnSorted
import Derived.Sort.Walk0
import Derived.Test.YtmhdgeekclhbbaaGreatDoorE15
import Derived.Shelf.Spec.SlicesInsert
import Derived.Lib.AppendZerosOnto
import Derived.Laws.CopyOwn
set_option maxHeartbeats 16000000
set_option maxRecDepth 100000
set_option linter.unusedVariables false
set_option linter.unusedSimpArgs false
namespace Go.Proofs.YtmhdgeekclhbbaaGreatDoor
open Go.RowKit Go Go.Sort
variable{l:List aH}{n B:Nat}{w w':World}{P:Nat->Prop}{v:Value}
def gQ (P:Nat->Prop)(w:World)(v:Value)(l:List aH):Prop:=pO P w v 1 l.length (l.map encStr)/\∀ n c,v=.slice none n c->c=0
theorem gQ.clip {ao:Option Addr}{c:Nat}(h:gQ P w (.slice ao n c) l):n=l.length/\gQ P w (.slice ao l.length l.length) l:=by
 obtain⟨⟨ao',cap,hv,h1,h2,h3⟩,h4⟩:=h;simp only[Value.slice.injEq] at hv;obtain⟨rfl,rfl,rfl⟩:=hv;refine⟨rfl,⟨ao,l.length,rfl,bI _,h2,h3⟩,λn' c' q=>?_⟩;simp only[Value.slice.injEq] at q;obtain⟨q1,-,rfl⟩:=q
 rcases Nat.eq_zero_or_pos l.length with q|q
 ·exact q
 ·obtain⟨b,off,q2,_⟩:=h3 (by simpa using q)
  rw[q1] at q2;cases q2
theorem gQ.slice {P:Nat->Prop}{w:World}{v:Value}{l:List aH}(h:gQ P w v l):∃ ao cap,v=.slice ao l.length cap/\l.length<=cap/\(0<l.length->∃ b off,ao=some ⟨b,off,none⟩/\P b/\b<w.heap.size/\∀ i,(hi:i<l.length)->w.cell? ⟨b,off+i,none⟩=some (.string ⟨l[i].toArray⟩)):=by
 obtain⟨ao,cap,hv,h1,h2,h3⟩:=h.1;refine⟨ao,cap,hv,h1,λh0=>?_⟩;obtain⟨b,off,q1,q2,q3,q4⟩:=h3 (by simpa using h0);refine⟨b,off,q1,q2,q3,λi hi=>?_⟩;have:=q4 i (by simpa using hi);simp only[List.getElem_map] at this;exact this
theorem gQ.frame {P:Nat->Prop}{w w':World}{v:Value}{l:List aH}(h:gQ P w v l)(ha:bA P w w'):gQ P w' v l:=⟨pO.frame h.1 ha,h.2⟩
theorem gQ.imp {P Q:Nat->Prop}{w:World}{v:Value}{l:List aH}(h:gQ P w v l)(hq:∀ b,P b->b<w.heap.size->Q b):gQ Q w v l:=⟨pO.imp h.1 hq,h.2⟩
theorem gQ.below (h:gQ P w v l)(hb:Below w.heap.size w w'):gQ P w' v l:=h.frame (bA.of hb)
theorem gQ.nil (P:Nat->Prop)(w:World):gQ P w (.slice none 0 0) []:=⟨pO.nil P w 1,λn c q=>by injection q with _ _ q;exact q.symm⟩
theorem gQ.owns {e:TypeId}(h:w.ownsRow B e 1 v l.length (l.map encStr))(hP:∀ b,B<=b->P b):gQ P w v l:=by
 refine⟨pO.fZ h hP,λn c q=>?_⟩
 rcases h.2 with ⟨h3,_⟩|⟨g,cap,cur,h3,_⟩
 ·rw[q] at h3;injection h3
 ·rw[q] at h3;injection h3 with h3;cases h3
def Um (l:List aH)(w:World)(e:Ending)(w':World):Prop:=∃ v',e=.returned v'/\w'.ownsRow w.heap.size 9 1 v' l.length (l.map encStr)/\Below w.heap.size w w'
theorem Un (P:Nat->Prop)(v:Value)(l:List aH)(w:World)(h:gQ P w v l)(hl:l.length<=1000000):Calls Tryz.prog 148 #[v] w (Um l w):=by
 obtain⟨ao,cap,rfl,hcap,hc⟩:=h.slice
 rcases Nat.eq_zero_or_pos l.length with h0|h0
 ·obtain rfl:=List.eq_nil_of_length_eq_zero h0
  cases ao with
  | none=>exact(Tryz.slices_Clone_string_nil 0 cap w).mono λe w' q=>⟨_,q.1,World.ownsRow_nil _ _ _ _,by rw[q.2];exact bY _ _⟩
  | some a=>exact(Tryz.slices_Clone_string_zero a cap w).mono λe w' ⟨v',q1,q2,_,q3⟩=>⟨v',q1,q2,q3⟩
 ·obtain⟨b,off,rfl,_,_,hcell⟩:=hc h0
  refine(Tryz.slices_Clone_string b off l.length cap (l.map λs=>⟨s.toArray⟩) w (by simp) (by omega) (λj hj=>?_)).mono λe w' ⟨v',q1,q2,_,q3⟩=>⟨v',q1,?_,q3⟩
  ·have hj':j<l.length:=by simpa using hj
   rw[hcell j hj'];simp[Fb,hj']
  ·rw[DL (by simp),List.map_map] at q2
   exact q2
theorem QG (a:Option Addr)(n c:Nat)(w:World)(h:n<=c)(hc:c<=9223372036854775807)(h0:a=none->n=0):Calls Tryz.prog 150 #[.slice a n c] w λe w'=>e=.returned (.slice a n n)/\w'=w:=by
 have h1:(n:Int)<=(c:Int):=by omega
 have h2:(0:Int)<=(n:Int):=by omega
 cases a with
 | none =>
  obtain rfl:=h0 rfl;clear h0;go_enter Tryz.func150,Tryz.ntmps150;go_wp2;go_ret;exact⟨rfl,rfl⟩
 | some a =>
  clear h0;go_enter Tryz.func150,Tryz.ntmps150;go_wp2;go_ret;exact⟨rfl,rfl⟩
def VH (l:List aH)(w:World)(e:Ending)(w':World):Prop:=∃ ao c,e=.returned (.agg #[.slice ao l.length c])/\gQ (λb=>w.heap.size<=b) w' (.slice ao l.length c) l/\Below w.heap.size w w'
theorem acu {w1:World}{g cap nn q:Nat}{os:Array Obj}{ss:List aH}(hown:w1.ownsRow B 9 1 (.slice (some ⟨g,0,none⟩) n cap) n (ss.map encStr))(hbel:Below B w w1)(hbg:B<=g)(hBw:B<=w.heap.size)(hlen:ss.length=n) :
  (putRow encStr (Sort.ahead (grow (putRow encStr (Sort.ahead w1 nn) g 0 (gU ss).toArray) os) q) g 0 (Lib.compact (gU ss)++List.replicate (n - (Lib.compact (gU ss)).length) []).toArray).ownsRow B 9 1 (.slice (some ⟨g,0,none⟩) (gB ss).length cap) (gB ss).length ((gB ss).map encStr) /\
  Below B w (putRow encStr (Sort.ahead (grow (putRow encStr (Sort.ahead w1 nn) g 0 (gU ss).toArray) os) q) g 0 (Lib.compact (gU ss)++List.replicate (n - (Lib.compact (gU ss)).length) []).toArray):=by
 have hl2:(gU ss).length=ss.length:=rP ss;have hle:=Lib.compact_length_le (gU ss);subst hlen
 rcases hown.2 with ⟨h0,_⟩|⟨g',jc,cur,hv,hbase,hb,h1,h2,h3,h4⟩
 ·cases h0
 cases hv;have hs:=ownsRow_sorted (n:=nn) (os:=os) (ts:=gU ss) hl2 hbase hb h1 h2 h3;have hc:=Lib.ownsRow_putRow (q:=q) (k:=(Lib.compact (gU ss)).length) (ys:=Lib.compact (gU ss)++List.replicate (ss.length - (Lib.compact (gU ss)).length) []) hs (by simp;omega) (by omega);rw[List.take_left] at hc;exact⟨hc,Lib.below_putRow (hbel.grown (grownBy_sorted _) (iY hBw hbel.size) (λj hj=>by cases hj;exact hbase)) hbg⟩
theorem afN (P:Nat->Prop)(v:Value)(l:List aH)(w:World)(h:gQ P w v l)(hl:l.length<=1000000):Calls Tryz.prog 88 #[v] w (VH (gB l) w):=by
 have hal:=aB w (.cells #[.slice none 0 0] 107);have hN:=aZ w (.cells #[.slice none 0 0] 107);have HC:=ay (λW (hW:Below w.heap.size w W)=>Un P v l W (h.below hW) hl);clear h;go_enter Tryz.func88,Tryz.ntmps88
 go_upto_region 1 with fail
 change Code.wp _ _ _ _ (w.alloc (.cells #[.slice none 0 0] 107));generalize w.alloc _=w1 at hal hN |-;have hl1:=(bU hN).1
 go_upto_region 2 with (go_at_call 148;refine(HC.out _ hal).mono ?_;rintro e w2 ⟨v',rfl,hown,hb2⟩)
 have hz1:=hal.size;have hz2:=hb2.size;have QH:=(hb2.block w.heap.size hl1).trans hN
 by_cases hv:v'=.slice none 0 0
 ·subst hv
  have hl0:l=[]:=by
   rcases hown.2 with ⟨_,q⟩|⟨g,cap,cur,hv,_⟩
   ·exact List.eq_nil_of_length_eq_zero q
   ·cases hv
  subst hl0
  have hfz:w2.frozen? ⟨w.heap.size,0,none⟩=false:=by simp[World.frozen?,QH]
  have hc0:w2.cell? ⟨w.heap.size,0,none⟩=some (.slice none 0 0):=by rw[bg QH];rfl
  have hbw:Below w.heap.size w (w2.setCell ⟨w.heap.size,0,none⟩ (.slice none 0 0)):=(hal.trans (hb2.mono hz1)).setCell (bI _) _
  have hs0:(w2.setCell ⟨w.heap.size,0,none⟩ (.slice none 0 0)).cell? ⟨w.heap.size,0,none⟩=some (.slice none 0 0):=by
   have:=kG w2 w.heap.size 0 _ _ (.slice none 0 0) QH;rw[bg this];rfl
  clear hN QH hown HC hal hb2;go_wp2_with (first|(go_at_call 149;refine(Tryz.slices_Sort_string_none none 0 _).mono ?_;rintro e w' ⟨rfl,rfl⟩)|(go_at_call 151;refine(Tryz.slices_Compact_string_empty none 0 _).mono ?_;rintro e w' ⟨rfl,rfl⟩)|(go_at_call 150;refine(QG none 0 0 _ (by omega) (by omega) (λ_=>rfl)).mono ?_;rintro e w' ⟨rfl,rfl⟩));refine o9 (v:=.agg #[.slice none 0 0]) (by simp[results,Tryz.results88,go_sem,hs0]) rfl ⟨none,0,by rw[PI];rfl,by rw[PI];exact gQ.nil _ _,hbw⟩
 ·obtain⟨g,cap,rfl,hbg,hgl,ajE,hcm,hlen,hH⟩:=Lib.holds_of_ownsRow hown hv
  have hlen':l.length=l.length:=rfl;have HS:=ay (Tryz.slices_Sort_string g 0 cap l w2 hH hgl (by omega))
  have HCP:Hid (∀ nn os,Calls Tryz.prog 151 #[.slice (some ⟨g,0,none⟩) l.length cap] (grow (putRow encStr (Sort.ahead w2 nn) g 0 (gU l).toArray) os) λe w'=>e=.returned (.slice (some ⟨g,0,none⟩) (gB l).length cap)/\∃ q,w'=putRow encStr (Sort.ahead (grow (putRow encStr (Sort.ahead w2 nn) g 0 (gU l).toArray) os) q) g 0 (Lib.compact (gU l)++List.replicate (l.length - (Lib.compact (gU l)).length) []).toArray):=ay λnn os=>by
   have hH2:Holds encStr (grow (putRow encStr (Sort.ahead w2 nn) g 0 (gU l).toArray) os) g 0 (gU l).toArray :=
    holds_grow encStr _ os g 0 _ (by simpa [putRow,mapBlock,Sort.ahead] using hgl) (holds_putRow encStr _ g 0 _ _ (holds_ahead encStr w2 nn g 0 _ hH) (by simp[rP]))
   have:=Tryz.slices_Compact_string g 0 cap (gU l) _ hH2 (by rw[rP];omega) (by rw[rP];omega);rw[rP] at this;exact this
  have hsl:=vg l
  have hcp:cap<=9223372036854775807:=by unfold maxLen at hcm;omega
  have HOWN:=ay hown;have hN1:=hN;clear hown hH HC hN QH hv
  go_upto_region 3 with (go_at_call 149;refine HS.out.mono ?_;rintro e w3 ⟨rfl,nn,os,rfl⟩)
  have CJ:=ay (HCP.out nn os)
  have HF:Hid (∀ q,(putRow encStr (Sort.ahead (grow (putRow encStr (Sort.ahead w2 nn) g 0 (gU l).toArray) os) q) g 0 (Lib.compact (gU l)++List.replicate (l.length - (Lib.compact (gU l)).length) []).toArray).ownsRow w1.heap.size 9 1 (.slice (some ⟨g,0,none⟩) (gB l).length cap) (gB l).length ((gB l).map encStr)/\Below w1.heap.size w1 (putRow encStr (Sort.ahead (grow (putRow encStr (Sort.ahead w2 nn) g 0 (gU l).toArray) os) q) g 0 (Lib.compact (gU l)++List.replicate (l.length - (Lib.compact (gU l)).length) []).toArray)):=ay λq=>acu (nn:=nn) (q:=q) (os:=os) HOWN.out hb2 hbg (bI _) rfl
  clear HCP HS;change Code.wp _ _ _ _ (grow (putRow encStr (Sort.ahead w2 nn) g 0 (gU l).toArray) os);generalize grow (putRow encStr (Sort.ahead w2 nn) g 0 (gU l).toArray) os=w3 at CJ HF |-;have KY:=ay (λW=>QG (some ⟨g,0,none⟩) (gB l).length cap W (by omega) hcp (λq=>by cases q));go_wp2_with (first|(go_at_call 151;refine CJ.out.mono ?_;rintro e w4 ⟨rfl,q,rfl⟩;have hF:=HF.out q;clear CJ HF;generalize putRow encStr _ _ _ _=w4 at hF |-;have hN4:=(hF.2.block w.heap.size hl1).trans hN1;have hfz:w4.frozen? ⟨w.heap.size,0,none⟩=false:=(by simp[World.frozen?,hN4]);have hc0:w4.cell? ⟨w.heap.size,0,none⟩=some (.slice none 0 0):=(by rw[bg hN4];rfl))|(go_at_call 150;refine(KY.out _).mono ?_;rintro e w' ⟨rfl,rfl⟩))
  have hs0:(w'.setCell ⟨w.heap.size,0,none⟩ (.slice (some ⟨g,0,none⟩) (gB l).length (gB l).length)).cell? ⟨w.heap.size,0,none⟩=some (.slice (some ⟨g,0,none⟩) (gB l).length (gB l).length):=by
   have:=kG w' w.heap.size 0 _ _ (.slice (some ⟨g,0,none⟩) (gB l).length (gB l).length) hN4;rw[bg this];rfl
  have hbw:Below w.heap.size w (w'.setCell ⟨w.heap.size,0,none⟩ (.slice (some ⟨g,0,none⟩) (gB l).length (gB l).length)):=(hal.trans (hF.2.mono hz1)).setCell (bI _) _;have htx:gQ (λb=>w1.heap.size<=b) w' (.slice (some ⟨g,0,none⟩) (gB l).length cap) (gB l):=gQ.owns hF.1 (λ_ hb=>hb)
  have afO:gQ (λb=>w.heap.size<=b) (w'.setCell ⟨w.heap.size,0,none⟩ (.slice (some ⟨g,0,none⟩) (gB l).length (gB l).length)) (.slice (some ⟨g,0,none⟩) (gB l).length (gB l).length) (gB l):=(htx.clip.2.frame (bA.set _ λb hb=>by show b≠w.heap.size;omega)).imp λb hb _=>by omega
  exact o9 (v:=.agg #[.slice (some ⟨g,0,none⟩) (gB l).length (gB l).length]) (by simp[results,Tryz.results88,go_sem,hs0]) rfl ⟨_,_,rfl,afO,hbw⟩
def Ew (l:List aH)(x:ByteArray)(j:Nat):ByteArray:=if h:j<l.length then ⟨l[j].toArray⟩ else x
theorem Ao (l:List aH)(x:ByteArray)(j:Nat):(Ew l x j).data.toList=if h:j<l.length then l[j] else x.data.toList:=by
 unfold Ew
 split<;>rfl
theorem ad9 (l:List aH)(x:aH):∀ t,t<(l.takeWhile λy=>decide (y<x)).length->∀ (h:t<l.length),l[t]<x:=λt ht h2=>by
 have h1:(l.takeWhile λy=>decide (y<x))[t]=l[t]:=List.IsPrefix.getElem (List.takeWhile_prefix _) ht;have h3:=List.all_takeWhile (l:=l) (p:=λy=>decide (y<x));have h4:=List.all_eq_true.1 h3 _ (oQ ht);rw[h1] at h4
 simpa using h4
theorem LB (x:aH):∀ (l:List aH) (h:(l.takeWhile λy=>decide (y<x)).length<l.length),¬ l[(l.takeWhile λy=>decide (y<x)).length]<x
 | [],h=>absurd h (by simp)
 | y :: l,h=>by
  by_cases q:y<x
  ·have e:((y :: l).takeWhile λy=>decide (y<x))=y :: (l.takeWhile λy=>decide (y<x)):=List.takeWhile_cons_of_pos (by simpa using q)
   have h2:(l.takeWhile λy=>decide (y<x)).length<l.length:=by
    rw[e] at h
    simpa using h
   have ih:=LB x l h2
   have:∀ n,(hn:n<(y :: l).length)->n=(l.takeWhile λy=>decide (y<x)).length+1->¬ (y :: l)[n]<x:=by
    rintro n hn rfl;exact ih
   exact this _ h (by rw[e];rfl)
  ·have e:((y :: l).takeWhile λy=>decide (y<x))=[]:=List.takeWhile_cons_of_neg (by simpa using q)
   have:∀ n,(hn:n<(y :: l).length)->n=0->¬ (y :: l)[n]<x:=by
    rintro n hn rfl;exact q
   exact this _ h (by rw[e];rfl)
theorem Uo (l:List aH)(x:ByteArray)(hl:l.Pairwise (· < ·)):decide (Lib.bsGo (λt=>Op.bytesLess (Ew l x t).toList x.toList) l.length 0 l.length<l.length/\Ew l x (Lib.bsGo (λt=>Op.bytesLess (Ew l x t).toList x.toList) l.length 0 l.length)=x)=decide (x.data.toList∈l):=by
 simp only[Lib.toList_data,Go.Proofs.bytesLess_eq,Ao];have hA:=ad9 l x.data.toList;have hB:=LB x.data.toList l;have hC:=(List.takeWhile_prefix (l:=l) (λy=>decide (y<x.data.toList))).length_le;generalize (l.takeWhile λy=>decide (y<x.data.toList)).length=k at hA hB hC
 have hk:=Lib.bsGo_spec (λt=>decide ((if h:t<l.length then l[t] else x.data.toList)<x.data.toList)) k (λt ht=>by
   have htl:t<l.length:=by omega
   rw[dif_pos htl]
   exact kS (hA t ht htl)) (λt ht=>by
   by_cases htl:t<l.length
   ·rw[dif_pos htl]
    refine fu λq=>?_
    by_cases e:t=k
    ·subst e;exact hB htl q
    ·exact hB (by omega) (List.lt_trans (List.pairwise_iff_getElem.1 hl k t (by omega) htl (by omega)) q)
   ·rw[dif_neg htl]
    exact fu (List.lt_irrefl _)) l.length 0 l.length (by omega) (by omega) hC
 rw[hk]
 congr 1
 apply propext
 constructor
 ·rintro⟨h1,h2⟩
  have h3:=congrArg (λb:ByteArray=>b.data.toList) h2;simp only[Ao] at h3;rw[dif_pos h1] at h3;rw[<- h3];exact oQ h1
 ·intro h
  obtain⟨j,hj,e⟩:=List.getElem_of_mem h
  have hjk:k<=j:=by
   apply LY
   intro q;have:=hA j (by omega) hj;rw[e] at this;exact List.lt_irrefl _ this
  have hkj:k=j:=by
   apply LY
   intro q;refine hB (by omega) ?_;rw[<- e];exact List.pairwise_iff_getElem.1 hl k j (by omega) hj (by omega)
  subst hkj;refine⟨hj,uM ?_⟩;rw[Ao,dif_pos hj,e]
def acv (l:List aH)(x:ByteArray)(w:World)(e:Ending)(w':World):Prop:=(∃ i:Int,e=.returned (.tuple #[.int .i64 i,.bool (decide (x.data.toList∈l))]))/\Below w.heap.size w w'
theorem acw (P:Nat->Prop)(ao:Option Addr)(c:Nat)(l:List aH)(x:ByteArray)(w:World)(h:gQ P w (.slice ao l.length c) l)(hr:l.Pairwise (· < ·))(hn:l.length<=1000000):Calls Tryz.prog 87 #[.slice ao l.length c,.string x] w (acv l x w):=by
 obtain⟨ao',cap,hv,hcap,hc⟩:=h.slice;simp only[Value.slice.injEq] at hv;obtain⟨rfl,-,rfl⟩:=hv
 rcases Nat.eq_zero_or_pos l.length with h0|h0
 ·obtain rfl:=List.eq_nil_of_length_eq_zero h0
  refine(Any2.slices_BinarySearch_string_empty Tryz.FZ ao c x w).mono λe w' q=>⟨⟨0,by rw[q.1];simp⟩,by rw[q.2];exact bY _ _⟩
 ·obtain⟨b,off,rfl,_,_,hcell⟩:=hc h0
  refine(Any2.slices_BinarySearch_string Tryz.FZ b off l.length c (Ew l x) x w (by omega) (λj hj=>by rw[hcell j hj,Ew,dif_pos hj])).mono λe w' ⟨q1,n,q2⟩=>⟨⟨(Lib.bsGo (λt=>Op.bytesLess (Ew l x t).toList x.toList) l.length 0 l.length:Nat),by rw[q1,Uo l x hr]⟩,by rw[q2];exact⟨rfl,rfl,rfl,bI _,λ_ _=>rfl⟩⟩
theorem bP {b:Nat}(h:w.heap[b]?=some (.cells #[v] 107 (0,0))):w.cell? ⟨b,0,none⟩=some v/\w.frozen? ⟨b,0,none⟩=false:=⟨by rw[bg h];rfl,by simp[World.frozen?,h]⟩
def afP (l:List aH)(w:World)(e:Ending)(w':World):Prop:=∃ ao c,e=.returned (.slice ao l.length c)/\gQ (λb=>w.heap.size<=b) w' (.slice ao l.length c) l/\Below w.heap.size w w'
theorem Um.tx {e:Ending}(h:Um l w e w'):afP l w e w':=by
 obtain⟨v',h1,h2,h3⟩:=h;have h4:gQ (λb=>w.heap.size<=b) w' v' l:=gQ.owns h2 (λ_ hb=>hb);obtain⟨ao,cap,rfl,_,_⟩:=h4.slice;exact⟨ao,cap,h1,h4,h3⟩
theorem Fw (P:Nat->Prop)(ao:Option Addr)(c:Nat)(l:List aH)(x:ByteArray)(w:World)(h:gQ P w (.slice ao l.length c) l)(hr:l.Pairwise (· < ·))(hl:l.length<=1000000):Calls Tryz.prog 54 #[.agg #[.slice ao l.length c],.string x] w λe w'=>e=.returned (.bool (decide (x.data.toList∈l)))/\Below w.heap.size w w':=by
 have hal:=aB w (.cells #[.slice ao l.length c] 107);have hN:=aZ w (.cells #[.slice ao l.length c] 107);have HC:=ay (λW (hW:Below w.heap.size w W)=>acw P ao c l x W (h.below hW) hr hl);clear h hr;unfold acv at HC;generalize decide (x.data.toList∈l)=r at *;go_enter Tryz.func54,Tryz.ntmps54
 go_upto_region 1 with fail
 change Code.wp _ _ _ _ (w.alloc (.cells #[.slice ao l.length c] 107));generalize w.alloc _=w1 at hal hN |-;have c0:=(bP hN).1;go_wp2_with (go_at_call 87;refine(HC.out _ hal).mono ?_;rintro e w2 ⟨⟨i,rfl⟩,hb2⟩);go_ret;exact⟨rfl,hal.trans (hb2.mono hal.size)⟩
variable{a x:aH}{b g:Nat}{l:ML}{c0 c1 c2 c3:Value}{e:Ending}{cur:Array Value}
def wZ (a b:aH):Int:=if a<b then -1 else if b<a then 1 else 0
theorem VI {b:aH}(h:a<b):wZ a b=-1:=by unfold wZ;rw[bq h]
theorem VJ {b:aH}(h:¬ a<b):0<=wZ a b:=by
 unfold wZ;rw[aP h]
 split<;>omega
theorem VK {b:aH}(h:¬ a<b):decide (wZ a b=0)=decide (a=b):=by
 unfold wZ;rw[aP h]
 split
 ·rename_i h2
  rw[fu (by omega),fu (λq=>by subst q;exact List.lt_irrefl _ h2)]
 ·rename_i h2
  rw[kS rfl,kS (qZ (List.not_lt.1 h2) (List.not_lt.1 h))]
theorem Nv (x:ByteArray)(w:World):Calls Tryz.prog 212 #[.string x] w λe w'=>e=.returned (.bool false)/\w'=w:=by
 go_enter Tryz.func212,Tryz.ntmps212;go_wp2;go_ret;exact⟨by simp,rfl⟩
theorem Ey (x y:ByteArray)(w:World):Calls Tryz.prog 134 #[.string x,.string y] w λe w'=>e=.returned (.int .i64 (wZ x.data.toList y.data.toList))/\w'=w:=by
 have h1:Op.bytesLess x.toList y.toList=decide (x.data.toList<y.data.toList):=by simp only[Lib.toList_data,Go.Proofs.bytesLess_eq]
 have h2:Op.bytesLess y.toList x.toList=decide (y.data.toList<x.data.toList):=by simp only[Lib.toList_data,Go.Proofs.bytesLess_eq]
 unfold wZ
 by_cases a:x.data.toList<y.data.toList
 ·rw[bq a]
  rw[kS a] at h1;clear h2 a;go_enter Tryz.func134,Tryz.ntmps134;go_wp2_with (go_at_call 212;refine(Nv _ _).mono ?_;rintro e w' ⟨rfl,rfl⟩);go_ret;exact⟨rfl,rfl⟩
 ·rw[aP a]
  rw[fu a] at h1
  have h3:(x.toList == y.toList)=decide (x.data.toList=y.data.toList):=by rw[Bool.eq_iff_iff];simp only[Lib.toList_data,beq_iff_eq,uK]
  by_cases b:y.data.toList<x.data.toList
  ·rw[bq b]
   rw[fu (λq=>by rw[q] at b;exact List.lt_irrefl _ b)] at h3;clear a b h2;go_enter Tryz.func134,Tryz.ntmps134;go_wp2_with (go_at_call 212;refine(Nv _ _).mono ?_;rintro e w' ⟨rfl,rfl⟩);go_ret;exact⟨rfl,rfl⟩
  ·rw[aP b]
   rw[kS (qZ (List.not_lt.1 b) (List.not_lt.1 a))] at h3;clear a b h2;go_enter Tryz.func134,Tryz.ntmps134;go_wp2_with (go_at_call 212;refine(Nv _ _).mono ?_;rintro e w' ⟨rfl,rfl⟩);go_ret;exact⟨rfl,rfl⟩
theorem aea {l:List Value}(h:l.length=4):∃ a b c d,l=[a,b,c,d]:=by
 match l,h with
 | [a,b,c,d],_=>exact⟨a,b,c,d,rfl⟩
theorem QI {v0 v1 v2 v3 v4:Value}(h:w.heap[b]?=some (.cells #[v0,v1,v2,v3,v4] 166 (0,0))):w.cell? ⟨b,0,none⟩=some v0:=by rw[bg h];rfl
theorem Tryz.Uq:∀ args w,(callFunc 133 args).run Tryz.prog w=.ok (.enter 133 args) w:=Go.Proofs.enters_of Tryz.func133 (by kernel_rfl) rfl
theorem QJ (k x:aH)(v1 v2 v3 v4:Value)(w:World) :
  Calls Tryz.prog 133 (#[.agg #[.string ⟨k.toArray⟩,v1,v2,v3,v4],.string ⟨x.toArray⟩]++#[]) w λe w'=>e=.returned (.int .i64 (wZ k x))/\Below w.heap.size w w':=by
 have hal:=aB w (.cells #[.string ⟨k.toArray⟩,v1,v2,v3,v4] 166);have hN:=aZ w (.cells #[.string ⟨k.toArray⟩,v1,v2,v3,v4] 166);have HC:=ay (λW=>Ey ⟨k.toArray⟩ ⟨x.toArray⟩ W);simp only at HC;show Calls Tryz.prog 133 #[.agg #[.string ⟨k.toArray⟩,v1,v2,v3,v4],.string ⟨x.toArray⟩] w _;generalize wZ k x=c at *;go_enter Tryz.func133,Tryz.ntmps133
 go_upto_region 1 with fail
 change Code.wp _ _ _ _ (w.alloc (.cells #[.string ⟨k.toArray⟩,v1,v2,v3,v4] 166));generalize w.alloc _=w1 at hal hN |-;have c0:=QI hN;go_wp2_with (go_at_call 134;refine(HC.out _).mono ?_;rintro e w2 ⟨rfl,rfl⟩);go_ret;exact⟨rfl,hal⟩
def acy (w:World)(b off:Nat)(l:ML):Prop:=∀ i,(hi:i<l.length)->∀ j u,(bB l[i])[j]?=some u->w.cell? ⟨b,off+i * 5+j,none⟩=some u
theorem acy.below {off:Nat}(h:acy w b off l)(hb:Below w.heap.size w w'):acy w' b off l:=λi hi j u hu=>jy hb (h i hi j u hu)
theorem QK (ao:Option Addr)(cap:Nat)(l:ML)(x:aH)(w:World)(hw:yV 4 l)(h:0<l.length->∃ b off,ao=some ⟨b,off,none⟩/\acy w b off l)(hn:l.length<=1000000) :
  Calls Tryz.prog 132 #[.slice ao l.length cap,.string ⟨x.toArray⟩,.func (.func 133) #[] #[]] w
   λe w'=>e=.returned (.tuple #[.int .i64 (aU l x:Nat),.bool (l8 l x)])/\Below w.heap.size w w':=by
 have HW:=ay hw;have HR:=ay h;have hpl:=mh l x;have HH:=ay (sQ hw x);have HI:=ay (λt (ht:t<l.length)=>wD hw (x:=x) ht);generalize hp:aU l x=p at *;have HP:=ay hp;generalize l8 l x=hs at *;have eg:=Tryz.Uq;clear hw h hp;go_enter Tryz.func132,Tryz.ntmps132;go_wp2
 go_loopw [9,10] (λs9 s10 wr=>∃ lo hi:Nat,s9=.int .i64 lo/\s10=.int .i64 hi/\lo<=p/\p<=hi/\hi<=l.length/\Below w.heap.size w wr) (λs9 s10 _=>(intOf s10).toNat - (intOf s9).toNat)
 case atStart=>exact⟨0,l.length,rfl,rfl,mD _,hpl,bI _,bY _ _⟩
 case round =>
  obtain⟨lo,hi,rfl,rfl,h1,h2,h3,hb⟩:=hrel;have hz:=hb.size
  by_cases hlt:lo<hi
  ·have hmid:(lo+hi) / 2<l.length:=by omega
   obtain⟨b,off,rfl,hrw⟩:=HR.out (by omega);have hc:=(hrw.below hb) ((lo+hi) / 2) hmid;obtain⟨v1,v2,v3,v4,hv⟩:=aea (HW.out.wid _ (oQ hmid));rw[bB,hv] at hc;have x0:=hc 0 _ rfl;have x1:=hc 1 _ rfl;have x2:=hc 2 _ rfl;have x3:=hc 3 _ rfl;have x4:=hc 4 _ rfl;rw[qp] at x0;have hiff:=HI.out _ hmid;generalize l[(lo+hi) / 2].1=k at x0 hiff;have HC:=ay (λW=>QJ k x v1 v2 v3 v4 W);clear hc hv hrw
   by_cases hm:(lo+hi) / 2<p
   ·have hcv:=VI (hiff.2 hm)
    rw[hcv] at HC;clear hcv hiff;go_wp2_with (go_at_fn 133;refine(HC.out _).mono ?_;rintro e w2 ⟨rfl,hb2⟩)
    go_roundw
    case rel=>exact⟨(lo+hi) / 2+1,hi,by rw[show ((lo:Int)+(hi:Int)) / 2+1=(((lo+hi) / 2+1:Nat):Int) by omega],rfl,by omega,h2,h3,hb.trans (hb2.mono hz)⟩
    case measure=>simp[intOf];omega
   ·have hcv:=VJ (λq=>hm (hiff.1 q))
    generalize wZ k x=c at HC hcv
    have hcI:¬ (c<0):=by omega
    clear hiff hcv;go_wp2_with (go_at_fn 133;refine(HC.out _).mono ?_;rintro e w2 ⟨rfl,hb2⟩)
    go_roundw
    case rel=>exact⟨lo,(lo+hi) / 2,rfl,by rw[show ((lo:Int)+(hi:Int)) / 2=(((lo+hi) / 2:Nat):Int) by omega],h1,by omega,by omega,hb.trans (hb2.mono hz)⟩
    case measure=>simp[intOf];omega
  ·obtain rfl:lo=hi:=by omega
   obtain rfl:lo=p:=by omega
   by_cases hn2:lo<l.length
   ·obtain⟨b,off,rfl,hrw⟩:=HR.out (by omega)
    have hc:=(hrw.below hb) lo hn2;obtain⟨v1,v2,v3,v4,hv⟩:=aea (HW.out.wid _ (oQ hn2));rw[bB,hv] at hc;have x0:=hc 0 _ rfl;have x1:=hc 1 _ rfl;have x2:=hc 2 _ rfl;have x3:=hc 3 _ rfl;have x4:=hc 4 _ rfl;rw[qp] at x0;have hiff:=HI.out _ hn2
    have hhs:hs=decide (l[lo].1=x):=by
     rw[HH.out]
     apply decide_eq_decide.2
     exact⟨λ⟨_,q⟩=>q,λq=>⟨hn2,q⟩⟩
    generalize l[lo].1=k at x0 hiff hhs;have hce:=VK (λq:k<x=>Nat.lt_irrefl _ (hiff.1 q));rw[<- hhs] at hce;have HC:=ay (λW=>QJ k x v1 v2 v3 v4 W);have HE:Hid (∀ c,wZ k x=c->decide (c=0)=hs):=ay (λc q=>by rw[<- q];exact hce);generalize hcc:wZ k x=c at HC;have hc0:=HE.out c hcc;clear hc hv hrw hiff hhs hce hcc HE
    have YN:(lo:Int)<(l.length:Int):=by omega
    go_wp2_with (go_at_fn 133;refine(HC.out _).mono ?_;rintro e w2 ⟨rfl,hb2⟩);go_ret2;exact⟨by rw[<- hc0];rfl,hb.trans (hb2.mono hz)⟩
   ·have hhs:hs=false:=by
     rw[HH.out];exact fu (λ⟨q,_⟩=>hn2 q)
    subst hhs
    have YN:¬ (lo:Int)<(l.length:Int):=by omega
    go_wp2;go_ret2;exact⟨by simp,hb⟩
structure Ap (B mb:Nat) (v:Value) (l:ML) (w:World):Prop where
 wf:yV 4 l
 box:w.heap[mb]?=some (.cells #[v] 161 (0,0))
 own:w.ownsRow B 166 5 v l.length (eF l)
theorem Ap.below {mb:Nat}(h:Ap B mb v l w)(hb:Below w.heap.size w w'):Ap B mb v l w' :=
 ⟨h.wf,(hb.block mb (bU h.box).1).trans h.box,own_below h.own hb⟩
theorem Ap.slice {B mb:Nat}{v:Value}{l:ML}{w:World}(h:Ap B mb v l w):∃ ao cap,v=.slice ao l.length cap/\(0<l.length->∃ b off,ao=some ⟨b,off,none⟩/\acy w b off l):=by
 obtain⟨ao,cap,hv,hn,hl,hc⟩:=Sl.fZ h.own;refine⟨ao,cap,hv,λh0=>?_⟩;obtain⟨b,off,e,hlt,hcell⟩:=hc h0;refine⟨b,off,e,λi hi j u hu=>?_⟩
 have hj:j<5:=by
  rcases Nat.lt_or_ge j 5 with q|q
  ·exact q
  ·rw[List.getElem?_eq_none (by rw[bB,dN,h.wf.wid _ (oQ hi)];exact q)] at hu;cases hu
 obtain⟨h',e'⟩:=qm ((Nu h.wf.wid i j hi hj).trans hu);have:=hcell (i * 5+j) h';rw[wU,this,e']
theorem uj (h:w.heap[b]?=some (.cells #[v] 161 (0,0))):w.cell? ⟨b,0,none⟩=some v/\w.frozen? ⟨b,0,none⟩=false:=⟨by rw[bg h];rfl,by simp[World.frozen?,h]⟩
theorem LC (B mb:Nat)(v:Value)(l:ML)(x:aH)(w:World)(h:Ap B mb v l w)(hn:l.length<=1000000) :
  Calls Tryz.prog 78 #[.pointer (some ⟨mb,0,none⟩),.string ⟨x.toArray⟩] w
   λe w'=>e=.returned (.tuple #[.int .i64 (aU l x:Nat),.bool (l8 l x)])/\Below w.heap.size w w':=by
 obtain⟨ao,cap,rfl,hr⟩:=h.slice;have c0:=(uj h.box).1;have HS:=ay (QK ao cap l x w h.wf hr hn);generalize aU l x=p at *;generalize l8 l x=q at *;clear h hr;go_enter Tryz.func78,Tryz.ntmps78;go_wp2_with (go_at_call 132;refine HS.out.mono ?_;rintro e w2 ⟨rfl,hb2⟩);go_ret2;exact⟨rfl,hb2⟩
def xg (w:World)(b:Nat)(v0 v1 v2 v3:Value):World:=(((w.setCell ⟨b,0,none⟩ v0).setCell ⟨b,1,none⟩ v1).setCell ⟨b,2,none⟩ v2).setCell ⟨b,3,none⟩ v3
theorem kD {w0:World}(h:Below B w0 w)(hb:B<=b)(v0 v1 v2 v3:Value):Below B w0 (xg w b v0 v1 v2 v3) :=
 (((h.setCell hb _).setCell hb _).setCell hb _).setCell hb _
theorem nK {T:TypeId}(h:w.heap[b]?=some (.cells #[c0,c1,c2,c3] T (0,0)))(v0 v1 v2 v3:Value) :
  (xg w b v0 v1 v2 v3).heap[b]?=some (.cells #[v0,v1,v2,v3] T (0,0)) :=
 kG _ b 3 _ _ v3 (kG _ b 2 _ _ v2 (kG _ b 1 _ _ v1 (kG w b 0 _ _ v0 h)))
theorem sS {T:TypeId}(h:w.heap[b]?=some (.cells #[c0,c1,c2,c3] T (0,0))):(w.cell? ⟨b,0,none⟩=some c0/\w.cell? ⟨b,1,none⟩=some c1/\w.cell? ⟨b,2,none⟩=some c2/\w.cell? ⟨b,3,none⟩=some c3)/\(w.frozen? ⟨b,0,none⟩=false/\w.frozen? ⟨b,1,none⟩=false/\w.frozen? ⟨b,2,none⟩=false/\w.frozen? ⟨b,3,none⟩=false):=by
 refine⟨⟨?_,?_,?_,?_⟩,?_,?_,?_,?_⟩
 ·rw[bg h];rfl
 ·rw[bg h];rfl
 ·rw[bg h];rfl
 ·rw[bg h];rfl
 ·simp[World.frozen?,h]
 ·simp[World.frozen?,h]
 ·simp[World.frozen?,h]
 ·simp[World.frozen?,h]
def Dt (l:ML)(x:aH)(w:World)(e:Ending)(w':World):Prop :=
 (match oW l x with|none=>e=.returned (.tuple #[.agg #[.string ⟨#[]⟩,.slice none 0 0,.int .i64 0,.slice none 0 0],.bool false])|some v=>e=.returned (.tuple #[.agg v.toArray,.bool true]))/\Below w.heap.size w w'
theorem Dt.no (h:oW l x=none)(he:e=.returned (.tuple #[.agg #[.string ⟨#[]⟩,.slice none 0 0,.int .i64 0,.slice none 0 0],.bool false]))(hb:Below w.heap.size w w'):Dt l x w e w':=⟨by rw[h];exact he,hb⟩
theorem Dt.yes {v:List Value}(h:oW l x=some v)(he:e=.returned (.tuple #[.agg v.toArray,.bool true]))(hb:Below w.heap.size w w'):Dt l x w e w':=⟨by rw[h];exact he,hb⟩
theorem QL (B mb:Nat)(v:Value)(l:ML)(x:aH)(w:World)(h:Ap B mb v l w)(hn:l.length<=1000000) :
  Calls Tryz.prog 49 #[.pointer (some ⟨mb,0,none⟩),.string ⟨x.toArray⟩] w (Dt l x w):=by
 have hal:=aB w (.cells #[.string ⟨#[]⟩,.slice none 0 0,.int .i64 0,.slice none 0 0] 53);have hR:=aZ w (.cells #[.string ⟨#[]⟩,.slice none 0 0,.int .i64 0,.slice none 0 0] 53);have h1:=h.below hal;have HM:=ay h1;have HF:=ay (LC B mb v l x (w.alloc (.cells #[.string ⟨#[]⟩,.slice none 0 0,.int .i64 0,.slice none 0 0] 53)) h1 hn);have hmb:=(bU h.box).1;have hpl:=mh l x;have HH:=ay (sQ h.wf x);have HN:=ay (λ(q:l8 l x=false)=>Ya q);have HG:=ay (λi (hi:i<l.length) e=>VG h.wf (x:=x) (i:=i) hi e);clear h h1;generalize hp:aU l x=p at *;generalize l8 l x=q at *;clear hp;go_enter Tryz.func49,Tryz.ntmps49
 go_upto_region 1 with fail
 change Code.wp _ _ _ _ (w.alloc (.cells #[.string ⟨#[]⟩,.slice none 0 0,.int .i64 0,.slice none 0 0] 53))
 have hz:w.heap.size<(w.alloc (.cells #[.string ⟨#[]⟩,.slice none 0 0,.int .i64 0,.slice none 0 0] 53)).heap.size:=by simp
 generalize w.alloc _=w1 at *
 go_upto_region 2 with (go_at_call 78;refine HF.out.mono ?_;rintro e w2 ⟨rfl,hb2⟩)
 have hR2:=(hb2.block _ hz).trans hR;have hM2:=HM.out.below hb2;have hbw:=hal.trans (hb2.mono hal.size);have hz2:=hb2.size;clear HF HM hR hal
 cases q with
 | false =>
  have hnone:=ay (HN.out rfl);clear HN HG HH;have fV:=aB w2 (.cells #[.string ⟨#[]⟩,.slice none 0 0,.int .i64 0,.slice none 0 0] 53);have hN3:=aZ w2 (.cells #[.string ⟨#[]⟩,.slice none 0 0,.int .i64 0,.slice none 0 0] 53);have hR3:=(fV.block w.heap.size (by omega)).trans hR2
  go_upto_region 4 with fail
  change Code.wp _ _ _ _ (w2.alloc (.cells #[.string ⟨#[]⟩,.slice none 0 0,.int .i64 0,.slice none 0 0] 53));have rA:=hbw.trans (fV.mono hbw.size);generalize w2.alloc _=w3 at *;obtain⟨⟨a0,a1,a2,a3⟩,-⟩:=sS hN3;obtain⟨⟨c0,c1,c2,c3⟩,f0,f1,f2,f3⟩:=sS hR3;go_wp2;change bodyPost _ _ _ _ _ (xg w3 w.heap.size (.string ⟨#[]⟩) (.slice none 0 0) (.int .i64 0) (.slice none 0 0));have hP:=nK hR3 (.string ⟨#[]⟩) (.slice none 0 0) (.int .i64 0) (.slice none 0 0);have Rz:=kD rA (bI _) (.string ⟨#[]⟩) (.slice none 0 0) (.int .i64 0) (.slice none 0 0);generalize xg w3 _ _ _ _ _=w4 at *;obtain⟨⟨d0,d1,d2,d3⟩,-⟩:=sS hP;exact o9 (v:=.tuple #[.agg #[.string ⟨#[]⟩,.slice none 0 0,.int .i64 0,.slice none 0 0],.bool false]) (by simp[results,Tryz.results49,go_sem,d0,d1,d2,d3]) rfl (Dt.no hnone.out rfl Rz)
 | true =>
  have hq:=HH.out;obtain⟨hpn,hpx⟩:=V7 hq.symm;have hg:=HG.out p hpn hpx;obtain⟨ao,cap,rfl,hr⟩:=hM2.slice;obtain⟨b,off,rfl,hrw⟩:=hr (by omega);have hc:=hrw p hpn;obtain⟨v1,v2,v3,v4,hv⟩:=aea (hM2.wf.wid _ (oQ hpn));rw[hv] at hg;rw[bB,hv] at hc;have x1:=hc 1 _ rfl;have x2:=hc 2 _ rfl;have x3:=hc 3 _ rfl;have x4:=hc 4 _ rfl;have m0:=(uj hM2.box).1;have hG:=ay hg;have ho:=hM2.wf.one _ (oQ hpn);rw[hv] at ho
  have s1:=λa m W=>run_store Tryz.prog W a v1 m (ho v1 (by simp))
  have s2:=λa m W=>run_store Tryz.prog W a v2 m (ho v2 (by simp))
  have s3:=λa m W=>run_store Tryz.prog W a v3 m (ho v3 (by simp))
  have s4:=λa m W=>run_store Tryz.prog W a v4 m (ho v4 (by simp))
  clear ho;obtain⟨⟨c0,c1,c2,c3⟩,f0,f1,f2,f3⟩:=sS hR2;clear hc hv hg hq HH HG HN hpx hrw hr hM2;go_wp2;change bodyPost _ _ _ _ _ (xg w2 w.heap.size v1 v2 v3 v4);have hP:=nK hR2 v1 v2 v3 v4;have Rz:=kD hbw (bI _) v1 v2 v3 v4;generalize xg w2 _ _ _ _ _=w4 at *;obtain⟨⟨d0,d1,d2,d3⟩,-⟩:=sS hP;exact o9 (v:=.tuple #[.agg #[v1,v2,v3,v4],.bool true]) (by simp[results,Tryz.results49,go_sem,d0,d1,d2,d3]) rfl (Dt.yes hG.out rfl Rz)
theorem iE {P:Program}(w:World)(dT sT ty elem:TypeId)(k g o dLen dCap:Nat)(a:Addr)(sLen sCap:Nat)(cur:Array Value)(t:TypeId)(cs:List Value)
  (hu:P.underlying dT=some (.slice elem)) (hs:(P.info? elem).map (·.size)=some k) (hg:w.heap[g]?=some (.cells cur t (0,0))) (hn:cs.length=Nat.min sLen dLen * k)
  (hsrc:∀ j v,cs[j]?=some v->w.cell? (a.add j)=some v) (hfit:o+cs.length<=cur.size) (h1:∀ v∈cs,v.oneCell'=true) :
  (Builtin.copy_ #[dT,sT] ty #[.slice (some ⟨g,o,none⟩) dLen dCap,.slice (some a) sLen sCap]).run P w =
   .ok (goInt (Nat.min sLen dLen)) (w.setRow g (cur.toList.take o++cs++cur.toList.drop (o+cs.length)).toArray):=by
 have hf:=run_firstCells_some (P:=P) w k (Nat.min sLen dLen) a sLen sCap cs hn hsrc;have hst:=run_storeCells_at P g o t cs 0 cur w hg (by simpa using hfit) h1
 cases hq:P.info? elem with
 | none=>simp[hq] at hs
 | some i =>
  have hi:i.size=k:=by simpa [hq] using hs
  simp[Builtin.copy_,run_underlying hu,Builtin.lenOf,sizeOf,typeInfo,hq,hi,hf,hst]
theorem Ce {n:Nat}{t:TypeId}{fr:Nat × Nat}(h:w.heap[g]?=some (.cells cur t fr))(hn:cur.size=n):w.shape? g=some (t,n):=by
 subst hn;simp only[World.shape?,h]
theorem setRow_size (w:World)(g:Nat)(A:Array Value):(w.setRow g A).heap.size=w.heap.size:=by simp[World.setRow]
theorem rG {t:TypeId}(hg:w.heap[g]?=some (.cells cur t (0,0))){j:Nat}(h:cur.toList[j]?=some v):w.cell? ⟨g,j,none⟩=some v:=by
 simp only[World.cell?,hg];rw[Array.getElem?_toList] at h
 simpa using h
theorem I8 (cur:List Value)(n i k:Nat)(hi:i<=n)(hc:(n+1) * k<=cur.length)(nw row:List Value)(hr:cur.take (n * k)=row)(hw:nw.length=k) :
  let c1:=cur.take ((i+1) * k)++row.drop (i * k)++cur.drop ((i+1) * k+(row.drop (i * k)).length)
  let c2:=c1.take (i * k)++nw++c1.drop (i * k+nw.length)
  c1.length=cur.length/\c2.length=cur.length/\c2.take ((n+1) * k)=row.take (i * k)++(nw++row.drop (i * k)):=by
 have e1:(n+1) * k=n * k+k:=Nat.succ_mul n k;have e2:(i+1) * k=i * k+k:=Nat.succ_mul i k;have e3:i * k<=n * k:=Nat.mul_le_mul_right k hi;rw[e1] at hc
 have hrl:row.length=n * k:=by rw[<- hr,qX];omega
 have hd:(row.drop (i * k)).length=n * k - i * k:=by rw[zh,hrl]
 simp only[e1,e2,hd,hw];generalize hN:n * k=N at *;generalize hI:i * k=I at *
 have hl1:(cur.take (I+k)++row.drop I++cur.drop (I+k+(N - I))).length=cur.length:=by
  rw[bQ,bQ,qX,zh,zh,hrl];omega
 refine⟨hl1,?_,?_⟩
 ·rw[bQ,bQ,qX,zh,hl1,hw];omega
 ·have ht:(cur.take (I+k)++row.drop I++cur.drop (I+k+(N - I))).take I=row.take I:=by
   rw[om,abk (by rw[qX];omega),List.take_take,Nat.min_eq_left (by omega),<- hr,List.take_take,Nat.min_eq_left e3]
  have hdr:(cur.take (I+k)++row.drop I++cur.drop (I+k+(N - I))).drop (I+k)=row.drop I++cur.drop (I+k+(N - I)):=by
   rw[om,List.drop_append_of_le_length (by rw[qX];omega),List.drop_of_length_le (by rw[qX];omega),qW]
  rw[ht,hdr,om]
  have hlt:(row.take I).length=I:=by rw[qX,hrl];omega
  rw[List.take_append,DL (l:=row.take I) (by rw[hlt];omega),hlt,List.take_append,DL (l:=nw) (by rw[hw];omega),hw,List.take_append,DL (l:=row.drop I) (by rw[hd];omega),hd];rw[show N+k - I - k - (N - I)=0 by omega,List.take_zero,List.append_nil]
theorem Ez (R:List Value)(n i k:Nat)(hi:i<=n)(hc:(n+1) * k<=R.length)(nw row:List Value)(hr:R.take (i * k)=row.take (i * k))(hrl:row.length=n * k)(hw:nw.length=k) :
  let c1:=R.take (i * k)++nw++R.drop (i * k+nw.length)
  let c2:=c1.take ((i+1) * k)++row.drop (i * k)++c1.drop ((i+1) * k+(row.drop (i * k)).length)
  c1.length=R.length/\c2.length=R.length/\c2.take ((n+1) * k)=row.take (i * k)++(nw++row.drop (i * k)):=by
 have e1:(n+1) * k=n * k+k:=Nat.succ_mul n k;have e2:(i+1) * k=i * k+k:=Nat.succ_mul i k;have e3:i * k<=n * k:=Nat.mul_le_mul_right k hi;rw[e1] at hc
 have hd:(row.drop (i * k)).length=n * k - i * k:=by rw[zh,hrl]
 simp only[e1,e2,hd,hw];generalize hN:n * k=N at *;generalize hI:i * k=I at *
 have hl0:(R.take I).length=I:=by rw[qX];omega
 have hl1:(R.take I++nw++R.drop (I+k)).length=R.length:=by
  rw[bQ,bQ,hl0,zh,hw];omega
 refine⟨hl1,?_,?_⟩
 ·rw[bQ,bQ,qX,hd,zh,hl1];omega
 ·have ht:(R.take I++nw++R.drop (I+k)).take (I+k)=row.take I++nw:=by
   rw[abk (by rw[bQ,hl0,hw];omega),DL (by rw[bQ,hl0,hw];omega),hr]
  have hl2:(row.take I).length=I:=by rw[<- hr,hl0]
  rw[ht,om,om,List.take_append,DL (l:=row.take I) (by rw[hl2];omega),hl2,List.take_append,DL (l:=nw) (by rw[hw];omega),hw,List.take_append,DL (l:=row.drop I) (by rw[hd];omega),hd];rw[show N+k - I - k - (N - I)=0 by omega,List.take_zero,List.append_nil]
open Go.Lib
theorem Tryz.Du:(Tryz.prog.info? 166).map (λi=>(i.zero,i.size,i.bytes))=some (some (.agg #[.string ⟨#[]⟩,.string ⟨#[]⟩,.slice none 0 0,.int .i64 0,.slice none 0 0]),5,88):=by kernel_rfl
def Ur (B:Nat)(v:Value)(l:ML)(x:aH)(vs:List Value)(w:World)(e:Ending)(w':World):Prop :=
 ∃ g cap,e=.returned (.slice (some ⟨g,0,none⟩) (l.length+1) cap)/\w'.ownsRow B 166 5 (.slice (some ⟨g,0,none⟩) (l.length+1) cap) (l.length+1) (eF (qh l x vs))/\w.grownBy w' v.ownBlock/\(v.ownBlock=some g\/w.heap.size<=g)
theorem ES (B sb:Nat)(v:Value)(l:ML)(x:aH)(vs:List Value)(w:World)(hw:yV 4 l)(hB:B<=w.heap.size)(hn:l.length<=1000000)(hp:aU l x=l.length)(hvl:vs.length=4)(h1:∀ u∈vs,u.oneCell'=true)
  (hown:w.ownsRow B 166 5 v l.length (eF l)) (hsb:w.heap[sb]?=some (.cells (bB (x,vs)).toArray 166 (0,0))) :
  Calls Tryz.prog 79 #[v,.int .i64 l.length,.slice (some ⟨sb,0,none⟩) 1 1] w (Ur B v l x vs w):=by
 obtain⟨i0,hi,hz0,hz1,hz2⟩:=info_parts Tryz.Du
 have hrow:eF (qh l x vs)=eF l++bB (x,vs):=by
  rw[vH l x vs hw.wid,hp,DL (by rw[kM hw.wid];omega),List.drop_of_length_le (by rw[kM hw.wid];omega),List.append_nil]
 have hnl:(bB (x,vs)).length=1 * 5:=by rw[bB,dN,hvl]
 have hn1:∀ u∈bB (x,vs),u.oneCell'=true:=λu hu=>by
  rcases oo.1 hu with q|q
  ·rw[q];rfl
  ·exact h1 u q
 have HW:=ay hown;have HR:=ay hrow;have hnews:=wS hsb;unfold Ur;generalize hmr:eF l=mr at *;generalize eF (qh l x vs)=mr' at *;generalize hmc:bB (x,vs)=mc at *;generalize hnn:l.length=n at *;clear hrow hp hmr hmc hw hsb hnn
 rcases hown.2 with ⟨rfl,rfl⟩|⟨g,cap,cur,rfl,hg,hh,hnc,hm,hs,hx⟩
 ·clear hown
  go_enter Tryz.func79,Tryz.ntmps79;go_wp2_with (at_builtin;refine wpList_append_lies _ rfl _ _ 159 rfl B 166 i0 _ 5 88 Tryz.underlying159 hi hz0 hz1 hz2 rfl (by decide) _ 0 _ rfl HW.out ⟨sb,0,none⟩ 1 1 _ rfl hnl hnews hn1 (by decide) (by unfold maxLen;omega) (by omega) hB _ rfl ?_;intro g cap w' hown' hgrow hor hlt);go_ret;exact⟨g,cap,rfl,by rw[HR.out];exact hown',hgrow,hor.imp id (λq=>by omega)⟩
 ·clear hown hh hs hx hg
  unfold maxLen at hm;go_enter Tryz.func79,Tryz.ntmps79;go_wp2_with (at_builtin;refine wpList_append_lies _ rfl _ _ 159 rfl B 166 i0 _ 5 88 Tryz.underlying159 hi hz0 hz1 hz2 rfl (by decide) _ n _ rfl HW.out ⟨sb,0,none⟩ 1 1 _ rfl hnl hnews hn1 (by decide) (by unfold maxLen;omega) (by omega) hB _ rfl ?_;intro g cap w' hown' hgrow hor hlt)
  all_goals
   go_ret;exact⟨g,cap,rfl,by rw[HR.out];exact hown',hgrow,hor.imp id (λq=>by omega)⟩
theorem I9 (B sb g c:Nat)(l:ML)(x:aH)(vs:List Value)(w:World)(hw:yV 4 l)(hn:l.length<=1000000)(hp:aU l x<l.length)(hvl:vs.length=4)(h1:∀ u∈vs,u.oneCell'=true)(hroom:l.length+1<=c)
  (hown:w.ownsRow B 166 5 (.slice (some ⟨g,0,none⟩) l.length c) l.length (eF l)) (hsb:w.heap[sb]?=some (.cells (bB (x,vs)).toArray 166 (0,0))) (hne:sb≠g) :
  Calls Tryz.prog 79 #[.slice (some ⟨g,0,none⟩) l.length c,.int .i64 (aU l x:Nat),.slice (some ⟨sb,0,none⟩) 1 1] w (Ur B (.slice (some ⟨g,0,none⟩) l.length c) l x vs w):=by
 obtain⟨i0,hi0,hz0,hzs,hzb⟩:=info_parts Tryz.Du
 have hsz:(Tryz.prog.info? 166).map (·.size)=some 5:=by rw[hi0];simp[hzs]
 have hnl:(bB (x,vs)).length=5:=by rw[bB,dN,hvl]
 have hn1:∀ u∈bB (x,vs),u.oneCell'=true:=λu hu=>by
  rcases oo.1 hu with q|q
  ·rw[q];rfl
  ·exact h1 u q
 have Nw:w.heap[sb]?=some (.cells (bB (x,vs)).toArray 166 (0,0)):=hsb
 have afQ:(bB (x,vs)).toArray.size=5:=by rw[List.size_toArray,hnl]
 have hr1:=yA hw;have hrl:=kM hw.wid;have hnews:=wS hsb;have hrow:=vH l x vs hw.wid
 rcases hown.2 with ⟨hv,_⟩|⟨g',jc,cur,hv,hg,hh,hnc,hm,hs,hx⟩
 ·cases hv
 simp only[Value.slice.injEq,Option.some.injEq,Addr.mk.injEq,and_true] at hv;obtain⟨rfl,-,rfl⟩:=hv;unfold maxLen at hm
 have hcl:cur.toList.length=c * 5:=by rw[Array.length_toList,hs]
 have hins:=I8 cur.toList l.length (aU l x) 5 (Nat.le_of_lt hp) (by omega) (bB (x,vs)) (eF l) hx hnl;simp only at hins;obtain⟨k1,k2,k3⟩:=hins;rw[<- hrow] at k3;unfold Ur;generalize eF (qh l x vs)=mr' at *;generalize hmr:eF l=mr at *;generalize hmc:bB (x,vs)=mc at *;generalize hii:aU l x=i at *;generalize hnn:l.length=n at *;clear hrow hmr hmc hw hsb hnn hii h1 hvl
 have hdl:(mr.drop (i * 5)).length=(n - i) * 5:=by rw[zh,hrl];omega
 -- the two copies
 obtain⟨c1,hc1⟩:∃ c1,c1=cur.toList.take ((i+1) * 5)++mr.drop (i * 5)++cur.toList.drop ((i+1) * 5+(mr.drop (i * 5)).length):=⟨_,rfl⟩
 rw[<- hc1] at k1 k2 k3
 have hcp1:∀ (W:World),W.heap[g]?=some (.cells cur 166 (0,0))->∀ ty dc sc,(Builtin.copy_ #[159,159] ty #[.slice (some ⟨g,(i+1) * 5,none⟩) (n - i) dc,.slice (some ⟨g,i * 5,none⟩) (n+1 - i) sc]).run Tryz.prog W=.ok (goInt (n - i:Nat)) (W.setRow g c1.toArray):=λW hW ty dc sc=>by
  have hmin:Nat.min (n+1 - i) (n - i)=n - i:=by simp only[Nat.min_def];split<;>omega
  have:=iE (P:=Tryz.prog) W 159 159 ty 166 5 g ((i+1) * 5) (n - i) dc ⟨g,i * 5,none⟩ (n+1 - i) sc cur _ (mr.drop (i * 5)) Tryz.underlying159 hsz hW (by rw[hmin,hdl])
   (λj v hj=>by
    rw[List.getElem?_drop,<- hx] at hj;rw[List.getElem?_take] at hj
    split at hj
    ·rw[Addr.add_lit]
     exact rG hW hj
    ·cases hj) (by rw[hdl,hs];omega) (λv hv=>hr1 v (List.mem_of_mem_drop hv))
  rw[hmin,<- hc1] at this;exact this
 obtain⟨c2,hc2⟩:∃ c2,c2=c1.take (i * 5)++mc++c1.drop (i * 5+mc.length):=⟨_,rfl⟩
 rw[<- hc2] at k2 k3
 have hcp2:∀ (W:World),W.heap[g]?=some (.cells c1.toArray 166 (0,0))->(∀ j u,mc[j]?=some u->W.cell? ((⟨sb,0,none⟩:Addr).add j)=some u)->∀ ty dc,(Builtin.copy_ #[159,159] ty #[.slice (some ⟨g,i * 5,none⟩) (n+1 - i) dc,.slice (some ⟨sb,0,none⟩) 1 1]).run Tryz.prog W=.ok (goInt 1) (W.setRow g c2.toArray):=λW hW hsrc ty dc=>by
  have hmin:Nat.min 1 (n+1 - i)=1:=by simp only[Nat.min_def];split<;>omega
  have:=iE (P:=Tryz.prog) W 159 159 ty 166 5 g (i * 5) (n+1 - i) dc ⟨sb,0,none⟩ 1 1 c1.toArray _ mc Tryz.underlying159 hsz hW (by rw[hmin,hnl]) hsrc (by rw[List.size_toArray,k1,hnl,hcl];omega) hn1;rw[hmin,List.toList_toArray,<- hc2] at this;exact this
 have hbg:g<w.heap.size:=(bU hh).1
 have hov:∀ lb cb,(callFunc 135 #[.slice (some ⟨sb,0,none⟩) 1 1,.slice (some ⟨g,(i+1) * 5,none⟩) lb cb]).run Tryz.prog w=.ok (.value (.bool false)) w:=λlb cb=>by
  rw[run_callFunc_extern Tryz.func135 (by kernel_rfl) (by kernel_rfl) (by kernel_rfl) (e:=Extern.SlicesOverlaps.overlaps #[159,159] #[4]) (by kernel_rfl),
   Lib.run_overlaps_apart w 159 4 166 Tryz.underlying159 5 Tryz.sizeOf166 ⟨sb,0,none⟩ ⟨g,(i+1) * 5,none⟩ 1 1 lb cb hne 166 166 5 (c * 5) (Ce Nw afQ) (Ce hh hs) (by omega) (by simp[World.frozen?,Nw]) (by simp[World.frozen?,Nw])]
  rfl
 have hcpA:=hcp1 w.drew hh;have hw1:(w.drew.setRow g c1.toArray).heap[g]?=some (.cells c1.toArray 166 (0,0)):=setRow_heap w.drew g cur _ _ _ hh
 have hcpB:=hcp2 (w.drew.setRow g c1.toArray) hw1 (λj u hj=>by
  rw[show (w.drew.setRow g c1.toArray).cell? ((⟨sb,0,none⟩:Addr).add j)=w.cell? ((⟨sb,0,none⟩:Addr).add j) from by
   rw[Addr.add_lit]
   exact AJ (a:=⟨sb,0+j,none⟩) (setRow_other w.drew g sb _ hne)]
  exact hnews j u (by simpa using hj))
 have hw2:((w.drew.setRow g c1.toArray).setRow g c2.toArray).heap[g]?=some (.cells c2.toArray 166 (0,0)):=setRow_heap _ g _ _ _ _ hw1
 have hgr:w.grownBy ((w.drew.setRow g c1.toArray).setRow g c2.toArray) (some g):=⟨rfl,rfl,rfl,by rw[setRow_size,setRow_size];exact bI _,λk hk hkg=>by
  have hkn:k≠g:=λq=>hkg (by rw[q])
  rw[setRow_other _ g k _ hkn,setRow_other _ g k _ hkn]
  rfl⟩
 have mixed:Tryz.prog.follows .mixedOrders=true:=by kernel_rfl
 have hwr:IntKind.i64.wrap ((i:Int)+1)=(i:Int)+1:=by rw[IntKind.wrap_i64];omega
 have hb1:(0:Int)<=(i:Int)+1:=by omega
 have hb5:(i:Int)+1<=(n:Int)+1:=by omega
 have htn:((i:Int)+1).toNat=i+1:=by omega
 have hb2:¬ (c=i+1):=by omega
 have hb3:(i:Int)<=(n:Int)+1:=by omega
 have hb4:¬ (c=i):=by omega
 have hiI:¬ ((i:Int)=(n:Int)):=by omega
 have HK:=ay k3;clear hcp1 hcp2 hw1 Nw hc1 hc2 hdl k3 hx hown hrl;go_enter Tryz.func79,Tryz.ntmps79;go_wp2_with (simp only[hov])
 go_region_law_o (refine step_copy_runI rfl _ _ 159 159 rfl _ _ (by simp[Act.eval,Act.put]) (by simp[Act.eval,Act.put]) (hcpA _ _ _) ?_)
 go_wp2_with (at_builtin;refine wpList_copy_runI _ rfl _ _ 159 159 rfl _ _ rfl rfl (hcpB _ _) ?_);go_ret;exact⟨g,c,rfl,⟨by rw[<- HK.out,qX,k2,hcl];omega,.inr ⟨g,c,c2.toArray,rfl,hg,hw2,hroom,by unfold maxLen;exact hm,by rw[List.size_toArray,k2,hcl],by rw[List.toList_toArray];exact HK.out⟩⟩,hgr,.inl rfl⟩
theorem ET (B sb g c:Nat)(l:ML)(x:aH)(vs:List Value)(w:World)(hw:yV 4 l)(hB:B<=w.heap.size)(hn:l.length<=1000000)(hp:aU l x<l.length)(hvl:vs.length=4)(h1:∀ u∈vs,u.oneCell'=true)(hroom:c<l.length+1)
  (hown:w.ownsRow B 166 5 (.slice (some ⟨g,0,none⟩) l.length c) l.length (eF l)) (hsb:w.heap[sb]?=some (.cells (bB (x,vs)).toArray 166 (0,0))) :
  Calls Tryz.prog 79 #[.slice (some ⟨g,0,none⟩) l.length c,.int .i64 (aU l x:Nat),.slice (some ⟨sb,0,none⟩) 1 1] w (Ur B (.slice (some ⟨g,0,none⟩) l.length c) l x vs w):=by
 obtain⟨i0,hi0,hz0,hzs,hzb⟩:=info_parts Tryz.Du
 have hsz:(Tryz.prog.info? 166).map (·.size)=some 5:=by rw[hi0];simp[hzs]
 have hnl:(bB (x,vs)).length=5:=by rw[bB,dN,hvl]
 have hn1:∀ u∈bB (x,vs),u.oneCell'=true:=λu hu=>by
  rcases oo.1 hu with q|q
  ·rw[q];rfl
  ·exact h1 u q
 have hr1:=yA hw;have hrl:=kM hw.wid;have hnews:=wS hsb;have hrow:=vH l x vs hw.wid
 rcases hown.2 with ⟨hv,_⟩|⟨g',jc,cur,hv,hg,hh,hnc,hm,hs,hx⟩
 ·cases hv
 simp only[Value.slice.injEq,Option.some.injEq,Addr.mk.injEq,and_true] at hv;obtain⟨rfl,-,rfl⟩:=hv;have hbs:=(bU hsb).1;have hbg:=(bU hh).1;unfold Ur;generalize eF (qh l x vs)=mr' at *;generalize hmr:eF l=mr at *;generalize hmc:bB (x,vs)=mc at *;generalize hii:aU l x=i at *;generalize hnn:l.length=n at *;clear hmr hmc hw hsb hnn hii h1 hvl hown
 obtain rfl:c=n:=by omega
 have hdl:(mr.drop (i * 5)).length=(c - i) * 5:=by rw[zh,hrl];omega
 have hcg:∀ j v,mr[j]?=some v->w.cell? ⟨g,j,none⟩=some v:=λj v hj=>by
  rw[<- hx,List.getElem?_take] at hj
  split at hj
  ·exact rG hh hj
  ·cases hj
 have hold:(Builtin.firstCells i0.size i (.slice (some ⟨g,0,none⟩) i c)).run Tryz.prog w.drew=.ok (mr.take (i * 5)).toArray w.drew:=by
  rw[hzs]
  exact run_firstCells_some w.drew 5 i ⟨g,0,none⟩ i c (mr.take (i * 5)) (by rw[qX];omega) (λj v hj=>by
   rw[Addr.add_lit,Nat.zero_add];rw[List.getElem?_take] at hj
   split at hj
   ·exact hcg j v hj
   ·cases hj)
 have hik:i+(c+1 - i)=c+1:=by omega
 have hkk:(c:Int)+1 - (i:Int)=((c+1 - i:Nat):Int):=by omega
 obtain⟨z,hz⟩:∃ z:Value,z=.agg #[.string ⟨#[]⟩,.string ⟨#[]⟩,.slice none 0 0,.int .i64 0,.slice none 0 0]:=⟨_,rfl⟩
 rw[<- hz] at hz0
 have hrz:∀ ty,(Builtin.append_ #[159,3] ty #[.slice (some ⟨g,0,none⟩) i c,.int .i64 ((c:Int)+1 - (i:Int))]).run Tryz.prog w =
   .ok (.slice (some ⟨w.heap.size,0,none⟩) (c+1) (grownCap w (c+1) c 166)) (w.drew.alloc (.cells ((mr.take (i * 5)).toArray++Builtin.zeroCells z.cells (c+1 - i)++Builtin.zeroCells z.cells (grownCap w (c+1) c 166 - (c+1))) 166)):=λty=>by
  have h:=Lib.run_append_grow_zeros w 159 3 ty 166 i0 z .i64 .i64 Tryz.underlying159 Tryz.underlying3 hi0 hz0 (some ⟨g,0,none⟩) i c (mr.take (i * 5)) hold (c+1 - i) (by omega) (by omega) (by omega) (by omega) (by rw[hzb];omega) (by rw[hzb,hik];exact growslice_fits hroom (by omega));rw[hik] at h;rw[hkk];exact h
 have hGn:c+1<=grownCap w (c+1) c 166:=grownCap_ge w _ _ _
 have hG63:grownCap w (c+1) c 166<=9223372036854775807:=by
  have:=grownCap_le_maxLen w (c+1) c 166 (by unfold maxLen;omega);unfold maxLen at this;omega
 generalize grownCap w (c+1) c 166=G at *
 have hzc:∀ k,(Builtin.zeroCells z.cells k).size=k * 5:=λk=>by rw[hz];simp[Builtin.zeroCells,Value.cells]
 obtain⟨ROW,hROW⟩:∃ ROW:Array Value,ROW=(mr.take (i * 5)).toArray++Builtin.zeroCells z.cells (c+1 - i)++Builtin.zeroCells z.cells (G - (c+1)):=⟨_,rfl⟩
 have hRl:ROW.toList.length=G * 5:=by
  rw[hROW,Array.length_toList,Array.size_append,Array.size_append,hzc,hzc,List.size_toArray,qX,hrl];omega
 have hRt:ROW.toList.take (i * 5)=mr.take (i * 5):=by
  rw[hROW,Array.toList_append,Array.toList_append,om,abk (by rw[List.toList_toArray,qX];omega),List.toList_toArray,List.take_take,Nat.min_self]
 rw[<- hROW] at hrz
 obtain⟨W1,hW1⟩:∃ W1,W1=w.drew.alloc (.cells ROW 166):=⟨_,rfl⟩
 rw[<- hW1] at hrz
 have a1:W1.heap[w.heap.size]?=some (.cells ROW 166 (0,0)):=by rw[hW1];exact aZ w.drew _
 have a2:∀ k,k<w.heap.size->W1.heap[k]?=w.heap[k]?:=λk hk=>by rw[hW1];exact iB w.drew _ k hk
 have a3:W1.heap.size=w.heap.size+1:=by rw[hW1];simp
 have a4:W1.os=w.os/\W1.tape=w.tape/\W1.output=w.output:=by rw[hW1];exact⟨rfl,rfl,rfl⟩
 have hins:=Ez ROW.toList c i 5 (Nat.le_of_lt hp) (by rw[hRl];omega) mc mr hRt hrl hnl;simp only at hins;obtain⟨k1,k2,k3⟩:=hins;rw[<- hrow] at k3
 obtain⟨c1,hc1⟩:∃ c1,c1=ROW.toList.take (i * 5)++mc++ROW.toList.drop (i * 5+mc.length):=⟨_,rfl⟩
 rw[<- hc1] at k1 k2 k3
 obtain⟨c2,hc2⟩:∃ c2,c2=c1.take ((i+1) * 5)++mr.drop (i * 5)++c1.drop ((i+1) * 5+(mr.drop (i * 5)).length):=⟨_,rfl⟩
 rw[<- hc2] at k2 k3
 have hcpA:∀ ty dc,(Builtin.copy_ #[159,159] ty #[.slice (some ⟨w.heap.size,i * 5,none⟩) (c+1 - i) dc,.slice (some ⟨sb,0,none⟩) 1 1]).run Tryz.prog W1=.ok (goInt 1) (W1.setRow w.heap.size c1.toArray):=λty dc=>by
  have hmin:Nat.min 1 (c+1 - i)=1:=by simp only[Nat.min_def];split<;>omega
  have:=iE (P:=Tryz.prog) W1 159 159 ty 166 5 w.heap.size (i * 5) (c+1 - i) dc ⟨sb,0,none⟩ 1 1 ROW _ mc Tryz.underlying159 hsz a1 (by rw[hmin,hnl]) (λj u hj=>by
   rw[Addr.add_lit,show W1.cell? ⟨sb,0+j,none⟩=w.cell? ⟨sb,0+j,none⟩ from AJ (a:=⟨sb,0+j,none⟩) (a2 sb hbs)];have:=hnews j u (by simpa using hj)
   rwa [Addr.add_lit] at this) (by rw[<- Array.length_toList,hRl,hnl];omega) hn1
  rw[hmin,<- hc1] at this;exact this
 have b1:(W1.setRow w.heap.size c1.toArray).heap[w.heap.size]?=some (.cells c1.toArray 166 (0,0)):=setRow_heap W1 _ ROW _ _ _ a1
 have hcpB:∀ ty dc sc,(Builtin.copy_ #[159,159] ty #[.slice (some ⟨w.heap.size,(i+1) * 5,none⟩) (c - i) dc,.slice (some ⟨g,i * 5,none⟩) (c - i) sc]).run Tryz.prog (W1.setRow w.heap.size c1.toArray).drew=.ok (goInt (c - i:Nat)) ((W1.setRow w.heap.size c1.toArray).drew.setRow w.heap.size c2.toArray):=λty dc sc=>by
  have hmin:Nat.min (c - i) (c - i)=c - i:=Nat.min_self _
  have:=iE (P:=Tryz.prog) (W1.setRow w.heap.size c1.toArray).drew 159 159 ty 166 5 w.heap.size ((i+1) * 5) (c - i) dc ⟨g,i * 5,none⟩ (c - i) sc c1.toArray _ (mr.drop (i * 5)) Tryz.underlying159 hsz b1 (by rw[hmin,hdl])
   (λj v hj=>by
    rw[List.getElem?_drop] at hj;rw[Addr.add_lit,show (W1.setRow w.heap.size c1.toArray).drew.cell? ⟨g,i * 5+j,none⟩=w.cell? ⟨g,i * 5+j,none⟩ from AJ (a:=⟨g,i * 5+j,none⟩) ((setRow_other W1 w.heap.size g _ (by omega)).trans (a2 g hbg))]
    exact hcg _ v hj) (by rw[List.size_toArray,k1,hRl,hdl];omega) (λv hv=>hr1 v (List.mem_of_mem_drop hv))
  rw[hmin,List.toList_toArray,<- hc2] at this;exact this
 have b2:((W1.setRow w.heap.size c1.toArray).drew.setRow w.heap.size c2.toArray).heap[w.heap.size]?=some (.cells c2.toArray 166 (0,0)):=setRow_heap _ _ _ _ _ _ b1
 have hgr:w.grownBy ((W1.setRow w.heap.size c1.toArray).drew.setRow w.heap.size c2.toArray) (some g):=⟨a4.1,a4.2.1,a4.2.2,by rw[setRow_size];show w.heap.size<=(W1.setRow w.heap.size c1.toArray).heap.size;rw[setRow_size,a3];omega,λk hk _=>by
  rw[setRow_other _ _ k _ (by omega)]
  exact(setRow_other W1 _ k _ (by omega)).trans (a2 k hk)⟩
 have HK:=ay k3
 have mixed:Tryz.prog.follows .mixedOrders=true:=by kernel_rfl
 have hwr:IntKind.i64.wrap ((i:Int)+1)=(i:Int)+1:=by rw[IntKind.wrap_i64];omega
 have hb1:(0:Int)<=(i:Int)+1:=by omega
 have htn:((i:Int)+1).toNat=i+1:=by omega
 have hb2:¬ (G=i+1):=by omega
 have hb6:¬ (G=i):=by omega
 have hb4:¬ (c=i):=by omega
 have hb5:(i:Int)+1<=(c:Int)+1:=by omega
 have hb3:(i:Int)<=(c:Int)+1:=by omega
 have BI:(i:Int)<=(c:Int):=by omega
 have hiI:¬ ((i:Int)=(c:Int)):=by omega
 have acz:=hRl;clear hkk hik hold hROW hRl hRt hc1 hc2 hdl k3 hx hrl hrow hz hz0 hzc hcg hW1 a1 a2 a3 a4 b1 hnews hr1;go_enter Tryz.func79,Tryz.ntmps79
 go_wp2_with (first
  | (at_builtin;refine Lib.wpList_append_run _ rfl _ _ _ _ rfl _ _ rfl rfl _ _ (hrz _) ?_)
  | (at_builtin;refine wpList_copy_runI _ rfl _ _ 159 159 rfl _ _ rfl rfl (hcpA _ _) ?_))
 go_region_law_o (refine step_copy_runI rfl _ _ 159 159 rfl _ _ (by simp[Act.eval,Act.put]) (by simp[Act.eval,Act.put]) (hcpB _ _ _) ?_)
 go_wp2;go_ret;exact⟨w.heap.size,G,rfl,⟨by rw[<- HK.out,qX,k2,acz];omega,.inr ⟨w.heap.size,G,c2.toArray,rfl,hB,b2,hGn,by unfold maxLen;exact hG63,by rw[List.size_toArray,k2,acz],by rw[List.toList_toArray];exact HK.out⟩⟩,hgr,.inr (bI _)⟩
theorem QM (B sb:Nat)(v:Value)(l:ML)(x:aH)(vs:List Value)(w:World)(hw:yV 4 l)(hB:B<=w.heap.size)(hn:l.length<=1000000)(hvl:vs.length=4)(h1:∀ u∈vs,u.oneCell'=true)
  (hown:w.ownsRow B 166 5 v l.length (eF l)) (hsb:w.heap[sb]?=some (.cells (bB (x,vs)).toArray 166 (0,0))) (hne:some sb≠v.ownBlock) :
  Calls Tryz.prog 79 #[v,.int .i64 (aU l x:Nat),.slice (some ⟨sb,0,none⟩) 1 1] w (Ur B v l x vs w):=by
 have hpl:=mh l x
 by_cases hp:aU l x=l.length
 ·have:=ES B sb v l x vs w hw hB hn hp hvl h1 hown hsb
  rw[<- hp] at this;exact this
 ·rcases hown.2 with ⟨_,q⟩|⟨g,cap,cur,rfl,hg,hh,hnc,_⟩
  ·omega
  ·by_cases hr:l.length+1<=cap
   ·exact I9 B sb g cap l x vs w hw hn (by omega) hvl h1 hr hown hsb (λq=>hne (by rw[q];rfl))
   ·exact ET B sb g cap l x vs w hw hB hn (by omega) hvl h1 (by omega) hown hsb
def aiQ (B mb:Nat)(v:Value)(l:ML)(x:aH)(vs:List Value)(w:World)(e:Ending)(w':World):Prop :=
 e=.returned (.bool true)/\(∃ v',Ap B mb v' (qh l x vs) w')/\Below B w w'/\bA (λb=>b≠mb/\some b≠v.ownBlock) w w'
theorem acA (B mb:Nat)(v:Value)(l:ML)(x:aH)(v1 v2 v3 v4:Value)(w:World)(h:Ap B mb v l w)(hB:B<=w.heap.size)(hBm:B<=mb)(hn:l.length<=1000000)(hx:l8 l x=false)(h1:∀ u∈[v1,v2,v3,v4],u.oneCell'=true) :
  Calls Tryz.prog 51 #[.pointer (some ⟨mb,0,none⟩),.string ⟨x.toArray⟩,.agg #[v1,v2,v3,v4]] w (aiQ B mb v l x [v1,v2,v3,v4] w):=by
 have hal:=aB w (.cells #[v1,v2,v3,v4] 53);have hN:=aZ w (.cells #[v1,v2,v3,v4] 53);have hM:=h.below hal;have HF:=ay (LC B mb v l x (w.alloc (.cells #[v1,v2,v3,v4] 53)) hM hn);rw[hx] at HF;have aiR:=(bU h.box).1
 have afR:∀ b,v.ownBlock=some b->b<w.heap.size:=λb q=>(h.own.lt b q).2
 have hne:some mb≠v.ownBlock:=own_ne h.own h.box (by decide);clear h;go_enter Tryz.func51,Tryz.ntmps51
 go_upto_region 1 with fail
 change Code.wp _ _ _ _ (w.alloc (.cells #[v1,v2,v3,v4] 53))
 have hz:w.heap.size<(w.alloc (.cells #[v1,v2,v3,v4] 53)).heap.size:=by simp
 generalize w.alloc _=w1 at *
 go_upto_region 2 with (go_at_call 78;refine HF.out.mono ?_;rintro e w2 ⟨rfl,hb2⟩)
 have QH:=(hb2.block _ hz).trans hN;have hM2:=hM.below hb2;have hbw:=hal.trans (hb2.mono hal.size);have hz2:=hb2.size;clear HF hN hM hal;obtain⟨⟨a0,a1,a2,a3⟩,-⟩:=sS QH;obtain⟨m0,-⟩:=uj hM2.box;have hpl:=mh l x;have HI:=ay (λ(W:World) (hW:Below w2.heap.size w2 W) (hs:W.heap[w2.heap.size]?=some (.cells #[.string ⟨x.toArray⟩,v1,v2,v3,v4] 166 (0,0)))=>QM B w2.heap.size v l x [v1,v2,v3,v4] W hM2.wf (by have:=hW.size;omega) hn rfl h1 (own_below hM2.own hW) hs (λq=>by have:=afR _ q.symm;omega))
 have s1:=λa m W=>run_store Tryz.prog W a v1 m (h1 v1 (by simp))
 have s2:=λa m W=>run_store Tryz.prog W a v2 m (h1 v2 (by simp))
 have s3:=λa m W=>run_store Tryz.prog W a v3 m (h1 v3 (by simp))
 have s4:=λa m W=>run_store Tryz.prog W a v4 m (h1 v4 (by simp))
 have afS:mb<w2.heap.size:=by omega
 have hmx:=ay hM2;have HX:=ay hx;have HO1:=ay h1;clear hM2 hx h1 QH
 go_upto_region 5 with fail
 have hA:(w2.alloc (.cells #[.string ⟨x.toArray⟩,v1,v2,v3,v4] 166)).drew.heap[w2.heap.size]?=some (.cells #[.string ⟨x.toArray⟩,v1,v2,v3,v4] 166 (0,0)):=aZ w2 _;have hAb:Below w2.heap.size w2 (w2.alloc (.cells #[.string ⟨x.toArray⟩,v1,v2,v3,v4] 166)).drew:=((bY _ _).alloc (bI _) _).drew;have HIx:=ay (HI.out _ hAb hA);have hmA:(w2.alloc (.cells #[.string ⟨x.toArray⟩,v1,v2,v3,v4] 166)).drew.heap[mb]?=some (.cells #[v] 161 (0,0)):=(iB w2 _ mb afS).trans hmx.out.box;have HMA:=ay hmA;clear hA HI hmA
 go_region_with (go_at_call 79;refine HIx.out.mono ?_;rintro e w3 ⟨g',jc,rfl,lM,hgrow,hor⟩;have Ja:=(hgrow.block mb (bU HMA.out).1 hne).trans HMA.out;obtain⟨t0,f0⟩:=uj Ja;have YV:=ay lM;have Us:=ay hgrow;have HR3:=ay hor;have HB3:=ay Ja;clear lM hgrow hor Ja)
 all_goals
  go_wp2;go_ret;refine⟨rfl,⟨_,hmx.out.wf.ins HX.out rfl HO1.out,kG w3 mb 0 _ _ _ HB3.out,?_⟩,?_,?_⟩
  ·rw[Cc]
   exact iQ YV.out (λq=>own_ne YV.out HB3.out (by decide) q) _
  ·exact(((((hbw.mono hB).trans (hAb.mono (iY hB hbw.size))).grown Us.out (iY (iY hB hbw.size) hAb.size) (λb q=>(hmx.out.own.lt b q).1))).setCell hBm _)
  ·exact(bA.of hbw).trans ((bA.of hAb).trans ((bA.grown Us.out λb hb=>hb.2).trans (bA.set _ λb hb=>hb.1)))
variable{l:List aH}
theorem Tryz.VL:(Tryz.prog.info? 9).map (λi=>(i.zero,i.size,i.bytes))=some (some (.string ⟨#[]⟩),1,16):=by kernel_rfl
def J8 (B:Nat)(w:World)(v:Value)(l:List aH):Prop:=w.ownsRow B 9 1 v l.length (l.map encStr)
theorem J8.slice {B:Nat}{w:World}{v:Value}{l:List aH}(h:J8 B w v l):∃ ak ck,v=.slice ak l.length ck:=by
 obtain⟨ao,cap,e,_,_⟩:=(gQ.owns (P:=λ_=>True) h (λ_ _=>trivial)).slice;exact⟨ao,cap,e⟩
def QN (w:World)(e:Ending)(w':World):Prop:=∃ v,e=.returned v/\J8 w.heap.size w' v []/\Below w.heap.size w w'
theorem Ye (n:Nat)(w:World)(hn:n<=4000000):Calls Tryz.prog 152 #[.slice none 0 0,.int .i64 n] w (QN w):=by
 rcases Nat.eq_zero_or_pos n with h0|h0
 ·subst h0
  go_enter Tryz.func152,Tryz.ntmps152;go_wp2;go_ret;exact⟨_,rfl,World.ownsRow_nil _ _ _ _,bY _ _⟩
 ·obtain⟨i0,hi,hz0,hz1,hz2⟩:=info_parts Tryz.VL
  have hrz:=Lib.run_append_grow_zeros (P:=Tryz.prog) w 35 3 35 9 i0 _ .i64 .i64 Tryz.underlying35 Tryz.underlying3 hi hz0 none 0 0 [] (run_firstCells_none _ _ _ _ _) n h0 (by omega) (by omega) (by omega) (by rw[hz2];omega) (by rw[hz2];exact growslice_fits (by omega) (by omega));rw[Nat.zero_add] at hrz;have hG1:=grownCap_ge w n 0 9;have hG2:=grownCap_le_maxLen w n 0 9 (by unfold maxLen;omega);generalize grownCap w n 0 9=G at *
  have hown:((w.alloc (.cells (Builtin.zeroCells #[Value.string ⟨#[]⟩] n++Builtin.zeroCells #[Value.string ⟨#[]⟩] (G - n)) 9)).drew).ownsRow w.heap.size 9 1 (.slice (some ⟨w.heap.size,0,none⟩) 0 G) 0 [] :=
   ⟨rfl,.inr ⟨w.heap.size,G,_,rfl,bI _,aZ w _,by omega,hG2,by simp[size_zeroCells];omega,by simp⟩⟩
  have hbel:Below w.heap.size w ((w.alloc (.cells (Builtin.zeroCells #[Value.string ⟨#[]⟩] n++Builtin.zeroCells #[Value.string ⟨#[]⟩] (G - n)) 9)).drew):=((bY _ w).alloc (bI _) _).drew;have HO:=ay hown;have HB:=ay hbel
  have hG3:G<=9223372036854775807:=by unfold maxLen at hG2;omega
  have YN:(0:Int)<(n:Int):=by omega
  have hn0:¬ ((n:Int)<0):=by omega
  clear hown hbel;go_enter Tryz.func152,Tryz.ntmps152;go_wp2_with (at_builtin;refine Lib.wpList_append_run _ rfl _ _ _ _ rfl _ _ rfl rfl _ _ hrz ?_)
  all_goals (go_ret;exact⟨_,rfl,HO.out,HB.out⟩)
theorem gQ.news {P:Nat->Prop}{ad:Addr}{n c:Nat}(h:gQ P w (.slice (some ad) n c) l):∀ j u,(l.map encStr)[j]?=some u->w.cell? (ad.add j)=some u:=by
 obtain⟨ao,cap,hv,_,hc⟩:=h.slice;simp only[Value.slice.injEq] at hv;obtain⟨rfl,rfl,rfl⟩:=hv;intro j u hj;rw[abl] at hj;obtain⟨x,hx,rfl⟩:=Option.map_eq_some_iff.1 hj;obtain⟨hjl,rfl⟩:=qm hx;obtain⟨b,off,e,_,_,hcell⟩:=hc (by omega)
 injection e with e
 subst e;rw[Addr.add_lit];exact hcell j hjl
def aeb (l:List aH)(w:World)(e:Ending)(w':World):Prop:=∃ v,e=.returned v/\J8 w.heap.size w' v l/\Below w.heap.size w w'
theorem VN (l:List aH):∀ u∈l.map encStr,u.oneCell'=true:=by
 intro u hu;obtain⟨x,_,rfl⟩:=List.mem_map.1 hu
 rfl
theorem J8.app {B:Nat}{a:List aH}(h:w.ownsRow B 9 1 v (l.length+a.length) (l.map encStr++a.map encStr)):J8 B w v (l++a):=by
 unfold J8;rw[bQ,zJ];exact h
theorem Ut (P:Nat->Prop)(v1 v2:Value)(a b:List aH)(sb:Nat)(w:World)(h1:gQ P w v1 a)(h2:gQ P w v2 b)(hs:w.heap[sb]?=some (.cells #[v1,v2] 35 (0,0)))(ha:a.length<=1000000)(hb:b.length<=1000000) :
  Calls Tryz.prog 89 #[.slice (some ⟨sb,0,none⟩) 2 2] w (aeb (a++b) w):=by
 obtain⟨i0,hi,hz0,hz1,hz2⟩:=info_parts Tryz.VL;obtain⟨a1,c1,rfl,hc1,-⟩:=h1.slice;obtain⟨a2,c2,rfl,hc2,-⟩:=h2.slice;have hsl:=(bU hs).1
 have x0:w.cell? ⟨sb,0,none⟩=some (.slice a1 a.length c1):=by rw[bg hs];rfl
 have x1:w.cell? ⟨sb,1,none⟩=some (.slice a2 b.length c2):=by rw[bg hs];rfl
 have HG:Hid (Calls Tryz.prog 152 #[.slice none 0 0,.int .i64 ((a.length:Int)+(b.length:Int))] w (QN w)):=ay (by
  have:=Ye (a.length+b.length) w (by omega);rw[Int.natCast_add] at this
  exact this)
 have H1:=ay h1;have H2:=ay h2;have HS:=ay hs
 have haI:(a.length:Int)<=1000000:=by omega
 have hbI:(b.length:Int)<=1000000:=by omega
 have hnn:¬ ((a.length:Int)+(b.length:Int)<0):=by omega
 have hn1:¬ ((a.length:Int)<0):=by omega
 clear h1 h2 hs;go_enter Tryz.func89,Tryz.ntmps89;go_wp2
 go_loopw [3,5,11] (λs _ q wr=>wr=w/\((q=.int .i64 0/\s=.int .i64 0)\/(q=.int .i64 1/\s=.int .i64 a.length)\/(q=.int .i64 2/\s=.int .i64 ((a.length:Int)+(b.length:Int))))) (λ_ _ q _=>(2 - intOf q).toNat)
 case atStart=>exact⟨rfl,.inl ⟨rfl,rfl⟩⟩
 case round =>
  obtain⟨rfl,⟨rfl,rfl⟩|⟨rfl,rfl⟩|⟨rfl,rfl⟩⟩:=hrel
  ·clear HG H1 H2 HS
   go_wp2
   go_roundw
   case rel=>exact⟨by trivial,.inr (.inl ⟨rfl,by simp⟩)⟩
   case measure=>simp[intOf]
  ·clear HG H1 H2 HS
   go_wp2
   go_roundw
   case rel=>exact⟨by trivial,.inr (.inr ⟨rfl,rfl⟩)⟩
   case measure=>simp[intOf]
  ·clear x0 x1
   obtain⟨w0,rfl⟩:∃ w0:World,w0=wr:=⟨_,rfl⟩
   go_upto_region 10 with (go_at_call 152;refine HG.out.mono ?_;rintro e w2 ⟨v,rfl,hown,hb2⟩)
   obtain⟨ak0,ck0,rfl⟩:=hown.slice;have HO:=ay hown;have HB2:=ay hb2;clear hown hb2 HG;go_wp2
   go_loopw [6,8,27] (λkv _ q w3=>∃ (ak:Option Addr) (ck:Nat) (l:List aH),kv=.slice ak l.length ck/\J8 w0.heap.size w3 (.slice ak l.length ck) l/\Below w0.heap.size w0 w3/\((q=.int .i64 0/\l=[])\/(q=.int .i64 1/\l=a)\/(q=.int .i64 2/\l=a++b))) (λ_ _ q _=>(2 - intOf q).toNat)
   case atStart=>exact⟨ak0,ck0,[],rfl,HO.out,HB2.out,.inl ⟨rfl,rfl⟩⟩
   case round =>
    obtain⟨ak,ck,l,rfl,hown,hbl,⟨rfl,rfl⟩|⟨rfl,hla⟩|⟨rfl,rfl⟩⟩:=hrel
    ·-- round 0
     have hsc:wr.cell? ⟨sb,0,none⟩=some (.slice a1 a.length c1):=by rw[bg ((hbl.block sb hsl).trans HS.out)];rfl
     have ht:=H1.out.below hbl;have Fx:=hbl.size
     cases a1 with
     | none =>
      obtain rfl:=ht.2 _ _ rfl
      have hl0:a.length=0:=by
       obtain⟨ao,cap,hv,_,hc⟩:=ht.slice
       rcases Nat.eq_zero_or_pos a.length with q|q
       ·exact q
       ·obtain⟨b,off,e,_⟩:=hc q
        simp only[Value.slice.injEq] at hv;rw[<- hv.1] at e;cases e
      have he:=List.eq_nil_of_length_eq_zero hl0;rw[hl0] at hsc;have HW:=ay hown;have HE:=ay he;clear ht hown he hl0 H1 H2;go_wp2_with (at_builtin;refine wpList_append_own_none rfl _ _ 35 rfl w0.heap.size 9 i0 1 Tryz.underlying35 hi _ ([]:List aH).length _ rfl HW.out rfl ?_)
      go_roundw
      case rel =>
       repeat apply Exists.intro
       exact⟨⟨_,_,_,rfl,HW.out,hbl,.inr (.inl ⟨rfl,HE.out.symm⟩)⟩,rfl⟩
      case measure=>simp[intOf]
     | some ad =>
      have hnews:=ht.news;have HW:=ay hown;clear ht H1 H2;go_wp2_with (at_builtin;refine wpList_append_own _ rfl _ _ 35 rfl w0.heap.size 9 i0 _ 1 16 Tryz.underlying35 hi hz0 hz1 hz2 rfl (by decide) _ ([]:List aH).length _ rfl HW.out ad a.length c1 (a.map encStr) rfl ?q1 hnews (VN _) ?q2 ?q3 Fx ?_)
      case q1=>simp
      case q2=>unfold maxLen;first|omega|(simp only[iF];omega)
      case q3=>first|omega|(simp only[iF];omega)
      intro v' w' hown' hgrow hiff;have hb':=hbl.grown hgrow Fx (λb q=>(HW.out.lt b q).1);have HO':Hid (J8 w0.heap.size w' v' a):=ay hown';obtain⟨M0,M4,rfl⟩:=HO'.out.slice;clear hown' hgrow hiff hown HW hnews;go_wp2
      go_roundw
      case rel =>
       repeat apply Exists.intro
       exact⟨⟨_,_,_,rfl,HO'.out,hb',.inr (.inl ⟨rfl,rfl⟩)⟩,rfl⟩
      case measure=>simp[intOf]
    ·-- round 1
     have aj8:l.length<=1000000:=by rw[hla];exact ha
     have HLA:=ay hla;clear hla
     have hsc:wr.cell? ⟨sb,1,none⟩=some (.slice a2 b.length c2):=by rw[bg ((hbl.block sb hsl).trans HS.out)];rfl
     have ht:=H2.out.below hbl;have Fx:=hbl.size
     cases a2 with
     | none =>
      obtain rfl:=ht.2 _ _ rfl
      have hl0:b.length=0:=by
       obtain⟨ao,cap,hv,_,hc⟩:=ht.slice
       rcases Nat.eq_zero_or_pos b.length with q|q
       ·exact q
       ·obtain⟨b,off,e,_⟩:=hc q
        simp only[Value.slice.injEq] at hv;rw[<- hv.1] at e;cases e
      have he:=List.eq_nil_of_length_eq_zero hl0;rw[hl0] at hsc;have HW:=ay hown;have HE:=ay he;clear ht hown he hl0 H1 H2;go_wp2_with (at_builtin;refine wpList_append_own_none rfl _ _ 35 rfl w0.heap.size 9 i0 1 Tryz.underlying35 hi _ l.length _ rfl HW.out rfl ?_)
      go_roundw
      case rel =>
       repeat apply Exists.intro
       exact⟨⟨_,_,_,rfl,HW.out,hbl,.inr (.inr ⟨rfl,by rw[HE.out,List.append_nil,HLA.out]⟩)⟩,rfl⟩
      case measure=>simp[intOf]
     | some ad =>
      have hnews:=ht.news;have HW:=ay hown;clear ht H1 H2;go_wp2_with (at_builtin;refine wpList_append_own _ rfl _ _ 35 rfl w0.heap.size 9 i0 _ 1 16 Tryz.underlying35 hi hz0 hz1 hz2 rfl (by decide) _ l.length _ rfl HW.out ad b.length c2 (b.map encStr) rfl ?q1 hnews (VN _) ?q2 ?q3 Fx ?_)
      case q1=>simp
      case q2=>unfold maxLen;first|omega|(simp only[iF];omega)
      case q3=>first|omega|(simp only[iF];omega)
      intro v' w' hown' hgrow hiff;have hb':=hbl.grown hgrow Fx (λb q=>(HW.out.lt b q).1);have HO':=ay (J8.app (l:=l) (a:=b) hown');obtain⟨M0,M4,rfl⟩:=HO'.out.slice;clear hown' hgrow hiff hown HW hnews;go_wp2
      go_roundw
      case rel =>
       repeat apply Exists.intro
       exact⟨⟨_,_,_,rfl,HO'.out,hb',.inr (.inr ⟨rfl,by rw[HLA.out]⟩)⟩,rfl⟩
      case measure=>simp[intOf]
    ·have HW:=ay hown
     clear hown H1 H2;go_wp2;go_ret;exact⟨_,rfl,HW.out,hbl⟩
theorem afT {b:Nat}{u:Value}(h:w.heap[b]?=some (.cells #[v] 107 (0,0))):(w.setCell ⟨b,0,none⟩ u).cell? ⟨b,0,none⟩=some u:=by
 have:=kG w b 0 _ _ u h;rw[bg this];rfl
theorem Jb (P:Nat->Prop)(ao:Option Addr)(c:Nat)(v2:Value)(a b:List aH)(w:World)(h1:gQ P w (.slice ao a.length c) a)(h2:gQ P w v2 b)(ha:a.length<=500000)(hb:b.length<=500000) :
  Calls Tryz.prog 55 #[.agg #[.slice ao a.length c],v2] w (VH (gB (a++b)) w):=by
 obtain⟨a2,c2,rfl,-,-⟩:=h2.slice;have hal:=(aB w (.cells #[.slice ao a.length c] 107)).alloc (by simp) (.cells #[.slice none 0 0] 107);have hN:=(iB (w.alloc (.cells #[.slice ao a.length c] 107)) (.cells #[.slice none 0 0] 107) w.heap.size (by simp)).trans (aZ w (.cells #[.slice ao a.length c] 107));have hR:=aZ (w.alloc (.cells #[.slice ao a.length c] 107)) (.cells #[.slice none 0 0] 107);rw[oU] at hR;have HC:=ay (λW (hW:Below w.heap.size w W)=>Ut P (.slice ao a.length c) (.slice a2 b.length c2) a b W.heap.size (W.alloc (.cells #[.slice ao a.length c,.slice a2 b.length c2] 35)) ((h1.below hW).below (aB W _)) ((h2.below hW).below (aB W _)) (aZ W _) (by omega) (by omega))
 have hlen:(a++b).length<=1000000:=by rw[bQ];omega
 clear h1 h2;go_enter Tryz.func55,Tryz.ntmps55
 go_upto_region 1 with fail
 change Code.wp _ _ _ _ ((w.alloc (.cells #[.slice ao a.length c] 107)).alloc (.cells #[.slice none 0 0] 107));generalize (w.alloc _).alloc _=w1 at hal hN hR |-;have hlR:=(bU hR).1;have c0:=(bP hN).1;have hz1:=hal.size;have Gh:=ay (HC.out w1 hal);clear HC hN;go_wp2_with (first|(go_at_call 89;refine Gh.out.mono ?_;rintro e w2 ⟨v,rfl,hown,hb2⟩;have EU:=(aB w1 (.cells #[.slice ao a.length c,.slice a2 b.length c2] 35)).trans (hb2.mono (by simp));have hz2:=EU.size;have HOF:=ay (afN (λ_=>True) v (a++b) w2 (gQ.owns hown (λ_ _=>trivial)) hlen))|(go_at_call 88;refine HOF.out.mono ?_;rintro e w3 ⟨ar,cr,rfl,htx,hb3⟩;have xC:=EU.trans (hb3.mono hz2);have hR3:=(xC.block _ hlR).trans hR;have hfz:=(bP hR3).2;have hc0:=(bP hR3).1));have hs0:=afT (u:=.slice ar (gB (a++b)).length cr) hR3;have hbw:Below w.heap.size w (w3.setCell ⟨w.heap.size+1,0,none⟩ (.slice ar (gB (a++b)).length cr)):=(hal.trans (xC.mono hz1)).setCell (by show w.heap.size<=w.heap.size+1;omega) _
 have afO:gQ (λb=>w.heap.size<=b) (w3.setCell ⟨w.heap.size+1,0,none⟩ (.slice ar (gB (a++b)).length cr)) (.slice ar (gB (a++b)).length cr) (gB (a++b)):=(htx.frame (bA.set _ λk hk=>by show k≠w.heap.size+1;omega)).imp λk hk _=>by omega
 exact o9 (v:=.agg #[.slice ar (gB (a++b)).length cr]) (by simp[results,Tryz.results55,go_sem,hs0]) rfl ⟨_,_,rfl,afO,hbw⟩
open Go.RowKit Go Go.Sort
