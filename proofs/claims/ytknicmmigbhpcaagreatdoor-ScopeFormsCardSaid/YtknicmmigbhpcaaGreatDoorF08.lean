/- Walks and plain laws: ParseW6, BagW1, BagW2, MapS1. -/
import Derived.Test.YtknicmmigbhpcaaGreatDoorF07
import Derived.Lib.OwnBridge
import Derived.Sort.OwnSorted
import Derived.Sort.Walk0
set_option maxHeartbeats 16000000
set_option maxRecDepth 100000
set_option linter.unusedVariables false
set_option linter.unusedSimpArgs false
namespace Go.Proofs.YtknicmmigbhpcaaGreatDoor
open Go.RowKit
theorem aj (w:World)(o:Obj):Below w.heap.size w (w.alloc o):=(Below.refl _ _).alloc (Nat.le_refl _) o
def qO (E:aW)(st:aB)(b:Bool)(w:World)(e:Ending)(w':World):Prop:=e=.returned (.bool b)∧PW E st w'∧Kp E.B w w'
theorem Kq (w:World)(b:ByteArray):kF (w.alloc (.cells #[.string b] 9)) (.slice (some ⟨w.heap.size,0,none⟩) 1 1) [b.data.toList]:=by
 refine⟨w.heap.size,0,1,rfl,by simp,fun j hj=>?_⟩
 obtain rfl:j=0:=by simpa using hj
 rw[Lib.cell_of_heap (heap_alloc_new _ _)]
 have:ByteArray.mk b.data.toList.toArray=b:=by cases b;simp
 simp[this]
theorem Kr (w:World)(b c:ByteArray):kF (w.alloc (.cells #[.string b,.string c] 9)) (.slice (some ⟨w.heap.size,0,none⟩) 2 2) [b.data.toList,c.data.toList]:=by
 refine⟨w.heap.size,0,2,rfl,by simp,fun j hj=>?_⟩
 have h1:ByteArray.mk b.data.toList.toArray=b:=by cases b;simp
 have h2:ByteArray.mk c.data.toList.toArray=c:=by cases c;simp
 rw[Lib.cell_of_heap (heap_alloc_new _ _)]
 match j,hj with
 | 0,_=>simp[h1]
 | 1,_=>simp[h2]
theorem tV (E:aW)(hE:E.ok)(b:ByteArray)(st:aB)(w:World)(h:PW E st w) :
  Calls Tryz.prog 165 #[.pointer (some ⟨E.pb,0,none⟩),.slice (some ⟨w.heap.size,0,none⟩) 1 1] (w.alloc (.cells #[.string b] 9)) (qO E st (aV E.toks st [b.data.toList]) w):=by
 have hA:=h.later (aj w (.cells #[.string b] 9));refine(tT E _ _ st _ hA (Kq w b) hE.1 hE.2.1 (by simp)).mono ?_;rintro e w' ⟨rfl,hb⟩;exact⟨rfl,hA.later hb,(Kp.of (aj w _) h.dX).trans (Kp.of hb hA.dX)⟩
theorem Vs (E:aW)(hE:E.ok)(b c:ByteArray)(st:aB)(w:World)(h:PW E st w) :
  Calls Tryz.prog 165 #[.pointer (some ⟨E.pb,0,none⟩),.slice (some ⟨w.heap.size,0,none⟩) 2 2] (w.alloc (.cells #[.string b,.string c] 9)) (qO E st (aV E.toks st [b.data.toList,c.data.toList]) w):=by
 have hA:=h.later (aj w (.cells #[.string b,.string c] 9));refine(tT E _ _ st _ hA (Kr w b c) hE.1 hE.2.1 (by simp)).mono ?_;rintro e w' ⟨rfl,hb⟩;exact⟨rfl,hA.later hb,(Kp.of (aj w _) h.dX).trans (Kp.of hb hA.dX)⟩
theorem dN (E:aW)(hE:E.ok)(b:ByteArray)(st:aB)(w:World)(h:PW E st w)(hn:st.nodes.length+1≤1099511627776) :
  Calls Tryz.prog 168 #[.pointer (some ⟨E.pb,0,none⟩),.slice (some ⟨w.heap.size,0,none⟩) 1 1] (w.alloc (.cells #[.string b] 9)) (dL E (aA E.toks [b.data.toList] st) w):=by
 have hA:=h.later (aj w (.cells #[.string b] 9));refine(Ko E hE _ _ st _ hA (Kq w b) (by simp) hn).mono ?_;rintro e w' ⟨rfl,hp,hk⟩;exact⟨rfl,hp,(Kp.of (aj w _) h.dX).trans hk⟩
theorem Ch (w:World)(ks:List Int):dS (w.alloc (.cells (ks.map (Value.int .i64)).toArray 3)) (.slice (some ⟨w.heap.size,0,none⟩) ks.length ks.length) ks:=by
 refine⟨some ⟨w.heap.size,0,none⟩,ks.length,rfl,Nat.le_refl _,fun _=>⟨w.heap.size,0,_,_,rfl,heap_alloc_new _ _,fun j hj=>?_⟩⟩;simp[hj]
theorem iE (E:aW)(kind:Int)(ks:List Int)(n:Nat)(cs:Array Value)(st:aB)(w:World)(h:PW E st w)(hn:ks.length=n)(hc:(ks.map (Value.int .i64)).toArray=cs)(hk:n≤1000)(hl:st.nodes.length+1≤1099511627776) :
  Calls Tryz.prog 106 #[.pointer (some ⟨E.pb,0,none⟩),.int .i64 kind,.slice (some ⟨w.heap.size,0,none⟩) n n] (w.alloc (.cells cs 3)) (dL E (bg kind ks st) w):=by
 subst hn hc;have hA:=h.later (aj w (.cells (ks.map (Value.int .i64)).toArray 3));refine(jW E kind _ ks st _ hA (Ch w ks) (by omega) hl).mono ?_;rintro e w' ⟨rfl,hp,hk⟩;exact⟨rfl,hp,(Kp.of (aj w _) h.dX).trans hk⟩
def mI (E:aW)(r:Int × aB)(w:World):Task→Prop
 | .expr nest=>Calls Tryz.prog 172 #[.pointer (some ⟨E.pb,0,none⟩),.int .i64 nest] w (dL E r w)
 | .formula nest=>Calls Tryz.prog 234 #[.pointer (some ⟨E.pb,0,none⟩),.int .i64 nest] w (dL E r w)
 | .part l nest=>Calls Tryz.prog 298 #[.pointer (some ⟨E.pb,0,none⟩),.int .i64 l,.int .i64 nest] w (dL E r w)
 | .row l nest=>Calls Tryz.prog 277 #[.pointer (some ⟨E.pb,0,none⟩),.int .i64 l,.int .i64 nest] w (dL E r w)
 | .neg nest=>Calls Tryz.prog 310 #[.pointer (some ⟨E.pb,0,none⟩),.int .i64 nest] w (dL E r w)
 | .factor nest=>Calls Tryz.prog 311 #[.pointer (some ⟨E.pb,0,none⟩),.int .i64 nest] w (dL E r w)
 | .atom nest=>Calls Tryz.prog 318 #[.pointer (some ⟨E.pb,0,none⟩),.int .i64 nest] w (dL E r w)
 | .name nest=>Calls Tryz.prog 323 #[.pointer (some ⟨E.pb,0,none⟩),.int .i64 nest] w (dL E r w)
 | .loop _ _ _=>True
def wF (E:aW):Task→Prop
 | .expr nest=>nest≤E.depth+1
 | .formula nest=>nest≤E.depth
 | .part l nest=>l≤4∧nest≤E.depth
 | .row l nest=>l≤4∧nest≤E.depth
 | .neg nest=>nest≤E.depth
 | .factor nest=>nest≤E.depth
 | .atom nest=>nest≤E.depth
 | .name nest=>nest≤E.depth
 | .loop l nest _=>l≤4∧nest≤E.depth
def AX (E:aW)(g:Nat):Prop:=∀ (t:Task) (st:aB) (r:Int × aB) (w:World),run E.toks E.depth g t st=some r→PW E st w→r.2.nodes.length+1≤1099511627776→wF E t→mI E r w t
end Go.Proofs.YtknicmmigbhpcaaGreatDoor

namespace Go.Proofs.YtknicmmigbhpcaaGreatDoor
open Go.RowKit Go Go.Sort
def fM (P:Nat→Prop)(w:World)(v:Value)(l:List (List UInt8)):Prop:=mo P w v 1 l.length (l.map encStr)∧∀ n c,v=.slice none n c→c=0
theorem fM.clip {P:Nat→Prop}{w:World}{ao:Option Addr}{n c:Nat}{l:List (List UInt8)}(h:fM P w (.slice ao n c) l):n=l.length∧fM P w (.slice ao l.length l.length) l:=by
 obtain⟨⟨ao',cap,hv,h1,h2,h3⟩,h4⟩:=h;simp only[Value.slice.injEq] at hv;obtain⟨rfl,rfl,rfl⟩:=hv;refine⟨rfl,⟨ao,l.length,rfl,Nat.le_refl _,h2,h3⟩,fun n' c' q=>?_⟩;simp only[Value.slice.injEq] at q;obtain⟨q1,-,rfl⟩:=q
 rcases Nat.eq_zero_or_pos l.length with q|q
 ·exact q
 ·obtain⟨b,off,q2,_⟩:=h3 (by simpa using q)
  rw[q1] at q2;cases q2
theorem fM.slice {P:Nat→Prop}{w:World}{v:Value}{l:List (List UInt8)}(h:fM P w v l):∃ ao cap,v=.slice ao l.length cap∧l.length≤cap∧(0<l.length→∃ b off,ao=some ⟨b,off,none⟩∧P b∧b<w.heap.size∧∀ i,(hi:i<l.length)→w.cell? ⟨b,off+i,none⟩=some (.string ⟨l[i].toArray⟩)):=by
 obtain⟨ao,cap,hv,h1,h2,h3⟩:=h.1;refine⟨ao,cap,hv,h1,fun h0=>?_⟩;obtain⟨b,off,q1,q2,q3,q4⟩:=h3 (by simpa using h0);refine⟨b,off,q1,q2,q3,fun i hi=>?_⟩;have:=q4 i (by simpa using hi);simp only[List.getElem_map] at this;exact this
theorem fM.frame {P:Nat→Prop}{w w':World}{v:Value}{l:List (List UInt8)}(h:fM P w v l)(ha:aT P w w'):fM P w' v l:=⟨mo.frame h.1 ha,h.2⟩
theorem fM.imp {P Q:Nat→Prop}{w:World}{v:Value}{l:List (List UInt8)}(h:fM P w v l)(hq:∀ b,P b→b<w.heap.size→Q b):fM Q w v l:=⟨mo.imp h.1 hq,h.2⟩
theorem fM.below {P:Nat→Prop}{w w':World}{v:Value}{l:List (List UInt8)}(h:fM P w v l)(hb:Below w.heap.size w w'):fM P w' v l:=h.frame (aT.of hb)
theorem fM.nil (P:Nat→Prop)(w:World):fM P w (.slice none 0 0) []:=⟨mo.nil P w 1,fun n c q=>by injection q with _ _ q;exact q.symm⟩
theorem fM.owns {P:Nat→Prop}{B:Nat}{w:World}{e:TypeId}{v:Value}{l:List (List UInt8)}(h:w.ownsRow B e 1 v l.length (l.map encStr))(hP:∀ b,B≤b→P b):fM P w v l:=by
 refine⟨mo.eP h hP,fun n c q=>?_⟩
 rcases h.2 with ⟨h3,_⟩|⟨g,cap,cur,h3,_⟩
 ·rw[q] at h3;injection h3
 ·rw[q] at h3;injection h3 with h3;cases h3
def NT (l:List (List UInt8))(w:World)(e:Ending)(w':World):Prop:=∃ v',e=.returned v'∧w'.ownsRow w.heap.size 9 1 v' l.length (l.map encStr)∧Below w.heap.size w w'
theorem NU (P:Nat→Prop)(v:Value)(l:List (List UInt8))(w:World)(h:fM P w v l)(hl:l.length≤1000000):Calls Tryz.prog 153 #[v] w (NT l w):=by
 obtain⟨ao,cap,rfl,hcap,hc⟩:=h.slice
 rcases Nat.eq_zero_or_pos l.length with h0|h0
 ·obtain rfl:=List.eq_nil_of_length_eq_zero h0
  cases ao with
  | none=>exact(Tryz.slices_Clone_string_nil 0 cap w).mono fun e w' q=>⟨_,q.1,World.ownsRow_nil _ _ _ _,by rw[q.2];exact Below.refl _ _⟩
  | some a=>exact(Tryz.slices_Clone_string_zero a cap w).mono fun e w' ⟨v',q1,q2,_,q3⟩=>⟨v',q1,q2,q3⟩
 ·obtain⟨b,off,rfl,_,_,hcell⟩:=hc h0
  refine(Tryz.slices_Clone_string b off l.length cap (l.map fun s=>⟨s.toArray⟩) w (by simp) (by omega) (fun j hj=>?_)).mono fun e w' ⟨v',q1,q2,_,q3⟩=>⟨v',q1,?_,q3⟩
  ·have hj':j<l.length:=by simpa using hj
   rw[hcell j hj'];simp[List.getD_eq_getElem?_getD,hj']
  ·rw[List.take_of_length_le (by simp),List.map_map] at q2
   exact q2
theorem Kt (a:Option Addr)(n c:Nat)(w:World)(h:n≤c)(hc:c≤9223372036854775807)(h0:a=none→n=0):Calls Tryz.prog 155 #[.slice a n c] w fun e w'=>e=.returned (.slice a n n)∧w'=w:=by
 have h1:(n:Int)≤(c:Int):=by omega
 have h2:(0:Int)≤(n:Int):=by omega
 cases a with
 | none =>
  obtain rfl:=h0 rfl;clear h0;go_enter Tryz.func155,Tryz.ntmps155;go_wp2;go_ret;exact⟨rfl,rfl⟩
 | some a =>
  clear h0;go_enter Tryz.func155,Tryz.ntmps155;go_wp2;go_ret;exact⟨rfl,rfl⟩
def QA (l:List (List UInt8))(w:World)(e:Ending)(w':World):Prop:=∃ ao c,e=.returned (.agg #[.slice ao l.length c])∧fM (fun b=>w.heap.size≤b) w' (.slice ao l.length c) l∧Below w.heap.size w w'
theorem Vt {w w1:World}{B g cap n nn q:Nat}{os:Array Obj}{ss:List (List UInt8)}(hown:w1.ownsRow B 9 1 (.slice (some ⟨g,0,none⟩) n cap) n (ss.map encStr))(hbel:Below B w w1)(hbg:B≤g)(hBw:B≤w.heap.size)(hlen:ss.length=n) :
  (putRow encStr (Sort.ahead (grow (putRow encStr (Sort.ahead w1 nn) g 0 (fP ss).toArray) os) q) g 0 (Lib.compact (fP ss)++List.replicate (n - (Lib.compact (fP ss)).length) []).toArray).ownsRow B 9 1 (.slice (some ⟨g,0,none⟩) (fF ss).length cap) (fF ss).length ((fF ss).map encStr) ∧
  Below B w (putRow encStr (Sort.ahead (grow (putRow encStr (Sort.ahead w1 nn) g 0 (fP ss).toArray) os) q) g 0 (Lib.compact (fP ss)++List.replicate (n - (Lib.compact (fP ss)).length) []).toArray):=by
 have hl2:(fP ss).length=ss.length:=ou ss;have hle:=Lib.compact_length_le (fP ss);subst hlen
 rcases hown.2 with ⟨h0,_⟩|⟨g',cap',cur,hv,hbase,hb,h1,h2,h3,h4⟩
 ·cases h0
 cases hv;have hs:=ownsRow_sorted (n:=nn) (os:=os) (ts:=fP ss) hl2 hbase hb h1 h2 h3;have hc:=Lib.ownsRow_putRow (q:=q) (k:=(Lib.compact (fP ss)).length) (ys:=Lib.compact (fP ss)++List.replicate (ss.length - (Lib.compact (fP ss)).length) []) hs (by simp;omega) (by omega);rw[List.take_left] at hc;exact⟨hc,Lib.below_putRow (hbel.grown (grownBy_sorted _) (Nat.le_trans hBw hbel.size) (fun j hj=>by cases hj;exact hbase)) hbg⟩
theorem aa2 (P:Nat→Prop)(v:Value)(l:List (List UInt8))(w:World)(h:fM P w v l)(hl:l.length≤1000000):Calls Tryz.prog 93 #[v] w (QA (fF l) w):=by
 have hal:=aj w (.cells #[.slice none 0 0] 114);have hN:=heap_alloc_new w (.cells #[.slice none 0 0] 114);have HC:=ah (fun W (hW:Below w.heap.size w W)=>NU P v l W (h.below hW) hl);clear h;go_enter Tryz.func93,Tryz.ntmps93
 go_upto_region 1 with fail
 change Code.wp _ _ _ _ (w.alloc (.cells #[.slice none 0 0] 114));generalize w.alloc _=w1 at hal hN ⊢;have hl1:=(bQ hN).1
 go_upto_region 2 with (go_at_call 153;refine(HC.out _ hal).mono ?_;rintro e w2 ⟨v',rfl,hown,hb2⟩)
 have hz1:=hal.size;have hz2:=hb2.size;have Jw:=(hb2.block w.heap.size hl1).trans hN
 by_cases hv:v'=.slice none 0 0
 ·subst hv
  have hl0:l=[]:=by
   rcases hown.2 with ⟨_,q⟩|⟨g,cap,cur,hv,_⟩
   ·exact List.eq_nil_of_length_eq_zero q
   ·cases hv
  subst hl0
  have hfz:w2.frozen? ⟨w.heap.size,0,none⟩=false:=by simp[World.frozen?,Jw]
  have hc0:w2.cell? ⟨w.heap.size,0,none⟩=some (.slice none 0 0):=by rw[Lib.cell_of_heap Jw];rfl
  have hbw:Below w.heap.size w (w2.setCell ⟨w.heap.size,0,none⟩ (.slice none 0 0)):=(hal.trans (hb2.mono hz1)).setCell (Nat.le_refl _) _
  have hs0:(w2.setCell ⟨w.heap.size,0,none⟩ (.slice none 0 0)).cell? ⟨w.heap.size,0,none⟩=some (.slice none 0 0):=by
   have:=heap_setCell_same w2 w.heap.size 0 _ _ (.slice none 0 0) Jw;rw[Lib.cell_of_heap this];rfl
  clear hN Jw hown HC hal hb2;go_wp2_with (first|(go_at_call 154;refine(Tryz.slices_Sort_string_none none 0 _).mono ?_;rintro e w' ⟨rfl,rfl⟩)|(go_at_call 156;refine(Tryz.slices_Compact_string_empty none 0 _).mono ?_;rintro e w' ⟨rfl,rfl⟩)|(go_at_call 155;refine(Kt none 0 0 _ (by omega) (by omega) (fun _=>rfl)).mono ?_;rintro e w' ⟨rfl,rfl⟩));refine bodyPost_ret (v:=.agg #[.slice none 0 0]) (by simp[results,Tryz.results93,go_sem,hs0]) rfl ⟨none,0,by rw[JG];rfl,by rw[JG];exact fM.nil _ _,hbw⟩
 ·obtain⟨g,cap,rfl,hbg,hgl,afu,hcm,hlen,hH⟩:=Lib.holds_of_ownsRow hown hv
  have hlen':l.length=l.length:=rfl;have HS:=ah (Tryz.slices_Sort_string g 0 cap l w2 hH hgl (by omega))
  have HCP:Hid (∀ nn os,Calls Tryz.prog 156 #[.slice (some ⟨g,0,none⟩) l.length cap] (grow (putRow encStr (Sort.ahead w2 nn) g 0 (fP l).toArray) os) fun e w'=>e=.returned (.slice (some ⟨g,0,none⟩) (fF l).length cap)∧∃ q,w'=putRow encStr (Sort.ahead (grow (putRow encStr (Sort.ahead w2 nn) g 0 (fP l).toArray) os) q) g 0 (Lib.compact (fP l)++List.replicate (l.length - (Lib.compact (fP l)).length) []).toArray):=ah fun nn os=>by
   have hH2:Holds encStr (grow (putRow encStr (Sort.ahead w2 nn) g 0 (fP l).toArray) os) g 0 (fP l).toArray :=
    holds_grow encStr _ os g 0 _ (by simpa [putRow,mapBlock,Sort.ahead] using hgl) (holds_putRow encStr _ g 0 _ _ (holds_ahead encStr w2 nn g 0 _ hH) (by simp[ou]))
   have:=Tryz.slices_Compact_string g 0 cap (fP l) _ hH2 (by rw[ou];omega) (by rw[ou];omega);rw[ou] at this;exact this
  have hsl:=qD l
  have hcp:cap≤9223372036854775807:=by unfold maxLen at hcm;omega
  have HOWN:=ah hown;have hN1:=hN;clear hown hH HC hN Jw hv
  go_upto_region 3 with (go_at_call 154;refine HS.out.mono ?_;rintro e w3 ⟨rfl,nn,os,rfl⟩)
  have zi:=ah (HCP.out nn os)
  have HF:Hid (∀ q,(putRow encStr (Sort.ahead (grow (putRow encStr (Sort.ahead w2 nn) g 0 (fP l).toArray) os) q) g 0 (Lib.compact (fP l)++List.replicate (l.length - (Lib.compact (fP l)).length) []).toArray).ownsRow w1.heap.size 9 1 (.slice (some ⟨g,0,none⟩) (fF l).length cap) (fF l).length ((fF l).map encStr)∧Below w1.heap.size w1 (putRow encStr (Sort.ahead (grow (putRow encStr (Sort.ahead w2 nn) g 0 (fP l).toArray) os) q) g 0 (Lib.compact (fP l)++List.replicate (l.length - (Lib.compact (fP l)).length) []).toArray)):=ah fun q=>Vt (nn:=nn) (q:=q) (os:=os) HOWN.out hb2 hbg (Nat.le_refl _) rfl
  clear HCP HS;change Code.wp _ _ _ _ (grow (putRow encStr (Sort.ahead w2 nn) g 0 (fP l).toArray) os);generalize grow (putRow encStr (Sort.ahead w2 nn) g 0 (fP l).toArray) os=w3 at zi HF ⊢;have NV:=ah (fun W=>Kt (some ⟨g,0,none⟩) (fF l).length cap W (by omega) hcp (fun q=>by cases q));go_wp2_with (first|(go_at_call 156;refine zi.out.mono ?_;rintro e w4 ⟨rfl,q,rfl⟩;have hF:=HF.out q;clear zi HF;generalize putRow encStr _ _ _ _=w4 at hF ⊢;have Zd:=(hF.2.block w.heap.size hl1).trans hN1;have hfz:w4.frozen? ⟨w.heap.size,0,none⟩=false:=(by simp[World.frozen?,Zd]);have hc0:w4.cell? ⟨w.heap.size,0,none⟩=some (.slice none 0 0):=(by rw[Lib.cell_of_heap Zd];rfl))|(go_at_call 155;refine(NV.out _).mono ?_;rintro e w' ⟨rfl,rfl⟩))
  have hs0:(w'.setCell ⟨w.heap.size,0,none⟩ (.slice (some ⟨g,0,none⟩) (fF l).length (fF l).length)).cell? ⟨w.heap.size,0,none⟩=some (.slice (some ⟨g,0,none⟩) (fF l).length (fF l).length):=by
   have:=heap_setCell_same w' w.heap.size 0 _ _ (.slice (some ⟨g,0,none⟩) (fF l).length (fF l).length) Zd;rw[Lib.cell_of_heap this];rfl
  have hbw:Below w.heap.size w (w'.setCell ⟨w.heap.size,0,none⟩ (.slice (some ⟨g,0,none⟩) (fF l).length (fF l).length)):=(hal.trans (hF.2.mono hz1)).setCell (Nat.le_refl _) _;have htx:fM (fun b=>w1.heap.size≤b) w' (.slice (some ⟨g,0,none⟩) (fF l).length cap) (fF l):=fM.owns hF.1 (fun _ hb=>hb)
  have aa3:fM (fun b=>w.heap.size≤b) (w'.setCell ⟨w.heap.size,0,none⟩ (.slice (some ⟨g,0,none⟩) (fF l).length (fF l).length)) (.slice (some ⟨g,0,none⟩) (fF l).length (fF l).length) (fF l):=(htx.clip.2.frame (aT.set _ fun b hb=>by show b≠w.heap.size;omega)).imp fun b hb _=>by omega
  exact bodyPost_ret (v:=.agg #[.slice (some ⟨g,0,none⟩) (fF l).length (fF l).length]) (by simp[results,Tryz.results93,go_sem,hs0]) rfl ⟨_,_,rfl,aa3,hbw⟩
def Ai (l:List (List UInt8))(x:ByteArray)(j:Nat):ByteArray:=if h:j<l.length then ⟨l[j].toArray⟩ else x
theorem wG (l:List (List UInt8))(x:ByteArray)(j:Nat):(Ai l x j).data.toList=if h:j<l.length then l[j] else x.data.toList:=by
 unfold Ai
 split<;>rfl
theorem Ze (l:List (List UInt8))(x:List UInt8):∀ t,t<(l.takeWhile fun y=>decide (y<x)).length→∀ (h:t<l.length),l[t]<x:=fun t ht h2=>by
 have h1:(l.takeWhile fun y=>decide (y<x))[t]=l[t]:=List.IsPrefix.getElem (List.takeWhile_prefix _) ht;have h3:=List.all_takeWhile (l:=l) (p:=fun y=>decide (y<x));have h4:=List.all_eq_true.1 h3 _ (List.getElem_mem ht);rw[h1] at h4
 simpa using h4
theorem FN (x:List UInt8):∀ (l:List (List UInt8)) (h:(l.takeWhile fun y=>decide (y<x)).length<l.length),¬ l[(l.takeWhile fun y=>decide (y<x)).length]<x
 | [],h=>absurd h (by simp)
 | y :: l,h=>by
  by_cases q:y<x
  ·have e:((y :: l).takeWhile fun y=>decide (y<x))=y :: (l.takeWhile fun y=>decide (y<x)):=List.takeWhile_cons_of_pos (by simpa using q)
   have h2:(l.takeWhile fun y=>decide (y<x)).length<l.length:=by
    rw[e] at h
    simpa using h
   have ih:=FN x l h2
   have:∀ n,(hn:n<(y :: l).length)→n=(l.takeWhile fun y=>decide (y<x)).length+1→¬ (y :: l)[n]<x:=by
    rintro n hn rfl;exact ih
   exact this _ h (by rw[e];rfl)
  ·have e:((y :: l).takeWhile fun y=>decide (y<x))=[]:=List.takeWhile_cons_of_neg (by simpa using q)
   have:∀ n,(hn:n<(y :: l).length)→n=0→¬ (y :: l)[n]<x:=by
    rintro n hn rfl;exact q
   exact this _ h (by rw[e];rfl)
theorem NW (l:List (List UInt8))(x:ByteArray)(hl:l.Pairwise (· < ·)):decide (Lib.bsGo (fun t=>Op.bytesLess (Ai l x t).toList x.toList) l.length 0 l.length<l.length∧Ai l x (Lib.bsGo (fun t=>Op.bytesLess (Ai l x t).toList x.toList) l.length 0 l.length)=x)=decide (x.data.toList∈l):=by
 simp only[Lib.toList_data,Go.Proofs.bytesLess_eq,wG];have hA:=Ze l x.data.toList;have hB:=FN x.data.toList l;have hC:=(List.takeWhile_prefix (l:=l) (fun y=>decide (y<x.data.toList))).length_le;generalize (l.takeWhile fun y=>decide (y<x.data.toList)).length=k at hA hB hC
 have hk:=Lib.bsGo_spec (fun t=>decide ((if h:t<l.length then l[t] else x.data.toList)<x.data.toList)) k (fun t ht=>by
   have htl:t<l.length:=by omega
   rw[dif_pos htl]
   exact decide_eq_true (hA t ht htl)) (fun t ht=>by
   by_cases htl:t<l.length
   ·rw[dif_pos htl]
    refine decide_eq_false fun q=>?_
    by_cases e:t=k
    ·subst e;exact hB htl q
    ·exact hB (by omega) (List.lt_trans (List.pairwise_iff_getElem.1 hl k t (by omega) htl (by omega)) q)
   ·rw[dif_neg htl]
    exact decide_eq_false (List.lt_irrefl _)) l.length 0 l.length (by omega) (by omega) hC
 rw[hk]
 congr 1
 apply propext
 constructor
 ·rintro⟨h1,h2⟩
  have h3:=congrArg (fun b:ByteArray=>b.data.toList) h2;simp only[wG] at h3;rw[dif_pos h1] at h3;rw[← h3];exact List.getElem_mem h1
 ·intro h
  obtain⟨j,hj,e⟩:=List.getElem_of_mem h
  have hjk:k≤j:=by
   apply Classical.byContradiction
   intro q;have:=hA j (by omega) hj;rw[e] at this;exact List.lt_irrefl _ this
  have hkj:k=j:=by
   apply Classical.byContradiction
   intro q;refine hB (by omega) ?_;rw[← e];exact List.pairwise_iff_getElem.1 hl k j (by omega) hj (by omega)
  subst hkj;refine⟨hj,qG ?_⟩;rw[wG,dif_pos hj,e]
def Vu (l:List (List UInt8))(x:ByteArray)(w:World)(e:Ending)(w':World):Prop:=(∃ i:Int,e=.returned (.tuple #[.int .i64 i,.bool (decide (x.data.toList∈l))]))∧Below w.heap.size w w'
theorem Vv (P:Nat→Prop)(ao:Option Addr)(c:Nat)(l:List (List UInt8))(x:ByteArray)(w:World)(h:fM P w (.slice ao l.length c) l)(hr:l.Pairwise (· < ·))(hn:l.length≤1000000):Calls Tryz.prog 92 #[.slice ao l.length c,.string x] w (Vu l x w):=by
 obtain⟨ao',cap,hv,hcap,hc⟩:=h.slice;simp only[Value.slice.injEq] at hv;obtain⟨rfl,-,rfl⟩:=hv
 rcases Nat.eq_zero_or_pos l.length with h0|h0
 ·obtain rfl:=List.eq_nil_of_length_eq_zero h0
  refine(Any2.slices_BinarySearch_string_empty Tryz.BZ ao c x w).mono fun e w' q=>⟨⟨0,by rw[q.1];simp⟩,by rw[q.2];exact Below.refl _ _⟩
 ·obtain⟨b,off,rfl,_,_,hcell⟩:=hc h0
  refine(Any2.slices_BinarySearch_string Tryz.BZ b off l.length c (Ai l x) x w (by omega) (fun j hj=>by rw[hcell j hj,Ai,dif_pos hj])).mono fun e w' ⟨q1,n,q2⟩=>⟨⟨(Lib.bsGo (fun t=>Op.bytesLess (Ai l x t).toList x.toList) l.length 0 l.length:Nat),by rw[q1,NW l x hr]⟩,by rw[q2];exact⟨rfl,rfl,rfl,Nat.le_refl _,fun _ _=>rfl⟩⟩
theorem bA {w:World}{b:Nat}{v:Value}(h:w.heap[b]?=some (.cells #[v] 114 (0,0))):w.cell? ⟨b,0,none⟩=some v∧w.frozen? ⟨b,0,none⟩=false:=⟨by rw[Lib.cell_of_heap h];rfl,by simp[World.frozen?,h]⟩
def aa4 (l:List (List UInt8))(w:World)(e:Ending)(w':World):Prop:=∃ ao c,e=.returned (.slice ao l.length c)∧fM (fun b=>w.heap.size≤b) w' (.slice ao l.length c) l∧Below w.heap.size w w'
theorem NT.tx {l:List (List UInt8)}{w w':World}{e:Ending}(h:NT l w e w'):aa4 l w e w':=by
 obtain⟨v',h1,h2,h3⟩:=h;have h4:fM (fun b=>w.heap.size≤b) w' v' l:=fM.owns h2 (fun _ hb=>hb);obtain⟨ao,cap,rfl,_,_⟩:=h4.slice;exact⟨ao,cap,h1,h4,h3⟩
theorem Bn (P:Nat→Prop)(ao:Option Addr)(c:Nat)(l:List (List UInt8))(x:ByteArray)(w:World)(h:fM P w (.slice ao l.length c) l)(hr:l.Pairwise (· < ·))(hl:l.length≤1000000):Calls Tryz.prog 60 #[.agg #[.slice ao l.length c],.string x] w fun e w'=>e=.returned (.bool (decide (x.data.toList∈l)))∧Below w.heap.size w w':=by
 have hal:=aj w (.cells #[.slice ao l.length c] 114);have hN:=heap_alloc_new w (.cells #[.slice ao l.length c] 114);have HC:=ah (fun W (hW:Below w.heap.size w W)=>Vv P ao c l x W (h.below hW) hr hl);clear h hr;unfold Vu at HC;generalize decide (x.data.toList∈l)=r at *;go_enter Tryz.func60,Tryz.ntmps60
 go_upto_region 1 with fail
 change Code.wp _ _ _ _ (w.alloc (.cells #[.slice ao l.length c] 114));generalize w.alloc _=w1 at hal hN ⊢;have c0:=(bA hN).1;go_wp2_with (go_at_call 92;refine(HC.out _ hal).mono ?_;rintro e w2 ⟨⟨i,rfl⟩,hb2⟩);go_ret;exact⟨rfl,hal.trans (hb2.mono hal.size)⟩
end Go.Proofs.YtknicmmigbhpcaaGreatDoor

namespace Go.Proofs.YtknicmmigbhpcaaGreatDoor
open Go.RowKit Go
def zk (a b:List UInt8):Int:=if a<b then -1 else if b<a then 1 else 0
theorem Zf {a b:List UInt8}(h:a<b):zk a b=-1:=by unfold zk;rw[if_pos h]
theorem Zg {a b:List UInt8}(h:¬ a<b):0≤zk a b:=by
 unfold zk;rw[if_neg h]
 split<;>omega
theorem Zh {a b:List UInt8}(h:¬ a<b):decide (zk a b=0)=decide (a=b):=by
 unfold zk;rw[if_neg h]
 split
 ·rename_i h2
  rw[decide_eq_false (by omega),decide_eq_false (fun q=>by subst q;exact List.lt_irrefl _ h2)]
 ·rename_i h2
  rw[decide_eq_true rfl,decide_eq_true (oh (List.not_lt.1 h2) (List.not_lt.1 h))]
theorem Hu (x:ByteArray)(w:World):Calls Tryz.prog 217 #[.string x] w fun e w'=>e=.returned (.bool false)∧w'=w:=by
 go_enter Tryz.func217,Tryz.ntmps217;go_wp2;go_ret;exact⟨by simp,rfl⟩
theorem Ku (x y:ByteArray)(w:World):Calls Tryz.prog 139 #[.string x,.string y] w fun e w'=>e=.returned (.int .i64 (zk x.data.toList y.data.toList))∧w'=w:=by
 have h1:Op.bytesLess x.toList y.toList=decide (x.data.toList<y.data.toList):=by simp only[Lib.toList_data,Go.Proofs.bytesLess_eq]
 have h2:Op.bytesLess y.toList x.toList=decide (y.data.toList<x.data.toList):=by simp only[Lib.toList_data,Go.Proofs.bytesLess_eq]
 unfold zk
 by_cases a:x.data.toList<y.data.toList
 ·rw[if_pos a]
  rw[decide_eq_true a] at h1;clear h2 a;go_enter Tryz.func139,Tryz.ntmps139;go_wp2_with (go_at_call 217;refine(Hu _ _).mono ?_;rintro e w' ⟨rfl,rfl⟩);go_ret;exact⟨rfl,rfl⟩
 ·rw[if_neg a]
  rw[decide_eq_false a] at h1
  have h3:(x.toList == y.toList)=decide (x.data.toList=y.data.toList):=by rw[Bool.eq_iff_iff];simp only[Lib.toList_data,beq_iff_eq,decide_eq_true_eq]
  by_cases b:y.data.toList<x.data.toList
  ·rw[if_pos b]
   rw[decide_eq_false (fun q=>by rw[q] at b;exact List.lt_irrefl _ b)] at h3;clear a b h2;go_enter Tryz.func139,Tryz.ntmps139;go_wp2_with (go_at_call 217;refine(Hu _ _).mono ?_;rintro e w' ⟨rfl,rfl⟩);go_ret;exact⟨rfl,rfl⟩
  ·rw[if_neg b]
   rw[decide_eq_true (oh (List.not_lt.1 b) (List.not_lt.1 a))] at h3;clear a b h2;go_enter Tryz.func139,Tryz.ntmps139;go_wp2_with (go_at_call 217;refine(Hu _ _).mono ?_;rintro e w' ⟨rfl,rfl⟩);go_ret;exact⟨rfl,rfl⟩
theorem Zi {l:List Value}(h:l.length=4):∃ a b c d,l=[a,b,c,d]:=by
 match l,h with
 | [a,b,c,d],_=>exact⟨a,b,c,d,rfl⟩
theorem Kv {w:World}{b:Nat}{v0 v1 v2 v3 v4:Value}(h:w.heap[b]?=some (.cells #[v0,v1,v2,v3,v4] 170 (0,0))):w.cell? ⟨b,0,none⟩=some v0:=by rw[Lib.cell_of_heap h];rfl
theorem Tryz.NY:∀ args w,(callFunc 138 args).run Tryz.prog w=.ok (.enter 138 args) w:=Go.Proofs.enters_of Tryz.func138 (by kernel_rfl) rfl
theorem Kw (k x:List UInt8)(v1 v2 v3 v4:Value)(w:World) :
  Calls Tryz.prog 138 (#[.agg #[.string ⟨k.toArray⟩,v1,v2,v3,v4],.string ⟨x.toArray⟩]++#[]) w fun e w'=>e=.returned (.int .i64 (zk k x))∧Below w.heap.size w w':=by
 have hal:=aj w (.cells #[.string ⟨k.toArray⟩,v1,v2,v3,v4] 170);have hN:=heap_alloc_new w (.cells #[.string ⟨k.toArray⟩,v1,v2,v3,v4] 170);have HC:=ah (fun W=>Ku ⟨k.toArray⟩ ⟨x.toArray⟩ W);simp only at HC;show Calls Tryz.prog 138 #[.agg #[.string ⟨k.toArray⟩,v1,v2,v3,v4],.string ⟨x.toArray⟩] w _;generalize zk k x=c at *;go_enter Tryz.func138,Tryz.ntmps138
 go_upto_region 1 with fail
 change Code.wp _ _ _ _ (w.alloc (.cells #[.string ⟨k.toArray⟩,v1,v2,v3,v4] 170));generalize w.alloc _=w1 at hal hN ⊢;have c0:=Kv hN;go_wp2_with (go_at_call 139;refine(HC.out _).mono ?_;rintro e w2 ⟨rfl,rfl⟩);go_ret;exact⟨rfl,hal⟩
def Vw (w:World)(b off:Nat)(l:ML):Prop:=∀ i,(hi:i<l.length)→∀ j u,(bY l[i])[j]?=some u→w.cell? ⟨b,off+i * 5+j,none⟩=some u
theorem Vw.below {w w':World}{b off:Nat}{l:ML}(h:Vw w b off l)(hb:Below w.heap.size w w'):Vw w' b off l:=fun i hi j u hu=>cell_later hb (h i hi j u hu)
theorem Ky (ao:Option Addr)(cap:Nat)(l:ML)(x:List UInt8)(w:World)(hw:Ab 4 l)(h:0<l.length→∃ b off,ao=some ⟨b,off,none⟩∧Vw w b off l)(hn:l.length≤1000000) :
  Calls Tryz.prog 137 #[.slice ao l.length cap,.string ⟨x.toArray⟩,.func (.func 138) #[] #[]] w
   fun e w'=>e=.returned (.tuple #[.int .i64 (bE l x:Nat),.bool (pK l x)])∧Below w.heap.size w w':=by
 have HW:=ah hw;have HR:=ah h;have hpl:=qF l x;have HH:=ah (Bz hw x);have HI:=ah (fun t (ht:t<l.length)=>vY hw (x:=x) ht);generalize hp:bE l x=p at *;have HP:=ah hp;generalize pK l x=hs at *;have eg:=Tryz.NY;clear hw h hp;go_enter Tryz.func137,Tryz.ntmps137;go_wp2
 go_loopw [9,10] (fun s9 s10 wr=>∃ lo hi:Nat,s9=.int .i64 lo∧s10=.int .i64 hi∧lo≤p∧p≤hi∧hi≤l.length∧Below w.heap.size w wr) (fun s9 s10 _=>(intOf s10).toNat - (intOf s9).toNat)
 case atStart=>exact⟨0,l.length,rfl,rfl,Nat.zero_le _,hpl,Nat.le_refl _,Below.refl _ _⟩
 case round =>
  obtain⟨lo,hi,rfl,rfl,h1,h2,h3,hb⟩:=hrel;have hz:=hb.size
  by_cases hlt:lo<hi
  ·have hmid:(lo+hi) / 2<l.length:=by omega
   obtain⟨b,off,rfl,hrw⟩:=HR.out (by omega);have hc:=(hrw.below hb) ((lo+hi) / 2) hmid;obtain⟨v1,v2,v3,v4,hv⟩:=Zi (HW.out.wid _ (List.getElem_mem hmid));rw[bY,hv] at hc;have x0:=hc 0 _ rfl;have x1:=hc 1 _ rfl;have x2:=hc 2 _ rfl;have x3:=hc 3 _ rfl;have x4:=hc 4 _ rfl;rw[Nat.add_zero] at x0;have hiff:=HI.out _ hmid;generalize l[(lo+hi) / 2].1=k at x0 hiff;have HC:=ah (fun W=>Kw k x v1 v2 v3 v4 W);clear hc hv hrw
   by_cases hm:(lo+hi) / 2<p
   ·have hcv:=Zf (hiff.2 hm)
    rw[hcv] at HC;clear hcv hiff;go_wp2_with (go_at_fn 138;refine(HC.out _).mono ?_;rintro e w2 ⟨rfl,hb2⟩)
    go_roundw
    case rel=>exact⟨(lo+hi) / 2+1,hi,by rw[show ((lo:Int)+(hi:Int)) / 2+1=(((lo+hi) / 2+1:Nat):Int) by omega],rfl,by omega,h2,h3,hb.trans (hb2.mono hz)⟩
    case measure=>simp[intOf];omega
   ·have hcv:=Zg (fun q=>hm (hiff.1 q))
    generalize zk k x=c at HC hcv
    have hcI:¬ (c<0):=by omega
    clear hiff hcv;go_wp2_with (go_at_fn 138;refine(HC.out _).mono ?_;rintro e w2 ⟨rfl,hb2⟩)
    go_roundw
    case rel=>exact⟨lo,(lo+hi) / 2,rfl,by rw[show ((lo:Int)+(hi:Int)) / 2=(((lo+hi) / 2:Nat):Int) by omega],h1,by omega,by omega,hb.trans (hb2.mono hz)⟩
    case measure=>simp[intOf];omega
  ·obtain rfl:lo=hi:=by omega
   obtain rfl:lo=p:=by omega
   by_cases hn2:lo<l.length
   ·obtain⟨b,off,rfl,hrw⟩:=HR.out (by omega)
    have hc:=(hrw.below hb) lo hn2;obtain⟨v1,v2,v3,v4,hv⟩:=Zi (HW.out.wid _ (List.getElem_mem hn2));rw[bY,hv] at hc;have x0:=hc 0 _ rfl;have x1:=hc 1 _ rfl;have x2:=hc 2 _ rfl;have x3:=hc 3 _ rfl;have x4:=hc 4 _ rfl;rw[Nat.add_zero] at x0;have hiff:=HI.out _ hn2
    have hhs:hs=decide (l[lo].1=x):=by
     rw[HH.out]
     apply decide_eq_decide.2
     exact⟨fun ⟨_,q⟩=>q,fun q=>⟨hn2,q⟩⟩
    generalize l[lo].1=k at x0 hiff hhs;have hce:=Zh (fun q:k<x=>Nat.lt_irrefl _ (hiff.1 q));rw[← hhs] at hce;have HC:=ah (fun W=>Kw k x v1 v2 v3 v4 W);have HE:Hid (∀ c,zk k x=c→decide (c=0)=hs):=ah (fun c q=>by rw[← q];exact hce);generalize hcc:zk k x=c at HC;have hc0:=HE.out c hcc;clear hc hv hrw hiff hhs hce hcc HE
    have hnI:(lo:Int)<(l.length:Int):=by omega
    go_wp2_with (go_at_fn 138;refine(HC.out _).mono ?_;rintro e w2 ⟨rfl,hb2⟩);go_ret2;exact⟨by rw[← hc0];rfl,hb.trans (hb2.mono hz)⟩
   ·have hhs:hs=false:=by
     rw[HH.out];exact decide_eq_false (fun ⟨q,_⟩=>hn2 q)
    subst hhs
    have hnI:¬ (lo:Int)<(l.length:Int):=by omega
    go_wp2;go_ret2;exact⟨by simp,hb⟩
structure wH (B mb:Nat) (v:Value) (l:ML) (w:World):Prop where
 wf:Ab 4 l
 box:w.heap[mb]?=some (.cells #[v] 165 (0,0))
 own:w.ownsRow B 170 5 v l.length (jo l)
theorem wH.below {B mb:Nat}{v:Value}{l:ML}{w w':World}(h:wH B mb v l w)(hb:Below w.heap.size w w'):wH B mb v l w' :=
 ⟨h.wf,(hb.block mb (bQ h.box).1).trans h.box,own_below h.own hb⟩
theorem wH.slice {B mb:Nat}{v:Value}{l:ML}{w:World}(h:wH B mb v l w):∃ ao cap,v=.slice ao l.length cap∧(0<l.length→∃ b off,ao=some ⟨b,off,none⟩∧Vw w b off l):=by
 obtain⟨ao,cap,hv,hn,hl,hc⟩:=Sl.eP h.own;refine⟨ao,cap,hv,fun h0=>?_⟩;obtain⟨b,off,e,hlt,hcell⟩:=hc h0;refine⟨b,off,e,fun i hi j u hu=>?_⟩
 have hj:j<5:=by
  rcases Nat.lt_or_ge j 5 with q|q
  ·exact q
  ·rw[List.getElem?_eq_none (by rw[bY,dI,h.wf.wid _ (List.getElem_mem hi)];exact q)] at hu;cases hu
 obtain⟨h',e'⟩:=nY ((Qq h.wf.wid i j hi hj).trans hu);have:=hcell (i * 5+j) h';rw[Nat.add_assoc,this,e']
theorem qc {w:World}{b:Nat}{v:Value}(h:w.heap[b]?=some (.cells #[v] 165 (0,0))):w.cell? ⟨b,0,none⟩=some v∧w.frozen? ⟨b,0,none⟩=false:=⟨by rw[Lib.cell_of_heap h];rfl,by simp[World.frozen?,h]⟩
theorem FP (B mb:Nat)(v:Value)(l:ML)(x:List UInt8)(w:World)(h:wH B mb v l w)(hn:l.length≤1000000) :
  Calls Tryz.prog 83 #[.pointer (some ⟨mb,0,none⟩),.string ⟨x.toArray⟩] w
   fun e w'=>e=.returned (.tuple #[.int .i64 (bE l x:Nat),.bool (pK l x)])∧Below w.heap.size w w':=by
 obtain⟨ao,cap,rfl,hr⟩:=h.slice;have c0:=(qc h.box).1;have HS:=ah (Ky ao cap l x w h.wf hr hn);generalize bE l x=p at *;generalize pK l x=q at *;clear h hr;go_enter Tryz.func83,Tryz.ntmps83;go_wp2_with (go_at_call 137;refine HS.out.mono ?_;rintro e w2 ⟨rfl,hb2⟩);go_ret2;exact⟨rfl,hb2⟩
def sU (w:World)(b:Nat)(v0 v1 v2 v3:Value):World:=(((w.setCell ⟨b,0,none⟩ v0).setCell ⟨b,1,none⟩ v1).setCell ⟨b,2,none⟩ v2).setCell ⟨b,3,none⟩ v3
theorem jg {B:Nat}{w0 w:World}(h:Below B w0 w){b:Nat}(hb:B≤b)(v0 v1 v2 v3:Value):Below B w0 (sU w b v0 v1 v2 v3) :=
 (((h.setCell hb _).setCell hb _).setCell hb _).setCell hb _
theorem kG {w:World}{b:Nat}{c0 c1 c2 c3:Value}{T:TypeId}(h:w.heap[b]?=some (.cells #[c0,c1,c2,c3] T (0,0)))(v0 v1 v2 v3:Value) :
  (sU w b v0 v1 v2 v3).heap[b]?=some (.cells #[v0,v1,v2,v3] T (0,0)) :=
 heap_setCell_same _ b 3 _ _ v3 (heap_setCell_same _ b 2 _ _ v2 (heap_setCell_same _ b 1 _ _ v1 (heap_setCell_same w b 0 _ _ v0 h)))
theorem oO {w:World}{b:Nat}{c0 c1 c2 c3:Value}{T:TypeId}(h:w.heap[b]?=some (.cells #[c0,c1,c2,c3] T (0,0))):(w.cell? ⟨b,0,none⟩=some c0∧w.cell? ⟨b,1,none⟩=some c1∧w.cell? ⟨b,2,none⟩=some c2∧w.cell? ⟨b,3,none⟩=some c3)∧(w.frozen? ⟨b,0,none⟩=false∧w.frozen? ⟨b,1,none⟩=false∧w.frozen? ⟨b,2,none⟩=false∧w.frozen? ⟨b,3,none⟩=false):=by
 refine⟨⟨?_,?_,?_,?_⟩,?_,?_,?_,?_⟩
 ·rw[Lib.cell_of_heap h];rfl
 ·rw[Lib.cell_of_heap h];rfl
 ·rw[Lib.cell_of_heap h];rfl
 ·rw[Lib.cell_of_heap h];rfl
 ·simp[World.frozen?,h]
 ·simp[World.frozen?,h]
 ·simp[World.frozen?,h]
 ·simp[World.frozen?,h]
def zl (l:ML)(x:List UInt8)(w:World)(e:Ending)(w':World):Prop :=
 (match qE l x with|none=>e=.returned (.tuple #[.agg #[.string ⟨#[]⟩,.slice none 0 0,.int .i64 0,.slice none 0 0],.bool false])|some v=>e=.returned (.tuple #[.agg v.toArray,.bool true]))∧Below w.heap.size w w'
theorem zl.no {l:ML}{x:List UInt8}{w w':World}{e:Ending}(h:qE l x=none)(he:e=.returned (.tuple #[.agg #[.string ⟨#[]⟩,.slice none 0 0,.int .i64 0,.slice none 0 0],.bool false]))(hb:Below w.heap.size w w'):zl l x w e w':=⟨by rw[h];exact he,hb⟩
theorem zl.yes {l:ML}{x:List UInt8}{w w':World}{e:Ending}{v:List Value}(h:qE l x=some v)(he:e=.returned (.tuple #[.agg v.toArray,.bool true]))(hb:Below w.heap.size w w'):zl l x w e w':=⟨by rw[h];exact he,hb⟩
theorem Kz (B mb:Nat)(v:Value)(l:ML)(x:List UInt8)(w:World)(h:wH B mb v l w)(hn:l.length≤1000000) :
  Calls Tryz.prog 55 #[.pointer (some ⟨mb,0,none⟩),.string ⟨x.toArray⟩] w (zl l x w):=by
 have hal:=aj w (.cells #[.string ⟨#[]⟩,.slice none 0 0,.int .i64 0,.slice none 0 0] 31);have hR:=heap_alloc_new w (.cells #[.string ⟨#[]⟩,.slice none 0 0,.int .i64 0,.slice none 0 0] 31);have h1:=h.below hal;have HM:=ah h1;have HF:=ah (FP B mb v l x (w.alloc (.cells #[.string ⟨#[]⟩,.slice none 0 0,.int .i64 0,.slice none 0 0] 31)) h1 hn);have hmb:=(bQ h.box).1;have hpl:=qF l x;have HH:=ah (Bz h.wf x);have HN:=ah (fun (q:pK l x=false)=>Rx q);have HG:=ah (fun i (hi:i<l.length) e=>YK h.wf (x:=x) (i:=i) hi e);clear h h1;generalize hp:bE l x=p at *;generalize pK l x=q at *;clear hp;go_enter Tryz.func55,Tryz.ntmps55
 go_upto_region 1 with fail
 change Code.wp _ _ _ _ (w.alloc (.cells #[.string ⟨#[]⟩,.slice none 0 0,.int .i64 0,.slice none 0 0] 31))
 have hz:w.heap.size<(w.alloc (.cells #[.string ⟨#[]⟩,.slice none 0 0,.int .i64 0,.slice none 0 0] 31)).heap.size:=by simp
 generalize w.alloc _=w1 at *
 go_upto_region 2 with (go_at_call 83;refine HF.out.mono ?_;rintro e w2 ⟨rfl,hb2⟩)
 have hR2:=(hb2.block _ hz).trans hR;have hM2:=HM.out.below hb2;have hbw:=hal.trans (hb2.mono hal.size);have hz2:=hb2.size;clear HF HM hR hal
 cases q with
 | false =>
  have hnone:=ah (HN.out rfl);clear HN HG HH;have gI:=aj w2 (.cells #[.string ⟨#[]⟩,.slice none 0 0,.int .i64 0,.slice none 0 0] 31);have Yr:=heap_alloc_new w2 (.cells #[.string ⟨#[]⟩,.slice none 0 0,.int .i64 0,.slice none 0 0] 31);have hR3:=(gI.block w.heap.size (by omega)).trans hR2
  go_upto_region 4 with fail
  change Code.wp _ _ _ _ (w2.alloc (.cells #[.string ⟨#[]⟩,.slice none 0 0,.int .i64 0,.slice none 0 0] 31));have sV:=hbw.trans (gI.mono hbw.size);generalize w2.alloc _=w3 at *;obtain⟨⟨a0,a1,a2,a3⟩,-⟩:=oO Yr;obtain⟨⟨c0,c1,c2,c3⟩,f0,f1,f2,f3⟩:=oO hR3;go_wp2;change bodyPost _ _ _ _ _ (sU w3 w.heap.size (.string ⟨#[]⟩) (.slice none 0 0) (.int .i64 0) (.slice none 0 0));have hP:=kG hR3 (.string ⟨#[]⟩) (.slice none 0 0) (.int .i64 0) (.slice none 0 0);have Sb:=jg sV (Nat.le_refl _) (.string ⟨#[]⟩) (.slice none 0 0) (.int .i64 0) (.slice none 0 0);generalize sU w3 _ _ _ _ _=w4 at *;obtain⟨⟨d0,d1,d2,d3⟩,-⟩:=oO hP;exact bodyPost_ret (v:=.tuple #[.agg #[.string ⟨#[]⟩,.slice none 0 0,.int .i64 0,.slice none 0 0],.bool false]) (by simp[results,Tryz.results55,go_sem,d0,d1,d2,d3]) rfl (zl.no hnone.out rfl Sb)
 | true =>
  have hq:=HH.out;obtain⟨hpn,hpx⟩:=of_decide_eq_true hq.symm;have hg:=HG.out p hpn hpx;obtain⟨ao,cap,rfl,hr⟩:=hM2.slice;obtain⟨b,off,rfl,hrw⟩:=hr (by omega);have hc:=hrw p hpn;obtain⟨v1,v2,v3,v4,hv⟩:=Zi (hM2.wf.wid _ (List.getElem_mem hpn));rw[hv] at hg;rw[bY,hv] at hc;have x1:=hc 1 _ rfl;have x2:=hc 2 _ rfl;have x3:=hc 3 _ rfl;have x4:=hc 4 _ rfl;have m0:=(qc hM2.box).1;have hG:=ah hg;have ho:=hM2.wf.one _ (List.getElem_mem hpn);rw[hv] at ho
  have s1:=fun a m W=>run_store Tryz.prog W a v1 m (ho v1 (by simp))
  have s2:=fun a m W=>run_store Tryz.prog W a v2 m (ho v2 (by simp))
  have s3:=fun a m W=>run_store Tryz.prog W a v3 m (ho v3 (by simp))
  have s4:=fun a m W=>run_store Tryz.prog W a v4 m (ho v4 (by simp))
  clear ho;obtain⟨⟨c0,c1,c2,c3⟩,f0,f1,f2,f3⟩:=oO hR2;clear hc hv hg hq HH HG HN hpx hrw hr hM2;go_wp2;change bodyPost _ _ _ _ _ (sU w2 w.heap.size v1 v2 v3 v4);have hP:=kG hR2 v1 v2 v3 v4;have Sb:=jg hbw (Nat.le_refl _) v1 v2 v3 v4;generalize sU w2 _ _ _ _ _=w4 at *;obtain⟨⟨d0,d1,d2,d3⟩,-⟩:=oO hP;exact bodyPost_ret (v:=.tuple #[.agg #[v1,v2,v3,v4],.bool true]) (by simp[results,Tryz.results55,go_sem,d0,d1,d2,d3]) rfl (zl.yes hG.out rfl Sb)
end Go.Proofs.YtknicmmigbhpcaaGreatDoor
