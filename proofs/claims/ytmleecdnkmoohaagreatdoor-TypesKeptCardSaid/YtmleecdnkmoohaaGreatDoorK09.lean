/- Walks and plain laws, without a condition. -/
import Derived.Test.YtmleecdnkmoohaaGreatDoorK08
import Derived.RangeFuncNested
import Derived.RangeFuncBound
import Derived.RangeFuncCalls
import Derived.RangeFuncLeaves
import Derived.RangeFuncWrites
import Derived.OwnWalkIn
import Derived.TacticsInMore
import Derived.LoopNIn
import Derived.LoopIn
import Derived.Sort.LoopGhostIn
import Derived.Maps.OwnIn
import Derived.Sort.CutIn
set_option maxHeartbeats 16000000
set_option maxRecDepth 100000
set_option linter.unusedVariables false
set_option linter.unusedSimpArgs false
namespace Go.Proofs.YtmleecdnkmoohaaGreatDoor
open Go.RowKit Go
def aR (op:Int)(NM MD:ByteArray)(ng:Bool)(mv:Value)(ys:Bool)(kv:Value)(a_:Int):Array Value:=#[.int .i64 op,.string NM,.string MD,.bool ng,mv,.bool ys,kv,.int .i64 a_]
theorem aI {w:World}{b:Nat}{op:Int}{NM MD:ByteArray}{ng ys:Bool}{mv kv:Value}{a_:Int}(h:w.heap[b]?=some (.cells (aR op NM MD ng mv ys kv a_) 60 (0,0))) :
    w.cell? ⟨b,0,none⟩=some (.int .i64 op)/\w.cell? ⟨b,1,none⟩=some (.string NM)/\w.cell? ⟨b,2,none⟩=some (.string MD)/\w.cell? ⟨b,3,none⟩=some (.bool ng)/\w.cell? ⟨b,4,none⟩=some mv/\w.cell? ⟨b,5,none⟩=some (.bool ys)/\w.cell? ⟨b,6,none⟩=some kv/\w.cell? ⟨b,7,none⟩=some (.int .i64 a_):=by
  refine⟨?_,?_,?_,?_,?_,?_,?_,?_⟩<;>(rw[aZ h];rfl)
theorem BD (s:ByteArray):s.toList.isEmpty=decide (s.data.toList=[])/\(s.toList == [])=decide (s.data.toList=[]):=by
  rw[Go.ByteArray.toList_eq]
  cases s.data.toList with
  | nil=>exact⟨rfl,rfl⟩
  | cons c l=>exact⟨by simp,by simp⟩
theorem Vy (op:Int)(NM MD:ByteArray)(ng:Bool)(am:Option Addr)(wn cm:Nat)(ys:Bool)(ae:Option Addr)(wk ce:Nat)(a_:Int)(w:World)(h1:NM.size<=1099511627776)(h2:MD.size<=1099511627776) :
    Calls Tryz.prog 233 #[.agg #[.int .i64 op,.string NM,.string MD,.bool ng,.slice am wn cm,.bool ys,.slice ae wk ce,.int .i64 a_]] w λr w'=>r=.returned (.bool (vZ op NM.data.toList MD.data.toList))/\Below w.heap.size w w':=by
  have P1:=ay (λW=>mD NM W h1);have P2:=ay (λW=>mD MD W h2);obtain⟨q1,q2⟩:=BD MD;obtain⟨q3,q4⟩:=BD NM
  have hN:vZ op NM.data.toList MD.data.toList=if op=3\/op=22 then dw NM.data.toList && decide (MD.data.toList=[]) else if op=24 then dw NM.data.toList && (decide (MD.data.toList=[]) || dw MD.data.toList) else decide (NM.data.toList=[]) && decide (MD.data.toList=[]):=rfl
  rw[hN];clear hN;generalize decide (MD.data.toList=[])=eM at *;generalize decide (NM.data.toList=[])=eN at *;generalize dw NM.data.toList=pN at *;generalize dw MD.data.toList=pM at *
  obtain⟨res,hres⟩:∃ res,res=if op=3\/op=22 then pN && eM else if op=24 then pN && (eM || pM) else eN && eM:=⟨_,rfl⟩
  rw[<- hres];have HR:=ay hres;clear hres;have hb0:=aA w (.cells (aR op NM MD ng (.slice am wn cm) ys (.slice ae wk ce) a_) 60);have hB:=aX w (.cells (aR op NM MD ng (.slice am wn cm) ys (.slice ae wk ce) a_) 60)
  have hs0:w.heap.size<(w.alloc (.cells (aR op NM MD ng (.slice am wn cm) ys (.slice ae wk ce) a_) 60)).heap.size:=by simp
  go_enter Tryz.func233,Tryz.ntmps233
  go_upto_region 1 with fail
  change Code.wp _ _ _ _ (w.alloc (.cells (aR op NM MD ng (.slice am wn cm) ys (.slice ae wk ce) a_) 60));generalize w.alloc _=w0 at hb0 hB hs0 |-;obtain⟨y0,y1,y2,-⟩:=aI hB
  by_cases h3:op=3\/op=22
  · rcases h3 with rfl|rfl<;>cases pN<;>cases eM<;>
      (go_wp2_with (go_at_call 77;refine(P1.out _).mono ?_;rintro r w1 ⟨rfl,hb1⟩;have z2:=(hb1.cell (p:=⟨w.heap.size,2,none⟩) hs0).trans y2)
       go_ret;exact⟨bB (by rw[HR.out];rfl),hb0.trans (hb1.mono hb0.size)⟩)
  · have H3:=ay h3
    have t3:(op == 3)=false:=Ea.2 λq=>h3 (.inl q)
    have t22:(op == 22)=false:=Ea.2 λq=>h3 (.inr q)
    by_cases h24:op=24
    · subst h24
      clear h3 t3 t22
      cases pN<;>cases eM<;>cases pM<;>
        (go_wp2_with (first|(go_at_call 77;(with_reducible refine(P1.out w0).mono ?_);rintro r w1 ⟨rfl,hb1⟩;have hs1:=hb1.size;have z2:=(hb1.cell (p:=⟨w.heap.size,2,none⟩) hs0).trans y2)|(go_at_call 77;(with_reducible refine(P2.out _).mono ?_);rintro r w2 ⟨rfl,hb2⟩))
         go_ret;first|exact⟨bB (by rw[HR.out];rfl),hb0.trans (hb1.mono hb0.size)⟩|exact⟨bB (by rw[HR.out];rfl),(hb0.trans (hb1.mono hb0.size)).trans (hb2.mono (by omega))⟩)
    · have H24:=ay h24
      have t24:(op == 24)=false:=Ea.2 h24;clear h3 h24
      cases eN<;>cases eM<;>(go_wp2;go_ret;exact⟨bB (by rw[HR.out,aU H3.out,aU H24.out];rfl),hb0⟩)
theorem acv (op:Int)(fm:Bool)(w:World):Calls Tryz.prog 232 #[.int .i64 op,.int .i64 (if fm=true then 0 else 1)] w λr w'=>r=.returned (.bool (UN fm op))/\w=w':=by
  have h:UN fm op=if fm=true then decide (op<=20) else decide (op≠4):=rfl
  rw[h];clear h
  cases fm with
  | true =>
    simp only[if_true]
    have e:decide (op<=20)=decide (op<21):=by by_cases q:op<=20<;>simp<;>omega
    rw[e];go_enter Tryz.func232,Tryz.ntmps232;go_wp2;go_ret;exact⟨rfl,rfl⟩
  | false =>
    simp only[Bool.false_eq_true,if_false]
    have e:decide (op≠4)=!(op == 4):=by by_cases q:op=4<;>simp[q]
    rw[e];go_enter Tryz.func232,Tryz.ntmps232;go_wp2;go_ret;exact⟨rfl,rfl⟩
def CQ (op:Int):Int:=if op<=4 then 0 else if op<=6 then 1 else if op<=20\/op=22\/op=23 then 2 else if op=21 then 3 else -1
theorem YM (op:Int)(w:World):Calls Tryz.prog 235 #[.int .i64 op] w λr w'=>r=.returned (.int .i64 (CQ op))/\w=w':=by
  unfold CQ
  by_cases h4:op<=4
  · rw[bR h4]
    go_enter Tryz.func235,Tryz.ntmps235;go_wp2;go_ret;exact⟨rfl,rfl⟩
  rw[aU h4]
  have t4:4<op:=by omega
  by_cases h6:op<=6
  · rw[bR h6]
    go_enter Tryz.func235,Tryz.ntmps235;go_wp2;go_ret;exact⟨rfl,rfl⟩
  rw[aU h6]
  have t6:6<op:=by omega
  by_cases h20:op<=20
  · rw[bR (.inl h20)]
    go_enter Tryz.func235,Tryz.ntmps235;go_wp2;go_ret;exact⟨rfl,rfl⟩
  have t20:20<op:=by omega
  by_cases h22:op=22
  · subst h22
    rw[bR (.inr (.inl rfl))];go_enter Tryz.func235,Tryz.ntmps235;go_wp2;go_ret;exact⟨rfl,rfl⟩
  by_cases h23:op=23
  · subst h23
    rw[bR (.inr (.inr rfl))];go_enter Tryz.func235,Tryz.ntmps235;go_wp2;go_ret;exact⟨rfl,rfl⟩
  rw[aU (by rintro(h|h|h)<;>omega)];have t22:(op == 22)=false:=Ea.2 h22;have t23:(op == 23)=false:=Ea.2 h23
  by_cases h21:op=21
  · subst h21
    go_enter Tryz.func235,Tryz.ntmps235;go_wp2;go_ret;exact⟨rfl,rfl⟩
  rw[aU h21];have t21:(op == 21)=false:=Ea.2 h21;clear h22 h23 h21;go_enter Tryz.func235,Tryz.ntmps235;go_wp2;go_ret;exact⟨rfl,rfl⟩
theorem Rb (P:Nat->Prop)(op:Int)(NM MD:ByteArray)(n:Int)(am:Option Addr)(wn cm:Nat)(ys:Bool)(ae:Option Addr)(wk ce:Nat)(a_:Int)(w:World)(h:nP P w n (.slice am wn cm))(hn:n.natAbs<10 ^ 60) :
    Calls Tryz.prog 234 #[.agg #[.int .i64 op,.string NM,.string MD,.bool (decide (n<0)),.slice am wn cm,.bool ys,.slice ae wk ce,.int .i64 a_]] w λr w'=>r=.returned (.bool (xD op n ys))/\Below w.heap.size w w':=by
  have HS:=ay (λW (hW:Below w.heap.size w W)=>Vk P am wn cm n W (YA.frame h (aW.of hW)));have HT:=ay (λW (hW:Below w.heap.size w W)=>NP P am wn cm n W (XA.frame h (aW.of hW)) hn)
  have hV:xD op n ys=if op=1 then decide (0<=n) && decide ((lS n).length<=60) && !ys else decide (n=0) && (decide (op=2) || !ys):=rfl
  rw[hV];clear hV h hn;obtain⟨TX,hTX,eT⟩:=jD (lS n);rw[<- hTX,aY];rw[show lS n=TX.data.toList from hTX.symm] at HT
  have HT:Hid (∀ W,Below w.heap.size w W->Calls Tryz.prog 60 #[.agg #[.bool (decide (n<0)),.slice am wn cm]] W λr w'=>r=.returned (.string TX)/\Below W.heap.size W w'):=ay λW hW=>(HT.out W hW).mono λr w' q=>⟨by rw[q.1],q.2⟩
  have h0:decide (0<=n)=decide (0<=n.sign):=by
    rcases Int.lt_trichotomy n 0 with q|q|q
    · rw[Int.sign_eq_neg_one_of_neg q,dX (by omega),dX (by omega)]
    · subst q;rfl
    · rw[Int.sign_eq_one_of_pos q,jV (by omega),jV (by omega)]
  have h1:decide (n=0)=(n.sign == 0):=by
    rcases Int.lt_trichotomy n 0 with q|q|q
    · rw[Int.sign_eq_neg_one_of_neg q,dX (by omega)];rfl
    · subst q;rfl
    · rw[Int.sign_eq_one_of_pos q,dX (by omega)];rfl
  rw[h0,h1];clear h0 h1 hTX eT;generalize decide (n<0)=ng at *;generalize n.sign=sg at *
  obtain⟨res,hres⟩:∃ res,res=if op=1 then decide (0<=sg) && decide (TX.size<=60) && !ys else sg == 0 && (decide (op=2) || !ys):=⟨_,rfl⟩
  rw[<- hres];have HR:=ay hres;clear hres;have hb0:=aA w (.cells (aR op NM MD ng (.slice am wn cm) ys (.slice ae wk ce) a_) 60);have hB:=aX w (.cells (aR op NM MD ng (.slice am wn cm) ys (.slice ae wk ce) a_) 60)
  have hs0:w.heap.size<(w.alloc (.cells (aR op NM MD ng (.slice am wn cm) ys (.slice ae wk ce) a_) 60)).heap.size:=by simp
  go_enter Tryz.func234,Tryz.ntmps234
  go_upto_region 1 with fail
  change Code.wp _ _ _ _ (w.alloc (.cells (aR op NM MD ng (.slice am wn cm) ys (.slice ae wk ce) a_) 60));generalize w.alloc _=w0 at hb0 hB hs0 |-;obtain⟨y0,y1,y2,y3,y4,y5,-⟩:=aI hB
  by_cases h1:op=1
  · subst h1
    have HR2:Hid (res=(decide (0<=sg) && decide (TX.size<=60) && !ys)):=ay (by rw[HR.out,bR rfl]);clear HR;generalize hg:decide (0<=sg)=g0 at HR2
    have hl2:decide (TX.size<=60)=decide ((TX.size:Int)<=60):=by by_cases q:TX.size<=60<;>simp<;>omega
    rw[hl2] at HR2;clear hl2;generalize hl:decide ((TX.size:Int)<=60)=l0 at HR2
    cases g0<;>cases l0<;>cases ys<;>
      (go_wp2_with (first|(go_at_call 277;refine(HS.out _ hb0).mono ?_;rintro r w1 ⟨rfl,hb1⟩;have hbw:=hb0.trans (hb1.mono hb0.size);have hs1:=hb1.size;have z3:=(hb1.cell (p:=⟨w.heap.size,3,none⟩) hs0).trans y3;have z4:=(hb1.cell (p:=⟨w.heap.size,4,none⟩) hs0).trans y4;have z5:=(hb1.cell (p:=⟨w.heap.size,5,none⟩) hs0).trans y5)|(go_at_call 60;refine(HT.out _ hbw).mono ?_;rintro r w2 ⟨rfl,hb2⟩;have x5:=(hb2.cell (p:=⟨w.heap.size,5,none⟩) (by show w.heap.size<_;omega)).trans z5))
       go_ret;first|exact⟨bB (by rw[HR2.out];rfl),hbw⟩|exact⟨bB (by rw[HR2.out];rfl),hbw.trans (hb2.mono (by omega))⟩)
  · have HR2:Hid (res=(sg == 0 && (decide (op=2) || !ys))):=ay (by rw[HR.out,aU h1])
    clear HR;have t1:(op == 1)=false:=Ea.2 h1
    have t2:(op == 2)=decide (op=2):=by
      by_cases q:op=2
      · subst q;rfl
      · rw[dX q];exact Ea.2 q
    generalize decide (op=2)=d2 at *;generalize hg:(sg == 0)=g0 at *;clear h1
    cases g0<;>cases d2<;>cases ys<;>
      (go_wp2_with (go_at_call 277;refine(HS.out _ hb0).mono ?_;rintro r w1 ⟨rfl,hb1⟩;have hbw:=hb0.trans (hb1.mono hb0.size);have z0:=(hb1.cell (p:=⟨w.heap.size,0,none⟩) hs0).trans y0;have z5:=(hb1.cell (p:=⟨w.heap.size,5,none⟩) hs0).trans y5)
       go_ret;exact⟨bB (by rw[HR2.out];rfl),hbw⟩)
variable{e:PZ}{fm:Bool}{least:Int}
structure Pc where
  lead:aH
  kind:Nat
  text:aH
def eU:List Pc->aH
  | []=>[]
  | p :: l=>p.lead++p.text++eU l
theorem gH:∀ a b:List Pc,eU (a++b)=eU a++eU b
  | [],b=>rfl
  | p :: a,b=>by rw[pJ,eU,eU,gH a b];simp
def aeb (k:Nat)(t:aH)(c:Option UInt8):Bool :=
  match c with
  | none=>true
  | some c=>if k=4 then decide (I4 (t++[c])=some t) && !(decide (t=[45]) && decide (c=45)) else if k=3 then !bI c else !bZ c
def Rc (p:Pc):Bool :=
  p.lead.all iT &&
  (if p.kind=4 then decide (p.text∈vU)
   else if p.kind=3 then p.text.all bI && decide (0<p.text.length) && decide (p.text.length<=60) && (decide (p.text.length=1) || !decide (p.text[0]?=some 48))
   else p.text.all bZ && (p.text.headD 0 |> kF) && decide (0<p.text.length) && decide (p.text.length<=40) && decide (p.kind=if p.text∈uF then 2 else 1))
def okP:List Pc->aH->Prop
  | [],_=>True
  | p :: l,e=>Rc p=true/\aeb p.kind p.text (eU l++e).head?=true/\okP l e
def jQ (t:aH):Pc:=⟨[],if t∈uF then 2 else 1,t⟩
def af2 (t:aH):Pc:=⟨[],3,t⟩
def zl (t:aH):Pc:=⟨[],4,t⟩
def Hz:List Pc->List Pc
 | []=>[]
 | p :: l=>⟨32 :: p.lead,p.kind,p.text⟩ :: l
def NQ (least:Int)(k:Int × List Pc):List Pc:=if KE k.1<least then zl [40] :: (k.2++[zl [41]]) else k.2
def BF:List (List Pc)->List Pc
 | []=>[]
 | [t]=>t
 | t :: s :: l=>t++zl [44] :: Hz (BF (s :: l))
def yB (op:Int)(nm md:aH)(num:Int)(yes:Bool)(ks:List (Int × List Pc)):List Pc :=
 if op=1 then [af2 (lS num)]
 else if op=2 then [jQ (if yes=true then [116,114,117,101] else [102,97,108,115,101])]
 else if op=3 then [jQ nm]
 else if op=4 then [jQ [114,101,115]]
 else if op=5 then zl [45] :: NQ 9 (ks.getD 0 (0,[]))
 else if op=6 then jQ [110,111,116] :: Hz (NQ 4 (ks.getD 0 (0,[])))
 else if op=21 then jQ [105,102] :: (Hz (ks.getD 0 (0,[])).2++Hz [jQ [116,104,101,110]]++Hz (ks.getD 1 (0,[])).2++Hz [jQ [101,108,115,101]]++Hz (ks.getD 2 (0,[])).2)
 else if op=22 then jQ [108,101,116] :: (Hz [jQ nm]++Hz [zl [61]]++Hz (ks.getD 0 (0,[])).2++Hz [jQ [105,110]]++Hz (ks.getD 1 (0,[])).2)
 else if op=23 then jQ [97,115,115,101,114,116] :: (Hz (ks.getD 0 (0,[])).2++Hz [jQ [105,110]]++Hz (ks.getD 1 (0,[])).2)
 else if op=24 then (if md=[] then [] else [jQ md,zl [46]])++([jQ nm,zl [40]]++(BF (ks.map Prod.snd)++[zl [41]]))
 else NQ (vY op) (ks.getD 0 (0,[]))++(Hz [zl (zW op)]++Hz (NQ (CG op) (ks.getD 1 (0,[]))))
mutual
def PZ.PL:PZ->List Pc
 | .mk op nm md num yes aB _=>yB op nm md num yes (NR aB)
def NR:List PZ->List (Int × List Pc)
 | []=>[]
 | e :: l=>(e.op,e.PL) :: NR l
end
theorem PZ.acw (e:PZ):e.PL=yB e.op e.name e.module e.num e.yes (NR e.aB):=by cases e;rw[PZ.PL];rfl
theorem FU:∀ l:List PZ,NR l=l.map λe=>(e.op,e.PL)
 | []=>rfl
 | e :: l=>by rw[NR,FU l];rfl
theorem YN {l:List PZ}{i:Nat}(h:i<l.length):(NR l).getD i (0,[])=(l[i].op,l[i].PL):=by
 rw[FU,Kr,List.getElem?_map,AY h];rfl
theorem PZ.wN (e:PZ):∀ x∈e.aB,SizeOf.sizeOf x<SizeOf.sizeOf e:=by
 intro x hx
 cases e with
 | mk op name module num yes aB at_ =>
  have:=List.sizeOf_lt_of_mem hx;simp only[PZ.mk.sizeOf_spec,PZ.aB] at this |-;omega
structure Rf (fm:Bool) (e:PZ):Prop where
 op1:1<=e.op
 ahB:e.op<=24
 may:UN fm e.op=true
 names:vZ e.op e.name e.module=true
 values:xD e.op e.num e.yes=true
 count:countB e.op e.aB.length=true
 aB:∀ x∈e.aB,x.right fm=true
theorem PZ.YO (h:e.right fm=true):Rf fm e:=by
 rw[PZ.Jg,MQ] at h;simp only[uw,AZ] at h;exact⟨h.1.1.1.1.1.1,h.1.1.1.1.1.2,h.1.1.1.1.2,h.1.1.1.2,h.1.1.2,h.1.2,wh.1 h.2⟩
inductive CS:Int->Nat->Prop where
 | none {op}:1<=op->op<=4->CS op 0
 | one {op}:op=5\/op=6->CS op 1
 | two {op}:7<=op->op<=20->CS op 2
 | iff:CS 21 3
 | vO:CS 22 2
 | vP:CS 23 2
 | call {n}:n<=8->CS 24 n
theorem Rf.form (h:Rf fm e):CS e.op e.aB.length:=by
 have h1:=h.op1;have h2:=h.ahB;have hc:=h.count;unfold countB at hc;generalize e.op=op at *
 split at hc
 ·rw[AZ] at hc;rw[hc];exact .none h1 (by omega)
 split at hc
 ·rw[AZ] at hc;rw[hc];exact .one (by omega)
 split at hc
 ·rw[AZ] at hc;rw[hc]
  by_cases q:op=22
  ·subst q;exact .vO
  by_cases q2:op=23
  ·subst q2;exact .vP
  ·exact .two (by omega) (by omega)
 split at hc
 ·rename_i q;subst q;rw[AZ] at hc;rw[hc];exact .iff
 ·rw[AZ] at hc
  obtain rfl:op=24:=by omega
  exact .call hc
theorem jK {l:List Pc}(h:l≠[]):eU (Hz l)=[32]++eU l:=by
 cases l with
 | nil=>exact absurd rfl h
 | cons p l=>simp[Hz,eU]
theorem zm (p:Pc):eU (Hz [p])=32 :: (p.lead++p.text):=by simp[Hz,eU]
theorem TF {k:Int × List Pc}(h:k.2≠[]):NQ least k≠[]:=by
 unfold NQ
 split
 ·simp
 ·exact h
theorem uR {op:Int}{q:List Pc}{t:aH}(h:eU q=t):eU (NQ least (op,q))=rU least (op,t):=by
 unfold NQ rU
 split
 ·simp[eU,gH,zl,h]
 ·exact h
theorem Vz {t:List Pc}{l:List (List Pc)}(h:t≠[]):BF (t :: l)≠[]:=by
 cases l with
 | nil=>exact h
 | cons s l=>rw[BF];simp
theorem Aj:∀ (es:List PZ),(∀ x∈es,eU x.PL=x.text/\x.PL≠[])->eU (BF (es.map PZ.PL))=bO (es.map PZ.text)
 | [],_=>rfl
 | [e],h=>(h e (by simp)).1
 | e :: f :: l,h=>by
  have ih:=Aj (f :: l) λx hx=>h x (Dy _ hx)
  have hf:=(h f (by simp)).2;simp only[lN] at ih |-;rw[BF,bO,gH,eU,jK (Vz hf),ih,(h e (by simp)).1];simp[zl]
theorem PZ.bytes {fm:Bool}:∀ (n:Nat) (e:PZ),SizeOf.sizeOf e<n->e.right fm=true->eU e.PL=e.text/\e.PL≠[]
 | 0,_,h,_=>absurd h (by omega)
 | n+1,e,hs,hr=>by
  have R:=PZ.YO hr
  have ih:∀ x∈e.aB,eU x.PL=x.text/\x.PL≠[]:=λx hx=>PZ.bytes n x (by have:=e.wN x hx;omega) (R.aB x hx)
  have F:=R.form;rw[e.acw,e.pY]
  have hk:∀ i,(h:i<e.aB.length)->(NR e.aB).getD i (0,[])=(e.aB[i].op,e.aB[i].PL)/\(iU e.aB).getD i (0,[])=(e.aB[i].op,e.aB[i].text)/\eU e.aB[i].PL=e.aB[i].text/\e.aB[i].PL≠[]:=λi h=>⟨YN h,mo h,ih _ (nH h)⟩
  have hm:(NR e.aB).map Prod.snd=e.aB.map PZ.PL/\(iU e.aB).map Prod.snd=e.aB.map PZ.text:=by
   rw[FU,qX];simp
  have hcm:=Aj e.aB ih;generalize e.aB=ks at *;generalize hn:ks.length=c at F;generalize e.op=op at *
  cases F with
  | none h1 h2 =>
   have:op=1\/op=2\/op=3\/op=4:=by omega
   rcases this with rfl|rfl|rfl|rfl<;>simp[yB,oq,eU,af2,jQ]
  | one h =>
   obtain⟨a1,a2,a3,a4⟩:=hk 0 (by omega)
   rcases h with rfl|rfl
   ·simp only[yB,oq]
    simp only[aU,bR,show ¬ (5:Int)=1 by decide,show ¬ (5:Int)=2 by decide,show ¬ (5:Int)=3 by decide,show ¬ (5:Int)=4 by decide,not_false_eq_true];rw[a1,a2,eU,uR a3];simp[zl]
   ·simp only[yB,oq]
    simp only[aU,bR,show ¬ (6:Int)=1 by decide,show ¬ (6:Int)=2 by decide,show ¬ (6:Int)=3 by decide,show ¬ (6:Int)=4 by decide,show ¬ (6:Int)=5 by decide,not_false_eq_true];rw[a1,a2,eU,jK (TF a4),uR a3];simp[jQ]
  | two h1 h2 =>
   obtain⟨a1,a2,a3,a4⟩:=hk 0 (by omega);obtain⟨b1,b2,b3,b4⟩:=hk 1 (by omega)
   have e1:∀ k:Int,(k<=6\/21<=k)->¬ op=k:=λk hk q=>by omega
   simp only[yB,oq]
   rw[aU (e1 1 (by omega)),aU (e1 2 (by omega)),aU (e1 3 (by omega)),aU (e1 4 (by omega)),aU (e1 5 (by omega)),aU (e1 6 (by omega)),aU (e1 21 (by omega)),aU (e1 22 (by omega)),aU (e1 23 (by omega)),aU (e1 24 (by omega)),
    aU (e1 1 (by omega)),aU (e1 2 (by omega)),aU (e1 3 (by omega)),aU (e1 4 (by omega)),aU (e1 5 (by omega)),aU (e1 6 (by omega)),aU (e1 21 (by omega)),aU (e1 22 (by omega)),aU (e1 23 (by omega)),aU (e1 24 (by omega)),a1,a2,b1,b2,gH,gH,jK (by simp),jK (TF b4),uR a3,uR b3]
   simp[eU,zl,Hz]
  | iff =>
   obtain⟨a1,a2,a3,a4⟩:=hk 0 (by omega);obtain⟨b1,b2,b3,b4⟩:=hk 1 (by omega);obtain⟨c1,c2,c3,c4⟩:=hk 2 (by omega);simp only[yB,oq];simp only[aU,bR,show ¬ (21:Int)=1 by decide,show ¬ (21:Int)=2 by decide,show ¬ (21:Int)=3 by decide,show ¬ (21:Int)=4 by decide,show ¬ (21:Int)=5 by decide,show ¬ (21:Int)=6 by decide,not_false_eq_true];rw[a1,a2,b1,b2,c1,c2];simp only[eU,gH,jK a4,jK b4,jK c4,a3,b3,c3,zm,jQ]
   simp
  | vO =>
   obtain⟨a1,a2,a3,a4⟩:=hk 0 (by omega);obtain⟨b1,b2,b3,b4⟩:=hk 1 (by omega);simp only[yB,oq];simp only[aU,bR,show ¬ (22:Int)=1 by decide,show ¬ (22:Int)=2 by decide,show ¬ (22:Int)=3 by decide,show ¬ (22:Int)=4 by decide,show ¬ (22:Int)=5 by decide,show ¬ (22:Int)=6 by decide,show ¬ (22:Int)=21 by decide,not_false_eq_true];rw[a1,a2,b1,b2];simp only[eU,gH,jK a4,jK b4,a3,b3,zm,jQ,zl]
   simp
  | vP =>
   obtain⟨a1,a2,a3,a4⟩:=hk 0 (by omega);obtain⟨b1,b2,b3,b4⟩:=hk 1 (by omega);simp only[yB,oq];simp only[aU,bR,show ¬ (23:Int)=1 by decide,show ¬ (23:Int)=2 by decide,show ¬ (23:Int)=3 by decide,show ¬ (23:Int)=4 by decide,show ¬ (23:Int)=5 by decide,show ¬ (23:Int)=6 by decide,show ¬ (23:Int)=21 by decide,show ¬ (23:Int)=22 by decide,not_false_eq_true];rw[a1,a2,b1,b2];simp only[eU,gH,jK a4,jK b4,a3,b3,zm,jQ]
   simp
  | call h =>
   simp only[yB,oq];simp only[aU,bR,show ¬ (24:Int)=1 by decide,show ¬ (24:Int)=2 by decide,show ¬ (24:Int)=3 by decide,show ¬ (24:Int)=4 by decide,show ¬ (24:Int)=5 by decide,show ¬ (24:Int)=6 by decide,show ¬ (24:Int)=21 by decide,show ¬ (24:Int)=22 by decide,show ¬ (24:Int)=23 by decide,not_false_eq_true];rw[hm.1,hm.2];simp only[eU,gH,hcm,jQ,zl]
   constructor
   ·split<;>simp[eU]
   ·simp
variable{w:World}
mutual
def PZ.fit:PZ->Prop
 | .mk _ nm md num _ aB _=>nm.length<=65536/\md.length<=65536/\num.natAbs<10 ^ 60/\aB.length<=65536/\Lc aB
def Lc:List PZ->Prop
 | []=>True
 | e :: l=>e.fit/\Lc l
end
theorem NS:∀ {l:List PZ},Lc l->∀ e∈l,e.fit
 | x :: l,h,e,hm=>by
  rw[Lc] at h
  rcases nY.1 hm with rfl|hm
  ·exact h.1
  ·exact NS h.2 e hm
theorem PZ.uS (h:e.fit):e.name.length<=65536/\e.module.length<=65536/\e.num.natAbs<10 ^ 60/\e.aB.length<=65536/\∀ x∈e.aB,x.fit:=by
 cases e;rw[PZ.fit] at h;exact⟨h.1,h.2.1,h.2.2.1,h.2.2.2.1,NS h.2.2.2.2⟩
theorem l7.PK {P:Nat->Prop}{m k:Value}{x:PZ}(h:l7 YA P w m k x):∃ am wn cm ae ce,m=.slice am wn cm/\k=.slice ae x.aB.length ce:=by
 obtain⟨Ip,ae,ce,rfl,_,_⟩:=h.form
 obtain⟨ws,hws,_⟩:=(Ip:nP _ _ _ _)
 obtain⟨am,cm,rfl⟩:=hws.form;exact⟨am,_,cm,ae,ce,rfl,rfl⟩
def kV (B:Nat)(w:World)(ae:Option Addr)(ks:List PZ):Prop:=0<ks.length->∃ b off,ae=some ⟨b,off,none⟩/\b<B/\b<w.heap.size/\∀ i,(hi:i<ks.length)->∃ am wn cm ak ck,l7 YA (λb=>b<B) w (.slice am wn cm) (.slice ak ks[i].aB.length ck) ks[i]/\∀ j u,(YA.cells ks[i] (.slice am wn cm) (.slice ak ks[i].aB.length ck))[j]?=some u->w.cell? ⟨b,off+i * 8+j,none⟩=some u
theorem l7.adp {B:Nat}{mv:Value}{ae:Option Addr}{ce:Nat}(h:l7 YA (λb=>b<B) w mv (.slice ae e.aB.length ce) e):kV B w ae e.aB:=by
 obtain⟨_,PN,PO,hv,_,hf⟩:=h.form;simp only[Value.slice.injEq] at hv;obtain⟨rfl,-,rfl⟩:=hv;intro h0;obtain⟨b,off,h1,h2,h3,h4⟩:=hf h0;refine⟨b,off,h1,h2,h3,λi hi=>?_⟩;obtain⟨m,k,h5,h6⟩:=h4 i hi;obtain⟨am,wn,cm,ak,ck,rfl,rfl⟩:=h5.PK;exact⟨am,wn,cm,ak,ck,h5,h6⟩
def acy (f:FuncId)(lb:Array Value)(p:PZ->Bool)(B:Nat)(w:World)(x:PZ):Prop:=∀ (W:World) (am:Option Addr) (wn cm:Nat) (ak:Option Addr) (ck:Nat),Below w.heap.size w W->l7 YA (λb=>b<B) W (.slice am wn cm) (.slice ak x.aB.length ck) x ->
 Calls Tryz.prog f (#[.agg #[.int .i64 x.op,.string ⟨x.name.toArray⟩,.string ⟨x.module.toArray⟩,.bool (decide (x.num<0)),.slice am wn cm,.bool x.yes,.slice ak x.aB.length ck,.int .i64 x.at_]]++lb) W λr w'=>r=.returned (.bool (p x))/\Below W.heap.size W w'
def BG (p:PZ->Bool):List PZ->Nat->Int
 | [],_=>-1
 | x :: l,k=>if p x=true then k else BG p l (k+1)
theorem NT (p:PZ->Bool):∀ (l:List PZ) (k:Nat),decide (0<=BG p l k)=l.any p
 | [],k=>rfl
 | x :: l,k=>by
  rw[BG,List.any_cons]
  split
  ·rename_i h;rw[h];exact jV (by omega)
  ·rename_i h;rw[vM] at h;rw[h,NT p l];rfl
theorem TG {p:PZ->Bool}:∀ {ks:List PZ} {k:Nat} (j:Nat) (h:k<ks.length),(∀ i,i<k->(hi:i<ks.length)->p ks[i]=false)->BG p ks j=if p ks[k]=true then ((j+k:Nat):Int) else BG p (ks.drop (k+1)) (j+k+1)
 | x :: l,0,j,h,_=>by simp[BG]
 | x :: l,k+1,j,h,hf=>by
  have h0:=hf 0 (by omega) (by simp)
  have ih:=TG (p:=p) (ks:=l) (k:=k) (j+1) (by simpa using h) λi hi hl=>by have:=hf (i+1) (by omega) (by simpa using hl);simpa using this
  rw[BG,aU (by simpa using h0),ih];simp only[H9,List.drop_succ_cons];rw[show j+1+k=j+(k+1) by omega]
theorem TH {p:PZ->Bool}:∀ {ks:List PZ} (j:Nat),(∀ i,(hi:i<ks.length)->p ks[i]=false)->BG p ks j=-1
 | [],_,_=>rfl
 | x :: l,j,hf=>by
  have h0:=hf 0 (by simp);rw[BG,aU (by simpa using h0)]
  exact TH (j+1) λi hi=>by have:=hf (i+1) (by simpa using hi);simpa using this
theorem Rh (f:FuncId)(lb:Array Value)(p:PZ->Bool)(eg:∀ args w,(callFunc f args).run Tryz.prog w=.ok (.enter f args) w)(B:Nat)(ae:Option Addr)(ce:Nat)(ks:List PZ)(w:World)(hk:kV B w ae ks)(hB:B<=w.heap.size)(hn:ks.length<=1099511627776)(ha:∀ x∈ks,acy f lb p B w x) :
  Calls Tryz.prog 273 #[.slice ae ks.length ce,.func (.func f) #[] lb] w λr w'=>r=.returned (.int .i64 (BG p ks 0))/\Below w.heap.size w w':=by
 have HK:=ay hk;have HA:=ay ha;clear hk ha;go_enter Tryz.func273,Tryz.ntmps273;go_wp2
 go_loopw [5,8] (λ_ q wr=>∃ k:Nat,k<=ks.length/\q=.int .i64 k/\(∀ i,i<k->(hi:i<ks.length)->p ks[i]=false)/\Below w.heap.size w wr) (λ_ q _=>ks.length - (intOf q).toNat)
 case atStart=>exact⟨0,kJ _,rfl,λi hi=>absurd hi (by omega),bQ _ _⟩
 case round =>
  obtain⟨k,hkl,rfl,hno,hbl⟩:=hrel;have hw:=hbl.size;have HN:=ay hno;clear hno
  by_cases hlt:k<ks.length
  ·obtain⟨b,off,rfl,hbB,hbw,iw⟩:=HK.out (by omega)
   obtain⟨am,wn,cm,ak,ck,hE,hc⟩:=iw k hlt;have hA:=HA.out _ (nH hlt) wr am wn cm ak ck hbl (hE.frame (aW.rV hbl (λb hb=>by omega)));have hix:=TG (p:=p) 0 hlt HN.out
   have hnx:p ks[k]=false->∀ i,i<k+1->(hi:i<ks.length)->p ks[i]=false:=λq i hi hl=>by
    by_cases e:i=k
    ·subst e;exact q
    ·exact HN.out i (by omega) hl
   have y0:=(hbl.cell (p:=⟨b,off+k * 8,none⟩) hbw).trans (hc 0 _ rfl);have y1:=(hbl.cell (p:=⟨b,off+k * 8+1,none⟩) hbw).trans (hc 1 _ rfl);have y2:=(hbl.cell (p:=⟨b,off+k * 8+2,none⟩) hbw).trans (hc 2 _ rfl);have y3:=(hbl.cell (p:=⟨b,off+k * 8+3,none⟩) hbw).trans (hc 3 _ rfl);have y4:=(hbl.cell (p:=⟨b,off+k * 8+4,none⟩) hbw).trans (hc 4 _ rfl);have y5:=(hbl.cell (p:=⟨b,off+k * 8+5,none⟩) hbw).trans (hc 5 _ rfl);have y6:=(hbl.cell (p:=⟨b,off+k * 8+6,none⟩) hbw).trans (hc 6 _ rfl);have y7:=(hbl.cell (p:=⟨b,off+k * 8+7,none⟩) hbw).trans (hc 7 _ rfl);simp only[fC] at y1 y2;have HX:=ay hix;have DR:=ay hnx;clear iw hc hE hix hnx;generalize ks[k]=x at y0 y1 y2 y3 y4 y5 y6 y7 hA HX DR
   have nK:(k:Int)<(ks.length:Int):=by omega
   cases hq:p x with
   | true =>
    rw[hq] at hA;have JH:Hid (BG p ks 0=(k:Int)):=ay (by rw[HX.out,bR hq,Nat.zero_add]);have HAA:=ay hA;clear hA hq HX DR;go_wp2_with (go_at_fn f;refine HAA.out.mono ?_;rintro r w2 ⟨rfl,hb2⟩);go_ret;exact⟨zL (by rw[JH.out]),hbl.trans (hb2.mono hw)⟩
   | false =>
    rw[hq] at hA;have aec:=ay (DR.out hq);have HAA:=ay hA;clear hA hq HX DR;go_wp2_with (go_at_fn f;refine HAA.out.mono ?_;rintro r w2 ⟨rfl,hb2⟩);exact⟨⟨k+1,by omega,by go_num,aec.out,hbl.trans (hb2.mono hw)⟩,by simp[intOf];omega⟩
  ·obtain rfl:k=ks.length:=by omega
   have nK:decide ((ks.length:Int)<(ks.length:Int))=false:=dX (by omega);have JH:Hid (BG p ks 0=-1):=ay (TH 0 λi hi=>HN.out i hi hi);clear HN;go_wp2;go_ret;exact⟨zL (by rw[JH.out]),hbl⟩
theorem yC (f:FuncId)(lb:Array Value)(p:PZ->Bool)(eg:∀ args w,(callFunc f args).run Tryz.prog w=.ok (.enter f args) w)(B:Nat)(ae:Option Addr)(ce:Nat)(ks:List PZ)(w:World)(hk:kV B w ae ks)(hB:B<=w.heap.size)(hn:ks.length<=1099511627776)(ha:∀ x∈ks,acy f lb p B w x) :
  Calls Tryz.prog 225 #[.slice ae ks.length ce,.func (.func f) #[] lb] w λr w'=>r=.returned (.bool (ks.any p))/\Below w.heap.size w w':=by
 have HI:=ay (Rh f lb p eg B ae ce ks w hk hB hn ha);have HY:=ay (NT p ks 0);clear hk ha hn hB eg;generalize BG p ks 0=i at *;go_enter Tryz.func225,Tryz.ntmps225;go_wp2_with (go_at_call 273;refine HI.out.mono ?_;rintro r w2 ⟨rfl,hb2⟩);go_ret;exact⟨bB (by rw[<- HY.out]),hb2⟩
def Ld (fm:Bool)(e:PZ):Prop:=∀ (B:Nat) (am:Option Addr) (wn cm:Nat) (ae:Option Addr) (ce:Nat) (w:World),l7 YA (λb=>b<B) w (.slice am wn cm) (.slice ae e.aB.length ce) e->B<=w.heap.size->e.aB.length<=1099511627776 ->
  Calls Tryz.prog 180 #[.agg #[.int .i64 e.op,.string ⟨e.name.toArray⟩,.string ⟨e.module.toArray⟩,.bool (decide (e.num<0)),.slice am wn cm,.bool e.yes,.slice ae e.aB.length ce,.int .i64 e.at_],.int .i64 (if fm=true then 0 else 1)] w λr w'=>r=.returned (.bool (e.right fm))/\Below w.heap.size w w'
theorem Ri (fm:Bool)(x:PZ)(hx:Ld fm x)(hz:x.aB.length<=1099511627776)(B kb:Nat)(w:World)(hk:w.cell? ⟨kb,0,none⟩=some (.int .i64 (if fm=true then 0 else 1)))(hkl:kb<w.heap.size)(hB:B<=w.heap.size) :
  acy 236 #[.pointer (some ⟨kb,0,none⟩)] (λx=>!x.right fm) B w x:=by
 intro W am wn cm ak ck hW hE;have hs:=hW.size;have hbx:=aA W (.cells (aR x.op ⟨x.name.toArray⟩ ⟨x.module.toArray⟩ (decide (x.num<0)) (.slice am wn cm) x.yes (.slice ak x.aB.length ck) x.at_) 60);have HX:=ay (hx B am wn cm ak ck (W.alloc (.cells (aR x.op ⟨x.name.toArray⟩ ⟨x.module.toArray⟩ (decide (x.num<0)) (.slice am wn cm) x.yes (.slice ak x.aB.length ck) x.at_) 60)) (hE.frame (aW.of hbx)) (by simp;omega) hz)
 have hk1:=((hW.cell (p:=⟨kb,0,none⟩) hkl).trans hk)
 have hk2:=(hbx.cell (p:=⟨kb,0,none⟩) (by show kb<_;omega)).trans hk1;have hN:=aX W (.cells (aR x.op ⟨x.name.toArray⟩ ⟨x.module.toArray⟩ (decide (x.num<0)) (.slice am wn cm) x.yes (.slice ak x.aB.length ck) x.at_) 60)
 show Calls _ _ #[_,_] _ λr w'=>r=.returned (.bool (!x.right fm))/\Below W.heap.size W w'
 generalize (if fm=true then (0:Int) else 1)=kd at *;generalize x.right fm=rb at *;clear hx hE hk hk1 hz;go_enter Tryz.func236,Tryz.ntmps236
 go_upto_region 1 with fail
 change Code.wp _ _ _ _ (W.alloc (.cells (aR x.op ⟨x.name.toArray⟩ ⟨x.module.toArray⟩ (decide (x.num<0)) (.slice am wn cm) x.yes (.slice ak x.aB.length ck) x.at_) 60));generalize W.alloc _=w0 at hbx hN hk2 HX |-;obtain⟨y0,y1,y2,y3,y4,y5,y6,y7⟩:=aI hN;go_wp2_with (go_at_call 180;refine HX.out.mono ?_;rintro r w1 ⟨rfl,hb1⟩);go_ret;exact⟨rfl,hbx.trans (hb1.mono hbx.size)⟩
theorem Rj {op:Int}{n:Nat}(h1:1<=op)(h2:op<=24):(0<=CQ op/\countB op n=decide ((n:Int)=CQ op)/\CQ op<=3)\/(CQ op=-1/\countB op n=decide (n<=8)):=by
 unfold CQ countB
 by_cases h4:op<=4
 ·left;simp only[bR h4];refine⟨by omega,?_,by omega⟩;congr 1;exact propext (by omega)
 by_cases h6:op<=6
 ·left;simp only[aU h4,bR h6];refine⟨by omega,?_,by omega⟩;congr 1;exact propext (by omega)
 by_cases h20:op<=20\/op=22\/op=23
 ·left;simp only[aU h4,aU h6,bR h20];refine⟨by omega,?_,by omega⟩;congr 1;exact propext (by omega)
 by_cases h21:op=21
 ·left;simp only[aU h4,aU h6,aU h20,bR h21];refine⟨by omega,?_,by omega⟩;congr 1;exact propext (by omega)
 ·right;refine⟨?_,?_⟩<;>simp only[aU h4,aU h6,aU h20,aU h21]
theorem zn (fm:Bool):∀ l:List PZ,kG fm l=!(l.any λx=>!x.right fm)
 | []=>rfl
 | e :: l=>by rw[kG,zn fm l,List.any_cons];cases e.right fm<;>simp
theorem NU (fm:Bool)(e:PZ)(hf:e.fit)(IH:∀ x∈e.aB,Ld fm x/\x.aB.length<=1099511627776):Ld fm e:=by
 intro B am wn cm ae ce w h hB hkl;obtain⟨f1,f2,f3,-,-⟩:=PZ.uS hf;have Ip:nP (λb=>b<B) w e.num (.slice am wn cm):=h.form.1;have hkz:=h.adp
 have hdef:e.right fm=(decide (1<=e.op) && (decide (e.op<=24) && (UN fm e.op && (vZ e.op e.name e.module && (xD e.op e.num e.yes && (countB e.op e.aB.length && kG fm e.aB)))))):=by
  rw[e.Jg,MQ];simp only[Bool.and_assoc]
 have HM:=ay (λW=>acv e.op fm W);have HK:=ay (λW=>YM e.op W)
 have hNA:=λW=>Vy e.op ⟨e.name.toArray⟩ ⟨e.module.toArray⟩ (decide (e.num<0)) am wn cm e.yes ae e.aB.length ce e.at_ W (by show e.name.toArray.size<=_;simp;omega) (by show e.module.toArray.size<=_;simp;omega)
 have hVA:=λW (hW:Below w.heap.size w W)=>Rb (λb=>b<B) e.op ⟨e.name.toArray⟩ ⟨e.module.toArray⟩ e.num am wn cm e.yes ae e.aB.length ce e.at_ W (YA.frame Ip (aW.of hW)) f3
 have HNA:=ay hNA;have HVA:=ay hVA
 have YP:=λ(W:World) (kb:Nat) (hW:Below w.heap.size w W) (hk:W.cell? ⟨kb,0,none⟩=some (.int .i64 (if fm=true then 0 else 1))) (hkl':kb<W.heap.size)=>yC 236 #[.pointer (some ⟨kb,0,none⟩)] (λx=>!x.right fm) (enters_of Tryz.func236 (by kernel_rfl) rfl) B ae ce e.aB W (λh0=>by
   obtain⟨b,off,q1,q2,q3,q4⟩:=hkz h0;refine⟨b,off,q1,q2,xw q3 hW.size,λi hi=>?_⟩;obtain⟨Ef,wn',Eh,Le,Lf,q5,q6⟩:=q4 i hi
   exact⟨Ef,wn',Eh,Le,Lf,q5.frame (aW.of hW),λj u hu=>(hW.cell (p:=⟨b,off+i * 8+j,none⟩) q3).trans (q6 j u hu)⟩) (by have:=hW.size;omega) hkl λx hx=>Ri fm x (IH x hx).1 (IH x hx).2 B kb W hk hkl' (by have:=hW.size;omega)
 have HCT:=ay YP;rw[zn] at hdef;have hkc:=Rj (op:=e.op) (n:=e.aB.length);clear hNA hVA YP Ip hkz h IH hf f1 f2 f3;have eN:vZ e.op (ByteArray.mk e.name.toArray).data.toList (ByteArray.mk e.module.toArray).data.toList=vZ e.op e.name e.module:=rfl;rw[eN] at HNA;clear eN;generalize vZ e.op e.name e.module=nb at *;generalize xD e.op e.num e.yes=vb at *;generalize UN fm e.op=mb at *;generalize (if fm=true then (0:Int) else 1)=kd at *;generalize e.right fm=res at *;generalize (e.aB.any λx=>!x.right fm)=an at *;have HD:=ay hdef;have Xh:=ay hkc;clear hdef hkc;generalize decide (e.num<0)=ng at *;generalize e.op=op at *;generalize e.aB.length=nk at *;generalize countB op nk=cb at *;generalize CQ op=kn at *;have hbw:=(aA w (.cells (aR op ⟨e.name.toArray⟩ ⟨e.module.toArray⟩ ng (.slice am wn cm) e.yes (.slice ae nk ce) e.at_) 60)).alloc (by simp) (.cells #[.int .i64 kd] 287);have hN:=(gZ (w.alloc (.cells (aR op ⟨e.name.toArray⟩ ⟨e.module.toArray⟩ ng (.slice am wn cm) e.yes (.slice ae nk ce) e.at_) 60)) (.cells #[.int .i64 kd] 287) w.heap.size (by simp)).trans (aX w (.cells (aR op ⟨e.name.toArray⟩ ⟨e.module.toArray⟩ ng (.slice am wn cm) e.yes (.slice ae nk ce) e.at_) 60));have hK:=aX (w.alloc (.cells (aR op ⟨e.name.toArray⟩ ⟨e.module.toArray⟩ ng (.slice am wn cm) e.yes (.slice ae nk ce) e.at_) 60)) (.cells #[.int .i64 kd] 287);rw[nG] at hK;go_enter Tryz.func180,Tryz.ntmps180
 go_upto_region 1 with fail
 change Code.wp _ _ _ _ ((w.alloc (.cells (aR op ⟨e.name.toArray⟩ ⟨e.module.toArray⟩ ng (.slice am wn cm) e.yes (.slice ae nk ce) e.at_) 60)).alloc (.cells #[.int .i64 kd] 287));generalize (w.alloc _).alloc _=w2 at hbw hN hK |-;have hl1:=(bP hN).1;have hl2:=(bP hK).1;have hz2:=hbw.size;obtain⟨y0,y1,y2,y3,y4,y5,y6,y7⟩:=aI hN
 have yk:w2.cell? ⟨w.heap.size+1,0,none⟩=some (.int .i64 kd):=by rw[aZ hK];rfl
 have fin:∀ W:World,res=false->Below w.heap.size w W->(Ending.returned (.bool false)=Ending.returned (.bool res)/\Below w.heap.size w W):=λ_ h1 h2=>⟨by rw[h1],h2⟩
 have Rk:=ay fin;clear fin
 by_cases c1:op<1
 ·have hr:Hid (res=false):=ay (by rw[HD.out,dX (by omega)];rfl)
  clear HD Xh HCT HNA HVA HK HM;go_wp2;go_ret;exact Rk.out _ hr.out hbw
 by_cases c2:24<op
 ·have hr:Hid (res=false):=ay (by rw[HD.out,dX (by omega:¬ op<=24)];cases decide (1<=op)<;>rfl)
  clear HD Xh HCT HNA HVA HK HM;go_wp2;go_ret;exact Rk.out _ hr.out hbw
 have hD2:res=(mb && (nb && (vb && (cb && !an)))):=by rw[HD.out,jV (by omega),jV (by omega)];rfl
 have HD2:=ay hD2;clear hD2 HD;have hkc:=Xh.out (by omega) (by omega);have NV:=ay hkc;clear hkc Xh
 cases mb with
 | false =>
  have hr:Hid (res=false):=ay (by rw[HD2.out];rfl);clear HD2 NV HCT HNA HVA HK;go_wp2_with (go_at_call 232;refine(HM.out _).mono ?_;rintro r w' ⟨rfl,rfl⟩);go_ret;exact Rk.out _ hr.out hbw
 | true =>
 cases nb with
 | false =>
  have hr:Hid (res=false):=ay (by rw[HD2.out];rfl);clear HD2 NV HCT HVA HK;go_wp2_with (first|(go_at_call 232;refine(HM.out _).mono ?_;rintro r w' ⟨rfl,rfl⟩)|(go_at_call 233;refine(HNA.out _).mono ?_;rintro r w3 ⟨rfl,hb3⟩));go_ret;exact Rk.out _ hr.out (hbw.trans (hb3.mono hz2))
 | true =>
 cases vb with
 | false =>
  have hr:Hid (res=false):=ay (by rw[HD2.out];rfl);clear HD2 NV HCT HK;go_wp2_with (first|(go_at_call 232;refine(HM.out _).mono ?_;rintro r w' ⟨rfl,rfl⟩)|(go_at_call 233;refine(HNA.out _).mono ?_;rintro r w3 ⟨rfl,hb3⟩;have rX:=hbw.trans (hb3.mono hz2);obtain⟨z0,z1,z2,z3,z4,z5,z6,z7⟩:=aI ((hb3.block w.heap.size hl1).trans hN))|(go_at_call 234;refine(HVA.out _ rX).mono ?_;rintro r w4 ⟨rfl,hb4⟩));go_ret;exact Rk.out _ hr.out (rX.trans (hb4.mono rX.size))
 | true =>
 have HD3:Hid (res=(cb && !an)):=ay (by rw[HD2.out];rfl);clear HD2
 go_upto_region 3 with (first|(go_at_call 232;refine(HM.out _).mono ?_;rintro r w' ⟨rfl,rfl⟩)|(go_at_call 233;refine(HNA.out _).mono ?_;rintro r w3 ⟨rfl,hb3⟩;have rX:=hbw.trans (hb3.mono hz2);obtain⟨z0,z1,z2,z3,z4,z5,z6,z7⟩:=aI ((hb3.block w.heap.size hl1).trans hN))|(go_at_call 234;refine(HVA.out _ rX).mono ?_;rintro r w4 ⟨rfl,hb4⟩))
 have qo:=rX.trans (hb4.mono rX.size);have hz3:=hb3.size;have hN4:=(hb4.block w.heap.size (by omega)).trans ((hb3.block w.heap.size hl1).trans hN);have hK4:=(hb4.block (w.heap.size+1) (by omega)).trans ((hb3.block (w.heap.size+1) hl2).trans hK);have hl4:=(bP hK4).1;clear z0 z1 z2 z3 z4 z5 z6 z7 y0 y1 y2 y3 y4 y5 y6 y7 yk hN hK HNA HVA HM;obtain⟨y0,y1,y2,y3,y4,y5,y6,y7⟩:=aI hN4
 have yk:w4.cell? ⟨w.heap.size+1,0,none⟩=some (.int .i64 kd):=by rw[aZ hK4];rfl
 have HC4:=ay (HCT.out w4 (w.heap.size+1) qo yk hl4);clear HCT hN4 hK4
 rcases NV.out with ⟨k0,k1,k3⟩|⟨k0,k1⟩
 ·by_cases hq:(nk:Int)=kn
  ·have HD4:Hid (res=!an):=ay (by rw[HD3.out,k1,jV hq];rfl)
   have h8:(nk:Int)<=8:=by omega
   have hne:((nk:Int) == kn)=true:=by rw[hq];exact beq_self_eq_true _
   have HQ:=ay hq;clear k1 NV HD3 hq;go_wp2_with (first|(go_at_call 235;refine(HK.out _).mono ?_;rintro r w' ⟨rfl,rfl⟩)|(go_at_call 225;refine HC4.out.mono ?_;rintro r w5 ⟨rfl,hb5⟩));go_ret;exact⟨bB (by rw[HD4.out]),qo.trans (hb5.mono qo.size)⟩
  ·have hr:Hid (res=false):=ay (by rw[HD3.out,k1,dX hq];rfl)
   have hne:((nk:Int) == kn)=false:=Ea.2 hq
   have hne2:((nk:Int) != kn)=true:=by rw[bne,hne];rfl
   clear k1 NV HD3 HC4 hq;go_wp2_with (go_at_call 235;refine(HK.out _).mono ?_;rintro r w' ⟨rfl,rfl⟩);go_ret;exact Rk.out _ hr.out qo
 ·subst k0
  by_cases hq:nk<=8
  ·have HD4:Hid (res=!an):=ay (by rw[HD3.out,k1,jV hq];rfl)
   have h8:(nk:Int)<=8:=by omega
   clear k1 NV HD3;go_wp2_with (first|(go_at_call 235;refine(HK.out _).mono ?_;rintro r w' ⟨rfl,rfl⟩)|(go_at_call 225;refine HC4.out.mono ?_;rintro r w5 ⟨rfl,hb5⟩));go_ret;exact⟨bB (by rw[HD4.out]),qo.trans (hb5.mono qo.size)⟩
  ·have hr:Hid (res=false):=ay (by rw[HD3.out,k1,dX hq];rfl)
   have h8:(8:Int)<(nk:Int):=by omega
   clear k1 NV HD3 HC4;go_wp2_with (go_at_call 235;refine(HK.out _).mono ?_;rintro r w' ⟨rfl,rfl⟩);go_ret;exact Rk.out _ hr.out qo
theorem zo (fm:Bool):∀ (n:Nat) (e:PZ),SizeOf.sizeOf e<n->e.fit->Ld fm e
 | 0,_,h,_=>absurd h (by omega)
 | n+1,e,hs,hf=>NU fm e hf λx hx=>⟨zo fm n x (by have:=e.wN x hx;omega) ((PZ.uS hf).2.2.2.2 x hx),by have:=(PZ.uS ((PZ.uS hf).2.2.2.2 x hx)).2.2.2.1;omega⟩
open Go.Shelf
variable{xs:List Value}{ao:Option Addr}{B e cap n:Nat}
attribute [local go_sem] Oper.semAt_some
def tQ (ks:List Int)(k:Nat):List (Int × Int):=(List.range k).map λ(j:Nat)=>((ks.length:Int) - 1 - (j:Int),ks[ks.length - 1 - j]?.getD 0)
theorem Rl (ks:List Int)(k:Nat):tQ ks (k+1)=tQ ks k++[((ks.length:Int) - 1 - (k:Int),ks[ks.length - 1 - k]?.getD 0)]:=by simp[tQ,List.range_succ]
theorem xM (ks:List Int)(k:Nat):(tQ ks k).length=k:=by simp[tQ]
theorem VA (ks:List Int)(k:Nat)(hk:k<=ks.length):(tQ ks k).map Prod.snd=ks.reverse.take k:=by
 apply List.ext_getElem
 ·simp[tQ,hk]
 ·intro i h1 h2
  simp only[oC,xM] at h1;simp[tQ,show ks.length - 1 - i<ks.length by omega]
def ru (n₀ Bs:Nat)(W W':World):Prop:=Below n₀ W W'/\W'.cell? ⟨Bs,0,none⟩=W.cell? ⟨Bs,0,none⟩
theorem ru.refl (n₀ Bs:Nat)(W:World):ru n₀ Bs W W:=⟨bQ _ _,rfl⟩
theorem ru.trans {n₀ Bs:Nat}{A B C:World}(h:ru n₀ Bs A B)(k:ru n₀ Bs B C):ru n₀ Bs A C:=⟨h.1.trans k.1,k.2.trans h.2⟩
theorem YQ (F:Fence)(n:Nat)(h8:F.fn 305)(hro:F.round=none)(hn:1<=n)(l Bs n₀ b off cap:Nat)(ks:List Int)(YR:ks.length<=1099511627776)(hb:b<n₀)(J Jx:List (Int × Int)->World->Prop)
  (hY:∀ pre x W,J pre W->pre.length<ks.length->YieldAt F (n - 1) Tryz.prog l #[.int .i64 x.1,.int .i64 x.2] W λe W' =>
   (e=.returned (.bool true)/\J (pre++[x]) W'/\ru n₀ Bs W W')\/(e=.returned (.bool false)/\Jx (pre++[x]) W'))
  (W:World) (hBs:W.cell? ⟨Bs,0,none⟩=some (.slice (some ⟨b,off,none⟩) ks.length cap)) (hc:∀ j,j<ks.length->W.cell? ⟨b,off+j,none⟩=some (.int .i64 (ks[j]?.getD 0))) (h0:J [] W) :
  CallsIn F n Tryz.prog 305 #[.func (.yield l) #[] #[],.pointer (some ⟨Bs,0,none⟩)] W λe W'=>(∃ v,e=.returned v) /\
   ((∃ ys,ys=tQ ks ks.length/\J ys W')\/(∃ pre,(∃ k,k<=ks.length/\pre=tQ ks k)/\Jx pre W')):=by
 refine callsIn_of_wp Tryz.func305 rfl h8 ?_ hro;simp only[Tryz.ntmps305,List.size_toArray,fu,jC,Nat.reduceAdd,Nat.reduceSub,Array.replicate_succ,Array.replicate_zero,List.push_toArray,List.append_toArray,uD,pJ]
 gi_wp2
 gi_loopw [3] (λi wr=>∃ k:Nat,k<=ks.length/\i=.int .i64 ((ks.length:Int) - 1 - (k:Int))/\J (tQ ks k) wr/\ru n₀ Bs W wr)
  (λi _=>(intOf i+1).toNat)
 case atStart=>exact⟨0,kJ _,by simp,h0,ru.refl _ _ _⟩
 case round =>
  obtain⟨k,hk,rfl,hJs,hnx⟩:=hrel;have ai7:=hnx.2.trans hBs
  by_cases hlt:k<ks.length
  ·obtain⟨m,hm⟩:∃ m:Nat,ks.length=m+k+1:=⟨ks.length - 1 - k,by omega⟩
   have e1:(ks.length:Int) - 1 - (k:Int)=(m:Int):=by omega
   have e2:ks.length - 1 - k=m:=by omega
   have hsucc:=Rl ks k;rw[e1,e2] at hsucc;rw[e1];have hcx:=(hnx.1.cell (p:=⟨b,off+m,none⟩) hb).trans (hc m (by omega));obtain⟨fn,tmps,assign,body,hy,hR⟩:=hY _ ((m:Int),ks[m]?.getD 0) wr hJs (by rw[xM];exact hlt);dsimp only at hy
   have hmI:(m:Int)<(ks.length:Int):=by omega
   have hm0:(0:Int)<=(m:Int):=by omega
   have HS:=ay hsucc;have HM:=ay hm;clear hsucc e1 e2 hm hc
   gi_wp2
   refine hR.mono ?_;rintro e W3 (⟨rfl,hJ3,eP⟩|⟨rfl,hJx3⟩)
   ·gi_wp2
    go_roundw
    case rel=>exact⟨k+1,by omega,congrArg (Value.int .i64) (by have:=HM.out;omega),by rw[HS.out];exact hJ3,hnx.trans eP⟩
    case measure=>simp only[intOf];omega
   ·gi_wp2
    refine nI (results_none rfl _ _ _) rfl ?_;exact⟨⟨_,rfl⟩,.inr ⟨_,⟨k+1,by omega,HS.out.symm⟩,hJx3⟩⟩
  ·obtain rfl:k=ks.length:=by omega
   have e1:(ks.length:Int) - 1 - (ks.length:Int)=-1:=by omega
   rw[e1];clear e1 hlt
   gi_wp2
   go_end0
   exact⟨⟨_,rfl⟩,.inl ⟨_,rfl,hJs⟩⟩
theorem Lg (F:Fence)(n:Nat)(h8:F.fn 305)(hro:F.round=none)(l Bs:Nat)(ao:Option Addr)(cap:Nat)(J:List (Int × Int)->World->Prop)(W:World)(hBs:W.cell? ⟨Bs,0,none⟩=some (.slice ao 0 cap))(h0:J [] W) :
  CallsIn F n Tryz.prog 305 #[.func (.yield l) #[] #[],.pointer (some ⟨Bs,0,none⟩)] W λe W'=>(∃ v,e=.returned v)/\J [] W':=by
 refine callsIn_of_wp Tryz.func305 rfl h8 ?_ hro;simp only[Tryz.ntmps305,List.size_toArray,fu,jC,Nat.reduceAdd,Nat.reduceSub,Array.replicate_succ,Array.replicate_zero,List.push_toArray,List.append_toArray,uD,pJ]
 gi_wp2
 gi_loopw [3] (λi wr=>i=.int .i64 (-1)/\J [] wr) (λ_ _=>0)
 case atStart=>exact⟨rfl,h0⟩
 case round =>
  obtain⟨rfl,hJs⟩:=hrel
  gi_wp2
  go_end0
  exact⟨⟨_,rfl⟩,hJs⟩
theorem acz (F:Fence)(n:Nat)(h6:F.fn 297)(hro:F.round=none)(a:Option Addr)(len cap:Nat)(w:World) :
  CallsIn F n Tryz.prog 297 #[.slice a len cap] w λe w'=>e=.returned (.func (.func 305) #[] #[.pointer (some ⟨w.heap.size,0,none⟩)])/\w'=w.alloc (.cells #[.slice a len cap] 46):=by
 refine callsIn_of_wp Tryz.func297 rfl h6 ?_ hro;simp only[Tryz.ntmps297,List.size_toArray,fu,jC,Nat.reduceAdd,Nat.reduceSub,Array.replicate_succ,Array.replicate_zero,List.push_toArray,List.append_toArray,uD,pJ]
 gi_wp2
 go_ret;exact⟨rfl,rfl⟩
theorem Rm (F:Fence)(n:Nat)(h8:F.fn 305)(hro:F.round=none)(hn:1<=n)(Bs n₀:Nat)(sv:Value)(ks:List Int)(YR:ks.length<=1099511627776)(w:World)(hBs:Bs<w.heap.size)(hn₀:n₀<=w.heap.size)
  (hc:w.cell? ⟨Bs,0,none⟩=some sv) (hI:Ints n₀ w sv ks) :
  SeqStopsK F n Tryz.prog 305 #[.pointer (some ⟨Bs,0,none⟩)] (λx:Int × Int=>#[Value.int .i64 x.1,Value.int .i64 x.2]) (ru n₀ Bs) (λys=>ys=tQ ks ks.length)
   (λpre=>∃ k,k<=ks.length/\pre=tQ ks k) ks.length w:=λl J Jx W hW _ _ hY h0=>by
 have hc':=(hW.cell (p:=⟨Bs,0,none⟩) hBs).trans hc;obtain⟨ao,cap,rfl,hcap,hf⟩:=(hI.below (hW.mono hn₀)).form
 by_cases h:0<ks.length
 ·obtain⟨b,off,rfl,hb,hcs⟩:=hf h
  exact YQ F n h8 hro hn l Bs n₀ b off cap ks YR hb J Jx hY W hc' (λj hj=>by rw[hcs j hj];simp[hj]) h0
 ·obtain rfl:ks=[]:=List.length_eq_zero_iff.1 (by omega)
  exact(Lg F n h8 hro l Bs ao cap J W hc' h0).mono λe W' ⟨he,hj⟩=>⟨he,.inl ⟨_,rfl,hj⟩⟩
attribute [local go_sem] Oper.semAt_some
def aed (l:List Int)(w:World)(e:Ending)(w':World):Prop:=∃ v,e=.returned v/\Ints w'.heap.size w' v l/\Below w.heap.size w w'
theorem wO {aj:List Nd}:∀ (g:Nat) (st out l:List Int),gF aj g st out=some l->out.length<=l.length
 | 0,st,out,l,h=>by rw[gF] at h;cases h
 | g+1,[],out,l,h=>by rw[gF] at h;injection h with h;subst h;exact bD _
 | g+1,i :: rest,out,l,h=>by
  rw[gF] at h
  split at h
  ·cases h
  ·split at h
   ·cases h
   ·split at h
    ·have:=wO g _ _ _ h
     simp only[bY,fu,jC] at this;omega
    ·split at h
     ·cases h
     ·exact wO g _ _ _ h
def YS (r:Nat):Deferred:={ target:=.collected r,args:=#[] }
def shutAll:World->List Nat->World
 | w,[]=>w
 | w,r :: rs=>shutAll (w.putObj r (.deferred none)) rs
theorem yD {B:Nat}{w0:World}:∀ (rs:List Nat) (w:World),(∀ r∈rs,B<=r)->B<=w.heap.size->Below B w0 w->Below B w0 (shutAll w rs)
 | [],w,_,_,hb=>hb
 | r :: rs,w,h,hB,hb=>by
  rw[shutAll];refine yD rs _ (λx hx=>h x (Dy _ hx)) (by simpa using hB) (hb.grown (grownBy_putObj' w r (.deferred none)) hB (λk e=>?_));cases e;exact h r Cu
theorem CU {F:Fence}{n:Nat}{P:Program}{fn:Func}{tmps:Array Value}{R:Ending->World->Prop}:∀ (rs:List Nat) (w:World),rs.Nodup->(∀ r∈rs,w.heap[r]?=some (.deferred (some []))) ->
  LeavesIn F n P fn tmps R [] .returning (shutAll w rs)->LeavesInM F n P fn tmps R (rs.map YS) .returning w
 | [],w,_,_,h=>h
 | r :: rs,w,hnd,hm,h=>by
  rw[List.nodup_cons] at hnd;refine⟨by simp,.inl ⟨r,_,rfl,run_takeDeferred (hm r Cu),CU rs _ hnd.2 (λx hx=>?_) h⟩⟩;rw[World.putObj_heap_other (λq=>hnd.1 (by rw[<- q];exact hx))];exact hm x (Dy _ hx)
theorem NW {B e sz n:Nat}{v:Value}{xs:List Value}:∀ (rs:List Nat) (w:World),rs.Nodup->(∀ r∈rs,w.heap[r]?=some (.deferred (some [])))->w.ownsRow B e sz v n xs->(shutAll w rs).ownsRow B e sz v n xs
 | [],w,_,_,h=>h
 | r :: rs,w,hnd,hm,h=>by
  rw[List.nodup_cons] at hnd;refine NW rs _ hnd.2 (λx hx=>?_) (ownsRow_putObj h _ (hm r Cu) rfl);rw[World.putObj_heap_other (λq=>hnd.1 (by rw[<- q];exact hx))];exact hm x (Dy _ hx)
theorem acA {m:Nat}{x:Value}(h:w.ownsRow B e 1 (.slice ao (m+1) cap) (m+1) (xs++[x])):w.ownsRow B e 1 (.slice ao m cap) m xs:=by
 obtain⟨hl,h⟩:=h
 rcases h with ⟨_,h0⟩|⟨g,c,cur,hv,hg,hh,hn,hm,hs,hx⟩
 ·omega
 ·simp only[Value.slice.injEq] at hv
  obtain⟨rfl,-,rfl⟩:=hv
  have hlx:xs.length=m * 1:=by simp at hl;omega
  refine⟨hlx,.inr ⟨g,cap,cur,rfl,hg,hh,by omega,hm,hs,?_⟩⟩;have h2:=congrArg (List.take (m * 1)) hx;rw[List.take_take,Nat.min_eq_left (by omega),List.take_left' hlx] at h2;exact h2
theorem YT {w':World}{sz:Nat}{v:Value}(h:w.ownsRow B e sz v n xs)(hs:∀ q,v.ownBlock=some q->w'.heap[q]?=w.heap[q]?):w'.ownsRow B e sz v n xs:=by
 refine⟨h.1,?_⟩
 rcases h.2 with hn|⟨g,cap,cur,hv,hg,hh,hr⟩
 ·exact .inl hn
 ·exact .inr ⟨g,cap,cur,hv,hg,(hs g (by rw[hv];rfl)).trans hh,hr⟩
theorem acB (h:w.ownsRow B e 1 (.slice ao n cap) n xs):n<=cap:=by
 rcases h.2 with ⟨hv,h0⟩|⟨g,c,cur,hv,hg,hh,hn,_⟩
 ·omega
 ·simp only[Value.slice.injEq] at hv
  omega
theorem YU {g off:Nat}(h:w.ownsRow B e 1 (.slice (some ⟨g,off,none⟩) n cap) n xs){j:Nat}{u:Value}(hj:xs[j]?=some u):w.cell? ⟨g,off+j,none⟩=some u:=by
 obtain⟨ao,c,hv,_,hl,hc⟩:=Sl.fQ h;obtain⟨h1,h2⟩:=pE hj;obtain⟨b,o,ha,_,hcell⟩:=hc (by omega);simp only[Value.slice.injEq] at hv;rw[ha] at hv;obtain⟨hv,_⟩:=hv;simp only[Option.some.injEq,Addr.mk.injEq] at hv;obtain⟨rfl,rfl,_⟩:=hv;rw[hcell j h1,h2]
theorem NY {β:Type}{P:Nat->Prop}{w₀:World}(hB:w₀.heap.size<=B):OwnFrom B (λ(_:β) W=>aW P w₀ W):=λ_ _ _ _ hs hg hr =>
 ⟨jq hs.1 hg.size,λb hb hl=>by
  rw[hg.block b (xw hl hs.1) (λe=>by have:=(hr b e.symm).1;omega)]
  exact hs.2 b hb hl⟩
structure ahC (B b0:Nat) (w:World) (tcs:Array Value) (st out:List Int) (ov BH:Value) (rs:List Nat) (wr:World):Prop where
 box:Boxed wr (b0+1+1) 46 ov
 row:wr.ownsRow b0 3 1 ov st.length (st.reverse.map (Value.int .i64))
 form:∃ g cap,ov=.slice (some ⟨g,0,none⟩) st.length cap/\BH.ownBlock≠some g
 out:wr.ownsRow b0 3 1 BH out.length (out.map (Value.int .i64))
 tree:wr.heap[b0]?=some (.cells tcs 93 (0,0))
 below:Below b0 w wr
 nd:rs.Nodup
 few:st.length<=549755813888
 marks:∀ r∈rs,b0<=r/\wr.heap[r]?=some (.deferred (some []))
def af3 (at_ an:Option Addr)(ah:List Tok)(aj:List Nd)(ct cn:Nat)(n:Int)(b0:Nat)(BH:Value)(rs:List Nat)(a:Act):Prop :=
 ∃ u7 u8 u10 u13 u14 u15 u16 u17 u18 u19 u20 u21 u22 u23 u24 u25 u26 u27 u28 u29 u30 u31 u32 u33 u34 u35 u36 u37 u38 u39 u40 u41 u42 u43 u44 u45 u46 u47 u48:Value,a={ tmps:=#[.agg #[.slice at_ ah.length ct,.slice an aj.length cn],.int .i64 n,.pointer (some ⟨b0,0,none⟩),undef,.slice none 0 0,BH,.pointer (some ⟨b0+1+1,0,none⟩),u7,u8,undef,u10,.int .i64 n,.slice (some ⟨b0+1,0,none⟩) 1 1,u13,u14,u15,u16,u17,u18,u19,u20,u21,u22,u23,u24,u25,u26,u27,u28,u29,u30,u31,u32,u33,u34,u35,u36,u37,u38,u39,u40,u41,u42,u43,u44,u45,u46,u47,u48,undef],defers:=rs.map YS }
def ahD (at_ an:Option Addr)(ah:List Tok)(aj:List Nd)(ct cn:Nat)(n:Int)(l:List Int)(B:Nat)(w:World)(gk:Nat)(a:Act)(wr:World):Prop :=
 ∃ (st out:List Int) (ov BH:Value) (rs:List Nat),gF aj gk st out=some l/\ahC B w.heap.size w #[.slice at_ ah.length ct,.slice an aj.length cn] st out ov BH rs wr/\af3 at_ an ah aj ct cn n w.heap.size BH rs a
def af4 (b0 ob g m _cap:Nat)(xs:List Int)(W0:World)(pre:List (Int × Int))(W:World):Prop :=
 (∃ v,Boxed W ob 46 v/\W.ownsRow b0 3 1 v (m+pre.length) ((xs++pre.map Prod.snd).map (Value.int .i64))/\∃ gg cp,v=.slice (some ⟨gg,0,none⟩) (m+pre.length) cp/\(gg=g\/W0.heap.size<=gg))
theorem Rn (B:Nat)(tv nv:Value)(ah:List Tok)(aj:List Nd)(n:Int)(l:List Int)(g:Nat)(w:World)(h:lW B w (.agg #[tv,nv]) ah aj)(hB:B<=w.heap.size)(_hn:aj.length<=1099511627776)(hl:gF aj g [n] []=some l)(hlen:l.length<=549755813888) :
  Calls Tryz.prog 269 #[.agg #[tv,nv],.int .i64 n] w (aed l w):=by
 obtain⟨i0,hi,hz0,hz1,hz2⟩:=info_parts Tryz.nQ;obtain⟨at_,ct,an,cn,hv⟩:=h.slices;simp only[Value.agg.injEq,Array.mk.injEq,List.cons.injEq,and_true] at hv;obtain⟨rfl,rfl⟩:=hv;have HT:=ay h;have HL:=ay hl;clear h hl;refine(callsIn_wide (n:=8)).1 ?_;refine callsIn_of_wp_marks Tryz.func269 rfl trivial ?_ rfl;simp only[Tryz.ntmps269,List.size_toArray,fu,jC,Nat.reduceAdd,Nat.reduceSub,Array.replicate_succ,Array.replicate_zero,List.push_toArray,List.append_toArray,uD,pJ]
 gi_wp2
 refine wpIn_loop_ghost (λgk a wr=>ahD at_ an ah aj ct cn n l B w gk a wr) g ?start ?round
 case start =>
  have e1:=aX w (.cells #[.slice at_ ah.length ct,.slice an aj.length cn] 93);have e2:=aX (w.alloc (.cells #[.slice at_ ah.length ct,.slice an aj.length cn] 93)) (.cells #[.int .i64 n] 3);have hb:Below w.heap.size w (((w.alloc (.cells #[.slice at_ ah.length ct,.slice an aj.length cn] 93)).alloc (.cells #[.int .i64 n] 3)).alloc (.cells #[.slice (some ⟨w.heap.size+1,0,none⟩) 1 1] 46)):=(((bQ _ w).alloc (bD _) _).alloc (by simp) _).alloc (by simp;omega) _;refine⟨[n],[],.slice (some ⟨w.heap.size+1,0,none⟩) 1 1,.slice none 0 0,[],HL.out,⟨?_,?_,⟨_,_,rfl,by simp[Value.ownBlock]⟩,World.ownsRow_nil _ _ _ _,?_,hb,List.nodup_nil,by simp,λr hr=>by cases hr⟩,?_⟩
  ·have:=aX ((w.alloc (.cells #[.slice at_ ah.length ct,.slice an aj.length cn] 93)).alloc (.cells #[.int .i64 n] 3)) (.cells #[.slice (some ⟨w.heap.size+1,0,none⟩) 1 1] 46)
   simp only[nG] at this;exact this
  ·simp only[nG] at e2
   exact⟨rfl,.inr ⟨_,1,#[.int .i64 n],rfl,by omega,(gZ _ _ _ (by simp)).trans e2,bD _,by decide,rfl,rfl⟩⟩
  ·exact(gZ _ _ _ (by simp;omega)).trans ((gZ _ _ _ (by simp)).trans e1)
  ·repeat apply Exists.intro
   rfl
 case round =>
  rintro gk a wr ⟨st,out,ov,BH,rs,hm,hI,hA⟩;obtain⟨u7,u8,u10,u13,u14,u15,u16,u17,u18,u19,u20,u21,u22,u23,u24,u25,u26,u27,u28,u29,u30,u31,u32,u33,u34,u35,u36,u37,u38,u39,u40,u41,u42,u43,u44,u45,u46,u47,u48,rfl⟩:=hA;dsimp only
  cases gk with
  | zero=>rw[gF] at hm;cases hm
  | succ gk =>
  obtain⟨DT,hrow,⟨gb,cap,rfl,hout⟩,hor,htr,hbl,hnd,Lb,hmk⟩:=hI;have hf0:=DT.frozen
  cases st with
  | nil =>
   have hc0:wr.cell? ⟨w.heap.size+1+1,0,none⟩=some (.slice (some ⟨gb,0,none⟩) 0 cap):=DT.cell;rw[gF] at hm
   injection hm with hm
   subst hm;clear DT hrow
   gi_wp2
   have hsz:=hbl.size;refine CU rs wr hnd (λr hr=>(hmk r hr).2) ⟨BH,by simp[results,Tryz.results269,go_sem],BH,rfl,Sl.fQ (NW rs wr hnd (λr hr=>(hmk r hr).2) hor),yD rs wr (λr hr=>(hmk r hr).1) hsz hbl⟩
  | cons i rest =>
   rw[gF] at hm
   by_cases hi0:i<0
   ·rw[bR hi0] at hm;cases hm
   rw[aU hi0] at hm
   obtain⟨k,rfl⟩:∃ k:Nat,i=(k:Int):=⟨i.toNat,by omega⟩
   rw[Int.toNat_natCast] at hm
   by_cases hk':aj.length<=k
   ·rw[List.getElem?_eq_none (by omega)] at hm;cases hm
   have hk:k<aj.length:=by omega
   rw[AY hk] at hm;simp only at hm;obtain⟨b,off,cap2,kv,hnv,hbB,hx0,hx1,hx2,hkv⟩:=HT.out.node hk;simp only[Value.slice.injEq] at hnv;obtain⟨rfl,-,rfl⟩:=hnv
   have af5:rest.reverse.length=rest.length:=by simp
   have hrow':wr.ownsRow w.heap.size 3 1 (.slice (some ⟨gb,0,none⟩) (rest.length+1) cap) (rest.length+1) (rest.reverse.map (Value.int .i64)++[.int .i64 k]):=by
    have:=hrow;rw[List.reverse_cons,xZ] at this;exact this
   have aee:=acA hrow'
   have hxi:wr.cell? ⟨gb,rest.length,none⟩=some (.int .i64 k):=by
    have:=YU hrow' (j:=rest.length) (u:=.int .i64 k) (by rw[abj (by simp)];simp);rw[Nat.zero_add] at this;exact this
   have hc0:wr.cell? ⟨w.heap.size+1+1,0,none⟩=some (.slice (some ⟨gb,0,none⟩) (rest.length+1) cap):=DT.cell;have T:=Boxed.set (.slice (some ⟨gb,0,none⟩) rest.length cap) DT;have hne0:some (w.heap.size+1+1)≠(Value.slice (some ⟨gb,0,none⟩) rest.length cap).ownBlock:=DT.not_row (e:=3) (by decide) aee
   have nK:(k:Int)<(aj.length:Int):=by omega
   have hrl:rest.length<=549755813888:=by simp only[fu] at Lb;omega
   have hcap:=acB hrow';have hob:=DT.lt;have R5:=iO (a:=⟨w.heap.size+1+1,0,none⟩) aee hne0 (.slice (some ⟨gb,0,none⟩) rest.length cap);have O5:=iO (a:=⟨w.heap.size+1+1,0,none⟩) hor (DT.not_row (by decide) hor) (.slice (some ⟨gb,0,none⟩) rest.length cap);have E5:(wr.setCell ⟨w.heap.size+1+1,0,none⟩ (.slice (some ⟨gb,0,none⟩) rest.length cap)).heap[w.heap.size]?=_:=(qm _ _ _ _ (by show w.heap.size≠w.heap.size+1+1;omega)).trans htr;have B5:=hbl.setCell (p:=⟨w.heap.size+1+1,0,none⟩) (by show w.heap.size<=w.heap.size+1+1;omega) (.slice (some ⟨gb,0,none⟩) rest.length cap)
   have M5:∀ r∈rs,w.heap.size<=r/\(wr.setCell ⟨w.heap.size+1+1,0,none⟩ (.slice (some ⟨gb,0,none⟩) rest.length cap)).heap[r]?=some (.deferred (some [])):=λr hr=>⟨(hmk r hr).1,(qm _ _ _ _ (by
    show r≠w.heap.size+1+1;rintro rfl;have:=(hmk _ hr).2;rw[show wr.heap[w.heap.size+1+1]?=_ from DT] at this
    cases this)).trans (hmk r hr).2⟩
   have X0:=(B5.cell (p:=⟨b,off+k * 3,none⟩) (by show b<_;omega)).trans hx0;have X1:=(B5.cell (p:=⟨b,off+k * 3+1,none⟩) (by show b<_;omega)).trans hx1;have X2:=(B5.cell (p:=⟨b,off+k * 3+2,none⟩) (by show b<_;omega)).trans hx2;have K5:=(hkv.mono hB).below B5;clear hkv hx0 hx1 hx2 hrow hrow' htr hbl hor hmk Lb aee af5
   gi_upto_region 6 with (fail)
   clear hc0 hf0 hxi hcap;generalize wr.setCell ⟨w.heap.size+1+1,0,none⟩ _=W5 at T R5 O5 E5 B5 M5 X0 X1 X2 K5 |-
   have q0:W5.cell? ⟨w.heap.size,1,none⟩=some (.slice (some ⟨b,off,none⟩) aj.length cn):=by rw[aZ E5];rfl
   clear DT;obtain⟨vH,vI,rfl,_,_⟩:=K5.form
   gi_upto_region 7 with (fail)
   have hs5:=B5.size;have E6:=(gZ W5 (.cells #[.int .i64 aj[k].kind,.int .i64 aj[k].tok,.slice vH aj[k].aB.length vI] 156) w.heap.size (bP E5).1).trans E5;have R6:=R5.alloc (.cells #[.int .i64 aj[k].kind,.int .i64 aj[k].tok,.slice vH aj[k].aB.length vI] 156);have O6:=O5.alloc (.cells #[.int .i64 aj[k].kind,.int .i64 aj[k].tok,.slice vH aj[k].aB.length vI] 156);have T6:=T.alloc (.cells #[.int .i64 aj[k].kind,.int .i64 aj[k].tok,.slice vH aj[k].aB.length vI] 156);have B6:=B5.alloc hs5 (.cells #[.int .i64 aj[k].kind,.int .i64 aj[k].tok,.slice vH aj[k].aB.length vI] 156)
   have M6:∀ r∈rs,w.heap.size<=r/\(W5.alloc (.cells #[.int .i64 aj[k].kind,.int .i64 aj[k].tok,.slice vH aj[k].aB.length vI] 156)).heap[r]?=some (.deferred (some [])):=λr hr=>⟨(M5 r hr).1,(gZ W5 _ r (bP (M5 r hr).2).1).trans (M5 r hr).2⟩
   have N6:=aX W5 (.cells #[.int .i64 aj[k].kind,.int .i64 aj[k].tok,.slice vH aj[k].aB.length vI] 156);have K6:=K5.below ((bQ w.heap.size W5).alloc hs5 (.cells #[.int .i64 aj[k].kind,.int .i64 aj[k].tok,.slice vH aj[k].aB.length vI] 156));clear E5 R5 O5 T B5 M5 K5 X0 X1 X2 q0;generalize W5.heap.size=xb at N6 |-;generalize W5.alloc _=W6 at N6 E6 R6 O6 T6 B6 M6 K6 |-
   have x0:W6.cell? ⟨xb,0,none⟩=some (.int .i64 aj[k].kind):=by rw[aZ N6];rfl
   have x1:W6.cell? ⟨xb,1,none⟩=some (.int .i64 aj[k].tok):=by rw[aZ N6];rfl
   have x2:W6.cell? ⟨xb,2,none⟩=some (.slice vH aj[k].aB.length vI):=by rw[aZ N6];rfl
   have hs6:=B6.size;clear hs5 N6
   by_cases CV:aj[k].kind=19
   ·rw[bR CV] at hm
    rw[CV] at x0;have hol:=wO _ _ _ _ hm;simp only[bY,fu,jC] at hol;have HM:=ay hm;clear hm K6 x2;generalize aj[k].tok=tk at x1 HM
    gi_wp2_with (gi_at_builtin;refine wpListIn_append_own_at _ rfl _ _ 46 rfl w.heap.size 3 i0 (.int .i64 0) 1 8 Tryz.underlying46 hi hz0 hz1 hz2 rfl (by decide) BH _ _ rfl (O6.alloc _) ⟨W6.heap.size,0,none⟩ 1 1 [.int .i64 tk] rfl rfl (cell_one_new _ _ _) (by simp[Value.oneCell']) (by unfold maxLen;omega) (by omega) (by simp;omega) ?_;intro v' w1 hown' hgrow _ ahE;obtain⟨g',jw,rfl⟩:=ownsRow_succ hown')
    have Yj:gb≠W6.heap.size:=by
     rcases R6.2 with ⟨hv,_⟩|⟨gg,c9,cur,hv,_,hgg,_⟩
     ·cases hv
     ·simp only[Value.slice.injEq,Option.some.injEq,Addr.mk.injEq] at hv
      have:=(bP hgg).1;omega
    have hg':g'≠gb:=by
     rintro rfl
     rcases ahE with q|q
     ·exact hout q.symm
     ·simp only[Value.ownBlock,nG,Option.some.injEq] at q
      have:=(R6.lt g' rfl).2;omega
    have ahF:∀ q,BH.ownBlock=some q->w.heap.size<=q:=λq hq=>(O6.lt q hq).1
    refine⟨gk,by omega,rest,out++[tk],.slice (some ⟨gb,0,none⟩) rest.length cap,.slice (some ⟨g',0,none⟩) (out.length+1) jw,rs,HM.out,⟨?_,?_,⟨gb,cap,rfl,λq=>hg' (lG q)⟩,?_,?_,?_,hnd,by omega,?_⟩,?_⟩
    ·exact(T6.alloc (.cells #[.int .i64 tk] 3)).kept hgrow ((T6.alloc (.cells #[.int .i64 tk] 3)).not_row (by decide) (O6.alloc (.cells #[.int .i64 tk] 3)))
    ·have:=(R6.alloc (.cells #[.int .i64 tk] 3)).kept hgrow (.inr λq=>hout q.symm)
     simpa using this
    ·simpa using hown'
    ·exact iW (O6.alloc _) hgrow ((gZ W6 (.cells #[.int .i64 tk] 3) w.heap.size (bP E6).1).trans E6) (by decide)
    ·exact(B6.alloc hs6 _).grown hgrow (by simp;omega) ahF
    ·intro r hr
     refine⟨(M6 r hr).1,?_⟩;have hrl:=(bP (M6 r hr).2).1;rw[hgrow.block r (by simp;omega) (λq=>?_)]
     ·exact(gZ W6 _ r hrl).trans (M6 r hr).2
     ·rcases O6.2 with ⟨hv,_⟩|⟨gg,c9,cur,hv,_,hgg,_⟩
      ·rw[hv] at q;cases q
      ·rw[hv] at q
       simp only[Value.ownBlock,Option.some.injEq] at q;subst q;rw[(M6 r hr).2] at hgg;cases hgg
    ·repeat apply Exists.intro
     rfl
   ·rw[aU CV] at hm
    by_cases hbig:549755813888<(aj[k].aB++rest).length
    ·rw[bR hbig] at hm;cases hm
    rw[aU hbig] at hm;rw[bY] at hbig
    have hkd:(aj[k].kind == 19)=false:=by simpa using CV
    have HM:=ay hm;have HB:=ay hbig;clear hm x1 CV hbig
    gi_wp2_with (refine⟨trivial,?_⟩;gi_at_call 297;refine(acz Fence.wide _ trivial rfl _ _ _ _).mono ?_;rintro e w' ⟨rfl,rfl⟩)
    have aef:W6.heap.size<(W6.alloc (.cells #[.slice vH aj[k].aB.length vI] 46)).heap.size:=by simp
    have Bk:=Boxed.new W6 46 (.slice vH aj[k].aB.length vI);have T7:=T6.alloc (.cells #[.slice vH aj[k].aB.length vI] 46);have R7:=R6.alloc (.cells #[.slice vH aj[k].aB.length vI] 46);have O7:=O6.alloc (.cells #[.slice vH aj[k].aB.length vI] 46);have E7:=(gZ W6 (.cells #[.slice vH aj[k].aB.length vI] 46) w.heap.size (bP E6).1).trans E6;have B7:=B6.alloc hs6 (.cells #[.slice vH aj[k].aB.length vI] 46);have K7:=K6.below ((bQ w.heap.size W6).alloc hs6 (.cells #[.slice vH aj[k].aB.length vI] 46))
    have M7:∀ r∈rs,w.heap.size<=r/\(W6.alloc (.cells #[.slice vH aj[k].aB.length vI] 46)).heap[r]?=some (.deferred (some [])):=λr hr=>⟨(M6 r hr).1,(gZ W6 _ r (bP (M6 r hr).2).1).trans (M6 r hr).2⟩
    have ahG:=T6.lt;clear T6 R6 O6 E6 B6 K6 M6 x0 x2;generalize W6.heap.size=bs at Bk aef hs6 ahG |-;generalize W6.alloc _=W7 at Bk T7 R7 O7 E7 B7 K7 M7 aef |-;generalize aj[k].aB=ks at Bk HM HB K7 |-;have hgb:w.heap.size<=gb/\gb<W7.heap.size:=R7.lt gb rfl
    have aiO:bs≠gb:=by
     have:=Bk.not_row (e:=3) (by decide) R7;rintro rfl;exact this rfl
    refine wpIn_rangeFunc_ownG rfl (by decide) (gf:=305) (lb:=#[.pointer (some ⟨bs,0,none⟩)]) rfl trivial (enters_of Tryz.func305 (by kernel_rfl) rfl)
     (Rm Fence.wide 7 trivial rfl (by decide) bs w.heap.size _ ks (by have:=HB.out;omega) W7 aef (by omega) Bk.cell K7) (fun {_ _ _} h1 h2=>ru.trans h1 h2) ?kb (bQ _ _) (λ_=>rfl)
     (λpre W=>af4 w.heap.size (w.heap.size+1+1) gb rest.length cap rest.reverse W7 pre W/\(aW (λq=>q≠w.heap.size+1+1/\q≠gb) W7 W/\Below w.heap.size w W))
     (λ_ _ _=>False)
     (OwnFrom.and (Own.from (holdsRow_own w.heap.size (w.heap.size+1+1) 46 3 1 (λpre:List (Int × Int)=>rest.length+pre.length) (λpre=>(rest.reverse++pre.map Prod.snd).map (Value.int .i64)) (λpre v=>∃ gg cp,v=.slice (some ⟨gg,0,none⟩) (rest.length+pre.length) cp/\(gg=gb\/W7.heap.size<=gg))) _) (OwnFrom.and (NY (bD _)) (ownFrom_below (bD _) (by omega))))
     (λ_ _ _ _ _ hs _ _=>hs)
     ⟨⟨_,T7,by simpa using R7,gb,cap,rfl,.inl rfl⟩,aW.refl _ _,B7⟩
     ?a1 ?assign ?body ?done ?stop
    case kb =>
     intro W lq o o' hl ho hc hw
     have hbl:bs<lq:=by omega
     exact⟨belowK_b (w:=W7) (by omega) W lq o o' hl ho hc hw,yK (a:=⟨bs,0,none⟩) (World.putObj_heap_other (Nat.ne_of_lt hbl))⟩
    case assign =>
     intro l x W K hK
     gi_wp2
     exact hK
    case body =>
     rintro lp pre x W ⟨⟨v,hbx,hrow,gg,cp,rfl,hgg⟩,dD,hBW⟩ hlt;have hc:=hbx.cell;have hWs:=hBW.size;have hB2:=HB.out
     gi_wp2_with (gi_at_builtin;refine wpListIn_append_own_at _ rfl _ _ 46 rfl w.heap.size 3 i0 (.int .i64 0) 1 8 Tryz.underlying46 hi hz0 hz1 hz2 rfl (by decide) (.slice (some ⟨gg,0,none⟩) (rest.length+pre.length) cp) _ _ rfl (hrow.alloc _) ⟨W.heap.size,0,none⟩ 1 1 [.int .i64 x.2] rfl rfl (cell_one_new _ _ _) (by simp[Value.oneCell']) (by unfold maxLen;omega) (by omega) (by simp;omega) ?_;intro v' w1 hown' hgrow _ ahH;obtain⟨g',jw,rfl⟩:=ownsRow_succ hown';obtain⟨hv1,hv2,hr2,hk2,hb2⟩:=hbx.appended (by decide) hrow hWs (by omega) hown' hgrow;have hc1:=hv1.cell;have hf1:=hv1.frozen)
     have hfr:∀ q,q<W.heap.size->q≠w.heap.size+1+1->q≠gg->(w1.setCell ⟨w.heap.size+1+1,0,none⟩ (.slice (some ⟨g',0,none⟩) (rest.length+pre.length+1) jw)).heap[q]?=W.heap[q]?:=λq h1 h2 h3 =>
      (qm _ _ _ _ h2).trans ((hgrow.block q (by simp;omega) (λe=>h3 (lG e))).trans (gZ W _ q h1))
     have afM:=dD.1;refine⟨hk2.from _,⟨hb2,yK (a:=⟨bs,0,none⟩) (hfr bs (by omega) (by omega) (by omega))⟩,⟨_,hv2,?_,g',jw,?_,?_⟩,⟨jq dD.1 hk2.size,λq hq hl=>(hfr q (by omega) hq.1 (by omega)).trans (dD.2 q hq hl)⟩,hBW.trans hb2⟩
     ·simpa [vN] using hr2
     ·simp[vN]
     ·simp only[Value.ownBlock,nG,Option.some.injEq] at ahH
      omega
    case done =>
     rintro D ys W hD rfl ⟨⟨v,hbx,hrow,gg,cp,rfl,hgg⟩,dD,hBW⟩ hK;rw[xM,VA _ _ (bD _),Ba (by simp)] at hrow;rw[xM] at hbx;have hB2:=HB.out
     have af6:w.heap.size≠gb:=λq=>by
      have:=own_ne R7 E7 (by decide);exact this (by rw[q];rfl)
     gi_wp2
     refine⟨gk,by omega,ks++rest,out,.slice (some ⟨gg,0,none⟩) (rest.length+ks.length) cp,BH,D :: rs,HM.out,⟨hbx,?_,⟨gg,cp,?_,?_⟩,?_,?_,hBW,?_,by simp;omega,?_⟩,?_⟩
     ·rw[List.reverse_append,bY,Nat.add_comm ks.length]
      exact hrow
     ·rw[bY,Nat.add_comm ks.length]
     ·intro q
      rcases hgg with rfl|hgg
      ·exact hout q
      ·have:=(O7.lt gg q).2
       omega
     ·refine YT O7 λq hq=>dD.2 q ⟨?_,?_⟩ (O7.lt q hq).2
      ·rintro rfl
       exact T7.not_row (by decide) O7 hq.symm
      ·rintro rfl
       exact hout hq
     ·exact(dD.2 w.heap.size ⟨by omega,af6⟩ (bP E7).1).trans E7
     ·rw[List.nodup_cons]
      refine⟨λq=>?_,hnd⟩;have:=(bP (M7 D q).2).1;omega
     ·intro r hr
      rcases nY.1 hr with rfl|hr
      ·exact⟨by omega,hK⟩
      ·refine⟨(M7 r hr).1,(dD.2 r ⟨?_,?_⟩ (bP (M7 r hr).2).1).trans (M7 r hr).2⟩
       ·rintro rfl
        have:=(M7 _ hr).2;rw[show W7.heap[w.heap.size+1+1]?=_ from T7] at this;cases this
       ·rintro rfl
        rcases R7.2 with ⟨hv,_⟩|⟨g9,c9,cur,hv,_,af7,_⟩
        ·cases hv
        ·simp only[Value.slice.injEq,Option.some.injEq,Addr.mk.injEq] at hv
         obtain⟨⟨rfl,-,-⟩,-,-⟩:=hv;rw[(M7 _ hr).2] at af7;cases af7
     ·repeat apply Exists.intro
      rfl
    case stop =>
     rintro D c pre W _ _ h _;exact h.elim
