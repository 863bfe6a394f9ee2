/- Walks and plain laws: ShowB, Pieces, PrintPlain, ShowC, ShowD, LeavesW1. -/
import Derived.Test.YtmhdgeekclhbbaaGreatDoorR10
import Derived.RangeFuncNested
import Derived.RangeFuncBound
import Derived.RangeFuncCalls
import Derived.RangeFuncLeaves
import Derived.RangeFuncWrites
import Derived.OwnWalkIn
import Derived.TacticsInMore
import Derived.LoopNIn
import Derived.LoopIn
import Derived.Sort.LoopGhostIn
set_option maxHeartbeats 16000000
set_option maxRecDepth 100000
set_option linter.unusedVariables false
set_option linter.unusedSimpArgs false
namespace Go.Proofs.YtmhdgeekclhbbaaGreatDoor
open Go.RowKit Go
def aQ (op:Int)(NM MD:ByteArray)(ng:Bool)(mv:Value)(ys:Bool)(kv:Value)(a_:Int):Array Value:=#[.int .i64 op,.string NM,.string MD,.bool ng,mv,.bool ys,kv,.int .i64 a_]
theorem aI {w:World}{b:Nat}{op:Int}{NM MD:ByteArray}{ng ys:Bool}{mv kv:Value}{a_:Int}(h:w.heap[b]?=some (.cells (aQ op NM MD ng mv ys kv a_) 64 (0,0))) :
    w.cell? ⟨b,0,none⟩=some (.int .i64 op)∧w.cell? ⟨b,1,none⟩=some (.string NM)∧w.cell? ⟨b,2,none⟩=some (.string MD)∧w.cell? ⟨b,3,none⟩=some (.bool ng)∧w.cell? ⟨b,4,none⟩=some mv∧w.cell? ⟨b,5,none⟩=some (.bool ys)∧w.cell? ⟨b,6,none⟩=some kv∧w.cell? ⟨b,7,none⟩=some (.int .i64 a_):=by
  refine⟨?_,?_,?_,?_,?_,?_,?_,?_⟩<;>(rw[aV h];rfl)
theorem Bg (s:ByteArray):s.toList.isEmpty=decide (s.data.toList=[])∧(s.toList == [])=decide (s.data.toList=[]):=by
  rw[Go.ByteArray.toList_eq]
  cases s.data.toList with
  | nil=>exact⟨rfl,rfl⟩
  | cons c l=>exact⟨by simp,by simp⟩
theorem Vm (op:Int)(NM MD:ByteArray)(ng:Bool)(am:Option Addr)(wn cm:Nat)(ys:Bool)(ae:Option Addr)(wk ce:Nat)(a_:Int)(w:World)(h1:NM.size≤1099511627776)(h2:MD.size≤1099511627776) :
    Calls Tryz.prog 197 #[.agg #[.int .i64 op,.string NM,.string MD,.bool ng,.slice am wn cm,.bool ys,.slice ae wk ce,.int .i64 a_]] w fun r w'=>r=.returned (.bool (kY op NM.data.toList MD.data.toList))∧Below w.heap.size w w':=by
  have P1:=ay (fun W=>lY NM W h1);have P2:=ay (fun W=>lY MD W h2);obtain⟨q1,q2⟩:=Bg MD;obtain⟨q3,q4⟩:=Bg NM
  have hN:kY op NM.data.toList MD.data.toList=if op=3∨op=22 then bf NM.data.toList && decide (MD.data.toList=[]) else if op=24 then bf NM.data.toList && (decide (MD.data.toList=[]) || bf MD.data.toList) else decide (NM.data.toList=[]) && decide (MD.data.toList=[]):=rfl
  rw[hN];clear hN;generalize decide (MD.data.toList=[])=eM at *;generalize decide (NM.data.toList=[])=eN at *;generalize bf NM.data.toList=pN at *;generalize bf MD.data.toList=pM at *
  obtain⟨res,hres⟩:∃ res,res=if op=3∨op=22 then pN && eM else if op=24 then pN && (eM || pM) else eN && eM:=⟨_,rfl⟩
  rw[← hres];have HR:=ay hres;clear hres;have hb0:=aB w (.cells (aQ op NM MD ng (.slice am wn cm) ys (.slice ae wk ce) a_) 64);have hB:=aY w (.cells (aQ op NM MD ng (.slice am wn cm) ys (.slice ae wk ce) a_) 64)
  have hs0:w.heap.size<(w.alloc (.cells (aQ op NM MD ng (.slice am wn cm) ys (.slice ae wk ce) a_) 64)).heap.size:=by simp
  go_enter Tryz.func197,Tryz.ntmps197
  go_upto_region 1 with fail
  change Code.wp _ _ _ _ (w.alloc (.cells (aQ op NM MD ng (.slice am wn cm) ys (.slice ae wk ce) a_) 64));generalize w.alloc _=w0 at hb0 hB hs0 ⊢;obtain⟨y0,y1,y2,-⟩:=aI hB
  by_cases h3:op=3∨op=22
  · rcases h3 with rfl|rfl<;>cases pN<;>cases eM<;>
      (go_wp2_with (go_at_call 42;refine(P1.out _).mono ?_;rintro r w1 ⟨rfl,hb1⟩;have z2:=(hb1.cell (p:=⟨w.heap.size,2,none⟩) hs0).trans y2)
       go_ret;exact⟨aT (by rw[HR.out];rfl),hb0.trans (hb1.mono hb0.size)⟩)
  · have H3:=ay h3
    have t3:(op == 3)=false:=BU.2 fun q=>h3 (.inl q)
    have t22:(op == 22)=false:=BU.2 fun q=>h3 (.inr q)
    by_cases h24:op=24
    · subst h24
      clear h3 t3 t22
      cases pN<;>cases eM<;>cases pM<;>
        (go_wp2_with (first|(go_at_call 42;(with_reducible refine(P1.out w0).mono ?_);rintro r w1 ⟨rfl,hb1⟩;have hs1:=hb1.size;have z2:=(hb1.cell (p:=⟨w.heap.size,2,none⟩) hs0).trans y2)|(go_at_call 42;(with_reducible refine(P2.out _).mono ?_);rintro r w2 ⟨rfl,hb2⟩))
         go_ret;first|exact⟨aT (by rw[HR.out];rfl),hb0.trans (hb1.mono hb0.size)⟩|exact⟨aT (by rw[HR.out];rfl),(hb0.trans (hb1.mono hb0.size)).trans (hb2.mono (by omega))⟩)
    · have H24:=ay h24
      have t24:(op == 24)=false:=BU.2 h24;clear h3 h24
      cases eN<;>cases eM<;>(go_wp2;go_ret;exact⟨aT (by rw[HR.out,if_neg H3.out,if_neg H24.out];rfl),hb0⟩)
theorem abE (op:Int)(fm:Bool)(w:World):Calls Tryz.prog 196 #[.int .i64 op,.int .i64 (if fm=true then 0 else 1)] w fun r w'=>r=.returned (.bool (UG fm op))∧w=w':=by
  have h:UG fm op=if fm=true then decide (op≤20) else decide (op≠4):=rfl
  rw[h];clear h
  cases fm with
  | true =>
    simp only[if_true]
    have e:decide (op≤20)=decide (op<21):=by by_cases q:op≤20<;>simp<;>omega
    rw[e];go_enter Tryz.func196,Tryz.ntmps196;go_wp2;go_ret;exact⟨rfl,rfl⟩
  | false =>
    simp only[Bool.false_eq_true,if_false]
    have e:decide (op≠4)=!(op == 4):=by by_cases q:op=4<;>simp[q]
    rw[e];go_enter Tryz.func196,Tryz.ntmps196;go_wp2;go_ret;exact⟨rfl,rfl⟩
def Cq (op:Int):Int:=if op≤4 then 0 else if op≤6 then 1 else if op≤20∨op=22∨op=23 then 2 else if op=21 then 3 else -1
theorem Yy (op:Int)(w:World):Calls Tryz.prog 199 #[.int .i64 op] w fun r w'=>r=.returned (.int .i64 (Cq op))∧w=w':=by
  unfold Cq
  by_cases h4:op≤4
  · rw[if_pos h4]
    go_enter Tryz.func199,Tryz.ntmps199;go_wp2;go_ret;exact⟨rfl,rfl⟩
  rw[if_neg h4]
  have t4:4<op:=by omega
  by_cases h6:op≤6
  · rw[if_pos h6]
    go_enter Tryz.func199,Tryz.ntmps199;go_wp2;go_ret;exact⟨rfl,rfl⟩
  rw[if_neg h6]
  have t6:6<op:=by omega
  by_cases h20:op≤20
  · rw[if_pos (.inl h20)]
    go_enter Tryz.func199,Tryz.ntmps199;go_wp2;go_ret;exact⟨rfl,rfl⟩
  have t20:20<op:=by omega
  by_cases h22:op=22
  · subst h22
    rw[if_pos (.inr (.inl rfl))];go_enter Tryz.func199,Tryz.ntmps199;go_wp2;go_ret;exact⟨rfl,rfl⟩
  by_cases h23:op=23
  · subst h23
    rw[if_pos (.inr (.inr rfl))];go_enter Tryz.func199,Tryz.ntmps199;go_wp2;go_ret;exact⟨rfl,rfl⟩
  rw[if_neg (by rintro(h|h|h)<;>omega)];have t22:(op == 22)=false:=BU.2 h22;have t23:(op == 23)=false:=BU.2 h23
  by_cases h21:op=21
  · subst h21
    go_enter Tryz.func199,Tryz.ntmps199;go_wp2;go_ret;exact⟨rfl,rfl⟩
  rw[if_neg h21];have t21:(op == 21)=false:=BU.2 h21;clear h22 h23 h21;go_enter Tryz.func199,Tryz.ntmps199;go_wp2;go_ret;exact⟨rfl,rfl⟩
theorem Q6 (P:Nat→Prop)(op:Int)(NM MD:ByteArray)(n:Int)(am:Option Addr)(wn cm:Nat)(ys:Bool)(ae:Option Addr)(wk ce:Nat)(a_:Int)(w:World)(h:nD P w n (.slice am wn cm))(hn:n.natAbs<10 ^ 60) :
    Calls Tryz.prog 198 #[.agg #[.int .i64 op,.string NM,.string MD,.bool (decide (n<0)),.slice am wn cm,.bool ys,.slice ae wk ce,.int .i64 a_]] w fun r w'=>r=.returned (.bool (rV op n ys))∧Below w.heap.size w w':=by
  have HS:=ay (fun W (hW:Below w.heap.size w W)=>U7 P am wn cm n W (YA.frame h (aW.of hW)));have HT:=ay (fun W (hW:Below w.heap.size w W)=>NZ P am wn cm n W (XA.frame h (aW.of hW)) hn)
  have hV:rV op n ys=if op=1 then decide (0≤n) && decide ((jG n).length≤60) && !ys else decide (n=0) && (decide (op=2) || !ys):=rfl
  rw[hV];clear hV h hn;obtain⟨TX,hTX,eT⟩:=jq (jG n);rw[← hTX,aR];rw[show jG n=TX.data.toList from hTX.symm] at HT
  have HT:Hid (∀ W,Below w.heap.size w W→Calls Tryz.prog 66 #[.agg #[.bool (decide (n<0)),.slice am wn cm]] W fun r w'=>r=.returned (.string TX)∧Below W.heap.size W w'):=ay fun W hW=>(HT.out W hW).mono fun r w' q=>⟨by rw[q.1],q.2⟩
  have h0:decide (0≤n)=decide (0≤n.sign):=by
    rcases Int.lt_trichotomy n 0 with q|q|q
    · rw[Int.sign_eq_neg_one_of_neg q,dA (by omega),dA (by omega)]
    · subst q;rfl
    · rw[Int.sign_eq_one_of_pos q,iX (by omega),iX (by omega)]
  have h1:decide (n=0)=(n.sign == 0):=by
    rcases Int.lt_trichotomy n 0 with q|q|q
    · rw[Int.sign_eq_neg_one_of_neg q,dA (by omega)];rfl
    · subst q;rfl
    · rw[Int.sign_eq_one_of_pos q,dA (by omega)];rfl
  rw[h0,h1];clear h0 h1 hTX eT;generalize decide (n<0)=ng at *;generalize n.sign=sg at *
  obtain⟨res,hres⟩:∃ res,res=if op=1 then decide (0≤sg) && decide (TX.size≤60) && !ys else sg == 0 && (decide (op=2) || !ys):=⟨_,rfl⟩
  rw[← hres];have HR:=ay hres;clear hres;have hb0:=aB w (.cells (aQ op NM MD ng (.slice am wn cm) ys (.slice ae wk ce) a_) 64);have hB:=aY w (.cells (aQ op NM MD ng (.slice am wn cm) ys (.slice ae wk ce) a_) 64)
  have hs0:w.heap.size<(w.alloc (.cells (aQ op NM MD ng (.slice am wn cm) ys (.slice ae wk ce) a_) 64)).heap.size:=by simp
  go_enter Tryz.func198,Tryz.ntmps198
  go_upto_region 1 with fail
  change Code.wp _ _ _ _ (w.alloc (.cells (aQ op NM MD ng (.slice am wn cm) ys (.slice ae wk ce) a_) 64));generalize w.alloc _=w0 at hb0 hB hs0 ⊢;obtain⟨y0,y1,y2,y3,y4,y5,-⟩:=aI hB
  by_cases h1:op=1
  · subst h1
    have HR2:Hid (res=(decide (0≤sg) && decide (TX.size≤60) && !ys)):=ay (by rw[HR.out,if_pos rfl]);clear HR;generalize hg:decide (0≤sg)=g0 at HR2
    have hl2:decide (TX.size≤60)=decide ((TX.size:Int)≤60):=by by_cases q:TX.size≤60<;>simp<;>omega
    rw[hl2] at HR2;clear hl2;generalize hl:decide ((TX.size:Int)≤60)=l0 at HR2
    cases g0<;>cases l0<;>cases ys<;>
      (go_wp2_with (first|(go_at_call 253;refine(HS.out _ hb0).mono ?_;rintro r w1 ⟨rfl,hb1⟩;have hbw:=hb0.trans (hb1.mono hb0.size);have hs1:=hb1.size;have z3:=(hb1.cell (p:=⟨w.heap.size,3,none⟩) hs0).trans y3;have z4:=(hb1.cell (p:=⟨w.heap.size,4,none⟩) hs0).trans y4;have z5:=(hb1.cell (p:=⟨w.heap.size,5,none⟩) hs0).trans y5)|(go_at_call 66;refine(HT.out _ hbw).mono ?_;rintro r w2 ⟨rfl,hb2⟩;have x5:=(hb2.cell (p:=⟨w.heap.size,5,none⟩) (by show w.heap.size<_;omega)).trans z5))
       go_ret;first|exact⟨aT (by rw[HR2.out];rfl),hbw⟩|exact⟨aT (by rw[HR2.out];rfl),hbw.trans (hb2.mono (by omega))⟩)
  · have HR2:Hid (res=(sg == 0 && (decide (op=2) || !ys))):=ay (by rw[HR.out,if_neg h1])
    clear HR;have t1:(op == 1)=false:=BU.2 h1
    have t2:(op == 2)=decide (op=2):=by
      by_cases q:op=2
      · subst q;rfl
      · rw[dA q];exact BU.2 q
    generalize decide (op=2)=d2 at *;generalize hg:(sg == 0)=g0 at *;clear h1
    cases g0<;>cases d2<;>cases ys<;>
      (go_wp2_with (go_at_call 253;refine(HS.out _ hb0).mono ?_;rintro r w1 ⟨rfl,hb1⟩;have hbw:=hb0.trans (hb1.mono hb0.size);have z0:=(hb1.cell (p:=⟨w.heap.size,0,none⟩) hs0).trans y0;have z5:=(hb1.cell (p:=⟨w.heap.size,5,none⟩) hs0).trans y5)
       go_ret;exact⟨aT (by rw[HR2.out];rfl),hbw⟩)
end Go.Proofs.YtmhdgeekclhbbaaGreatDoor

namespace Go.Proofs.YtmhdgeekclhbbaaGreatDoor
structure Pc where
  lead:List UInt8
  kind:Nat
  text:List UInt8
def bq:List Pc→List UInt8
  | []=>[]
  | p :: l=>p.lead++p.text++bq l
theorem dI:∀ a b:List Pc,bq (a++b)=bq a++bq b
  | [],b=>rfl
  | p :: a,b=>by rw[jN,bq,bq,dI a b];simp
def rH (k:Nat)(t:List UInt8)(c:Option UInt8):Bool :=
  match c with
  | none=>true
  | some c=>if k=4 then decide (nT (t++[c])=some t) && !(decide (t=[45]) && decide (c=45)) else if k=3 then !aP c else !aS c
def nM (p:Pc):Bool :=
  p.lead.all dB &&
  (if p.kind=4 then decide (p.text∈iK)
   else if p.kind=3 then p.text.all aP && decide (0<p.text.length) && decide (p.text.length≤60) && (decide (p.text.length=1) || !decide (p.text[0]?=some 48))
   else p.text.all aS && (p.text.headD 0 |> cZ) && decide (0<p.text.length) && decide (p.text.length≤40) && decide (p.kind=if p.text∈lD then 2 else 1))
def Lu:List Pc→List UInt8→Prop
  | [],_=>True
  | p :: l,e=>nM p=true∧rH p.kind p.text (bq l++e).head?=true∧Lu l e
def zW (p:Nat):List Pc→List Tok
  | []=>[]
  | x :: l=>⟨x.kind,x.lead,x.text,p+x.lead.length⟩ :: zW (p+x.lead.length+x.text.length) l
theorem iZ:∀ {a b:List Pc} {e:List UInt8},Lu (a++b) e↔Lu a (bq b++e)∧Lu b e
  | [],b,e=>by simp[Lu]
  | p :: a,b,e=>by
    rw[jN,Lu,Lu,iZ (a:=a),dI,nQ]
    constructor
    · rintro⟨h1,h2,h3,h4⟩;exact⟨⟨h1,h2,h3⟩,h4⟩
    · rintro⟨⟨h1,h2,h3⟩,h4⟩;exact⟨h1,h2,h3,h4⟩
theorem Q7 {p:UInt8→Bool}:∀ {t r:List UInt8},t.all p=true→(∀ c,r.head?=some c→p c=false)→(t++r).takeWhile p=t
  | [],[],_,_=>rfl
  | [],c :: r,_,h=>by rw[qc,List.takeWhile_cons_of_neg (by rw[h c rfl];decide)]
  | x :: t,r,h,h2=>by
    rw[List.all_cons,Bool.and_eq_true] at h;rw[jN,List.takeWhile_cons_of_pos h.1,Q7 h.2 h2]
theorem Jb (a b:UInt8)(r:List UInt8):nT (a :: b :: r)=nT [a,b]:=by
  simp[nT,iK,nS,JF,List.find?,List.isPrefixOf]
theorem Yz:∀ t∈iK,(∃ a,t=[a])∨∃ a b,t=[a,b]:=by
  have:∀ t∈iK,t.length=1∨t.length=2:=by decide
  intro t ht
  rcases this t ht with h|h
  · exact .inl (List.length_eq_one_iff.1 h)
  · match t,h with
    | [a,b],_=>exact .inr ⟨a,b,rfl⟩
theorem Fb:∀ t∈iK,nT t=some t:=by decide
theorem Vn:∀ t∈iK,∀ c,t.head?=some c→cZ c=false∧aP c=false∧dB c=false:=by
  have:∀ t∈iK,cZ (t.headD 0)=false∧aP (t.headD 0)=false∧dB (t.headD 0)=false:=by decide
  intro t ht c hc
  cases t with
  | nil=>cases hc
  | cons x r=>cases hc;exact this _ ht
theorem YB {t r:List UInt8}(ht:t∈iK)(h:∀ c,r.head?=some c→nT (t++[c])=some t):nT (t++r)=some t:=by
  cases r with
  | nil=>rw[List.append_nil];exact Fb t ht
  | cons c r =>
    have hc:=h c rfl
    rcases Yz t ht with ⟨a,rfl⟩|⟨a,b,rfl⟩
    · rw[jN,qc,Jb];exact hc
    · rw[jN,jN,qc,Jb];exact Fb _ ht
theorem Bh (c:UInt8)(h:cZ c=true):aP c=false∧dB c=false∧c≠45:=by
  have:∀ n:Fin 256,cZ (UInt8.ofNat n.val)=true→aP (UInt8.ofNat n.val)=false∧dB (UInt8.ofNat n.val)=false∧UInt8.ofNat n.val≠45:=by decide +kernel
  have h1:=this ⟨c.toNat,c.toNat_lt⟩;rw[UInt8.ofNat_toNat] at h1;exact h1 h
theorem N7 (c:UInt8)(h:aP c=true):cZ c=false∧dB c=false∧c≠45:=by
  have:∀ n:Fin 256,aP (UInt8.ofNat n.val)=true→cZ (UInt8.ofNat n.val)=false∧dB (UInt8.ofNat n.val)=false∧UInt8.ofNat n.val≠45:=by decide +kernel
  have h1:=this ⟨c.toNat,c.toNat_lt⟩;rw[UInt8.ofNat_toNat] at h1;exact h1 h
theorem Jc {p:Pc}{r:List UInt8}(h:nM p=true)(he:rH p.kind p.text r.head?=true):bR (p.text++r)=(p.kind,p.text.length,0)∧p.kind≠5∧0<p.text.length∧bE false (p.text++r)=0:=by
  obtain⟨ld,k,t⟩:=p;simp only[nM,Bool.and_eq_true] at h he ⊢;obtain⟨_,h⟩:=h
  by_cases h4:k=4
  · subst h4
    rw[if_pos rfl,decide_eq_true_eq] at h
    have hs:nT (t++r)=some t:=YB h fun c hc=>by
      rw[hc,rH,if_pos rfl,Bool.and_eq_true,decide_eq_true_eq] at he;exact he.1
    have h45:¬ (t=[45]∧r.head?=some 45):=by
      rintro⟨rfl,q⟩;rw[q,rH,if_pos rfl,Bool.and_eq_true] at he;exact absurd he.2 (by decide)
    cases t with
    | nil=>exact absurd h (by decide)
    | cons c t =>
      obtain⟨h1,h2,h3⟩:=Vn _ h c rfl;refine⟨?_,by decide,by simp,?_⟩
      · rw[jN,bR,h1,h2,if_neg (by decide),if_neg (by decide),xX]
        rw[jN] at hs;rw[hs]
      · rw[jN,bE,h3,if_neg (by decide),if_neg]
        rintro⟨rfl,q⟩
        have:∀ x∈iK,x.head?=some 45→x=[45]:=by decide
        have h5:=this _ h rfl;simp only[List.cons.injEq,true_and] at h5;subst h5;exact h45 ⟨rfl,q⟩
  rw[if_neg h4] at h
  by_cases h3:k=3
  · subst h3
    rw[if_pos rfl] at h;simp only[Bool.and_eq_true,decide_eq_true_eq] at h;obtain⟨⟨⟨hd,h0⟩,Ay⟩,hz⟩:=h;rw[Bool.or_eq_true,decide_eq_true_eq] at hz
    have htw:(t++r).takeWhile aP=t:=Q7 hd fun c hc=>by
      rw[hc,rH,if_neg (by decide),if_pos rfl] at he
      simpa using he
    cases t with
    | nil=>simp at h0
    | cons c t =>
      have hc:aP c=true:=by rw[List.all_cons,Bool.and_eq_true] at hd;exact hd.1
      obtain⟨h1,h2,h45⟩:=N7 c hc;refine⟨?_,by decide,h0,?_⟩
      · rw[jN,bR,h1,if_neg (by decide),if_pos hc]
        rw[jN] at htw;rw[jD,htw,if_neg];rintro(q|⟨q,q2⟩)
        · omega
        · rcases hz with hz|hz
          · omega
          · rw[q2] at hz;exact absurd hz (by decide)
      · rw[jN,bE,h2,if_neg (by decide),if_neg (fun q=>h45 q.1)]
  · rw[if_neg h3] at h
    simp only[Bool.and_eq_true,decide_eq_true_eq] at h;obtain⟨⟨⟨⟨hd,hl⟩,h0⟩,Pw⟩,hk⟩:=h
    have htw:(t++r).takeWhile aS=t:=Q7 hd fun c hc=>by
      rw[hc,rH,if_neg h4,if_neg h3] at he
      simpa using he
    cases t with
    | nil=>simp at h0
    | cons c t =>
      have hc:cZ c=true:=hl;obtain⟨h1,h2,h45⟩:=Bh c hc;refine⟨?_,by rw[hk];split<;>decide,h0,?_⟩
      · rw[jN,bR,if_pos hc]
        rw[jN] at htw;rw[jm,htw,if_neg (by omega),hk]
        split<;>rfl
      · rw[jN,bE,h2,if_neg (by decide),if_neg (fun q=>h45 q.1)]
theorem Cr:∀ {ld t:List UInt8},ld.all dB=true→bE false (ld++t)=ld.length+bE false t
  | [],t,_=>by simp
  | c :: ld,t,h=>by
    rw[List.all_cons,Bool.and_eq_true] at h;rw[jN,bE,if_pos h.1,Cr h.2,dR];omega
def eF (t:List UInt8):Pc:=⟨[],if t∈lD then 2 else 1,t⟩
def YC (t:List UInt8):Pc:=⟨[],3,t⟩
def pV (t:List UInt8):Pc:=⟨[],4,t⟩
def yO:List Pc→List Pc
 | []=>[]
 | p :: l=>⟨32 :: p.lead,p.kind,p.text⟩ :: l
def C9 (least:Int)(k:Int × List Pc):List Pc:=if Ip k.1<least then pV [40] :: (k.2++[pV [41]]) else k.2
def qM:List (List Pc)→List Pc
 | []=>[]
 | [t]=>t
 | t :: s :: l=>t++pV [44] :: yO (qM (s :: l))
def jR (op:Int)(nm md:List UInt8)(num:Int)(yes:Bool)(ks:List (Int × List Pc)):List Pc :=
 if op=1 then [YC (jG num)]
 else if op=2 then [eF (if yes=true then [116,114,117,101] else [102,97,108,115,101])]
 else if op=3 then [eF nm]
 else if op=4 then [eF [114,101,115]]
 else if op=5 then pV [45] :: C9 9 (ks.getD 0 (0,[]))
 else if op=6 then eF [110,111,116] :: yO (C9 4 (ks.getD 0 (0,[])))
 else if op=21 then eF [105,102] :: (yO (ks.getD 0 (0,[])).2++yO [eF [116,104,101,110]]++yO (ks.getD 1 (0,[])).2++yO [eF [101,108,115,101]]++yO (ks.getD 2 (0,[])).2)
 else if op=22 then eF [108,101,116] :: (yO [eF nm]++yO [pV [61]]++yO (ks.getD 0 (0,[])).2++yO [eF [105,110]]++yO (ks.getD 1 (0,[])).2)
 else if op=23 then eF [97,115,115,101,114,116] :: (yO (ks.getD 0 (0,[])).2++yO [eF [105,110]]++yO (ks.getD 1 (0,[])).2)
 else if op=24 then (if md=[] then [] else [eF md,pV [46]])++([eF nm,pV [40]]++(qM (ks.map Prod.snd)++[pV [41]]))
 else C9 (vP op) (ks.getD 0 (0,[]))++(yO [pV (sZ op)]++yO (C9 (zG op) (ks.getD 1 (0,[]))))
mutual
def PZ.sI:PZ→List Pc
 | .mk op nm md num yes aA _=>jR op nm md num yes (He aA)
def He:List PZ→List (Int × List Pc)
 | []=>[]
 | e :: l=>(e.op,e.sI) :: He l
end
theorem PZ.Kr (e:PZ):e.sI=jR e.op e.name e.module e.num e.yes (He e.aA):=by cases e;rw[PZ.sI];rfl
theorem zX:∀ l:List PZ,He l=l.map fun e=>(e.op,e.sI)
 | []=>rfl
 | e :: l=>by rw[He,zX l];rfl
theorem N8 {l:List PZ}{i:Nat}(h:i<l.length):(He l).getD i (0,[])=(l[i].op,l[i].sI):=by
 rw[zX,List.getD_eq_getElem?_getD,List.getElem?_map,yV h];rfl
theorem PZ.iT (e:PZ):∀ x∈e.aA,SizeOf.sizeOf x<SizeOf.sizeOf e:=by
 intro x hx
 cases e with
 | mk op name module num yes aA at_ =>
  have:=List.sizeOf_lt_of_mem hx;simp only[PZ.mk.sizeOf_spec,PZ.aA] at this ⊢;omega
structure Fe (fm:Bool) (e:PZ):Prop where
 op1:1≤e.op
 af6:e.op≤24
 may:UG fm e.op=true
 names:kY e.op e.name e.module=true
 values:rV e.op e.num e.yes=true
 count:countB e.op e.aA.length=true
 aA:∀ x∈e.aA,x.right fm=true
theorem PZ.Kt {fm:Bool}{e:PZ}(h:e.right fm=true):Fe fm e:=by
 rw[PZ.Ir,Iq] at h;simp only[Bool.and_eq_true,decide_eq_true_eq] at h;exact⟨h.1.1.1.1.1.1,h.1.1.1.1.1.2,h.1.1.1.1.2,h.1.1.1.2,h.1.1.2,h.1.2,vQ.1 h.2⟩
inductive Ct:Int→Nat→Prop where
 | none {op}:1≤op→op≤4→Ct op 0
 | one {op}:op=5∨op=6→Ct op 1
 | two {op}:7≤op→op≤20→Ct op 2
 | iff:Ct 21 3
 | sO:Ct 22 2
 | sP:Ct 23 2
 | call {n}:n≤8→Ct 24 n
theorem Fe.form {fm:Bool}{e:PZ}(h:Fe fm e):Ct e.op e.aA.length:=by
 have h1:=h.op1;have h2:=h.af6;have hc:=h.count;unfold countB at hc;generalize e.op=op at *
 split at hc
 ·rw[decide_eq_true_eq] at hc;rw[hc];exact .none h1 (by omega)
 split at hc
 ·rw[decide_eq_true_eq] at hc;rw[hc];exact .one (by omega)
 split at hc
 ·rw[decide_eq_true_eq] at hc;rw[hc]
  by_cases q:op=22
  ·subst q;exact .sO
  by_cases q2:op=23
  ·subst q2;exact .sP
  ·exact .two (by omega) (by omega)
 split at hc
 ·rename_i q;subst q;rw[decide_eq_true_eq] at hc;rw[hc];exact .iff
 ·rw[decide_eq_true_eq] at hc
  obtain rfl:op=24:=by omega
  exact .call hc
theorem fC {l:List Pc}(h:l≠[]):bq (yO l)=[32]++bq l:=by
 cases l with
 | nil=>exact absurd rfl h
 | cons p l=>simp[yO,bq]
theorem yP (p:Pc):bq (yO [p])=32 :: (p.lead++p.text):=by simp[yO,bq]
theorem Dp {least:Int}{k:Int × List Pc}(h:k.2≠[]):C9 least k≠[]:=by
 unfold C9
 split
 ·simp
 ·exact h
theorem uL {least op:Int}{q:List Pc}{t:List UInt8}(h:bq q=t):bq (C9 least (op,q))=rF least (op,t):=by
 unfold C9 rF
 split
 ·simp[bq,dI,pV,h]
 ·exact h
theorem Vo {t:List Pc}{l:List (List Pc)}(h:t≠[]):qM (t :: l)≠[]:=by
 cases l with
 | nil=>exact h
 | cons s l=>rw[qM];simp
theorem zY:∀ (es:List PZ),(∀ x∈es,bq x.sI=x.text∧x.sI≠[])→bq (qM (es.map PZ.sI))=bM (es.map PZ.text)
 | [],_=>rfl
 | [e],h=>(h e (by simp)).1
 | e :: f :: l,h=>by
  have ih:=zY (f :: l) fun x hx=>h x (wM _ hx)
  have hf:=(h f (by simp)).2;simp only[List.map_cons] at ih ⊢;rw[qM,bM,dI,bq,fC (Vo hf),ih,(h e (by simp)).1];simp[pV]
theorem PZ.bytes {fm:Bool}:∀ (n:Nat) (e:PZ),SizeOf.sizeOf e<n→e.right fm=true→bq e.sI=e.text∧e.sI≠[]
 | 0,_,h,_=>absurd h (by omega)
 | n+1,e,hs,hr=>by
  have R:=PZ.Kt hr
  have ih:∀ x∈e.aA,bq x.sI=x.text∧x.sI≠[]:=fun x hx=>PZ.bytes n x (by have:=e.iT x hx;omega) (R.aA x hx)
  have F:=R.form;rw[e.Kr,e.o8]
  have hk:∀ i,(h:i<e.aA.length)→(He e.aA).getD i (0,[])=(e.aA[i].op,e.aA[i].sI)∧(iG e.aA).getD i (0,[])=(e.aA[i].op,e.aA[i].text)∧bq e.aA[i].sI=e.aA[i].text∧e.aA[i].sI≠[]:=fun i h=>⟨N8 h,lX h,ih _ (mX h)⟩
  have hm:(He e.aA).map Prod.snd=e.aA.map PZ.sI∧(iG e.aA).map Prod.snd=e.aA.map PZ.text:=by
   rw[zX,qI];simp
  have hcm:=zY e.aA ih;generalize e.aA=ks at *;generalize hn:ks.length=c at F;generalize e.op=op at *
  cases F with
  | none h1 h2 =>
   have:op=1∨op=2∨op=3∨op=4:=by omega
   rcases this with rfl|rfl|rfl|rfl<;>simp[jR,nW,bq,YC,eF]
  | one h =>
   obtain⟨a1,a2,a3,a4⟩:=hk 0 (by omega)
   rcases h with rfl|rfl
   ·simp only[jR,nW]
    simp only[if_neg,if_pos,show ¬ (5:Int)=1 by decide,show ¬ (5:Int)=2 by decide,show ¬ (5:Int)=3 by decide,show ¬ (5:Int)=4 by decide,not_false_eq_true];rw[a1,a2,bq,uL a3];simp[pV]
   ·simp only[jR,nW]
    simp only[if_neg,if_pos,show ¬ (6:Int)=1 by decide,show ¬ (6:Int)=2 by decide,show ¬ (6:Int)=3 by decide,show ¬ (6:Int)=4 by decide,show ¬ (6:Int)=5 by decide,not_false_eq_true];rw[a1,a2,bq,fC (Dp a4),uL a3];simp[eF]
  | two h1 h2 =>
   obtain⟨a1,a2,a3,a4⟩:=hk 0 (by omega);obtain⟨b1,b2,b3,b4⟩:=hk 1 (by omega)
   have e1:∀ k:Int,(k≤6∨21≤k)→¬ op=k:=fun k hk q=>by omega
   simp only[jR,nW]
   rw[if_neg (e1 1 (by omega)),if_neg (e1 2 (by omega)),if_neg (e1 3 (by omega)),if_neg (e1 4 (by omega)),if_neg (e1 5 (by omega)),if_neg (e1 6 (by omega)),if_neg (e1 21 (by omega)),if_neg (e1 22 (by omega)),if_neg (e1 23 (by omega)),if_neg (e1 24 (by omega)),
    if_neg (e1 1 (by omega)),if_neg (e1 2 (by omega)),if_neg (e1 3 (by omega)),if_neg (e1 4 (by omega)),if_neg (e1 5 (by omega)),if_neg (e1 6 (by omega)),if_neg (e1 21 (by omega)),if_neg (e1 22 (by omega)),if_neg (e1 23 (by omega)),if_neg (e1 24 (by omega)),a1,a2,b1,b2,dI,dI,fC (by simp),fC (Dp b4),uL a3,uL b3]
   simp[bq,pV,yO]
  | iff =>
   obtain⟨a1,a2,a3,a4⟩:=hk 0 (by omega);obtain⟨b1,b2,b3,b4⟩:=hk 1 (by omega);obtain⟨c1,c2,c3,c4⟩:=hk 2 (by omega);simp only[jR,nW];simp only[if_neg,if_pos,show ¬ (21:Int)=1 by decide,show ¬ (21:Int)=2 by decide,show ¬ (21:Int)=3 by decide,show ¬ (21:Int)=4 by decide,show ¬ (21:Int)=5 by decide,show ¬ (21:Int)=6 by decide,not_false_eq_true];rw[a1,a2,b1,b2,c1,c2];simp only[bq,dI,fC a4,fC b4,fC c4,a3,b3,c3,yP,eF]
   simp
  | sO =>
   obtain⟨a1,a2,a3,a4⟩:=hk 0 (by omega);obtain⟨b1,b2,b3,b4⟩:=hk 1 (by omega);simp only[jR,nW];simp only[if_neg,if_pos,show ¬ (22:Int)=1 by decide,show ¬ (22:Int)=2 by decide,show ¬ (22:Int)=3 by decide,show ¬ (22:Int)=4 by decide,show ¬ (22:Int)=5 by decide,show ¬ (22:Int)=6 by decide,show ¬ (22:Int)=21 by decide,not_false_eq_true];rw[a1,a2,b1,b2];simp only[bq,dI,fC a4,fC b4,a3,b3,yP,eF,pV]
   simp
  | sP =>
   obtain⟨a1,a2,a3,a4⟩:=hk 0 (by omega);obtain⟨b1,b2,b3,b4⟩:=hk 1 (by omega);simp only[jR,nW];simp only[if_neg,if_pos,show ¬ (23:Int)=1 by decide,show ¬ (23:Int)=2 by decide,show ¬ (23:Int)=3 by decide,show ¬ (23:Int)=4 by decide,show ¬ (23:Int)=5 by decide,show ¬ (23:Int)=6 by decide,show ¬ (23:Int)=21 by decide,show ¬ (23:Int)=22 by decide,not_false_eq_true];rw[a1,a2,b1,b2];simp only[bq,dI,fC a4,fC b4,a3,b3,yP,eF]
   simp
  | call h =>
   simp only[jR,nW];simp only[if_neg,if_pos,show ¬ (24:Int)=1 by decide,show ¬ (24:Int)=2 by decide,show ¬ (24:Int)=3 by decide,show ¬ (24:Int)=4 by decide,show ¬ (24:Int)=5 by decide,show ¬ (24:Int)=6 by decide,show ¬ (24:Int)=21 by decide,show ¬ (24:Int)=22 by decide,show ¬ (24:Int)=23 by decide,not_false_eq_true];rw[hm.1,hm.2];simp only[bq,dI,hcm,eF,pV]
   constructor
   ·split<;>simp[bq]
   ·simp
end Go.Proofs.YtmhdgeekclhbbaaGreatDoor

namespace Go.Proofs.YtmhdgeekclhbbaaGreatDoor
open Go.RowKit Go
mutual
def PZ.fit:PZ→Prop
 | .mk _ nm md num _ aA _=>nm.length≤65536∧md.length≤65536∧num.natAbs<10 ^ 60∧aA.length≤65536∧Bj aA
def Bj:List PZ→Prop
 | []=>True
 | e :: l=>e.fit∧Bj l
end
theorem Oa:∀ {l:List PZ},Bj l→∀ e∈l,e.fit
 | x :: l,h,e,hm=>by
  rw[Bj] at h
  rcases List.mem_cons.1 hm with rfl|hm
  ·exact h.1
  ·exact Oa h.2 e hm
theorem PZ.kT {e:PZ}(h:e.fit):e.name.length≤65536∧e.module.length≤65536∧e.num.natAbs<10 ^ 60∧e.aA.length≤65536∧∀ x∈e.aA,x.fit:=by
 cases e;rw[PZ.fit] at h;exact⟨h.1,h.2.1,h.2.2.1,h.2.2.2.1,Oa h.2.2.2.2⟩
theorem nL.slX {P:Nat→Prop}{w:World}{m k:Value}{x:PZ}(h:nL YA P w m k x):∃ am wn cm ae ce,m=.slice am wn cm∧k=.slice ae x.aA.length ce:=by
 obtain⟨G5,ae,ce,rfl,_,_⟩:=h.form
 obtain⟨ws,hws,_⟩:=(G5:nD _ _ _ _)
 obtain⟨am,cm,rfl⟩:=hws.form;exact⟨am,_,cm,ae,ce,rfl,rfl⟩
def kK (B:Nat)(w:World)(ae:Option Addr)(ks:List PZ):Prop:=0<ks.length→∃ b off,ae=some ⟨b,off,none⟩∧b<B∧b<w.heap.size∧∀ i,(hi:i<ks.length)→∃ am wn cm ak ck,nL YA (fun b=>b<B) w (.slice am wn cm) (.slice ak ks[i].aA.length ck) ks[i]∧∀ j u,(YA.cells ks[i] (.slice am wn cm) (.slice ak ks[i].aA.length ck))[j]?=some u→w.cell? ⟨b,off+i * 8+j,none⟩=some u
theorem nL.Ob {B:Nat}{w:World}{mv:Value}{ae:Option Addr}{ce:Nat}{e:PZ}(h:nL YA (fun b=>b<B) w mv (.slice ae e.aA.length ce) e):kK B w ae e.aA:=by
 obtain⟨_,ae',ce',hv,_,hf⟩:=h.form;simp only[Value.slice.injEq] at hv;obtain⟨rfl,-,rfl⟩:=hv;intro h0;obtain⟨b,off,h1,h2,h3,h4⟩:=hf h0;refine⟨b,off,h1,h2,h3,fun i hi=>?_⟩;obtain⟨m,k,h5,h6⟩:=h4 i hi;obtain⟨am,wn,cm,ak,ck,rfl,rfl⟩:=h5.slX;exact⟨am,wn,cm,ak,ck,h5,h6⟩
def abF (f:FuncId)(lb:Array Value)(p:PZ→Bool)(B:Nat)(w:World)(x:PZ):Prop:=∀ (W:World) (am:Option Addr) (wn cm:Nat) (ak:Option Addr) (ck:Nat),Below w.heap.size w W→nL YA (fun b=>b<B) W (.slice am wn cm) (.slice ak x.aA.length ck) x →
 Calls Tryz.prog f (#[.agg #[.int .i64 x.op,.string ⟨x.name.toArray⟩,.string ⟨x.module.toArray⟩,.bool (decide (x.num<0)),.slice am wn cm,.bool x.yes,.slice ak x.aA.length ck,.int .i64 x.at_]]++lb) W fun r w'=>r=.returned (.bool (p x))∧Below W.heap.size W w'
def Bl (p:PZ→Bool):List PZ→Nat→Int
 | [],_=>-1
 | x :: l,k=>if p x=true then k else Bl p l (k+1)
theorem Oc (p:PZ→Bool):∀ (l:List PZ) (k:Nat),decide (0≤Bl p l k)=l.any p
 | [],k=>rfl
 | x :: l,k=>by
  rw[Bl,List.any_cons]
  split
  ·rename_i h;rw[h];exact iX (by omega)
  ·rename_i h;rw[Bool.not_eq_true] at h;rw[h,Oc p l];rfl
theorem Ti {p:PZ→Bool}:∀ {ks:List PZ} {k:Nat} (j:Nat) (h:k<ks.length),(∀ i,i<k→(hi:i<ks.length)→p ks[i]=false)→Bl p ks j=if p ks[k]=true then ((j+k:Nat):Int) else Bl p (ks.drop (k+1)) (j+k+1)
 | x :: l,0,j,h,_=>by simp[Bl]
 | x :: l,k+1,j,h,hf=>by
  have h0:=hf 0 (by omega) (by simp)
  have ih:=Ti (p:=p) (ks:=l) (k:=k) (j+1) (by simpa using h) fun i hi hl=>by have:=hf (i+1) (by omega) (by simpa using hl);simpa using this
  rw[Bl,if_neg (by simpa using h0),ih];simp only[List.getElem_cons_succ,List.drop_succ_cons];rw[show j+1+k=j+(k+1) by omega]
theorem Tj {p:PZ→Bool}:∀ {ks:List PZ} (j:Nat),(∀ i,(hi:i<ks.length)→p ks[i]=false)→Bl p ks j=-1
 | [],_,_=>rfl
 | x :: l,j,hf=>by
  have h0:=hf 0 (by simp);rw[Bl,if_neg (by simpa using h0)]
  exact Tj (j+1) fun i hi=>by have:=hf (i+1) (by simpa using hi);simpa using this
theorem Q8 (f:FuncId)(lb:Array Value)(p:PZ→Bool)(eg:∀ args w,(callFunc f args).run Tryz.prog w=.ok (.enter f args) w)(B:Nat)(ae:Option Addr)(ce:Nat)(ks:List PZ)(w:World)(hk:kK B w ae ks)(hB:B≤w.heap.size)(hn:ks.length≤1099511627776)(ha:∀ x∈ks,abF f lb p B w x) :
  Calls Tryz.prog 153 #[.slice ae ks.length ce,.func (.func f) #[] lb] w fun r w'=>r=.returned (.int .i64 (Bl p ks 0))∧Below w.heap.size w w':=by
 have HK:=ay hk;have HA:=ay ha;clear hk ha;go_enter Tryz.func153,Tryz.ntmps153;go_wp2
 go_loopw [5,8] (fun _ q wr=>∃ k:Nat,k≤ks.length∧q=.int .i64 k∧(∀ i,i<k→(hi:i<ks.length)→p ks[i]=false)∧Below w.heap.size w wr) (fun _ q _=>ks.length - (intOf q).toNat)
 case atStart=>exact⟨0,lI _,rfl,fun i hi=>absurd hi (by omega),bI _ _⟩
 case round =>
  obtain⟨k,hkl,rfl,hno,hbl⟩:=hrel;have hw:=hbl.size;have HN:=ay hno;clear hno
  by_cases hlt:k<ks.length
  ·obtain⟨b,off,rfl,YD,hbw,kL⟩:=HK.out (by omega)
   obtain⟨am,wn,cm,ak,ck,hE,hc⟩:=kL k hlt;have hA:=HA.out _ (mX hlt) wr am wn cm ak ck hbl (hE.frame (aW.ru hbl (fun b hb=>by omega)));have hix:=Ti (p:=p) 0 hlt HN.out
   have hnx:p ks[k]=false→∀ i,i<k+1→(hi:i<ks.length)→p ks[i]=false:=fun q i hi hl=>by
    by_cases e:i=k
    ·subst e;exact q
    ·exact HN.out i (by omega) hl
   have y0:=(hbl.cell (p:=⟨b,off+k * 8,none⟩) hbw).trans (hc 0 _ rfl);have y1:=(hbl.cell (p:=⟨b,off+k * 8+1,none⟩) hbw).trans (hc 1 _ rfl);have y2:=(hbl.cell (p:=⟨b,off+k * 8+2,none⟩) hbw).trans (hc 2 _ rfl);have y3:=(hbl.cell (p:=⟨b,off+k * 8+3,none⟩) hbw).trans (hc 3 _ rfl);have y4:=(hbl.cell (p:=⟨b,off+k * 8+4,none⟩) hbw).trans (hc 4 _ rfl);have y5:=(hbl.cell (p:=⟨b,off+k * 8+5,none⟩) hbw).trans (hc 5 _ rfl);have y6:=(hbl.cell (p:=⟨b,off+k * 8+6,none⟩) hbw).trans (hc 6 _ rfl);have y7:=(hbl.cell (p:=⟨b,off+k * 8+7,none⟩) hbw).trans (hc 7 _ rfl);simp only[dJ] at y1 y2;have HX:=ay hix;have Da:=ay hnx;clear kL hc hE hix hnx;generalize ks[k]=x at y0 y1 y2 y3 y4 y5 y6 y7 hA HX Da
   have pR:(k:Int)<(ks.length:Int):=by omega
   cases hq:p x with
   | true =>
    rw[hq] at hA;have Tk:Hid (Bl p ks 0=(k:Int)):=ay (by rw[HX.out,if_pos hq,Nat.zero_add]);have HAA:=ay hA;clear hA hq HX Da;go_wp2_with (go_at_fn f;refine HAA.out.mono ?_;rintro r w2 ⟨rfl,hb2⟩);go_ret;exact⟨lJ (by rw[Tk.out]),hbl.trans (hb2.mono hw)⟩
   | false =>
    rw[hq] at hA;have adf:=ay (Da.out hq);have HAA:=ay hA;clear hA hq HX Da;go_wp2_with (go_at_fn f;refine HAA.out.mono ?_;rintro r w2 ⟨rfl,hb2⟩);exact⟨⟨k+1,by omega,by go_num,adf.out,hbl.trans (hb2.mono hw)⟩,by simp[intOf];omega⟩
  ·obtain rfl:k=ks.length:=by omega
   have pR:decide ((ks.length:Int)<(ks.length:Int))=false:=dA (by omega);have Tk:Hid (Bl p ks 0=-1):=ay (Tj 0 fun i hi=>HN.out i hi hi);clear HN;go_wp2;go_ret;exact⟨lJ (by rw[Tk.out]),hbl⟩
theorem xQ (f:FuncId)(lb:Array Value)(p:PZ→Bool)(eg:∀ args w,(callFunc f args).run Tryz.prog w=.ok (.enter f args) w)(B:Nat)(ae:Option Addr)(ce:Nat)(ks:List PZ)(w:World)(hk:kK B w ae ks)(hB:B≤w.heap.size)(hn:ks.length≤1099511627776)(ha:∀ x∈ks,abF f lb p B w x) :
  Calls Tryz.prog 90 #[.slice ae ks.length ce,.func (.func f) #[] lb] w fun r w'=>r=.returned (.bool (ks.any p))∧Below w.heap.size w w':=by
 have HI:=ay (Q8 f lb p eg B ae ce ks w hk hB hn ha);have HY:=ay (Oc p ks 0);clear hk ha hn hB eg;generalize Bl p ks 0=i at *;go_enter Tryz.func90,Tryz.ntmps90;go_wp2_with (go_at_call 153;refine HI.out.mono ?_;rintro r w2 ⟨rfl,hb2⟩);go_ret;exact⟨aT (by rw[← HY.out]),hb2⟩
def Ku (fm:Bool)(e:PZ):Prop:=∀ (B:Nat) (am:Option Addr) (wn cm:Nat) (ae:Option Addr) (ce:Nat) (w:World),nL YA (fun b=>b<B) w (.slice am wn cm) (.slice ae e.aA.length ce) e→B≤w.heap.size→e.aA.length≤1099511627776 →
  Calls Tryz.prog 122 #[.agg #[.int .i64 e.op,.string ⟨e.name.toArray⟩,.string ⟨e.module.toArray⟩,.bool (decide (e.num<0)),.slice am wn cm,.bool e.yes,.slice ae e.aA.length ce,.int .i64 e.at_],.int .i64 (if fm=true then 0 else 1)] w fun r w'=>r=.returned (.bool (e.right fm))∧Below w.heap.size w w'
theorem Q9 (fm:Bool)(x:PZ)(hx:Ku fm x)(hz:x.aA.length≤1099511627776)(B kb:Nat)(w:World)(hk:w.cell? ⟨kb,0,none⟩=some (.int .i64 (if fm=true then 0 else 1)))(hkl:kb<w.heap.size)(hB:B≤w.heap.size) :
  abF 200 #[.pointer (some ⟨kb,0,none⟩)] (fun x=>!x.right fm) B w x:=by
 intro W am wn cm ak ck hW hE;have hs:=hW.size;have hbx:=aB W (.cells (aQ x.op ⟨x.name.toArray⟩ ⟨x.module.toArray⟩ (decide (x.num<0)) (.slice am wn cm) x.yes (.slice ak x.aA.length ck) x.at_) 64);have HX:=ay (hx B am wn cm ak ck (W.alloc (.cells (aQ x.op ⟨x.name.toArray⟩ ⟨x.module.toArray⟩ (decide (x.num<0)) (.slice am wn cm) x.yes (.slice ak x.aA.length ck) x.at_) 64)) (hE.frame (aW.of hbx)) (by simp;omega) hz)
 have hk1:=((hW.cell (p:=⟨kb,0,none⟩) hkl).trans hk)
 have hk2:=(hbx.cell (p:=⟨kb,0,none⟩) (by show kb<_;omega)).trans hk1;have hN:=aY W (.cells (aQ x.op ⟨x.name.toArray⟩ ⟨x.module.toArray⟩ (decide (x.num<0)) (.slice am wn cm) x.yes (.slice ak x.aA.length ck) x.at_) 64)
 show Calls _ _ #[_,_] _ fun r w'=>r=.returned (.bool (!x.right fm))∧Below W.heap.size W w'
 generalize (if fm=true then (0:Int) else 1)=kd at *;generalize x.right fm=rb at *;clear hx hE hk hk1 hz;go_enter Tryz.func200,Tryz.ntmps200
 go_upto_region 1 with fail
 change Code.wp _ _ _ _ (W.alloc (.cells (aQ x.op ⟨x.name.toArray⟩ ⟨x.module.toArray⟩ (decide (x.num<0)) (.slice am wn cm) x.yes (.slice ak x.aA.length ck) x.at_) 64));generalize W.alloc _=w0 at hbx hN hk2 HX ⊢;obtain⟨y0,y1,y2,y3,y4,y5,y6,y7⟩:=aI hN;go_wp2_with (go_at_call 122;refine HX.out.mono ?_;rintro r w1 ⟨rfl,hb1⟩);go_ret;exact⟨rfl,hbx.trans (hb1.mono hbx.size)⟩
theorem Ra {op:Int}{n:Nat}(h1:1≤op)(h2:op≤24):(0≤Cq op∧countB op n=decide ((n:Int)=Cq op)∧Cq op≤3)∨(Cq op=-1∧countB op n=decide (n≤8)):=by
 unfold Cq countB
 by_cases h4:op≤4
 ·left;simp only[if_pos h4];refine⟨by omega,?_,by omega⟩;congr 1;exact propext (by omega)
 by_cases h6:op≤6
 ·left;simp only[if_neg h4,if_pos h6];refine⟨by omega,?_,by omega⟩;congr 1;exact propext (by omega)
 by_cases h20:op≤20∨op=22∨op=23
 ·left;simp only[if_neg h4,if_neg h6,if_pos h20];refine⟨by omega,?_,by omega⟩;congr 1;exact propext (by omega)
 by_cases h21:op=21
 ·left;simp only[if_neg h4,if_neg h6,if_neg h20,if_pos h21];refine⟨by omega,?_,by omega⟩;congr 1;exact propext (by omega)
 ·right;refine⟨?_,?_⟩<;>simp only[if_neg h4,if_neg h6,if_neg h20,if_neg h21]
theorem yQ (fm:Bool):∀ l:List PZ,j3 fm l=!(l.any fun x=>!x.right fm)
 | []=>rfl
 | e :: l=>by rw[j3,yQ fm l,List.any_cons];cases e.right fm<;>simp
theorem Od (fm:Bool)(e:PZ)(hf:e.fit)(IH:∀ x∈e.aA,Ku fm x∧x.aA.length≤1099511627776):Ku fm e:=by
 intro B am wn cm ae ce w h hB hkl;obtain⟨f1,f2,f3,-,-⟩:=PZ.kT hf;have G5:nD (fun b=>b<B) w e.num (.slice am wn cm):=h.form.1;have hkz:=h.Ob
 have hdef:e.right fm=(decide (1≤e.op) && (decide (e.op≤24) && (UG fm e.op && (kY e.op e.name e.module && (rV e.op e.num e.yes && (countB e.op e.aA.length && j3 fm e.aA)))))):=by
  rw[e.Ir,Iq];simp only[Bool.and_assoc]
 have HM:=ay (fun W=>abE e.op fm W);have HK:=ay (fun W=>Yy e.op W)
 have hNA:=fun W=>Vm e.op ⟨e.name.toArray⟩ ⟨e.module.toArray⟩ (decide (e.num<0)) am wn cm e.yes ae e.aA.length ce e.at_ W (by show e.name.toArray.size≤_;simp;omega) (by show e.module.toArray.size≤_;simp;omega)
 have hVA:=fun W (hW:Below w.heap.size w W)=>Q6 (fun b=>b<B) e.op ⟨e.name.toArray⟩ ⟨e.module.toArray⟩ e.num am wn cm e.yes ae e.aA.length ce e.at_ W (YA.frame G5 (aW.of hW)) f3
 have HNA:=ay hNA;have HVA:=ay hVA
 have YE:=fun (W:World) (kb:Nat) (hW:Below w.heap.size w W) (hk:W.cell? ⟨kb,0,none⟩=some (.int .i64 (if fm=true then 0 else 1))) (hkl':kb<W.heap.size)=>xQ 200 #[.pointer (some ⟨kb,0,none⟩)] (fun x=>!x.right fm) (enters_of Tryz.func200 (by kernel_rfl) rfl) B ae ce e.aA W (fun h0=>by
   obtain⟨b,off,q1,q2,q3,q4⟩:=hkz h0;refine⟨b,off,q1,q2,Nat.lt_of_lt_of_le q3 hW.size,fun i hi=>?_⟩;obtain⟨Lr,wn',Ls,Kv,Kw,q5,q6⟩:=q4 i hi
   exact⟨Lr,wn',Ls,Kv,Kw,q5.frame (aW.of hW),fun j u hu=>(hW.cell (p:=⟨b,off+i * 8+j,none⟩) q3).trans (q6 j u hu)⟩) (by have:=hW.size;omega) hkl fun x hx=>Q9 fm x (IH x hx).1 (IH x hx).2 B kb W hk hkl' (by have:=hW.size;omega)
 have HCT:=ay YE;rw[yQ] at hdef;have hkc:=Ra (op:=e.op) (n:=e.aA.length);clear hNA hVA YE G5 hkz h IH hf f1 f2 f3;have eN:kY e.op (ByteArray.mk e.name.toArray).data.toList (ByteArray.mk e.module.toArray).data.toList=kY e.op e.name e.module:=rfl;rw[eN] at HNA;clear eN;generalize kY e.op e.name e.module=nb at *;generalize rV e.op e.num e.yes=vb at *;generalize UG fm e.op=mb at *;generalize (if fm=true then (0:Int) else 1)=kd at *;generalize e.right fm=res at *;generalize (e.aA.any fun x=>!x.right fm)=an at *;have HD:=ay hdef;have WW:=ay hkc;clear hdef hkc;generalize decide (e.num<0)=ng at *;generalize e.op=op at *;generalize e.aA.length=nk at *;generalize countB op nk=cb at *;generalize Cq op=kn at *;have hbw:=(aB w (.cells (aQ op ⟨e.name.toArray⟩ ⟨e.module.toArray⟩ ng (.slice am wn cm) e.yes (.slice ae nk ce) e.at_) 64)).alloc (by simp) (.cells #[.int .i64 kd] 211);have hN:=(gY (w.alloc (.cells (aQ op ⟨e.name.toArray⟩ ⟨e.module.toArray⟩ ng (.slice am wn cm) e.yes (.slice ae nk ce) e.at_) 64)) (.cells #[.int .i64 kd] 211) w.heap.size (by simp)).trans (aY w (.cells (aQ op ⟨e.name.toArray⟩ ⟨e.module.toArray⟩ ng (.slice am wn cm) e.yes (.slice ae nk ce) e.at_) 64));have hK:=aY (w.alloc (.cells (aQ op ⟨e.name.toArray⟩ ⟨e.module.toArray⟩ ng (.slice am wn cm) e.yes (.slice ae nk ce) e.at_) 64)) (.cells #[.int .i64 kd] 211);rw[oP] at hK;go_enter Tryz.func122,Tryz.ntmps122
 go_upto_region 1 with fail
 change Code.wp _ _ _ _ ((w.alloc (.cells (aQ op ⟨e.name.toArray⟩ ⟨e.module.toArray⟩ ng (.slice am wn cm) e.yes (.slice ae nk ce) e.at_) 64)).alloc (.cells #[.int .i64 kd] 211));generalize (w.alloc _).alloc _=w2 at hbw hN hK ⊢;have hl1:=(bS hN).1;have hl2:=(bS hK).1;have hz2:=hbw.size;obtain⟨y0,y1,y2,y3,y4,y5,y6,y7⟩:=aI hN
 have yk:w2.cell? ⟨w.heap.size+1,0,none⟩=some (.int .i64 kd):=by rw[aV hK];rfl
 have fin:∀ W:World,res=false→Below w.heap.size w W→(Ending.returned (.bool false)=Ending.returned (.bool res)∧Below w.heap.size w W):=fun _ h1 h2=>⟨by rw[h1],h2⟩
 have Ky:=ay fin;clear fin
 by_cases c1:op<1
 ·have hr:Hid (res=false):=ay (by rw[HD.out,dA (by omega)];rfl)
  clear HD WW HCT HNA HVA HK HM;go_wp2;go_ret;exact Ky.out _ hr.out hbw
 by_cases c2:24<op
 ·have hr:Hid (res=false):=ay (by rw[HD.out,dA (by omega:¬ op≤24)];cases decide (1≤op)<;>rfl)
  clear HD WW HCT HNA HVA HK HM;go_wp2;go_ret;exact Ky.out _ hr.out hbw
 have hD2:res=(mb && (nb && (vb && (cb && !an)))):=by rw[HD.out,iX (by omega),iX (by omega)];rfl
 have HD2:=ay hD2;clear hD2 HD;have hkc:=WW.out (by omega) (by omega);have Oe:=ay hkc;clear hkc WW
 cases mb with
 | false =>
  have hr:Hid (res=false):=ay (by rw[HD2.out];rfl);clear HD2 Oe HCT HNA HVA HK;go_wp2_with (go_at_call 196;refine(HM.out _).mono ?_;rintro r w' ⟨rfl,rfl⟩);go_ret;exact Ky.out _ hr.out hbw
 | true =>
 cases nb with
 | false =>
  have hr:Hid (res=false):=ay (by rw[HD2.out];rfl);clear HD2 Oe HCT HVA HK;go_wp2_with (first|(go_at_call 196;refine(HM.out _).mono ?_;rintro r w' ⟨rfl,rfl⟩)|(go_at_call 197;refine(HNA.out _).mono ?_;rintro r w3 ⟨rfl,hb3⟩));go_ret;exact Ky.out _ hr.out (hbw.trans (hb3.mono hz2))
 | true =>
 cases vb with
 | false =>
  have hr:Hid (res=false):=ay (by rw[HD2.out];rfl);clear HD2 Oe HCT HK;go_wp2_with (first|(go_at_call 196;refine(HM.out _).mono ?_;rintro r w' ⟨rfl,rfl⟩)|(go_at_call 197;refine(HNA.out _).mono ?_;rintro r w3 ⟨rfl,hb3⟩;have uZ:=hbw.trans (hb3.mono hz2);obtain⟨z0,z1,z2,z3,z4,z5,z6,z7⟩:=aI ((hb3.block w.heap.size hl1).trans hN))|(go_at_call 198;refine(HVA.out _ uZ).mono ?_;rintro r w4 ⟨rfl,hb4⟩));go_ret;exact Ky.out _ hr.out (uZ.trans (hb4.mono uZ.size))
 | true =>
 have HD3:Hid (res=(cb && !an)):=ay (by rw[HD2.out];rfl);clear HD2
 go_upto_region 3 with (first|(go_at_call 196;refine(HM.out _).mono ?_;rintro r w' ⟨rfl,rfl⟩)|(go_at_call 197;refine(HNA.out _).mono ?_;rintro r w3 ⟨rfl,hb3⟩;have uZ:=hbw.trans (hb3.mono hz2);obtain⟨z0,z1,z2,z3,z4,z5,z6,z7⟩:=aI ((hb3.block w.heap.size hl1).trans hN))|(go_at_call 198;refine(HVA.out _ uZ).mono ?_;rintro r w4 ⟨rfl,hb4⟩))
 have vK:=uZ.trans (hb4.mono uZ.size);have hz3:=hb3.size;have UA:=(hb4.block w.heap.size (by omega)).trans ((hb3.block w.heap.size hl1).trans hN);have hK4:=(hb4.block (w.heap.size+1) (by omega)).trans ((hb3.block (w.heap.size+1) hl2).trans hK);have hl4:=(bS hK4).1;clear z0 z1 z2 z3 z4 z5 z6 z7 y0 y1 y2 y3 y4 y5 y6 y7 yk hN hK HNA HVA HM;obtain⟨y0,y1,y2,y3,y4,y5,y6,y7⟩:=aI UA
 have yk:w4.cell? ⟨w.heap.size+1,0,none⟩=some (.int .i64 kd):=by rw[aV hK4];rfl
 have HC4:=ay (HCT.out w4 (w.heap.size+1) vK yk hl4);clear HCT UA hK4
 rcases Oe.out with ⟨k0,k1,k3⟩|⟨k0,k1⟩
 ·by_cases hq:(nk:Int)=kn
  ·have HD4:Hid (res=!an):=ay (by rw[HD3.out,k1,iX hq];rfl)
   have h8:(nk:Int)≤8:=by omega
   have hne:((nk:Int) == kn)=true:=by rw[hq];exact beq_self_eq_true _
   have HQ:=ay hq;clear k1 Oe HD3 hq;go_wp2_with (first|(go_at_call 199;refine(HK.out _).mono ?_;rintro r w' ⟨rfl,rfl⟩)|(go_at_call 90;refine HC4.out.mono ?_;rintro r w5 ⟨rfl,hb5⟩));go_ret;exact⟨aT (by rw[HD4.out]),vK.trans (hb5.mono vK.size)⟩
  ·have hr:Hid (res=false):=ay (by rw[HD3.out,k1,dA hq];rfl)
   have hne:((nk:Int) == kn)=false:=BU.2 hq
   have hne2:((nk:Int) != kn)=true:=by rw[bne,hne];rfl
   clear k1 Oe HD3 HC4 hq;go_wp2_with (go_at_call 199;refine(HK.out _).mono ?_;rintro r w' ⟨rfl,rfl⟩);go_ret;exact Ky.out _ hr.out vK
 ·subst k0
  by_cases hq:nk≤8
  ·have HD4:Hid (res=!an):=ay (by rw[HD3.out,k1,iX hq];rfl)
   have h8:(nk:Int)≤8:=by omega
   clear k1 Oe HD3;go_wp2_with (first|(go_at_call 199;refine(HK.out _).mono ?_;rintro r w' ⟨rfl,rfl⟩)|(go_at_call 90;refine HC4.out.mono ?_;rintro r w5 ⟨rfl,hb5⟩));go_ret;exact⟨aT (by rw[HD4.out]),vK.trans (hb5.mono vK.size)⟩
  ·have hr:Hid (res=false):=ay (by rw[HD3.out,k1,dA hq];rfl)
   have h8:(8:Int)<(nk:Int):=by omega
   clear k1 Oe HD3 HC4;go_wp2_with (go_at_call 199;refine(HK.out _).mono ?_;rintro r w' ⟨rfl,rfl⟩);go_ret;exact Ky.out _ hr.out vK
theorem yR (fm:Bool):∀ (n:Nat) (e:PZ),SizeOf.sizeOf e<n→e.fit→Ku fm e
 | 0,_,h,_=>absurd h (by omega)
 | n+1,e,hs,hf=>Od fm e hf fun x hx=>⟨yR fm n x (by have:=e.iT x hx;omega) ((PZ.kT hf).2.2.2.2 x hx),by have:=(PZ.kT ((PZ.kT hf).2.2.2.2 x hx)).2.2.2.1;omega⟩
end Go.Proofs.YtmhdgeekclhbbaaGreatDoor

namespace Go.Proofs.YtmhdgeekclhbbaaGreatDoor
open Go.RowKit Go.Shelf
attribute [local go_sem] Oper.semAt_some
def tK (ks:List Int)(k:Nat):List (Int × Int):=(List.range k).map fun (j:Nat)=>((ks.length:Int) - 1 - (j:Int),ks[ks.length - 1 - j]?.getD 0)
theorem Rb (ks:List Int)(k:Nat):tK ks (k+1)=tK ks k++[((ks.length:Int) - 1 - (k:Int),ks[ks.length - 1 - k]?.getD 0)]:=by simp[tK,List.range_succ]
theorem wZ (ks:List Int)(k:Nat):(tK ks k).length=k:=by simp[tK]
theorem Vp (ks:List Int)(k:Nat)(hk:k≤ks.length):(tK ks k).map Prod.snd=ks.reverse.take k:=by
 apply List.ext_getElem
 ·simp[tK,hk]
 ·intro i h1 h2
  simp only[List.length_map,wZ] at h1;simp[tK,show ks.length - 1 - i<ks.length by omega]
def qN (n₀ Bs:Nat)(W W':World):Prop:=Below n₀ W W'∧W'.cell? ⟨Bs,0,none⟩=W.cell? ⟨Bs,0,none⟩
theorem qN.refl (n₀ Bs:Nat)(W:World):qN n₀ Bs W W:=⟨bI _ _,rfl⟩
theorem qN.trans {n₀ Bs:Nat}{A B C:World}(h:qN n₀ Bs A B)(k:qN n₀ Bs B C):qN n₀ Bs A C:=⟨h.1.trans k.1,k.2.trans h.2⟩
theorem YF (F:Fence)(n:Nat)(h8:F.fn 308)(hro:F.round=none)(hn:1≤n)(l Bs n₀ b off cap:Nat)(ks:List Int)(YG:ks.length≤1099511627776)(hb:b<n₀)(J Jx:List (Int × Int)→World→Prop)
  (hY:∀ pre x W,J pre W→pre.length<ks.length→YieldAt F (n - 1) Tryz.prog l #[.int .i64 x.1,.int .i64 x.2] W fun e W' =>
   (e=.returned (.bool true)∧J (pre++[x]) W'∧qN n₀ Bs W W')∨(e=.returned (.bool false)∧Jx (pre++[x]) W'))
  (W:World) (hBs:W.cell? ⟨Bs,0,none⟩=some (.slice (some ⟨b,off,none⟩) ks.length cap)) (hc:∀ j,j<ks.length→W.cell? ⟨b,off+j,none⟩=some (.int .i64 (ks[j]?.getD 0))) (h0:J [] W) :
  CallsIn F n Tryz.prog 308 #[.func (.yield l) #[] #[],.pointer (some ⟨Bs,0,none⟩)] W fun e W'=>(∃ v,e=.returned v) ∧
   ((∃ ys,ys=tK ks ks.length∧J ys W')∨(∃ pre,(∃ k,k≤ks.length∧pre=tK ks k)∧Jx pre W')):=by
 refine callsIn_of_wp Tryz.func308 rfl h8 ?_ hro;simp only[Tryz.ntmps308,List.size_toArray,dR,gX,Nat.reduceAdd,Nat.reduceSub,Array.replicate_succ,Array.replicate_zero,List.push_toArray,List.append_toArray,qc,jN]
 gi_wp2
 gi_loopw [3] (fun i wr=>∃ k:Nat,k≤ks.length∧i=.int .i64 ((ks.length:Int) - 1 - (k:Int))∧J (tK ks k) wr∧qN n₀ Bs W wr)
  (fun i _=>(intOf i+1).toNat)
 case atStart=>exact⟨0,lI _,by simp,h0,qN.refl _ _ _⟩
 case round =>
  obtain⟨k,hk,rfl,hJs,hnx⟩:=hrel;have ahu:=hnx.2.trans hBs
  by_cases hlt:k<ks.length
  ·obtain⟨m,hm⟩:∃ m:Nat,ks.length=m+k+1:=⟨ks.length - 1 - k,by omega⟩
   have e1:(ks.length:Int) - 1 - (k:Int)=(m:Int):=by omega
   have e2:ks.length - 1 - k=m:=by omega
   have hsucc:=Rb ks k;rw[e1,e2] at hsucc;rw[e1];have hcx:=(hnx.1.cell (p:=⟨b,off+m,none⟩) hb).trans (hc m (by omega));obtain⟨fn,tmps,assign,body,hy,hR⟩:=hY _ ((m:Int),ks[m]?.getD 0) wr hJs (by rw[wZ];exact hlt);dsimp only at hy
   have hmI:(m:Int)<(ks.length:Int):=by omega
   have hm0:(0:Int)≤(m:Int):=by omega
   have HS:=ay hsucc;have HM:=ay hm;clear hsucc e1 e2 hm hc
   gi_wp2
   refine hR.mono ?_;rintro e W3 (⟨rfl,hJ3,gM⟩|⟨rfl,hJx3⟩)
   ·gi_wp2
    go_roundw
    case rel=>exact⟨k+1,by omega,congrArg (Value.int .i64) (by have:=HM.out;omega),by rw[HS.out];exact hJ3,hnx.trans gM⟩
    case measure=>simp only[intOf];omega
   ·gi_wp2
    refine bodyPost_ret (results_none rfl _ _ _) rfl ?_;exact⟨⟨_,rfl⟩,.inr ⟨_,⟨k+1,by omega,HS.out.symm⟩,hJx3⟩⟩
  ·obtain rfl:k=ks.length:=by omega
   have e1:(ks.length:Int) - 1 - (ks.length:Int)=-1:=by omega
   rw[e1];clear e1 hlt
   gi_wp2
   go_end0
   exact⟨⟨_,rfl⟩,.inl ⟨_,rfl,hJs⟩⟩
theorem Kz (F:Fence)(n:Nat)(h8:F.fn 308)(hro:F.round=none)(l Bs:Nat)(ao:Option Addr)(cap:Nat)(J:List (Int × Int)→World→Prop)(W:World)(hBs:W.cell? ⟨Bs,0,none⟩=some (.slice ao 0 cap))(h0:J [] W) :
  CallsIn F n Tryz.prog 308 #[.func (.yield l) #[] #[],.pointer (some ⟨Bs,0,none⟩)] W fun e W'=>(∃ v,e=.returned v)∧J [] W':=by
 refine callsIn_of_wp Tryz.func308 rfl h8 ?_ hro;simp only[Tryz.ntmps308,List.size_toArray,dR,gX,Nat.reduceAdd,Nat.reduceSub,Array.replicate_succ,Array.replicate_zero,List.push_toArray,List.append_toArray,qc,jN]
 gi_wp2
 gi_loopw [3] (fun i wr=>i=.int .i64 (-1)∧J [] wr) (fun _ _=>0)
 case atStart=>exact⟨rfl,h0⟩
 case round =>
  obtain⟨rfl,hJs⟩:=hrel
  gi_wp2
  go_end0
  exact⟨⟨_,rfl⟩,hJs⟩
theorem abG (F:Fence)(n:Nat)(h6:F.fn 298)(hro:F.round=none)(a:Option Addr)(len cap:Nat)(w:World) :
  CallsIn F n Tryz.prog 298 #[.slice a len cap] w fun e w'=>e=.returned (.func (.func 308) #[] #[.pointer (some ⟨w.heap.size,0,none⟩)])∧w'=w.alloc (.cells #[.slice a len cap] 127):=by
 refine callsIn_of_wp Tryz.func298 rfl h6 ?_ hro;simp only[Tryz.ntmps298,List.size_toArray,dR,gX,Nat.reduceAdd,Nat.reduceSub,Array.replicate_succ,Array.replicate_zero,List.push_toArray,List.append_toArray,qc,jN]
 gi_wp2
 go_ret;exact⟨rfl,rfl⟩
theorem Rc (F:Fence)(n:Nat)(h8:F.fn 308)(hro:F.round=none)(hn:1≤n)(Bs n₀:Nat)(sv:Value)(ks:List Int)(YG:ks.length≤1099511627776)(w:World)(hBs:Bs<w.heap.size)(hn₀:n₀≤w.heap.size)
  (hc:w.cell? ⟨Bs,0,none⟩=some sv) (hI:Ints n₀ w sv ks) :
  SeqStopsK F n Tryz.prog 308 #[.pointer (some ⟨Bs,0,none⟩)] (fun x:Int × Int=>#[Value.int .i64 x.1,Value.int .i64 x.2]) (qN n₀ Bs) (fun ys=>ys=tK ks ks.length)
   (fun pre=>∃ k,k≤ks.length∧pre=tK ks k) ks.length w:=fun l J Jx W hW _ _ hY h0=>by
 have hc':=(hW.cell (p:=⟨Bs,0,none⟩) hBs).trans hc;obtain⟨ao,cap,rfl,hcap,hf⟩:=(hI.below (hW.mono hn₀)).form
 by_cases h:0<ks.length
 ·obtain⟨b,off,rfl,hb,hcs⟩:=hf h
  exact YF F n h8 hro hn l Bs n₀ b off cap ks YG hb J Jx hY W hc' (fun j hj=>by rw[hcs j hj];simp[hj]) h0
 ·obtain rfl:ks=[]:=List.length_eq_zero_iff.1 (by omega)
  exact(Kz F n h8 hro l Bs ao cap J W hc' h0).mono fun e W' ⟨he,hj⟩=>⟨he,.inl ⟨_,rfl,hj⟩⟩
