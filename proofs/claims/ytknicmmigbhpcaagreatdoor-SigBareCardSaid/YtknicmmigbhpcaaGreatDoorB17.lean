/- Walks and plain laws: PrintPlain, ShowC, ShowD, LeavesW1. -/
import Derived.Test.YtknicmmigbhpcaaGreatDoorB16
import Derived.RangeFuncNested
import Derived.RangeFuncBound
import Derived.RangeFuncCalls
import Derived.RangeFuncLeaves
import Derived.RangeFuncWrites
import Derived.OwnWalkIn
import Derived.TacticsInMore
import Derived.LoopNIn
import Derived.LoopIn
import Derived.Sort.LoopGhostIn
set_option maxHeartbeats 16000000
set_option maxRecDepth 100000
set_option linter.unusedVariables false
set_option linter.unusedSimpArgs false
namespace Go.Proofs.YtknicmmigbhpcaaGreatDoor
def dF (t:List UInt8):Pc:=⟨[],if t∈pF then 2 else 1,t⟩
def Vn (t:List UInt8):Pc:=⟨[],3,t⟩
def mY (t:List UInt8):Pc:=⟨[],4,t⟩
def vT:List Pc→List Pc
 | []=>[]
 | p :: l=>⟨32 :: p.lead,p.kind,p.text⟩ :: l
def AA (least:Int)(k:Int × List Pc):List Pc:=if Fb k.1<least then mY [40] :: (k.2++[mY [41]]) else k.2
def nZ:List (List Pc)→List Pc
 | []=>[]
 | [t]=>t
 | t :: s :: l=>t++mY [44] :: vT (nZ (s :: l))
def jk (op:Int)(nm md:List UInt8)(num:Int)(yes:Bool)(ks:List (Int × List Pc)):List Pc :=
 if op=1 then [Vn (iZ num)]
 else if op=2 then [dF (if yes=true then [116,114,117,101] else [102,97,108,115,101])]
 else if op=3 then [dF nm]
 else if op=4 then [dF [114,101,115]]
 else if op=5 then mY [45] :: AA 9 (ks.getD 0 (0,[]))
 else if op=6 then dF [110,111,116] :: vT (AA 4 (ks.getD 0 (0,[])))
 else if op=21 then dF [105,102] :: (vT (ks.getD 0 (0,[])).2++vT [dF [116,104,101,110]]++vT (ks.getD 1 (0,[])).2++vT [dF [101,108,115,101]]++vT (ks.getD 2 (0,[])).2)
 else if op=22 then dF [108,101,116] :: (vT [dF nm]++vT [mY [61]]++vT (ks.getD 0 (0,[])).2++vT [dF [105,110]]++vT (ks.getD 1 (0,[])).2)
 else if op=23 then dF [97,115,115,101,114,116] :: (vT (ks.getD 0 (0,[])).2++vT [dF [105,110]]++vT (ks.getD 1 (0,[])).2)
 else if op=24 then (if md=[] then [] else [dF md,mY [46]])++([dF nm,mY [40]]++(nZ (ks.map Prod.snd)++[mY [41]]))
 else AA (sM op) (ks.getD 0 (0,[]))++(vT [mY (qc op)]++vT (AA (wV op) (ks.getD 1 (0,[]))))
mutual
def PZ.pR:PZ→List Pc
 | .mk op nm md num yes kids _=>jk op nm md num yes (EF kids)
def EF:List PZ→List (Int × List Pc)
 | []=>[]
 | e :: l=>(e.op,e.pR) :: EF l
end
theorem PZ.Ih (e:PZ):e.pR=jk e.op e.name e.module e.num e.yes (EF e.kids):=by cases e;rw[PZ.pR];rfl
theorem xM:∀ l:List PZ,EF l=l.map fun e=>(e.op,e.pR)
 | []=>rfl
 | e :: l=>by rw[EF,xM l];rfl
theorem KA {l:List PZ}{i:Nat}(h:i<l.length):(EF l).getD i (0,[])=(l[i].op,l[i].pR):=by
 rw[xM,List.getD_eq_getElem?_getD,List.getElem?_map,List.getElem?_eq_getElem h];rfl
theorem PZ.iY (e:PZ):∀ x∈e.kids,SizeOf.sizeOf x<SizeOf.sizeOf e:=by
 intro x hx
 cases e with
 | mk op name module num yes kids at_ =>
  have:=List.sizeOf_lt_of_mem hx;simp only[PZ.mk.sizeOf_spec,PZ.kids] at this ⊢;omega
structure CS (fm:Bool) (e:PZ):Prop where
 op1:1≤e.op
 adO:e.op≤24
 may:QJ fm e.op=true
 names:lS e.op e.name e.module=true
 values:oQ e.op e.num e.yes=true
 count:countB e.op e.kids.length=true
 kids:∀ x∈e.kids,x.right fm=true
theorem PZ.Ii {fm:Bool}{e:PZ}(h:e.right fm=true):CS fm e:=by
 rw[PZ.Fe,Pj] at h;simp only[Bool.and_eq_true,decide_eq_true_eq] at h;exact⟨h.1.1.1.1.1.1,h.1.1.1.1.1.2,h.1.1.1.1.2,h.1.1.1.2,h.1.1.2,h.1.2,sN.1 h.2⟩
inductive z8:Int→Nat→Prop where
 | none {op}:1≤op→op≤4→z8 op 0
 | one {op}:op=5∨op=6→z8 op 1
 | two {op}:7≤op→op≤20→z8 op 2
 | iff:z8 21 3
 | pG:z8 22 2
 | pI:z8 23 2
 | call {n}:n≤8→z8 24 n
theorem CS.form {fm:Bool}{e:PZ}(h:CS fm e):z8 e.op e.kids.length:=by
 have h1:=h.op1;have h2:=h.adO;have hc:=h.count;unfold countB at hc;generalize e.op=op at *
 split at hc
 ·rw[decide_eq_true_eq] at hc;rw[hc];exact .none h1 (by omega)
 split at hc
 ·rw[decide_eq_true_eq] at hc;rw[hc];exact .one (by omega)
 split at hc
 ·rw[decide_eq_true_eq] at hc;rw[hc]
  by_cases q:op=22
  ·subst q;exact .pG
  by_cases q2:op=23
  ·subst q2;exact .pI
  ·exact .two (by omega) (by omega)
 split at hc
 ·rename_i q;subst q;rw[decide_eq_true_eq] at hc;rw[hc];exact .iff
 ·rw[decide_eq_true_eq] at hc
  obtain rfl:op=24:=by omega
  exact .call hc
theorem dQ {l:List Pc}(h:l≠[]):bf (vT l)=[32]++bf l:=by
 cases l with
 | nil=>exact absurd rfl h
 | cons p l=>simp[vT,bf]
theorem vU (p:Pc):bf (vT [p])=32 :: (p.lead++p.text):=by simp[vT,bf]
theorem AY {least:Int}{k:Int × List Pc}(h:k.2≠[]):AA least k≠[]:=by
 unfold AA
 split
 ·simp
 ·exact h
theorem rA {least op:Int}{q:List Pc}{t:List UInt8}(h:bf q=t):bf (AA least (op,q))=oJ least (op,t):=by
 unfold AA oJ
 split
 ·simp[bf,bW,mY,h]
 ·exact h
theorem RA {t:List Pc}{l:List (List Pc)}(h:t≠[]):nZ (t :: l)≠[]:=by
 cases l with
 | nil=>exact h
 | cons s l=>rw[nZ];simp
theorem xO:∀ (es:List PZ),(∀ x∈es,bf x.pR=x.text∧x.pR≠[])→bf (nZ (es.map PZ.pR))=bg (es.map PZ.text)
 | [],_=>rfl
 | [e],h=>(h e (by simp)).1
 | e :: f :: l,h=>by
  have ih:=xO (f :: l) fun x hx=>h x (List.mem_cons_of_mem _ hx)
  have hf:=(h f (by simp)).2;simp only[List.map_cons] at ih ⊢;rw[nZ,bg,bW,bf,dQ (RA hf),ih,(h e (by simp)).1];simp[mY]
theorem PZ.bytes {fm:Bool}:∀ (n:Nat) (e:PZ),SizeOf.sizeOf e<n→e.right fm=true→bf e.pR=e.text∧e.pR≠[]
 | 0,_,h,_=>absurd h (by omega)
 | n+1,e,hs,hr=>by
  have R:=PZ.Ii hr
  have ih:∀ x∈e.kids,bf x.pR=x.text∧x.pR≠[]:=fun x hx=>PZ.bytes n x (by have:=e.iY x hx;omega) (R.kids x hx)
  have F:=R.form;rw[e.Ih,e.mH]
  have hk:∀ i,(h:i<e.kids.length)→(EF e.kids).getD i (0,[])=(e.kids[i].op,e.kids[i].pR)∧(gK e.kids).getD i (0,[])=(e.kids[i].op,e.kids[i].text)∧bf e.kids[i].pR=e.kids[i].text∧e.kids[i].pR≠[]:=fun i h=>⟨KA h,j3 h,ih _ (List.getElem_mem h)⟩
  have hm:(EF e.kids).map Prod.snd=e.kids.map PZ.pR∧(gK e.kids).map Prod.snd=e.kids.map PZ.text:=by
   rw[xM,nU];simp
  have hcm:=xO e.kids ih;generalize e.kids=ks at *;generalize hn:ks.length=c at F;generalize e.op=op at *
  cases F with
  | none h1 h2 =>
   have:op=1∨op=2∨op=3∨op=4:=by omega
   rcases this with rfl|rfl|rfl|rfl<;>simp[jk,lD,bf,Vn,dF]
  | one h =>
   obtain⟨a1,a2,a3,a4⟩:=hk 0 (by omega)
   rcases h with rfl|rfl
   ·simp only[jk,lD]
    simp only[if_neg,if_pos,show ¬ (5:Int)=1 by decide,show ¬ (5:Int)=2 by decide,show ¬ (5:Int)=3 by decide,show ¬ (5:Int)=4 by decide,not_false_eq_true];rw[a1,a2,bf,rA a3];simp[mY]
   ·simp only[jk,lD]
    simp only[if_neg,if_pos,show ¬ (6:Int)=1 by decide,show ¬ (6:Int)=2 by decide,show ¬ (6:Int)=3 by decide,show ¬ (6:Int)=4 by decide,show ¬ (6:Int)=5 by decide,not_false_eq_true];rw[a1,a2,bf,dQ (AY a4),rA a3];simp[dF]
  | two h1 h2 =>
   obtain⟨a1,a2,a3,a4⟩:=hk 0 (by omega);obtain⟨b1,b2,b3,b4⟩:=hk 1 (by omega)
   have e1:∀ k:Int,(k≤6∨21≤k)→¬ op=k:=fun k hk q=>by omega
   simp only[jk,lD]
   rw[if_neg (e1 1 (by omega)),if_neg (e1 2 (by omega)),if_neg (e1 3 (by omega)),if_neg (e1 4 (by omega)),if_neg (e1 5 (by omega)),if_neg (e1 6 (by omega)),if_neg (e1 21 (by omega)),if_neg (e1 22 (by omega)),if_neg (e1 23 (by omega)),if_neg (e1 24 (by omega)),
    if_neg (e1 1 (by omega)),if_neg (e1 2 (by omega)),if_neg (e1 3 (by omega)),if_neg (e1 4 (by omega)),if_neg (e1 5 (by omega)),if_neg (e1 6 (by omega)),if_neg (e1 21 (by omega)),if_neg (e1 22 (by omega)),if_neg (e1 23 (by omega)),if_neg (e1 24 (by omega)),a1,a2,b1,b2,bW,bW,dQ (by simp),dQ (AY b4),rA a3,rA b3]
   simp[bf,mY,vT]
  | iff =>
   obtain⟨a1,a2,a3,a4⟩:=hk 0 (by omega);obtain⟨b1,b2,b3,b4⟩:=hk 1 (by omega);obtain⟨c1,c2,c3,c4⟩:=hk 2 (by omega);simp only[jk,lD];simp only[if_neg,if_pos,show ¬ (21:Int)=1 by decide,show ¬ (21:Int)=2 by decide,show ¬ (21:Int)=3 by decide,show ¬ (21:Int)=4 by decide,show ¬ (21:Int)=5 by decide,show ¬ (21:Int)=6 by decide,not_false_eq_true];rw[a1,a2,b1,b2,c1,c2];simp only[bf,bW,dQ a4,dQ b4,dQ c4,a3,b3,c3,vU,dF]
   simp
  | pG =>
   obtain⟨a1,a2,a3,a4⟩:=hk 0 (by omega);obtain⟨b1,b2,b3,b4⟩:=hk 1 (by omega);simp only[jk,lD];simp only[if_neg,if_pos,show ¬ (22:Int)=1 by decide,show ¬ (22:Int)=2 by decide,show ¬ (22:Int)=3 by decide,show ¬ (22:Int)=4 by decide,show ¬ (22:Int)=5 by decide,show ¬ (22:Int)=6 by decide,show ¬ (22:Int)=21 by decide,not_false_eq_true];rw[a1,a2,b1,b2];simp only[bf,bW,dQ a4,dQ b4,a3,b3,vU,dF,mY]
   simp
  | pI =>
   obtain⟨a1,a2,a3,a4⟩:=hk 0 (by omega);obtain⟨b1,b2,b3,b4⟩:=hk 1 (by omega);simp only[jk,lD];simp only[if_neg,if_pos,show ¬ (23:Int)=1 by decide,show ¬ (23:Int)=2 by decide,show ¬ (23:Int)=3 by decide,show ¬ (23:Int)=4 by decide,show ¬ (23:Int)=5 by decide,show ¬ (23:Int)=6 by decide,show ¬ (23:Int)=21 by decide,show ¬ (23:Int)=22 by decide,not_false_eq_true];rw[a1,a2,b1,b2];simp only[bf,bW,dQ a4,dQ b4,a3,b3,vU,dF]
   simp
  | call h =>
   simp only[jk,lD];simp only[if_neg,if_pos,show ¬ (24:Int)=1 by decide,show ¬ (24:Int)=2 by decide,show ¬ (24:Int)=3 by decide,show ¬ (24:Int)=4 by decide,show ¬ (24:Int)=5 by decide,show ¬ (24:Int)=6 by decide,show ¬ (24:Int)=21 by decide,show ¬ (24:Int)=22 by decide,show ¬ (24:Int)=23 by decide,not_false_eq_true];rw[hm.1,hm.2];simp only[bf,bW,hcm,dF,mY]
   constructor
   ·split<;>simp[bf]
   ·simp
end Go.Proofs.YtknicmmigbhpcaaGreatDoor

namespace Go.Proofs.YtknicmmigbhpcaaGreatDoor
open Go.RowKit Go
mutual
def PZ.fit:PZ→Prop
 | .mk _ nm md num _ kids _=>nm.length≤65536∧md.length≤65536∧num.natAbs<10 ^ 60∧kids.length≤65536∧Ij kids
def Ij:List PZ→Prop
 | []=>True
 | e :: l=>e.fit∧Ij l
end
theorem KC:∀ {l:List PZ},Ij l→∀ e∈l,e.fit
 | x :: l,h,e,hm=>by
  rw[Ij] at h
  rcases List.mem_cons.1 hm with rfl|hm
  ·exact h.1
  ·exact KC h.2 e hm
theorem PZ.pq {e:PZ}(h:e.fit):e.name.length≤65536∧e.module.length≤65536∧e.num.natAbs<10 ^ 60∧e.kids.length≤65536∧∀ x∈e.kids,x.fit:=by
 cases e;rw[PZ.fit] at h;exact⟨h.1,h.2.1,h.2.2.1,h.2.2.2.1,KC h.2.2.2.2⟩
theorem oI.YQ {P:Nat→Prop}{w:World}{m k:Value}{x:PZ}(h:oI YA P w m k x):∃ am wn cm ae ce,m=.slice am wn cm∧k=.slice ae x.kids.length ce:=by
 obtain⟨Ay,ae,ce,rfl,_,_⟩:=h.form
 obtain⟨ws,hws,_⟩:=(Ay:kR _ _ _ _)
 obtain⟨am,cm,rfl⟩:=hws.form;exact⟨am,_,cm,ae,ce,rfl,rfl⟩
def jI (B:Nat)(w:World)(ae:Option Addr)(ks:List PZ):Prop:=0<ks.length→∃ b off,ae=some ⟨b,off,none⟩∧b<B∧b<w.heap.size∧∀ i,(hi:i<ks.length)→∃ am wn cm ak ck,oI YA (fun b=>b<B) w (.slice am wn cm) (.slice ak ks[i].kids.length ck) ks[i]∧∀ j u,(YA.cells ks[i] (.slice am wn cm) (.slice ak ks[i].kids.length ck))[j]?=some u→w.cell? ⟨b,off+i * 8+j,none⟩=some u
theorem oI.Vo {B:Nat}{w:World}{mv:Value}{ae:Option Addr}{ce:Nat}{e:PZ}(h:oI YA (fun b=>b<B) w mv (.slice ae e.kids.length ce) e):jI B w ae e.kids:=by
 obtain⟨_,ae',ce',hv,_,hf⟩:=h.form;simp only[Value.slice.injEq] at hv;obtain⟨rfl,-,rfl⟩:=hv;intro h0;obtain⟨b,off,h1,h2,h3,h4⟩:=hf h0;refine⟨b,off,h1,h2,h3,fun i hi=>?_⟩;obtain⟨m,k,h5,h6⟩:=h4 i hi;obtain⟨am,wn,cm,ak,ck,rfl,rfl⟩:=h5.YQ;exact⟨am,wn,cm,ak,ck,h5,h6⟩
def Vp (f:FuncId)(lb:Array Value)(p:PZ→Bool)(B:Nat)(w:World)(x:PZ):Prop:=∀ (W:World) (am:Option Addr) (wn cm:Nat) (ak:Option Addr) (ck:Nat),Below w.heap.size w W→oI YA (fun b=>b<B) W (.slice am wn cm) (.slice ak x.kids.length ck) x →
 Calls Tryz.prog f (#[.agg #[.int .i64 x.op,.string ⟨x.name.toArray⟩,.string ⟨x.module.toArray⟩,.bool (decide (x.num<0)),.slice am wn cm,.bool x.yes,.slice ak x.kids.length ck,.int .i64 x.at_]]++lb) W fun r w'=>r=.returned (.bool (p x))∧Below W.heap.size W w'
def zh (p:PZ→Bool):List PZ→Nat→Int
 | [],_=>-1
 | x :: l,k=>if p x=true then k else zh p l (k+1)
theorem KD (p:PZ→Bool):∀ (l:List PZ) (k:Nat),decide (0≤zh p l k)=l.any p
 | [],k=>rfl
 | x :: l,k=>by
  rw[zh,List.any_cons]
  split
  ·rename_i h;rw[h];exact decide_eq_true (by omega)
  ·rename_i h;rw[Bool.not_eq_true] at h;rw[h,KD p l];rfl
theorem PD {p:PZ→Bool}:∀ {ks:List PZ} {k:Nat} (j:Nat) (h:k<ks.length),(∀ i,i<k→(hi:i<ks.length)→p ks[i]=false)→zh p ks j=if p ks[k]=true then ((j+k:Nat):Int) else zh p (ks.drop (k+1)) (j+k+1)
 | x :: l,0,j,h,_=>by simp[zh]
 | x :: l,k+1,j,h,hf=>by
  have h0:=hf 0 (by omega) (by simp)
  have ih:=PD (p:=p) (ks:=l) (k:=k) (j+1) (by simpa using h) fun i hi hl=>by have:=hf (i+1) (by omega) (by simpa using hl);simpa using this
  rw[zh,if_neg (by simpa using h0),ih];simp only[List.getElem_cons_succ,List.drop_succ_cons];rw[show j+1+k=j+(k+1) by omega]
theorem PG {p:PZ→Bool}:∀ {ks:List PZ} (j:Nat),(∀ i,(hi:i<ks.length)→p ks[i]=false)→zh p ks j=-1
 | [],_,_=>rfl
 | x :: l,j,hf=>by
  have h0:=hf 0 (by simp);rw[zh,if_neg (by simpa using h0)]
  exact PG (j+1) fun i hi=>by have:=hf (i+1) (by simpa using hi);simpa using this
theorem Ny (f:FuncId)(lb:Array Value)(p:PZ→Bool)(eg:∀ args w,(callFunc f args).run Tryz.prog w=.ok (.enter f args) w)(B:Nat)(ae:Option Addr)(ce:Nat)(ks:List PZ)(w:World)(hk:jI B w ae ks)(hB:B≤w.heap.size)(hn:ks.length≤1099511627776)(ha:∀ x∈ks,Vp f lb p B w x) :
  Calls Tryz.prog 158 #[.slice ae ks.length ce,.func (.func f) #[] lb] w fun r w'=>r=.returned (.int .i64 (zh p ks 0))∧Below w.heap.size w w':=by
 have HK:=ah hk;have HA:=ah ha;clear hk ha;go_enter Tryz.func158,Tryz.ntmps158;go_wp2
 go_loopw [5,8] (fun _ q wr=>∃ k:Nat,k≤ks.length∧q=.int .i64 k∧(∀ i,i<k→(hi:i<ks.length)→p ks[i]=false)∧Below w.heap.size w wr) (fun _ q _=>ks.length - (intOf q).toNat)
 case atStart=>exact⟨0,Nat.zero_le _,rfl,fun i hi=>absurd hi (by omega),Below.refl _ _⟩
 case round =>
  obtain⟨k,hkl,rfl,hno,hbl⟩:=hrel;have hw:=hbl.size;have HN:=ah hno;clear hno
  by_cases hlt:k<ks.length
  ·obtain⟨b,off,rfl,YT,hbw,qx⟩:=HK.out (by omega)
   obtain⟨am,wn,cm,ak,ck,hE,hc⟩:=qx k hlt;have hA:=HA.out _ (List.getElem_mem hlt) wr am wn cm ak ck hbl (hE.frame (aQ.sQ hbl (fun b hb=>by omega)));have hix:=PD (p:=p) 0 hlt HN.out
   have hnx:p ks[k]=false→∀ i,i<k+1→(hi:i<ks.length)→p ks[i]=false:=fun q i hi hl=>by
    by_cases e:i=k
    ·subst e;exact q
    ·exact HN.out i (by omega) hl
   have y0:=(hbl.cell (p:=⟨b,off+k * 8,none⟩) hbw).trans (hc 0 _ rfl);have y1:=(hbl.cell (p:=⟨b,off+k * 8+1,none⟩) hbw).trans (hc 1 _ rfl);have y2:=(hbl.cell (p:=⟨b,off+k * 8+2,none⟩) hbw).trans (hc 2 _ rfl);have y3:=(hbl.cell (p:=⟨b,off+k * 8+3,none⟩) hbw).trans (hc 3 _ rfl);have y4:=(hbl.cell (p:=⟨b,off+k * 8+4,none⟩) hbw).trans (hc 4 _ rfl);have y5:=(hbl.cell (p:=⟨b,off+k * 8+5,none⟩) hbw).trans (hc 5 _ rfl);have y6:=(hbl.cell (p:=⟨b,off+k * 8+6,none⟩) hbw).trans (hc 6 _ rfl);have y7:=(hbl.cell (p:=⟨b,off+k * 8+7,none⟩) hbw).trans (hc 7 _ rfl);simp only[dh] at y1 y2;have HX:=ah hix;have YU:=ah hnx;clear qx hc hE hix hnx;generalize ks[k]=x at y0 y1 y2 y3 y4 y5 y6 y7 hA HX YU
   have oH:(k:Int)<(ks.length:Int):=by omega
   cases hq:p x with
   | true =>
    rw[hq] at hA;have XQ:Hid (zh p ks 0=(k:Int)):=ah (by rw[HX.out,if_pos hq,Nat.zero_add]);have HAA:=ah hA;clear hA hq HX YU;go_wp2_with (go_at_fn f;refine HAA.out.mono ?_;rintro r w2 ⟨rfl,hb2⟩);go_ret;exact⟨GJ (by rw[XQ.out]),hbl.trans (hb2.mono hw)⟩
   | false =>
    rw[hq] at hA;have adP:=ah (YU.out hq);have HAA:=ah hA;clear hA hq HX YU;go_wp2_with (go_at_fn f;refine HAA.out.mono ?_;rintro r w2 ⟨rfl,hb2⟩);exact⟨⟨k+1,by omega,by go_num,adP.out,hbl.trans (hb2.mono hw)⟩,by simp[intOf];omega⟩
  ·obtain rfl:k=ks.length:=by omega
   have oH:decide ((ks.length:Int)<(ks.length:Int))=false:=decide_eq_false (by omega);have XQ:Hid (zh p ks 0=-1):=ah (PG 0 fun i hi=>HN.out i hi hi);clear HN;go_wp2;go_ret;exact⟨GJ (by rw[XQ.out]),hbl⟩
theorem mo (f:FuncId)(lb:Array Value)(p:PZ→Bool)(eg:∀ args w,(callFunc f args).run Tryz.prog w=.ok (.enter f args) w)(B:Nat)(ae:Option Addr)(ce:Nat)(ks:List PZ)(w:World)(hk:jI B w ae ks)(hB:B≤w.heap.size)(hn:ks.length≤1099511627776)(ha:∀ x∈ks,Vp f lb p B w x) :
  Calls Tryz.prog 95 #[.slice ae ks.length ce,.func (.func f) #[] lb] w fun r w'=>r=.returned (.bool (ks.any p))∧Below w.heap.size w w':=by
 have HI:=ah (Ny f lb p eg B ae ce ks w hk hB hn ha);have HY:=ah (KD p ks 0);clear hk ha hn hB eg;generalize zh p ks 0=i at *;go_enter Tryz.func95,Tryz.ntmps95;go_wp2_with (go_at_call 158;refine HI.out.mono ?_;rintro r w2 ⟨rfl,hb2⟩);go_ret;exact⟨aX (by rw[← HY.out]),hb2⟩
def Ik (fm:Bool)(e:PZ):Prop:=∀ (B:Nat) (am:Option Addr) (wn cm:Nat) (ae:Option Addr) (ce:Nat) (w:World),oI YA (fun b=>b<B) w (.slice am wn cm) (.slice ae e.kids.length ce) e→B≤w.heap.size→e.kids.length≤1099511627776 →
  Calls Tryz.prog 127 #[.agg #[.int .i64 e.op,.string ⟨e.name.toArray⟩,.string ⟨e.module.toArray⟩,.bool (decide (e.num<0)),.slice am wn cm,.bool e.yes,.slice ae e.kids.length ce,.int .i64 e.at_],.int .i64 (if fm=true then 0 else 1)] w fun r w'=>r=.returned (.bool (e.right fm))∧Below w.heap.size w w'
theorem Nz (fm:Bool)(x:PZ)(hx:Ik fm x)(hz:x.kids.length≤1099511627776)(B kb:Nat)(w:World)(hk:w.cell? ⟨kb,0,none⟩=some (.int .i64 (if fm=true then 0 else 1)))(hkl:kb<w.heap.size)(hB:B≤w.heap.size) :
  Vp 205 #[.pointer (some ⟨kb,0,none⟩)] (fun x=>!x.right fm) B w x:=by
 intro W am wn cm ak ck hW hE;have hs:=hW.size;have hbx:=aj W (.cells (aU x.op ⟨x.name.toArray⟩ ⟨x.module.toArray⟩ (decide (x.num<0)) (.slice am wn cm) x.yes (.slice ak x.kids.length ck) x.at_) 46);have HX:=ah (hx B am wn cm ak ck (W.alloc (.cells (aU x.op ⟨x.name.toArray⟩ ⟨x.module.toArray⟩ (decide (x.num<0)) (.slice am wn cm) x.yes (.slice ak x.kids.length ck) x.at_) 46)) (hE.frame (aQ.of hbx)) (by simp;omega) hz)
 have hk1:=((hW.cell (p:=⟨kb,0,none⟩) hkl).trans hk)
 have hk2:=(hbx.cell (p:=⟨kb,0,none⟩) (by show kb<_;omega)).trans hk1;have hN:=heap_alloc_new W (.cells (aU x.op ⟨x.name.toArray⟩ ⟨x.module.toArray⟩ (decide (x.num<0)) (.slice am wn cm) x.yes (.slice ak x.kids.length ck) x.at_) 46)
 show Calls _ _ #[_,_] _ fun r w'=>r=.returned (.bool (!x.right fm))∧Below W.heap.size W w'
 generalize (if fm=true then (0:Int) else 1)=kd at *;generalize x.right fm=rb at *;clear hx hE hk hk1 hz;go_enter Tryz.func205,Tryz.ntmps205
 go_upto_region 1 with fail
 change Code.wp _ _ _ _ (W.alloc (.cells (aU x.op ⟨x.name.toArray⟩ ⟨x.module.toArray⟩ (decide (x.num<0)) (.slice am wn cm) x.yes (.slice ak x.kids.length ck) x.at_) 46));generalize W.alloc _=w0 at hbx hN hk2 HX ⊢;obtain⟨y0,y1,y2,y3,y4,y5,y6,y7⟩:=aG hN;go_wp2_with (go_at_call 127;refine HX.out.mono ?_;rintro r w1 ⟨rfl,hb1⟩);go_ret;exact⟨rfl,hbx.trans (hb1.mono hbx.size)⟩
theorem NA {op:Int}{n:Nat}(h1:1≤op)(h2:op≤24):(0≤zZ op∧countB op n=decide ((n:Int)=zZ op)∧zZ op≤3)∨(zZ op=-1∧countB op n=decide (n≤8)):=by
 unfold zZ countB
 by_cases h4:op≤4
 ·left;simp only[if_pos h4];refine⟨by omega,?_,by omega⟩;congr 1;exact propext (by omega)
 by_cases h6:op≤6
 ·left;simp only[if_neg h4,if_pos h6];refine⟨by omega,?_,by omega⟩;congr 1;exact propext (by omega)
 by_cases h20:op≤20∨op=22∨op=23
 ·left;simp only[if_neg h4,if_neg h6,if_pos h20];refine⟨by omega,?_,by omega⟩;congr 1;exact propext (by omega)
 by_cases h21:op=21
 ·left;simp only[if_neg h4,if_neg h6,if_neg h20,if_pos h21];refine⟨by omega,?_,by omega⟩;congr 1;exact propext (by omega)
 ·right;refine⟨?_,?_⟩<;>simp only[if_neg h4,if_neg h6,if_neg h20,if_neg h21]
theorem vV (fm:Bool):∀ l:List PZ,mg fm l=!(l.any fun x=>!x.right fm)
 | []=>rfl
 | e :: l=>by rw[mg,vV fm l,List.any_cons];cases e.right fm<;>simp
theorem KE (fm:Bool)(e:PZ)(hf:e.fit)(IH:∀ x∈e.kids,Ik fm x∧x.kids.length≤1099511627776):Ik fm e:=by
 intro B am wn cm ae ce w h hB hkl;obtain⟨f1,f2,f3,-,-⟩:=PZ.pq hf;have Ay:kR (fun b=>b<B) w e.num (.slice am wn cm):=h.form.1;have hkz:=h.Vo
 have hdef:e.right fm=(decide (1≤e.op) && (decide (e.op≤24) && (QJ fm e.op && (lS e.op e.name e.module && (oQ e.op e.num e.yes && (countB e.op e.kids.length && mg fm e.kids)))))):=by
  rw[e.Fe,Pj];simp only[Bool.and_assoc]
 have HM:=ah (fun W=>YS e.op fm W);have HK:=ah (fun W=>Vk e.op W)
 have hNA:=fun W=>Rx e.op ⟨e.name.toArray⟩ ⟨e.module.toArray⟩ (decide (e.num<0)) am wn cm e.yes ae e.kids.length ce e.at_ W (by show e.name.toArray.size≤_;simp;omega) (by show e.module.toArray.size≤_;simp;omega)
 have hVA:=fun W (hW:Below w.heap.size w W)=>Nv (fun b=>b<B) e.op ⟨e.name.toArray⟩ ⟨e.module.toArray⟩ e.num am wn cm e.yes ae e.kids.length ce e.at_ W (YA.frame Ay (aQ.of hW)) f3
 have HNA:=ah hNA;have HVA:=ah hVA
 have PI:=fun (W:World) (kb:Nat) (hW:Below w.heap.size w W) (hk:W.cell? ⟨kb,0,none⟩=some (.int .i64 (if fm=true then 0 else 1))) (hkl':kb<W.heap.size)=>mo 205 #[.pointer (some ⟨kb,0,none⟩)] (fun x=>!x.right fm) (enters_of Tryz.func205 (by kernel_rfl) rfl) B ae ce e.kids W (fun h0=>by
   obtain⟨b,off,q1,q2,q3,q4⟩:=hkz h0;refine⟨b,off,q1,q2,Nat.lt_of_lt_of_le q3 hW.size,fun i hi=>?_⟩;obtain⟨Eo,wn',Ep,xP,xQ,q5,q6⟩:=q4 i hi
   exact⟨Eo,wn',Ep,xP,xQ,q5.frame (aQ.of hW),fun j u hu=>(hW.cell (p:=⟨b,off+i * 8+j,none⟩) q3).trans (q6 j u hu)⟩) (by have:=hW.size;omega) hkl fun x hx=>Nz fm x (IH x hx).1 (IH x hx).2 B kb W hk hkl' (by have:=hW.size;omega)
 have PK:=ah PI;rw[vV] at hdef;have hkc:=NA (op:=e.op) (n:=e.kids.length);clear hNA hVA PI Ay hkz h IH hf f1 f2 f3;have eN:lS e.op (ByteArray.mk e.name.toArray).data.toList (ByteArray.mk e.module.toArray).data.toList=lS e.op e.name e.module:=rfl;rw[eN] at HNA;clear eN;generalize lS e.op e.name e.module=nb at *;generalize oQ e.op e.num e.yes=vb at *;generalize QJ fm e.op=mb at *;generalize (if fm=true then (0:Int) else 1)=kd at *;generalize e.right fm=res at *;generalize (e.kids.any fun x=>!x.right fm)=an at *;have HD:=ah hdef;have TB:=ah hkc;clear hdef hkc;generalize decide (e.num<0)=ng at *;generalize e.op=op at *;generalize e.kids.length=nk at *;generalize countB op nk=cb at *;generalize zZ op=kn at *;have hbw:=(aj w (.cells (aU op ⟨e.name.toArray⟩ ⟨e.module.toArray⟩ ng (.slice am wn cm) e.yes (.slice ae nk ce) e.at_) 46)).alloc (by simp) (.cells #[.int .i64 kd] 215);have hN:=(Lib.alloc_old (w.alloc (.cells (aU op ⟨e.name.toArray⟩ ⟨e.module.toArray⟩ ng (.slice am wn cm) e.yes (.slice ae nk ce) e.at_) 46)) (.cells #[.int .i64 kd] 215) w.heap.size (by simp)).trans (heap_alloc_new w (.cells (aU op ⟨e.name.toArray⟩ ⟨e.module.toArray⟩ ng (.slice am wn cm) e.yes (.slice ae nk ce) e.at_) 46));have hK:=heap_alloc_new (w.alloc (.cells (aU op ⟨e.name.toArray⟩ ⟨e.module.toArray⟩ ng (.slice am wn cm) e.yes (.slice ae nk ce) e.at_) 46)) (.cells #[.int .i64 kd] 215);rw[World.size_alloc] at hK;go_enter Tryz.func127,Tryz.ntmps127
 go_upto_region 1 with fail
 change Code.wp _ _ _ _ ((w.alloc (.cells (aU op ⟨e.name.toArray⟩ ⟨e.module.toArray⟩ ng (.slice am wn cm) e.yes (.slice ae nk ce) e.at_) 46)).alloc (.cells #[.int .i64 kd] 215));generalize (w.alloc _).alloc _=w2 at hbw hN hK ⊢;have hl1:=(bG hN).1;have hl2:=(bG hK).1;have hz2:=hbw.size;obtain⟨y0,y1,y2,y3,y4,y5,y6,y7⟩:=aG hN
 have yk:w2.cell? ⟨w.heap.size+1,0,none⟩=some (.int .i64 kd):=by rw[Lib.cell_of_heap hK];rfl
 have fin:∀ W:World,res=false→Below w.heap.size w W→(Ending.returned (.bool false)=Ending.returned (.bool res)∧Below w.heap.size w W):=fun _ h1 h2=>⟨by rw[h1],h2⟩
 have NC:=ah fin;clear fin
 by_cases c1:op<1
 ·have hr:Hid (res=false):=ah (by rw[HD.out,decide_eq_false (by omega)];rfl)
  clear HD TB PK HNA HVA HK HM;go_wp2;go_ret;exact NC.out _ hr.out hbw
 by_cases c2:24<op
 ·have hr:Hid (res=false):=ah (by rw[HD.out,decide_eq_false (by omega:¬ op≤24)];cases decide (1≤op)<;>rfl)
  clear HD TB PK HNA HVA HK HM;go_wp2;go_ret;exact NC.out _ hr.out hbw
 have hD2:res=(mb && (nb && (vb && (cb && !an)))):=by rw[HD.out,decide_eq_true (by omega),decide_eq_true (by omega)];rfl
 have HD2:=ah hD2;clear hD2 HD;have hkc:=TB.out (by omega) (by omega);have KF:=ah hkc;clear hkc TB
 cases mb with
 | false =>
  have hr:Hid (res=false):=ah (by rw[HD2.out];rfl);clear HD2 KF PK HNA HVA HK;go_wp2_with (go_at_call 201;refine(HM.out _).mono ?_;rintro r w' ⟨rfl,rfl⟩);go_ret;exact NC.out _ hr.out hbw
 | true =>
 cases nb with
 | false =>
  have hr:Hid (res=false):=ah (by rw[HD2.out];rfl);clear HD2 KF PK HVA HK;go_wp2_with (first|(go_at_call 201;refine(HM.out _).mono ?_;rintro r w' ⟨rfl,rfl⟩)|(go_at_call 202;refine(HNA.out _).mono ?_;rintro r w3 ⟨rfl,hb3⟩));go_ret;exact NC.out _ hr.out (hbw.trans (hb3.mono hz2))
 | true =>
 cases vb with
 | false =>
  have hr:Hid (res=false):=ah (by rw[HD2.out];rfl);clear HD2 KF PK HK;go_wp2_with (first|(go_at_call 201;refine(HM.out _).mono ?_;rintro r w' ⟨rfl,rfl⟩)|(go_at_call 202;refine(HNA.out _).mono ?_;rintro r w3 ⟨rfl,hb3⟩;have AB:=hbw.trans (hb3.mono hz2);obtain⟨z0,z1,z2,z3,z4,z5,z6,z7⟩:=aG ((hb3.block w.heap.size hl1).trans hN))|(go_at_call 203;refine(HVA.out _ AB).mono ?_;rintro r w4 ⟨rfl,hb4⟩));go_ret;exact NC.out _ hr.out (AB.trans (hb4.mono AB.size))
 | true =>
 have HD3:Hid (res=(cb && !an)):=ah (by rw[HD2.out];rfl);clear HD2
 go_upto_region 3 with (first|(go_at_call 201;refine(HM.out _).mono ?_;rintro r w' ⟨rfl,rfl⟩)|(go_at_call 202;refine(HNA.out _).mono ?_;rintro r w3 ⟨rfl,hb3⟩;have AB:=hbw.trans (hb3.mono hz2);obtain⟨z0,z1,z2,z3,z4,z5,z6,z7⟩:=aG ((hb3.block w.heap.size hl1).trans hN))|(go_at_call 203;refine(HVA.out _ AB).mono ?_;rintro r w4 ⟨rfl,hb4⟩))
 have lQ:=AB.trans (hb4.mono AB.size);have hz3:=hb3.size;have Vq:=(hb4.block w.heap.size (by omega)).trans ((hb3.block w.heap.size hl1).trans hN);have hK4:=(hb4.block (w.heap.size+1) (by omega)).trans ((hb3.block (w.heap.size+1) hl2).trans hK);have hl4:=(bG hK4).1;clear z0 z1 z2 z3 z4 z5 z6 z7 y0 y1 y2 y3 y4 y5 y6 y7 yk hN hK HNA HVA HM;obtain⟨y0,y1,y2,y3,y4,y5,y6,y7⟩:=aG Vq
 have yk:w4.cell? ⟨w.heap.size+1,0,none⟩=some (.int .i64 kd):=by rw[Lib.cell_of_heap hK4];rfl
 have HC4:=ah (PK.out w4 (w.heap.size+1) lQ yk hl4);clear PK Vq hK4
 rcases KF.out with ⟨k0,k1,k3⟩|⟨k0,k1⟩
 ·by_cases hq:(nk:Int)=kn
  ·have HD4:Hid (res=!an):=ah (by rw[HD3.out,k1,decide_eq_true hq];rfl)
   have h8:(nk:Int)≤8:=by omega
   have hne:((nk:Int) == kn)=true:=by rw[hq];exact beq_self_eq_true _
   have HQ:=ah hq;clear k1 KF HD3 hq;go_wp2_with (first|(go_at_call 204;refine(HK.out _).mono ?_;rintro r w' ⟨rfl,rfl⟩)|(go_at_call 95;refine HC4.out.mono ?_;rintro r w5 ⟨rfl,hb5⟩));go_ret;exact⟨aX (by rw[HD4.out]),lQ.trans (hb5.mono lQ.size)⟩
  ·have hr:Hid (res=false):=ah (by rw[HD3.out,k1,decide_eq_false hq];rfl)
   have hne:((nk:Int) == kn)=false:=beq_eq_false_iff_ne.2 hq
   have hne2:((nk:Int) != kn)=true:=by rw[bne,hne];rfl
   clear k1 KF HD3 HC4 hq;go_wp2_with (go_at_call 204;refine(HK.out _).mono ?_;rintro r w' ⟨rfl,rfl⟩);go_ret;exact NC.out _ hr.out lQ
 ·subst k0
  by_cases hq:nk≤8
  ·have HD4:Hid (res=!an):=ah (by rw[HD3.out,k1,decide_eq_true hq];rfl)
   have h8:(nk:Int)≤8:=by omega
   clear k1 KF HD3;go_wp2_with (first|(go_at_call 204;refine(HK.out _).mono ?_;rintro r w' ⟨rfl,rfl⟩)|(go_at_call 95;refine HC4.out.mono ?_;rintro r w5 ⟨rfl,hb5⟩));go_ret;exact⟨aX (by rw[HD4.out]),lQ.trans (hb5.mono lQ.size)⟩
  ·have hr:Hid (res=false):=ah (by rw[HD3.out,k1,decide_eq_false hq];rfl)
   have h8:(8:Int)<(nk:Int):=by omega
   clear k1 KF HD3 HC4;go_wp2_with (go_at_call 204;refine(HK.out _).mono ?_;rintro r w' ⟨rfl,rfl⟩);go_ret;exact NC.out _ hr.out lQ
theorem CU (fm:Bool):∀ (n:Nat) (e:PZ),SizeOf.sizeOf e<n→e.fit→Ik fm e
 | 0,_,h,_=>absurd h (by omega)
 | n+1,e,hs,hf=>KE fm e hf fun x hx=>⟨CU fm n x (by have:=e.iY x hx;omega) ((PZ.pq hf).2.2.2.2 x hx),by have:=(PZ.pq ((PZ.pq hf).2.2.2.2 x hx)).2.2.2.1;omega⟩
end Go.Proofs.YtknicmmigbhpcaaGreatDoor

namespace Go.Proofs.YtknicmmigbhpcaaGreatDoor
open Go.RowKit Go.Shelf
attribute [local go_sem] Oper.semAt_some
def qy (ks:List Int)(k:Nat):List (Int × Int):=(List.range k).map fun (j:Nat)=>((ks.length:Int) - 1 - (j:Int),ks[ks.length - 1 - j]?.getD 0)
theorem ND (ks:List Int)(k:Nat):qy ks (k+1)=qy ks k++[((ks.length:Int) - 1 - (k:Int),ks[ks.length - 1 - k]?.getD 0)]:=by simp[qy,List.range_succ]
theorem uI (ks:List Int)(k:Nat):(qy ks k).length=k:=by simp[qy]
theorem RB (ks:List Int)(k:Nat)(hk:k≤ks.length):(qy ks k).map Prod.snd=ks.reverse.take k:=by
 apply List.ext_getElem
 ·simp[qy,hk]
 ·intro i h1 h2
  simp only[List.length_map,uI] at h1;simp[qy,show ks.length - 1 - i<ks.length by omega]
def og (n₀ Bs:Nat)(W W':World):Prop:=Below n₀ W W'∧W'.cell? ⟨Bs,0,none⟩=W.cell? ⟨Bs,0,none⟩
theorem og.refl (n₀ Bs:Nat)(W:World):og n₀ Bs W W:=⟨Below.refl _ _,rfl⟩
theorem og.trans {n₀ Bs:Nat}{A B C:World}(h:og n₀ Bs A B)(k:og n₀ Bs B C):og n₀ Bs A C:=⟨h.1.trans k.1,k.2.trans h.2⟩
theorem Vr (F:Fence)(n:Nat)(h8:F.fn 312)(hro:F.round=none)(hn:1≤n)(l Bs n₀ b off cap:Nat)(ks:List Int)(Vs:ks.length≤1099511627776)(hb:b<n₀)(J Jx:List (Int × Int)→World→Prop)
  (hY:∀ pre x W,J pre W→pre.length<ks.length→YieldAt F (n - 1) Tryz.prog l #[.int .i64 x.1,.int .i64 x.2] W fun e W' =>
   (e=.returned (.bool true)∧J (pre++[x]) W'∧og n₀ Bs W W')∨(e=.returned (.bool false)∧Jx (pre++[x]) W'))
  (W:World) (hBs:W.cell? ⟨Bs,0,none⟩=some (.slice (some ⟨b,off,none⟩) ks.length cap)) (hc:∀ j,j<ks.length→W.cell? ⟨b,off+j,none⟩=some (.int .i64 (ks[j]?.getD 0))) (h0:J [] W) :
  CallsIn F n Tryz.prog 312 #[.func (.yield l) #[] #[],.pointer (some ⟨Bs,0,none⟩)] W fun e W'=>(∃ v,e=.returned v) ∧
   ((∃ ys,ys=qy ks ks.length∧J ys W')∨(∃ pre,(∃ k,k≤ks.length∧pre=qy ks k)∧Jx pre W')):=by
 refine callsIn_of_wp Tryz.func312 rfl h8 ?_ hro;simp only[Tryz.ntmps312,List.size_toArray,eG,List.length_nil,Nat.reduceAdd,Nat.reduceSub,Array.replicate_succ,Array.replicate_zero,List.push_toArray,List.append_toArray,List.nil_append,List.cons_append]
 gi_wp2
 gi_loopw [3] (fun i wr=>∃ k:Nat,k≤ks.length∧i=.int .i64 ((ks.length:Int) - 1 - (k:Int))∧J (qy ks k) wr∧og n₀ Bs W wr)
  (fun i _=>(intOf i+1).toNat)
 case atStart=>exact⟨0,Nat.zero_le _,by simp,h0,og.refl _ _ _⟩
 case round =>
  obtain⟨k,hk,rfl,hJs,hnx⟩:=hrel;have afp:=hnx.2.trans hBs
  by_cases hlt:k<ks.length
  ·obtain⟨m,hm⟩:∃ m:Nat,ks.length=m+k+1:=⟨ks.length - 1 - k,by omega⟩
   have e1:(ks.length:Int) - 1 - (k:Int)=(m:Int):=by omega
   have e2:ks.length - 1 - k=m:=by omega
   have hsucc:=ND ks k;rw[e1,e2] at hsucc;rw[e1];have hcx:=(hnx.1.cell (p:=⟨b,off+m,none⟩) hb).trans (hc m (by omega));obtain⟨fn,tmps,assign,body,hy,hR⟩:=hY _ ((m:Int),ks[m]?.getD 0) wr hJs (by rw[uI];exact hlt);dsimp only at hy
   have hmI:(m:Int)<(ks.length:Int):=by omega
   have hm0:(0:Int)≤(m:Int):=by omega
   have HS:=ah hsucc;have HM:=ah hm;clear hsucc e1 e2 hm hc
   gi_wp2
   refine hR.mono ?_;rintro e W3 (⟨rfl,hJ3,hk3⟩|⟨rfl,hJx3⟩)
   ·gi_wp2
    go_roundw
    case rel=>exact⟨k+1,by omega,congrArg (Value.int .i64) (by have:=HM.out;omega),by rw[HS.out];exact hJ3,hnx.trans hk3⟩
    case measure=>simp only[intOf];omega
   ·gi_wp2
    refine bodyPost_ret (results_none rfl _ _ _) rfl ?_;exact⟨⟨_,rfl⟩,.inr ⟨_,⟨k+1,by omega,HS.out.symm⟩,hJx3⟩⟩
  ·obtain rfl:k=ks.length:=by omega
   have e1:(ks.length:Int) - 1 - (ks.length:Int)=-1:=by omega
   rw[e1];clear e1 hlt
   gi_wp2
   go_end0
   exact⟨⟨_,rfl⟩,.inl ⟨_,rfl,hJs⟩⟩
theorem Il (F:Fence)(n:Nat)(h8:F.fn 312)(hro:F.round=none)(l Bs:Nat)(ao:Option Addr)(cap:Nat)(J:List (Int × Int)→World→Prop)(W:World)(hBs:W.cell? ⟨Bs,0,none⟩=some (.slice ao 0 cap))(h0:J [] W) :
  CallsIn F n Tryz.prog 312 #[.func (.yield l) #[] #[],.pointer (some ⟨Bs,0,none⟩)] W fun e W'=>(∃ v,e=.returned v)∧J [] W':=by
 refine callsIn_of_wp Tryz.func312 rfl h8 ?_ hro;simp only[Tryz.ntmps312,List.size_toArray,eG,List.length_nil,Nat.reduceAdd,Nat.reduceSub,Array.replicate_succ,Array.replicate_zero,List.push_toArray,List.append_toArray,List.nil_append,List.cons_append]
 gi_wp2
 gi_loopw [3] (fun i wr=>i=.int .i64 (-1)∧J [] wr) (fun _ _=>0)
 case atStart=>exact⟨rfl,h0⟩
 case round =>
  obtain⟨rfl,hJs⟩:=hrel
  gi_wp2
  go_end0
  exact⟨⟨_,rfl⟩,hJs⟩
theorem YV (F:Fence)(n:Nat)(h6:F.fn 302)(hro:F.round=none)(a:Option Addr)(len cap:Nat)(w:World) :
  CallsIn F n Tryz.prog 302 #[.slice a len cap] w fun e w'=>e=.returned (.func (.func 312) #[] #[.pointer (some ⟨w.heap.size,0,none⟩)])∧w'=w.alloc (.cells #[.slice a len cap] 51):=by
 refine callsIn_of_wp Tryz.func302 rfl h6 ?_ hro;simp only[Tryz.ntmps302,List.size_toArray,eG,List.length_nil,Nat.reduceAdd,Nat.reduceSub,Array.replicate_succ,Array.replicate_zero,List.push_toArray,List.append_toArray,List.nil_append,List.cons_append]
 gi_wp2
 go_ret;exact⟨rfl,rfl⟩
theorem NG (F:Fence)(n:Nat)(h8:F.fn 312)(hro:F.round=none)(hn:1≤n)(Bs n₀:Nat)(sv:Value)(ks:List Int)(Vs:ks.length≤1099511627776)(w:World)(hBs:Bs<w.heap.size)(hn₀:n₀≤w.heap.size)
  (hc:w.cell? ⟨Bs,0,none⟩=some sv) (hI:Ints n₀ w sv ks) :
  SeqStopsK F n Tryz.prog 312 #[.pointer (some ⟨Bs,0,none⟩)] (fun x:Int × Int=>#[Value.int .i64 x.1,Value.int .i64 x.2]) (og n₀ Bs) (fun ys=>ys=qy ks ks.length)
   (fun pre=>∃ k,k≤ks.length∧pre=qy ks k) ks.length w:=fun l J Jx W hW _ _ hY h0=>by
 have hc':=(hW.cell (p:=⟨Bs,0,none⟩) hBs).trans hc;obtain⟨ao,cap,rfl,hcap,hf⟩:=(hI.below (hW.mono hn₀)).form
 by_cases h:0<ks.length
 ·obtain⟨b,off,rfl,hb,hcs⟩:=hf h
  exact Vr F n h8 hro hn l Bs n₀ b off cap ks Vs hb J Jx hY W hc' (fun j hj=>by rw[hcs j hj];simp[hj]) h0
 ·obtain rfl:ks=[]:=List.length_eq_zero_iff.1 (by omega)
  exact(Il F n h8 hro l Bs ao cap J W hc' h0).mono fun e W' ⟨he,hj⟩=>⟨he,.inl ⟨_,rfl,hj⟩⟩
end Go.Proofs.YtknicmmigbhpcaaGreatDoor
