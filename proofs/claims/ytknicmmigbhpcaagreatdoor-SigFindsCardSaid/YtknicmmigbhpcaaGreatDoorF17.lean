/- Walks and plain laws: PrintPlain, ShowC, ShowD, LeavesW1. -/
import Derived.Test.YtknicmmigbhpcaaGreatDoorF16
import Derived.RangeFuncNested
import Derived.RangeFuncBound
import Derived.RangeFuncCalls
import Derived.RangeFuncLeaves
import Derived.RangeFuncWrites
import Derived.OwnWalkIn
import Derived.TacticsInMore
import Derived.LoopNIn
import Derived.LoopIn
import Derived.Sort.LoopGhostIn
set_option maxHeartbeats 16000000
set_option maxRecDepth 100000
set_option linter.unusedVariables false
set_option linter.unusedSimpArgs false
namespace Go.Proofs.YtknicmmigbhpcaaGreatDoor
def dD (t:List UInt8):Pc:=⟨[],if t∈pE then 2 else 1,t⟩
def U8 (t:List UInt8):Pc:=⟨[],3,t⟩
def mX (t:List UInt8):Pc:=⟨[],4,t⟩
def vR:List Pc→List Pc
 | []=>[]
 | p :: l=>⟨32 :: p.lead,p.kind,p.text⟩ :: l
def Aq (least:Int)(k:Int × List Pc):List Pc:=if ET k.1<least then mX [40] :: (k.2++[mX [41]]) else k.2
def nZ:List (List Pc)→List Pc
 | []=>[]
 | [t]=>t
 | t :: s :: l=>t++mX [44] :: vR (nZ (s :: l))
def jh (op:Int)(nm md:List UInt8)(num:Int)(yes:Bool)(ks:List (Int × List Pc)):List Pc :=
 if op=1 then [U8 (iW num)]
 else if op=2 then [dD (if yes=true then [116,114,117,101] else [102,97,108,115,101])]
 else if op=3 then [dD nm]
 else if op=4 then [dD [114,101,115]]
 else if op=5 then mX [45] :: Aq 9 (ks.getD 0 (0,[]))
 else if op=6 then dD [110,111,116] :: vR (Aq 4 (ks.getD 0 (0,[])))
 else if op=21 then dD [105,102] :: (vR (ks.getD 0 (0,[])).2++vR [dD [116,104,101,110]]++vR (ks.getD 1 (0,[])).2++vR [dD [101,108,115,101]]++vR (ks.getD 2 (0,[])).2)
 else if op=22 then dD [108,101,116] :: (vR [dD nm]++vR [mX [61]]++vR (ks.getD 0 (0,[])).2++vR [dD [105,110]]++vR (ks.getD 1 (0,[])).2)
 else if op=23 then dD [97,115,115,101,114,116] :: (vR (ks.getD 0 (0,[])).2++vR [dD [105,110]]++vR (ks.getD 1 (0,[])).2)
 else if op=24 then (if md=[] then [] else [dD md,mX [46]])++([dD nm,mX [40]]++(nZ (ks.map Prod.snd)++[mX [41]]))
 else Aq (sD op) (ks.getD 0 (0,[]))++(vR [mX (qg op)]++vR (Aq (wU op) (ks.getD 1 (0,[]))))
mutual
def PZ.pR:PZ→List Pc
 | .mk op nm md num yes kids _=>jh op nm md num yes (Ew kids)
def Ew:List PZ→List (Int × List Pc)
 | []=>[]
 | e :: l=>(e.op,e.pR) :: Ew l
end
theorem PZ.Hu (e:PZ):e.pR=jh e.op e.name e.module e.num e.yes (Ew e.kids):=by cases e;rw[PZ.pR];rfl
theorem xK:∀ l:List PZ,Ew l=l.map fun e=>(e.op,e.pR)
 | []=>rfl
 | e :: l=>by rw[Ew,xK l];rfl
theorem Km {l:List PZ}{i:Nat}(h:i<l.length):(Ew l).getD i (0,[])=(l[i].op,l[i].pR):=by
 rw[xK,List.getD_eq_getElem?_getD,List.getElem?_map,List.getElem?_eq_getElem h];rfl
theorem PZ.iT (e:PZ):∀ x∈e.kids,SizeOf.sizeOf x<SizeOf.sizeOf e:=by
 intro x hx
 cases e with
 | mk op name module num yes kids at_ =>
  have:=List.sizeOf_lt_of_mem hx;simp only[PZ.mk.sizeOf_spec,PZ.kids] at this ⊢;omega
structure CJ (fm:Bool) (e:PZ):Prop where
 op1:1≤e.op
 adI:e.op≤24
 may:Qt fm e.op=true
 names:lN e.op e.name e.module=true
 values:oQ e.op e.num e.yes=true
 count:countB e.op e.kids.length=true
 kids:∀ x∈e.kids,x.right fm=true
theorem PZ.Hw {fm:Bool}{e:PZ}(h:e.right fm=true):CJ fm e:=by
 rw[PZ.EU,OY] at h;simp only[Bool.and_eq_true,decide_eq_true_eq] at h;exact⟨h.1.1.1.1.1.1,h.1.1.1.1.1.2,h.1.1.1.1.2,h.1.1.1.2,h.1.1.2,h.1.2,sF.1 h.2⟩
inductive zV:Int→Nat→Prop where
 | none {op}:1≤op→op≤4→zV op 0
 | one {op}:op=5∨op=6→zV op 1
 | two {op}:7≤op→op≤20→zV op 2
 | iff:zV 21 3
 | pF:zV 22 2
 | pG:zV 23 2
 | call {n}:n≤8→zV 24 n
theorem CJ.form {fm:Bool}{e:PZ}(h:CJ fm e):zV e.op e.kids.length:=by
 have h1:=h.op1;have h2:=h.adI;have hc:=h.count;unfold countB at hc;generalize e.op=op at *
 split at hc
 ·rw[decide_eq_true_eq] at hc;rw[hc];exact .none h1 (by omega)
 split at hc
 ·rw[decide_eq_true_eq] at hc;rw[hc];exact .one (by omega)
 split at hc
 ·rw[decide_eq_true_eq] at hc;rw[hc]
  by_cases q:op=22
  ·subst q;exact .pF
  by_cases q2:op=23
  ·subst q2;exact .pG
  ·exact .two (by omega) (by omega)
 split at hc
 ·rename_i q;subst q;rw[decide_eq_true_eq] at hc;rw[hc];exact .iff
 ·rw[decide_eq_true_eq] at hc
  obtain rfl:op=24:=by omega
  exact .call hc
theorem dQ {l:List Pc}(h:l≠[]):bf (vR l)=[32]++bf l:=by
 cases l with
 | nil=>exact absurd rfl h
 | cons p l=>simp[vR,bf]
theorem vS (p:Pc):bf (vR [p])=32 :: (p.lead++p.text):=by simp[vR,bf]
theorem AO {least:Int}{k:Int × List Pc}(h:k.2≠[]):Aq least k≠[]:=by
 unfold Aq
 split
 ·simp
 ·exact h
theorem q8 {least op:Int}{q:List Pc}{t:List UInt8}(h:bf q=t):bf (Aq least (op,q))=oJ least (op,t):=by
 unfold Aq oJ
 split
 ·simp[bf,bT,mX,h]
 ·exact h
theorem Rm {t:List Pc}{l:List (List Pc)}(h:t≠[]):nZ (t :: l)≠[]:=by
 cases l with
 | nil=>exact h
 | cons s l=>rw[nZ];simp
theorem xL:∀ (es:List PZ),(∀ x∈es,bf x.pR=x.text∧x.pR≠[])→bf (nZ (es.map PZ.pR))=bg (es.map PZ.text)
 | [],_=>rfl
 | [e],h=>(h e (by simp)).1
 | e :: f :: l,h=>by
  have ih:=xL (f :: l) fun x hx=>h x (List.mem_cons_of_mem _ hx)
  have hf:=(h f (by simp)).2;simp only[List.map_cons] at ih ⊢;rw[nZ,bg,bT,bf,dQ (Rm hf),ih,(h e (by simp)).1];simp[mX]
theorem PZ.bytes {fm:Bool}:∀ (n:Nat) (e:PZ),SizeOf.sizeOf e<n→e.right fm=true→bf e.pR=e.text∧e.pR≠[]
 | 0,_,h,_=>absurd h (by omega)
 | n+1,e,hs,hr=>by
  have R:=PZ.Hw hr
  have ih:∀ x∈e.kids,bf x.pR=x.text∧x.pR≠[]:=fun x hx=>PZ.bytes n x (by have:=e.iT x hx;omega) (R.kids x hx)
  have F:=R.form;rw[e.Hu,e.mJ]
  have hk:∀ i,(h:i<e.kids.length)→(Ew e.kids).getD i (0,[])=(e.kids[i].op,e.kids[i].pR)∧(gJ e.kids).getD i (0,[])=(e.kids[i].op,e.kids[i].text)∧bf e.kids[i].pR=e.kids[i].text∧e.kids[i].pR≠[]:=fun i h=>⟨Km h,jY h,ih _ (List.getElem_mem h)⟩
  have hm:(Ew e.kids).map Prod.snd=e.kids.map PZ.pR∧(gJ e.kids).map Prod.snd=e.kids.map PZ.text:=by
   rw[xK,nT];simp
  have hcm:=xL e.kids ih;generalize e.kids=ks at *;generalize hn:ks.length=c at F;generalize e.op=op at *
  cases F with
  | none h1 h2 =>
   have:op=1∨op=2∨op=3∨op=4:=by omega
   rcases this with rfl|rfl|rfl|rfl<;>simp[jh,lF,bf,U8,dD]
  | one h =>
   obtain⟨a1,a2,a3,a4⟩:=hk 0 (by omega)
   rcases h with rfl|rfl
   ·simp only[jh,lF]
    simp only[if_neg,if_pos,show ¬ (5:Int)=1 by decide,show ¬ (5:Int)=2 by decide,show ¬ (5:Int)=3 by decide,show ¬ (5:Int)=4 by decide,not_false_eq_true];rw[a1,a2,bf,q8 a3];simp[mX]
   ·simp only[jh,lF]
    simp only[if_neg,if_pos,show ¬ (6:Int)=1 by decide,show ¬ (6:Int)=2 by decide,show ¬ (6:Int)=3 by decide,show ¬ (6:Int)=4 by decide,show ¬ (6:Int)=5 by decide,not_false_eq_true];rw[a1,a2,bf,dQ (AO a4),q8 a3];simp[dD]
  | two h1 h2 =>
   obtain⟨a1,a2,a3,a4⟩:=hk 0 (by omega);obtain⟨b1,b2,b3,b4⟩:=hk 1 (by omega)
   have e1:∀ k:Int,(k≤6∨21≤k)→¬ op=k:=fun k hk q=>by omega
   simp only[jh,lF]
   rw[if_neg (e1 1 (by omega)),if_neg (e1 2 (by omega)),if_neg (e1 3 (by omega)),if_neg (e1 4 (by omega)),if_neg (e1 5 (by omega)),if_neg (e1 6 (by omega)),if_neg (e1 21 (by omega)),if_neg (e1 22 (by omega)),if_neg (e1 23 (by omega)),if_neg (e1 24 (by omega)),
    if_neg (e1 1 (by omega)),if_neg (e1 2 (by omega)),if_neg (e1 3 (by omega)),if_neg (e1 4 (by omega)),if_neg (e1 5 (by omega)),if_neg (e1 6 (by omega)),if_neg (e1 21 (by omega)),if_neg (e1 22 (by omega)),if_neg (e1 23 (by omega)),if_neg (e1 24 (by omega)),a1,a2,b1,b2,bT,bT,dQ (by simp),dQ (AO b4),q8 a3,q8 b3]
   simp[bf,mX,vR]
  | iff =>
   obtain⟨a1,a2,a3,a4⟩:=hk 0 (by omega);obtain⟨b1,b2,b3,b4⟩:=hk 1 (by omega);obtain⟨c1,c2,c3,c4⟩:=hk 2 (by omega);simp only[jh,lF];simp only[if_neg,if_pos,show ¬ (21:Int)=1 by decide,show ¬ (21:Int)=2 by decide,show ¬ (21:Int)=3 by decide,show ¬ (21:Int)=4 by decide,show ¬ (21:Int)=5 by decide,show ¬ (21:Int)=6 by decide,not_false_eq_true];rw[a1,a2,b1,b2,c1,c2];simp only[bf,bT,dQ a4,dQ b4,dQ c4,a3,b3,c3,vS,dD]
   simp
  | pF =>
   obtain⟨a1,a2,a3,a4⟩:=hk 0 (by omega);obtain⟨b1,b2,b3,b4⟩:=hk 1 (by omega);simp only[jh,lF];simp only[if_neg,if_pos,show ¬ (22:Int)=1 by decide,show ¬ (22:Int)=2 by decide,show ¬ (22:Int)=3 by decide,show ¬ (22:Int)=4 by decide,show ¬ (22:Int)=5 by decide,show ¬ (22:Int)=6 by decide,show ¬ (22:Int)=21 by decide,not_false_eq_true];rw[a1,a2,b1,b2];simp only[bf,bT,dQ a4,dQ b4,a3,b3,vS,dD,mX]
   simp
  | pG =>
   obtain⟨a1,a2,a3,a4⟩:=hk 0 (by omega);obtain⟨b1,b2,b3,b4⟩:=hk 1 (by omega);simp only[jh,lF];simp only[if_neg,if_pos,show ¬ (23:Int)=1 by decide,show ¬ (23:Int)=2 by decide,show ¬ (23:Int)=3 by decide,show ¬ (23:Int)=4 by decide,show ¬ (23:Int)=5 by decide,show ¬ (23:Int)=6 by decide,show ¬ (23:Int)=21 by decide,show ¬ (23:Int)=22 by decide,not_false_eq_true];rw[a1,a2,b1,b2];simp only[bf,bT,dQ a4,dQ b4,a3,b3,vS,dD]
   simp
  | call h =>
   simp only[jh,lF];simp only[if_neg,if_pos,show ¬ (24:Int)=1 by decide,show ¬ (24:Int)=2 by decide,show ¬ (24:Int)=3 by decide,show ¬ (24:Int)=4 by decide,show ¬ (24:Int)=5 by decide,show ¬ (24:Int)=6 by decide,show ¬ (24:Int)=21 by decide,show ¬ (24:Int)=22 by decide,show ¬ (24:Int)=23 by decide,not_false_eq_true];rw[hm.1,hm.2];simp only[bf,bT,hcm,dD,mX]
   constructor
   ·split<;>simp[bf]
   ·simp
end Go.Proofs.YtknicmmigbhpcaaGreatDoor

namespace Go.Proofs.YtknicmmigbhpcaaGreatDoor
open Go.RowKit Go
mutual
def PZ.fit:PZ→Prop
 | .mk _ nm md num _ kids _=>nm.length≤65536∧md.length≤65536∧num.natAbs<10 ^ 60∧kids.length≤65536∧Hy kids
def Hy:List PZ→Prop
 | []=>True
 | e :: l=>e.fit∧Hy l
end
theorem Kn:∀ {l:List PZ},Hy l→∀ e∈l,e.fit
 | x :: l,h,e,hm=>by
  rw[Hy] at h
  rcases List.mem_cons.1 hm with rfl|hm
  ·exact h.1
  ·exact Kn h.2 e hm
theorem PZ.o9 {e:PZ}(h:e.fit):e.name.length≤65536∧e.module.length≤65536∧e.num.natAbs<10 ^ 60∧e.kids.length≤65536∧∀ x∈e.kids,x.fit:=by
 cases e;rw[PZ.fit] at h;exact⟨h.1,h.2.1,h.2.2.1,h.2.2.2.1,Kn h.2.2.2.2⟩
theorem oI.slX {P:Nat→Prop}{w:World}{m k:Value}{x:PZ}(h:oI YA P w m k x):∃ am wn cm ae ce,m=.slice am wn cm∧k=.slice ae x.kids.length ce:=by
 obtain⟨Ap,ae,ce,rfl,_,_⟩:=h.form
 obtain⟨ws,hws,_⟩:=(Ap:kN _ _ _ _)
 obtain⟨am,cm,rfl⟩:=hws.form;exact⟨am,_,cm,ae,ce,rfl,rfl⟩
def jH (B:Nat)(w:World)(ae:Option Addr)(ks:List PZ):Prop:=0<ks.length→∃ b off,ae=some ⟨b,off,none⟩∧b<B∧b<w.heap.size∧∀ i,(hi:i<ks.length)→∃ am wn cm ak ck,oI YA (fun b=>b<B) w (.slice am wn cm) (.slice ak ks[i].kids.length ck) ks[i]∧∀ j u,(YA.cells ks[i] (.slice am wn cm) (.slice ak ks[i].kids.length ck))[j]?=some u→w.cell? ⟨b,off+i * 8+j,none⟩=some u
theorem oI.U9 {B:Nat}{w:World}{mv:Value}{ae:Option Addr}{ce:Nat}{e:PZ}(h:oI YA (fun b=>b<B) w mv (.slice ae e.kids.length ce) e):jH B w ae e.kids:=by
 obtain⟨_,ae',ce',hv,_,hf⟩:=h.form;simp only[Value.slice.injEq] at hv;obtain⟨rfl,-,rfl⟩:=hv;intro h0;obtain⟨b,off,h1,h2,h3,h4⟩:=hf h0;refine⟨b,off,h1,h2,h3,fun i hi=>?_⟩;obtain⟨m,k,h5,h6⟩:=h4 i hi;obtain⟨am,wn,cm,ak,ck,rfl,rfl⟩:=h5.slX;exact⟨am,wn,cm,ak,ck,h5,h6⟩
def Va (f:FuncId)(lb:Array Value)(p:PZ→Bool)(B:Nat)(w:World)(x:PZ):Prop:=∀ (W:World) (am:Option Addr) (wn cm:Nat) (ak:Option Addr) (ck:Nat),Below w.heap.size w W→oI YA (fun b=>b<B) W (.slice am wn cm) (.slice ak x.kids.length ck) x →
 Calls Tryz.prog f (#[.agg #[.int .i64 x.op,.string ⟨x.name.toArray⟩,.string ⟨x.module.toArray⟩,.bool (decide (x.num<0)),.slice am wn cm,.bool x.yes,.slice ak x.kids.length ck,.int .i64 x.at_]]++lb) W fun r w'=>r=.returned (.bool (p x))∧Below W.heap.size W w'
def za (p:PZ→Bool):List PZ→Nat→Int
 | [],_=>-1
 | x :: l,k=>if p x=true then k else za p l (k+1)
theorem Ko (p:PZ→Bool):∀ (l:List PZ) (k:Nat),decide (0≤za p l k)=l.any p
 | [],k=>rfl
 | x :: l,k=>by
  rw[za,List.any_cons]
  split
  ·rename_i h;rw[h];exact decide_eq_true (by omega)
  ·rename_i h;rw[Bool.not_eq_true] at h;rw[h,Ko p l];rfl
theorem Pm {p:PZ→Bool}:∀ {ks:List PZ} {k:Nat} (j:Nat) (h:k<ks.length),(∀ i,i<k→(hi:i<ks.length)→p ks[i]=false)→za p ks j=if p ks[k]=true then ((j+k:Nat):Int) else za p (ks.drop (k+1)) (j+k+1)
 | x :: l,0,j,h,_=>by simp[za]
 | x :: l,k+1,j,h,hf=>by
  have h0:=hf 0 (by omega) (by simp)
  have ih:=Pm (p:=p) (ks:=l) (k:=k) (j+1) (by simpa using h) fun i hi hl=>by have:=hf (i+1) (by omega) (by simpa using hl);simpa using this
  rw[za,if_neg (by simpa using h0),ih];simp only[List.getElem_cons_succ,List.drop_succ_cons];rw[show j+1+k=j+(k+1) by omega]
theorem Pn {p:PZ→Bool}:∀ {ks:List PZ} (j:Nat),(∀ i,(hi:i<ks.length)→p ks[i]=false)→za p ks j=-1
 | [],_,_=>rfl
 | x :: l,j,hf=>by
  have h0:=hf 0 (by simp);rw[za,if_neg (by simpa using h0)]
  exact Pn (j+1) fun i hi=>by have:=hf (i+1) (by simpa using hi);simpa using this
theorem Nl (f:FuncId)(lb:Array Value)(p:PZ→Bool)(eg:∀ args w,(callFunc f args).run Tryz.prog w=.ok (.enter f args) w)(B:Nat)(ae:Option Addr)(ce:Nat)(ks:List PZ)(w:World)(hk:jH B w ae ks)(hB:B≤w.heap.size)(hn:ks.length≤1099511627776)(ha:∀ x∈ks,Va f lb p B w x) :
  Calls Tryz.prog 158 #[.slice ae ks.length ce,.func (.func f) #[] lb] w fun r w'=>r=.returned (.int .i64 (za p ks 0))∧Below w.heap.size w w':=by
 have HK:=ah hk;have HA:=ah ha;clear hk ha;go_enter Tryz.func158,Tryz.ntmps158;go_wp2
 go_loopw [5,8] (fun _ q wr=>∃ k:Nat,k≤ks.length∧q=.int .i64 k∧(∀ i,i<k→(hi:i<ks.length)→p ks[i]=false)∧Below w.heap.size w wr) (fun _ q _=>ks.length - (intOf q).toNat)
 case atStart=>exact⟨0,Nat.zero_le _,rfl,fun i hi=>absurd hi (by omega),Below.refl _ _⟩
 case round =>
  obtain⟨k,hkl,rfl,hno,hbl⟩:=hrel;have hw:=hbl.size;have HN:=ah hno;clear hno
  by_cases hlt:k<ks.length
  ·obtain⟨b,off,rfl,ZY,hbw,qy⟩:=HK.out (by omega)
   obtain⟨am,wn,cm,ak,ck,hE,hc⟩:=qy k hlt;have hA:=HA.out _ (List.getElem_mem hlt) wr am wn cm ak ck hbl (hE.frame (aQ.sI hbl (fun b hb=>by omega)));have hix:=Pm (p:=p) 0 hlt HN.out
   have hnx:p ks[k]=false→∀ i,i<k+1→(hi:i<ks.length)→p ks[i]=false:=fun q i hi hl=>by
    by_cases e:i=k
    ·subst e;exact q
    ·exact HN.out i (by omega) hl
   have y0:=(hbl.cell (p:=⟨b,off+k * 8,none⟩) hbw).trans (hc 0 _ rfl);have y1:=(hbl.cell (p:=⟨b,off+k * 8+1,none⟩) hbw).trans (hc 1 _ rfl);have y2:=(hbl.cell (p:=⟨b,off+k * 8+2,none⟩) hbw).trans (hc 2 _ rfl);have y3:=(hbl.cell (p:=⟨b,off+k * 8+3,none⟩) hbw).trans (hc 3 _ rfl);have y4:=(hbl.cell (p:=⟨b,off+k * 8+4,none⟩) hbw).trans (hc 4 _ rfl);have y5:=(hbl.cell (p:=⟨b,off+k * 8+5,none⟩) hbw).trans (hc 5 _ rfl);have y6:=(hbl.cell (p:=⟨b,off+k * 8+6,none⟩) hbw).trans (hc 6 _ rfl);have y7:=(hbl.cell (p:=⟨b,off+k * 8+7,none⟩) hbw).trans (hc 7 _ rfl);simp only[bY] at y1 y2;have HX:=ah hix;have YI:=ah hnx;clear qy hc hE hix hnx;generalize ks[k]=x at y0 y1 y2 y3 y4 y5 y6 y7 hA HX YI
   have nJ:(k:Int)<(ks.length:Int):=by omega
   cases hq:p x with
   | true =>
    rw[hq] at hA;have XH:Hid (za p ks 0=(k:Int)):=ah (by rw[HX.out,if_pos hq,Nat.zero_add]);have HAA:=ah hA;clear hA hq HX YI;go_wp2_with (go_at_fn f;refine HAA.out.mono ?_;rintro r w2 ⟨rfl,hb2⟩);go_ret;exact⟨Gw (by rw[XH.out]),hbl.trans (hb2.mono hw)⟩
   | false =>
    rw[hq] at hA;have adJ:=ah (YI.out hq);have HAA:=ah hA;clear hA hq HX YI;go_wp2_with (go_at_fn f;refine HAA.out.mono ?_;rintro r w2 ⟨rfl,hb2⟩);exact⟨⟨k+1,by omega,by go_num,adJ.out,hbl.trans (hb2.mono hw)⟩,by simp[intOf];omega⟩
  ·obtain rfl:k=ks.length:=by omega
   have nJ:decide ((ks.length:Int)<(ks.length:Int))=false:=decide_eq_false (by omega);have XH:Hid (za p ks 0=-1):=ah (Pn 0 fun i hi=>HN.out i hi hi);clear HN;go_wp2;go_ret;exact⟨Gw (by rw[XH.out]),hbl⟩
theorem mD (f:FuncId)(lb:Array Value)(p:PZ→Bool)(eg:∀ args w,(callFunc f args).run Tryz.prog w=.ok (.enter f args) w)(B:Nat)(ae:Option Addr)(ce:Nat)(ks:List PZ)(w:World)(hk:jH B w ae ks)(hB:B≤w.heap.size)(hn:ks.length≤1099511627776)(ha:∀ x∈ks,Va f lb p B w x) :
  Calls Tryz.prog 95 #[.slice ae ks.length ce,.func (.func f) #[] lb] w fun r w'=>r=.returned (.bool (ks.any p))∧Below w.heap.size w w':=by
 have HI:=ah (Nl f lb p eg B ae ce ks w hk hB hn ha);have HY:=ah (Ko p ks 0);clear hk ha hn hB eg;generalize za p ks 0=i at *;go_enter Tryz.func95,Tryz.ntmps95;go_wp2_with (go_at_call 158;refine HI.out.mono ?_;rintro r w2 ⟨rfl,hb2⟩);go_ret;exact⟨aX (by rw[← HY.out]),hb2⟩
def Hz (fm:Bool)(e:PZ):Prop:=∀ (B:Nat) (am:Option Addr) (wn cm:Nat) (ae:Option Addr) (ce:Nat) (w:World),oI YA (fun b=>b<B) w (.slice am wn cm) (.slice ae e.kids.length ce) e→B≤w.heap.size→e.kids.length≤1099511627776 →
  Calls Tryz.prog 127 #[.agg #[.int .i64 e.op,.string ⟨e.name.toArray⟩,.string ⟨e.module.toArray⟩,.bool (decide (e.num<0)),.slice am wn cm,.bool e.yes,.slice ae e.kids.length ce,.int .i64 e.at_],.int .i64 (if fm=true then 0 else 1)] w fun r w'=>r=.returned (.bool (e.right fm))∧Below w.heap.size w w'
theorem Nn (fm:Bool)(x:PZ)(hx:Hz fm x)(hz:x.kids.length≤1099511627776)(B kb:Nat)(w:World)(hk:w.cell? ⟨kb,0,none⟩=some (.int .i64 (if fm=true then 0 else 1)))(hkl:kb<w.heap.size)(hB:B≤w.heap.size) :
  Va 205 #[.pointer (some ⟨kb,0,none⟩)] (fun x=>!x.right fm) B w x:=by
 intro W am wn cm ak ck hW hE;have hs:=hW.size;have hbx:=aj W (.cells (aU x.op ⟨x.name.toArray⟩ ⟨x.module.toArray⟩ (decide (x.num<0)) (.slice am wn cm) x.yes (.slice ak x.kids.length ck) x.at_) 46);have HX:=ah (hx B am wn cm ak ck (W.alloc (.cells (aU x.op ⟨x.name.toArray⟩ ⟨x.module.toArray⟩ (decide (x.num<0)) (.slice am wn cm) x.yes (.slice ak x.kids.length ck) x.at_) 46)) (hE.frame (aQ.of hbx)) (by simp;omega) hz)
 have hk1:=((hW.cell (p:=⟨kb,0,none⟩) hkl).trans hk)
 have hk2:=(hbx.cell (p:=⟨kb,0,none⟩) (by show kb<_;omega)).trans hk1;have hN:=heap_alloc_new W (.cells (aU x.op ⟨x.name.toArray⟩ ⟨x.module.toArray⟩ (decide (x.num<0)) (.slice am wn cm) x.yes (.slice ak x.kids.length ck) x.at_) 46)
 show Calls _ _ #[_,_] _ fun r w'=>r=.returned (.bool (!x.right fm))∧Below W.heap.size W w'
 generalize (if fm=true then (0:Int) else 1)=kd at *;generalize x.right fm=rb at *;clear hx hE hk hk1 hz;go_enter Tryz.func205,Tryz.ntmps205
 go_upto_region 1 with fail
 change Code.wp _ _ _ _ (W.alloc (.cells (aU x.op ⟨x.name.toArray⟩ ⟨x.module.toArray⟩ (decide (x.num<0)) (.slice am wn cm) x.yes (.slice ak x.kids.length ck) x.at_) 46));generalize W.alloc _=w0 at hbx hN hk2 HX ⊢;obtain⟨y0,y1,y2,y3,y4,y5,y6,y7⟩:=aG hN;go_wp2_with (go_at_call 127;refine HX.out.mono ?_;rintro r w1 ⟨rfl,hb1⟩);go_ret;exact⟨rfl,hbx.trans (hb1.mono hbx.size)⟩
theorem Np {op:Int}{n:Nat}(h1:1≤op)(h2:op≤24):(0≤zU op∧countB op n=decide ((n:Int)=zU op)∧zU op≤3)∨(zU op=-1∧countB op n=decide (n≤8)):=by
 unfold zU countB
 by_cases h4:op≤4
 ·left;simp only[if_pos h4];refine⟨by omega,?_,by omega⟩;congr 1;exact propext (by omega)
 by_cases h6:op≤6
 ·left;simp only[if_neg h4,if_pos h6];refine⟨by omega,?_,by omega⟩;congr 1;exact propext (by omega)
 by_cases h20:op≤20∨op=22∨op=23
 ·left;simp only[if_neg h4,if_neg h6,if_pos h20];refine⟨by omega,?_,by omega⟩;congr 1;exact propext (by omega)
 by_cases h21:op=21
 ·left;simp only[if_neg h4,if_neg h6,if_neg h20,if_pos h21];refine⟨by omega,?_,by omega⟩;congr 1;exact propext (by omega)
 ·right;refine⟨?_,?_⟩<;>simp only[if_neg h4,if_neg h6,if_neg h20,if_neg h21]
theorem vT (fm:Bool):∀ l:List PZ,mo fm l=!(l.any fun x=>!x.right fm)
 | []=>rfl
 | e :: l=>by rw[mo,vT fm l,List.any_cons];cases e.right fm<;>simp
theorem Kq (fm:Bool)(e:PZ)(hf:e.fit)(IH:∀ x∈e.kids,Hz fm x∧x.kids.length≤1099511627776):Hz fm e:=by
 intro B am wn cm ae ce w h hB hkl;obtain⟨f1,f2,f3,-,-⟩:=PZ.o9 hf;have Ap:kN (fun b=>b<B) w e.num (.slice am wn cm):=h.form.1;have hkz:=h.U9
 have hdef:e.right fm=(decide (1≤e.op) && (decide (e.op≤24) && (Qt fm e.op && (lN e.op e.name e.module && (oQ e.op e.num e.yes && (countB e.op e.kids.length && mo fm e.kids)))))):=by
  rw[e.EU,OY];simp only[Bool.and_assoc]
 have HM:=ah (fun W=>YH e.op fm W);have HK:=ah (fun W=>U0 e.op W)
 have hNA:=fun W=>Rj e.op ⟨e.name.toArray⟩ ⟨e.module.toArray⟩ (decide (e.num<0)) am wn cm e.yes ae e.kids.length ce e.at_ W (by show e.name.toArray.size≤_;simp;omega) (by show e.module.toArray.size≤_;simp;omega)
 have hVA:=fun W (hW:Below w.heap.size w W)=>Nj (fun b=>b<B) e.op ⟨e.name.toArray⟩ ⟨e.module.toArray⟩ e.num am wn cm e.yes ae e.kids.length ce e.at_ W (YA.frame Ap (aQ.of hW)) f3
 have Z4:=ah hNA;have HVA:=ah hVA
 have Po:=fun (W:World) (kb:Nat) (hW:Below w.heap.size w W) (hk:W.cell? ⟨kb,0,none⟩=some (.int .i64 (if fm=true then 0 else 1))) (hkl':kb<W.heap.size)=>mD 205 #[.pointer (some ⟨kb,0,none⟩)] (fun x=>!x.right fm) (enters_of Tryz.func205 (by kernel_rfl) rfl) B ae ce e.kids W (fun h0=>by
   obtain⟨b,off,q1,q2,q3,q4⟩:=hkz h0;refine⟨b,off,q1,q2,Nat.lt_of_lt_of_le q3 hW.size,fun i hi=>?_⟩;obtain⟨BU,wn',BX,xM,xO,q5,q6⟩:=q4 i hi
   exact⟨BU,wn',BX,xM,xO,q5.frame (aQ.of hW),fun j u hu=>(hW.cell (p:=⟨b,off+i * 8+j,none⟩) q3).trans (q6 j u hu)⟩) (by have:=hW.size;omega) hkl fun x hx=>Nn fm x (IH x hx).1 (IH x hx).2 B kb W hk hkl' (by have:=hW.size;omega)
 have Pp:=ah Po;rw[vT] at hdef;have hkc:=Np (op:=e.op) (n:=e.kids.length);clear hNA hVA Po Ap hkz h IH hf f1 f2 f3;have eN:lN e.op (ByteArray.mk e.name.toArray).data.toList (ByteArray.mk e.module.toArray).data.toList=lN e.op e.name e.module:=rfl;rw[eN] at Z4;clear eN;generalize lN e.op e.name e.module=nb at *;generalize oQ e.op e.num e.yes=vb at *;generalize Qt fm e.op=mb at *;generalize (if fm=true then (0:Int) else 1)=kd at *;generalize e.right fm=res at *;generalize (e.kids.any fun x=>!x.right fm)=an at *;have HD:=ah hdef;have Tm:=ah hkc;clear hdef hkc;generalize decide (e.num<0)=ng at *;generalize e.op=op at *;generalize e.kids.length=nk at *;generalize countB op nk=cb at *;generalize zU op=kn at *;have hbw:=(aj w (.cells (aU op ⟨e.name.toArray⟩ ⟨e.module.toArray⟩ ng (.slice am wn cm) e.yes (.slice ae nk ce) e.at_) 46)).alloc (by simp) (.cells #[.int .i64 kd] 215);have hN:=(Lib.alloc_old (w.alloc (.cells (aU op ⟨e.name.toArray⟩ ⟨e.module.toArray⟩ ng (.slice am wn cm) e.yes (.slice ae nk ce) e.at_) 46)) (.cells #[.int .i64 kd] 215) w.heap.size (by simp)).trans (heap_alloc_new w (.cells (aU op ⟨e.name.toArray⟩ ⟨e.module.toArray⟩ ng (.slice am wn cm) e.yes (.slice ae nk ce) e.at_) 46));have hK:=heap_alloc_new (w.alloc (.cells (aU op ⟨e.name.toArray⟩ ⟨e.module.toArray⟩ ng (.slice am wn cm) e.yes (.slice ae nk ce) e.at_) 46)) (.cells #[.int .i64 kd] 215);rw[World.size_alloc] at hK;go_enter Tryz.func127,Tryz.ntmps127
 go_upto_region 1 with fail
 change Code.wp _ _ _ _ ((w.alloc (.cells (aU op ⟨e.name.toArray⟩ ⟨e.module.toArray⟩ ng (.slice am wn cm) e.yes (.slice ae nk ce) e.at_) 46)).alloc (.cells #[.int .i64 kd] 215));generalize (w.alloc _).alloc _=w2 at hbw hN hK ⊢;have hl1:=(bG hN).1;have hl2:=(bG hK).1;have hz2:=hbw.size;obtain⟨y0,y1,y2,y3,y4,y5,y6,y7⟩:=aG hN
 have yk:w2.cell? ⟨w.heap.size+1,0,none⟩=some (.int .i64 kd):=by rw[Lib.cell_of_heap hK];rfl
 have fin:∀ W:World,res=false→Below w.heap.size w W→(Ending.returned (.bool false)=Ending.returned (.bool res)∧Below w.heap.size w W):=fun _ h1 h2=>⟨by rw[h1],h2⟩
 have tu:=ah fin;clear fin
 by_cases c1:op<1
 ·have hr:Hid (res=false):=ah (by rw[HD.out,decide_eq_false (by omega)];rfl)
  clear HD Tm Pp Z4 HVA HK HM;go_wp2;go_ret;exact tu.out _ hr.out hbw
 by_cases c2:24<op
 ·have hr:Hid (res=false):=ah (by rw[HD.out,decide_eq_false (by omega:¬ op≤24)];cases decide (1≤op)<;>rfl)
  clear HD Tm Pp Z4 HVA HK HM;go_wp2;go_ret;exact tu.out _ hr.out hbw
 have hD2:res=(mb && (nb && (vb && (cb && !an)))):=by rw[HD.out,decide_eq_true (by omega),decide_eq_true (by omega)];rfl
 have HD2:=ah hD2;clear hD2 HD;have hkc:=Tm.out (by omega) (by omega);have Kr:=ah hkc;clear hkc Tm
 cases mb with
 | false =>
  have hr:Hid (res=false):=ah (by rw[HD2.out];rfl);clear HD2 Kr Pp Z4 HVA HK;go_wp2_with (go_at_call 201;refine(HM.out _).mono ?_;rintro r w' ⟨rfl,rfl⟩);go_ret;exact tu.out _ hr.out hbw
 | true =>
 cases nb with
 | false =>
  have hr:Hid (res=false):=ah (by rw[HD2.out];rfl);clear HD2 Kr Pp HVA HK;go_wp2_with (first|(go_at_call 201;refine(HM.out _).mono ?_;rintro r w' ⟨rfl,rfl⟩)|(go_at_call 202;refine(Z4.out _).mono ?_;rintro r w3 ⟨rfl,hb3⟩));go_ret;exact tu.out _ hr.out (hbw.trans (hb3.mono hz2))
 | true =>
 cases vb with
 | false =>
  have hr:Hid (res=false):=ah (by rw[HD2.out];rfl);clear HD2 Kr Pp HK;go_wp2_with (first|(go_at_call 201;refine(HM.out _).mono ?_;rintro r w' ⟨rfl,rfl⟩)|(go_at_call 202;refine(Z4.out _).mono ?_;rintro r w3 ⟨rfl,hb3⟩;have Ar:=hbw.trans (hb3.mono hz2);obtain⟨z0,z1,z2,z3,z4,z5,z6,z7⟩:=aG ((hb3.block w.heap.size hl1).trans hN))|(go_at_call 203;refine(HVA.out _ Ar).mono ?_;rintro r w4 ⟨rfl,hb4⟩));go_ret;exact tu.out _ hr.out (Ar.trans (hb4.mono Ar.size))
 | true =>
 have HD3:Hid (res=(cb && !an)):=ah (by rw[HD2.out];rfl);clear HD2
 go_upto_region 3 with (first|(go_at_call 201;refine(HM.out _).mono ?_;rintro r w' ⟨rfl,rfl⟩)|(go_at_call 202;refine(Z4.out _).mono ?_;rintro r w3 ⟨rfl,hb3⟩;have Ar:=hbw.trans (hb3.mono hz2);obtain⟨z0,z1,z2,z3,z4,z5,z6,z7⟩:=aG ((hb3.block w.heap.size hl1).trans hN))|(go_at_call 203;refine(HVA.out _ Ar).mono ?_;rintro r w4 ⟨rfl,hb4⟩))
 have qP:=Ar.trans (hb4.mono Ar.size);have hz3:=hb3.size;have Vb:=(hb4.block w.heap.size (by omega)).trans ((hb3.block w.heap.size hl1).trans hN);have hK4:=(hb4.block (w.heap.size+1) (by omega)).trans ((hb3.block (w.heap.size+1) hl2).trans hK);have hl4:=(bG hK4).1;clear z0 z1 z2 z3 z4 z5 z6 z7 y0 y1 y2 y3 y4 y5 y6 y7 yk hN hK Z4 HVA HM;obtain⟨y0,y1,y2,y3,y4,y5,y6,y7⟩:=aG Vb
 have yk:w4.cell? ⟨w.heap.size+1,0,none⟩=some (.int .i64 kd):=by rw[Lib.cell_of_heap hK4];rfl
 have HC4:=ah (Pp.out w4 (w.heap.size+1) qP yk hl4);clear Pp Vb hK4
 rcases Kr.out with ⟨k0,k1,k3⟩|⟨k0,k1⟩
 ·by_cases hq:(nk:Int)=kn
  ·have HD4:Hid (res=!an):=ah (by rw[HD3.out,k1,decide_eq_true hq];rfl)
   have h8:(nk:Int)≤8:=by omega
   have hne:((nk:Int) == kn)=true:=by rw[hq];exact beq_self_eq_true _
   have HQ:=ah hq;clear k1 Kr HD3 hq;go_wp2_with (first|(go_at_call 204;refine(HK.out _).mono ?_;rintro r w' ⟨rfl,rfl⟩)|(go_at_call 95;refine HC4.out.mono ?_;rintro r w5 ⟨rfl,hb5⟩));go_ret;exact⟨aX (by rw[HD4.out]),qP.trans (hb5.mono qP.size)⟩
  ·have hr:Hid (res=false):=ah (by rw[HD3.out,k1,decide_eq_false hq];rfl)
   have hne:((nk:Int) == kn)=false:=beq_eq_false_iff_ne.2 hq
   have hne2:((nk:Int) != kn)=true:=by rw[bne,hne];rfl
   clear k1 Kr HD3 HC4 hq;go_wp2_with (go_at_call 204;refine(HK.out _).mono ?_;rintro r w' ⟨rfl,rfl⟩);go_ret;exact tu.out _ hr.out qP
 ·subst k0
  by_cases hq:nk≤8
  ·have HD4:Hid (res=!an):=ah (by rw[HD3.out,k1,decide_eq_true hq];rfl)
   have h8:(nk:Int)≤8:=by omega
   clear k1 Kr HD3;go_wp2_with (first|(go_at_call 204;refine(HK.out _).mono ?_;rintro r w' ⟨rfl,rfl⟩)|(go_at_call 95;refine HC4.out.mono ?_;rintro r w5 ⟨rfl,hb5⟩));go_ret;exact⟨aX (by rw[HD4.out]),qP.trans (hb5.mono qP.size)⟩
  ·have hr:Hid (res=false):=ah (by rw[HD3.out,k1,decide_eq_false hq];rfl)
   have h8:(8:Int)<(nk:Int):=by omega
   clear k1 Kr HD3 HC4;go_wp2_with (go_at_call 204;refine(HK.out _).mono ?_;rintro r w' ⟨rfl,rfl⟩);go_ret;exact tu.out _ hr.out qP
theorem CK (fm:Bool):∀ (n:Nat) (e:PZ),SizeOf.sizeOf e<n→e.fit→Hz fm e
 | 0,_,h,_=>absurd h (by omega)
 | n+1,e,hs,hf=>Kq fm e hf fun x hx=>⟨CK fm n x (by have:=e.iT x hx;omega) ((PZ.o9 hf).2.2.2.2 x hx),by have:=(PZ.o9 ((PZ.o9 hf).2.2.2.2 x hx)).2.2.2.1;omega⟩
end Go.Proofs.YtknicmmigbhpcaaGreatDoor

namespace Go.Proofs.YtknicmmigbhpcaaGreatDoor
open Go.RowKit Go.Shelf
attribute [local go_sem] Oper.semAt_some
def qA (ks:List Int)(k:Nat):List (Int × Int):=(List.range k).map fun (j:Nat)=>((ks.length:Int) - 1 - (j:Int),ks[ks.length - 1 - j]?.getD 0)
theorem Nq (ks:List Int)(k:Nat):qA ks (k+1)=qA ks k++[((ks.length:Int) - 1 - (k:Int),ks[ks.length - 1 - k]?.getD 0)]:=by simp[qA,List.range_succ]
theorem uJ (ks:List Int)(k:Nat):(qA ks k).length=k:=by simp[qA]
theorem Rn (ks:List Int)(k:Nat)(hk:k≤ks.length):(qA ks k).map Prod.snd=ks.reverse.take k:=by
 apply List.ext_getElem
 ·simp[qA,hk]
 ·intro i h1 h2
  simp only[List.length_map,uJ] at h1;simp[qA,show ks.length - 1 - i<ks.length by omega]
def og (n₀ Bs:Nat)(W W':World):Prop:=Below n₀ W W'∧W'.cell? ⟨Bs,0,none⟩=W.cell? ⟨Bs,0,none⟩
theorem og.refl (n₀ Bs:Nat)(W:World):og n₀ Bs W W:=⟨Below.refl _ _,rfl⟩
theorem og.trans {n₀ Bs:Nat}{A B C:World}(h:og n₀ Bs A B)(k:og n₀ Bs B C):og n₀ Bs A C:=⟨h.1.trans k.1,k.2.trans h.2⟩
theorem Vd (F:Fence)(n:Nat)(h8:F.fn 312)(hro:F.round=none)(hn:1≤n)(l Bs n₀ b off cap:Nat)(ks:List Int)(Ve:ks.length≤1099511627776)(hb:b<n₀)(J Jx:List (Int × Int)→World→Prop)
  (hY:∀ pre x W,J pre W→pre.length<ks.length→YieldAt F (n - 1) Tryz.prog l #[.int .i64 x.1,.int .i64 x.2] W fun e W' =>
   (e=.returned (.bool true)∧J (pre++[x]) W'∧og n₀ Bs W W')∨(e=.returned (.bool false)∧Jx (pre++[x]) W'))
  (W:World) (hBs:W.cell? ⟨Bs,0,none⟩=some (.slice (some ⟨b,off,none⟩) ks.length cap)) (hc:∀ j,j<ks.length→W.cell? ⟨b,off+j,none⟩=some (.int .i64 (ks[j]?.getD 0))) (h0:J [] W) :
  CallsIn F n Tryz.prog 312 #[.func (.yield l) #[] #[],.pointer (some ⟨Bs,0,none⟩)] W fun e W'=>(∃ v,e=.returned v) ∧
   ((∃ ys,ys=qA ks ks.length∧J ys W')∨(∃ pre,(∃ k,k≤ks.length∧pre=qA ks k)∧Jx pre W')):=by
 refine callsIn_of_wp Tryz.func312 rfl h8 ?_ hro;simp only[Tryz.ntmps312,List.size_toArray,dX,List.length_nil,Nat.reduceAdd,Nat.reduceSub,Array.replicate_succ,Array.replicate_zero,List.push_toArray,List.append_toArray,List.nil_append,List.cons_append]
 gi_wp2
 gi_loopw [3] (fun i wr=>∃ k:Nat,k≤ks.length∧i=.int .i64 ((ks.length:Int) - 1 - (k:Int))∧J (qA ks k) wr∧og n₀ Bs W wr)
  (fun i _=>(intOf i+1).toNat)
 case atStart=>exact⟨0,Nat.zero_le _,by simp,h0,og.refl _ _ _⟩
 case round =>
  obtain⟨k,hk,rfl,hJs,hnx⟩:=hrel;have afg:=hnx.2.trans hBs
  by_cases hlt:k<ks.length
  ·obtain⟨m,hm⟩:∃ m:Nat,ks.length=m+k+1:=⟨ks.length - 1 - k,by omega⟩
   have e1:(ks.length:Int) - 1 - (k:Int)=(m:Int):=by omega
   have e2:ks.length - 1 - k=m:=by omega
   have hsucc:=Nq ks k;rw[e1,e2] at hsucc;rw[e1];have hcx:=(hnx.1.cell (p:=⟨b,off+m,none⟩) hb).trans (hc m (by omega));obtain⟨fn,tmps,assign,body,hy,hR⟩:=hY _ ((m:Int),ks[m]?.getD 0) wr hJs (by rw[uJ];exact hlt);dsimp only at hy
   have Tg:(m:Int)<(ks.length:Int):=by omega
   have hm0:(0:Int)≤(m:Int):=by omega
   have HS:=ah hsucc;have HM:=ah hm;clear hsucc e1 e2 hm hc
   gi_wp2
   refine hR.mono ?_;rintro e W3 (⟨rfl,hJ3,hk3⟩|⟨rfl,hJx3⟩)
   ·gi_wp2
    go_roundw
    case rel=>exact⟨k+1,by omega,congrArg (Value.int .i64) (by have:=HM.out;omega),by rw[HS.out];exact hJ3,hnx.trans hk3⟩
    case measure=>simp only[intOf];omega
   ·gi_wp2
    refine bodyPost_ret (results_none rfl _ _ _) rfl ?_;exact⟨⟨_,rfl⟩,.inr ⟨_,⟨k+1,by omega,HS.out.symm⟩,hJx3⟩⟩
  ·obtain rfl:k=ks.length:=by omega
   have e1:(ks.length:Int) - 1 - (ks.length:Int)=-1:=by omega
   rw[e1];clear e1 hlt
   gi_wp2
   go_end0
   exact⟨⟨_,rfl⟩,.inl ⟨_,rfl,hJs⟩⟩
theorem H7 (F:Fence)(n:Nat)(h8:F.fn 312)(hro:F.round=none)(l Bs:Nat)(ao:Option Addr)(cap:Nat)(J:List (Int × Int)→World→Prop)(W:World)(hBs:W.cell? ⟨Bs,0,none⟩=some (.slice ao 0 cap))(h0:J [] W) :
  CallsIn F n Tryz.prog 312 #[.func (.yield l) #[] #[],.pointer (some ⟨Bs,0,none⟩)] W fun e W'=>(∃ v,e=.returned v)∧J [] W':=by
 refine callsIn_of_wp Tryz.func312 rfl h8 ?_ hro;simp only[Tryz.ntmps312,List.size_toArray,dX,List.length_nil,Nat.reduceAdd,Nat.reduceSub,Array.replicate_succ,Array.replicate_zero,List.push_toArray,List.append_toArray,List.nil_append,List.cons_append]
 gi_wp2
 gi_loopw [3] (fun i wr=>i=.int .i64 (-1)∧J [] wr) (fun _ _=>0)
 case atStart=>exact⟨rfl,h0⟩
 case round =>
  obtain⟨rfl,hJs⟩:=hrel
  gi_wp2
  go_end0
  exact⟨⟨_,rfl⟩,hJs⟩
theorem YJ (F:Fence)(n:Nat)(h6:F.fn 302)(hro:F.round=none)(a:Option Addr)(len cap:Nat)(w:World) :
  CallsIn F n Tryz.prog 302 #[.slice a len cap] w fun e w'=>e=.returned (.func (.func 312) #[] #[.pointer (some ⟨w.heap.size,0,none⟩)])∧w'=w.alloc (.cells #[.slice a len cap] 51):=by
 refine callsIn_of_wp Tryz.func302 rfl h6 ?_ hro;simp only[Tryz.ntmps302,List.size_toArray,dX,List.length_nil,Nat.reduceAdd,Nat.reduceSub,Array.replicate_succ,Array.replicate_zero,List.push_toArray,List.append_toArray,List.nil_append,List.cons_append]
 gi_wp2
 go_ret;exact⟨rfl,rfl⟩
theorem Nr (F:Fence)(n:Nat)(h8:F.fn 312)(hro:F.round=none)(hn:1≤n)(Bs n₀:Nat)(sv:Value)(ks:List Int)(Ve:ks.length≤1099511627776)(w:World)(hBs:Bs<w.heap.size)(hn₀:n₀≤w.heap.size)
  (hc:w.cell? ⟨Bs,0,none⟩=some sv) (hI:Ints n₀ w sv ks) :
  SeqStopsK F n Tryz.prog 312 #[.pointer (some ⟨Bs,0,none⟩)] (fun x:Int × Int=>#[Value.int .i64 x.1,Value.int .i64 x.2]) (og n₀ Bs) (fun ys=>ys=qA ks ks.length)
   (fun pre=>∃ k,k≤ks.length∧pre=qA ks k) ks.length w:=fun l J Jx W hW _ _ hY h0=>by
 have hc':=(hW.cell (p:=⟨Bs,0,none⟩) hBs).trans hc;obtain⟨ao,cap,rfl,hcap,hf⟩:=(hI.below (hW.mono hn₀)).form
 by_cases h:0<ks.length
 ·obtain⟨b,off,rfl,hb,hcs⟩:=hf h
  exact Vd F n h8 hro hn l Bs n₀ b off cap ks Ve hb J Jx hY W hc' (fun j hj=>by rw[hcs j hj];simp[hj]) h0
 ·obtain rfl:ks=[]:=List.length_eq_zero_iff.1 (by omega)
  exact(H7 F n h8 hro l Bs ao cap J W hc' h0).mono fun e W' ⟨he,hj⟩=>⟨he,.inl ⟨_,rfl,hj⟩⟩
end Go.Proofs.YtknicmmigbhpcaaGreatDoor
