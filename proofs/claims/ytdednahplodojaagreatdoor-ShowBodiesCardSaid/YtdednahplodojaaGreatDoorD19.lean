/- Walks and plain laws: PrintPlain, ShowC, BothFit, TakesW, RShowA, ShowD, ShowLaws. -/
import Derived.Test.YtdednahplodojaaGreatDoorD18
import Derived.Great.Walk
set_option maxHeartbeats 16000000
set_option maxRecDepth 100000
set_option linter.unusedVariables false
set_option linter.unusedSimpArgs false
namespace Go.Proofs.YtdednahplodojaaGreatDoor
def wordP (t:List UInt8):Pc:=⟨[],if t∈keyL then 2 else 1,t⟩
def numP (t:List UInt8):Pc:=⟨[],3,t⟩
def sgnP (t:List UInt8):Pc:=⟨[],4,t⟩
def spP:List Pc→List Pc
 | []=>[]
 | p :: l=>⟨32 :: p.lead,p.kind,p.text⟩ :: l
def parQ (least:Int)(k:Int × List Pc):List Pc:=if lvZ k.1<least then sgnP [40] :: (k.2++[sgnP [41]]) else k.2
def commaQ:List (List Pc)→List Pc
 | []=>[]
 | [t]=>t
 | t :: s :: l=>t++sgnP [44] :: spP (commaQ (s :: l))
def showQ (op:Int)(nm md:List UInt8)(num:Int)(yes:Bool)(ks:List (Int × List Pc)):List Pc :=
 if op=1 then [numP (intF num)]
 else if op=2 then [wordP (if yes=true then [116,114,117,101] else [102,97,108,115,101])]
 else if op=3 then [wordP nm]
 else if op=4 then [wordP [114,101,115]]
 else if op=5 then sgnP [45] :: parQ 9 (ks.getD 0 (0,[]))
 else if op=6 then wordP [110,111,116] :: spP (parQ 4 (ks.getD 0 (0,[])))
 else if op=21 then wordP [105,102] :: (spP (ks.getD 0 (0,[])).2++spP [wordP [116,104,101,110]]++spP (ks.getD 1 (0,[])).2++spP [wordP [101,108,115,101]]++spP (ks.getD 2 (0,[])).2)
 else if op=22 then wordP [108,101,116] :: (spP [wordP nm]++spP [sgnP [61]]++spP (ks.getD 0 (0,[])).2++spP [wordP [105,110]]++spP (ks.getD 1 (0,[])).2)
 else if op=23 then wordP [97,115,115,101,114,116] :: (spP (ks.getD 0 (0,[])).2++spP [wordP [105,110]]++spP (ks.getD 1 (0,[])).2)
 else if op=24 then (if md=[] then [] else [wordP md,sgnP [46]])++([wordP nm,sgnP [40]]++(commaQ (ks.map Prod.snd)++[sgnP [41]]))
 else parQ (firstZ op) (ks.getD 0 (0,[]))++(spP [sgnP (signZ op)]++spP (parQ (thenZ op) (ks.getD 1 (0,[]))))
mutual
def PZ.pcs:PZ→List Pc
 | .mk op nm md num yes kids _=>showQ op nm md num yes (pcsZ kids)
def pcsZ:List PZ→List (Int × List Pc)
 | []=>[]
 | e :: l=>(e.op,e.pcs) :: pcsZ l
end
theorem PZ.pcs_def (e:PZ):e.pcs=showQ e.op e.name e.module e.num e.yes (pcsZ e.kids):=by cases e;rw [PZ.pcs];rfl
theorem pcsZ_map:∀ l:List PZ,pcsZ l=l.map fun e=>(e.op,e.pcs)
 | []=>rfl
 | e :: l=>by rw [pcsZ,pcsZ_map l];rfl
theorem pcsZ_get {l:List PZ}{i:Nat}(h:i<l.length):(pcsZ l).getD i (0,[])=(l[i].op,l[i].pcs):=by
 rw [pcsZ_map,List.getD_eq_getElem?_getD,List.getElem?_map,List.getElem?_eq_getElem h];rfl
theorem PZ.kids_sizeOf (e:PZ):∀ x∈e.kids,SizeOf.sizeOf x<SizeOf.sizeOf e:=by
 intro x hx
 cases e with
 | mk op name module num yes kids at_ =>
  have:=List.sizeOf_lt_of_mem hx
  simp only [PZ.mk.sizeOf_spec,PZ.kids] at this ⊢
  omega
structure RightZ (fm:Bool) (e:PZ):Prop where
 op1:1≤e.op
 op24:e.op≤24
 may:mayB fm e.op=true
 names:namesB e.op e.name e.module=true
 values:valuesB e.op e.num e.yes=true
 count:countB e.op e.kids.length=true
 kids:∀ x∈e.kids,x.right fm=true
theorem PZ.rightZ {fm:Bool}{e:PZ}(h:e.right fm=true):RightZ fm e:=by
 rw [PZ.right_def,headB] at h
 simp only [Bool.and_eq_true,decide_eq_true_eq] at h
 exact ⟨h.1.1.1.1.1.1,h.1.1.1.1.1.2,h.1.1.1.1.2,h.1.1.1.2,h.1.1.2,h.1.2,rightsZ_all.1 h.2⟩
inductive FormZ:Int→Nat→Prop where
 | none {op}:1≤op→op≤4→FormZ op 0
 | one {op}:op=5∨op=6→FormZ op 1
 | two {op}:7≤op→op≤20→FormZ op 2
 | iff:FormZ 21 3
 | lett:FormZ 22 2
 | asrt:FormZ 23 2
 | call {n}:n≤8→FormZ 24 n
theorem RightZ.form {fm:Bool}{e:PZ}(h:RightZ fm e):FormZ e.op e.kids.length:=by
 have h1:=h.op1
 have h2:=h.op24
 have hc:=h.count
 unfold countB at hc
 generalize e.op=op at *
 split at hc
 ·rw [decide_eq_true_eq] at hc;rw [hc];exact .none h1 (by omega)
 split at hc
 ·rw [decide_eq_true_eq] at hc;rw [hc];exact .one (by omega)
 split at hc
 ·rw [decide_eq_true_eq] at hc;rw [hc]
  by_cases q:op=22
  ·subst q;exact .lett
  by_cases q2:op=23
  ·subst q2;exact .asrt
  ·exact .two (by omega) (by omega)
 split at hc
 ·rename_i q;subst q;rw [decide_eq_true_eq] at hc;rw [hc];exact .iff
 ·rw [decide_eq_true_eq] at hc
  obtain rfl:op=24:=by omega
  exact .call hc
theorem bytesP_sp {l:List Pc}(h:l≠[]):bytesP (spP l)=[32]++bytesP l:=by
 cases l with
 | nil=>exact absurd rfl h
 | cons p l=>simp [spP,bytesP]
theorem bytesP_one (p:Pc):bytesP (spP [p])=32 :: (p.lead++p.text):=by simp [spP,bytesP]
theorem parQ_ne {least:Int}{k:Int × List Pc}(h:k.2≠[]):parQ least k≠[]:=by
 unfold parQ
 split
 ·simp
 ·exact h
theorem bytesP_par {least op:Int}{q:List Pc}{t:List UInt8}(h:bytesP q=t):bytesP (parQ least (op,q))=parZ least (op,t):=by
 unfold parQ parZ
 split
 ·simp [bytesP,bytesP_append,sgnP,h]
 ·exact h
theorem commaQ_ne {t:List Pc}{l:List (List Pc)}(h:t≠[]):commaQ (t :: l)≠[]:=by
 cases l with
 | nil=>exact h
 | cons s l=>rw [commaQ];simp
theorem bytesP_comma:∀ (es:List PZ),(∀ x∈es,bytesP x.pcs=x.text∧x.pcs≠[])→bytesP (commaQ (es.map PZ.pcs))=commaZ (es.map PZ.text)
 | [],_=>rfl
 | [e],h=>(h e (by simp)).1
 | e :: f :: l,h=>by
  have ih:=bytesP_comma (f :: l) fun x hx=>h x (List.mem_cons_of_mem _ hx)
  have hf:=(h f (by simp)).2
  simp only [List.map_cons] at ih ⊢
  rw [commaQ,commaZ,bytesP_append,bytesP,bytesP_sp (commaQ_ne hf),ih,(h e (by simp)).1]
  simp [sgnP]
theorem PZ.bytes {fm:Bool}:∀ (n:Nat) (e:PZ),SizeOf.sizeOf e<n→e.right fm=true→bytesP e.pcs=e.text∧e.pcs≠[]
 | 0,_,h,_=>absurd h (by omega)
 | n+1,e,hs,hr=>by
  have R:=PZ.rightZ hr
  have ih:∀ x∈e.kids,bytesP x.pcs=x.text∧x.pcs≠[]:=fun x hx=>PZ.bytes n x (by have:=e.kids_sizeOf x hx;omega) (R.kids x hx)
  have F:=R.form
  rw [e.pcs_def,e.text_def]
  have hk:∀ i,(h:i<e.kids.length)→(pcsZ e.kids).getD i (0,[])=(e.kids[i].op,e.kids[i].pcs)∧(textsZ e.kids).getD i (0,[])=(e.kids[i].op,e.kids[i].text)∧bytesP e.kids[i].pcs=e.kids[i].text∧e.kids[i].pcs≠[]:=fun i h=>⟨pcsZ_get h,textsZ_get h,ih _ (List.getElem_mem h)⟩
  have hm:(pcsZ e.kids).map Prod.snd=e.kids.map PZ.pcs∧(textsZ e.kids).map Prod.snd=e.kids.map PZ.text:=by
   rw [pcsZ_map,textsZ_map];simp
  have hcm:=bytesP_comma e.kids ih
  generalize e.kids=ks at *
  generalize hn:ks.length=c at F
  generalize e.op=op at *
  cases F with
  | none h1 h2 =>
   have:op=1∨op=2∨op=3∨op=4:=by omega
   rcases this with rfl|rfl|rfl|rfl <;> simp [showQ,showF,bytesP,numP,wordP]
  | one h =>
   obtain ⟨a1,a2,a3,a4⟩:=hk 0 (by omega)
   rcases h with rfl|rfl
   ·simp only [showQ,showF]
    simp only [if_neg,if_pos,show ¬ (5:Int)=1 by decide,show ¬ (5:Int)=2 by decide,show ¬ (5:Int)=3 by decide,show ¬ (5:Int)=4 by decide,not_false_eq_true]
    rw [a1,a2,bytesP,bytesP_par a3]
    simp [sgnP]
   ·simp only [showQ,showF]
    simp only [if_neg,if_pos,show ¬ (6:Int)=1 by decide,show ¬ (6:Int)=2 by decide,show ¬ (6:Int)=3 by decide,show ¬ (6:Int)=4 by decide,show ¬ (6:Int)=5 by decide,not_false_eq_true]
    rw [a1,a2,bytesP,bytesP_sp (parQ_ne a4),bytesP_par a3]
    simp [wordP]
  | two h1 h2 =>
   obtain ⟨a1,a2,a3,a4⟩:=hk 0 (by omega)
   obtain ⟨b1,b2,b3,b4⟩:=hk 1 (by omega)
   have e1:∀ k:Int,(k≤6∨21≤k)→¬ op=k:=fun k hk q=>by omega
   simp only [showQ,showF]
   rw [if_neg (e1 1 (by omega)),if_neg (e1 2 (by omega)),if_neg (e1 3 (by omega)),if_neg (e1 4 (by omega)),if_neg (e1 5 (by omega)),if_neg (e1 6 (by omega)),if_neg (e1 21 (by omega)),if_neg (e1 22 (by omega)),if_neg (e1 23 (by omega)),if_neg (e1 24 (by omega)),
    if_neg (e1 1 (by omega)),if_neg (e1 2 (by omega)),if_neg (e1 3 (by omega)),if_neg (e1 4 (by omega)),if_neg (e1 5 (by omega)),if_neg (e1 6 (by omega)),if_neg (e1 21 (by omega)),if_neg (e1 22 (by omega)),if_neg (e1 23 (by omega)),if_neg (e1 24 (by omega)),a1,a2,b1,b2,bytesP_append,bytesP_append,bytesP_sp (by simp),bytesP_sp (parQ_ne b4),bytesP_par a3,bytesP_par b3]
   simp [bytesP,sgnP,spP]
  | iff =>
   obtain ⟨a1,a2,a3,a4⟩:=hk 0 (by omega)
   obtain ⟨b1,b2,b3,b4⟩:=hk 1 (by omega)
   obtain ⟨c1,c2,c3,c4⟩:=hk 2 (by omega)
   simp only [showQ,showF]
   simp only [if_neg,if_pos,show ¬ (21:Int)=1 by decide,show ¬ (21:Int)=2 by decide,show ¬ (21:Int)=3 by decide,show ¬ (21:Int)=4 by decide,show ¬ (21:Int)=5 by decide,show ¬ (21:Int)=6 by decide,not_false_eq_true]
   rw [a1,a2,b1,b2,c1,c2]
   simp only [bytesP,bytesP_append,bytesP_sp a4,bytesP_sp b4,bytesP_sp c4,a3,b3,c3,bytesP_one,wordP]
   simp
  | lett =>
   obtain ⟨a1,a2,a3,a4⟩:=hk 0 (by omega)
   obtain ⟨b1,b2,b3,b4⟩:=hk 1 (by omega)
   simp only [showQ,showF]
   simp only [if_neg,if_pos,show ¬ (22:Int)=1 by decide,show ¬ (22:Int)=2 by decide,show ¬ (22:Int)=3 by decide,show ¬ (22:Int)=4 by decide,show ¬ (22:Int)=5 by decide,show ¬ (22:Int)=6 by decide,show ¬ (22:Int)=21 by decide,not_false_eq_true]
   rw [a1,a2,b1,b2]
   simp only [bytesP,bytesP_append,bytesP_sp a4,bytesP_sp b4,a3,b3,bytesP_one,wordP,sgnP]
   simp
  | asrt =>
   obtain ⟨a1,a2,a3,a4⟩:=hk 0 (by omega)
   obtain ⟨b1,b2,b3,b4⟩:=hk 1 (by omega)
   simp only [showQ,showF]
   simp only [if_neg,if_pos,show ¬ (23:Int)=1 by decide,show ¬ (23:Int)=2 by decide,show ¬ (23:Int)=3 by decide,show ¬ (23:Int)=4 by decide,show ¬ (23:Int)=5 by decide,show ¬ (23:Int)=6 by decide,show ¬ (23:Int)=21 by decide,show ¬ (23:Int)=22 by decide,not_false_eq_true]
   rw [a1,a2,b1,b2]
   simp only [bytesP,bytesP_append,bytesP_sp a4,bytesP_sp b4,a3,b3,bytesP_one,wordP]
   simp
  | call h =>
   simp only [showQ,showF]
   simp only [if_neg,if_pos,show ¬ (24:Int)=1 by decide,show ¬ (24:Int)=2 by decide,show ¬ (24:Int)=3 by decide,show ¬ (24:Int)=4 by decide,show ¬ (24:Int)=5 by decide,show ¬ (24:Int)=6 by decide,show ¬ (24:Int)=21 by decide,show ¬ (24:Int)=22 by decide,show ¬ (24:Int)=23 by decide,not_false_eq_true]
   rw [hm.1,hm.2]
   simp only [bytesP,bytesP_append,hcm,wordP,sgnP]
   constructor
   ·split <;> simp [bytesP]
   ·simp
end Go.Proofs.YtdednahplodojaaGreatDoor

namespace Go.Proofs.YtdednahplodojaaGreatDoor
open Go.RowKit Go
mutual
def PZ.fit:PZ→Prop
 | .mk _ nm md num _ kids _=>nm.length≤65536∧md.length≤65536∧num.natAbs<10 ^ 60∧kids.length≤65536∧fitZ kids
def fitZ:List PZ→Prop
 | []=>True
 | e :: l=>e.fit∧fitZ l
end
theorem fitZ_mem:∀ {l:List PZ},fitZ l→∀ e∈l,e.fit
 | x :: l,h,e,hm=>by
  rw [fitZ] at h
  rcases List.mem_cons.1 hm with rfl|hm
  ·exact h.1
  ·exact fitZ_mem h.2 e hm
theorem PZ.fit_def {e:PZ}(h:e.fit):e.name.length≤65536∧e.module.length≤65536∧e.num.natAbs<10 ^ 60∧e.kids.length≤65536∧∀ x∈e.kids,x.fit:=by
 cases e
 rw [PZ.fit] at h
 exact ⟨h.1,h.2.1,h.2.2.1,h.2.2.2.1,fitZ_mem h.2.2.2.2⟩
theorem ZAt.slX {P:Nat→Prop}{w:World}{m k:Value}{x:PZ}(h:ZAt YA P w m k x):∃ am wn cm ae ce,m=.slice am wn cm∧k=.slice ae x.kids.length ce:=by
 obtain ⟨hnum,ae,ce,rfl,_,_⟩:=h.form
 obtain ⟨ws,hws,_⟩:=(hnum:NumAt _ _ _ _)
 obtain ⟨am,cm,rfl⟩:=hws.form
 exact ⟨am,_,cm,ae,ce,rfl,rfl⟩
def KidsZ (B:Nat)(w:World)(ae:Option Addr)(ks:List PZ):Prop:=0<ks.length→∃ b off,ae=some ⟨b,off,none⟩∧b<B∧b<w.heap.size∧∀ i,(hi:i<ks.length)→∃ am wn cm ak ck,ZAt YA (fun b=>b<B) w (.slice am wn cm) (.slice ak ks[i].kids.length ck) ks[i]∧∀ j u,(YA.cells ks[i] (.slice am wn cm) (.slice ak ks[i].kids.length ck))[j]?=some u→w.cell? ⟨b,off+i * 8+j,none⟩=some u
theorem ZAt.kidsZ {B:Nat}{w:World}{mv:Value}{ae:Option Addr}{ce:Nat}{e:PZ}(h:ZAt YA (fun b=>b<B) w mv (.slice ae e.kids.length ce) e):KidsZ B w ae e.kids:=by
 obtain ⟨_,ae',ce',hv,_,hf⟩:=h.form
 simp only [Value.slice.injEq] at hv
 obtain ⟨rfl,-,rfl⟩:=hv
 intro h0
 obtain ⟨b,off,h1,h2,h3,h4⟩:=hf h0
 refine ⟨b,off,h1,h2,h3,fun i hi=>?_⟩
 obtain ⟨m,k,h5,h6⟩:=h4 i hi
 obtain ⟨am,wn,cm,ak,ck,rfl,rfl⟩:=h5.slX
 exact ⟨am,wn,cm,ak,ck,h5,h6⟩
def AskZ (f:FuncId)(lb:Array Value)(p:PZ→Bool)(B:Nat)(w:World)(x:PZ):Prop:=∀ (W:World) (am:Option Addr) (wn cm:Nat) (ak:Option Addr) (ck:Nat),Below w.heap.size w W→ZAt YA (fun b=>b<B) W (.slice am wn cm) (.slice ak x.kids.length ck) x →
 Calls Tryz.prog f (#[.agg #[.int .i64 x.op,.string ⟨x.name.toArray⟩,.string ⟨x.module.toArray⟩,.bool (decide (x.num<0)),.slice am wn cm,.bool x.yes,.slice ak x.kids.length ck,.int .i64 x.at_]]++lb) W fun r w'=>r=.returned (.bool (p x))∧Below W.heap.size W w'
def idxZ (p:PZ→Bool):List PZ→Nat→Int
 | [],_=>-1
 | x :: l,k=>if p x=true then k else idxZ p l (k+1)
theorem idxZ_any (p:PZ→Bool):∀ (l:List PZ) (k:Nat),decide (0≤idxZ p l k)=l.any p
 | [],k=>rfl
 | x :: l,k=>by
  rw [idxZ,List.any_cons]
  split
  ·rename_i h;rw [h];exact decide_eq_true (by omega)
  ·rename_i h;rw [Bool.not_eq_true] at h;rw [h,idxZ_any p l];rfl
theorem idxZ_at {p:PZ→Bool}:∀ {ks:List PZ} {k:Nat} (j:Nat) (h:k<ks.length),(∀ i,i<k→(hi:i<ks.length)→p ks[i]=false)→idxZ p ks j=if p ks[k]=true then ((j+k:Nat):Int) else idxZ p (ks.drop (k+1)) (j+k+1)
 | x :: l,0,j,h,_=>by simp [idxZ]
 | x :: l,k+1,j,h,hf=>by
  have h0:=hf 0 (by omega) (by simp)
  have ih:=idxZ_at (p:=p) (ks:=l) (k:=k) (j+1) (by simpa using h) fun i hi hl=>by have:=hf (i+1) (by omega) (by simpa using hl);simpa using this
  rw [idxZ,if_neg (by simpa using h0),ih]
  simp only [List.getElem_cons_succ,List.drop_succ_cons]
  rw [show j+1+k=j+(k+1) by omega]
theorem idxZ_no {p:PZ→Bool}:∀ {ks:List PZ} (j:Nat),(∀ i,(hi:i<ks.length)→p ks[i]=false)→idxZ p ks j=-1
 | [],_,_=>rfl
 | x :: l,j,hf=>by
  have h0:=hf 0 (by simp)
  rw [idxZ,if_neg (by simpa using h0)]
  exact idxZ_no (j+1) fun i hi=>by have:=hf (i+1) (by simpa using hi);simpa using this
theorem indexZ_any (f:FuncId)(lb:Array Value)(p:PZ→Bool)(eg:∀ args w,(callFunc f args).run Tryz.prog w=.ok (.enter f args) w)(B:Nat)(ae:Option Addr)(ce:Nat)(ks:List PZ)(w:World)(hk:KidsZ B w ae ks)(hB:B≤w.heap.size)(hn:ks.length≤1099511627776)(ha:∀ x∈ks,AskZ f lb p B w x) :
  Calls Tryz.prog 142 #[.slice ae ks.length ce,.func (.func f) #[] lb] w fun r w'=>r=.returned (.int .i64 (idxZ p ks 0))∧Below w.heap.size w w':=by
 have HK:=Lib.hid hk
 have HA:=Lib.hid ha
 clear hk ha
 go_enter Tryz.func142,Tryz.ntmps142
 go_wp2
 go_loopw [5,8] (fun _ q wr=>∃ k:Nat,k≤ks.length∧q=.int .i64 k∧(∀ i,i<k→(hi:i<ks.length)→p ks[i]=false)∧Below w.heap.size w wr) (fun _ q _=>ks.length - (intOf q).toNat)
 case atStart=>exact ⟨0,Nat.zero_le _,rfl,fun i hi=>absurd hi (by omega),Below.refl _ _⟩
 case round =>
  obtain ⟨k,hkl,rfl,hno,hbl⟩:=hrel
  have hw:=hbl.size
  have HN:=Lib.hid hno
  clear hno
  by_cases hlt:k<ks.length
  ·obtain ⟨b,off,rfl,hbB,hbw,hkid⟩:=HK.out (by omega)
   obtain ⟨am,wn,cm,ak,ck,hE,hc⟩:=hkid k hlt
   have hA:=HA.out _ (List.getElem_mem hlt) wr am wn cm ak ck hbl (hE.frame (Alk.ofB hbl (fun b hb=>by omega)))
   have hix:=idxZ_at (p:=p) 0 hlt HN.out
   have hnx:p ks[k]=false→∀ i,i<k+1→(hi:i<ks.length)→p ks[i]=false:=fun q i hi hl=>by
    by_cases e:i=k
    ·subst e;exact q
    ·exact HN.out i (by omega) hl
   have y0:=(hbl.cell (p:=⟨b,off+k * 8,none⟩) hbw).trans (hc 0 _ rfl)
   have y1:=(hbl.cell (p:=⟨b,off+k * 8+1,none⟩) hbw).trans (hc 1 _ rfl)
   have y2:=(hbl.cell (p:=⟨b,off+k * 8+2,none⟩) hbw).trans (hc 2 _ rfl)
   have y3:=(hbl.cell (p:=⟨b,off+k * 8+3,none⟩) hbw).trans (hc 3 _ rfl)
   have y4:=(hbl.cell (p:=⟨b,off+k * 8+4,none⟩) hbw).trans (hc 4 _ rfl)
   have y5:=(hbl.cell (p:=⟨b,off+k * 8+5,none⟩) hbw).trans (hc 5 _ rfl)
   have y6:=(hbl.cell (p:=⟨b,off+k * 8+6,none⟩) hbw).trans (hc 6 _ rfl)
   have y7:=(hbl.cell (p:=⟨b,off+k * 8+7,none⟩) hbw).trans (hc 7 _ rfl)
   simp only [strV] at y1 y2
   have HX:=Lib.hid hix
   have HNX:=Lib.hid hnx
   clear hkid hc hE hix hnx
   generalize ks[k]=x at y0 y1 y2 y3 y4 y5 y6 y7 hA HX HNX
   have hkI:(k:Int)<(ks.length:Int):=by omega
   cases hq:p x with
   | true =>
    rw [hq] at hA
    have HX2:Hid (idxZ p ks 0=(k:Int)):=Lib.hid (by rw [HX.out,if_pos hq,Nat.zero_add])
    have HAA:=Lib.hid hA
    clear hA hq HX HNX
    go_wp2_with (go_at_fn f;refine HAA.out.mono ?_;rintro r w2 ⟨rfl,hb2⟩)
    go_ret
    exact ⟨ret_int (by rw [HX2.out]),hbl.trans (hb2.mono hw)⟩
   | false =>
    rw [hq] at hA
    have HNX2:=Lib.hid (HNX.out hq)
    have HAA:=Lib.hid hA
    clear hA hq HX HNX
    go_wp2_with (go_at_fn f;refine HAA.out.mono ?_;rintro r w2 ⟨rfl,hb2⟩)
    exact ⟨⟨k+1,by omega,by go_num,HNX2.out,hbl.trans (hb2.mono hw)⟩,by simp [intOf];omega⟩
  ·obtain rfl:k=ks.length:=by omega
   have hkI:decide ((ks.length:Int)<(ks.length:Int))=false:=decide_eq_false (by omega)
   have HX2:Hid (idxZ p ks 0=-1):=Lib.hid (idxZ_no 0 fun i hi=>HN.out i hi hi)
   clear HN
   go_wp2
   go_ret
   exact ⟨ret_int (by rw [HX2.out]),hbl⟩
theorem containsZ_any (f:FuncId)(lb:Array Value)(p:PZ→Bool)(eg:∀ args w,(callFunc f args).run Tryz.prog w=.ok (.enter f args) w)(B:Nat)(ae:Option Addr)(ce:Nat)(ks:List PZ)(w:World)(hk:KidsZ B w ae ks)(hB:B≤w.heap.size)(hn:ks.length≤1099511627776)(ha:∀ x∈ks,AskZ f lb p B w x) :
  Calls Tryz.prog 90 #[.slice ae ks.length ce,.func (.func f) #[] lb] w fun r w'=>r=.returned (.bool (ks.any p))∧Below w.heap.size w w':=by
 have HI:=Lib.hid (indexZ_any f lb p eg B ae ce ks w hk hB hn ha)
 have HY:=Lib.hid (idxZ_any p ks 0)
 clear hk ha hn hB eg
 generalize idxZ p ks 0=i at *
 go_enter Tryz.func90,Tryz.ntmps90
 go_wp2_with (go_at_call 142;refine HI.out.mono ?_;rintro r w2 ⟨rfl,hb2⟩)
 go_ret
 exact ⟨ret_bool (by rw [← HY.out]),hb2⟩
end Go.Proofs.YtdednahplodojaaGreatDoor

namespace Go.Proofs.YtdednahplodojaaGreatDoor
theorem fitZ_of:∀ {l:List PZ},(∀ x∈l,x.fit)→fitZ l
 | [],_=>by rw [fitZ];trivial
 | x :: l,h=>by
  rw [fitZ]
  exact ⟨h x List.mem_cons_self,fitZ_of fun y hy=>h y (List.mem_cons_of_mem _ hy)⟩
theorem takes_le (c:CellZ):c.takes≤9:=by
 unfold CellZ.takes
 split <;> (try split) <;> (try split) <;> (try split) <;> omega
theorem zedF_small (s:List UInt8):(zedF s).natAbs<10 ^ 60:=by
 unfold zedF
 simp only
 generalize (if s.head?=some 45 then s.drop 1 else s)=r
 have h0:(0:Int).natAbs<10 ^ 60:=by decide
 by_cases h1:60<r.length
 ·rw [if_pos h1];exact h0
 ·rw [if_neg h1]
  by_cases h2:r=[]∨digitsB r=false∨(r.head?=some 48∧(1<r.length∨s.head?=some 45))
  ·rw [if_pos h2];exact h0
  ·rw [if_neg h2]
   have hd:digitsB r=true:=by
    cases hh:digitsB r
    ·exact absurd (.inr (.inl hh)) h2
    ·rfl
   have hlt:decV r<10 ^ 60:=Nat.lt_of_lt_of_le (decV_lt r hd) (Nat.pow_le_pow_right (by omega) (by omega))
   split <;> omega
theorem stepZ_fit {l:List PZ}{c:CellZ}(hc:c.fits=true)(h:∀ x∈l,x.fit):∀ x∈stepZ l c,x.fit:=by
 intro x hx
 unfold CellZ.fits at hc
 simp only [Bool.and_eq_true,decide_eq_true_eq] at hc
 rw [stepZ] at hx
 rcases List.mem_append.1 hx with hx|hx
 ·exact h x (List.mem_of_mem_take hx)
 ·rw [List.mem_singleton] at hx
  subst hx
  rw [PZ.fit]
  refine ⟨by omega,by omega,?_,?_,fitZ_of fun y hy=>h y (List.mem_of_mem_drop hy)⟩
  ·split
   ·exact zedF_small _
   ·decide
  ·rw [List.length_drop]
   have:=takes_le c
   omega
theorem foldZ_fit:∀ (t:List CellZ) (l:List PZ),t.all CellZ.fits=true→(∀ x∈l,x.fit)→∀ x∈t.foldl stepZ l,x.fit
 | [],l,_,h=>h
 | c :: t,l,ht,h=>by
  rw [List.all_cons,Bool.and_eq_true] at ht
  rw [List.foldl_cons]
  exact foldZ_fit t _ ht.2 (stepZ_fit ht.1 h)
theorem bothF_fit {t:List CellZ}{e:PZ}(h:bothF t=some e):e.fit:=by
 unfold bothF at h
 split at h
 ·cases h
 ·split at h
  ·rename_i ht
   exact foldZ_fit t [] ht (fun x hx=>by cases hx) e (List.mem_of_getLast? h)
  ·cases h
theorem stepZ_len (l:List PZ)(c:CellZ):(stepZ l c).length=l.length - min c.takes l.length+1:=by
 rw [stepZ,List.length_append,List.length_take,List.length_singleton];omega
theorem foldZ_len:∀ (t:List CellZ) (l:List PZ),(t.foldl stepZ l).length≤l.length+t.length
 | [],l=>by simp
 | c :: t,l=>by
  rw [List.foldl_cons,List.length_cons]
  have h1:=foldZ_len t (stepZ l c)
  rw [stepZ_len] at h1
  omega
end Go.Proofs.YtdednahplodojaaGreatDoor

namespace Go.Proofs.YtdednahplodojaaGreatDoor
open Go.RowKit Go
def cellC (c:CellZ):Array Value:=#[.int .i64 c.op,.int .i64 c.kids,.string ⟨c.name.toArray⟩,.string ⟨c.module.toArray⟩,.string ⟨c.num.toArray⟩,.bool c.yes]
def boxC (op kd:Int)(NM MD NU:ByteArray)(ys:Bool):Array Value:=#[.int .i64 op,.int .i64 kd,.string NM,.string MD,.string NU,.bool ys]
theorem boxC_cells {w:World}{b:Nat}{op kd:Int}{NM MD NU:ByteArray}{ys:Bool}(h:w.heap[b]?=some (.cells (boxC op kd NM MD NU ys) 104 (0,0))) :
  w.cell? ⟨b,0,none⟩=some (.int .i64 op)∧w.cell? ⟨b,1,none⟩=some (.int .i64 kd)∧w.cell? ⟨b,2,none⟩=some (.string NM)∧w.cell? ⟨b,3,none⟩=some (.string MD)∧w.cell? ⟨b,4,none⟩=some (.string NU)∧w.cell? ⟨b,5,none⟩=some (.bool ys):=by
 refine ⟨?_,?_,?_,?_,?_,?_⟩ <;> (rw [Lib.cell_of_heap h];rfl)
theorem takes_any (op kd:Int)(nm md nu:List UInt8)(ys:Bool)(NM MD NU:ByteArray)(w:World) :
  Calls Tryz.prog 43 #[.agg #[.int .i64 op,.int .i64 kd,.string NM,.string MD,.string NU,.bool ys]] w fun r w'=>r=.returned (.int .i64 ((CellZ.mk op kd nm md nu ys).takes:Nat))∧Below w.heap.size w w':=by
 have hb0:=below_new w (.cells (boxC op kd NM MD NU ys) 104)
 unfold CellZ.takes
 simp only
 by_cases h1:op≤4
 ·rw [if_pos (.inl h1)]
  go_enter Tryz.func43,Tryz.ntmps43
  go_wp2
  go_ret
  exact ⟨rfl,hb0⟩
 by_cases h2:24<op
 ·rw [if_pos (.inr h2)]
  have h2':decide (24<op)=true:=decide_eq_true h2
  go_enter Tryz.func43,Tryz.ntmps43
  go_wp2
  go_ret
  exact ⟨rfl,hb0⟩
 rw [if_neg (by omega)]
 have h1':decide (op≤4)=false:=decide_eq_false h1
 have h2':decide (24<op)=false:=decide_eq_false h2
 by_cases h3:op≤6
 ·rw [if_pos h3]
  go_enter Tryz.func43,Tryz.ntmps43
  go_wp2
  go_ret
  exact ⟨rfl,hb0⟩
 rw [if_neg h3]
 have h3':decide (op≤6)=false:=decide_eq_false h3
 by_cases h4:op=21
 ·subst h4
  rw [if_pos rfl]
  go_enter Tryz.func43,Tryz.ntmps43
  go_wp2
  go_ret
  exact ⟨rfl,hb0⟩
 rw [if_neg h4]
 have h4':(op == 21)=false:=beq_eq_false_iff_ne.2 h4
 by_cases h5:op=24
 ·subst h5
  rw [if_pos rfl]
  go_enter Tryz.func43,Tryz.ntmps43
  go_wp2
  go_ret
  exact ⟨ret_int (by omega),hb0⟩
 rw [if_neg h5]
 have h5':(op == 24)=false:=beq_eq_false_iff_ne.2 h5
 go_enter Tryz.func43,Tryz.ntmps43
 go_wp2
 go_ret
 exact ⟨rfl,hb0⟩
def boxY (op:Int)(NM MD TX:ByteArray)(ys:Bool)(kv:Value)(a_:Int):Array Value:=#[.int .i64 op,.string NM,.string MD,.string TX,.bool ys,kv,.int .i64 a_]
theorem boxY_cells {w:World}{b:Nat}{op:Int}{NM MD TX:ByteArray}{ys:Bool}{kv:Value}{a_:Int}(h:w.heap[b]?=some (.cells (boxY op NM MD TX ys kv a_) 55 (0,0))) :
  w.cell? ⟨b,0,none⟩=some (.int .i64 op)∧w.cell? ⟨b,1,none⟩=some (.string NM)∧w.cell? ⟨b,2,none⟩=some (.string MD)∧w.cell? ⟨b,3,none⟩=some (.string TX)∧w.cell? ⟨b,4,none⟩=some (.bool ys)∧w.cell? ⟨b,5,none⟩=some kv∧w.cell? ⟨b,6,none⟩=some (.int .i64 a_):=by
 refine ⟨?_,?_,?_,?_,?_,?_,?_⟩ <;> (rw [Lib.cell_of_heap h];rfl)
def RtDoes (fm:Bool)(e:PZ):Prop:=∀ (B:Nat) (am:Option Addr) (wn cm:Nat) (ae:Option Addr) (ce:Nat) (w:World),ZAt YA (fun b=>b<B) w (.slice am wn cm) (.slice ae e.kids.length ce) e→B≤w.heap.size→e.kids.length≤1099511627776 →
  Calls Tryz.prog 87 #[.agg #[.int .i64 e.op,.string ⟨e.name.toArray⟩,.string ⟨e.module.toArray⟩,.bool (decide (e.num<0)),.slice am wn cm,.bool e.yes,.slice ae e.kids.length ce,.int .i64 e.at_],.int .i64 (if fm=true then 0 else 1)] w fun r w'=>r=.returned (.bool (e.right fm))∧Below w.heap.size w w'
theorem rightc_any (fm:Bool)(x:PZ)(hx:RtDoes fm x)(hz:x.kids.length≤1099511627776)(B kb:Nat)(w:World)(hk:w.cell? ⟨kb,0,none⟩=some (.int .i64 (if fm=true then 0 else 1)))(hkl:kb<w.heap.size)(hB:B≤w.heap.size) :
  AskZ 137 #[.pointer (some ⟨kb,0,none⟩)] (fun x=>!x.right fm) B w x:=by
 intro W am wn cm ak ck hW hE
 have hs:=hW.size
 have hbx:=below_new W (.cells (boxZ x.op ⟨x.name.toArray⟩ ⟨x.module.toArray⟩ (decide (x.num<0)) (.slice am wn cm) x.yes (.slice ak x.kids.length ck) x.at_) 40)
 have HX:=Lib.hid (hx B am wn cm ak ck (W.alloc (.cells (boxZ x.op ⟨x.name.toArray⟩ ⟨x.module.toArray⟩ (decide (x.num<0)) (.slice am wn cm) x.yes (.slice ak x.kids.length ck) x.at_) 40)) (hE.frame (Alk.of hbx)) (by simp;omega) hz)
 have hk1:=((hW.cell (p:=⟨kb,0,none⟩) hkl).trans hk)
 have hk2:=(hbx.cell (p:=⟨kb,0,none⟩) (by show kb<_;omega)).trans hk1
 have hN:=heap_alloc_new W (.cells (boxZ x.op ⟨x.name.toArray⟩ ⟨x.module.toArray⟩ (decide (x.num<0)) (.slice am wn cm) x.yes (.slice ak x.kids.length ck) x.at_) 40)
 show Calls _ _ #[_,_] _ fun r w'=>r=.returned (.bool (!x.right fm))∧Below W.heap.size W w'
 generalize (if fm=true then (0:Int) else 1)=kd at *
 generalize x.right fm=rb at *
 clear hx hE hk hk1 hz
 go_enter Tryz.func137,Tryz.ntmps137
 go_upto_region 1 with fail
 change Code.wp _ _ _ _ (W.alloc (.cells (boxZ x.op ⟨x.name.toArray⟩ ⟨x.module.toArray⟩ (decide (x.num<0)) (.slice am wn cm) x.yes (.slice ak x.kids.length ck) x.at_) 40))
 generalize W.alloc _=w0 at hbx hN hk2 HX ⊢
 obtain ⟨y0,y1,y2,y3,y4,y5,y6,y7⟩:=boxZ_cells hN
 go_wp2_with (go_at_call 87;refine HX.out.mono ?_;rintro r w1 ⟨rfl,hb1⟩)
 go_ret
 exact ⟨rfl,hbx.trans (hb1.mono hbx.size)⟩
theorem kids_count {op:Int}{n:Nat}(h1:1≤op)(h2:op≤24):(0≤kidsN op∧countB op n=decide ((n:Int)=kidsN op)∧kidsN op≤3)∨(kidsN op=-1∧countB op n=decide (n≤8)):=by
 unfold kidsN countB
 by_cases h4:op≤4
 ·left;simp only [if_pos h4];refine ⟨by omega,?_,by omega⟩;congr 1;exact propext (by omega)
 by_cases h6:op≤6
 ·left;simp only [if_neg h4,if_pos h6];refine ⟨by omega,?_,by omega⟩;congr 1;exact propext (by omega)
 by_cases h20:op≤20∨op=22∨op=23
 ·left;simp only [if_neg h4,if_neg h6,if_pos h20];refine ⟨by omega,?_,by omega⟩;congr 1;exact propext (by omega)
 by_cases h21:op=21
 ·left;simp only [if_neg h4,if_neg h6,if_neg h20,if_pos h21];refine ⟨by omega,?_,by omega⟩;congr 1;exact propext (by omega)
 ·right;refine ⟨?_,?_⟩ <;> simp only [if_neg h4,if_neg h6,if_neg h20,if_neg h21]
theorem rights_any (fm:Bool):∀ l:List PZ,rightsZ fm l=!(l.any fun x=>!x.right fm)
 | []=>rfl
 | e :: l=>by rw [rightsZ,rights_any fm l,List.any_cons];cases e.right fm <;> simp
theorem rightZ_step (fm:Bool)(e:PZ)(hf:e.fit)(IH:∀ x∈e.kids,RtDoes fm x∧x.kids.length≤1099511627776):RtDoes fm e:=by
 intro B am wn cm ae ce w h hB hkl
 obtain ⟨f1,f2,f3,-,-⟩:=PZ.fit_def hf
 have hnum:NumAt (fun b=>b<B) w e.num (.slice am wn cm):=h.form.1
 have hkz:=h.kidsZ
 have hdef:e.right fm=(decide (1≤e.op) && (decide (e.op≤24) && (mayB fm e.op && (namesB e.op e.name e.module && (valuesB e.op e.num e.yes && (countB e.op e.kids.length && rightsZ fm e.kids)))))):=by
  rw [e.right_def,headB];simp only [Bool.and_assoc]
 have HM:=Lib.hid (fun W=>may_any e.op fm W)
 have HK:=Lib.hid (fun W=>kids_any e.op W)
 have hNA:=fun W=>names_any e.op ⟨e.name.toArray⟩ ⟨e.module.toArray⟩ (decide (e.num<0)) am wn cm e.yes ae e.kids.length ce e.at_ W (by show e.name.toArray.size≤_;simp;omega) (by show e.module.toArray.size≤_;simp;omega)
 have hVA:=fun W (hW:Below w.heap.size w W)=>values_any (fun b=>b<B) e.op ⟨e.name.toArray⟩ ⟨e.module.toArray⟩ e.num am wn cm e.yes ae e.kids.length ce e.at_ W (YA.frame hnum (Alk.of hW)) f3
 have HNA:=Lib.hid hNA
 have HVA:=Lib.hid hVA
 have hCT:=fun (W:World) (kb:Nat) (hW:Below w.heap.size w W) (hk:W.cell? ⟨kb,0,none⟩=some (.int .i64 (if fm=true then 0 else 1))) (hkl':kb<W.heap.size)=>containsZ_any 137 #[.pointer (some ⟨kb,0,none⟩)] (fun x=>!x.right fm) (enters_of Tryz.func137 (by kernel_rfl) rfl) B ae ce e.kids W (fun h0=>by
   obtain ⟨b,off,q1,q2,q3,q4⟩:=hkz h0
   refine ⟨b,off,q1,q2,Nat.lt_of_lt_of_le q3 hW.size,fun i hi=>?_⟩
   obtain ⟨am',wn',cm',ak',ck',q5,q6⟩:=q4 i hi
   exact ⟨am',wn',cm',ak',ck',q5.frame (Alk.of hW),fun j u hu=>(hW.cell (p:=⟨b,off+i * 8+j,none⟩) q3).trans (q6 j u hu)⟩) (by have:=hW.size;omega) hkl fun x hx=>rightc_any fm x (IH x hx).1 (IH x hx).2 B kb W hk hkl' (by have:=hW.size;omega)
 have HCT:=Lib.hid hCT
 rw [rights_any] at hdef
 have hkc:=kids_count (op:=e.op) (n:=e.kids.length)
 clear hNA hVA hCT hnum hkz h IH hf f1 f2 f3
 have eN:namesB e.op (ByteArray.mk e.name.toArray).data.toList (ByteArray.mk e.module.toArray).data.toList=namesB e.op e.name e.module:=rfl
 rw [eN] at HNA
 clear eN
 generalize namesB e.op e.name e.module=nb at *
 generalize valuesB e.op e.num e.yes=vb at *
 generalize mayB fm e.op=mb at *
 generalize (if fm=true then (0:Int) else 1)=kd at *
 generalize e.right fm=res at *
 generalize (e.kids.any fun x=>!x.right fm)=an at *
 have HD:=Lib.hid hdef
 have HKC:=Lib.hid hkc
 clear hdef hkc
 generalize decide (e.num<0)=ng at *
 generalize e.op=op at *
 generalize e.kids.length=nk at *
 generalize countB op nk=cb at *
 generalize kidsN op=kn at *
 have hbw:=(below_new w (.cells (boxZ op ⟨e.name.toArray⟩ ⟨e.module.toArray⟩ ng (.slice am wn cm) e.yes (.slice ae nk ce) e.at_) 40)).alloc (by simp) (.cells #[.int .i64 kd] 109)
 have hN:=(Lib.alloc_old (w.alloc (.cells (boxZ op ⟨e.name.toArray⟩ ⟨e.module.toArray⟩ ng (.slice am wn cm) e.yes (.slice ae nk ce) e.at_) 40)) (.cells #[.int .i64 kd] 109) w.heap.size (by simp)).trans (heap_alloc_new w (.cells (boxZ op ⟨e.name.toArray⟩ ⟨e.module.toArray⟩ ng (.slice am wn cm) e.yes (.slice ae nk ce) e.at_) 40))
 have hK:=heap_alloc_new (w.alloc (.cells (boxZ op ⟨e.name.toArray⟩ ⟨e.module.toArray⟩ ng (.slice am wn cm) e.yes (.slice ae nk ce) e.at_) 40)) (.cells #[.int .i64 kd] 109)
 rw [World.size_alloc] at hK
 go_enter Tryz.func87,Tryz.ntmps87
 go_upto_region 1 with fail
 change Code.wp _ _ _ _ ((w.alloc (.cells (boxZ op ⟨e.name.toArray⟩ ⟨e.module.toArray⟩ ng (.slice am wn cm) e.yes (.slice ae nk ce) e.at_) 40)).alloc (.cells #[.int .i64 kd] 109))
 generalize (w.alloc _).alloc _=w2 at hbw hN hK ⊢
 have hl1:=(Array.getElem?_eq_some_iff.1 hN).1
 have hl2:=(Array.getElem?_eq_some_iff.1 hK).1
 have hz2:=hbw.size
 obtain ⟨y0,y1,y2,y3,y4,y5,y6,y7⟩:=boxZ_cells hN
 have yk:w2.cell? ⟨w.heap.size+1,0,none⟩=some (.int .i64 kd):=by rw [Lib.cell_of_heap hK];rfl
 have fin:∀ W:World,res=false→Below w.heap.size w W→(Ending.returned (.bool false)=Ending.returned (.bool res)∧Below w.heap.size w W):=fun _ h1 h2=>⟨by rw [h1],h2⟩
 have HFIN:=Lib.hid fin
 clear fin
 by_cases c1:op<1
 ·have hr:Hid (res=false):=Lib.hid (by rw [HD.out,decide_eq_false (by omega)];rfl)
  clear HD HKC HCT HNA HVA HK HM
  go_wp2
  go_ret
  exact HFIN.out _ hr.out hbw
 by_cases c2:24<op
 ·have hr:Hid (res=false):=Lib.hid (by rw [HD.out,decide_eq_false (by omega:¬ op≤24)];cases decide (1≤op) <;> rfl)
  clear HD HKC HCT HNA HVA HK HM
  go_wp2
  go_ret
  exact HFIN.out _ hr.out hbw
 have hD2:res=(mb && (nb && (vb && (cb && !an)))):=by rw [HD.out,decide_eq_true (by omega),decide_eq_true (by omega)];rfl
 have HD2:=Lib.hid hD2
 clear hD2 HD
 have hkc:=HKC.out (by omega) (by omega)
 have HKC2:=Lib.hid hkc
 clear hkc HKC
 cases mb with
 | false =>
  have hr:Hid (res=false):=Lib.hid (by rw [HD2.out];rfl)
  clear HD2 HKC2 HCT HNA HVA HK
  go_wp2_with (go_at_call 133;refine (HM.out _).mono ?_;rintro r w' ⟨rfl,rfl⟩)
  go_ret
  exact HFIN.out _ hr.out hbw
 | true =>
 cases nb with
 | false =>
  have hr:Hid (res=false):=Lib.hid (by rw [HD2.out];rfl)
  clear HD2 HKC2 HCT HVA HK
  go_wp2_with (first|(go_at_call 133;refine (HM.out _).mono ?_;rintro r w' ⟨rfl,rfl⟩)|(go_at_call 134;refine (HNA.out _).mono ?_;rintro r w3 ⟨rfl,hb3⟩))
  go_ret
  exact HFIN.out _ hr.out (hbw.trans (hb3.mono hz2))
 | true =>
 cases vb with
 | false =>
  have hr:Hid (res=false):=Lib.hid (by rw [HD2.out];rfl)
  clear HD2 HKC2 HCT HK
  go_wp2_with (first|(go_at_call 133;refine (HM.out _).mono ?_;rintro r w' ⟨rfl,rfl⟩)|(go_at_call 134;refine (HNA.out _).mono ?_;rintro r w3 ⟨rfl,hb3⟩;have hbw3:=hbw.trans (hb3.mono hz2);obtain ⟨z0,z1,z2,z3,z4,z5,z6,z7⟩:=boxZ_cells ((hb3.block w.heap.size hl1).trans hN))|(go_at_call 135;refine (HVA.out _ hbw3).mono ?_;rintro r w4 ⟨rfl,hb4⟩))
  go_ret
  exact HFIN.out _ hr.out (hbw3.trans (hb4.mono hbw3.size))
 | true =>
 have HD3:Hid (res=(cb && !an)):=Lib.hid (by rw [HD2.out];rfl)
 clear HD2
 go_upto_region 3 with (first|(go_at_call 133;refine (HM.out _).mono ?_;rintro r w' ⟨rfl,rfl⟩)|(go_at_call 134;refine (HNA.out _).mono ?_;rintro r w3 ⟨rfl,hb3⟩;have hbw3:=hbw.trans (hb3.mono hz2);obtain ⟨z0,z1,z2,z3,z4,z5,z6,z7⟩:=boxZ_cells ((hb3.block w.heap.size hl1).trans hN))|(go_at_call 135;refine (HVA.out _ hbw3).mono ?_;rintro r w4 ⟨rfl,hb4⟩))
 have hbw4:=hbw3.trans (hb4.mono hbw3.size)
 have hz3:=hb3.size
 have hN4:=(hb4.block w.heap.size (by omega)).trans ((hb3.block w.heap.size hl1).trans hN)
 have hK4:=(hb4.block (w.heap.size+1) (by omega)).trans ((hb3.block (w.heap.size+1) hl2).trans hK)
 have hl4:=(Array.getElem?_eq_some_iff.1 hK4).1
 clear z0 z1 z2 z3 z4 z5 z6 z7 y0 y1 y2 y3 y4 y5 y6 y7 yk hN hK HNA HVA HM
 obtain ⟨y0,y1,y2,y3,y4,y5,y6,y7⟩:=boxZ_cells hN4
 have yk:w4.cell? ⟨w.heap.size+1,0,none⟩=some (.int .i64 kd):=by rw [Lib.cell_of_heap hK4];rfl
 have HC4:=Lib.hid (HCT.out w4 (w.heap.size+1) hbw4 yk hl4)
 clear HCT hN4 hK4
 rcases HKC2.out with ⟨k0,k1,k3⟩|⟨k0,k1⟩
 ·by_cases hq:(nk:Int)=kn
  ·have HD4:Hid (res=!an):=Lib.hid (by rw [HD3.out,k1,decide_eq_true hq];rfl)
   have h8:(nk:Int)≤8:=by omega
   have hne:((nk:Int) == kn)=true:=by rw [hq];exact beq_self_eq_true _
   have HQ:=Lib.hid hq
   clear k1 HKC2 HD3 hq
   go_wp2_with (first|(go_at_call 136;refine (HK.out _).mono ?_;rintro r w' ⟨rfl,rfl⟩)|(go_at_call 90;refine HC4.out.mono ?_;rintro r w5 ⟨rfl,hb5⟩))
   go_ret
   exact ⟨ret_bool (by rw [HD4.out]),hbw4.trans (hb5.mono hbw4.size)⟩
  ·have hr:Hid (res=false):=Lib.hid (by rw [HD3.out,k1,decide_eq_false hq];rfl)
   have hne:((nk:Int) == kn)=false:=beq_eq_false_iff_ne.2 hq
   have hne2:((nk:Int) != kn)=true:=by rw [bne,hne];rfl
   clear k1 HKC2 HD3 HC4 hq
   go_wp2_with (go_at_call 136;refine (HK.out _).mono ?_;rintro r w' ⟨rfl,rfl⟩)
   go_ret
   exact HFIN.out _ hr.out hbw4
 ·subst k0
  by_cases hq:nk≤8
  ·have HD4:Hid (res=!an):=Lib.hid (by rw [HD3.out,k1,decide_eq_true hq];rfl)
   have h8:(nk:Int)≤8:=by omega
   clear k1 HKC2 HD3
   go_wp2_with (first|(go_at_call 136;refine (HK.out _).mono ?_;rintro r w' ⟨rfl,rfl⟩)|(go_at_call 90;refine HC4.out.mono ?_;rintro r w5 ⟨rfl,hb5⟩))
   go_ret
   exact ⟨ret_bool (by rw [HD4.out]),hbw4.trans (hb5.mono hbw4.size)⟩
  ·have hr:Hid (res=false):=Lib.hid (by rw [HD3.out,k1,decide_eq_false hq];rfl)
   have h8:(8:Int)<(nk:Int):=by omega
   clear k1 HKC2 HD3 HC4
   go_wp2_with (go_at_call 136;refine (HK.out _).mono ?_;rintro r w' ⟨rfl,rfl⟩)
   go_ret
   exact HFIN.out _ hr.out hbw4
theorem rightZ_any (fm:Bool):∀ (n:Nat) (e:PZ),SizeOf.sizeOf e<n→e.fit→RtDoes fm e
 | 0,_,h,_=>absurd h (by omega)
 | n+1,e,hs,hf=>rightZ_step fm e hf fun x hx=>⟨rightZ_any fm n x (by have:=e.kids_sizeOf x hx;omega) ((PZ.fit_def hf).2.2.2.2 x hx),by have:=(PZ.fit_def ((PZ.fit_def hf).2.2.2.2 x hx)).2.2.2.1;omega⟩
end Go.Proofs.YtdednahplodojaaGreatDoor

namespace Go.Proofs.YtdednahplodojaaGreatDoor
theorem decF_pos (n:Nat):0<(decF n).length:=by
 unfold decF
 split
 ·simp
 ·rw [List.length_append];simp
theorem intF_pos (n:Int):0<(intF n).length:=by
 rw [intF,List.length_append]
 have:=decF_pos n.natAbs
 omega
end Go.Proofs.YtdednahplodojaaGreatDoor
