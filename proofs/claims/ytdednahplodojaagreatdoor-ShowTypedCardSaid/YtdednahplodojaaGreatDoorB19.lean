/- Walks and plain laws: PrintPlain, ShowC, BothFit, TakesW, RShowA. -/
import Derived.Test.YtdednahplodojaaGreatDoorB18
import Derived.Great.Walk
set_option maxHeartbeats 16000000
set_option maxRecDepth 100000
set_option linter.unusedVariables false
set_option linter.unusedSimpArgs false
namespace Go.Proofs.YtdednahplodojaaGreatDoor
def wordP (t:List UInt8):Pc:=⟨[],if t∈keyL then 2 else 1,t⟩
def numP (t:List UInt8):Pc:=⟨[],3,t⟩
def sgnP (t:List UInt8):Pc:=⟨[],4,t⟩
def spP:List Pc→List Pc
 | []=>[]
 | p :: l=>⟨32 :: p.lead,p.kind,p.text⟩ :: l
def parQ (least:Int)(k:Int × List Pc):List Pc:=if lvZ k.1<least then sgnP [40] :: (k.2++[sgnP [41]]) else k.2
def commaQ:List (List Pc)→List Pc
 | []=>[]
 | [t]=>t
 | t :: s :: l=>t++sgnP [44] :: spP (commaQ (s :: l))
def showQ (op:Int)(nm md:List UInt8)(num:Int)(yes:Bool)(ks:List (Int × List Pc)):List Pc :=
 if op=1 then [numP (intF num)]
 else if op=2 then [wordP (if yes=true then [116,114,117,101] else [102,97,108,115,101])]
 else if op=3 then [wordP nm]
 else if op=4 then [wordP [114,101,115]]
 else if op=5 then sgnP [45] :: parQ 9 (ks.getD 0 (0,[]))
 else if op=6 then wordP [110,111,116] :: spP (parQ 4 (ks.getD 0 (0,[])))
 else if op=21 then wordP [105,102] :: (spP (ks.getD 0 (0,[])).2++spP [wordP [116,104,101,110]]++spP (ks.getD 1 (0,[])).2++spP [wordP [101,108,115,101]]++spP (ks.getD 2 (0,[])).2)
 else if op=22 then wordP [108,101,116] :: (spP [wordP nm]++spP [sgnP [61]]++spP (ks.getD 0 (0,[])).2++spP [wordP [105,110]]++spP (ks.getD 1 (0,[])).2)
 else if op=23 then wordP [97,115,115,101,114,116] :: (spP (ks.getD 0 (0,[])).2++spP [wordP [105,110]]++spP (ks.getD 1 (0,[])).2)
 else if op=24 then (if md=[] then [] else [wordP md,sgnP [46]])++([wordP nm,sgnP [40]]++(commaQ (ks.map Prod.snd)++[sgnP [41]]))
 else parQ (firstZ op) (ks.getD 0 (0,[]))++(spP [sgnP (signZ op)]++spP (parQ (thenZ op) (ks.getD 1 (0,[]))))
mutual
def PZ.pcs:PZ→List Pc
 | .mk op nm md num yes kids _=>showQ op nm md num yes (pcsZ kids)
def pcsZ:List PZ→List (Int × List Pc)
 | []=>[]
 | e :: l=>(e.op,e.pcs) :: pcsZ l
end
theorem PZ.pcs_def (e:PZ):e.pcs=showQ e.op e.name e.module e.num e.yes (pcsZ e.kids):=by cases e;rw [PZ.pcs];rfl
theorem pcsZ_map:∀ l:List PZ,pcsZ l=l.map fun e=>(e.op,e.pcs)
 | []=>rfl
 | e :: l=>by rw [pcsZ,pcsZ_map l];rfl
theorem pcsZ_get {l:List PZ}{i:Nat}(h:i<l.length):(pcsZ l).getD i (0,[])=(l[i].op,l[i].pcs):=by
 rw [pcsZ_map,List.getD_eq_getElem?_getD,List.getElem?_map,List.getElem?_eq_getElem h];rfl
theorem PZ.kids_sizeOf (e:PZ):∀ x∈e.kids,SizeOf.sizeOf x<SizeOf.sizeOf e:=by
 intro x hx
 cases e with
 | mk op name module num yes kids at_ =>
  have:=List.sizeOf_lt_of_mem hx
  simp only [PZ.mk.sizeOf_spec,PZ.kids] at this ⊢
  omega
structure RightZ (fm:Bool) (e:PZ):Prop where
 op1:1≤e.op
 op24:e.op≤24
 may:mayB fm e.op=true
 names:namesB e.op e.name e.module=true
 values:valuesB e.op e.num e.yes=true
 count:countB e.op e.kids.length=true
 kids:∀ x∈e.kids,x.right fm=true
theorem PZ.rightZ {fm:Bool}{e:PZ}(h:e.right fm=true):RightZ fm e:=by
 rw [PZ.right_def,headB] at h
 simp only [Bool.and_eq_true,decide_eq_true_eq] at h
 exact ⟨h.1.1.1.1.1.1,h.1.1.1.1.1.2,h.1.1.1.1.2,h.1.1.1.2,h.1.1.2,h.1.2,rightsZ_all.1 h.2⟩
inductive FormZ:Int→Nat→Prop where
 | none {op}:1≤op→op≤4→FormZ op 0
 | one {op}:op=5∨op=6→FormZ op 1
 | two {op}:7≤op→op≤20→FormZ op 2
 | iff:FormZ 21 3
 | lett:FormZ 22 2
 | asrt:FormZ 23 2
 | call {n}:n≤8→FormZ 24 n
theorem RightZ.form {fm:Bool}{e:PZ}(h:RightZ fm e):FormZ e.op e.kids.length:=by
 have h1:=h.op1
 have h2:=h.op24
 have hc:=h.count
 unfold countB at hc
 generalize e.op=op at *
 split at hc
 ·rw [decide_eq_true_eq] at hc;rw [hc];exact .none h1 (by omega)
 split at hc
 ·rw [decide_eq_true_eq] at hc;rw [hc];exact .one (by omega)
 split at hc
 ·rw [decide_eq_true_eq] at hc;rw [hc]
  by_cases q:op=22
  ·subst q;exact .lett
  by_cases q2:op=23
  ·subst q2;exact .asrt
  ·exact .two (by omega) (by omega)
 split at hc
 ·rename_i q;subst q;rw [decide_eq_true_eq] at hc;rw [hc];exact .iff
 ·rw [decide_eq_true_eq] at hc
  obtain rfl:op=24:=by omega
  exact .call hc
theorem bytesP_sp {l:List Pc}(h:l≠[]):bytesP (spP l)=[32]++bytesP l:=by
 cases l with
 | nil=>exact absurd rfl h
 | cons p l=>simp [spP,bytesP]
theorem bytesP_one (p:Pc):bytesP (spP [p])=32 :: (p.lead++p.text):=by simp [spP,bytesP]
theorem parQ_ne {least:Int}{k:Int × List Pc}(h:k.2≠[]):parQ least k≠[]:=by
 unfold parQ
 split
 ·simp
 ·exact h
theorem bytesP_par {least op:Int}{q:List Pc}{t:List UInt8}(h:bytesP q=t):bytesP (parQ least (op,q))=parZ least (op,t):=by
 unfold parQ parZ
 split
 ·simp [bytesP,bytesP_append,sgnP,h]
 ·exact h
theorem commaQ_ne {t:List Pc}{l:List (List Pc)}(h:t≠[]):commaQ (t :: l)≠[]:=by
 cases l with
 | nil=>exact h
 | cons s l=>rw [commaQ];simp
theorem bytesP_comma:∀ (es:List PZ),(∀ x∈es,bytesP x.pcs=x.text∧x.pcs≠[])→bytesP (commaQ (es.map PZ.pcs))=commaZ (es.map PZ.text)
 | [],_=>rfl
 | [e],h=>(h e (by simp)).1
 | e :: f :: l,h=>by
  have ih:=bytesP_comma (f :: l) fun x hx=>h x (List.mem_cons_of_mem _ hx)
  have hf:=(h f (by simp)).2
  simp only [List.map_cons] at ih ⊢
  rw [commaQ,commaZ,bytesP_append,bytesP,bytesP_sp (commaQ_ne hf),ih,(h e (by simp)).1]
  simp [sgnP]
theorem PZ.bytes {fm:Bool}:∀ (n:Nat) (e:PZ),SizeOf.sizeOf e<n→e.right fm=true→bytesP e.pcs=e.text∧e.pcs≠[]
 | 0,_,h,_=>absurd h (by omega)
 | n+1,e,hs,hr=>by
  have R:=PZ.rightZ hr
  have ih:∀ x∈e.kids,bytesP x.pcs=x.text∧x.pcs≠[]:=fun x hx=>PZ.bytes n x (by have:=e.kids_sizeOf x hx;omega) (R.kids x hx)
  have F:=R.form
  rw [e.pcs_def,e.text_def]
  have hk:∀ i,(h:i<e.kids.length)→(pcsZ e.kids).getD i (0,[])=(e.kids[i].op,e.kids[i].pcs)∧(textsZ e.kids).getD i (0,[])=(e.kids[i].op,e.kids[i].text)∧bytesP e.kids[i].pcs=e.kids[i].text∧e.kids[i].pcs≠[]:=fun i h=>⟨pcsZ_get h,textsZ_get h,ih _ (List.getElem_mem h)⟩
  have hm:(pcsZ e.kids).map Prod.snd=e.kids.map PZ.pcs∧(textsZ e.kids).map Prod.snd=e.kids.map PZ.text:=by
   rw [pcsZ_map,textsZ_map];simp
  have hcm:=bytesP_comma e.kids ih
  generalize e.kids=ks at *
  generalize hn:ks.length=c at F
  generalize e.op=op at *
  cases F with
  | none h1 h2 =>
   have:op=1∨op=2∨op=3∨op=4:=by omega
   rcases this with rfl|rfl|rfl|rfl <;> simp [showQ,showF,bytesP,numP,wordP]
  | one h =>
   obtain ⟨a1,a2,a3,a4⟩:=hk 0 (by omega)
   rcases h with rfl|rfl
   ·simp only [showQ,showF]
    simp only [if_neg,if_pos,show ¬ (5:Int)=1 by decide,show ¬ (5:Int)=2 by decide,show ¬ (5:Int)=3 by decide,show ¬ (5:Int)=4 by decide,not_false_eq_true]
    rw [a1,a2,bytesP,bytesP_par a3]
    simp [sgnP]
   ·simp only [showQ,showF]
    simp only [if_neg,if_pos,show ¬ (6:Int)=1 by decide,show ¬ (6:Int)=2 by decide,show ¬ (6:Int)=3 by decide,show ¬ (6:Int)=4 by decide,show ¬ (6:Int)=5 by decide,not_false_eq_true]
    rw [a1,a2,bytesP,bytesP_sp (parQ_ne a4),bytesP_par a3]
    simp [wordP]
  | two h1 h2 =>
   obtain ⟨a1,a2,a3,a4⟩:=hk 0 (by omega)
   obtain ⟨b1,b2,b3,b4⟩:=hk 1 (by omega)
   have e1:∀ k:Int,(k≤6∨21≤k)→¬ op=k:=fun k hk q=>by omega
   simp only [showQ,showF]
   rw [if_neg (e1 1 (by omega)),if_neg (e1 2 (by omega)),if_neg (e1 3 (by omega)),if_neg (e1 4 (by omega)),if_neg (e1 5 (by omega)),if_neg (e1 6 (by omega)),if_neg (e1 21 (by omega)),if_neg (e1 22 (by omega)),if_neg (e1 23 (by omega)),if_neg (e1 24 (by omega)),
    if_neg (e1 1 (by omega)),if_neg (e1 2 (by omega)),if_neg (e1 3 (by omega)),if_neg (e1 4 (by omega)),if_neg (e1 5 (by omega)),if_neg (e1 6 (by omega)),if_neg (e1 21 (by omega)),if_neg (e1 22 (by omega)),if_neg (e1 23 (by omega)),if_neg (e1 24 (by omega)),a1,a2,b1,b2,bytesP_append,bytesP_append,bytesP_sp (by simp),bytesP_sp (parQ_ne b4),bytesP_par a3,bytesP_par b3]
   simp [bytesP,sgnP,spP]
  | iff =>
   obtain ⟨a1,a2,a3,a4⟩:=hk 0 (by omega)
   obtain ⟨b1,b2,b3,b4⟩:=hk 1 (by omega)
   obtain ⟨c1,c2,c3,c4⟩:=hk 2 (by omega)
   simp only [showQ,showF]
   simp only [if_neg,if_pos,show ¬ (21:Int)=1 by decide,show ¬ (21:Int)=2 by decide,show ¬ (21:Int)=3 by decide,show ¬ (21:Int)=4 by decide,show ¬ (21:Int)=5 by decide,show ¬ (21:Int)=6 by decide,not_false_eq_true]
   rw [a1,a2,b1,b2,c1,c2]
   simp only [bytesP,bytesP_append,bytesP_sp a4,bytesP_sp b4,bytesP_sp c4,a3,b3,c3,bytesP_one,wordP]
   simp
  | lett =>
   obtain ⟨a1,a2,a3,a4⟩:=hk 0 (by omega)
   obtain ⟨b1,b2,b3,b4⟩:=hk 1 (by omega)
   simp only [showQ,showF]
   simp only [if_neg,if_pos,show ¬ (22:Int)=1 by decide,show ¬ (22:Int)=2 by decide,show ¬ (22:Int)=3 by decide,show ¬ (22:Int)=4 by decide,show ¬ (22:Int)=5 by decide,show ¬ (22:Int)=6 by decide,show ¬ (22:Int)=21 by decide,not_false_eq_true]
   rw [a1,a2,b1,b2]
   simp only [bytesP,bytesP_append,bytesP_sp a4,bytesP_sp b4,a3,b3,bytesP_one,wordP,sgnP]
   simp
  | asrt =>
   obtain ⟨a1,a2,a3,a4⟩:=hk 0 (by omega)
   obtain ⟨b1,b2,b3,b4⟩:=hk 1 (by omega)
   simp only [showQ,showF]
   simp only [if_neg,if_pos,show ¬ (23:Int)=1 by decide,show ¬ (23:Int)=2 by decide,show ¬ (23:Int)=3 by decide,show ¬ (23:Int)=4 by decide,show ¬ (23:Int)=5 by decide,show ¬ (23:Int)=6 by decide,show ¬ (23:Int)=21 by decide,show ¬ (23:Int)=22 by decide,not_false_eq_true]
   rw [a1,a2,b1,b2]
   simp only [bytesP,bytesP_append,bytesP_sp a4,bytesP_sp b4,a3,b3,bytesP_one,wordP]
   simp
  | call h =>
   simp only [showQ,showF]
   simp only [if_neg,if_pos,show ¬ (24:Int)=1 by decide,show ¬ (24:Int)=2 by decide,show ¬ (24:Int)=3 by decide,show ¬ (24:Int)=4 by decide,show ¬ (24:Int)=5 by decide,show ¬ (24:Int)=6 by decide,show ¬ (24:Int)=21 by decide,show ¬ (24:Int)=22 by decide,show ¬ (24:Int)=23 by decide,not_false_eq_true]
   rw [hm.1,hm.2]
   simp only [bytesP,bytesP_append,hcm,wordP,sgnP]
   constructor
   ·split <;> simp [bytesP]
   ·simp
end Go.Proofs.YtdednahplodojaaGreatDoor

namespace Go.Proofs.YtdednahplodojaaGreatDoor
open Go.RowKit Go
mutual
def PZ.fit:PZ→Prop
 | .mk _ nm md num _ kids _=>nm.length≤65536∧md.length≤65536∧num.natAbs<10 ^ 60∧kids.length≤65536∧fitZ kids
def fitZ:List PZ→Prop
 | []=>True
 | e :: l=>e.fit∧fitZ l
end
theorem fitZ_mem:∀ {l:List PZ},fitZ l→∀ e∈l,e.fit
 | x :: l,h,e,hm=>by
  rw [fitZ] at h
  rcases List.mem_cons.1 hm with rfl|hm
  ·exact h.1
  ·exact fitZ_mem h.2 e hm
theorem PZ.fit_def {e:PZ}(h:e.fit):e.name.length≤65536∧e.module.length≤65536∧e.num.natAbs<10 ^ 60∧e.kids.length≤65536∧∀ x∈e.kids,x.fit:=by
 cases e
 rw [PZ.fit] at h
 exact ⟨h.1,h.2.1,h.2.2.1,h.2.2.2.1,fitZ_mem h.2.2.2.2⟩
theorem ZAt.slX {P:Nat→Prop}{w:World}{m k:Value}{x:PZ}(h:ZAt YA P w m k x):∃ am wn cm ae ce,m=.slice am wn cm∧k=.slice ae x.kids.length ce:=by
 obtain ⟨hnum,ae,ce,rfl,_,_⟩:=h.form
 obtain ⟨ws,hws,_⟩:=(hnum:NumAt _ _ _ _)
 obtain ⟨am,cm,rfl⟩:=hws.form
 exact ⟨am,_,cm,ae,ce,rfl,rfl⟩
def KidsZ (B:Nat)(w:World)(ae:Option Addr)(ks:List PZ):Prop:=0<ks.length→∃ b off,ae=some ⟨b,off,none⟩∧b<B∧b<w.heap.size∧∀ i,(hi:i<ks.length)→∃ am wn cm ak ck,ZAt YA (fun b=>b<B) w (.slice am wn cm) (.slice ak ks[i].kids.length ck) ks[i]∧∀ j u,(YA.cells ks[i] (.slice am wn cm) (.slice ak ks[i].kids.length ck))[j]?=some u→w.cell? ⟨b,off+i * 8+j,none⟩=some u
theorem ZAt.kidsZ {B:Nat}{w:World}{mv:Value}{ae:Option Addr}{ce:Nat}{e:PZ}(h:ZAt YA (fun b=>b<B) w mv (.slice ae e.kids.length ce) e):KidsZ B w ae e.kids:=by
 obtain ⟨_,ae',ce',hv,_,hf⟩:=h.form
 simp only [Value.slice.injEq] at hv
 obtain ⟨rfl,-,rfl⟩:=hv
 intro h0
 obtain ⟨b,off,h1,h2,h3,h4⟩:=hf h0
 refine ⟨b,off,h1,h2,h3,fun i hi=>?_⟩
 obtain ⟨m,k,h5,h6⟩:=h4 i hi
 obtain ⟨am,wn,cm,ak,ck,rfl,rfl⟩:=h5.slX
 exact ⟨am,wn,cm,ak,ck,h5,h6⟩
def AskZ (f:FuncId)(lb:Array Value)(p:PZ→Bool)(B:Nat)(w:World)(x:PZ):Prop:=∀ (W:World) (am:Option Addr) (wn cm:Nat) (ak:Option Addr) (ck:Nat),Below w.heap.size w W→ZAt YA (fun b=>b<B) W (.slice am wn cm) (.slice ak x.kids.length ck) x →
 Calls Tryz.prog f (#[.agg #[.int .i64 x.op,.string ⟨x.name.toArray⟩,.string ⟨x.module.toArray⟩,.bool (decide (x.num<0)),.slice am wn cm,.bool x.yes,.slice ak x.kids.length ck,.int .i64 x.at_]]++lb) W fun r w'=>r=.returned (.bool (p x))∧Below W.heap.size W w'
def idxZ (p:PZ→Bool):List PZ→Nat→Int
 | [],_=>-1
 | x :: l,k=>if p x=true then k else idxZ p l (k+1)
theorem idxZ_any (p:PZ→Bool):∀ (l:List PZ) (k:Nat),decide (0≤idxZ p l k)=l.any p
 | [],k=>rfl
 | x :: l,k=>by
  rw [idxZ,List.any_cons]
  split
  ·rename_i h;rw [h];exact decide_eq_true (by omega)
  ·rename_i h;rw [Bool.not_eq_true] at h;rw [h,idxZ_any p l];rfl
theorem idxZ_at {p:PZ→Bool}:∀ {ks:List PZ} {k:Nat} (j:Nat) (h:k<ks.length),(∀ i,i<k→(hi:i<ks.length)→p ks[i]=false)→idxZ p ks j=if p ks[k]=true then ((j+k:Nat):Int) else idxZ p (ks.drop (k+1)) (j+k+1)
 | x :: l,0,j,h,_=>by simp [idxZ]
 | x :: l,k+1,j,h,hf=>by
  have h0:=hf 0 (by omega) (by simp)
  have ih:=idxZ_at (p:=p) (ks:=l) (k:=k) (j+1) (by simpa using h) fun i hi hl=>by have:=hf (i+1) (by omega) (by simpa using hl);simpa using this
  rw [idxZ,if_neg (by simpa using h0),ih]
  simp only [List.getElem_cons_succ,List.drop_succ_cons]
  rw [show j+1+k=j+(k+1) by omega]
theorem idxZ_no {p:PZ→Bool}:∀ {ks:List PZ} (j:Nat),(∀ i,(hi:i<ks.length)→p ks[i]=false)→idxZ p ks j=-1
 | [],_,_=>rfl
 | x :: l,j,hf=>by
  have h0:=hf 0 (by simp)
  rw [idxZ,if_neg (by simpa using h0)]
  exact idxZ_no (j+1) fun i hi=>by have:=hf (i+1) (by simpa using hi);simpa using this
theorem indexZ_any (f:FuncId)(lb:Array Value)(p:PZ→Bool)(eg:∀ args w,(callFunc f args).run Tryz.prog w=.ok (.enter f args) w)(B:Nat)(ae:Option Addr)(ce:Nat)(ks:List PZ)(w:World)(hk:KidsZ B w ae ks)(hB:B≤w.heap.size)(hn:ks.length≤1099511627776)(ha:∀ x∈ks,AskZ f lb p B w x) :
  Calls Tryz.prog 142 #[.slice ae ks.length ce,.func (.func f) #[] lb] w fun r w'=>r=.returned (.int .i64 (idxZ p ks 0))∧Below w.heap.size w w':=by
 have HK:=Lib.hid hk
 have HA:=Lib.hid ha
 clear hk ha
 go_enter Tryz.func142,Tryz.ntmps142
 go_wp2
 go_loopw [5,8] (fun _ q wr=>∃ k:Nat,k≤ks.length∧q=.int .i64 k∧(∀ i,i<k→(hi:i<ks.length)→p ks[i]=false)∧Below w.heap.size w wr) (fun _ q _=>ks.length - (intOf q).toNat)
 case atStart=>exact ⟨0,Nat.zero_le _,rfl,fun i hi=>absurd hi (by omega),Below.refl _ _⟩
 case round =>
  obtain ⟨k,hkl,rfl,hno,hbl⟩:=hrel
  have hw:=hbl.size
  have HN:=Lib.hid hno
  clear hno
  by_cases hlt:k<ks.length
  ·obtain ⟨b,off,rfl,hbB,hbw,hkid⟩:=HK.out (by omega)
   obtain ⟨am,wn,cm,ak,ck,hE,hc⟩:=hkid k hlt
   have hA:=HA.out _ (List.getElem_mem hlt) wr am wn cm ak ck hbl (hE.frame (Alk.ofB hbl (fun b hb=>by omega)))
   have hix:=idxZ_at (p:=p) 0 hlt HN.out
   have hnx:p ks[k]=false→∀ i,i<k+1→(hi:i<ks.length)→p ks[i]=false:=fun q i hi hl=>by
    by_cases e:i=k
    ·subst e;exact q
    ·exact HN.out i (by omega) hl
   have y0:=(hbl.cell (p:=⟨b,off+k * 8,none⟩) hbw).trans (hc 0 _ rfl)
   have y1:=(hbl.cell (p:=⟨b,off+k * 8+1,none⟩) hbw).trans (hc 1 _ rfl)
   have y2:=(hbl.cell (p:=⟨b,off+k * 8+2,none⟩) hbw).trans (hc 2 _ rfl)
   have y3:=(hbl.cell (p:=⟨b,off+k * 8+3,none⟩) hbw).trans (hc 3 _ rfl)
   have y4:=(hbl.cell (p:=⟨b,off+k * 8+4,none⟩) hbw).trans (hc 4 _ rfl)
   have y5:=(hbl.cell (p:=⟨b,off+k * 8+5,none⟩) hbw).trans (hc 5 _ rfl)
   have y6:=(hbl.cell (p:=⟨b,off+k * 8+6,none⟩) hbw).trans (hc 6 _ rfl)
   have y7:=(hbl.cell (p:=⟨b,off+k * 8+7,none⟩) hbw).trans (hc 7 _ rfl)
   simp only [strV] at y1 y2
   have HX:=Lib.hid hix
   have HNX:=Lib.hid hnx
   clear hkid hc hE hix hnx
   generalize ks[k]=x at y0 y1 y2 y3 y4 y5 y6 y7 hA HX HNX
   have hkI:(k:Int)<(ks.length:Int):=by omega
   cases hq:p x with
   | true =>
    rw [hq] at hA
    have HX2:Hid (idxZ p ks 0=(k:Int)):=Lib.hid (by rw [HX.out,if_pos hq,Nat.zero_add])
    have HAA:=Lib.hid hA
    clear hA hq HX HNX
    go_wp2_with (go_at_fn f;refine HAA.out.mono ?_;rintro r w2 ⟨rfl,hb2⟩)
    go_ret
    exact ⟨ret_int (by rw [HX2.out]),hbl.trans (hb2.mono hw)⟩
   | false =>
    rw [hq] at hA
    have HNX2:=Lib.hid (HNX.out hq)
    have HAA:=Lib.hid hA
    clear hA hq HX HNX
    go_wp2_with (go_at_fn f;refine HAA.out.mono ?_;rintro r w2 ⟨rfl,hb2⟩)
    exact ⟨⟨k+1,by omega,by go_num,HNX2.out,hbl.trans (hb2.mono hw)⟩,by simp [intOf];omega⟩
  ·obtain rfl:k=ks.length:=by omega
   have hkI:decide ((ks.length:Int)<(ks.length:Int))=false:=decide_eq_false (by omega)
   have HX2:Hid (idxZ p ks 0=-1):=Lib.hid (idxZ_no 0 fun i hi=>HN.out i hi hi)
   clear HN
   go_wp2
   go_ret
   exact ⟨ret_int (by rw [HX2.out]),hbl⟩
theorem containsZ_any (f:FuncId)(lb:Array Value)(p:PZ→Bool)(eg:∀ args w,(callFunc f args).run Tryz.prog w=.ok (.enter f args) w)(B:Nat)(ae:Option Addr)(ce:Nat)(ks:List PZ)(w:World)(hk:KidsZ B w ae ks)(hB:B≤w.heap.size)(hn:ks.length≤1099511627776)(ha:∀ x∈ks,AskZ f lb p B w x) :
  Calls Tryz.prog 90 #[.slice ae ks.length ce,.func (.func f) #[] lb] w fun r w'=>r=.returned (.bool (ks.any p))∧Below w.heap.size w w':=by
 have HI:=Lib.hid (indexZ_any f lb p eg B ae ce ks w hk hB hn ha)
 have HY:=Lib.hid (idxZ_any p ks 0)
 clear hk ha hn hB eg
 generalize idxZ p ks 0=i at *
 go_enter Tryz.func90,Tryz.ntmps90
 go_wp2_with (go_at_call 142;refine HI.out.mono ?_;rintro r w2 ⟨rfl,hb2⟩)
 go_ret
 exact ⟨ret_bool (by rw [← HY.out]),hb2⟩
end Go.Proofs.YtdednahplodojaaGreatDoor

namespace Go.Proofs.YtdednahplodojaaGreatDoor
theorem fitZ_of:∀ {l:List PZ},(∀ x∈l,x.fit)→fitZ l
 | [],_=>by rw [fitZ];trivial
 | x :: l,h=>by
  rw [fitZ]
  exact ⟨h x List.mem_cons_self,fitZ_of fun y hy=>h y (List.mem_cons_of_mem _ hy)⟩
theorem takes_le (c:CellZ):c.takes≤9:=by
 unfold CellZ.takes
 split <;> (try split) <;> (try split) <;> (try split) <;> omega
theorem zedF_small (s:List UInt8):(zedF s).natAbs<10 ^ 60:=by
 unfold zedF
 simp only
 generalize (if s.head?=some 45 then s.drop 1 else s)=r
 have h0:(0:Int).natAbs<10 ^ 60:=by decide
 by_cases h1:60<r.length
 ·rw [if_pos h1];exact h0
 ·rw [if_neg h1]
  by_cases h2:r=[]∨digitsB r=false∨(r.head?=some 48∧(1<r.length∨s.head?=some 45))
  ·rw [if_pos h2];exact h0
  ·rw [if_neg h2]
   have hd:digitsB r=true:=by
    cases hh:digitsB r
    ·exact absurd (.inr (.inl hh)) h2
    ·rfl
   have hlt:decV r<10 ^ 60:=Nat.lt_of_lt_of_le (decV_lt r hd) (Nat.pow_le_pow_right (by omega) (by omega))
   split <;> omega
theorem stepZ_fit {l:List PZ}{c:CellZ}(hc:c.fits=true)(h:∀ x∈l,x.fit):∀ x∈stepZ l c,x.fit:=by
 intro x hx
 unfold CellZ.fits at hc
 simp only [Bool.and_eq_true,decide_eq_true_eq] at hc
 rw [stepZ] at hx
 rcases List.mem_append.1 hx with hx|hx
 ·exact h x (List.mem_of_mem_take hx)
 ·rw [List.mem_singleton] at hx
  subst hx
  rw [PZ.fit]
  refine ⟨by omega,by omega,?_,?_,fitZ_of fun y hy=>h y (List.mem_of_mem_drop hy)⟩
  ·split
   ·exact zedF_small _
   ·decide
  ·rw [List.length_drop]
   have:=takes_le c
   omega
theorem foldZ_fit:∀ (t:List CellZ) (l:List PZ),t.all CellZ.fits=true→(∀ x∈l,x.fit)→∀ x∈t.foldl stepZ l,x.fit
 | [],l,_,h=>h
 | c :: t,l,ht,h=>by
  rw [List.all_cons,Bool.and_eq_true] at ht
  rw [List.foldl_cons]
  exact foldZ_fit t _ ht.2 (stepZ_fit ht.1 h)
theorem bothF_fit {t:List CellZ}{e:PZ}(h:bothF t=some e):e.fit:=by
 unfold bothF at h
 split at h
 ·cases h
 ·split at h
  ·rename_i ht
   exact foldZ_fit t [] ht (fun x hx=>by cases hx) e (List.mem_of_getLast? h)
  ·cases h
theorem stepZ_len (l:List PZ)(c:CellZ):(stepZ l c).length=l.length - min c.takes l.length+1:=by
 rw [stepZ,List.length_append,List.length_take,List.length_singleton];omega
theorem foldZ_len:∀ (t:List CellZ) (l:List PZ),(t.foldl stepZ l).length≤l.length+t.length
 | [],l=>by simp
 | c :: t,l=>by
  rw [List.foldl_cons,List.length_cons]
  have h1:=foldZ_len t (stepZ l c)
  rw [stepZ_len] at h1
  omega
end Go.Proofs.YtdednahplodojaaGreatDoor

namespace Go.Proofs.YtdednahplodojaaGreatDoor
open Go.RowKit Go
def cellC (c:CellZ):Array Value:=#[.int .i64 c.op,.int .i64 c.kids,.string ⟨c.name.toArray⟩,.string ⟨c.module.toArray⟩,.string ⟨c.num.toArray⟩,.bool c.yes]
def boxC (op kd:Int)(NM MD NU:ByteArray)(ys:Bool):Array Value:=#[.int .i64 op,.int .i64 kd,.string NM,.string MD,.string NU,.bool ys]
theorem boxC_cells {w:World}{b:Nat}{op kd:Int}{NM MD NU:ByteArray}{ys:Bool}(h:w.heap[b]?=some (.cells (boxC op kd NM MD NU ys) 104 (0,0))) :
  w.cell? ⟨b,0,none⟩=some (.int .i64 op)∧w.cell? ⟨b,1,none⟩=some (.int .i64 kd)∧w.cell? ⟨b,2,none⟩=some (.string NM)∧w.cell? ⟨b,3,none⟩=some (.string MD)∧w.cell? ⟨b,4,none⟩=some (.string NU)∧w.cell? ⟨b,5,none⟩=some (.bool ys):=by
 refine ⟨?_,?_,?_,?_,?_,?_⟩ <;> (rw [Lib.cell_of_heap h];rfl)
theorem takes_any (op kd:Int)(nm md nu:List UInt8)(ys:Bool)(NM MD NU:ByteArray)(w:World) :
  Calls Tryz.prog 43 #[.agg #[.int .i64 op,.int .i64 kd,.string NM,.string MD,.string NU,.bool ys]] w fun r w'=>r=.returned (.int .i64 ((CellZ.mk op kd nm md nu ys).takes:Nat))∧Below w.heap.size w w':=by
 have hb0:=below_new w (.cells (boxC op kd NM MD NU ys) 104)
 unfold CellZ.takes
 simp only
 by_cases h1:op≤4
 ·rw [if_pos (.inl h1)]
  go_enter Tryz.func43,Tryz.ntmps43
  go_wp2
  go_ret
  exact ⟨rfl,hb0⟩
 by_cases h2:24<op
 ·rw [if_pos (.inr h2)]
  have h2':decide (24<op)=true:=decide_eq_true h2
  go_enter Tryz.func43,Tryz.ntmps43
  go_wp2
  go_ret
  exact ⟨rfl,hb0⟩
 rw [if_neg (by omega)]
 have h1':decide (op≤4)=false:=decide_eq_false h1
 have h2':decide (24<op)=false:=decide_eq_false h2
 by_cases h3:op≤6
 ·rw [if_pos h3]
  go_enter Tryz.func43,Tryz.ntmps43
  go_wp2
  go_ret
  exact ⟨rfl,hb0⟩
 rw [if_neg h3]
 have h3':decide (op≤6)=false:=decide_eq_false h3
 by_cases h4:op=21
 ·subst h4
  rw [if_pos rfl]
  go_enter Tryz.func43,Tryz.ntmps43
  go_wp2
  go_ret
  exact ⟨rfl,hb0⟩
 rw [if_neg h4]
 have h4':(op == 21)=false:=beq_eq_false_iff_ne.2 h4
 by_cases h5:op=24
 ·subst h5
  rw [if_pos rfl]
  go_enter Tryz.func43,Tryz.ntmps43
  go_wp2
  go_ret
  exact ⟨ret_int (by omega),hb0⟩
 rw [if_neg h5]
 have h5':(op == 24)=false:=beq_eq_false_iff_ne.2 h5
 go_enter Tryz.func43,Tryz.ntmps43
 go_wp2
 go_ret
 exact ⟨rfl,hb0⟩
def boxY (op:Int)(NM MD TX:ByteArray)(ys:Bool)(kv:Value)(a_:Int):Array Value:=#[.int .i64 op,.string NM,.string MD,.string TX,.bool ys,kv,.int .i64 a_]
theorem boxY_cells {w:World}{b:Nat}{op:Int}{NM MD TX:ByteArray}{ys:Bool}{kv:Value}{a_:Int}(h:w.heap[b]?=some (.cells (boxY op NM MD TX ys kv a_) 55 (0,0))) :
    w.cell? ⟨b,0,none⟩=some (.int .i64 op)∧w.cell? ⟨b,1,none⟩=some (.string NM)∧w.cell? ⟨b,2,none⟩=some (.string MD)∧w.cell? ⟨b,3,none⟩=some (.string TX)∧w.cell? ⟨b,4,none⟩=some (.bool ys)∧w.cell? ⟨b,5,none⟩=some kv∧w.cell? ⟨b,6,none⟩=some (.int .i64 a_):=by
  refine ⟨?_,?_,?_,?_,?_,?_,?_⟩ <;> (rw [Lib.cell_of_heap h];rfl)
def lvA:Array Value:=#[.int .i64 0,.int .i64 9,.int .i64 9,.int .i64 9,.int .i64 9,.int .i64 8,.int .i64 4,.int .i64 6,.int .i64 6,.int .i64 7,.int .i64 7,.int .i64 7,.int .i64 5,.int .i64 5,.int .i64 5,.int .i64 5,.int .i64 5,.int .i64 5,.int .i64 3,.int .i64 2,.int .i64 1,.int .i64 0,.int .i64 0,.int .i64 0,.int .i64 9]
theorem lvA_at:∀ k:Nat,k<25→0<k→lvA[k]?=some (.int .i64 (lvZ (k:Nat)))
  | 0,_,h=>absurd h (by omega)
  | 1,_,_=>rfl
  | 2,_,_=>rfl
  | 3,_,_=>rfl
  | 4,_,_=>rfl
  | 5,_,_=>rfl
  | 6,_,_=>rfl
  | 7,_,_=>rfl
  | 8,_,_=>rfl
  | 9,_,_=>rfl
  | 10,_,_=>rfl
  | 11,_,_=>rfl
  | 12,_,_=>rfl
  | 13,_,_=>rfl
  | 14,_,_=>rfl
  | 15,_,_=>rfl
  | 16,_,_=>rfl
  | 17,_,_=>rfl
  | 18,_,_=>rfl
  | 19,_,_=>rfl
  | 20,_,_=>rfl
  | 21,_,_=>rfl
  | 22,_,_=>rfl
  | 23,_,_=>rfl
  | 24,_,_=>rfl
  | k+25,h,_=>absurd h (by omega)
theorem rlevel_any (op:Int)(h1:1≤op)(h2:op≤24)(w:World):Calls Tryz.prog 89 #[.int .i64 op] w fun r w'=>r=.returned (.int .i64 (lvZ op))∧Below w.heap.size w w':=by
  have hx:(w.alloc (.cells lvA 211)).cell? ⟨w.heap.size,op.toNat,none⟩=some (.int .i64 (lvZ op)):=by
    rw [Lib.cell_of_heap (heap_alloc_new w _)]
    have:=lvA_at op.toNat (by omega) (by omega)
    rw [show ((op.toNat:Nat):Int)=op by omega] at this
    exact this
  have hal:=below_new w (.cells lvA 211)
  have h0:0≤op:=by omega
  have h25:op<25:=by omega
  generalize lvZ op=l at *
  go_enter Tryz.func89,Tryz.ntmps89
  apply wp_seq_k
  intro K0 hK0
  have HK:=Lib.hid hK0
  clear hK0
  go_wp2
  apply HK.out
  clear HK
  apply wp_seq_k
  intro K1 hK1
  apply wp_region_lit
  refine wpList_buildTo rfl 211 _ rfl (some 4) rfl lvA (by kernel_rfl) ?_
  refine Go.Great.wpList_allocTo rfl (some 3) rfl (.pointer (some ⟨w.heap.size,0,none⟩)) (.cells (Array.replicate 25 (.int .i64 0)) 211) rfl ?_
  refine wpList_store_rowTo rfl 211 _ _ rfl rfl w.heap.size lvA rfl rfl 211 _ (heap_alloc_new _ _) (by kernel_rfl) (by decide) (by kernel_rfl) ?_
  rw [World.setRow_alloc_new]
  apply wpList_nil
  apply hK1
  generalize w.alloc _=w1 at hx hal ⊢
  generalize lvA=la
  go_wp2
  go_ret
  exact ⟨rfl,hal⟩
theorem rnames_any (op:Int)(NM MD TX:ByteArray)(ys:Bool)(ae:Option Addr)(wk ce:Nat)(a_:Int)(w:World)(h1:NM.size≤1099511627776)(h2:MD.size≤1099511627776) :
    Calls Tryz.prog 46 #[.agg #[.int .i64 op,.string NM,.string MD,.string TX,.bool ys,.slice ae wk ce,.int .i64 a_]] w fun r w'=>r=.returned (.bool (namesB op NM.data.toList MD.data.toList))∧Below w.heap.size w w':=by
  have P1:=Lib.hid (fun W=>rplain_any NM W h1)
  have P2:=Lib.hid (fun W=>rplain_any MD W h2)
  obtain ⟨q1,q2⟩:=empty_two MD
  obtain ⟨q3,q4⟩:=empty_two NM
  have hN:namesB op NM.data.toList MD.data.toList=if op=3∨op=22 then plainB NM.data.toList && decide (MD.data.toList=[]) else if op=24 then plainB NM.data.toList && (decide (MD.data.toList=[]) || plainB MD.data.toList) else decide (NM.data.toList=[]) && decide (MD.data.toList=[]):=rfl
  rw [hN]
  clear hN
  generalize decide (MD.data.toList=[])=eM at *
  generalize decide (NM.data.toList=[])=eN at *
  generalize plainB NM.data.toList=pN at *
  generalize plainB MD.data.toList=pM at *
  obtain ⟨res,hres⟩:∃ res,res=if op=3∨op=22 then pN && eM else if op=24 then pN && (eM || pM) else eN && eM:=⟨_,rfl⟩
  rw [← hres]
  have HR:=Lib.hid hres
  clear hres
  have hb0:=below_new w (.cells (boxY op NM MD TX ys (.slice ae wk ce) a_) 55)
  have hB:=heap_alloc_new w (.cells (boxY op NM MD TX ys (.slice ae wk ce) a_) 55)
  have hs0:w.heap.size<(w.alloc (.cells (boxY op NM MD TX ys (.slice ae wk ce) a_) 55)).heap.size:=by simp
  go_enter Tryz.func46,Tryz.ntmps46
  go_upto_region 1 with fail
  change Code.wp _ _ _ _ (w.alloc (.cells (boxY op NM MD TX ys (.slice ae wk ce) a_) 55))
  generalize w.alloc _=w0 at hb0 hB hs0 ⊢
  obtain ⟨y0,y1,y2,-⟩:=boxY_cells hB
  by_cases h3:op=3∨op=22
  · rcases h3 with rfl|rfl <;> cases pN <;> cases eM <;>
      (go_wp2_with (go_at_call 59;refine (P1.out _).mono ?_;rintro r w1 ⟨rfl,hb1⟩;have z2:=(hb1.cell (p:=⟨w.heap.size,2,none⟩) hs0).trans y2)
       go_ret;exact ⟨ret_bool (by rw [HR.out];rfl),hb0.trans (hb1.mono hb0.size)⟩)
  · have H3:=Lib.hid h3
    have t3:(op == 3)=false:=beq_eq_false_iff_ne.2 fun q=>h3 (.inl q)
    have t22:(op == 22)=false:=beq_eq_false_iff_ne.2 fun q=>h3 (.inr q)
    by_cases h24:op=24
    · subst h24
      clear h3 t3 t22
      cases pN <;> cases eM <;> cases pM <;>
        (go_wp2_with (first|(go_at_call 59;(with_reducible refine (P1.out w0).mono ?_);rintro r w1 ⟨rfl,hb1⟩;have hs1:=hb1.size;have z2:=(hb1.cell (p:=⟨w.heap.size,2,none⟩) hs0).trans y2)|(go_at_call 59;(with_reducible refine (P2.out _).mono ?_);rintro r w2 ⟨rfl,hb2⟩))
         go_ret;first|exact ⟨ret_bool (by rw [HR.out];rfl),hb0.trans (hb1.mono hb0.size)⟩|exact ⟨ret_bool (by rw [HR.out];rfl),(hb0.trans (hb1.mono hb0.size)).trans (hb2.mono (by omega))⟩)
    · have H24:=Lib.hid h24
      have t24:(op == 24)=false:=beq_eq_false_iff_ne.2 h24
      clear h3 h24
      cases eN <;> cases eM <;> (go_wp2;go_ret;exact ⟨ret_bool (by rw [HR.out,if_neg H3.out,if_neg H24.out];rfl),hb0⟩)
theorem rcount_any (op:Int)(n:Nat)(w:World):Calls Tryz.prog 47 #[.int .i64 op,.int .i64 n] w fun r w'=>r=.returned (.bool (countB op n))∧w=w':=by
  have hc:countB op n=if op≤4 then decide (n=0) else if op≤6 then decide (n=1) else if op≤20∨op=22∨op=23 then decide (n=2) else if op=21 then decide (n=3) else decide (n≤8):=rfl
  rw [hc]
  clear hc
  have hb:∀ k:Nat,decide (n=k)=((n:Int) == (k:Int)):=fun k=>by
    by_cases q:n=k
    · subst q;rw [decide_eq_true rfl];exact (beq_self_eq_true _).symm
    · rw [decide_eq_false q];exact (beq_eq_false_iff_ne.2 (by omega)).symm
  have h8:decide (n≤8)=decide ((n:Int)≤8):=by by_cases q:n≤8 <;> simp <;> omega
  have e0:=hb 0
  have e1:=hb 1
  have e2:=hb 2
  have e3:=hb 3
  rw [e0,e1,e2,e3,h8]
  clear hb h8 e0 e1 e2 e3
  by_cases h4:op≤4
  · rw [if_pos h4]
    go_enter Tryz.func47,Tryz.ntmps47
    go_wp2;go_ret;exact ⟨rfl,rfl⟩
  rw [if_neg h4]
  have t4:4<op:=by omega
  by_cases h6:op≤6
  · rw [if_pos h6]
    go_enter Tryz.func47,Tryz.ntmps47
    go_wp2;go_ret;exact ⟨rfl,rfl⟩
  rw [if_neg h6]
  have t6:6<op:=by omega
  by_cases h20:op≤20
  · rw [if_pos (.inl h20)]
    go_enter Tryz.func47,Tryz.ntmps47
    go_wp2;go_ret;exact ⟨rfl,rfl⟩
  have t20:20<op:=by omega
  by_cases h22:op=22
  · subst h22
    rw [if_pos (.inr (.inl rfl))]
    go_enter Tryz.func47,Tryz.ntmps47
    go_wp2;go_ret;exact ⟨rfl,rfl⟩
  by_cases h23:op=23
  · subst h23
    rw [if_pos (.inr (.inr rfl))]
    go_enter Tryz.func47,Tryz.ntmps47
    go_wp2;go_ret;exact ⟨rfl,rfl⟩
  rw [if_neg (by rintro (h|h|h) <;> omega)]
  have t22:(op == 22)=false:=beq_eq_false_iff_ne.2 h22
  have t23:(op == 23)=false:=beq_eq_false_iff_ne.2 h23
  by_cases h21:op=21
  · subst h21
    rw [if_pos rfl]
    go_enter Tryz.func47,Tryz.ntmps47
    go_wp2;go_ret;exact ⟨rfl,rfl⟩
  rw [if_neg h21]
  have t21:(op == 21)=false:=beq_eq_false_iff_ne.2 h21
  clear h22 h23 h21
  go_enter Tryz.func47,Tryz.ntmps47
  go_wp2;go_ret;exact ⟨rfl,rfl⟩
end Go.Proofs.YtdednahplodojaaGreatDoor
