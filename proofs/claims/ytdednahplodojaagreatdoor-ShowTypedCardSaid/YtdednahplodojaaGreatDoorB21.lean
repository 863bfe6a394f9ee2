/- Walks and plain laws: RShowB, OwnQ. -/
import Derived.Test.YtdednahplodojaaGreatDoorB20
set_option maxHeartbeats 16000000
set_option maxRecDepth 100000
set_option linter.unusedVariables false
set_option linter.unusedSimpArgs false
namespace Go.Proofs.YtdednahplodojaaGreatDoor
open Go.RowKit Go
theorem ZAt.slY {P:Nat→Prop}{w:World}{m k:Value}{x:PZ}(h:ZAt YR P w m k x):∃ ae ce,k=.slice ae x.kids.length ce:=by
 obtain ⟨_,ae,ce,rfl,_,_⟩:=h.form
 exact ⟨ae,ce,rfl⟩
def KidsY (B:Nat)(w:World)(ae:Option Addr)(ks:List PZ):Prop:=0<ks.length→∃ b off,ae=some ⟨b,off,none⟩∧b<B∧b<w.heap.size∧∀ i,(hi:i<ks.length)→∃ m ak ck,ZAt YR (fun b=>b<B) w m (.slice ak ks[i].kids.length ck) ks[i]∧∀ j u,(YR.cells ks[i] m (.slice ak ks[i].kids.length ck))[j]?=some u→w.cell? ⟨b,off+i * 7+j,none⟩=some u
theorem ZAt.kidsY {B:Nat}{w:World}{mv:Value}{ae:Option Addr}{ce:Nat}{e:PZ}(h:ZAt YR (fun b=>b<B) w mv (.slice ae e.kids.length ce) e):KidsY B w ae e.kids:=by
 obtain ⟨_,ae',ce',hv,_,hf⟩:=h.form
 simp only [Value.slice.injEq] at hv
 obtain ⟨rfl,-,rfl⟩:=hv
 intro h0
 obtain ⟨b,off,h1,h2,h3,h4⟩:=hf h0
 refine ⟨b,off,h1,h2,h3,fun i hi=>?_⟩
 obtain ⟨m,k,h5,h6⟩:=h4 i hi
 obtain ⟨ak,ck,rfl⟩:=h5.slY
 exact ⟨m,ak,ck,h5,h6⟩
theorem KidsY.at {B:Nat}{w:World}{ae:Option Addr}{ks:List PZ}(h:KidsY B w ae ks){W:World}(hW:Below B w W){k:Nat}(hk:k<ks.length):∃ b off m ak ck,ae=some ⟨b,off,none⟩∧b<B∧ZAt YR (fun b=>b<B) W m (.slice ak ks[k].kids.length ck) ks[k] ∧
  W.cell? ⟨b,off+k * 7,none⟩=some (.int .i64 ks[k].op)∧W.cell? ⟨b,off+k * 7+1,none⟩=some (.string ⟨ks[k].name.toArray⟩)∧W.cell? ⟨b,off+k * 7+2,none⟩=some (.string ⟨ks[k].module.toArray⟩)∧W.cell? ⟨b,off+k * 7+3,none⟩=some (.string ⟨(intF ks[k].num).toArray⟩)∧W.cell? ⟨b,off+k * 7+4,none⟩=some (.bool ks[k].yes)∧W.cell? ⟨b,off+k * 7+5,none⟩=some (.slice ak ks[k].kids.length ck)∧W.cell? ⟨b,off+k * 7+6,none⟩=some (.int .i64 ks[k].at_):=by
 obtain ⟨b,off,h1,h2,h3,h4⟩:=h (by omega)
 obtain ⟨m,ak,ck,h5,h6⟩:=h4 k hk
 exact ⟨b,off,m,ak,ck,h1,h2,h5.frame (Alk.ofB hW (fun b hb=>hb)),(hW.cell (p:=⟨b,off+k * 7,none⟩) h2).trans (h6 0 _ rfl),(hW.cell (p:=⟨b,off+k * 7+1,none⟩) h2).trans (h6 1 _ rfl),(hW.cell (p:=⟨b,off+k * 7+2,none⟩) h2).trans (h6 2 _ rfl),(hW.cell (p:=⟨b,off+k * 7+3,none⟩) h2).trans (h6 3 _ rfl),(hW.cell (p:=⟨b,off+k * 7+4,none⟩) h2).trans (h6 4 _ rfl),(hW.cell (p:=⟨b,off+k * 7+5,none⟩) h2).trans (h6 5 _ rfl),(hW.cell (p:=⟨b,off+k * 7+6,none⟩) h2).trans (h6 6 _ rfl)⟩
theorem intF_head (n:Int):(intF n).head?=some 45↔n<0:=by
 unfold intF
 by_cases h:n<0
 ·simp [h]
 ·simp only [h,if_false,List.nil_append,iff_false]
  intro q
  have hd:=digits_in (n:=n.natAbs)
  cases hq:decF n.natAbs with
  | nil=>rw [hq] at q;cases q
  | cons c l =>
   rw [hq] at q hd
   simp only [List.head?_cons,Option.some.injEq] at q
   subst q
   rw [List.all_cons] at hd
   exact absurd hd (by simp [digitB])
theorem intF_zero (n:Int):intF n=[48]↔n=0:=by
 constructor
 ·intro h
  by_cases hn:n<0
  ·have:=(intF_head n).2 hn
   rw [h] at this
   cases this
  ·have:intF n=decF n.natAbs:=by unfold intF;rw [if_neg hn,List.nil_append]
   rw [this] at h
   have:=decF_zero h
   omega
 ·rintro rfl;simp [intF,decF]
theorem dec_not {p q:Prop}[Decidable p][Decidable q](h:p↔¬ q):decide p=!decide q:=by
 by_cases a:q
 ·rw [decide_eq_true a,decide_eq_false (fun b=>(h.1 b) a)];rfl
 ·rw [decide_eq_false a,decide_eq_true (h.2 a)];rfl
theorem bne_of {a b:Int}{t:Bool}(h:(a == b)=t):(a != b)=!t:=by rw [bne,h]
def RrDoes (fm:Bool)(e:PZ):Prop:=∀ (B:Nat) (m:Value) (ae:Option Addr) (ce:Nat) (w:World),ZAt YR (fun b=>b<B) w m (.slice ae e.kids.length ce) e→B≤w.heap.size →
  Calls Tryz.prog 21 #[.agg #[.int .i64 e.op,.string ⟨e.name.toArray⟩,.string ⟨e.module.toArray⟩,.string ⟨(intF e.num).toArray⟩,.bool e.yes,.slice ae e.kids.length ce,.int .i64 e.at_],.bool fm] w fun r w'=>r=.returned (.bool (e.right fm))∧Below w.heap.size w w'
theorem rights_take {fm:Bool}:∀ {l:List PZ} {k:Nat} (h:k<l.length),rightsZ fm (l.take k)=true→l[k].right fm=false→rightsZ fm l=false
 | x :: l,0,_,_,h=>by rw [rightsZ];simp only [List.getElem_cons_zero] at h;rw [h];rfl
 | x :: l,k+1,h,h1,h2=>by
  rw [List.take_succ_cons,rightsZ,Bool.and_eq_true] at h1
  rw [rightsZ,rights_take (l:=l) (k:=k) (by simpa using h) h1.2 (by simpa using h2),Bool.and_false]
theorem rights_succ {fm:Bool}:∀ {l:List PZ} {k:Nat} (h:k<l.length),rightsZ fm (l.take k)=true→l[k].right fm=true→rightsZ fm (l.take (k+1))=true
 | x :: l,0,_,_,h=>by rw [List.take_succ_cons,rightsZ];simp only [List.getElem_cons_zero] at h;rw [h];rfl
 | x :: l,k+1,h,h1,h2=>by
  rw [List.take_succ_cons,rightsZ,Bool.and_eq_true] at h1
  rw [List.take_succ_cons,rightsZ,h1.1,rights_succ (l:=l) (k:=k) (by simpa using h) h1.2 (by simpa using h2)];rfl
theorem rright_step (fm:Bool)(e:PZ)(hf:e.fit)(IH:∀ x∈e.kids,RrDoes fm x):RrDoes fm e:=by
 intro B m ae ce w h hB
 obtain ⟨f1,f2,f3,f4,-⟩:=PZ.fit_def hf
 have hky:=h.kidsY
 have hdef:e.right fm=(decide (1≤e.op) && (decide (e.op≤24) && (mayB fm e.op && (namesB e.op e.name e.module && (valuesB e.op e.num e.yes && (countB e.op e.kids.length && rightsZ fm e.kids)))))):=by
  rw [e.right_def,headB];simp only [Bool.and_assoc]
 obtain ⟨TX,hTX,eT⟩:=bytes_of (intF e.num)
 have hNA:=fun W=>rnames_any e.op ⟨e.name.toArray⟩ ⟨e.module.toArray⟩ TX e.yes ae e.kids.length ce e.at_ W (by show e.name.toArray.size≤_;simp;omega) (by show e.module.toArray.size≤_;simp;omega)
 have eN:namesB e.op (ByteArray.mk e.name.toArray).data.toList (ByteArray.mk e.module.toArray).data.toList=namesB e.op e.name e.module:=rfl
 rw [eN] at hNA
 have HNA:=Lib.hid hNA
 have HCA:=Lib.hid (fun W=>rcount_any e.op e.kids.length W)
 have HKY:=Lib.hid hky
 have HIH:=Lib.hid IH
 have ht0:0<TX.size:=by rw [← size_list,hTX];exact intF_pos e.num
 have hth:(((TX[0]'ht0).toNat:Int) == 45)=decide (e.num<0):=by
  obtain ⟨r,hr⟩:=head_cons ht0
  have h1:=intF_head e.num
  rw [← hTX,hr,List.head?_cons] at h1
  by_cases q:e.num<0
  ·rw [decide_eq_true q]
   have:=Option.some.inj (h1.2 q)
   rw [this];rfl
  ·rw [decide_eq_false q]
   refine beq_eq_false_iff_ne.2 fun q2=>q (h1.1 ?_)
   congr 1
   exact UInt8.toNat_inj.1 (show (TX[0]'ht0).toNat=45 by omega)
 have htz:(TX.toList == [48])=decide (e.num=0):=by
  rw [Go.ByteArray.toList_eq,hTX]
  have h1:=intF_zero e.num
  by_cases q:e.num=0
  ·rw [decide_eq_true q,beq_iff_eq];exact h1.2 q
  ·rw [decide_eq_false q,← Bool.not_eq_true,beq_iff_eq];exact fun q2=>q (h1.1 q2)
 have hval:valuesB e.op e.num e.yes=if e.op=1 then !decide (e.num<0) && !decide ((60:Int)<(TX.size:Int)) && !e.yes else decide (e.num=0) && (decide (e.op=2) || !e.yes):=by
  unfold valuesB
  rw [← hTX,size_list]
  have a1:decide (0≤e.num)=!decide (e.num<0):=dec_not (by omega)
  have a2:decide (TX.size≤60)=!decide ((60:Int)<(TX.size:Int)):=dec_not (by omega)
  rw [a1,a2]
 rw [show (ByteArray.mk (intF e.num).toArray)=TX from eT]
 have hmb:mayB fm e.op=if fm=true then decide (e.op≤20) else decide (e.op≠4):=rfl
 clear hNA eN hky IH hf f1 f2 f3 hTX eT h
 generalize decide (e.num<0)=sg at *
 generalize decide (e.num=0)=zr at *
 generalize hln:decide ((60:Int)<(TX.size:Int))=ln at *
 generalize namesB e.op e.name e.module=nb at *
 generalize valuesB e.op e.num e.yes=vb at *
 generalize mayB fm e.op=mb at *
 generalize e.right fm=res at *
 generalize countB e.op e.kids.length=cb at *
 generalize e.op=op at *
 generalize e.yes=ys at *
 have HD:=Lib.hid hdef
 have HV:=Lib.hid hval
 have HMB:=Lib.hid hmb
 clear hdef hval hmb
 have hbw:=below_new w (.cells (boxY op ⟨e.name.toArray⟩ ⟨e.module.toArray⟩ TX ys (.slice ae e.kids.length ce) e.at_) 55)
 have hN:=heap_alloc_new w (.cells (boxY op ⟨e.name.toArray⟩ ⟨e.module.toArray⟩ TX ys (.slice ae e.kids.length ce) e.at_) 55)
 go_enter Tryz.func21,Tryz.ntmps21
 go_upto_region 1 with fail
 change Code.wp _ _ _ _ (w.alloc (.cells (boxY op ⟨e.name.toArray⟩ ⟨e.module.toArray⟩ TX ys (.slice ae e.kids.length ce) e.at_) 55))
 generalize w.alloc _=w1 at hbw hN ⊢
 have HN:=Lib.hid hN
 have hl1:=(Array.getElem?_eq_some_iff.1 hN).1
 obtain ⟨y0,y1,y2,y3,y4,y5,y6⟩:=boxY_cells hN
 clear hN
 have fin:∀ W:World,res=false→Below w.heap.size w W→(Ending.returned (.bool false)=Ending.returned (.bool res)∧Below w.heap.size w W):=fun _ h1 h2=>⟨by rw [h1],h2⟩
 have HFIN:=Lib.hid fin
 clear fin
 have hz1:=hbw.size
 by_cases c1:op<1
 ·have hr:Hid (res=false):=Lib.hid (by rw [HD.out,decide_eq_false (by omega)];rfl)
  clear HD HV HMB HNA HCA HKY HIH
  go_wp2
  go_ret
  exact HFIN.out _ hr.out hbw
 by_cases c2:24<op
 ·have hr:Hid (res=false):=Lib.hid (by rw [HD.out,decide_eq_false (by omega:¬ op≤24)];cases decide (1≤op) <;> rfl)
  clear HD HV HMB HNA HCA HKY HIH
  go_wp2
  go_ret
  exact HFIN.out _ hr.out hbw
 have hD2:res=(mb && (nb && (vb && (cb && rightsZ fm e.kids)))):=by rw [HD.out,decide_eq_true (by omega),decide_eq_true (by omega)];rfl
 have HD2:=Lib.hid hD2
 clear hD2 HD
 have hmay:(fm=true∧decide (20<op)=!mb)∨(fm=false∧(op == 4)=!mb):=by
  cases fm with
  | true =>
   left
   refine ⟨rfl,?_⟩
   rw [HMB.out,if_pos rfl]
   exact dec_not (by omega)
  | false =>
   right
   refine ⟨rfl,?_⟩
   rw [HMB.out,if_neg (by decide)]
   by_cases q:op=4 <;> simp [q]
 clear HMB
 cases mb with
 | false =>
  have hr:Hid (res=false):=Lib.hid (by rw [HD2.out];rfl)
  clear HD2 HV HNA HCA HKY HIH
  rcases hmay with ⟨rfl,hm⟩|⟨rfl,hm⟩
  ·have hm2:20<op:=by simpa using hm
   clear hm
   go_wp2
   go_ret
   exact HFIN.out _ hr.out hbw
  ·obtain rfl:op=4:=by simpa using hm
   go_wp2
   go_ret
   exact HFIN.out _ hr.out hbw
 | true =>
 cases nb with
 | false =>
  have hr:Hid (res=false):=Lib.hid (by rw [HD2.out];rfl)
  clear HD2 HV HCA HKY HIH
  rcases hmay with ⟨rfl,hm⟩|⟨rfl,hm⟩
  ·have hm2:decide (20<op)=false:=hm
   clear hm
   go_wp2_with (go_at_call 46;refine (HNA.out _).mono ?_;rintro r w3 ⟨rfl,hb3⟩)
   go_ret
   exact HFIN.out _ hr.out (hbw.trans (hb3.mono hz1))
  ·have hm2:(op == 4)=false:=hm
   clear hm
   go_wp2_with (go_at_call 46;refine (HNA.out _).mono ?_;rintro r w3 ⟨rfl,hb3⟩)
   go_ret
   exact HFIN.out _ hr.out (hbw.trans (hb3.mono hz1))
 | true =>
 cases cb with
 | false =>
  have hr:Hid (res=false):=Lib.hid (by rw [HD2.out];cases vb <;> rfl)
  clear HD2 HV HKY HIH
  rcases hmay with ⟨rfl,hm⟩|⟨rfl,hm⟩
  ·have hm2:decide (20<op)=false:=hm
   clear hm
   go_wp2_with (first|(go_at_call 46;refine (HNA.out _).mono ?_;rintro r w3 ⟨rfl,hb3⟩;obtain ⟨z0,z1,z2,z3,z4,z5,z6⟩:=boxY_cells ((hb3.block w.heap.size hl1).trans HN.out))|(go_at_call 47;refine (HCA.out _).mono ?_;rintro r w4 ⟨rfl,rfl⟩))
   go_ret
   exact HFIN.out _ hr.out (hbw.trans (hb3.mono hz1))
  ·have hm2:(op == 4)=false:=hm
   clear hm
   go_wp2_with (first|(go_at_call 46;refine (HNA.out _).mono ?_;rintro r w3 ⟨rfl,hb3⟩;obtain ⟨z0,z1,z2,z3,z4,z5,z6⟩:=boxY_cells ((hb3.block w.heap.size hl1).trans HN.out))|(go_at_call 47;refine (HCA.out _).mono ?_;rintro r w4 ⟨rfl,rfl⟩))
   go_ret
   exact HFIN.out _ hr.out (hbw.trans (hb3.mono hz1))
 | true =>
 have HD3:Hid (res=(vb && rightsZ fm e.kids)):=Lib.hid (by rw [HD2.out];rfl)
 clear HD2
 go_cut [44] (fun s wc=>s=.bool false∧Below w1.heap.size w1 wc)
 case first =>
  rcases hmay with ⟨rfl,hm⟩|⟨rfl,hm⟩
  ·have hm2:decide (20<op)=false:=hm
   clear hm
   go_wp2_with (first|(go_at_call 46;refine (HNA.out _).mono ?_;rintro r w3 ⟨rfl,hb3⟩;obtain ⟨z0,z1,z2,z3,z4,z5,z6⟩:=boxY_cells ((hb3.block w.heap.size hl1).trans HN.out))|(go_at_call 47;refine (HCA.out _).mono ?_;rintro r w4 ⟨rfl,rfl⟩))
   go_meet
   exact ⟨rfl,hb3⟩
  ·have hm2:(op == 4)=false:=hm
   clear hm
   go_wp2_with (first|(go_at_call 46;refine (HNA.out _).mono ?_;rintro r w3 ⟨rfl,hb3⟩;obtain ⟨z0,z1,z2,z3,z4,z5,z6⟩:=boxY_cells ((hb3.block w.heap.size hl1).trans HN.out))|(go_at_call 47;refine (HCA.out _).mono ?_;rintro r w4 ⟨rfl,rfl⟩))
   go_meet
   exact ⟨rfl,hb3⟩
 case rest =>
  obtain ⟨rfl,hbc⟩:=hcut
  obtain ⟨wo,rfl⟩:∃ wo:World,wo=wc:=⟨_,rfl⟩
  have hNo:=(hbc.block w.heap.size hl1).trans HN.out
  have hlo:=(Array.getElem?_eq_some_iff.1 hNo).1
  have hbo:=hbw.trans (hbc.mono hz1)
  have HNo:=Lib.hid hNo
  clear y0 y1 y2 y3 y4 y5 y6 hmay HNA HCA hNo
  obtain ⟨y0,y1,y2,y3,y4,y5,y6⟩:=boxY_cells HNo.out
  have hfour:vb=false∧((op=1∧sg=true)∨(op=1∧sg=false∧ln=true)∨(op=1∧sg=false∧ln=false∧ys=true)∨(op≠1∧zr=false)∨(op≠1∧op≠2∧zr=true∧ys=true)) ∨
    vb=true∧((op=1∧sg=false∧ln=false∧ys=false)∨(op=2∧zr=true)∨(op≠1∧op≠2∧zr=true∧ys=false)):=by
   have hv:=HV.out
   by_cases o1:op=1
   ·rw [if_pos o1] at hv
    subst hv
    cases sg <;> cases ln <;> cases ys <;> simp [o1]
   ·rw [if_neg o1] at hv
    subst hv
    by_cases o2:op=2
    ·cases zr <;> cases ys <;> simp [o1,o2]
    ·cases zr <;> cases ys <;> simp [o1,o2]
  clear HV
  rcases hfour with ⟨rfl,h⟩|⟨rfl,h⟩
  ·have hr:Hid (res=false):=Lib.hid (by rw [HD3.out];rfl)
   clear HD3 HKY HIH
   rcases h with ⟨rfl,rfl⟩|⟨rfl,rfl,rfl⟩|⟨rfl,rfl,rfl,rfl⟩|⟨h1,rfl⟩|⟨h1,h2,rfl,rfl⟩
   ·go_wp2
    go_ret
    exact HFIN.out _ hr.out hbo
   ·go_wp2
    go_ret
    exact HFIN.out _ hr.out hbo
   ·go_wp2
    go_ret
    exact HFIN.out _ hr.out hbo
   ·have t1:(op == 1)=false:=beq_eq_false_iff_ne.2 h1
    have n1:(op != 1)=true:=by rw [bne,t1];rfl
    clear h1
    go_wp2
    go_ret
    exact HFIN.out _ hr.out hbo
   ·have t1:(op == 1)=false:=beq_eq_false_iff_ne.2 h1
    have t2:(op == 2)=false:=beq_eq_false_iff_ne.2 h2
    have n1:(op != 1)=true:=by rw [bne,t1];rfl
    have n2:(op != 2)=true:=by rw [bne,t2];rfl
    clear h1 h2
    go_wp2
    go_ret
    exact HFIN.out _ hr.out hbo
  ·have HD4:Hid (res=rightsZ fm e.kids):=Lib.hid (by rw [HD3.out];rfl)
   clear HD3
   have ht:((op == 1)=true∧sg=false∧ln=false∧ys=false∧(op == 2)=false)∨((op == 1)=false∧zr=true∧((op == 2)=true∨((op == 2)=false∧ys=false))):=by
    rcases h with ⟨rfl,rfl,rfl,rfl⟩|⟨rfl,rfl⟩|⟨h1,h2,rfl,rfl⟩
    ·exact .inl ⟨rfl,rfl,rfl,rfl,rfl⟩
    ·exact .inr ⟨rfl,rfl,.inl rfl⟩
    ·exact .inr ⟨beq_eq_false_iff_ne.2 h1,rfl,.inr ⟨beq_eq_false_iff_ne.2 h2,rfl⟩⟩
   clear h
   go_upto_region 3 with fail
   go_cut [48,59] (fun s t wc=>t=.bool false∧wo=wc)
   case first =>
    rcases ht with ⟨t1,rfl,rfl,rfl,t2⟩|⟨t1,rfl,t2⟩
    ·have n1:=bne_of t1
     go_wp2
     go_meet
     exact ⟨rfl,rfl⟩
    ·have n1:=bne_of t1
     go_wp2
     go_meet
     exact ⟨rfl,rfl⟩
   case rest =>
   obtain ⟨rfl,rfl⟩:=hcut
   go_upto_region 5 with fail
   go_cut [76] (fun s wc=>s=.bool false∧wo=wc)
   case first =>
    rcases ht with ⟨t1,rfl,rfl,rfl,t2⟩|⟨t1,rfl,t2|⟨t2,rfl⟩⟩
    ·have n1:=bne_of t1
     have n2:=bne_of t2
     go_wp2
     go_meet
     exact ⟨rfl,rfl⟩
    ·have n1:=bne_of t1
     have n2:=bne_of t2
     go_wp2
     go_meet
     exact ⟨rfl,rfl⟩
    ·have n1:=bne_of t1
     have n2:=bne_of t2
     go_wp2
     go_meet
     exact ⟨rfl,rfl⟩
   case rest =>
   obtain ⟨rfl,rfl⟩:=hcut
   go_wp2
   go_loopw [5] (fun q wr=>∃ k:Nat,k≤e.kids.length∧q=.int .i64 k∧rightsZ fm (e.kids.take k)=true∧Below wo.heap.size wo wr) (fun q _=>e.kids.length - (intOf q).toNat)
   case atStart=>exact ⟨0,Nat.zero_le _,rfl,rfl,Below.refl _ _⟩
   case round =>
    obtain ⟨k,hk,rfl,hrk,hbl⟩:=hrel
    have hwz:=hbl.size
    have hbr:=hbo.trans (hbl.mono hbo.size)
    have HRK:=Lib.hid hrk
    clear hrk y0 y1 y2 y3 y4 y5 y6
    obtain ⟨-,-,-,-,-,y5,-⟩:=boxY_cells ((hbl.block w.heap.size hlo).trans HNo.out)
    by_cases hlt:k<e.kids.length
    ·obtain ⟨kb,off,m1,ak1,ck1,rfl,hkB,hE,x0,x1,x2,x3,x4,x5,x6⟩:=HKY.out.at (hbr.mono hB) hlt
     have hX:=HIH.out _ (List.getElem_mem hlt) B m1 ak1 ck1 wr hE (Nat.le_trans hB hbr.size)
     have hno:=rights_take hlt HRK.out
     have hye:=rights_succ hlt HRK.out
     have HNO:=Lib.hid hno
     have HYE:=Lib.hid hye
     generalize e.kids[k]=x at *
     have hkI:(k:Int)<(e.kids.length:Int):=by omega
     clear hE hno hye
     cases hq:x.right fm with
     | true =>
      rw [hq] at hX
      have HX:=Lib.hid hX
      have HY2:=Lib.hid (HYE.out hq)
      clear hX hq HNO HYE
      go_wp2_with (go_at_call 21;refine HX.out.mono ?_;rintro r w5 ⟨rfl,hb5⟩)
      exact ⟨⟨k+1,by omega,by go_num,HY2.out,hbl.trans (hb5.mono hwz)⟩,by simp [intOf];omega⟩
     | false =>
      rw [hq] at hX
      have HX:=Lib.hid hX
      have HR2:Hid (res=false):=Lib.hid (by rw [HD4.out];exact HNO.out hq)
      clear hX hq HNO HYE
      go_wp2_with (go_at_call 21;refine HX.out.mono ?_;rintro r w5 ⟨rfl,hb5⟩)
      go_ret
      exact HFIN.out _ HR2.out (hbr.trans (hb5.mono hbr.size))
    ·obtain rfl:k=e.kids.length:=by omega
     have hkI:decide ((e.kids.length:Int)<(e.kids.length:Int))=false:=decide_eq_false (by omega)
     have HR2:Hid (res=true):=Lib.hid (by rw [HD4.out];rw [List.take_length] at HRK;exact HRK.out)
     go_wp2
     go_ret
     exact ⟨ret_bool (by rw [HR2.out]),hbr⟩
theorem rrightZ_any (fm:Bool):∀ (n:Nat) (e:PZ),SizeOf.sizeOf e<n→e.fit→RrDoes fm e
 | 0,_,h,_=>absurd h (by omega)
 | n+1,e,hs,hf=>rright_step fm e hf fun x hx=>rrightZ_any fm n x (by have:=e.kids_sizeOf x hx;omega) ((PZ.fit_def hf).2.2.2.2 x hx)
def OwnQ {α β:Type}(K:RK α β)(Q:Nat→Prop)(C e:Nat)(w:World)(v:Value)(zs:List α):Prop :=
 ∃ l:List (α × β),l.map Prod.fst=zs∧w.ownsRow C e K.sz v zs.length (K.flat l)∧∀ p∈l,K.inn (fun b=>Q b∧some b≠v.ownBlock) w p.1 p.2
section
variable {α β:Type}
theorem OwnQ.nil (K:RK α β)(Q:Nat→Prop)(C e:Nat)(w:World):OwnQ K Q C e w (.slice none 0 0) []:=⟨[],rfl,World.ownsRow_nil _ _ _ _,fun p hp=>by cases hp⟩
theorem OwnQ.below {K:RK α β}{Q:Nat→Prop}{C e:Nat}{w w':World}{v:Value}{zs:List α}(h:OwnQ K Q C e w v zs)(hb:Below w.heap.size w w'):OwnQ K Q C e w' v zs:=by
 obtain ⟨l,h1,h2,h3⟩:=h
 exact ⟨l,h1,own_below h2 hb,fun p hp=>K.frame (h3 p hp) (Alk.of hb)⟩
theorem OwnQ.set {K:RK α β}{Q:Nat→Prop}{C e:Nat}{w:World}{v:Value}{zs:List α}(h:OwnQ K Q C e w v zs){a:Addr}(ha:a.block<C)(hq:¬ Q a.block)(u:Value):OwnQ K Q C e (w.setCell a u) v zs:=by
 obtain ⟨l,h1,h2,h3⟩:=h
 refine ⟨l,h1,own_set h2 (fun q=>?_) u,fun p hp=>K.frame (h3 p hp) (Alk.set u fun b hb=>fun q=>hq (by rw [← q];exact hb.1))⟩
 have:=(h2.lt a.block q.symm).1
 omega
theorem OwnQ.row {K:RK α β}{Q R:Nat→Prop}{C e:Nat}{w:World}{v:Value}{zs:List α}(h:OwnQ K Q C e w v zs)(hR:∀ b,C≤b→R b)(hQ:∀ b,Q b→b<w.heap.size→R b):RowK K R w v zs:=by
 obtain ⟨l,h1,h2,h3⟩:=h
 exact ⟨l,h1,SlP.ofOwns h2 hR,fun p hp=>K.imp (h3 p hp) fun b hb hl=>hQ b hb.1 hl⟩
theorem OwnQ.slice {K:RK α β}{Q:Nat→Prop}{C e:Nat}{w:World}{v:Value}{zs:List α}(h:OwnQ K Q C e w v zs):∃ ao cap,v=.slice ao zs.length cap :=
 (h.row (R:=fun _=>True) (fun _ _=>trivial) (fun _ _ _=>trivial)).slice
theorem OwnQ.snoc {K:RK α β}{Q:Nat→Prop}{C e:Nat}{w w':World}{kv kv':Value}{zs:List α}{a:α}{x:β}{g H:Nat}{l:List (α × β)}(h1:l.map Prod.fst=zs)(h2:∀ p∈l,K.inn (fun b=>Q b∧some b≠kv.ownBlock) w p.1 p.2)(hx:K.inn (fun b=>Q b∧some b≠kv.ownBlock) w a x)
  (hown:w'.ownsRow C e K.sz kv' (zs.length+1) (K.flat l++K.cells a x)) (hgrow:w.grownBy w' kv.ownBlock) (hv:kv'.ownBlock=some g) (hor:kv.ownBlock=some g∨g=H) (hH:w.heap.size≤H):OwnQ K Q C e w' kv' (zs++[a]):=by
 have himp:∀ b,(Q b∧some b≠kv.ownBlock)→b<w.heap.size→((Q b∧some b≠kv'.ownBlock)∧some b≠kv.ownBlock):=fun b hb hlt=>by
  refine ⟨⟨hb.1,fun q=>?_⟩,hb.2⟩
  rw [hv] at q
  simp only [Option.some.injEq] at q
  rcases hor with h|h
  ·exact hb.2 (by rw [h,q])
  ·omega
 have hall:∀ {a:α} {x:β},K.inn (fun b=>Q b∧some b≠kv.ownBlock) w a x→K.inn (fun b=>Q b∧some b≠kv'.ownBlock) w' a x:=fun h =>
  K.imp (K.frame (K.imp h himp) (Alk.grown hgrow fun b hb=>hb.2)) fun b hb _=>hb.1
 refine ⟨l++[(a,x)],by rw [List.map_append,h1];rfl,?_,fun p hp=>?_⟩
 ·rw [K.flat_snoc,List.length_append,List.length_singleton];exact hown
 ·rcases List.mem_append.1 hp with hp|hp
  ·exact hall (h2 p hp)
  ·rw [List.mem_singleton] at hp
   subst hp
   exact hall hx
theorem OwnQ.round {K:RK α β}{Q:Nat→Prop}{e be:Nat}{w1 wr W2 w5:World}{o:Obj}{kv kv5:Value}{acc:List α}{a:α}{x:β}{l:List (α × β)}{gg:Nat}(halk:Alk (fun b=>b<w1.heap.size∧b≠be) w1 wr)(hbe:be<w1.heap.size)(hQ:¬ Q be)
  (h1:l.map Prod.fst=acc) (hown:wr.ownsRow w1.heap.size e K.sz kv acc.length (K.flat l)) (hes:∀ p∈l,K.inn (fun b=>Q b∧some b≠kv.ownBlock) wr p.1 p.2) (hx:K.inn (fun b=>Q b∧some b≠kv.ownBlock) W2 a x) (hb2:Below wr.heap.size wr W2)
  (hown5:w5.ownsRow w1.heap.size e K.sz kv5 (acc.length+1) (K.flat l++K.cells a x)) (hgrow:(W2.alloc o).grownBy w5 kv.ownBlock) (hv5:kv5.ownBlock=some gg) (hat:kv.ownBlock=some gg∨gg=W2.heap.size+1) (off:Nat) (u:Value) :
  OwnQ K Q w1.heap.size e (w5.setCell ⟨be,off,none⟩ u) kv5 (acc++[a])∧Alk (fun b=>b<w1.heap.size∧b≠be) w1 (w5.setCell ⟨be,off,none⟩ u)∧∀ (B:Nat) (w0:World),B≤be→Below B w0 wr→Below B w0 (w5.setCell ⟨be,off,none⟩ u):=by
 have hz1:=halk.1
 have hz2:=hb2.size
 have hb3:Below wr.heap.size wr (W2.alloc o):=hb2.alloc hz2 _
 have hlt:∀ b,some b=kv.ownBlock→w1.heap.size≤b∧b<wr.heap.size:=fun b q=>⟨(hown.lt b q.symm).1,(hown.lt b q.symm).2⟩
 have hx2:K.inn (fun b=>Q b∧some b≠kv.ownBlock) (W2.alloc o) a x:=K.frame hx ⟨by simp,fun b _ hb=>Lib.alloc_old _ _ _ hb⟩
 have hrow:=OwnQ.snoc (K:=K) (w:=W2.alloc o) h1 (fun p hp=>K.frame (hes p hp) (Alk.of hb3)) hx2 hown5 hgrow hv5 hat (by simp)
 refine ⟨hrow.set hbe hQ u,?_,fun B w0 hB hb0=>?_⟩
 ·refine ((halk.trans (Alk.ofB hb3 fun b hb=>by omega)).trans (Alk.grown hgrow fun b hb q=>?_)).trans (Alk.set u fun b hb=>hb.2)
  have:=(hlt b q).1
  omega
 ·have hsz:=hb0.size
  exact ((hb0.trans (hb3.mono (by omega))).grown hgrow (by simp;omega) (fun b q=>by have:=(hlt b q.symm).1;omega)).setCell hB _
end
end Go.Proofs.YtdednahplodojaaGreatDoor
