/- Walks and plain laws: ShowD, ShowLaws, PrintOk. -/
import Derived.Test.YtdednahplodojaaGreatDoorB19
set_option maxHeartbeats 16000000
set_option maxRecDepth 100000
set_option linter.unusedVariables false
set_option linter.unusedSimpArgs false
namespace Go.Proofs.YtdednahplodojaaGreatDoor
open Go.RowKit Go
def RtDoes (fm:Bool)(e:PZ):Prop:=∀ (B:Nat) (am:Option Addr) (wn cm:Nat) (ae:Option Addr) (ce:Nat) (w:World),ZAt YA (fun b=>b<B) w (.slice am wn cm) (.slice ae e.kids.length ce) e→B≤w.heap.size→e.kids.length≤1099511627776 →
  Calls Tryz.prog 87 #[.agg #[.int .i64 e.op,.string ⟨e.name.toArray⟩,.string ⟨e.module.toArray⟩,.bool (decide (e.num<0)),.slice am wn cm,.bool e.yes,.slice ae e.kids.length ce,.int .i64 e.at_],.int .i64 (if fm=true then 0 else 1)] w fun r w'=>r=.returned (.bool (e.right fm))∧Below w.heap.size w w'
theorem rightc_any (fm:Bool)(x:PZ)(hx:RtDoes fm x)(hz:x.kids.length≤1099511627776)(B kb:Nat)(w:World)(hk:w.cell? ⟨kb,0,none⟩=some (.int .i64 (if fm=true then 0 else 1)))(hkl:kb<w.heap.size)(hB:B≤w.heap.size) :
  AskZ 137 #[.pointer (some ⟨kb,0,none⟩)] (fun x=>!x.right fm) B w x:=by
 intro W am wn cm ak ck hW hE
 have hs:=hW.size
 have hbx:=below_new W (.cells (boxZ x.op ⟨x.name.toArray⟩ ⟨x.module.toArray⟩ (decide (x.num<0)) (.slice am wn cm) x.yes (.slice ak x.kids.length ck) x.at_) 40)
 have HX:=Lib.hid (hx B am wn cm ak ck (W.alloc (.cells (boxZ x.op ⟨x.name.toArray⟩ ⟨x.module.toArray⟩ (decide (x.num<0)) (.slice am wn cm) x.yes (.slice ak x.kids.length ck) x.at_) 40)) (hE.frame (Alk.of hbx)) (by simp;omega) hz)
 have hk1:=((hW.cell (p:=⟨kb,0,none⟩) hkl).trans hk)
 have hk2:=(hbx.cell (p:=⟨kb,0,none⟩) (by show kb<_;omega)).trans hk1
 have hN:=heap_alloc_new W (.cells (boxZ x.op ⟨x.name.toArray⟩ ⟨x.module.toArray⟩ (decide (x.num<0)) (.slice am wn cm) x.yes (.slice ak x.kids.length ck) x.at_) 40)
 show Calls _ _ #[_,_] _ fun r w'=>r=.returned (.bool (!x.right fm))∧Below W.heap.size W w'
 generalize (if fm=true then (0:Int) else 1)=kd at *
 generalize x.right fm=rb at *
 clear hx hE hk hk1 hz
 go_enter Tryz.func137,Tryz.ntmps137
 go_upto_region 1 with fail
 change Code.wp _ _ _ _ (W.alloc (.cells (boxZ x.op ⟨x.name.toArray⟩ ⟨x.module.toArray⟩ (decide (x.num<0)) (.slice am wn cm) x.yes (.slice ak x.kids.length ck) x.at_) 40))
 generalize W.alloc _=w0 at hbx hN hk2 HX ⊢
 obtain ⟨y0,y1,y2,y3,y4,y5,y6,y7⟩:=boxZ_cells hN
 go_wp2_with (go_at_call 87;refine HX.out.mono ?_;rintro r w1 ⟨rfl,hb1⟩)
 go_ret
 exact ⟨rfl,hbx.trans (hb1.mono hbx.size)⟩
theorem kids_count {op:Int}{n:Nat}(h1:1≤op)(h2:op≤24):(0≤kidsN op∧countB op n=decide ((n:Int)=kidsN op)∧kidsN op≤3)∨(kidsN op=-1∧countB op n=decide (n≤8)):=by
 unfold kidsN countB
 by_cases h4:op≤4
 ·left;simp only [if_pos h4];refine ⟨by omega,?_,by omega⟩;congr 1;exact propext (by omega)
 by_cases h6:op≤6
 ·left;simp only [if_neg h4,if_pos h6];refine ⟨by omega,?_,by omega⟩;congr 1;exact propext (by omega)
 by_cases h20:op≤20∨op=22∨op=23
 ·left;simp only [if_neg h4,if_neg h6,if_pos h20];refine ⟨by omega,?_,by omega⟩;congr 1;exact propext (by omega)
 by_cases h21:op=21
 ·left;simp only [if_neg h4,if_neg h6,if_neg h20,if_pos h21];refine ⟨by omega,?_,by omega⟩;congr 1;exact propext (by omega)
 ·right;refine ⟨?_,?_⟩ <;> simp only [if_neg h4,if_neg h6,if_neg h20,if_neg h21]
theorem rights_any (fm:Bool):∀ l:List PZ,rightsZ fm l=!(l.any fun x=>!x.right fm)
 | []=>rfl
 | e :: l=>by rw [rightsZ,rights_any fm l,List.any_cons];cases e.right fm <;> simp
theorem rightZ_step (fm:Bool)(e:PZ)(hf:e.fit)(IH:∀ x∈e.kids,RtDoes fm x∧x.kids.length≤1099511627776):RtDoes fm e:=by
 intro B am wn cm ae ce w h hB hkl
 obtain ⟨f1,f2,f3,-,-⟩:=PZ.fit_def hf
 have hnum:NumAt (fun b=>b<B) w e.num (.slice am wn cm):=h.form.1
 have hkz:=h.kidsZ
 have hdef:e.right fm=(decide (1≤e.op) && (decide (e.op≤24) && (mayB fm e.op && (namesB e.op e.name e.module && (valuesB e.op e.num e.yes && (countB e.op e.kids.length && rightsZ fm e.kids)))))):=by
  rw [e.right_def,headB];simp only [Bool.and_assoc]
 have HM:=Lib.hid (fun W=>may_any e.op fm W)
 have HK:=Lib.hid (fun W=>kids_any e.op W)
 have hNA:=fun W=>names_any e.op ⟨e.name.toArray⟩ ⟨e.module.toArray⟩ (decide (e.num<0)) am wn cm e.yes ae e.kids.length ce e.at_ W (by show e.name.toArray.size≤_;simp;omega) (by show e.module.toArray.size≤_;simp;omega)
 have hVA:=fun W (hW:Below w.heap.size w W)=>values_any (fun b=>b<B) e.op ⟨e.name.toArray⟩ ⟨e.module.toArray⟩ e.num am wn cm e.yes ae e.kids.length ce e.at_ W (YA.frame hnum (Alk.of hW)) f3
 have HNA:=Lib.hid hNA
 have HVA:=Lib.hid hVA
 have hCT:=fun (W:World) (kb:Nat) (hW:Below w.heap.size w W) (hk:W.cell? ⟨kb,0,none⟩=some (.int .i64 (if fm=true then 0 else 1))) (hkl':kb<W.heap.size)=>containsZ_any 137 #[.pointer (some ⟨kb,0,none⟩)] (fun x=>!x.right fm) (enters_of Tryz.func137 (by kernel_rfl) rfl) B ae ce e.kids W (fun h0=>by
   obtain ⟨b,off,q1,q2,q3,q4⟩:=hkz h0
   refine ⟨b,off,q1,q2,Nat.lt_of_lt_of_le q3 hW.size,fun i hi=>?_⟩
   obtain ⟨am',wn',cm',ak',ck',q5,q6⟩:=q4 i hi
   exact ⟨am',wn',cm',ak',ck',q5.frame (Alk.of hW),fun j u hu=>(hW.cell (p:=⟨b,off+i * 8+j,none⟩) q3).trans (q6 j u hu)⟩) (by have:=hW.size;omega) hkl fun x hx=>rightc_any fm x (IH x hx).1 (IH x hx).2 B kb W hk hkl' (by have:=hW.size;omega)
 have HCT:=Lib.hid hCT
 rw [rights_any] at hdef
 have hkc:=kids_count (op:=e.op) (n:=e.kids.length)
 clear hNA hVA hCT hnum hkz h IH hf f1 f2 f3
 have eN:namesB e.op (ByteArray.mk e.name.toArray).data.toList (ByteArray.mk e.module.toArray).data.toList=namesB e.op e.name e.module:=rfl
 rw [eN] at HNA
 clear eN
 generalize namesB e.op e.name e.module=nb at *
 generalize valuesB e.op e.num e.yes=vb at *
 generalize mayB fm e.op=mb at *
 generalize (if fm=true then (0:Int) else 1)=kd at *
 generalize e.right fm=res at *
 generalize (e.kids.any fun x=>!x.right fm)=an at *
 have HD:=Lib.hid hdef
 have HKC:=Lib.hid hkc
 clear hdef hkc
 generalize decide (e.num<0)=ng at *
 generalize e.op=op at *
 generalize e.kids.length=nk at *
 generalize countB op nk=cb at *
 generalize kidsN op=kn at *
 have hbw:=(below_new w (.cells (boxZ op ⟨e.name.toArray⟩ ⟨e.module.toArray⟩ ng (.slice am wn cm) e.yes (.slice ae nk ce) e.at_) 40)).alloc (by simp) (.cells #[.int .i64 kd] 109)
 have hN:=(Lib.alloc_old (w.alloc (.cells (boxZ op ⟨e.name.toArray⟩ ⟨e.module.toArray⟩ ng (.slice am wn cm) e.yes (.slice ae nk ce) e.at_) 40)) (.cells #[.int .i64 kd] 109) w.heap.size (by simp)).trans (heap_alloc_new w (.cells (boxZ op ⟨e.name.toArray⟩ ⟨e.module.toArray⟩ ng (.slice am wn cm) e.yes (.slice ae nk ce) e.at_) 40))
 have hK:=heap_alloc_new (w.alloc (.cells (boxZ op ⟨e.name.toArray⟩ ⟨e.module.toArray⟩ ng (.slice am wn cm) e.yes (.slice ae nk ce) e.at_) 40)) (.cells #[.int .i64 kd] 109)
 rw [World.size_alloc] at hK
 go_enter Tryz.func87,Tryz.ntmps87
 go_upto_region 1 with fail
 change Code.wp _ _ _ _ ((w.alloc (.cells (boxZ op ⟨e.name.toArray⟩ ⟨e.module.toArray⟩ ng (.slice am wn cm) e.yes (.slice ae nk ce) e.at_) 40)).alloc (.cells #[.int .i64 kd] 109))
 generalize (w.alloc _).alloc _=w2 at hbw hN hK ⊢
 have hl1:=(Array.getElem?_eq_some_iff.1 hN).1
 have hl2:=(Array.getElem?_eq_some_iff.1 hK).1
 have hz2:=hbw.size
 obtain ⟨y0,y1,y2,y3,y4,y5,y6,y7⟩:=boxZ_cells hN
 have yk:w2.cell? ⟨w.heap.size+1,0,none⟩=some (.int .i64 kd):=by rw [Lib.cell_of_heap hK];rfl
 have fin:∀ W:World,res=false→Below w.heap.size w W→(Ending.returned (.bool false)=Ending.returned (.bool res)∧Below w.heap.size w W):=fun _ h1 h2=>⟨by rw [h1],h2⟩
 have HFIN:=Lib.hid fin
 clear fin
 by_cases c1:op<1
 ·have hr:Hid (res=false):=Lib.hid (by rw [HD.out,decide_eq_false (by omega)];rfl)
  clear HD HKC HCT HNA HVA HK HM
  go_wp2
  go_ret
  exact HFIN.out _ hr.out hbw
 by_cases c2:24<op
 ·have hr:Hid (res=false):=Lib.hid (by rw [HD.out,decide_eq_false (by omega:¬ op≤24)];cases decide (1≤op) <;> rfl)
  clear HD HKC HCT HNA HVA HK HM
  go_wp2
  go_ret
  exact HFIN.out _ hr.out hbw
 have hD2:res=(mb && (nb && (vb && (cb && !an)))):=by rw [HD.out,decide_eq_true (by omega),decide_eq_true (by omega)];rfl
 have HD2:=Lib.hid hD2
 clear hD2 HD
 have hkc:=HKC.out (by omega) (by omega)
 have HKC2:=Lib.hid hkc
 clear hkc HKC
 cases mb with
 | false =>
  have hr:Hid (res=false):=Lib.hid (by rw [HD2.out];rfl)
  clear HD2 HKC2 HCT HNA HVA HK
  go_wp2_with (go_at_call 133;refine (HM.out _).mono ?_;rintro r w' ⟨rfl,rfl⟩)
  go_ret
  exact HFIN.out _ hr.out hbw
 | true =>
 cases nb with
 | false =>
  have hr:Hid (res=false):=Lib.hid (by rw [HD2.out];rfl)
  clear HD2 HKC2 HCT HVA HK
  go_wp2_with (first|(go_at_call 133;refine (HM.out _).mono ?_;rintro r w' ⟨rfl,rfl⟩)|(go_at_call 134;refine (HNA.out _).mono ?_;rintro r w3 ⟨rfl,hb3⟩))
  go_ret
  exact HFIN.out _ hr.out (hbw.trans (hb3.mono hz2))
 | true =>
 cases vb with
 | false =>
  have hr:Hid (res=false):=Lib.hid (by rw [HD2.out];rfl)
  clear HD2 HKC2 HCT HK
  go_wp2_with (first|(go_at_call 133;refine (HM.out _).mono ?_;rintro r w' ⟨rfl,rfl⟩)|(go_at_call 134;refine (HNA.out _).mono ?_;rintro r w3 ⟨rfl,hb3⟩;have hbw3:=hbw.trans (hb3.mono hz2);obtain ⟨z0,z1,z2,z3,z4,z5,z6,z7⟩:=boxZ_cells ((hb3.block w.heap.size hl1).trans hN))|(go_at_call 135;refine (HVA.out _ hbw3).mono ?_;rintro r w4 ⟨rfl,hb4⟩))
  go_ret
  exact HFIN.out _ hr.out (hbw3.trans (hb4.mono hbw3.size))
 | true =>
 have HD3:Hid (res=(cb && !an)):=Lib.hid (by rw [HD2.out];rfl)
 clear HD2
 go_upto_region 3 with (first|(go_at_call 133;refine (HM.out _).mono ?_;rintro r w' ⟨rfl,rfl⟩)|(go_at_call 134;refine (HNA.out _).mono ?_;rintro r w3 ⟨rfl,hb3⟩;have hbw3:=hbw.trans (hb3.mono hz2);obtain ⟨z0,z1,z2,z3,z4,z5,z6,z7⟩:=boxZ_cells ((hb3.block w.heap.size hl1).trans hN))|(go_at_call 135;refine (HVA.out _ hbw3).mono ?_;rintro r w4 ⟨rfl,hb4⟩))
 have hbw4:=hbw3.trans (hb4.mono hbw3.size)
 have hz3:=hb3.size
 have hN4:=(hb4.block w.heap.size (by omega)).trans ((hb3.block w.heap.size hl1).trans hN)
 have hK4:=(hb4.block (w.heap.size+1) (by omega)).trans ((hb3.block (w.heap.size+1) hl2).trans hK)
 have hl4:=(Array.getElem?_eq_some_iff.1 hK4).1
 clear z0 z1 z2 z3 z4 z5 z6 z7 y0 y1 y2 y3 y4 y5 y6 y7 yk hN hK HNA HVA HM
 obtain ⟨y0,y1,y2,y3,y4,y5,y6,y7⟩:=boxZ_cells hN4
 have yk:w4.cell? ⟨w.heap.size+1,0,none⟩=some (.int .i64 kd):=by rw [Lib.cell_of_heap hK4];rfl
 have HC4:=Lib.hid (HCT.out w4 (w.heap.size+1) hbw4 yk hl4)
 clear HCT hN4 hK4
 rcases HKC2.out with ⟨k0,k1,k3⟩|⟨k0,k1⟩
 ·by_cases hq:(nk:Int)=kn
  ·have HD4:Hid (res=!an):=Lib.hid (by rw [HD3.out,k1,decide_eq_true hq];rfl)
   have h8:(nk:Int)≤8:=by omega
   have hne:((nk:Int) == kn)=true:=by rw [hq];exact beq_self_eq_true _
   have HQ:=Lib.hid hq
   clear k1 HKC2 HD3 hq
   go_wp2_with (first|(go_at_call 136;refine (HK.out _).mono ?_;rintro r w' ⟨rfl,rfl⟩)|(go_at_call 90;refine HC4.out.mono ?_;rintro r w5 ⟨rfl,hb5⟩))
   go_ret
   exact ⟨ret_bool (by rw [HD4.out]),hbw4.trans (hb5.mono hbw4.size)⟩
  ·have hr:Hid (res=false):=Lib.hid (by rw [HD3.out,k1,decide_eq_false hq];rfl)
   have hne:((nk:Int) == kn)=false:=beq_eq_false_iff_ne.2 hq
   have hne2:((nk:Int) != kn)=true:=by rw [bne,hne];rfl
   clear k1 HKC2 HD3 HC4 hq
   go_wp2_with (go_at_call 136;refine (HK.out _).mono ?_;rintro r w' ⟨rfl,rfl⟩)
   go_ret
   exact HFIN.out _ hr.out hbw4
 ·subst k0
  by_cases hq:nk≤8
  ·have HD4:Hid (res=!an):=Lib.hid (by rw [HD3.out,k1,decide_eq_true hq];rfl)
   have h8:(nk:Int)≤8:=by omega
   clear k1 HKC2 HD3
   go_wp2_with (first|(go_at_call 136;refine (HK.out _).mono ?_;rintro r w' ⟨rfl,rfl⟩)|(go_at_call 90;refine HC4.out.mono ?_;rintro r w5 ⟨rfl,hb5⟩))
   go_ret
   exact ⟨ret_bool (by rw [HD4.out]),hbw4.trans (hb5.mono hbw4.size)⟩
  ·have hr:Hid (res=false):=Lib.hid (by rw [HD3.out,k1,decide_eq_false hq];rfl)
   have h8:(8:Int)<(nk:Int):=by omega
   clear k1 HKC2 HD3 HC4
   go_wp2_with (go_at_call 136;refine (HK.out _).mono ?_;rintro r w' ⟨rfl,rfl⟩)
   go_ret
   exact HFIN.out _ hr.out hbw4
theorem rightZ_any (fm:Bool):∀ (n:Nat) (e:PZ),SizeOf.sizeOf e<n→e.fit→RtDoes fm e
 | 0,_,h,_=>absurd h (by omega)
 | n+1,e,hs,hf=>rightZ_step fm e hf fun x hx=>⟨rightZ_any fm n x (by have:=e.kids_sizeOf x hx;omega) ((PZ.fit_def hf).2.2.2.2 x hx),by have:=(PZ.fit_def ((PZ.fit_def hf).2.2.2.2 x hx)).2.2.2.1;omega⟩
end Go.Proofs.YtdednahplodojaaGreatDoor

namespace Go.Proofs.YtdednahplodojaaGreatDoor
theorem decF_pos (n:Nat):0<(decF n).length:=by
 unfold decF
 split
 ·simp
 ·rw [List.length_append];simp
theorem intF_pos (n:Int):0<(intF n).length:=by
 rw [intF,List.length_append]
 have:=decF_pos n.natAbs
 omega
theorem decF_zero {n:Nat}(h:decF n=[48]):n=0:=by
 unfold decF at h
 split at h
 ·rename_i hn
  have h1:=List.head_eq_of_cons_eq h
  have h2:=congrArg UInt8.toNat h1
  rw [UInt8.toNat_ofNat'] at h2
  simp at h2
  omega
 ·have h1:=congrArg List.length h
  rw [List.length_append] at h1
  have:=decF_pos (n / 10)
  simp only [List.length_cons,List.length_nil] at h1
  omega
def Ends (r:List UInt8):Prop:=∀ c,r.head?=some c→insideB c=false
theorem Ends.cons {c:UInt8}{r:List UInt8}(h:insideB c=false):Ends (c :: r):=by
 intro d hd
 simp only [List.head?_cons,Option.some.injEq] at hd
 rw [← hd];exact h
theorem inside_digit {c:UInt8}(h:insideB c=false):digitB c=false:=by
 simp only [insideB,Bool.or_eq_false_iff] at h
 exact h.1.2
theorem end_of {k:Nat}(hk:k≠4){t r:List UInt8}(h:Ends r):endB k t r.head?=true:=by
 cases hr:r.head? with
 | none=>rfl
 | some c =>
  have:=h c hr
  rw [endB,if_neg hk]
  split
  ·rw [inside_digit this];rfl
  ·rw [this];rfl
def nameB (t:List UInt8):Bool:=t.all insideB && (t.headD 0 |> letterB) && decide (0<t.length) && decide (t.length≤40) && decide (t ∉ keyL)
theorem plain_name {w:List UInt8}(h:plainB w=true):nameB w=true:=by
 unfold plainB at h
 cases hl:lexAll w with
 | error x=>rw [hl] at h;cases h
 | ok l =>
  rw [hl] at h
  match l,h with
  | [t,x],h =>
   simp only [Bool.and_eq_true,decide_eq_true_eq] at h
   obtain ⟨h1,h2⟩:=h
   unfold lexAll at hl
   split at hl
   ·cases hl
   ·unfold lexF at hl
    dsimp only at hl
    split at hl
    ·cases hl
    ·rename_i he
     split at hl
     ·injection hl with hl;cases hl
     ·split at hl
      ·cases hl
      ·injection hl with hl
       have ht:=(List.cons.inj hl).1
       have hk:(tokF (w.drop (leadF false w))).1=1:=by rw [← ht] at h1;exact h1
       have htx:(w.drop (leadF false w)).take (tokF (w.drop (leadF false w))).2.1=w:=by rw [← ht] at h2;exact h2
       have hp:=tokF_pos (w.drop (leadF false w)) (by simpa using he) (by rw [hk];decide)
       have hlen:=congrArg List.length htx
       rw [List.length_take,List.length_drop] at hlen
       have hle:=tokF_len (w.drop (leadF false w))
       rw [List.length_drop] at hle
       have hk0:leadF false w=0:=by omega
       rw [hk0,List.drop_zero] at hk htx he hle
       rw [hk0] at hlen
       have hwl:(tokF w).2.1=w.length:=by rw [List.drop_zero] at hlen;omega
       cases w with
       | nil=>simp [tokF] at hk
       | cons c r =>
        rw [tokF] at hk hwl
        by_cases hc:letterB c=true
        ·rw [if_pos hc] at hk hwl
         unfold wordF at hk hwl
         simp only at hk hwl
         split at hk
         ·cases hk
         ·rename_i h40
          rw [if_neg h40] at hwl
          split at hk
          ·cases hk
          ·rename_i hkey
           rw [if_neg hkey] at hwl
           simp only at hwl
           have hall:(c :: r).takeWhile insideB=c :: r:=(List.takeWhile_prefix insideB).eq_of_length hwl
           rw [hall] at h40 hkey
           have ha:(c :: r).all insideB=true:=by rw [← hall];exact List.all_takeWhile
           simp only [nameB,Bool.and_eq_true,decide_eq_true_eq]
           exact ⟨⟨⟨⟨ha,hc⟩,by simp⟩,by omega⟩,hkey⟩
        ·rw [if_neg hc] at hk
         split at hk
         ·unfold numF at hk
          simp only at hk
          split at hk <;> cases hk
         ·unfold symF at hk
          split at hk <;> cases hk
  | [],h=>cases h
  | [_],h=>cases h
  | _ :: _ :: _ :: _,h=>cases h
theorem piece3 (t:List UInt8):pieceB (numP t)=(t.all digitB && decide (0<t.length) && decide (t.length≤60) && (decide (t.length=1) || !decide (t[0]?=some 48))):=rfl
theorem piece1 (t:List UInt8):pieceB ⟨[],1,t⟩=(t.all insideB && letterB (t.headD 0) && decide (0<t.length) && decide (t.length≤40) && decide (1=if t∈keyL then 2 else 1)):=rfl
theorem name_piece {t:List UInt8}(h:nameB t=true):wordP t=⟨[],1,t⟩∧pieceB (wordP t)=true:=by
 simp only [nameB,Bool.and_eq_true,decide_eq_true_eq] at h
 have e:wordP t=⟨[],1,t⟩:=by rw [wordP,if_neg h.2]
 refine ⟨e,?_⟩
 rw [e,piece1]
 simp only [Bool.and_eq_true,decide_eq_true_eq]
 exact ⟨⟨⟨⟨h.1.1.1.1,h.1.1.1.2⟩,h.1.1.2⟩,h.1.2⟩,by rw [if_neg h.2]⟩
theorem key_piece:∀ t∈keyL,pieceB (wordP t)=true:=by decide
theorem sgn_piece:∀ t∈signL,pieceB (sgnP t)=true:=by decide
theorem digits_in {n:Nat}:(decF n).all digitB=true:=by
 induction n using Nat.strongRecOn with
 | ind n ih =>
  rw [decF]
  split
  ·have:∀ k:Fin 10,digitB (UInt8.ofNat (48+k.val))=true:=by decide
   have:=this ⟨n,by omega⟩
   simpa using this
  ·rename_i h
   rw [List.all_append,ih (n / 10) (by omega),Bool.true_and]
   have:∀ k:Fin 10,digitB (UInt8.ofNat (48+k.val))=true:=by decide
   have:=this ⟨n % 10,by omega⟩
   simpa using this
theorem dec_head {n:Nat}:(decF n).length=1∨(decF n)[0]?≠some 48:=by
 induction n using Nat.strongRecOn with
 | ind n ih =>
  rw [decF]
  split
  ·left;simp
  ·rename_i h
   right
   have hp:=decF_pos (n / 10)
   rw [List.getElem?_append_left hp]
   rcases ih (n / 10) (by omega) with q|q
   ·intro q2
    have:n / 10<10:=by
     apply Classical.byContradiction
     intro q3
     rw [decF,dif_neg (by omega)] at q
     have:=decF_pos (n / 10 / 10)
     simp only [List.length_append,List.length_cons,List.length_nil] at q
     omega
    rw [decF,dif_pos this] at q2
    simp only [List.length_cons,List.length_nil,Nat.zero_add,Nat.lt_add_one,List.getElem?_eq_getElem,List.getElem_cons_zero,Option.some.injEq] at q2
    have h2:=congrArg UInt8.toNat q2
    rw [UInt8.toNat_ofNat'] at h2
    simp at h2
    omega
   ·exact q
theorem num_piece {n:Int}(h0:0≤n)(h60:(intF n).length≤60):pieceB (numP (intF n))=true:=by
 obtain ⟨m,rfl⟩:=Int.eq_ofNat_of_zero_le h0
 rw [intF_nat] at h60 ⊢
 rw [piece3]
 simp only [Bool.and_eq_true,decide_eq_true_eq,Bool.or_eq_true,Bool.not_eq_true',decide_eq_false_iff_not]
 exact ⟨⟨⟨digits_in,decF_pos m⟩,h60⟩,dec_head⟩
theorem okP_sp {l:List Pc}{r:List UInt8}:okP (spP l) r↔okP l r:=by
 cases l with
 | nil=>exact Iff.rfl
 | cons p l =>
  rw [spP,okP,okP]
  have:pieceB ⟨32 :: p.lead,p.kind,p.text⟩=pieceB p:=by simp [pieceB,blankB]
  rw [this]
theorem bytesP_sp_head {l:List Pc}(h:l≠[])(r:List UInt8):Ends (bytesP (spP l)++r):=by
 rw [bytesP_sp h]
 exact Ends.cons (by decide)
theorem free_sign (t:List UInt8)(h:t∈[[40],[41],[44],[46],[123],[125],[58],[59]])(c:Option UInt8):endB 4 t c=true:=by
 cases c with
 | none=>rfl
 | some c =>
  have:∀ t∈([[40],[41],[44],[46],[123],[125],[58],[59]]:List (List UInt8)),∀ n:Fin 256,endB 4 t (some (UInt8.ofNat n.val))=true:=by decide +kernel
  have h1:=this t h ⟨c.toNat,c.toNat_lt⟩
  rw [UInt8.ofNat_toNat] at h1
  exact h1
theorem blank_sign:∀ t∈signL,endB 4 t (some 32)=true:=by decide
theorem minus_sign {c:Option UInt8}(h:c≠some 45):endB 4 [45] c=true:=by
 cases c with
 | none=>rfl
 | some c =>
  have:∀ n:Fin 256,UInt8.ofNat n.val≠45→endB 4 [45] (some (UInt8.ofNat n.val))=true:=by decide +kernel
  have h1:=this ⟨c.toNat,c.toNat_lt⟩
  rw [UInt8.ofNat_toNat] at h1
  exact h1 fun q=>h (by rw [q])
def OkAll (l:List Pc):Prop:=∀ r,Ends r→okP l r
theorem OkAll.word {t:List UInt8}(h:pieceB (wordP t)=true):OkAll [wordP t]:=fun r hr=>⟨h,by
 have:(wordP t).kind≠4:=by unfold wordP;simp only;split <;> decide
 exact end_of this hr,trivial⟩
theorem OkAll.key {t:List UInt8}(h:t∈keyL):OkAll [wordP t]:=OkAll.word (key_piece t h)
theorem OkAll.then_sp {a b:List Pc}(h:OkAll a)(hb:OkAll b)(hne:b≠[]):OkAll (a++spP b):=fun r hr=>okP_append.2 ⟨h _ (bytesP_sp_head hne r),okP_sp.2 (hb r hr)⟩
theorem OkAll.close {a:List Pc}(h:OkAll a)(t:List UInt8)(ht:t∈[[40],[41],[44],[46],[123],[125],[58],[59]])(hi:∀ x∈t,insideB x=false):∀ r,okP (a++[sgnP t]) r:=fun r=>by
 have hs:t∈signL:=by
  have:∀ t∈([[40],[41],[44],[46],[123],[125],[58],[59]]:List (List UInt8)),t∈signL:=by decide
  exact this t ht
 refine okP_append.2 ⟨h _ ?_,sgn_piece t hs,free_sign t ht _,trivial⟩
 intro c hc
 cases t with
 | nil=>exact absurd hs (by decide)
 | cons x t=>simp [bytesP,sgnP] at hc;rw [← hc];exact hi x (by simp)
theorem okP_free {l:List Pc}{r:List UInt8}(t:List UInt8)(ht:t∈[[40],[41],[44],[46],[123],[125],[58],[59]])(h:okP l r):okP (sgnP t :: l) r:=by
 have hs:t∈signL:=by
  have:∀ t∈([[40],[41],[44],[46],[123],[125],[58],[59]]:List (List UInt8)),t∈signL:=by decide
  exact this t ht
 exact ⟨sgn_piece t hs,free_sign t ht _,h⟩
theorem par_ok {least:Int}{k:Int × List Pc}(h:OkAll k.2):OkAll (parQ least k):=by
 intro r hr
 unfold parQ
 split
 ·exact okP_free [40] (by decide) (h.close [41] (by decide) (by decide) r)
 ·exact h r hr
theorem comma_ok:∀ (es:List PZ),(∀ x∈es,OkAll x.pcs∧x.pcs≠[])→OkAll (commaQ (es.map PZ.pcs))
 | [],_=>fun _ _=>trivial
 | [e],h=>(h e (by simp)).1
 | e :: f :: l,h=>by
  have ih:=comma_ok (f :: l) fun x hx=>h x (List.mem_cons_of_mem _ hx)
  have he:=(h e (by simp)).1
  intro r hr
  simp only [List.map_cons] at ih ⊢
  rw [commaQ,show e.pcs++sgnP [44] :: spP (commaQ (f.pcs :: l.map PZ.pcs))=(e.pcs++[sgnP [44]])++spP (commaQ (f.pcs :: l.map PZ.pcs)) by simp]
  exact okP_append.2 ⟨he.close [44] (by decide) (by decide) _,okP_sp.2 (ih r hr)⟩
theorem showQ2 (nm md:List UInt8)(num:Int)(yes:Bool)(ks:List (Int × List Pc)):showQ 2 nm md num yes ks=[wordP (if yes=true then [116,114,117,101] else [102,97,108,115,101])]:=rfl
theorem showQ3 (nm md:List UInt8)(num:Int)(yes:Bool)(ks:List (Int × List Pc)):showQ 3 nm md num yes ks=[wordP nm]:=rfl
theorem showQ4 (nm md:List UInt8)(num:Int)(yes:Bool)(ks:List (Int × List Pc)):showQ 4 nm md num yes ks=[wordP [114,101,115]]:=rfl
theorem head_par {e:PZ}{fm:Bool}(h:RightZ fm e)(hne:e.pcs≠[])(r:List UInt8):(bytesP (parQ 9 (e.op,e.pcs))++r).head?≠some 45:=by
 unfold parQ
 split
 ·simp [bytesP,sgnP]
 ·rename_i hl
  have F:=h.form
  simp only at hl
  rw [e.pcs_def]
  have hnm:=h.names
  have hv:=h.values
  generalize hc:e.kids.length=c at F
  generalize e.op=op at *
  cases F with
  | none h1 h2 =>
   have:op=1∨op=2∨op=3∨op=4:=by omega
   rcases this with rfl|rfl|rfl|rfl
   ·simp only [valuesB,if_pos,Bool.and_eq_true,decide_eq_true_eq] at hv
    have hp:=num_piece hv.1.1 hv.1.2
    rw [piece3] at hp
    simp only [Bool.and_eq_true] at hp
    have hd:=hp.1.1.1
    have hpos:=intF_pos e.num
    simp only [showQ,if_pos,bytesP,numP]
    cases hi:intF e.num with
    | nil=>rw [hi] at hpos;simp at hpos
    | cons c r =>
     rw [hi,List.all_cons,Bool.and_eq_true] at hd
     simp only [List.nil_append,List.cons_append,List.head?_cons,ne_eq,Option.some.injEq]
     exact (digit_no c hd.1).2.2
   ·simp [showQ,bytesP,wordP];split <;> simp
   ·have hnm:plainB e.name=true:=by
     simp only [namesB] at hnm
     rw [if_pos (by decide),Bool.and_eq_true] at hnm
     exact hnm.1
    have hn:=plain_name hnm
    simp only [nameB,Bool.and_eq_true] at hn
    rw [showQ3]
    cases hi:e.name with
    | nil=>rw [hi] at hn;simp at hn
    | cons c r =>
     rw [hi] at hn
     simp only [bytesP,wordP,List.nil_append,List.cons_append,List.head?_cons,ne_eq,Option.some.injEq]
     exact (letter_no c hn.1.1.1.2).2.2
   ·simp [showQ,bytesP,wordP]
  | one h=>rcases h with rfl|rfl <;> exact absurd (by decide) hl
  | two h1 h2 =>
   exfalso
   apply hl
   unfold lvZ
   rw [if_neg (by omega),if_neg (by omega)]
   repeat (first|omega|(split;(first|omega|decide)))
  | iff=>exact absurd (by decide) hl
  | lett=>exact absurd (by decide) hl
  | asrt=>exact absurd (by decide) hl
  | call h =>
   have hnm:plainB e.name=true∧(e.module=[]∨plainB e.module=true):=by
    simp only [namesB] at hnm
    rw [if_neg (by decide),if_pos trivial,Bool.and_eq_true,Bool.or_eq_true,decide_eq_true_eq] at hnm
    exact hnm
   simp only [showQ]
   simp only [if_neg,if_pos,show ¬ (24:Int)=1 by decide,show ¬ (24:Int)=2 by decide,show ¬ (24:Int)=3 by decide,show ¬ (24:Int)=4 by decide,show ¬ (24:Int)=5 by decide,show ¬ (24:Int)=6 by decide,show ¬ (24:Int)=21 by decide,show ¬ (24:Int)=22 by decide,show ¬ (24:Int)=23 by decide,not_false_eq_true]
   have key:∀ w,plainB w=true→∀ l,(w++l).head?≠some 45:=by
    intro w hw l
    have hn:=plain_name hw
    simp only [nameB,Bool.and_eq_true] at hn
    cases w with
    | nil=>simp at hn
    | cons c r =>
     simp only [List.cons_append,List.head?_cons,ne_eq,Option.some.injEq]
     exact (letter_no c hn.1.1.1.2).2.2
   split
   ·simp only [List.nil_append,bytesP,wordP,List.cons_append,List.append_assoc]
    exact key _ hnm.1 _
   ·rename_i hm
    have:=hnm.2.resolve_left hm
    simp only [List.nil_append,bytesP,wordP,List.cons_append,List.append_assoc]
    exact key _ this _
theorem signZ_in {op:Int}(h1:7≤op)(h2:op≤20):signZ op∈signL∧signZ op∈binL:=by
 have:∀ k:Fin 14,signZ ((k.val+7:Nat):Int)∈signL∧signZ ((k.val+7:Nat):Int)∈binL:=by decide
 have h:=this ⟨(op - 7).toNat,by omega⟩
 rw [show (((⟨(op - 7).toNat,by omega⟩:Fin 14).val+7:Nat):Int)=op by simp only;omega] at h
 exact h
theorem PZ.okAll {fm:Bool}:∀ (n:Nat) (e:PZ),SizeOf.sizeOf e<n→e.right fm=true→OkAll e.pcs
 | 0,_,h,_=>absurd h (by omega)
 | n+1,e,hs,hr=>by
  have R:=PZ.rightZ hr
  have ih:∀ x∈e.kids,OkAll x.pcs∧x.pcs≠[]:=fun x hx=>⟨PZ.okAll n x (by have:=e.kids_sizeOf x hx;omega) (R.kids x hx),(PZ.bytes n x (by have:=e.kids_sizeOf x hx;omega) (R.kids x hx)).2⟩
  have hrk:∀ x∈e.kids,RightZ fm x:=fun x hx=>PZ.rightZ (R.kids x hx)
  have F:=R.form
  rw [e.pcs_def]
  have hk:∀ i,(h:i<e.kids.length)→(pcsZ e.kids).getD i (0,[])=(e.kids[i].op,e.kids[i].pcs)∧OkAll e.kids[i].pcs∧e.kids[i].pcs≠[]:=fun i h=>⟨pcsZ_get h,ih _ (List.getElem_mem h)⟩
  have hm:(pcsZ e.kids).map Prod.snd=e.kids.map PZ.pcs:=by rw [pcsZ_map];simp
  have hcm:=comma_ok e.kids ih
  have hnm:=R.names
  have hv:=R.values
  generalize e.kids=ks at *
  generalize hn:ks.length=c at F
  generalize e.op=op at *
  cases F with
  | none h1 h2 =>
   have:op=1∨op=2∨op=3∨op=4:=by omega
   rcases this with rfl|rfl|rfl|rfl
   ·simp only [valuesB,if_pos,Bool.and_eq_true,decide_eq_true_eq] at hv
    simp only [showQ,if_pos]
    exact fun r hr=>⟨num_piece hv.1.1 hv.1.2,end_of (by show (3:Nat)≠4;decide) hr,trivial⟩
   ·rw [showQ2]
    split
    ·exact OkAll.key (by decide)
    ·exact OkAll.key (by decide)
   ·simp only [namesB] at hnm
    rw [if_pos (by decide),Bool.and_eq_true] at hnm
    rw [showQ3]
    exact OkAll.word (name_piece (plain_name hnm.1)).2
   ·rw [showQ4]
    exact OkAll.key (by decide)
  | one h =>
   obtain ⟨a1,a2,a3⟩:=hk 0 (by omega)
   have hrk0:=hrk _ (List.getElem_mem (show 0<ks.length by omega))
   rcases h with rfl|rfl
   ·simp only [showQ]
    simp only [if_neg,if_pos,show ¬ (5:Int)=1 by decide,show ¬ (5:Int)=2 by decide,show ¬ (5:Int)=3 by decide,show ¬ (5:Int)=4 by decide,not_false_eq_true]
    rw [a1]
    exact fun r hr=>⟨sgn_piece [45] (by decide),minus_sign (head_par hrk0 a3 r),par_ok (k:=(ks[0].op,ks[0].pcs)) a2 r hr⟩
   ·simp only [showQ]
    simp only [if_neg,if_pos,show ¬ (6:Int)=1 by decide,show ¬ (6:Int)=2 by decide,show ¬ (6:Int)=3 by decide,show ¬ (6:Int)=4 by decide,show ¬ (6:Int)=5 by decide,not_false_eq_true]
    rw [a1]
    exact (OkAll.key (t:=[110,111,116]) (by decide)).then_sp (par_ok (k:=(ks[0].op,ks[0].pcs)) a2) (parQ_ne a3)
  | two h1 h2 =>
   obtain ⟨a1,a2,a3⟩:=hk 0 (by omega)
   obtain ⟨b1,b2,b3⟩:=hk 1 (by omega)
   have e1:∀ k:Int,(k≤6∨21≤k)→¬ op=k:=fun k hk q=>by omega
   simp only [showQ]
   rw [if_neg (e1 1 (by omega)),if_neg (e1 2 (by omega)),if_neg (e1 3 (by omega)),if_neg (e1 4 (by omega)),if_neg (e1 5 (by omega)),if_neg (e1 6 (by omega)),if_neg (e1 21 (by omega)),if_neg (e1 22 (by omega)),if_neg (e1 23 (by omega)),if_neg (e1 24 (by omega)),a1,b1]
   have hs:=(signZ_in h1 h2).1
   have hpb:=parQ_ne (least:=thenZ op) (k:=(ks[1].op,ks[1].pcs)) b3
   intro r hr
   refine okP_append.2 ⟨par_ok (k:=(ks[0].op,ks[0].pcs)) a2 _ ?_,okP_append.2 ⟨okP_sp.2 ⟨sgn_piece _ hs,?_,trivial⟩,okP_sp.2 (par_ok (k:=(ks[1].op,ks[1].pcs)) b2 r hr)⟩⟩
   ·rw [bytesP_append,bytesP_sp (by simp)]
    exact Ends.cons (by decide)
   ·rw [bytesP,List.nil_append,bytesP_sp hpb]
    exact blank_sign _ hs
  | iff =>
   obtain ⟨a1,a2,a3⟩:=hk 0 (by omega)
   obtain ⟨b1,b2,b3⟩:=hk 1 (by omega)
   obtain ⟨c1,c2,c3⟩:=hk 2 (by omega)
   simp only [showQ]
   simp only [if_neg,if_pos,show ¬ (21:Int)=1 by decide,show ¬ (21:Int)=2 by decide,show ¬ (21:Int)=3 by decide,show ¬ (21:Int)=4 by decide,show ¬ (21:Int)=5 by decide,show ¬ (21:Int)=6 by decide,not_false_eq_true]
   rw [a1,b1,c1]
   have:=((((OkAll.key (t:=[105,102]) (by decide)).then_sp a2 a3).then_sp (OkAll.key (t:=[116,104,101,110]) (by decide)) (by simp)).then_sp b2 b3).then_sp (OkAll.key (t:=[101,108,115,101]) (by decide)) (by simp) |>.then_sp c2 c3
   simpa using this
  | lett =>
   obtain ⟨a1,a2,a3⟩:=hk 0 (by omega)
   obtain ⟨b1,b2,b3⟩:=hk 1 (by omega)
   simp only [namesB] at hnm
   rw [if_pos (by decide),Bool.and_eq_true] at hnm
   simp only [showQ]
   simp only [if_neg,if_pos,show ¬ (22:Int)=1 by decide,show ¬ (22:Int)=2 by decide,show ¬ (22:Int)=3 by decide,show ¬ (22:Int)=4 by decide,show ¬ (22:Int)=5 by decide,show ¬ (22:Int)=6 by decide,show ¬ (22:Int)=21 by decide,not_false_eq_true]
   rw [a1,b1]
   have hq:=(OkAll.key (t:=[108,101,116]) (by decide)).then_sp (OkAll.word (name_piece (plain_name hnm.1)).2) (by simp)
   have h1:OkAll ([wordP [108,101,116]]++spP [wordP e.name]++(spP [sgnP [61]]++spP ks[0].pcs)):=fun r hr=>okP_append.2 ⟨hq _ (by
     rw [bytesP_append,bytesP_sp (by simp)]
     exact Ends.cons (by decide)),okP_append.2 ⟨okP_sp.2 ⟨sgn_piece [61] (by decide),by rw [bytesP,List.nil_append,bytesP_sp a3];exact blank_sign [61] (by decide),trivial⟩,okP_sp.2 (a2 r hr)⟩⟩
   have:=(h1.then_sp (OkAll.key (t:=[105,110]) (by decide)) (by simp)).then_sp b2 b3
   simpa using this
  | asrt =>
   obtain ⟨a1,a2,a3⟩:=hk 0 (by omega)
   obtain ⟨b1,b2,b3⟩:=hk 1 (by omega)
   simp only [showQ]
   simp only [if_neg,if_pos,show ¬ (23:Int)=1 by decide,show ¬ (23:Int)=2 by decide,show ¬ (23:Int)=3 by decide,show ¬ (23:Int)=4 by decide,show ¬ (23:Int)=5 by decide,show ¬ (23:Int)=6 by decide,show ¬ (23:Int)=21 by decide,show ¬ (23:Int)=22 by decide,not_false_eq_true]
   rw [a1,b1]
   have:=(((OkAll.key (t:=[97,115,115,101,114,116]) (by decide)).then_sp a2 a3).then_sp (OkAll.key (t:=[105,110]) (by decide)) (by simp)).then_sp b2 b3
   simpa using this
  | call h =>
   simp only [namesB] at hnm
   rw [if_neg (by decide),if_pos trivial,Bool.and_eq_true,Bool.or_eq_true,decide_eq_true_eq] at hnm
   simp only [showQ]
   simp only [if_neg,if_pos,show ¬ (24:Int)=1 by decide,show ¬ (24:Int)=2 by decide,show ¬ (24:Int)=3 by decide,show ¬ (24:Int)=4 by decide,show ¬ (24:Int)=5 by decide,show ¬ (24:Int)=6 by decide,show ¬ (24:Int)=21 by decide,show ¬ (24:Int)=22 by decide,show ¬ (24:Int)=23 by decide,not_false_eq_true]
   rw [hm]
   intro r hr
   have h1:okP ([wordP e.name,sgnP [40]]++(commaQ (ks.map PZ.pcs)++[sgnP [41]])) r:=by
    refine okP_append.2 ⟨?_,hcm.close [41] (by decide) (by decide) r⟩
    have:=(OkAll.word (name_piece (plain_name hnm.1)).2).close [40] (by decide) (by decide)
    exact this _
   split
   ·exact h1
   ·rename_i hmd
    refine okP_append.2 ⟨?_,h1⟩
    have:=(OkAll.word (name_piece (plain_name (hnm.2.resolve_left hmd))).2).close [46] (by decide) (by decide)
    exact this _
end Go.Proofs.YtdednahplodojaaGreatDoor
