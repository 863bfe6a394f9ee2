/- Walks and plain laws: RShowE. -/
import Derived.Test.YtdednahplodojaaGreatDoorB31
set_option maxHeartbeats 16000000
set_option maxRecDepth 100000
set_option linter.unusedVariables false
set_option linter.unusedSimpArgs false
namespace Go.Proofs.YtdednahplodojaaGreatDoor
open Go.RowKit Go
theorem rtext_none {e:PZ}{B:Nat}{ae:Option Addr}{w:World}(E:TxEnv e B ae w)(h1:1≤e.op)(h4:e.op≤4)(ce:Nat) :
  Calls Tryz.prog 22 #[.agg #[.int .i64 e.op,.string ⟨e.name.toArray⟩,.string ⟨e.module.toArray⟩,.string ⟨(intF e.num).toArray⟩,.bool e.yes,.slice ae e.kids.length ce,.int .i64 e.at_]] w (StrPost e.text w):=by
 have htd:=e.text_def
 clear E
 generalize e.text=out at *
 obtain ⟨NX,hNX,eX⟩:=bytes_of (intF e.num)
 rw [eX]
 have HTD:=Lib.hid htd
 have HNX:=Lib.hid hNX
 clear htd hNX eX
 have hbel:=below_new w
 generalize hop:e.op=op at *
 have:op=1∨op=2∨op=3∨op=4:=by omega
 clear h1 h4 hop
 have HB:=Lib.hid hbel
 clear hbel
 rcases this with rfl|rfl|rfl|rfl
 ·have HO:Hid (out=NX.data.toList):=Lib.hid (by rw [HTD.out,HNX.out];rfl)
  go_enter Tryz.func22,Tryz.ntmps22
  go_wp2
  go_ret
  exact ⟨ret_strY HO.out.symm,HB.out _⟩
 ·cases hy:e.yes with
  | true =>
   have HO:Hid (out=[116,114,117,101]):=Lib.hid (by rw [HTD.out,hy];rfl)
   go_enter Tryz.func22,Tryz.ntmps22
   go_wp2
   go_ret
   exact ⟨ret_strY HO.out.symm,HB.out _⟩
  | false =>
   have HO:Hid (out=[102,97,108,115,101]):=Lib.hid (by rw [HTD.out,hy];rfl)
   go_enter Tryz.func22,Tryz.ntmps22
   go_wp2
   go_ret
   exact ⟨ret_strY HO.out.symm,HB.out _⟩
 ·have HO:Hid (out=e.name):=Lib.hid (by rw [HTD.out];rfl)
  go_enter Tryz.func22,Tryz.ntmps22
  go_wp2
  go_ret
  exact ⟨ret_strY HO.out.symm,HB.out _⟩
 ·have HO:Hid (out=[114,101,115]):=Lib.hid (by rw [HTD.out];rfl)
  go_enter Tryz.func22,Tryz.ntmps22
  go_wp2
  go_ret
  exact ⟨ret_strY HO.out.symm,HB.out _⟩
theorem rtext_one {e:PZ}{B:Nat}{ae:Option Addr}{w:World}(E:TxEnv e B ae w)(hop:e.op=5∨e.op=6)(hkn:e.kids.length=1)(ce:Nat) :
  Calls Tryz.prog 22 #[.agg #[.int .i64 e.op,.string ⟨e.name.toArray⟩,.string ⟨e.module.toArray⟩,.string ⟨(intF e.num).toArray⟩,.bool e.yes,.slice ae e.kids.length ce,.int .i64 e.at_]] w (StrPost e.text w):=by
 have h0:(textsZ e.kids).getD 0 (0,[])=(e.kids[0].op,e.kids[0].text):=textsZ_get (by omega)
 have htd:=e.text_def
 have htd5:e.op=5→e.text=([45]:List UInt8)++parZ 9 (e.kids[0].op,e.kids[0].text):=fun q=>by rw [htd,q,← h0];rfl
 have htd6:e.op=6→e.text=([110,111,116,32]:List UInt8)++parZ 4 (e.kids[0].op,e.kids[0].text):=fun q=>by rw [htd,q,← h0];rfl
 have hln:=E.len
 have hB:=E.hB
 have hm0:e.kids[0]∈e.kids:=List.getElem_mem _
 have hK0:=rkid_any e.kids[0] (E.ops _ hm0).1 (E.ops _ hm0).2 (E.does _ hm0)
 have HKY:=Lib.hid E.kids
 have H5:=Lib.hid htd5
 have H6:=Lib.hid htd6
 have hK:=fun (least:Int) (W:World) (hW:Below w.heap.size w W)=>(HKY.out.at (hW.mono hB) (show 0<e.kids.length by omega))
 have HK:=Lib.hid (hK 0)
 have HK0:=Lib.hid hK0
 clear E htd h0 htd5 htd6 hm0 hK hK0 HKY
 generalize e.kids[0]=x at *
 generalize e.text=out at *
 obtain ⟨NX,-,eX⟩:=bytes_of (intF e.num)
 rw [eX]
 clear eX
 have hkI:(0:Int)<(e.kids.length:Int):=by omega
 have hkI2:0<e.kids.length:=by omega
 generalize hop':e.op=op at *
 clear hop' hkn
 rcases hop with rfl|rfl
 ·have HO0:=Lib.hid (H5.out rfl)
  obtain ⟨PX,hPX,eP⟩:=bytes_of (parZ 9 (x.op,x.text))
  have HO:Hid (out=([45]:List UInt8)++PX.data.toList):=Lib.hid (by rw [HO0.out,hPX])
  have hps:PX.size+1≤1099511627776:=by
   have:=congrArg List.length HO.out
   rw [List.length_append,size_list] at this
   simp only [List.length_cons,List.length_nil] at this
   omega
  have hpl:(parZ 9 (x.op,x.text)).length≤1099511627776:=by rw [← hPX,size_list];omega
  clear H5 H6 hln HO0
  have hbw:=below_new w (.cells (boxY 5 ⟨e.name.toArray⟩ ⟨e.module.toArray⟩ NX e.yes (.slice ae e.kids.length ce) e.at_) 55)
  have hN:=heap_alloc_new w (.cells (boxY 5 ⟨e.name.toArray⟩ ⟨e.module.toArray⟩ NX e.yes (.slice ae e.kids.length ce) e.at_) 55)
  go_enter Tryz.func22,Tryz.ntmps22
  go_upto_region 1 with fail
  change Code.wp _ _ _ _ (w.alloc (.cells (boxY 5 ⟨e.name.toArray⟩ ⟨e.module.toArray⟩ NX e.yes (.slice ae e.kids.length ce) e.at_) 55))
  generalize w.alloc _=w1 at hbw hN ⊢
  have hl1:=(Array.getElem?_eq_some_iff.1 hN).1
  have hz1:=hbw.size
  have HN:=Lib.hid hN
  obtain ⟨y0,y1,y2,y3,y4,y5,y6⟩:=boxY_cells hN
  clear hN
  obtain ⟨kb,off,m1,ak1,ck1,rfl,hkB,hE,x0,x1,x2,x3,x4,x5,x6⟩:=HK.out w1 hbw
  simp only [Nat.zero_mul,Nat.add_zero] at x0 x1 x2 x3 x4 x5 x6
  have hC:=HK0.out 9 B m1 ak1 ck1 w1 hE (Nat.le_trans hB hz1) hpl
  unfold StrPost at hC
  rw [eP] at hC
  have HC:=Lib.hid hC
  clear hC hE HK HK0 hPX eP hpl
  go_wp2_with (go_at_call 48;refine HC.out.mono ?_;rintro r w3 ⟨rfl,hb3⟩)
  go_ret
  exact ⟨ret_strY (by rw [HO.out];simp),hbw.trans (hb3.mono hz1)⟩
 ·have HO0:=Lib.hid (H6.out rfl)
  obtain ⟨PX,hPX,eP⟩:=bytes_of (parZ 4 (x.op,x.text))
  have HO:Hid (out=([110,111,116,32]:List UInt8)++PX.data.toList):=Lib.hid (by rw [HO0.out,hPX])
  have hps:PX.size+4≤1099511627776:=by
   have:=congrArg List.length HO.out
   rw [List.length_append,size_list] at this
   simp only [List.length_cons,List.length_nil] at this
   omega
  have hpl:(parZ 4 (x.op,x.text)).length≤1099511627776:=by rw [← hPX,size_list];omega
  clear H5 H6 hln HO0
  have hbw:=below_new w (.cells (boxY 6 ⟨e.name.toArray⟩ ⟨e.module.toArray⟩ NX e.yes (.slice ae e.kids.length ce) e.at_) 55)
  have hN:=heap_alloc_new w (.cells (boxY 6 ⟨e.name.toArray⟩ ⟨e.module.toArray⟩ NX e.yes (.slice ae e.kids.length ce) e.at_) 55)
  go_enter Tryz.func22,Tryz.ntmps22
  go_upto_region 1 with fail
  change Code.wp _ _ _ _ (w.alloc (.cells (boxY 6 ⟨e.name.toArray⟩ ⟨e.module.toArray⟩ NX e.yes (.slice ae e.kids.length ce) e.at_) 55))
  generalize w.alloc _=w1 at hbw hN ⊢
  have hl1:=(Array.getElem?_eq_some_iff.1 hN).1
  have hz1:=hbw.size
  have HN:=Lib.hid hN
  obtain ⟨y0,y1,y2,y3,y4,y5,y6⟩:=boxY_cells hN
  clear hN
  obtain ⟨kb,off,m1,ak1,ck1,rfl,hkB,hE,x0,x1,x2,x3,x4,x5,x6⟩:=HK.out w1 hbw
  simp only [Nat.zero_mul,Nat.add_zero] at x0 x1 x2 x3 x4 x5 x6
  have hC:=HK0.out 4 B m1 ak1 ck1 w1 hE (Nat.le_trans hB hz1) hpl
  unfold StrPost at hC
  rw [eP] at hC
  have HC:=Lib.hid hC
  clear hC hE HK HK0 hPX eP hpl
  go_wp2_with (go_at_call 48;refine HC.out.mono ?_;rintro r w3 ⟨rfl,hb3⟩)
  go_ret
  exact ⟨ret_strY (by rw [HO.out];simp),hbw.trans (hb3.mono hz1)⟩
theorem rtext_iff {e:PZ}{B:Nat}{ae:Option Addr}{w:World}(E:TxEnv e B ae w)(hop:e.op=21)(hkn:e.kids.length=3)(ce:Nat) :
  Calls Tryz.prog 22 #[.agg #[.int .i64 e.op,.string ⟨e.name.toArray⟩,.string ⟨e.module.toArray⟩,.string ⟨(intF e.num).toArray⟩,.bool e.yes,.slice ae e.kids.length ce,.int .i64 e.at_]] w (StrPost e.text w):=by
 have hks:∃ l,e.kids=l∧l.length=3:=⟨_,rfl,hkn⟩
 obtain ⟨l,hl,hll⟩:=hks
 have htx:e.text=([105,102,32]:List UInt8)++e.kids[0].text++([32,116,104,101,110,32]:List UInt8)++e.kids[1].text++([32,101,108,115,101,32]:List UInt8)++e.kids[2].text:=by
  have:∀ l:List PZ,(hl:l.length=3)→showF 21 e.name e.module e.num e.yes (textsZ l)=([105,102,32]:List UInt8)++l[0].text++([32,116,104,101,110,32]:List UInt8)++l[1].text++([32,101,108,115,101,32]:List UInt8)++l[2].text:=by
   intro l hl
   match l,hl with
   | [a,b,c],_=>simp [showF,textsZ]
  rw [e.text_def,hop];exact this _ hkn
 have hln:=E.len
 have hlx:=congrArg List.length htx
 simp only [List.length_append,List.length_cons,List.length_nil] at hlx
 have hB:=E.hB
 have hm0:e.kids[0]∈e.kids:=List.getElem_mem _
 have hK0:=E.does _ hm0
 obtain ⟨kb,off,m0,ak0,ck0,hae,hkB,hE0,a0,a1,a2,a3,a4,a5,a6⟩:=E.kids.at (Below.refl _ _) (show 0<e.kids.length by omega)
 subst hae
 have hm1:e.kids[1]∈e.kids:=List.getElem_mem _
 have hK1:=E.does _ hm1
 obtain ⟨kb',off',m1,ak1,ck1,hae',hkB',hE1,b0,b1,b2,b3,b4,b5,b6⟩:=E.kids.at (Below.refl _ _) (show 1<e.kids.length by omega)
 simp only [Option.some.injEq,Addr.mk.injEq,and_true] at hae'
 obtain ⟨rfl,rfl⟩:=hae'
 clear hkB'
 have hm2:e.kids[2]∈e.kids:=List.getElem_mem _
 have hK2:=E.does _ hm2
 obtain ⟨kb'',off'',m2,ak2,ck2,hae'',hkB'',hE2,c0,c1,c2,c3,c4,c5,c6⟩:=E.kids.at (Below.refl _ _) (show 2<e.kids.length by omega)
 simp only [Option.some.injEq,Addr.mk.injEq,and_true] at hae''
 obtain ⟨rfl,rfl⟩:=hae''
 clear hkB''
 simp only [Nat.zero_mul,Nat.one_mul,Nat.add_zero,Nat.reduceMul] at a0 a1 a2 a3 a4 a5 a6 b0 b1 b2 b3 b4 b5 b6 c0 c1 c2 c3 c4 c5 c6
 generalize e.kids[0]=x0 at *
 generalize e.kids[1]=x1 at *
 generalize e.kids[2]=x2 at *
 obtain ⟨P0,hP0,eP0⟩:=bytes_of x0.text
 obtain ⟨P1,hP1,eP1⟩:=bytes_of x1.text
 obtain ⟨P2,hP2,eP2⟩:=bytes_of x2.text
 have hk0:∀ W0 W,Below w.heap.size w W0→Below W0.heap.size W0 W→Calls Tryz.prog 22 #[.agg #[.int .i64 x0.op,.string ⟨x0.name.toArray⟩,.string ⟨x0.module.toArray⟩,.string ⟨(intF x0.num).toArray⟩,.bool x0.yes,.slice ak0 x0.kids.length ck0,.int .i64 x0.at_]] W fun r w'=>r=.returned (.string P0)∧Below W0.heap.size W0 w':=fun W0 W h0 h1=>by
  have hW:=h0.trans (h1.mono h0.size)
  exact (hK0 B m0 ak0 ck0 W (hE0.frame (Alk.of hW)) (Nat.le_trans hB hW.size) (by omega)).mono fun r w' q=>⟨by rw [q.1,eP0],h1.trans (q.2.mono h1.size)⟩
 have HX0:=Lib.hid hk0
 have hk1:∀ W0 W,Below w.heap.size w W0→Below W0.heap.size W0 W→Calls Tryz.prog 22 #[.agg #[.int .i64 x1.op,.string ⟨x1.name.toArray⟩,.string ⟨x1.module.toArray⟩,.string ⟨(intF x1.num).toArray⟩,.bool x1.yes,.slice ak1 x1.kids.length ck1,.int .i64 x1.at_]] W fun r w'=>r=.returned (.string P1)∧Below W0.heap.size W0 w':=fun W0 W h0 h1=>by
  have hW:=h0.trans (h1.mono h0.size)
  exact (hK1 B m1 ak1 ck1 W (hE1.frame (Alk.of hW)) (Nat.le_trans hB hW.size) (by omega)).mono fun r w' q=>⟨by rw [q.1,eP1],h1.trans (q.2.mono h1.size)⟩
 have HX1:=Lib.hid hk1
 have hk2:∀ W0 W,Below w.heap.size w W0→Below W0.heap.size W0 W→Calls Tryz.prog 22 #[.agg #[.int .i64 x2.op,.string ⟨x2.name.toArray⟩,.string ⟨x2.module.toArray⟩,.string ⟨(intF x2.num).toArray⟩,.bool x2.yes,.slice ak2 x2.kids.length ck2,.int .i64 x2.at_]] W fun r w'=>r=.returned (.string P2)∧Below W0.heap.size W0 w':=fun W0 W h0 h1=>by
  have hW:=h0.trans (h1.mono h0.size)
  exact (hK2 B m2 ak2 ck2 W (hE2.frame (Alk.of hW)) (Nat.le_trans hB hW.size) (by omega)).mono fun r w' q=>⟨by rw [q.1,eP2],h1.trans (q.2.mono h1.size)⟩
 have HX2:=Lib.hid hk2
 have HTX:Hid (e.text=([105,102,32]:List UInt8)++P0.data.toList++([32,116,104,101,110,32]:List UInt8)++P1.data.toList++([32,101,108,115,101,32]:List UInt8)++P2.data.toList):=Lib.hid (by rw [htx,hP0,hP1,hP2])
 have hsz:3+P0.size+6+P1.size+6+P2.size≤1099511627776:=by
  have:=congrArg List.length HTX.out
  simp only [List.length_append,List.length_cons,List.length_nil,size_list] at this
  omega
 clear E htx hlx hln hl hll hm0 hK0 hE0 hk0 hP0 eP0 hm1 hK1 hE1 hk1 hP1 eP1 hm2 hK2 hE2 hk2 hP2 eP2
 generalize ByteArray.mk (intF e.num).toArray=NX at *
 generalize ByteArray.mk (intF x0.num).toArray=XN0 at *
 generalize ByteArray.mk (intF x1.num).toArray=XN1 at *
 generalize ByteArray.mk (intF x2.num).toArray=XN2 at *
 generalize e.text=out at *
 generalize hop':e.op=op at *
 subst hop
 generalize hnn:e.kids.length=nk at *
 have hnI0:0<nk:=by omega
 have hnJ0:(0:Int)<(nk:Int):=by omega
 have hnI1:1<nk:=by omega
 have hnJ1:(1:Int)<(nk:Int):=by omega
 have hnI2:2<nk:=by omega
 have hnJ2:(2:Int)<(nk:Int):=by omega
 clear hkn hnn hop'
 have hbw:=below_new w (.cells (boxY 21 ⟨e.name.toArray⟩ ⟨e.module.toArray⟩ NX e.yes (.slice (some ⟨kb,off,none⟩) nk ce) e.at_) 55)
 have hN:=heap_alloc_new w (.cells (boxY 21 ⟨e.name.toArray⟩ ⟨e.module.toArray⟩ NX e.yes (.slice (some ⟨kb,off,none⟩) nk ce) e.at_) 55)
 go_enter Tryz.func22,Tryz.ntmps22
 go_upto_region 1 with fail
 change Code.wp _ _ _ _ (w.alloc (.cells (boxY 21 ⟨e.name.toArray⟩ ⟨e.module.toArray⟩ NX e.yes (.slice (some ⟨kb,off,none⟩) nk ce) e.at_) 55))
 generalize w.alloc _=w1 at hbw hN ⊢
 have hl1:=(Array.getElem?_eq_some_iff.1 hN).1
 have hz1:=hbw.size
 have HN:=Lib.hid hN
 obtain ⟨y0,y1,y2,y3,y4,y5,y6⟩:=boxY_cells hN
 clear hN
 have hkw:kb<w.heap.size:=by omega
 have hS:∀ W:World,Below w1.heap.size w1 W→W.cell? ⟨w.heap.size,5,none⟩=some (.slice (some ⟨kb,off,none⟩) nk ce)∧W.cell? ⟨kb,off,none⟩=some (.int .i64 x0.op)∧W.cell? ⟨kb,off+1,none⟩=some (.string ⟨x0.name.toArray⟩)∧W.cell? ⟨kb,off+2,none⟩=some (.string ⟨x0.module.toArray⟩)∧W.cell? ⟨kb,off+3,none⟩=some (.string XN0)∧W.cell? ⟨kb,off+4,none⟩=some (.bool x0.yes)∧W.cell? ⟨kb,off+5,none⟩=some (.slice ak0 x0.kids.length ck0)∧W.cell? ⟨kb,off+6,none⟩=some (.int .i64 x0.at_)∧W.cell? ⟨kb,off+7,none⟩=some (.int .i64 x1.op)∧W.cell? ⟨kb,off+7+1,none⟩=some (.string ⟨x1.name.toArray⟩)∧W.cell? ⟨kb,off+7+2,none⟩=some (.string ⟨x1.module.toArray⟩)∧W.cell? ⟨kb,off+7+3,none⟩=some (.string XN1)∧W.cell? ⟨kb,off+7+4,none⟩=some (.bool x1.yes)∧W.cell? ⟨kb,off+7+5,none⟩=some (.slice ak1 x1.kids.length ck1)∧W.cell? ⟨kb,off+7+6,none⟩=some (.int .i64 x1.at_)∧W.cell? ⟨kb,off+14,none⟩=some (.int .i64 x2.op)∧W.cell? ⟨kb,off+14+1,none⟩=some (.string ⟨x2.name.toArray⟩)∧W.cell? ⟨kb,off+14+2,none⟩=some (.string ⟨x2.module.toArray⟩)∧W.cell? ⟨kb,off+14+3,none⟩=some (.string XN2)∧W.cell? ⟨kb,off+14+4,none⟩=some (.bool x2.yes)∧W.cell? ⟨kb,off+14+5,none⟩=some (.slice ak2 x2.kids.length ck2)∧W.cell? ⟨kb,off+14+6,none⟩=some (.int .i64 x2.at_):=fun W hq=>⟨(hq.cell (p:=⟨w.heap.size,5,none⟩) hl1).trans y5,((hbw.trans (hq.mono hz1)).cell (p:=⟨kb,off,none⟩) hkw).trans a0,((hbw.trans (hq.mono hz1)).cell (p:=⟨kb,off+1,none⟩) hkw).trans a1,((hbw.trans (hq.mono hz1)).cell (p:=⟨kb,off+2,none⟩) hkw).trans a2,((hbw.trans (hq.mono hz1)).cell (p:=⟨kb,off+3,none⟩) hkw).trans a3,((hbw.trans (hq.mono hz1)).cell (p:=⟨kb,off+4,none⟩) hkw).trans a4,((hbw.trans (hq.mono hz1)).cell (p:=⟨kb,off+5,none⟩) hkw).trans a5,((hbw.trans (hq.mono hz1)).cell (p:=⟨kb,off+6,none⟩) hkw).trans a6,((hbw.trans (hq.mono hz1)).cell (p:=⟨kb,off+7,none⟩) hkw).trans b0,((hbw.trans (hq.mono hz1)).cell (p:=⟨kb,off+7+1,none⟩) hkw).trans b1,((hbw.trans (hq.mono hz1)).cell (p:=⟨kb,off+7+2,none⟩) hkw).trans b2,((hbw.trans (hq.mono hz1)).cell (p:=⟨kb,off+7+3,none⟩) hkw).trans b3,((hbw.trans (hq.mono hz1)).cell (p:=⟨kb,off+7+4,none⟩) hkw).trans b4,((hbw.trans (hq.mono hz1)).cell (p:=⟨kb,off+7+5,none⟩) hkw).trans b5,((hbw.trans (hq.mono hz1)).cell (p:=⟨kb,off+7+6,none⟩) hkw).trans b6,((hbw.trans (hq.mono hz1)).cell (p:=⟨kb,off+14,none⟩) hkw).trans c0,((hbw.trans (hq.mono hz1)).cell (p:=⟨kb,off+14+1,none⟩) hkw).trans c1,((hbw.trans (hq.mono hz1)).cell (p:=⟨kb,off+14+2,none⟩) hkw).trans c2,((hbw.trans (hq.mono hz1)).cell (p:=⟨kb,off+14+3,none⟩) hkw).trans c3,((hbw.trans (hq.mono hz1)).cell (p:=⟨kb,off+14+4,none⟩) hkw).trans c4,((hbw.trans (hq.mono hz1)).cell (p:=⟨kb,off+14+5,none⟩) hkw).trans c5,((hbw.trans (hq.mono hz1)).cell (p:=⟨kb,off+14+6,none⟩) hkw).trans c6⟩
 have HS:=Lib.hid hS
 have p0:=hS w1 (Below.refl _ _)
 have hs0:¬ (9223372036854775807<3+P0.size):=by omega
 have hs1:¬ (9223372036854775807<3+P0.size+6):=by omega
 have hs2:¬ (9223372036854775807<3+P0.size+6+P1.size):=by omega
 have hs3:¬ (9223372036854775807<3+P0.size+6+P1.size+6):=by omega
 have hs4:¬ (9223372036854775807<3+P0.size+6+P1.size+6+P2.size):=by omega
 have HY0:=Lib.hid (fun W=>HX0.out w1 W hbw)
 have HY1:=Lib.hid (fun W=>HX1.out w1 W hbw)
 have HY2:=Lib.hid (fun W=>HX2.out w1 W hbw)
 clear hS HX0 HX1 HX2
 go_upto_region 17 with fail
 go_region_held3 (fun W=>W.cell? ⟨w.heap.size,5,none⟩=some (.slice (some ⟨kb,off,none⟩) nk ce)∧W.cell? ⟨kb,off,none⟩=some (.int .i64 x0.op)∧W.cell? ⟨kb,off+1,none⟩=some (.string ⟨x0.name.toArray⟩)∧W.cell? ⟨kb,off+2,none⟩=some (.string ⟨x0.module.toArray⟩)∧W.cell? ⟨kb,off+3,none⟩=some (.string XN0)∧W.cell? ⟨kb,off+4,none⟩=some (.bool x0.yes)∧W.cell? ⟨kb,off+5,none⟩=some (.slice ak0 x0.kids.length ck0)∧W.cell? ⟨kb,off+6,none⟩=some (.int .i64 x0.at_)∧W.cell? ⟨kb,off+7,none⟩=some (.int .i64 x1.op)∧W.cell? ⟨kb,off+7+1,none⟩=some (.string ⟨x1.name.toArray⟩)∧W.cell? ⟨kb,off+7+2,none⟩=some (.string ⟨x1.module.toArray⟩)∧W.cell? ⟨kb,off+7+3,none⟩=some (.string XN1)∧W.cell? ⟨kb,off+7+4,none⟩=some (.bool x1.yes)∧W.cell? ⟨kb,off+7+5,none⟩=some (.slice ak1 x1.kids.length ck1)∧W.cell? ⟨kb,off+7+6,none⟩=some (.int .i64 x1.at_)∧W.cell? ⟨kb,off+14,none⟩=some (.int .i64 x2.op)∧W.cell? ⟨kb,off+14+1,none⟩=some (.string ⟨x2.name.toArray⟩)∧W.cell? ⟨kb,off+14+2,none⟩=some (.string ⟨x2.module.toArray⟩)∧W.cell? ⟨kb,off+14+3,none⟩=some (.string XN2)∧W.cell? ⟨kb,off+14+4,none⟩=some (.bool x2.yes)∧W.cell? ⟨kb,off+14+5,none⟩=some (.slice ak2 x2.kids.length ck2)∧W.cell? ⟨kb,off+14+6,none⟩=some (.int .i64 x2.at_))
  (first|(with_reducible exact p3)|(go_keep;done))
  (first|(go_at_call 22;(with_reducible refine (HY0.out _ (Below.refl _ _).drew).mono ?_);rintro r wA0 ⟨rfl,hq0⟩;have p3:=HS.out _ hq0)|(go_at_call 22;(with_reducible refine (HY1.out _ hq0).mono ?_);rintro r wA1 ⟨rfl,hq1⟩;have p3:=HS.out _ hq1)|(go_at_call 22;(with_reducible refine (HY2.out _ hq1).mono ?_);rintro r wA2 ⟨rfl,hq2⟩;have p3:=HS.out _ hq2))
 go_wp2
 go_ret
 exact ⟨ret_strY (by rw [HTX.out];simp),hbw.trans (hq2.mono hz1)⟩
theorem rtext_lett {e:PZ}{B:Nat}{ae:Option Addr}{w:World}(E:TxEnv e B ae w)(hop:e.op=22)(hkn:e.kids.length=2)(ce:Nat) :
  Calls Tryz.prog 22 #[.agg #[.int .i64 e.op,.string ⟨e.name.toArray⟩,.string ⟨e.module.toArray⟩,.string ⟨(intF e.num).toArray⟩,.bool e.yes,.slice ae e.kids.length ce,.int .i64 e.at_]] w (StrPost e.text w):=by
 have hks:∃ l,e.kids=l∧l.length=2:=⟨_,rfl,hkn⟩
 obtain ⟨l,hl,hll⟩:=hks
 have htx:e.text=([108,101,116,32]:List UInt8)++e.name++([32,61,32]:List UInt8)++e.kids[0].text++([32,105,110,32]:List UInt8)++e.kids[1].text:=by
  have:∀ l:List PZ,(hl:l.length=2)→showF 22 e.name e.module e.num e.yes (textsZ l)=([108,101,116,32]:List UInt8)++e.name++([32,61,32]:List UInt8)++l[0].text++([32,105,110,32]:List UInt8)++l[1].text:=by
   intro l hl
   match l,hl with
   | [a,b],_=>simp [showF,textsZ]
  rw [e.text_def,hop];exact this _ hkn
 have hln:=E.len
 have hlx:=congrArg List.length htx
 simp only [List.length_append,List.length_cons,List.length_nil] at hlx
 have hB:=E.hB
 have hm0:e.kids[0]∈e.kids:=List.getElem_mem _
 have hK0:=E.does _ hm0
 obtain ⟨kb,off,m0,ak0,ck0,hae,hkB,hE0,a0,a1,a2,a3,a4,a5,a6⟩:=E.kids.at (Below.refl _ _) (show 0<e.kids.length by omega)
 subst hae
 have hm1:e.kids[1]∈e.kids:=List.getElem_mem _
 have hK1:=E.does _ hm1
 obtain ⟨kb',off',m1,ak1,ck1,hae',hkB',hE1,b0,b1,b2,b3,b4,b5,b6⟩:=E.kids.at (Below.refl _ _) (show 1<e.kids.length by omega)
 simp only [Option.some.injEq,Addr.mk.injEq,and_true] at hae'
 obtain ⟨rfl,rfl⟩:=hae'
 clear hkB'
 simp only [Nat.zero_mul,Nat.one_mul,Nat.add_zero,Nat.reduceMul] at a0 a1 a2 a3 a4 a5 a6 b0 b1 b2 b3 b4 b5 b6
 generalize e.kids[0]=x0 at *
 generalize e.kids[1]=x1 at *
 obtain ⟨P0,hP0,eP0⟩:=bytes_of x0.text
 obtain ⟨P1,hP1,eP1⟩:=bytes_of x1.text
 have hk0:∀ W0 W,Below w.heap.size w W0→Below W0.heap.size W0 W→Calls Tryz.prog 22 #[.agg #[.int .i64 x0.op,.string ⟨x0.name.toArray⟩,.string ⟨x0.module.toArray⟩,.string ⟨(intF x0.num).toArray⟩,.bool x0.yes,.slice ak0 x0.kids.length ck0,.int .i64 x0.at_]] W fun r w'=>r=.returned (.string P0)∧Below W0.heap.size W0 w':=fun W0 W h0 h1=>by
  have hW:=h0.trans (h1.mono h0.size)
  exact (hK0 B m0 ak0 ck0 W (hE0.frame (Alk.of hW)) (Nat.le_trans hB hW.size) (by omega)).mono fun r w' q=>⟨by rw [q.1,eP0],h1.trans (q.2.mono h1.size)⟩
 have HX0:=Lib.hid hk0
 have hk1:∀ W0 W,Below w.heap.size w W0→Below W0.heap.size W0 W→Calls Tryz.prog 22 #[.agg #[.int .i64 x1.op,.string ⟨x1.name.toArray⟩,.string ⟨x1.module.toArray⟩,.string ⟨(intF x1.num).toArray⟩,.bool x1.yes,.slice ak1 x1.kids.length ck1,.int .i64 x1.at_]] W fun r w'=>r=.returned (.string P1)∧Below W0.heap.size W0 w':=fun W0 W h0 h1=>by
  have hW:=h0.trans (h1.mono h0.size)
  exact (hK1 B m1 ak1 ck1 W (hE1.frame (Alk.of hW)) (Nat.le_trans hB hW.size) (by omega)).mono fun r w' q=>⟨by rw [q.1,eP1],h1.trans (q.2.mono h1.size)⟩
 have HX1:=Lib.hid hk1
 obtain ⟨NM,hNM,eN⟩:=bytes_of e.name
 have HTX:Hid (e.text=([108,101,116,32]:List UInt8)++NM.data.toList++([32,61,32]:List UInt8)++P0.data.toList++([32,105,110,32]:List UInt8)++P1.data.toList):=Lib.hid (by rw [htx,hP0,hP1,hNM])
 have hsz:4+NM.size+3+P0.size+4+P1.size≤1099511627776:=by
  have:=congrArg List.length HTX.out
  simp only [List.length_append,List.length_cons,List.length_nil,size_list] at this
  omega
 rw [eN]
 clear E htx hlx hln hl hll hm0 hK0 hE0 hk0 hP0 eP0 hm1 hK1 hE1 hk1 hP1 eP1 hNM eN
 generalize ByteArray.mk (intF e.num).toArray=NX at *
 generalize ByteArray.mk (intF x0.num).toArray=XN0 at *
 generalize ByteArray.mk (intF x1.num).toArray=XN1 at *
 generalize e.text=out at *
 generalize hop':e.op=op at *
 subst hop
 generalize hnn:e.kids.length=nk at *
 have hnI0:0<nk:=by omega
 have hnJ0:(0:Int)<(nk:Int):=by omega
 have hnI1:1<nk:=by omega
 have hnJ1:(1:Int)<(nk:Int):=by omega
 clear hkn hnn hop'
 have hbw:=below_new w (.cells (boxY 22 NM ⟨e.module.toArray⟩ NX e.yes (.slice (some ⟨kb,off,none⟩) nk ce) e.at_) 55)
 have hN:=heap_alloc_new w (.cells (boxY 22 NM ⟨e.module.toArray⟩ NX e.yes (.slice (some ⟨kb,off,none⟩) nk ce) e.at_) 55)
 go_enter Tryz.func22,Tryz.ntmps22
 go_upto_region 1 with fail
 change Code.wp _ _ _ _ (w.alloc (.cells (boxY 22 NM ⟨e.module.toArray⟩ NX e.yes (.slice (some ⟨kb,off,none⟩) nk ce) e.at_) 55))
 generalize w.alloc _=w1 at hbw hN ⊢
 have hl1:=(Array.getElem?_eq_some_iff.1 hN).1
 have hz1:=hbw.size
 have HN:=Lib.hid hN
 obtain ⟨y0,y1,y2,y3,y4,y5,y6⟩:=boxY_cells hN
 clear hN
 have hkw:kb<w.heap.size:=by omega
 have hS:∀ W:World,Below w1.heap.size w1 W→W.cell? ⟨w.heap.size,5,none⟩=some (.slice (some ⟨kb,off,none⟩) nk ce)∧W.cell? ⟨w.heap.size,1,none⟩=some (.string NM)∧W.cell? ⟨kb,off,none⟩=some (.int .i64 x0.op)∧W.cell? ⟨kb,off+1,none⟩=some (.string ⟨x0.name.toArray⟩)∧W.cell? ⟨kb,off+2,none⟩=some (.string ⟨x0.module.toArray⟩)∧W.cell? ⟨kb,off+3,none⟩=some (.string XN0)∧W.cell? ⟨kb,off+4,none⟩=some (.bool x0.yes)∧W.cell? ⟨kb,off+5,none⟩=some (.slice ak0 x0.kids.length ck0)∧W.cell? ⟨kb,off+6,none⟩=some (.int .i64 x0.at_)∧W.cell? ⟨kb,off+7,none⟩=some (.int .i64 x1.op)∧W.cell? ⟨kb,off+7+1,none⟩=some (.string ⟨x1.name.toArray⟩)∧W.cell? ⟨kb,off+7+2,none⟩=some (.string ⟨x1.module.toArray⟩)∧W.cell? ⟨kb,off+7+3,none⟩=some (.string XN1)∧W.cell? ⟨kb,off+7+4,none⟩=some (.bool x1.yes)∧W.cell? ⟨kb,off+7+5,none⟩=some (.slice ak1 x1.kids.length ck1)∧W.cell? ⟨kb,off+7+6,none⟩=some (.int .i64 x1.at_):=fun W hq=>⟨(hq.cell (p:=⟨w.heap.size,5,none⟩) hl1).trans y5,(hq.cell (p:=⟨w.heap.size,1,none⟩) hl1).trans y1,((hbw.trans (hq.mono hz1)).cell (p:=⟨kb,off,none⟩) hkw).trans a0,((hbw.trans (hq.mono hz1)).cell (p:=⟨kb,off+1,none⟩) hkw).trans a1,((hbw.trans (hq.mono hz1)).cell (p:=⟨kb,off+2,none⟩) hkw).trans a2,((hbw.trans (hq.mono hz1)).cell (p:=⟨kb,off+3,none⟩) hkw).trans a3,((hbw.trans (hq.mono hz1)).cell (p:=⟨kb,off+4,none⟩) hkw).trans a4,((hbw.trans (hq.mono hz1)).cell (p:=⟨kb,off+5,none⟩) hkw).trans a5,((hbw.trans (hq.mono hz1)).cell (p:=⟨kb,off+6,none⟩) hkw).trans a6,((hbw.trans (hq.mono hz1)).cell (p:=⟨kb,off+7,none⟩) hkw).trans b0,((hbw.trans (hq.mono hz1)).cell (p:=⟨kb,off+7+1,none⟩) hkw).trans b1,((hbw.trans (hq.mono hz1)).cell (p:=⟨kb,off+7+2,none⟩) hkw).trans b2,((hbw.trans (hq.mono hz1)).cell (p:=⟨kb,off+7+3,none⟩) hkw).trans b3,((hbw.trans (hq.mono hz1)).cell (p:=⟨kb,off+7+4,none⟩) hkw).trans b4,((hbw.trans (hq.mono hz1)).cell (p:=⟨kb,off+7+5,none⟩) hkw).trans b5,((hbw.trans (hq.mono hz1)).cell (p:=⟨kb,off+7+6,none⟩) hkw).trans b6⟩
 have HS:=Lib.hid hS
 have p0:=hS w1 (Below.refl _ _)
 have hs0:¬ (9223372036854775807<4+NM.size):=by omega
 have hs1:¬ (9223372036854775807<4+NM.size+3):=by omega
 have hs2:¬ (9223372036854775807<4+NM.size+3+P0.size):=by omega
 have hs3:¬ (9223372036854775807<4+NM.size+3+P0.size+4):=by omega
 have hs4:¬ (9223372036854775807<4+NM.size+3+P0.size+4+P1.size):=by omega
 have HY0:=Lib.hid (fun W=>HX0.out w1 W hbw)
 have HY1:=Lib.hid (fun W=>HX1.out w1 W hbw)
 clear hS HX0 HX1
 go_upto_region 19 with fail
 go_region_held3 (fun W=>W.cell? ⟨w.heap.size,5,none⟩=some (.slice (some ⟨kb,off,none⟩) nk ce)∧W.cell? ⟨w.heap.size,1,none⟩=some (.string NM)∧W.cell? ⟨kb,off,none⟩=some (.int .i64 x0.op)∧W.cell? ⟨kb,off+1,none⟩=some (.string ⟨x0.name.toArray⟩)∧W.cell? ⟨kb,off+2,none⟩=some (.string ⟨x0.module.toArray⟩)∧W.cell? ⟨kb,off+3,none⟩=some (.string XN0)∧W.cell? ⟨kb,off+4,none⟩=some (.bool x0.yes)∧W.cell? ⟨kb,off+5,none⟩=some (.slice ak0 x0.kids.length ck0)∧W.cell? ⟨kb,off+6,none⟩=some (.int .i64 x0.at_)∧W.cell? ⟨kb,off+7,none⟩=some (.int .i64 x1.op)∧W.cell? ⟨kb,off+7+1,none⟩=some (.string ⟨x1.name.toArray⟩)∧W.cell? ⟨kb,off+7+2,none⟩=some (.string ⟨x1.module.toArray⟩)∧W.cell? ⟨kb,off+7+3,none⟩=some (.string XN1)∧W.cell? ⟨kb,off+7+4,none⟩=some (.bool x1.yes)∧W.cell? ⟨kb,off+7+5,none⟩=some (.slice ak1 x1.kids.length ck1)∧W.cell? ⟨kb,off+7+6,none⟩=some (.int .i64 x1.at_))
  (first|(with_reducible exact p3)|(go_keep;done))
  (first|(go_at_call 22;(with_reducible refine (HY0.out _ (Below.refl _ _).drew).mono ?_);rintro r wA0 ⟨rfl,hq0⟩;have p3:=HS.out _ hq0)|(go_at_call 22;(with_reducible refine (HY1.out _ hq0).mono ?_);rintro r wA1 ⟨rfl,hq1⟩;have p3:=HS.out _ hq1))
 go_wp2
 go_ret
 exact ⟨ret_strY (by rw [HTX.out];simp),hbw.trans (hq1.mono hz1)⟩
theorem rtext_asrt {e:PZ}{B:Nat}{ae:Option Addr}{w:World}(E:TxEnv e B ae w)(hop:e.op=23)(hkn:e.kids.length=2)(ce:Nat) :
  Calls Tryz.prog 22 #[.agg #[.int .i64 e.op,.string ⟨e.name.toArray⟩,.string ⟨e.module.toArray⟩,.string ⟨(intF e.num).toArray⟩,.bool e.yes,.slice ae e.kids.length ce,.int .i64 e.at_]] w (StrPost e.text w):=by
 have hks:∃ l,e.kids=l∧l.length=2:=⟨_,rfl,hkn⟩
 obtain ⟨l,hl,hll⟩:=hks
 have htx:e.text=([97,115,115,101,114,116,32]:List UInt8)++e.kids[0].text++([32,105,110,32]:List UInt8)++e.kids[1].text:=by
  have:∀ l:List PZ,(hl:l.length=2)→showF 23 e.name e.module e.num e.yes (textsZ l)=([97,115,115,101,114,116,32]:List UInt8)++l[0].text++([32,105,110,32]:List UInt8)++l[1].text:=by
   intro l hl
   match l,hl with
   | [a,b],_=>simp [showF,textsZ]
  rw [e.text_def,hop];exact this _ hkn
 have hln:=E.len
 have hlx:=congrArg List.length htx
 simp only [List.length_append,List.length_cons,List.length_nil] at hlx
 have hB:=E.hB
 have hm0:e.kids[0]∈e.kids:=List.getElem_mem _
 have hK0:=E.does _ hm0
 obtain ⟨kb,off,m0,ak0,ck0,hae,hkB,hE0,a0,a1,a2,a3,a4,a5,a6⟩:=E.kids.at (Below.refl _ _) (show 0<e.kids.length by omega)
 subst hae
 have hm1:e.kids[1]∈e.kids:=List.getElem_mem _
 have hK1:=E.does _ hm1
 obtain ⟨kb',off',m1,ak1,ck1,hae',hkB',hE1,b0,b1,b2,b3,b4,b5,b6⟩:=E.kids.at (Below.refl _ _) (show 1<e.kids.length by omega)
 simp only [Option.some.injEq,Addr.mk.injEq,and_true] at hae'
 obtain ⟨rfl,rfl⟩:=hae'
 clear hkB'
 simp only [Nat.zero_mul,Nat.one_mul,Nat.add_zero,Nat.reduceMul] at a0 a1 a2 a3 a4 a5 a6 b0 b1 b2 b3 b4 b5 b6
 generalize e.kids[0]=x0 at *
 generalize e.kids[1]=x1 at *
 obtain ⟨P0,hP0,eP0⟩:=bytes_of x0.text
 obtain ⟨P1,hP1,eP1⟩:=bytes_of x1.text
 have hk0:∀ W0 W,Below w.heap.size w W0→Below W0.heap.size W0 W→Calls Tryz.prog 22 #[.agg #[.int .i64 x0.op,.string ⟨x0.name.toArray⟩,.string ⟨x0.module.toArray⟩,.string ⟨(intF x0.num).toArray⟩,.bool x0.yes,.slice ak0 x0.kids.length ck0,.int .i64 x0.at_]] W fun r w'=>r=.returned (.string P0)∧Below W0.heap.size W0 w':=fun W0 W h0 h1=>by
  have hW:=h0.trans (h1.mono h0.size)
  exact (hK0 B m0 ak0 ck0 W (hE0.frame (Alk.of hW)) (Nat.le_trans hB hW.size) (by omega)).mono fun r w' q=>⟨by rw [q.1,eP0],h1.trans (q.2.mono h1.size)⟩
 have HX0:=Lib.hid hk0
 have hk1:∀ W0 W,Below w.heap.size w W0→Below W0.heap.size W0 W→Calls Tryz.prog 22 #[.agg #[.int .i64 x1.op,.string ⟨x1.name.toArray⟩,.string ⟨x1.module.toArray⟩,.string ⟨(intF x1.num).toArray⟩,.bool x1.yes,.slice ak1 x1.kids.length ck1,.int .i64 x1.at_]] W fun r w'=>r=.returned (.string P1)∧Below W0.heap.size W0 w':=fun W0 W h0 h1=>by
  have hW:=h0.trans (h1.mono h0.size)
  exact (hK1 B m1 ak1 ck1 W (hE1.frame (Alk.of hW)) (Nat.le_trans hB hW.size) (by omega)).mono fun r w' q=>⟨by rw [q.1,eP1],h1.trans (q.2.mono h1.size)⟩
 have HX1:=Lib.hid hk1
 have HTX:Hid (e.text=([97,115,115,101,114,116,32]:List UInt8)++P0.data.toList++([32,105,110,32]:List UInt8)++P1.data.toList):=Lib.hid (by rw [htx,hP0,hP1])
 have hsz:7+P0.size+4+P1.size≤1099511627776:=by
  have:=congrArg List.length HTX.out
  simp only [List.length_append,List.length_cons,List.length_nil,size_list] at this
  omega
 clear E htx hlx hln hl hll hm0 hK0 hE0 hk0 hP0 eP0 hm1 hK1 hE1 hk1 hP1 eP1
 generalize ByteArray.mk (intF e.num).toArray=NX at *
 generalize ByteArray.mk (intF x0.num).toArray=XN0 at *
 generalize ByteArray.mk (intF x1.num).toArray=XN1 at *
 generalize e.text=out at *
 generalize hop':e.op=op at *
 subst hop
 generalize hnn:e.kids.length=nk at *
 have hnI0:0<nk:=by omega
 have hnJ0:(0:Int)<(nk:Int):=by omega
 have hnI1:1<nk:=by omega
 have hnJ1:(1:Int)<(nk:Int):=by omega
 clear hkn hnn hop'
 have hbw:=below_new w (.cells (boxY 23 ⟨e.name.toArray⟩ ⟨e.module.toArray⟩ NX e.yes (.slice (some ⟨kb,off,none⟩) nk ce) e.at_) 55)
 have hN:=heap_alloc_new w (.cells (boxY 23 ⟨e.name.toArray⟩ ⟨e.module.toArray⟩ NX e.yes (.slice (some ⟨kb,off,none⟩) nk ce) e.at_) 55)
 go_enter Tryz.func22,Tryz.ntmps22
 go_upto_region 1 with fail
 change Code.wp _ _ _ _ (w.alloc (.cells (boxY 23 ⟨e.name.toArray⟩ ⟨e.module.toArray⟩ NX e.yes (.slice (some ⟨kb,off,none⟩) nk ce) e.at_) 55))
 generalize w.alloc _=w1 at hbw hN ⊢
 have hl1:=(Array.getElem?_eq_some_iff.1 hN).1
 have hz1:=hbw.size
 have HN:=Lib.hid hN
 obtain ⟨y0,y1,y2,y3,y4,y5,y6⟩:=boxY_cells hN
 clear hN
 have hkw:kb<w.heap.size:=by omega
 have hS:∀ W:World,Below w1.heap.size w1 W→W.cell? ⟨w.heap.size,5,none⟩=some (.slice (some ⟨kb,off,none⟩) nk ce)∧W.cell? ⟨kb,off,none⟩=some (.int .i64 x0.op)∧W.cell? ⟨kb,off+1,none⟩=some (.string ⟨x0.name.toArray⟩)∧W.cell? ⟨kb,off+2,none⟩=some (.string ⟨x0.module.toArray⟩)∧W.cell? ⟨kb,off+3,none⟩=some (.string XN0)∧W.cell? ⟨kb,off+4,none⟩=some (.bool x0.yes)∧W.cell? ⟨kb,off+5,none⟩=some (.slice ak0 x0.kids.length ck0)∧W.cell? ⟨kb,off+6,none⟩=some (.int .i64 x0.at_)∧W.cell? ⟨kb,off+7,none⟩=some (.int .i64 x1.op)∧W.cell? ⟨kb,off+7+1,none⟩=some (.string ⟨x1.name.toArray⟩)∧W.cell? ⟨kb,off+7+2,none⟩=some (.string ⟨x1.module.toArray⟩)∧W.cell? ⟨kb,off+7+3,none⟩=some (.string XN1)∧W.cell? ⟨kb,off+7+4,none⟩=some (.bool x1.yes)∧W.cell? ⟨kb,off+7+5,none⟩=some (.slice ak1 x1.kids.length ck1)∧W.cell? ⟨kb,off+7+6,none⟩=some (.int .i64 x1.at_):=fun W hq=>⟨(hq.cell (p:=⟨w.heap.size,5,none⟩) hl1).trans y5,((hbw.trans (hq.mono hz1)).cell (p:=⟨kb,off,none⟩) hkw).trans a0,((hbw.trans (hq.mono hz1)).cell (p:=⟨kb,off+1,none⟩) hkw).trans a1,((hbw.trans (hq.mono hz1)).cell (p:=⟨kb,off+2,none⟩) hkw).trans a2,((hbw.trans (hq.mono hz1)).cell (p:=⟨kb,off+3,none⟩) hkw).trans a3,((hbw.trans (hq.mono hz1)).cell (p:=⟨kb,off+4,none⟩) hkw).trans a4,((hbw.trans (hq.mono hz1)).cell (p:=⟨kb,off+5,none⟩) hkw).trans a5,((hbw.trans (hq.mono hz1)).cell (p:=⟨kb,off+6,none⟩) hkw).trans a6,((hbw.trans (hq.mono hz1)).cell (p:=⟨kb,off+7,none⟩) hkw).trans b0,((hbw.trans (hq.mono hz1)).cell (p:=⟨kb,off+7+1,none⟩) hkw).trans b1,((hbw.trans (hq.mono hz1)).cell (p:=⟨kb,off+7+2,none⟩) hkw).trans b2,((hbw.trans (hq.mono hz1)).cell (p:=⟨kb,off+7+3,none⟩) hkw).trans b3,((hbw.trans (hq.mono hz1)).cell (p:=⟨kb,off+7+4,none⟩) hkw).trans b4,((hbw.trans (hq.mono hz1)).cell (p:=⟨kb,off+7+5,none⟩) hkw).trans b5,((hbw.trans (hq.mono hz1)).cell (p:=⟨kb,off+7+6,none⟩) hkw).trans b6⟩
 have HS:=Lib.hid hS
 have p0:=hS w1 (Below.refl _ _)
 have hs0:¬ (9223372036854775807<7+P0.size):=by omega
 have hs1:¬ (9223372036854775807<7+P0.size+4):=by omega
 have hs2:¬ (9223372036854775807<7+P0.size+4+P1.size):=by omega
 have HY0:=Lib.hid (fun W=>HX0.out w1 W hbw)
 have HY1:=Lib.hid (fun W=>HX1.out w1 W hbw)
 clear hS HX0 HX1
 go_upto_region 21 with fail
 go_region_held3 (fun W=>W.cell? ⟨w.heap.size,5,none⟩=some (.slice (some ⟨kb,off,none⟩) nk ce)∧W.cell? ⟨kb,off,none⟩=some (.int .i64 x0.op)∧W.cell? ⟨kb,off+1,none⟩=some (.string ⟨x0.name.toArray⟩)∧W.cell? ⟨kb,off+2,none⟩=some (.string ⟨x0.module.toArray⟩)∧W.cell? ⟨kb,off+3,none⟩=some (.string XN0)∧W.cell? ⟨kb,off+4,none⟩=some (.bool x0.yes)∧W.cell? ⟨kb,off+5,none⟩=some (.slice ak0 x0.kids.length ck0)∧W.cell? ⟨kb,off+6,none⟩=some (.int .i64 x0.at_)∧W.cell? ⟨kb,off+7,none⟩=some (.int .i64 x1.op)∧W.cell? ⟨kb,off+7+1,none⟩=some (.string ⟨x1.name.toArray⟩)∧W.cell? ⟨kb,off+7+2,none⟩=some (.string ⟨x1.module.toArray⟩)∧W.cell? ⟨kb,off+7+3,none⟩=some (.string XN1)∧W.cell? ⟨kb,off+7+4,none⟩=some (.bool x1.yes)∧W.cell? ⟨kb,off+7+5,none⟩=some (.slice ak1 x1.kids.length ck1)∧W.cell? ⟨kb,off+7+6,none⟩=some (.int .i64 x1.at_))
  (first|(with_reducible exact p3)|(go_keep;done))
  (first|(go_at_call 22;(with_reducible refine (HY0.out _ (Below.refl _ _).drew).mono ?_);rintro r wA0 ⟨rfl,hq0⟩;have p3:=HS.out _ hq0)|(go_at_call 22;(with_reducible refine (HY1.out _ hq0).mono ?_);rintro r wA1 ⟨rfl,hq1⟩;have p3:=HS.out _ hq1))
 go_wp2
 go_ret
 exact ⟨ret_strY (by rw [HTX.out];simp),hbw.trans (hq1.mono hz1)⟩
theorem rtext_call {e:PZ}{B:Nat}{ae:Option Addr}{w:World}(E:TxEnv e B ae w)(hop:e.op=24)(ce:Nat) :
  Calls Tryz.prog 22 #[.agg #[.int .i64 e.op,.string ⟨e.name.toArray⟩,.string ⟨e.module.toArray⟩,.string ⟨(intF e.num).toArray⟩,.bool e.yes,.slice ae e.kids.length ce,.int .i64 e.at_]] w (StrPost e.text w):=by
 have hC:∀ W,Below w.heap.size w W→Calls Tryz.prog 49 #[.agg #[.int .i64 e.op,.string ⟨e.name.toArray⟩,.string ⟨e.module.toArray⟩,.string ⟨(intF e.num).toArray⟩,.bool e.yes,.slice ae e.kids.length ce,.int .i64 e.at_]] W (StrPost e.text W):=fun W hW=>by
  have E2:TxEnv e B ae W:=⟨fun h0=>by
   obtain ⟨kb,off,q1,q2,q3,q4⟩:=E.kids h0
   refine ⟨kb,off,q1,q2,Nat.lt_of_lt_of_le q3 hW.size,fun i hi=>?_⟩
   obtain ⟨m',ak',ck',q5,q6⟩:=q4 i hi
   exact ⟨m',ak',ck',q5.frame (Alk.of hW),fun j u hu=>(hW.cell (p:=⟨kb,off+i * 7+j,none⟩) q3).trans (q6 j u hu)⟩,E.does,E.ops,Nat.le_trans E.hB hW.size,E.few,E.len,E.nml,E.mdl⟩
  exact rshcall_any E2 hop ce
 unfold StrPost at hC ⊢
 have HC:=Lib.hid hC
 clear hC E
 generalize e.text=out at *
 generalize ByteArray.mk (intF e.num).toArray=NX at *
 generalize hop':e.op=op at *
 subst hop
 clear hop'
 have hbw:=below_new w (.cells (boxY 24 ⟨e.name.toArray⟩ ⟨e.module.toArray⟩ NX e.yes (.slice ae e.kids.length ce) e.at_) 55)
 have hN:=heap_alloc_new w (.cells (boxY 24 ⟨e.name.toArray⟩ ⟨e.module.toArray⟩ NX e.yes (.slice ae e.kids.length ce) e.at_) 55)
 go_enter Tryz.func22,Tryz.ntmps22
 go_upto_region 1 with fail
 change Code.wp _ _ _ _ (w.alloc (.cells (boxY 24 ⟨e.name.toArray⟩ ⟨e.module.toArray⟩ NX e.yes (.slice ae e.kids.length ce) e.at_) 55))
 generalize w.alloc _=w1 at hbw hN ⊢
 have hl1:=(Array.getElem?_eq_some_iff.1 hN).1
 have hz1:=hbw.size
 have HN:=Lib.hid hN
 obtain ⟨y0,y1,y2,y3,y4,y5,y6⟩:=boxY_cells hN
 clear hN
 have HC1:=Lib.hid (HC.out w1 hbw)
 clear HC
 go_wp2_with (go_at_call 49;refine HC1.out.mono ?_;rintro r w3 ⟨rfl,hb3⟩)
 go_ret
 exact ⟨rfl,hbw.trans (hb3.mono hz1)⟩
theorem rtext_two {e:PZ}{B:Nat}{ae:Option Addr}{w:World}(E:TxEnv e B ae w)(h7:7≤e.op)(h20:e.op≤20)(hkn:e.kids.length=2)(ce:Nat) :
  Calls Tryz.prog 22 #[.agg #[.int .i64 e.op,.string ⟨e.name.toArray⟩,.string ⟨e.module.toArray⟩,.string ⟨(intF e.num).toArray⟩,.bool e.yes,.slice ae e.kids.length ce,.int .i64 e.at_]] w (StrPost e.text w):=by
 have hC:∀ W,Below w.heap.size w W→Calls Tryz.prog 50 #[.agg #[.int .i64 e.op,.string ⟨e.name.toArray⟩,.string ⟨e.module.toArray⟩,.string ⟨(intF e.num).toArray⟩,.bool e.yes,.slice ae e.kids.length ce,.int .i64 e.at_]] W (StrPost e.text W):=fun W hW=>by
  have E2:TxEnv e B ae W:=⟨fun h0=>by
   obtain ⟨kb,off,q1,q2,q3,q4⟩:=E.kids h0
   refine ⟨kb,off,q1,q2,Nat.lt_of_lt_of_le q3 hW.size,fun i hi=>?_⟩
   obtain ⟨m',ak',ck',q5,q6⟩:=q4 i hi
   exact ⟨m',ak',ck',q5.frame (Alk.of hW),fun j u hu=>(hW.cell (p:=⟨kb,off+i * 7+j,none⟩) q3).trans (q6 j u hu)⟩,E.does,E.ops,Nat.le_trans E.hB hW.size,E.few,E.len,E.nml,E.mdl⟩
  exact rtwo_any E2 h7 h20 hkn ce
 unfold StrPost at hC ⊢
 have HC:=Lib.hid hC
 clear hC E
 generalize e.text=out at *
 generalize ByteArray.mk (intF e.num).toArray=NX at *
 obtain ⟨t1,t2,t3,t4,t5,t6,t21,t22,t23,t24⟩:=op_no h7 h20
 clear hkn h7 h20
 generalize e.op=op at *
 have hbw:=below_new w (.cells (boxY op ⟨e.name.toArray⟩ ⟨e.module.toArray⟩ NX e.yes (.slice ae e.kids.length ce) e.at_) 55)
 have hN:=heap_alloc_new w (.cells (boxY op ⟨e.name.toArray⟩ ⟨e.module.toArray⟩ NX e.yes (.slice ae e.kids.length ce) e.at_) 55)
 go_enter Tryz.func22,Tryz.ntmps22
 go_upto_region 1 with fail
 change Code.wp _ _ _ _ (w.alloc (.cells (boxY op ⟨e.name.toArray⟩ ⟨e.module.toArray⟩ NX e.yes (.slice ae e.kids.length ce) e.at_) 55))
 generalize w.alloc _=w1 at hbw hN ⊢
 have hl1:=(Array.getElem?_eq_some_iff.1 hN).1
 have hz1:=hbw.size
 have HN:=Lib.hid hN
 obtain ⟨y0,y1,y2,y3,y4,y5,y6⟩:=boxY_cells hN
 clear hN
 have HC1:=Lib.hid (HC.out w1 hbw)
 clear HC
 go_wp2_with (go_at_call 50;refine HC1.out.mono ?_;rintro r w3 ⟨rfl,hb3⟩)
 go_ret
 exact ⟨rfl,hbw.trans (hb3.mono hz1)⟩
theorem rtextZ_any {fm:Bool}:∀ (n:Nat) (e:PZ),SizeOf.sizeOf e<n→e.right fm=true→e.fit→TxDoes e
 | 0,_,h,_,_=>absurd h (by omega)
 | n+1,e,hs,hr,hf=>by
  have R:=PZ.rightZ hr
  obtain ⟨f1,f2,f3,f4,f5⟩:=PZ.fit_def hf
  have ih:∀ x∈e.kids,TxDoes x:=fun x hx=>rtextZ_any n x (by have:=e.kids_sizeOf x hx;omega) (R.kids x hx) (f5 x hx)
  intro B m ae ce w h hB hn
  have E:TxEnv e B ae w:=⟨h.kidsY,ih,fun x hx=>⟨(PZ.rightZ (R.kids x hx)).op1,(PZ.rightZ (R.kids x hx)).op24⟩,hB,f4,hn,f1,f2⟩
  have F:(1≤e.op∧e.op≤4)∨((e.op=5∨e.op=6)∧e.kids.length=1)∨(7≤e.op∧e.op≤20∧e.kids.length=2)∨(e.op=21∧e.kids.length=3)∨(e.op=22∧e.kids.length=2)∨(e.op=23∧e.kids.length=2)∨(e.op=24∧e.kids.length≤8):=by
   have F:=R.form
   generalize e.op=op at F ⊢
   generalize e.kids.length=c at F ⊢
   cases F <;> omega
  rcases F with ⟨h1,h2⟩|⟨h1,h2⟩|⟨h1,h2,h3⟩|⟨h1,h2⟩|⟨h1,h2⟩|⟨h1,h2⟩|⟨h1,h2⟩
  ·exact rtext_none E h1 h2 ce
  ·exact rtext_one E h1 h2 ce
  ·exact rtext_two E h1 h2 h3 ce
  ·exact rtext_iff E h1 h2 ce
  ·exact rtext_lett E h1 h2 ce
  ·exact rtext_asrt E h1 h2 ce
  ·exact rtext_call E h1 ce
end Go.Proofs.YtdednahplodojaaGreatDoor
