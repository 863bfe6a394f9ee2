/- Walks and plain laws: ShowL, ShowM, ShowN. -/
import Derived.Test.YtdednahplodojaaGreatDoorD30
set_option maxHeartbeats 16000000
set_option maxRecDepth 100000
set_option linter.unusedVariables false
set_option linter.unusedSimpArgs false
namespace Go.Proofs.YtdednahplodojaaGreatDoor
open Go.RowKit Go
theorem exprs_one {e:PZ}{B B' b:Nat}{am:Option Addr}{wn cm:Nat}{ae:Option Addr}{ce:Nat}{acc:List UInt8}{w:World}(E:ShEnv e B B' b am wn cm ae ce acc w)(hop:e.op=5∨e.op=6)(hkn:e.kids.length=1) :
  Calls Tryz.prog 88 #[.pointer (some ⟨b,0,none⟩),.agg #[.int .i64 e.op,.string ⟨e.name.toArray⟩,.string ⟨e.module.toArray⟩,.bool (decide (e.num<0)),.slice am wn cm,.bool e.yes,.slice ae e.kids.length ce,.int .i64 e.at_]] w (WrPost B' b (acc++e.text) w):=by
 have hal:=below_new w (.cells (boxZ e.op ⟨e.name.toArray⟩ ⟨e.module.toArray⟩ (decide (e.num<0)) (.slice am wn cm) e.yes (.slice ae e.kids.length ce) e.at_) 40)
 have hN:=heap_alloc_new w (.cells (boxZ e.op ⟨e.name.toArray⟩ ⟨e.module.toArray⟩ (decide (e.num<0)) (.slice am wn cm) e.yes (.slice ae e.kids.length ce) e.at_) 40)
 have hb1:=E.bld.belowT hal
 have hB:=E.hB
 have hBB:=E.hBB
 have hln:=E.len
 have HD:=Lib.hid E.does
 have HK:=Lib.hid E.kids
 have hwB:=hal.mono hB
 have hfew:=E.few
 have htd:=e.text_def
 have hgt:∀ i,(h:i<e.kids.length)→(textsZ e.kids).getD i (0,[])=(e.kids[i].op,e.kids[i].text):=fun i h=>textsZ_get h
 clear E
 have h0:=hgt 0 (by omega)
 have HD0:=Lib.hid (HD.out _ (List.getElem_mem (by omega:0<e.kids.length)))
 have HK0:=Lib.hid (fun W hW=>HK.out.at (W:=W) hW (by omega:0<e.kids.length))
 have htd5:e.op=5→e.text=([45]:List UInt8)++parZ 9 (e.kids[0].op,e.kids[0].text):=fun q=>by rw [htd,q,← h0];rfl
 have htd6:e.op=6→e.text=([110,111,116,32]:List UInt8)++parZ 4 (e.kids[0].op,e.kids[0].text):=fun q=>by rw [htd,q,← h0];rfl
 have H5:=Lib.hid htd5
 have H6:=Lib.hid htd6
 clear htd htd5 htd6 hgt h0 HD HK
 generalize e.kids[0]=x at *
 generalize e.text=out at *
 have hkI:(0:Int)<(e.kids.length:Int):=by omega
 have hkI2:0<e.kids.length:=by omega
 generalize hop':e.op=op at *
 generalize e.kids.length=nk at *
 have HB1:=Lib.hid hb1
 have HN:=Lib.hid hN
 clear hb1 hN hop' hkn
 rcases hop with rfl|rfl
 ·have HO:=Lib.hid (H5.out rfl)
  clear H5 H6
  have hl2:acc.length+1+(parZ 9 (x.op,x.text)).length≤1099511627776:=by
   have:=congrArg List.length HO.out
   simp only [List.length_append,List.length_cons,List.length_nil] at this
   omega
  clear hln
  go_enter Tryz.func88,Tryz.ntmps88
  go_upto_region 1 with fail
  change Code.wp _ _ _ _ (w.alloc (.cells (boxZ 5 ⟨e.name.toArray⟩ ⟨e.module.toArray⟩ (decide (e.num<0)) (.slice am wn cm) e.yes (.slice ae nk ce) e.at_) 40))
  generalize w.alloc _=w1 at hal HN HB1 hwB ⊢
  have hB1:=Nat.le_trans hB hal.size
  obtain ⟨y0,y1,y2,y3,y4,y5,y6,y7⟩:=boxZ_cells HN.out
  go_upto_region 18 with (go_at_call 56;refine (word1_any ⟨#[45]⟩ B' b acc w1 HB1.out hB1 (by show acc.length+1≤_;omega)).mono ?_;rintro r w2 h2;obtain rfl:=h2.eq)
  have s2:=(ShSt.start HB1.out).write h2
  have hz2:=s2.bel.size
  clear y0 y1 y2 y3 y4 y5 y6 y7 h2
  obtain ⟨-,-,-,-,-,-,y6,-⟩:=boxZ_cells (s2.box HB1.out HN.out (by decide) (by decide))
  obtain ⟨kb,off,am1,wn1,cm1,ak1,ck1,rfl,hkB,hE,x0,x1,x2,x3,x4,x5,x6,x7⟩:=HK0.out w2 ((hwB.trans s2.bel).mono hBB)
  simp only [Nat.zero_mul,Nat.add_zero] at x0 x1 x2 x3 x4 x5 x6 x7
  have HC:=Lib.hid (HD0.out 9 B B' b am1 wn1 cm1 ak1 ck1 _ w2 hE hBB s2.bld (by omega) (by show (acc++([45]:List UInt8)).length+_≤_;simp only [List.length_append,List.length_cons,List.length_nil];omega))
  have HS:=Lib.hid s2
  clear hE HK0 HD0 s2
  go_wp2_with (go_at_call 138;refine HC.out.mono ?_;rintro r w3 h3;obtain rfl:=h3.eq)
  go_end0
  have:=WrPost.from hal hB (HS.out.write h3)
  rw [HO.out]
  simpa [List.append_assoc] using this
 ·have HO:=Lib.hid (H6.out rfl)
  clear H5 H6
  have hl2:acc.length+4+(parZ 4 (x.op,x.text)).length≤1099511627776:=by
   have:=congrArg List.length HO.out
   simp only [List.length_append,List.length_cons,List.length_nil] at this
   omega
  clear hln
  go_enter Tryz.func88,Tryz.ntmps88
  go_upto_region 1 with fail
  change Code.wp _ _ _ _ (w.alloc (.cells (boxZ 6 ⟨e.name.toArray⟩ ⟨e.module.toArray⟩ (decide (e.num<0)) (.slice am wn cm) e.yes (.slice ae nk ce) e.at_) 40))
  generalize w.alloc _=w1 at hal HN HB1 hwB ⊢
  have hB1:=Nat.le_trans hB hal.size
  obtain ⟨y0,y1,y2,y3,y4,y5,y6,y7⟩:=boxZ_cells HN.out
  go_upto_region 21 with (go_at_call 56;refine (word1_any ⟨#[110,111,116,32]⟩ B' b acc w1 HB1.out hB1 (by show acc.length+4≤_;omega)).mono ?_;rintro r w2 h2;obtain rfl:=h2.eq)
  have s2:=(ShSt.start HB1.out).write h2
  have hz2:=s2.bel.size
  clear y0 y1 y2 y3 y4 y5 y6 y7 h2
  obtain ⟨-,-,-,-,-,-,y6,-⟩:=boxZ_cells (s2.box HB1.out HN.out (by decide) (by decide))
  obtain ⟨kb,off,am1,wn1,cm1,ak1,ck1,rfl,hkB,hE,x0,x1,x2,x3,x4,x5,x6,x7⟩:=HK0.out w2 ((hwB.trans s2.bel).mono hBB)
  simp only [Nat.zero_mul,Nat.add_zero] at x0 x1 x2 x3 x4 x5 x6 x7
  have HC:=Lib.hid (HD0.out 4 B B' b am1 wn1 cm1 ak1 ck1 _ w2 hE hBB s2.bld (by omega) (by show (acc++([110,111,116,32]:List UInt8)).length+_≤_;simp only [List.length_append,List.length_cons,List.length_nil];omega))
  have HS:=Lib.hid s2
  clear hE HK0 HD0 s2
  go_wp2_with (go_at_call 138;refine HC.out.mono ?_;rintro r w3 h3;obtain rfl:=h3.eq)
  go_end0
  have:=WrPost.from hal hB (HS.out.write h3)
  rw [HO.out]
  simpa [List.append_assoc] using this
theorem exprs_iff {e:PZ}{B B' b:Nat}{am:Option Addr}{wn cm:Nat}{ae:Option Addr}{ce:Nat}{acc:List UInt8}{w:World}(E:ShEnv e B B' b am wn cm ae ce acc w)(hop:e.op=21)(hkn:e.kids.length=3) :
  Calls Tryz.prog 88 #[.pointer (some ⟨b,0,none⟩),.agg #[.int .i64 e.op,.string ⟨e.name.toArray⟩,.string ⟨e.module.toArray⟩,.bool (decide (e.num<0)),.slice am wn cm,.bool e.yes,.slice ae e.kids.length ce,.int .i64 e.at_]] w (WrPost B' b (acc++e.text) w):=by
 have hal:=below_new w (.cells (boxZ e.op ⟨e.name.toArray⟩ ⟨e.module.toArray⟩ (decide (e.num<0)) (.slice am wn cm) e.yes (.slice ae e.kids.length ce) e.at_) 40)
 have hN:=heap_alloc_new w (.cells (boxZ e.op ⟨e.name.toArray⟩ ⟨e.module.toArray⟩ (decide (e.num<0)) (.slice am wn cm) e.yes (.slice ae e.kids.length ce) e.at_) 40)
 have hb1:=E.bld.belowT hal
 have hB:=E.hB
 have hBB:=E.hBB
 have hln:=E.len
 have HD:=Lib.hid E.does
 have HK:=Lib.hid E.kids
 have hwB:=hal.mono hB
 have hfew:=E.few
 have htd:=e.text_def
 have hgt:∀ i,(h:i<e.kids.length)→(textsZ e.kids).getD i (0,[])=(e.kids[i].op,e.kids[i].text):=fun i h=>textsZ_get h
 clear E
 have hks:∃ l,e.kids=l∧l.length=3:=⟨_,rfl,hkn⟩
 obtain ⟨l,hl,hll⟩:=hks
 have htx:e.text=partsZ [⟨#[105,102,32]⟩,⟨#[32,116,104,101,110,32]⟩,⟨#[32,101,108,115,101,32]⟩] e.kids:=by
  rw [htd,hop,hl]
  match l,hll with
  | [a,b,c],_=>simp [showF,partsZ,textsZ]
 have HTX:=Lib.hid htx
 have hl2:acc.length+(partsZ [⟨#[105,102,32]⟩,⟨#[32,116,104,101,110,32]⟩,⟨#[32,101,108,115,101,32]⟩] e.kids).length≤1099511627776:=by rw [← htx];exact hln
 clear htd hgt hl hll htx hln
 generalize e.text=out at *
 have hlen2:([⟨#[105,102,32]⟩,⟨#[32,116,104,101,110,32]⟩,⟨#[32,101,108,115,101,32]⟩]:List ByteArray).length≤e.kids.length:=by rw [hkn];decide
 have hP:=fun (acc':List UInt8) (W:World) (sb:Nat) (hW:Below B' w W) (hb:Bld B' b acc' W 116) (hs:W.heap[sb]?=some (.cells #[.string ⟨#[105,102,32]⟩,.string ⟨#[32,116,104,101,110,32]⟩,.string ⟨#[32,101,108,115,101,32]⟩] 9 (0,0))) (hl2':acc'.length+(partsZ [⟨#[105,102,32]⟩,⟨#[32,116,104,101,110,32]⟩,⟨#[32,101,108,115,101,32]⟩] e.kids).length≤1099511627776)=>parts_any 21 ⟨e.name.toArray⟩ ⟨e.module.toArray⟩ (decide (e.num<0)) am wn cm e.yes ae ce e.at_ e.kids [⟨#[105,102,32]⟩,⟨#[32,116,104,101,110,32]⟩,⟨#[32,101,108,115,101,32]⟩] hlen2 (by decide) HD.out B B' b sb 3 (0,0) acc' W (fun h0=>by
  obtain ⟨kb,off,q1,q2,q3,q4⟩:=HK.out h0
  have hb2:=hW.mono hBB
  refine ⟨kb,off,q1,q2,Nat.lt_of_lt_of_le q3 hb2.size,fun i hi=>?_⟩
  obtain ⟨am',wn',cm',ak',ck',q5,q6⟩:=q4 i hi
  exact ⟨am',wn',cm',ak',ck',q5.frame (Alk.ofB hb2 fun b hb=>hb),fun j u hu=>(hb2.cell (p:=⟨kb,off+i * 8+j,none⟩) q2).trans (q6 j u hu)⟩) hBB hb hs (Nat.le_trans hB hW.size) hl2'
 have HP:=Lib.hid hP
 clear hP HD HK hlen2 hkn
 generalize partsZ [⟨#[105,102,32]⟩,⟨#[32,116,104,101,110,32]⟩,⟨#[32,101,108,115,101,32]⟩] e.kids=out2 at *
 generalize hop':e.op=op at *
 subst hop
 have HB1:=Lib.hid hb1
 have HN:=Lib.hid hN
 clear hb1 hN hop'
 go_enter Tryz.func88,Tryz.ntmps88
 go_upto_region 1 with fail
 change Code.wp _ _ _ _ (w.alloc (.cells (boxZ 21 ⟨e.name.toArray⟩ ⟨e.module.toArray⟩ (decide (e.num<0)) (.slice am wn cm) e.yes (.slice ae e.kids.length ce) e.at_) 40))
 generalize w.alloc _=w1 at hal HN HB1 hwB ⊢
 have hB1:=Nat.le_trans hB hal.size
 obtain ⟨y0,y1,y2,y3,y4,y5,y6,y7⟩:=boxZ_cells HN.out
 have hal2:=below_new w1 (.cells #[.string ⟨#[105,102,32]⟩,.string ⟨#[32,116,104,101,110,32]⟩,.string ⟨#[32,101,108,115,101,32]⟩] 9)
 have HP1:=Lib.hid (HP.out acc (w1.alloc (.cells #[.string ⟨#[105,102,32]⟩,.string ⟨#[32,116,104,101,110,32]⟩,.string ⟨#[32,101,108,115,101,32]⟩] 9)) w1.heap.size (hwB.alloc hB1 _) (HB1.out.belowT hal2) (heap_alloc_new w1 _) hl2)
 go_wp2_with (go_at_call 139;refine HP1.out.mono ?_;rintro r w3 h3;obtain rfl:=h3.eq)
 go_end0
 rw [HTX.out]
 exact WrPost.from hal hB (((ShSt.start HB1.out).below hal2 hB1).write h3)
theorem exprs_asrt {e:PZ}{B B' b:Nat}{am:Option Addr}{wn cm:Nat}{ae:Option Addr}{ce:Nat}{acc:List UInt8}{w:World}(E:ShEnv e B B' b am wn cm ae ce acc w)(hop:e.op=23)(hkn:e.kids.length=2) :
  Calls Tryz.prog 88 #[.pointer (some ⟨b,0,none⟩),.agg #[.int .i64 e.op,.string ⟨e.name.toArray⟩,.string ⟨e.module.toArray⟩,.bool (decide (e.num<0)),.slice am wn cm,.bool e.yes,.slice ae e.kids.length ce,.int .i64 e.at_]] w (WrPost B' b (acc++e.text) w):=by
 have hal:=below_new w (.cells (boxZ e.op ⟨e.name.toArray⟩ ⟨e.module.toArray⟩ (decide (e.num<0)) (.slice am wn cm) e.yes (.slice ae e.kids.length ce) e.at_) 40)
 have hN:=heap_alloc_new w (.cells (boxZ e.op ⟨e.name.toArray⟩ ⟨e.module.toArray⟩ (decide (e.num<0)) (.slice am wn cm) e.yes (.slice ae e.kids.length ce) e.at_) 40)
 have hb1:=E.bld.belowT hal
 have hB:=E.hB
 have hBB:=E.hBB
 have hln:=E.len
 have HD:=Lib.hid E.does
 have HK:=Lib.hid E.kids
 have hwB:=hal.mono hB
 have hfew:=E.few
 have htd:=e.text_def
 have hgt:∀ i,(h:i<e.kids.length)→(textsZ e.kids).getD i (0,[])=(e.kids[i].op,e.kids[i].text):=fun i h=>textsZ_get h
 clear E
 have hks:∃ l,e.kids=l∧l.length=2:=⟨_,rfl,hkn⟩
 obtain ⟨l,hl,hll⟩:=hks
 have htx:e.text=partsZ [⟨#[97,115,115,101,114,116,32]⟩,⟨#[32,105,110,32]⟩] e.kids:=by
  rw [htd,hop,hl]
  match l,hll with
  | [a,b],_=>simp [showF,partsZ,textsZ]
 have HTX:=Lib.hid htx
 have hl2:acc.length+(partsZ [⟨#[97,115,115,101,114,116,32]⟩,⟨#[32,105,110,32]⟩] e.kids).length≤1099511627776:=by rw [← htx];exact hln
 clear htd hgt hl hll htx hln
 generalize e.text=out at *
 have hlen2:([⟨#[97,115,115,101,114,116,32]⟩,⟨#[32,105,110,32]⟩]:List ByteArray).length≤e.kids.length:=by rw [hkn];decide
 have hP:=fun (acc':List UInt8) (W:World) (sb:Nat) (hW:Below B' w W) (hb:Bld B' b acc' W 116) (hs:W.heap[sb]?=some (.cells #[.string ⟨#[97,115,115,101,114,116,32]⟩,.string ⟨#[32,105,110,32]⟩] 9 (0,0))) (hl2':acc'.length+(partsZ [⟨#[97,115,115,101,114,116,32]⟩,⟨#[32,105,110,32]⟩] e.kids).length≤1099511627776)=>parts_any 23 ⟨e.name.toArray⟩ ⟨e.module.toArray⟩ (decide (e.num<0)) am wn cm e.yes ae ce e.at_ e.kids [⟨#[97,115,115,101,114,116,32]⟩,⟨#[32,105,110,32]⟩] hlen2 (by decide) HD.out B B' b sb 2 (0,0) acc' W (fun h0=>by
  obtain ⟨kb,off,q1,q2,q3,q4⟩:=HK.out h0
  have hb2:=hW.mono hBB
  refine ⟨kb,off,q1,q2,Nat.lt_of_lt_of_le q3 hb2.size,fun i hi=>?_⟩
  obtain ⟨am',wn',cm',ak',ck',q5,q6⟩:=q4 i hi
  exact ⟨am',wn',cm',ak',ck',q5.frame (Alk.ofB hb2 fun b hb=>hb),fun j u hu=>(hb2.cell (p:=⟨kb,off+i * 8+j,none⟩) q2).trans (q6 j u hu)⟩) hBB hb hs (Nat.le_trans hB hW.size) hl2'
 have HP:=Lib.hid hP
 clear hP HD HK hlen2 hkn
 generalize partsZ [⟨#[97,115,115,101,114,116,32]⟩,⟨#[32,105,110,32]⟩] e.kids=out2 at *
 generalize hop':e.op=op at *
 subst hop
 have HB1:=Lib.hid hb1
 have HN:=Lib.hid hN
 clear hb1 hN hop'
 go_enter Tryz.func88,Tryz.ntmps88
 go_upto_region 1 with fail
 change Code.wp _ _ _ _ (w.alloc (.cells (boxZ 23 ⟨e.name.toArray⟩ ⟨e.module.toArray⟩ (decide (e.num<0)) (.slice am wn cm) e.yes (.slice ae e.kids.length ce) e.at_) 40))
 generalize w.alloc _=w1 at hal HN HB1 hwB ⊢
 have hB1:=Nat.le_trans hB hal.size
 obtain ⟨y0,y1,y2,y3,y4,y5,y6,y7⟩:=boxZ_cells HN.out
 have hal2:=below_new w1 (.cells #[.string ⟨#[97,115,115,101,114,116,32]⟩,.string ⟨#[32,105,110,32]⟩] 9)
 have HP1:=Lib.hid (HP.out acc (w1.alloc (.cells #[.string ⟨#[97,115,115,101,114,116,32]⟩,.string ⟨#[32,105,110,32]⟩] 9)) w1.heap.size (hwB.alloc hB1 _) (HB1.out.belowT hal2) (heap_alloc_new w1 _) hl2)
 go_wp2_with (go_at_call 139;refine HP1.out.mono ?_;rintro r w3 h3;obtain rfl:=h3.eq)
 go_end0
 rw [HTX.out]
 exact WrPost.from hal hB (((ShSt.start HB1.out).below hal2 hB1).write h3)
theorem exprs_lett {e:PZ}{B B' b:Nat}{am:Option Addr}{wn cm:Nat}{ae:Option Addr}{ce:Nat}{acc:List UInt8}{w:World}(E:ShEnv e B B' b am wn cm ae ce acc w)(hop:e.op=22)(hkn:e.kids.length=2)(hnl:e.name.length≤65536) :
  Calls Tryz.prog 88 #[.pointer (some ⟨b,0,none⟩),.agg #[.int .i64 e.op,.string ⟨e.name.toArray⟩,.string ⟨e.module.toArray⟩,.bool (decide (e.num<0)),.slice am wn cm,.bool e.yes,.slice ae e.kids.length ce,.int .i64 e.at_]] w (WrPost B' b (acc++e.text) w):=by
 have hal:=below_new w (.cells (boxZ e.op ⟨e.name.toArray⟩ ⟨e.module.toArray⟩ (decide (e.num<0)) (.slice am wn cm) e.yes (.slice ae e.kids.length ce) e.at_) 40)
 have hN:=heap_alloc_new w (.cells (boxZ e.op ⟨e.name.toArray⟩ ⟨e.module.toArray⟩ (decide (e.num<0)) (.slice am wn cm) e.yes (.slice ae e.kids.length ce) e.at_) 40)
 have hb1:=E.bld.belowT hal
 have hB:=E.hB
 have hBB:=E.hBB
 have hln:=E.len
 have HD:=Lib.hid E.does
 have HK:=Lib.hid E.kids
 have hwB:=hal.mono hB
 have hfew:=E.few
 have htd:=e.text_def
 have hgt:∀ i,(h:i<e.kids.length)→(textsZ e.kids).getD i (0,[])=(e.kids[i].op,e.kids[i].text):=fun i h=>textsZ_get h
 clear E
 have hks:∃ l,e.kids=l∧l.length=2:=⟨_,rfl,hkn⟩
 obtain ⟨l,hl,hll⟩:=hks
 have htx:e.text=([108,101,116,32]:List UInt8)++e.name++partsZ [⟨#[32,61,32]⟩,⟨#[32,105,110,32]⟩] e.kids:=by
  rw [htd,hop,hl]
  match l,hll with
  | [a,b],_=>simp [showF,partsZ,textsZ]
 have HTX:=Lib.hid htx
 have hl2:acc.length+4+e.name.length+(partsZ [⟨#[32,61,32]⟩,⟨#[32,105,110,32]⟩] e.kids).length≤1099511627776:=by
  rw [htx] at hln
  simp only [List.length_append,List.length_cons,List.length_nil] at hln
  omega
 clear htd hgt hl hll htx hln
 generalize e.text=out at *
 have hlen2:([⟨#[32,61,32]⟩,⟨#[32,105,110,32]⟩]:List ByteArray).length≤e.kids.length:=by rw [hkn];decide
 have hP:=fun (acc':List UInt8) (W:World) (sb:Nat) (hW:Below B' w W) (hb:Bld B' b acc' W 116) (hs:W.heap[sb]?=some (.cells #[.string ⟨#[32,61,32]⟩,.string ⟨#[32,105,110,32]⟩] 9 (0,0))) (hl2':acc'.length+(partsZ [⟨#[32,61,32]⟩,⟨#[32,105,110,32]⟩] e.kids).length≤1099511627776)=>parts_any 22 ⟨e.name.toArray⟩ ⟨e.module.toArray⟩ (decide (e.num<0)) am wn cm e.yes ae ce e.at_ e.kids [⟨#[32,61,32]⟩,⟨#[32,105,110,32]⟩] hlen2 (by decide) HD.out B B' b sb 2 (0,0) acc' W (fun h0=>by
  obtain ⟨kb,off,q1,q2,q3,q4⟩:=HK.out h0
  have hb2:=hW.mono hBB
  refine ⟨kb,off,q1,q2,Nat.lt_of_lt_of_le q3 hb2.size,fun i hi=>?_⟩
  obtain ⟨am',wn',cm',ak',ck',q5,q6⟩:=q4 i hi
  exact ⟨am',wn',cm',ak',ck',q5.frame (Alk.ofB hb2 fun b hb=>hb),fun j u hu=>(hb2.cell (p:=⟨kb,off+i * 8+j,none⟩) q2).trans (q6 j u hu)⟩) hBB hb hs (Nat.le_trans hB hW.size) hl2'
 have HP:=Lib.hid hP
 clear hP HD HK hlen2 hkn
 generalize partsZ [⟨#[32,61,32]⟩,⟨#[32,105,110,32]⟩] e.kids=out2 at *
 generalize hop':e.op=op at *
 subst hop
 have HB1:=Lib.hid hb1
 have HN:=Lib.hid hN
 clear hb1 hN hop'
 go_enter Tryz.func88,Tryz.ntmps88
 go_upto_region 1 with fail
 change Code.wp _ _ _ _ (w.alloc (.cells (boxZ 22 ⟨e.name.toArray⟩ ⟨e.module.toArray⟩ (decide (e.num<0)) (.slice am wn cm) e.yes (.slice ae e.kids.length ce) e.at_) 40))
 generalize w.alloc _=w1 at hal HN HB1 hwB ⊢
 have hB1:=Nat.le_trans hB hal.size
 obtain ⟨y0,y1,y2,y3,y4,y5,y6,y7⟩:=boxZ_cells HN.out
 go_upto_region 26 with (go_at_call 56;refine (word2_any ⟨#[108,101,116,32]⟩ ⟨e.name.toArray⟩ B' b acc w1 HB1.out hB1 (by show acc.length+4+e.name.toArray.size≤_;simp;omega)).mono ?_;rintro r w2 h2;obtain rfl:=h2.eq)
 have s2:=(ShSt.start HB1.out).write h2
 have hz2:=s2.bel.size
 clear y0 y1 y2 y3 y4 y5 y6 y7 h2
 obtain ⟨y0,y1,y2,y3,y4,y5,y6,y7⟩:=boxZ_cells (s2.box HB1.out HN.out (by decide) (by decide))
 have hal2:=below_new w2 (.cells #[.string ⟨#[32,61,32]⟩,.string ⟨#[32,105,110,32]⟩] 9)
 have s3:=s2.below hal2 hB1
 have HP1:=Lib.hid (HP.out _ (w2.alloc (.cells #[.string ⟨#[32,61,32]⟩,.string ⟨#[32,105,110,32]⟩] 9)) w2.heap.size (hwB.trans s3.bel) s3.bld (heap_alloc_new w2 _) (by show (acc++(([108,101,116,32]:List UInt8)++e.name)).length+_≤_;simp only [List.length_append,List.length_cons,List.length_nil];omega))
 go_wp2_with (go_at_call 139;refine HP1.out.mono ?_;rintro r w3 h3;obtain rfl:=h3.eq)
 go_end0
 rw [HTX.out]
 have:=WrPost.from hal hB (s3.write h3)
 simpa [List.append_assoc] using this
theorem exprs_call {e:PZ}{B B' b:Nat}{am:Option Addr}{wn cm:Nat}{ae:Option Addr}{ce:Nat}{acc:List UInt8}{w:World}(E:ShEnv e B B' b am wn cm ae ce acc w)(hop:e.op=24)(hkn:e.kids.length≤8)(hnl:e.name.length≤65536)(hml:e.module.length≤65536) :
  Calls Tryz.prog 88 #[.pointer (some ⟨b,0,none⟩),.agg #[.int .i64 e.op,.string ⟨e.name.toArray⟩,.string ⟨e.module.toArray⟩,.bool (decide (e.num<0)),.slice am wn cm,.bool e.yes,.slice ae e.kids.length ce,.int .i64 e.at_]] w (WrPost B' b (acc++e.text) w):=by
 have hal:=below_new w (.cells (boxZ e.op ⟨e.name.toArray⟩ ⟨e.module.toArray⟩ (decide (e.num<0)) (.slice am wn cm) e.yes (.slice ae e.kids.length ce) e.at_) 40)
 have hN:=heap_alloc_new w (.cells (boxZ e.op ⟨e.name.toArray⟩ ⟨e.module.toArray⟩ (decide (e.num<0)) (.slice am wn cm) e.yes (.slice ae e.kids.length ce) e.at_) 40)
 have hb1:=E.bld.belowT hal
 have hB:=E.hB
 have hBB:=E.hBB
 have hln:=E.len
 have HD:=Lib.hid E.does
 have HK:=Lib.hid E.kids
 have hwB:=hal.mono hB
 have hfew:=E.few
 have htd:=e.text_def
 have hgt:∀ i,(h:i<e.kids.length)→(textsZ e.kids).getD i (0,[])=(e.kids[i].op,e.kids[i].text):=fun i h=>textsZ_get h
 clear E
 have htx:e.text=(if (ByteArray.mk e.module.toArray).data.toList=[] then [] else (ByteArray.mk e.module.toArray).data.toList++[46])++(ByteArray.mk e.name.toArray).data.toList++[40]++commaZ (e.kids.map PZ.text)++[41]:=by
  rw [htd,hop,textsZ_map]
  simp only [showF,List.map_map]
  rfl
 have hC:=fun (W:World) (hW:Below B' w W) (hb:Bld B' b acc W 116)=>call_any e.op ⟨e.name.toArray⟩ ⟨e.module.toArray⟩ (decide (e.num<0)) am wn cm e.yes ae ce e.at_ e.kids HD.out B B' b acc W (by omega) (fun h0=>by
  obtain ⟨kb,off,q1,q2,q3,q4⟩:=HK.out h0
  have hb2:=hW.mono hBB
  refine ⟨kb,off,q1,q2,Nat.lt_of_lt_of_le q3 hb2.size,fun i hi=>?_⟩
  obtain ⟨am',wn',cm',ak',ck',q5,q6⟩:=q4 i hi
  exact ⟨am',wn',cm',ak',ck',q5.frame (Alk.ofB hb2 fun b hb=>hb),fun j u hu=>(hb2.cell (p:=⟨kb,off+i * 8+j,none⟩) q2).trans (q6 j u hu)⟩) hBB hb (Nat.le_trans hB hW.size) e.text htx hln
 have HC:=Lib.hid hC
 clear hC htx htd hgt HD HK hln
 generalize e.text=out at *
 generalize hop':e.op=op at *
 subst hop
 have HB1:=Lib.hid hb1
 have HN:=Lib.hid hN
 clear hb1 hN hop'
 go_enter Tryz.func88,Tryz.ntmps88
 go_upto_region 1 with fail
 change Code.wp _ _ _ _ (w.alloc (.cells (boxZ 24 ⟨e.name.toArray⟩ ⟨e.module.toArray⟩ (decide (e.num<0)) (.slice am wn cm) e.yes (.slice ae e.kids.length ce) e.at_) 40))
 generalize w.alloc _=w1 at hal HN HB1 hwB ⊢
 have hB1:=Nat.le_trans hB hal.size
 obtain ⟨y0,y1,y2,y3,y4,y5,y6,y7⟩:=boxZ_cells HN.out
 have HC1:=Lib.hid (HC.out w1 hwB HB1.out)
 go_wp2_with (go_at_call 140;refine HC1.out.mono ?_;rintro r w3 h3;obtain rfl:=h3.eq)
 go_end0
 exact WrPost.from hal hB ((ShSt.start HB1.out).write h3)
theorem exprs_two {e:PZ}{B B' b:Nat}{am:Option Addr}{wn cm:Nat}{ae:Option Addr}{ce:Nat}{acc:List UInt8}{w:World}(E:ShEnv e B B' b am wn cm ae ce acc w)(h7:7≤e.op)(h20:e.op≤20)(hkn:e.kids.length=2) :
  Calls Tryz.prog 88 #[.pointer (some ⟨b,0,none⟩),.agg #[.int .i64 e.op,.string ⟨e.name.toArray⟩,.string ⟨e.module.toArray⟩,.bool (decide (e.num<0)),.slice am wn cm,.bool e.yes,.slice ae e.kids.length ce,.int .i64 e.at_]] w (WrPost B' b (acc++e.text) w):=by
 have hal:=below_new w (.cells (boxZ e.op ⟨e.name.toArray⟩ ⟨e.module.toArray⟩ (decide (e.num<0)) (.slice am wn cm) e.yes (.slice ae e.kids.length ce) e.at_) 40)
 have hN:=heap_alloc_new w (.cells (boxZ e.op ⟨e.name.toArray⟩ ⟨e.module.toArray⟩ (decide (e.num<0)) (.slice am wn cm) e.yes (.slice ae e.kids.length ce) e.at_) 40)
 have hb1:=E.bld.belowT hal
 have hB:=E.hB
 have hBB:=E.hBB
 have hln:=E.len
 have HD:=Lib.hid E.does
 have HK:=Lib.hid E.kids
 have hwB:=hal.mono hB
 have hfew:=E.few
 have htd:=e.text_def
 have hgt:∀ i,(h:i<e.kids.length)→(textsZ e.kids).getD i (0,[])=(e.kids[i].op,e.kids[i].text):=fun i h=>textsZ_get h
 clear E
 have h0:=hgt 0 (by omega)
 have h1:=hgt 1 (by omega)
 have HD0:=Lib.hid (HD.out _ (List.getElem_mem (by omega:0<e.kids.length)))
 have HK0:=Lib.hid (fun W hW=>HK.out.at (W:=W) hW (by omega:0<e.kids.length))
 have HD1:=Lib.hid (HD.out _ (List.getElem_mem (by omega:1<e.kids.length)))
 have HK1:=Lib.hid (fun W hW=>HK.out.at (W:=W) hW (by omega:1<e.kids.length))
 rw [showF_two h7 h20,h0,h1] at htd
 obtain ⟨t1,t2,t3,t4,t5,t6,t21,t22,t23,t24⟩:=op_no h7 h20
 have HT:=Lib.hid (fun W=>two_any e.op h7 h20 W)
 have HTD:=Lib.hid htd
 clear hgt h0 h1 HD HK htd
 generalize e.kids[0]=x at *
 generalize e.kids[1]=z at *
 generalize e.text=out at *
 have hkI:(0:Int)<(e.kids.length:Int):=by omega
 have hkI2:0<e.kids.length:=by omega
 have hkI3:(1:Int)<(e.kids.length:Int):=by omega
 have hkI4:1<e.kids.length:=by omega
 generalize e.op=op at *
 generalize e.kids.length=nk at *
 generalize lvZ op=fa at HT
 generalize firstZ op=fb at HT HTD
 generalize thenZ op=fc at HT HTD
 obtain ⟨SG,hSG,eS⟩:=bytes_of (signZ op)
 rw [eS] at HT
 rw [← hSG] at HTD
 have hl2:acc.length+(parZ fb (x.op,x.text)).length+1+SG.size+1+(parZ fc (z.op,z.text)).length≤1099511627776:=by
  have:=congrArg List.length HTD.out
  simp only [List.length_append,List.length_cons,List.length_nil,size_list] at this
  omega
 have HB1:=Lib.hid hb1
 have HN:=Lib.hid hN
 clear hb1 hN hkn hSG eS hln h7 h20
 go_enter Tryz.func88,Tryz.ntmps88
 go_upto_region 1 with fail
 change Code.wp _ _ _ _ (w.alloc (.cells (boxZ op ⟨e.name.toArray⟩ ⟨e.module.toArray⟩ (decide (e.num<0)) (.slice am wn cm) e.yes (.slice ae nk ce) e.at_) 40))
 generalize w.alloc _=w1 at hal HN HB1 hwB ⊢
 have hB1:=Nat.le_trans hB hal.size
 obtain ⟨y0,y1,y2,y3,y4,y5,y6,y7⟩:=boxZ_cells HN.out
 go_upto_region 2 with fail
 go_upto_region 3 with (go_at_call 141;refine (HT.out _).mono ?_;rintro r w2 ⟨rfl,hb2⟩)
 change Code.wp _ _ _ _ (w2.alloc (.cells #[.int .i64 fa,.int .i64 fb,.int .i64 fc,.string SG] 209))
 have s2:=(ShSt.start HB1.out).below hb2 hB1
 have hF:=heap_alloc_new w2 (.cells #[.int .i64 fa,.int .i64 fb,.int .i64 fc,.string SG] 209)
 have s3:=s2.below (below_new w2 (.cells #[.int .i64 fa,.int .i64 fb,.int .i64 fc,.string SG] 209)) hB1
 clear y0 y1 y2 y3 y4 y5 y6 y7
 generalize w2.heap.size=fk at hF ⊢
 generalize w2.alloc _=w3 at hF s3 ⊢
 have hB3:=s3.bel.size
 have s3d:=s3.drew
 obtain ⟨f0,f1,f2,f3⟩:=formField_cells hF
 obtain ⟨-,-,-,-,-,-,y6,-⟩:=boxZ_cells (s3.box HB1.out HN.out (by decide) (by decide))
 obtain ⟨kb,off,am1,wn1,cm1,ak1,ck1,rfl,hkB,hE,x0,x1,x2,x3,x4,x5,x6,x7⟩:=HK0.out w3 ((hwB.trans s3.bel).mono hBB)
 simp only [Nat.zero_mul,Nat.add_zero] at x0 x1 x2 x3 x4 x5 x6 x7
 have HC:=Lib.hid (HD0.out fb B B' b am1 wn1 cm1 ak1 ck1 _ w3.drew (hE.frame (Alk.of (Below.refl _ _).drew)) hBB s3d.bld (show B'≤w3.heap.size by omega) (by omega))
 have HS3:=Lib.hid s3
 have HF:=Lib.hid hF
 clear hE HK0 HD0 s3 s2 hF hb2 HT
 go_still_tail 7,(by kernel_rfl)
 change wpList _ _ _ _ _ w3.drew
 clear y6 x0 x1 x2 x3 x4 x5 x6 x7 f0 f1 f2 f3
 go_upto_region 4 with (go_at_call 138;refine HC.out.mono ?_;rintro r w4 h4;obtain rfl:=h4.eq)
 have s4:=s3d.write h4
 have hB4:=s4.bel.size
 have F4:=s3d.bld.block h4.2.2.2 HF.out (by decide) (by decide)
 obtain ⟨f0,f1,f2,f3⟩:=formField_cells F4
 clear h4 s3d HC
 go_upto_region 5 with (go_at_call 56;refine (word3_any ⟨#[32]⟩ SG ⟨#[32]⟩ B' b _ w4 s4.bld (by omega) (by show List.length _+1+SG.size+1≤_;rw [List.length_append];omega)).mono ?_;rintro r w5 h5;obtain rfl:=h5.eq)
 have s5:=s4.write h5
 have hB5:=s5.bel.size
 have F5:=s4.bld.block h5.2.2.2 F4 (by decide) (by decide)
 have s5d:=s5.drew
 clear f0 f1 f2 f3 h5 s4 F4
 obtain ⟨f0,f1,f2,f3⟩:=formField_cells F5
 obtain ⟨-,-,-,-,-,-,y6,-⟩:=boxZ_cells (s5.box HB1.out HN.out (by decide) (by decide))
 obtain ⟨kb1,off1,am2,wn2,cm2,ak2,ck2,hkk,hkB1,hE,x0,x1,x2,x3,x4,x5,x6,x7⟩:=HK1.out w5 ((hwB.trans s5.bel).mono hBB)
 simp only [Option.some.injEq,Addr.mk.injEq,and_true] at hkk
 obtain ⟨rfl,rfl⟩:=hkk
 simp only [Nat.one_mul] at x0 x1 x2 x3 x4 x5 x6 x7
 have HC:=Lib.hid (HD1.out fc B B' b am2 wn2 cm2 ak2 ck2 _ w5.drew (hE.frame (Alk.of (Below.refl _ _).drew)) hBB s5d.bld (show B'≤w5.heap.size by omega) (by show List.length (_++(([32]:List UInt8)++(SG.data.toList++[32])))+_≤_;simp only [List.length_append,size_list,List.length_cons,List.length_nil];omega))
 have HS5:=Lib.hid s5d
 clear hE HK1 HD1 s5 s5d F5
 go_wp2
 go_still_tail 7,(by kernel_rfl)
 change wpList _ _ _ _ _ w5.drew
 clear y6 x0 x1 x2 x3 x4 x5 x6 x7 f0 f1 f2 f3
 go_wp2_with (go_at_call 138;refine HC.out.mono ?_;rintro r w6 h6;obtain rfl:=h6.eq)
 go_end0
 have:=WrPost.from hal hB (HS5.out.write h6)
 rw [HTD.out]
 simpa [List.append_assoc] using this
theorem exprZ_any {fm:Bool}:∀ (n:Nat) (e:PZ),SizeOf.sizeOf e<n→e.right fm=true→e.fit→ShDoes e
 | 0,_,h,_,_=>absurd h (by omega)
 | n+1,e,hs,hr,hf=>by
  have R:=PZ.rightZ hr
  obtain ⟨f1,f2,f3,f4,f5⟩:=PZ.fit_def hf
  have ih:∀ x∈e.kids,KdDoes x:=fun x hx=>kid_any x (exprZ_any n x (by have:=e.kids_sizeOf x hx;omega) (R.kids x hx) (f5 x hx))
  intro B B' b am wn cm ae ce acc w h hBB hbd hB hn
  have E:ShEnv e B B' b am wn cm ae ce acc w:=⟨h.kidsZ,ih,hBB,hbd,hB,hn,h.form.1,f3,f4⟩
  have F:(1≤e.op∧e.op≤4)∨((e.op=5∨e.op=6)∧e.kids.length=1)∨(7≤e.op∧e.op≤20∧e.kids.length=2)∨(e.op=21∧e.kids.length=3)∨(e.op=22∧e.kids.length=2)∨(e.op=23∧e.kids.length=2)∨(e.op=24∧e.kids.length≤8):=by
   have F:=R.form
   generalize e.op=op at F ⊢
   generalize e.kids.length=c at F ⊢
   cases F <;> omega
  rcases F with ⟨h1,h2⟩|⟨h1,h2⟩|⟨h1,h2,h3⟩|⟨h1,h2⟩|⟨h1,h2⟩|⟨h1,h2⟩|⟨h1,h2⟩
  ·exact exprs_none E h1 h2
  ·exact exprs_one E h1 h2
  ·exact exprs_two E h1 h2 h3
  ·exact exprs_iff E h1 h2
  ·exact exprs_lett E h1 h2 f1
  ·exact exprs_asrt E h1 h2
  ·exact exprs_call E h1 h2 f1 f2
theorem bstringT {T:TypeId}(B b:Nat)(acc:List UInt8)(w:World)(h:Bld B b acc w T)(h0:acc≠[]) :
  Calls Tryz.prog 40 #[.pointer (some ⟨b,0,none⟩)] w fun e w'=>e=.returned (.string ⟨acc.toArray⟩)∧Below B w w':=by
 obtain ⟨p,hB,v,hbk,hown,hne⟩:=h.at
 have hl0:acc.length≠0:=by simpa using h0
 rw [Lib.byteCells_length] at hown
 obtain ⟨g,cap,cur,fz,rfl,hbg,hg,hfz,hnc,hcm,hcs,htake⟩:∃ g cap cur fz,v=.slice (some ⟨g,0,none⟩) acc.length cap∧B≤g∧w.heap[g]?=some (.cells cur 5 fz)∧fz.2≤acc.length * 1∧acc.length≤cap∧cap≤maxLen∧cur.size=cap * 1∧cur.toList.take (acc.length * 1)=Lib.byteCells acc:=by
  rcases hown.2 with ⟨_,hz⟩|⟨g,cap,cur,fz,hv,r⟩
  ·exact absurd hz hl0
  ·exact ⟨g,cap,cur,fz,hv,r⟩
 have c1:w.drew.cell? ⟨b,1,none⟩=some (.slice (some ⟨g,0,none⟩) acc.length cap):=by
  have:w.drew.heap[b]?=some (.cells #[p,.slice (some ⟨g,0,none⟩) acc.length cap] T (0,0)):=hbk
  rw [Lib.cell_of_heap this];rfl
 have hSD:(Builtin.unsafeSliceData_ #[97] 150 #[.slice (some ⟨g,0,none⟩) acc.length cap]).run Tryz.prog w.drew=.ok (.pointer (some ⟨g,0,none⟩)) w.drew :=
  Lib.run_unsafeSliceData_row _ _ _ _ _ _ (by omega)
 have hUS:(Builtin.unsafeString_ #[150,3] 9 #[.pointer (some ⟨g,0,none⟩),.int .i64 acc.length]).run Tryz.prog w.drew=.ok (.string ⟨acc.toArray⟩) (w.drew.freeze ⟨g,0,none⟩ acc.length):=by
  refine Lib.run_unsafeString_row w.drew 150 3 9 5 (by kernel_rfl) (by kernel_rfl) g cur.size (by have hg':w.drew.heap[g]?=some (.cells cur 5 fz):=hg;simp [World.shape?,hg']) acc h0 (by omega) (by unfold maxLen at hcm;omega) ?_
  intro j x hx
  exact hown.cells (g:=g) rfl j (.int .u8 x.toNat) (by simp [Lib.byteCells,hx])
 clear h hne hown hbk htake hcs hcm hfz hg
 have mixed:Tryz.prog.follows .mixedOrders=true:=by kernel_rfl
 go_enter Tryz.func40,Tryz.ntmps40
 go_wp2
 go_region_o
 all_goals (go_wp2;go_ret;exact ⟨rfl,Lib.below_freeze (Below.drew (Below.refl B w)) (p:=⟨g,0,none⟩) hbg _⟩)
structure InZ (e:PZ) (B:Nat) (am:Option Addr) (wn cm:Nat) (ae:Option Addr) (ce:Nat) (w:World):Prop where
 at_:ZAt YA (fun k=>k<B) w (.slice am wn cm) (.slice ae e.kids.length ce) e
 hB:B≤w.heap.size
 fit:e.fit
theorem InZ.below {e:PZ}{B:Nat}{am:Option Addr}{wn cm:Nat}{ae:Option Addr}{ce:Nat}{w w':World}(h:InZ e B am wn cm ae ce w)(hb:Below w.heap.size w w'):InZ e B am wn cm ae ce w':=⟨h.at_.frame (Alk.of hb),Nat.le_trans h.hB hb.size,h.fit⟩
theorem text_ne {fm:Bool}{e:PZ}(h:e.right fm=true):e.text≠[]:=by
 obtain ⟨h1,h2⟩:=PZ.bytes (SizeOf.sizeOf e+1) e (by omega) h
 have hok:=PZ.okAll (SizeOf.sizeOf e+1) e (by omega) h [] (by intro c hc;cases hc)
 cases hp:e.pcs with
 | nil=>exact absurd hp h2
 | cons p l =>
  rw [hp] at hok h1
  have:=(piece_tok (r:=bytesP l++[]) hok.1 hok.2.1).2.2.1
  rw [← h1,bytesP]
  intro q
  have:=congrArg List.length q
  simp only [List.length_append,List.length_nil] at this
  omega
theorem text_yes (fm:Bool)(e:PZ)(B:Nat)(am:Option Addr)(wn cm:Nat)(ae:Option Addr)(ce:Nat)(w:World)(h:InZ e B am wn cm ae ce w)(hr:e.right fm=true)(hn:e.text.length≤1099511627776) :
  Calls Tryz.prog 45 #[.agg #[.int .i64 e.op,.string ⟨e.name.toArray⟩,.string ⟨e.module.toArray⟩,.bool (decide (e.num<0)),.slice am wn cm,.bool e.yes,.slice ae e.kids.length ce,.int .i64 e.at_],.int .i64 (if fm=true then 0 else 1)] w fun r w'=>r=.returned (.tuple #[.string ⟨e.text.toArray⟩,.int .i64 0])∧Below w.heap.size w w':=by
 have hne:=text_ne hr
 have hal:=below_new w (.cells (boxZ e.op ⟨e.name.toArray⟩ ⟨e.module.toArray⟩ (decide (e.num<0)) (.slice am wn cm) e.yes (.slice ae e.kids.length ce) e.at_) 40)
 have hN:=heap_alloc_new w (.cells (boxZ e.op ⟨e.name.toArray⟩ ⟨e.module.toArray⟩ (decide (e.num<0)) (.slice am wn cm) e.yes (.slice ae e.kids.length ce) e.at_) 40)
 have HR:=Lib.hid (fun W (hW:Below w.heap.size w W)=>rightZ_any fm (SizeOf.sizeOf e+1) e (by omega) h.fit B am wn cm ae ce W (h.below hW).at_ (h.below hW).hB (by have:=(PZ.fit_def h.fit).2.2.2.1;omega))
 rw [hr] at HR
 have hX:=exprZ_any (SizeOf.sizeOf e+1) e (by omega) hr h.fit
 have HX:=Lib.hid (fun (B' b:Nat) (W:World) (hW:Below w.heap.size w W) (hBB:B≤B') (hb:Bld B' b [] W 116) (hB:B'≤W.heap.size)=>hX B B' b am wn cm ae ce [] W (h.below hW).at_ hBB hb hB (by simpa using hn))
 have hBw:=h.hB
 clear h hX hr hn
 generalize e.text=out at *
 generalize (if fm=true then (0:Int) else 1)=kd at *
 go_enter Tryz.func45,Tryz.ntmps45
 go_upto_region 1 with fail
 change Code.wp _ _ _ _ (w.alloc (.cells (boxZ e.op ⟨e.name.toArray⟩ ⟨e.module.toArray⟩ (decide (e.num<0)) (.slice am wn cm) e.yes (.slice ae e.kids.length ce) e.at_) 40))
 generalize w.alloc _=w1 at hal hN ⊢
 have HN:=Lib.hid hN
 have hl1:=(Array.getElem?_eq_some_iff.1 hN).1
 obtain ⟨y0,y1,y2,y3,y4,y5,y6,y7⟩:=boxZ_cells hN
 clear hN
 go_upto_region 3 with (go_at_call 87;refine (HR.out w1 hal).mono ?_;rintro r w2 ⟨rfl,hb2⟩)
 have hN2:=(hb2.block w.heap.size hl1).trans HN.out
 have hbw2:=hal.trans (hb2.mono hal.size)
 have hz2:=hbw2.size
 have hl2:=(Array.getElem?_eq_some_iff.1 hN2).1
 clear y0 y1 y2 y3 y4 y5 y6 y7
 have hal3:=below_new w2 (.cells #[.pointer none,.slice none 0 0] 116)
 have hbd:=Bld.fresh (T:=116) w2
 obtain ⟨y0,y1,y2,y3,y4,y5,y6,y7⟩:=boxZ_cells ((hal3.block w.heap.size hl2).trans hN2)
 go_upto_region 4 with fail
 change Code.wp _ _ _ _ (w2.alloc (.cells #[.pointer none,.slice none 0 0] 116))
 have HX3:=Lib.hid (HX.out w2.heap.size w2.heap.size (w2.alloc (.cells #[.pointer none,.slice none 0 0] 116)) (hbw2.trans (hal3.mono hz2)) (by omega) hbd (by simp))
 have hbw3:=hbw2.trans (hal3.mono hz2)
 have hz3:w2.heap.size<(w2.alloc (.cells #[.pointer none,.slice none 0 0] 116)).heap.size:=by simp
 clear hbd hal3 HX HN hN2
 generalize w2.alloc _=w3 at HX3 hbw3 hz3 y0 y1 y2 y3 y4 y5 y6 y7 ⊢
 go_upto_region 5 with (go_at_call 88;refine HX3.out.mono ?_;rintro r w4 h4;obtain rfl:=h4.eq)
 have hbd4:=h4.2.1
 rw [List.nil_append] at hbd4
 have hbw4:=hbw3.trans (h4.2.2.1.mono hz2)
 have hlt4:(⟨w2.heap.size,0,none⟩:Addr).block<w4.heap.size:=hbd4.lt
 have HS:=Lib.hid (bstringT w2.heap.size w2.heap.size out w4 hbd4 hne)
 clear hbd4 h4 HX3 y0 y1 y2 y3 y4 y5 y6 y7
 go_wp2_with (go_at_call 40;refine HS.out.mono ?_;rintro r w5 ⟨rfl,hb5⟩)
 go_ret2
 exact ⟨rfl,hbw4.trans (hb5.mono hz2)⟩
theorem text_no (fm:Bool)(e:PZ)(B:Nat)(am:Option Addr)(wn cm:Nat)(ae:Option Addr)(ce:Nat)(w:World)(h:InZ e B am wn cm ae ce w)(hr:e.right fm=false) :
  Calls Tryz.prog 45 #[.agg #[.int .i64 e.op,.string ⟨e.name.toArray⟩,.string ⟨e.module.toArray⟩,.bool (decide (e.num<0)),.slice am wn cm,.bool e.yes,.slice ae e.kids.length ce,.int .i64 e.at_],.int .i64 (if fm=true then 0 else 1)] w fun r w'=>r=.returned (.tuple #[.string ⟨#[]⟩,.int .i64 10])∧Below w.heap.size w w':=by
 have hal:=below_new w (.cells (boxZ e.op ⟨e.name.toArray⟩ ⟨e.module.toArray⟩ (decide (e.num<0)) (.slice am wn cm) e.yes (.slice ae e.kids.length ce) e.at_) 40)
 have hN:=heap_alloc_new w (.cells (boxZ e.op ⟨e.name.toArray⟩ ⟨e.module.toArray⟩ (decide (e.num<0)) (.slice am wn cm) e.yes (.slice ae e.kids.length ce) e.at_) 40)
 have HR:=Lib.hid (fun W (hW:Below w.heap.size w W)=>rightZ_any fm (SizeOf.sizeOf e+1) e (by omega) h.fit B am wn cm ae ce W (h.below hW).at_ (h.below hW).hB (by have:=(PZ.fit_def h.fit).2.2.2.1;omega))
 rw [hr] at HR
 generalize (if fm=true then (0:Int) else 1)=kd at *
 clear h hr
 go_enter Tryz.func45,Tryz.ntmps45
 go_upto_region 1 with fail
 change Code.wp _ _ _ _ (w.alloc (.cells (boxZ e.op ⟨e.name.toArray⟩ ⟨e.module.toArray⟩ (decide (e.num<0)) (.slice am wn cm) e.yes (.slice ae e.kids.length ce) e.at_) 40))
 generalize w.alloc _=w1 at hal hN ⊢
 obtain ⟨y0,y1,y2,y3,y4,y5,y6,y7⟩:=boxZ_cells hN
 go_wp2_with (go_at_call 87;refine (HR.out w1 hal).mono ?_;rintro r w2 ⟨rfl,hb2⟩)
 go_ret2
 exact ⟨rfl,hal.trans (hb2.mono hal.size)⟩
def ShowPost (fm:Bool)(e:PZ)(w:World)(r:Ending)(w':World):Prop:=(r=.returned (.tuple #[.string ⟨(if e.right fm=true then e.text else []).toArray⟩,.int .i64 (if e.right fm=true then 0 else 10)]))∧Below w.heap.size w w'
theorem text_any (fm:Bool)(e:PZ)(B:Nat)(am:Option Addr)(wn cm:Nat)(ae:Option Addr)(ce:Nat)(w:World)(h:InZ e B am wn cm ae ce w)(hn:e.text.length≤1099511627776) :
  Calls Tryz.prog 45 #[.agg #[.int .i64 e.op,.string ⟨e.name.toArray⟩,.string ⟨e.module.toArray⟩,.bool (decide (e.num<0)),.slice am wn cm,.bool e.yes,.slice ae e.kids.length ce,.int .i64 e.at_],.int .i64 (if fm=true then 0 else 1)] w (ShowPost fm e w):=by
 cases hr:e.right fm with
 | true=>exact (text_yes fm e B am wn cm ae ce w h hr hn).mono fun r w' q=>⟨by rw [q.1,hr];rfl,q.2⟩
 | false=>exact (text_no fm e B am wn cm ae ce w h hr).mono fun r w' q=>⟨by rw [q.1,hr];rfl,q.2⟩
theorem sformula_any (e:PZ)(B:Nat)(am:Option Addr)(wn cm:Nat)(ae:Option Addr)(ce:Nat)(w:World)(h:InZ e B am wn cm ae ce w)(hn:e.text.length≤1099511627776) :
  Calls Tryz.prog 19 #[.agg #[.int .i64 e.op,.string ⟨e.name.toArray⟩,.string ⟨e.module.toArray⟩,.bool (decide (e.num<0)),.slice am wn cm,.bool e.yes,.slice ae e.kids.length ce,.int .i64 e.at_]] w (ShowPost true e w):=by
 have hal:=below_new w (.cells (boxZ e.op ⟨e.name.toArray⟩ ⟨e.module.toArray⟩ (decide (e.num<0)) (.slice am wn cm) e.yes (.slice ae e.kids.length ce) e.at_) 40)
 have hN:=heap_alloc_new w (.cells (boxZ e.op ⟨e.name.toArray⟩ ⟨e.module.toArray⟩ (decide (e.num<0)) (.slice am wn cm) e.yes (.slice ae e.kids.length ce) e.at_) 40)
 have HT:=Lib.hid (fun W (hW:Below w.heap.size w W)=>text_any true e B am wn cm ae ce W (h.below hW) hn)
 clear h hn
 unfold ShowPost at HT ⊢
 generalize (if e.right true=true then e.text else [])=out at *
 generalize (if e.right true=true then (0:Int) else 10)=er at *
 go_enter Tryz.func19,Tryz.ntmps19
 go_upto_region 1 with fail
 change Code.wp _ _ _ _ (w.alloc (.cells (boxZ e.op ⟨e.name.toArray⟩ ⟨e.module.toArray⟩ (decide (e.num<0)) (.slice am wn cm) e.yes (.slice ae e.kids.length ce) e.at_) 40))
 generalize w.alloc _=w1 at hal hN ⊢
 obtain ⟨y0,y1,y2,y3,y4,y5,y6,y7⟩:=boxZ_cells hN
 have HT1:=Lib.hid (HT.out w1 hal)
 clear HT
 go_wp2_with (go_at_call 45;refine HT1.out.mono ?_;rintro r w2 ⟨rfl,hb2⟩)
 go_ret2
 exact ⟨rfl,hal.trans (hb2.mono hal.size)⟩
theorem sbody_any (e:PZ)(B:Nat)(am:Option Addr)(wn cm:Nat)(ae:Option Addr)(ce:Nat)(w:World)(h:InZ e B am wn cm ae ce w)(hn:e.text.length≤1099511627776) :
  Calls Tryz.prog 20 #[.agg #[.int .i64 e.op,.string ⟨e.name.toArray⟩,.string ⟨e.module.toArray⟩,.bool (decide (e.num<0)),.slice am wn cm,.bool e.yes,.slice ae e.kids.length ce,.int .i64 e.at_]] w (ShowPost false e w):=by
 have hal:=below_new w (.cells (boxZ e.op ⟨e.name.toArray⟩ ⟨e.module.toArray⟩ (decide (e.num<0)) (.slice am wn cm) e.yes (.slice ae e.kids.length ce) e.at_) 40)
 have hN:=heap_alloc_new w (.cells (boxZ e.op ⟨e.name.toArray⟩ ⟨e.module.toArray⟩ (decide (e.num<0)) (.slice am wn cm) e.yes (.slice ae e.kids.length ce) e.at_) 40)
 have HT:=Lib.hid (fun W (hW:Below w.heap.size w W)=>text_any false e B am wn cm ae ce W (h.below hW) hn)
 clear h hn
 unfold ShowPost at HT ⊢
 generalize (if e.right false=true then e.text else [])=out at *
 generalize (if e.right false=true then (0:Int) else 10)=er at *
 go_enter Tryz.func20,Tryz.ntmps20
 go_upto_region 1 with fail
 change Code.wp _ _ _ _ (w.alloc (.cells (boxZ e.op ⟨e.name.toArray⟩ ⟨e.module.toArray⟩ (decide (e.num<0)) (.slice am wn cm) e.yes (.slice ae e.kids.length ce) e.at_) 40))
 generalize w.alloc _=w1 at hal hN ⊢
 obtain ⟨y0,y1,y2,y3,y4,y5,y6,y7⟩:=boxZ_cells hN
 have HT1:=Lib.hid (HT.out w1 hal)
 clear HT
 go_wp2_with (go_at_call 45;refine HT1.out.mono ?_;rintro r w2 ⟨rfl,hb2⟩)
 go_ret2
 exact ⟨rfl,hal.trans (hb2.mono hal.size)⟩
end Go.Proofs.YtdednahplodojaaGreatDoor
