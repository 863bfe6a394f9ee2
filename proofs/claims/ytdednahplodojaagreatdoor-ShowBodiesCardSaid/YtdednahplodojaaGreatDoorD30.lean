/- Walks and plain laws: ShowH, ShowI, RShowC, ShowJ, ShowK, RShowD, RShowE. -/
import Derived.Test.YtdednahplodojaaGreatDoorD29
import Derived.Test.YtdednahplodojaaGreatDoorD20
import Derived.IntWalk
set_option maxHeartbeats 16000000
set_option maxRecDepth 100000
set_option linter.unusedVariables false
set_option linter.unusedSimpArgs false
namespace Go.Proofs.YtdednahplodojaaGreatDoor
open Go.RowKit Go
theorem lvZ_pos (op:Int):0≤lvZ op:=by
 unfold lvZ
 repeat' (first|omega|split)
theorem parZ_zero (k:Int × List UInt8):parZ 0 k=k.2:=by
 have:=lvZ_pos k.1
 unfold parZ
 rw [if_neg (by omega)]
def partsZ:List ByteArray→List PZ→List UInt8
 | s :: ss,x :: xs=>s.data.toList++x.text++partsZ ss xs
 | _,_=>[]
theorem partsZ_snoc:∀ {ss:List ByteArray} {xs:List PZ} {k:Nat} (h:k<ss.length) (h2:k<xs.length),partsZ (ss.take (k+1)) (xs.take (k+1))=partsZ (ss.take k) (xs.take k)++(ss[k].data.toList++xs[k].text)
 | [],_,_,h,_=>absurd h (by simp)
 | _ :: _,[],_,_,h=>absurd h (by simp)
 | s :: ss,x :: xs,0,_,_=>by simp [partsZ]
 | s :: ss,x :: xs,k+1,h,h2=>by
  have ih:=partsZ_snoc (ss:=ss) (xs:=xs) (k:=k) (by simpa using h) (by simpa using h2)
  simp only [List.take_succ_cons,partsZ,List.getElem_cons_succ] at ih ⊢
  rw [ih]
  simp
theorem partsZ_le:∀ (ss:List ByteArray) (xs:List PZ) (k:Nat),(partsZ (ss.take k) (xs.take k)).length≤(partsZ ss xs).length
 | [],xs,k=>by simp [partsZ]
 | s :: ss,[],k=>by simp [partsZ]
 | s :: ss,x :: xs,0=>by simp [partsZ]
 | s :: ss,x :: xs,k+1=>by
  have:=partsZ_le ss xs k
  simp only [List.take_succ_cons,partsZ,List.length_append]
  omega
theorem KidsZ.at {B:Nat}{w:World}{ae:Option Addr}{ks:List PZ}(h:KidsZ B w ae ks){W:World}(hW:Below B w W){k:Nat}(hk:k<ks.length):∃ b off am wn cm ak ck,ae=some ⟨b,off,none⟩∧b<B∧ZAt YA (fun b=>b<B) W (.slice am wn cm) (.slice ak ks[k].kids.length ck) ks[k] ∧
  W.cell? ⟨b,off+k * 8,none⟩=some (.int .i64 ks[k].op)∧W.cell? ⟨b,off+k * 8+1,none⟩=some (.string ⟨ks[k].name.toArray⟩)∧W.cell? ⟨b,off+k * 8+2,none⟩=some (.string ⟨ks[k].module.toArray⟩)∧W.cell? ⟨b,off+k * 8+3,none⟩=some (.bool (decide (ks[k].num<0)))∧W.cell? ⟨b,off+k * 8+4,none⟩=some (.slice am wn cm)∧W.cell? ⟨b,off+k * 8+5,none⟩=some (.bool ks[k].yes)∧W.cell? ⟨b,off+k * 8+6,none⟩=some (.slice ak ks[k].kids.length ck)∧W.cell? ⟨b,off+k * 8+7,none⟩=some (.int .i64 ks[k].at_):=by
 obtain ⟨b,off,h1,h2,h3,h4⟩:=h (by omega)
 obtain ⟨am,wn,cm,ak,ck,h5,h6⟩:=h4 k hk
 exact ⟨b,off,am,wn,cm,ak,ck,h1,h2,h5.frame (Alk.ofB hW (fun b hb=>hb)),(hW.cell (p:=⟨b,off+k * 8,none⟩) h2).trans (h6 0 _ rfl),(hW.cell (p:=⟨b,off+k * 8+1,none⟩) h2).trans (h6 1 _ rfl),(hW.cell (p:=⟨b,off+k * 8+2,none⟩) h2).trans (h6 2 _ rfl),(hW.cell (p:=⟨b,off+k * 8+3,none⟩) h2).trans (h6 3 _ rfl),(hW.cell (p:=⟨b,off+k * 8+4,none⟩) h2).trans (h6 4 _ rfl),(hW.cell (p:=⟨b,off+k * 8+5,none⟩) h2).trans (h6 5 _ rfl),(hW.cell (p:=⟨b,off+k * 8+6,none⟩) h2).trans (h6 6 _ rfl),(hW.cell (p:=⟨b,off+k * 8+7,none⟩) h2).trans (h6 7 _ rfl)⟩
theorem parts_any (op:Int)(NM MD:ByteArray)(ng:Bool)(am:Option Addr)(wn cm:Nat)(ys:Bool)(ae:Option Addr)(ce:Nat)(a_:Int)(ks:List PZ)(ss:List ByteArray)(hl:ss.length≤ks.length)(hl2:ss.length≤1000)(hk:∀ x∈ks,KdDoes x)(B B' b sb cap:Nat)(fr:Nat × Nat)(acc:List UInt8)(w:World)
  (h:KidsZ B w ae ks) (hBB:B≤B') (hbd:Bld B' b acc w 116) (hs:w.heap[sb]?=some (.cells (ss.map Value.string).toArray 9 fr)) (hB:B'≤w.heap.size) (hn:acc.length+(partsZ ss ks).length≤1099511627776) :
  Calls Tryz.prog 139 #[.pointer (some ⟨b,0,none⟩),.agg #[.int .i64 op,.string NM,.string MD,.bool ng,.slice am wn cm,.bool ys,.slice ae ks.length ce,.int .i64 a_],.slice (some ⟨sb,0,none⟩) ss.length cap] w (WrPost B' b (acc++partsZ ss ks) w):=by
 have hal:=below_new w (.cells (boxZ op NM MD ng (.slice am wn cm) ys (.slice ae ks.length ce) a_) 40)
 have hN:=heap_alloc_new w (.cells (boxZ op NM MD ng (.slice am wn cm) ys (.slice ae ks.length ce) a_) 40)
 have hb1:=hbd.belowT hal
 have hs1:=(hal.block sb (Array.getElem?_eq_some_iff.1 hs).1).trans hs
 have hwB:=hal.mono hB
 have HH:=Lib.hid h
 have HK:=Lib.hid hk
 clear h hk hbd hs
 go_enter Tryz.func139,Tryz.ntmps139
 go_upto_region 1 with fail
 change Code.wp _ _ _ _ (w.alloc (.cells (boxZ op NM MD ng (.slice am wn cm) ys (.slice ae ks.length ce) a_) 40))
 generalize w.alloc _=w1 at hal hN hb1 hwB hs1 ⊢
 have hB1:=Nat.le_trans hB hal.size
 have HS1:=Lib.hid hs1
 have HN:=Lib.hid hN
 have HB1:=Lib.hid hb1
 clear hs1 hN hb1
 go_wp2
 go_loopw [10] (fun q wr=>∃ k:Nat,k≤ss.length∧q=.int .i64 k∧ShSt w1 B' b (acc++partsZ (ss.take k) (ks.take k)) wr) (fun q _=>ss.length - (intOf q).toNat)
 case atStart=>exact ⟨0,Nat.zero_le _,rfl,by simpa [partsZ] using ShSt.start HB1.out⟩
 case round =>
  obtain ⟨k,hkl,rfl,st⟩:=hrel
  have hz:=st.bel.size
  by_cases hlt:k<ss.length
  ·have hS2:=st.box HB1.out HS1.out (by decide) (by decide)
   have hx:wr.cell? ⟨sb,k,none⟩=some (.string ss[k]):=by
    rw [Lib.cell_of_heap hS2]
    simp [hlt]
   have hsn:=partsZ_snoc hlt (by omega:k<ks.length)
   have hle:=partsZ_le ss ks (k+1)
   rw [hsn,List.length_append,List.length_append,size_list] at hle
   have HD:=Lib.hid (HK.out _ (List.getElem_mem (by omega:k<ks.length)))
   have HKZ:=Lib.hid (fun W hW=>HH.out.at (W:=W) hW (by omega:k<ks.length))
   have HSN:=Lib.hid hsn
   have HST:=Lib.hid st
   clear hS2 hsn st
   generalize ss[k]=S at hx hle HSN
   generalize partsZ (ss.take k) (ks.take k)=c at hle HSN HST
   generalize ks[k]'(by omega)=x at hle HD HKZ HSN
   have hkI:(k:Int)<(ss.length:Int):=by omega
   have hkI2:(k:Int)<(ks.length:Int):=by omega
   have hln:acc.length+c.length+(S.size+x.text.length)≤1099511627776:=by omega
   clear hle
   go_upto_region 5 with (go_at_call 56;refine (word1_any S B' b (acc++c) wr HST.out.bld (by omega) (by rw [List.length_append];omega)).mono ?_;rintro r w2 h2;obtain rfl:=h2.eq)
   have s2:=HST.out.write h2
   have hz2:=s2.bel.size
   obtain ⟨y0,y1,y2,y3,y4,y5,y6,y7⟩:=boxZ_cells (s2.box HB1.out HN.out (by decide) (by decide))
   obtain ⟨kb,off,am1,wn1,cm1,ak1,ck1,rfl,hkB,hE,x0,x1,x2,x3,x4,x5,x6,x7⟩:=HKZ.out w2 ((hwB.trans s2.bel).mono hBB)
   have HC:=Lib.hid (HD.out 0 B B' b am1 wn1 cm1 ak1 ck1 (acc++c++S.data.toList) w2 hE hBB s2.bld (by omega) (by rw [parZ_zero];simp only [List.length_append,size_list];omega))
   have HSS:=Lib.hid s2
   clear hE HST h2 s2 HKZ HD y0 y1 y2 y3 y4 y5 y7 hx
   go_wp2_with (go_at_call 138;refine HC.out.mono ?_;rintro r w3 h3;obtain rfl:=h3.eq)
   refine ⟨⟨k+1,by omega,by go_num,?_⟩,by simp [intOf];omega⟩
   have:=HSS.out.write h3
   rw [parZ_zero] at this
   rw [HSN.out]
   simpa [List.append_assoc] using this
  ·obtain rfl:k=ss.length:=by omega
   have hkI:decide ((ss.length:Int)<(ss.length:Int))=false:=decide_eq_false (by omega)
   have hp:partsZ (ss.take ss.length) (ks.take ss.length)=partsZ ss ks:=by
    have:∀ (ss:List ByteArray) (ks:List PZ),partsZ (ss.take ss.length) (ks.take ss.length)=partsZ ss ks:=by
     intro ss
     induction ss with
     | nil=>intro ks;simp [partsZ]
     | cons s ss ih =>
      intro ks
      cases ks with
      | nil=>simp [partsZ]
      | cons x xs=>simp only [List.length_cons,List.take_succ_cons,partsZ,ih]
    exact this ss ks
   rw [hp] at st
   have HST:=Lib.hid st
   clear st hp
   go_wp2
   go_end0
   exact WrPost.from hal hB HST.out
theorem commaZ_snoc:∀ (l:List (List UInt8)) (t:List UInt8),commaZ (l++[t])=if l=[] then t else commaZ l++[44,32]++t
 | [],t=>rfl
 | [a],t=>by simp [commaZ]
 | a :: b :: l,t=>by
  have ih:=commaZ_snoc (b :: l) t
  rw [if_neg (by simp)] at ih ⊢
  simp only [List.cons_append] at ih ⊢
  rw [commaZ,ih,commaZ]
  simp
theorem commaZ_le:∀ (l r:List (List UInt8)),(commaZ l).length≤(commaZ (l++r)).length
 | l,[]=>by simp
 | l,t :: r=>by
  have h:=commaZ_le (l++[t]) r
  rw [List.append_assoc] at h
  have h2:=commaZ_snoc l t
  refine Nat.le_trans ?_ h
  rw [h2]
  split
  ·rename_i q;subst q;simp [commaZ]
  ·simp only [List.length_append];omega
 termination_by _ r=>r.length
def WrAskZ (f:FuncId)(lb:Array Value)(B' b:Nat)(w:World)(x:PZ):Prop:=∀ (acc:List UInt8) (W:World) (am:Option Addr) (wn cm:Nat) (ak:Option Addr) (ck:Nat),ShSt w B' b acc W→ZAt YA (fun k=>k<B') W (.slice am wn cm) (.slice ak x.kids.length ck) x→acc.length+x.text.length≤1099511627776 →
 Calls Tryz.prog f (#[.agg #[.int .i64 x.op,.string ⟨x.name.toArray⟩,.string ⟨x.module.toArray⟩,.bool (decide (x.num<0)),.slice am wn cm,.bool x.yes,.slice ak x.kids.length ck,.int .i64 x.at_]]++lb) W (WrPost B' b (acc++x.text) W)
theorem list_any (f:FuncId)(lb:Array Value)(eg:∀ args w,(callFunc f args).run Tryz.prog w=.ok (.enter f args) w)(ks:List PZ)(B B' b:Nat)(ae:Option Addr)(ce:Nat)(acc:List UInt8)(w:World)(hk:∀ x∈ks,WrAskZ f lb B' b w x)(h:KidsZ B w ae ks)(hBB:B≤B')(hbd:Bld B' b acc w 116)(hB:B'≤w.heap.size)(hn:acc.length+(commaZ (ks.map PZ.text)).length≤1099511627776)(hkl:ks.length≤1000000) :
  Calls Tryz.prog 173 #[.pointer (some ⟨b,0,none⟩),.slice ae ks.length ce,.func (.func f) #[] lb] w (WrPost B' b (acc++commaZ (ks.map PZ.text)) w):=by
 have HH:=Lib.hid h
 have HK:=Lib.hid hk
 have HB:=Lib.hid hbd
 clear h hk hbd
 go_enter Tryz.func173,Tryz.ntmps173
 go_wp2
 go_loopw [6,10] (fun _ q wr=>∃ k:Nat,k≤ks.length∧q=.int .i64 k∧ShSt w B' b (acc++commaZ ((ks.map PZ.text).take k)) wr) (fun _ q _=>ks.length - (intOf q).toNat)
 case atStart=>exact ⟨0,Nat.zero_le _,rfl,by simpa [commaZ] using ShSt.start HB.out⟩
 case round =>
  obtain ⟨k,hkk,rfl,st⟩:=hrel
  have hz:=st.bel.size
  by_cases hlt:k<ks.length
  ·have hlm:k<(ks.map PZ.text).length:=by simpa using hlt
   have hts:(ks.map PZ.text).take (k+1)=(ks.map PZ.text).take k++[ks[k].text]:=by rw [List.take_succ_eq_append_getElem hlm];simp
   have hsn:=commaZ_snoc ((ks.map PZ.text).take k) ks[k].text
   rw [← hts] at hsn
   have hle:=commaZ_le ((ks.map PZ.text).take (k+1)) ((ks.map PZ.text).drop (k+1))
   rw [List.take_append_drop] at hle
   have hnil:((ks.map PZ.text).take k=[])↔k=0:=by
    constructor
    ·intro q
     have:=congrArg List.length q
     rw [List.length_take,List.length_nil] at this
     omega
    ·rintro rfl;rfl
   simp only [hnil] at hsn
   have HD:=Lib.hid (HK.out _ (List.getElem_mem hlt))
   obtain ⟨kb,off,am1,wn1,cm1,ak1,ck1,rfl,hkB,hE,x0,x1,x2,x3,x4,x5,x6,x7⟩:=HH.out.at (st.bel.mono hBB) hlt
   have HSN:=Lib.hid hsn
   have HST:=Lib.hid st
   have hc0:k=0→commaZ ((ks.map PZ.text).take k)=[]:=by rintro rfl;rfl
   have HC0:=Lib.hid hc0
   clear hsn hts hlm hnil st hc0
   generalize commaZ ((ks.map PZ.text).take k)=c at HSN HST HC0
   generalize hcc:commaZ ((ks.map PZ.text).take (k+1))=c2 at hle HSN
   have HCC:=Lib.hid hcc
   clear hcc
   generalize ks[k]=x at *
   have hkI:(k:Int)<(ks.length:Int):=by omega
   have hln:acc.length+c2.length≤1099511627776:=by omega
   have hal:=below_new wr (.cells (boxZ x.op ⟨x.name.toArray⟩ ⟨x.module.toArray⟩ (decide (x.num<0)) (.slice am1 wn1 cm1) x.yes (.slice ak1 x.kids.length ck1) x.at_) 40)
   have hN:=heap_alloc_new wr (.cells (boxZ x.op ⟨x.name.toArray⟩ ⟨x.module.toArray⟩ (decide (x.num<0)) (.slice am1 wn1 cm1) x.yes (.slice ak1 x.kids.length ck1) x.at_) 40)
   have s1:=HST.out.below hal hB
   have hE1:=hE.frame (Alk.ofB (hal.mono (Nat.le_trans hB hz)) (fun b hb=>by omega:∀ b,b<B→b<B'))
   clear hle hE
   go_upto_region 3 with fail
   change Code.wp _ _ _ _ (wr.alloc (.cells (boxZ x.op ⟨x.name.toArray⟩ ⟨x.module.toArray⟩ (decide (x.num<0)) (.slice am1 wn1 cm1) x.yes (.slice ak1 x.kids.length ck1) x.at_) 40))
   clear x0 x1 x2 x3 x4 x5 x6 x7
   generalize wr.alloc _=w1 at hal hN s1 hE1 ⊢
   have hz1:=hal.size
   by_cases h0:k=0
   ·have HS0:Hid (c2=x.text):=Lib.hid (by rw [HSN.out,if_pos h0])
    have hc0:=HC0.out h0
    subst hc0
    rw [List.append_nil] at s1
    have HX:=Lib.hid (HD.out acc w1 am1 wn1 cm1 ak1 ck1 s1 (hE1.imp fun b hb _=>by omega) (by rw [← HS0.out];exact hln))
    have HC2:Hid (commaZ ((ks.map PZ.text).take (k+1))=c2):=HCC
    have HS1:=Lib.hid s1
    obtain ⟨y0,y1,y2,y3,y4,y5,y6,y7⟩:=boxZ_cells hN
    have hkI0:(k:Int)≤0:=by omega
    clear HSN HST HD hal hN s1 hE1 HC0 HCC h0
    go_wp2_with (go_at_fn f;refine HX.out.mono ?_;rintro r w3 h3;obtain rfl:=h3.eq)
    refine ⟨⟨k+1,by omega,by go_num,?_⟩,by simp [intOf];omega⟩
    rw [HC2.out,HS0.out]
    exact HS1.out.write h3
   ·have HS0:Hid (c2=c++[44,32]++x.text):=Lib.hid (by rw [HSN.out,if_neg h0])
    have hl2:acc.length+c.length+2+x.text.length≤1099511627776:=by
     have:=congrArg List.length HS0.out
     simp only [List.length_append,List.length_cons,List.length_nil] at this
     omega
    have hkI0:(0:Int)<(k:Int):=by omega
    have HC2:Hid (commaZ ((ks.map PZ.text).take (k+1))=c2):=HCC
    clear h0 HSN HC0 HCC hln
    go_upto_region 5 with (go_at_call 56;refine (word1_any ⟨#[44,32]⟩ B' b (acc++c) w1 s1.bld (by omega) (by show (acc++c).length+2≤_;rw [List.length_append];omega)).mono ?_;rintro r w2 h2;obtain rfl:=h2.eq)
    have s2:=s1.write h2
    obtain ⟨y0,y1,y2,y3,y4,y5,y6,y7⟩:=boxZ_cells (s1.bld.block h2.2.2.2 hN (by decide) (by decide))
    have HX:=Lib.hid (HD.out (acc++c++[44,32]) w2 am1 wn1 cm1 ak1 ck1 s2 ((hE1.frame (Alk.ofB h2.2.2.1 fun b hb=>by omega)).imp fun b hb _=>by omega) (by simp only [List.length_append,List.length_cons,List.length_nil];omega))
    have HS1:=Lib.hid s2
    clear HST HD hal hN s1 hE1 s2 h2
    go_wp2_with (go_at_fn f;refine HX.out.mono ?_;rintro r w3 h3;obtain rfl:=h3.eq)
    refine ⟨⟨k+1,by omega,by go_num,?_⟩,by simp [intOf];omega⟩
    have:=HS1.out.write h3
    rw [HC2.out,HS0.out]
    simpa [List.append_assoc] using this
  ·obtain rfl:k=ks.length:=by omega
   have hkI:decide ((ks.length:Int)<(ks.length:Int))=false:=decide_eq_false (by omega)
   rw [show (ks.map PZ.text).take ks.length=ks.map PZ.text by rw [List.take_of_length_le (by simp)]] at st
   have HST:=Lib.hid st
   clear st
   go_wp2
   go_end0
   exact ⟨rfl,HST.out.bld,HST.out.bel,HST.out.kept⟩
theorem callc_any (x:PZ)(hx:KdDoes x)(B' b tb:Nat)(acc0:List UInt8)(w:World)(hb0:Bld B' b acc0 w 116)(ht:w.heap[tb]?=some (.cells #[.pointer (some ⟨b,0,none⟩)] 114 (0,0)))(hB:B'≤w.heap.size) :
  WrAskZ 174 #[.pointer (some ⟨tb,0,none⟩)] B' b w x:=by
 intro acc W am wn cm ak ck st hE hn
 have hT:=st.box hb0 ht (by decide) (by decide)
 have hal:=below_new W (.cells (boxZ x.op ⟨x.name.toArray⟩ ⟨x.module.toArray⟩ (decide (x.num<0)) (.slice am wn cm) x.yes (.slice ak x.kids.length ck) x.at_) 40)
 have hN:=heap_alloc_new W (.cells (boxZ x.op ⟨x.name.toArray⟩ ⟨x.module.toArray⟩ (decide (x.num<0)) (.slice am wn cm) x.yes (.slice ak x.kids.length ck) x.at_) 40)
 have hBW:=Nat.le_trans hB st.bel.size
 have hT1:=(hal.block tb (Array.getElem?_eq_some_iff.1 hT).1).trans hT
 have s1:=(ShSt.start st.bld).below hal hBW
 have HX:=Lib.hid (fun hl=>hx 0 B' B' b am wn cm ak ck acc (W.alloc (.cells (boxZ x.op ⟨x.name.toArray⟩ ⟨x.module.toArray⟩ (decide (x.num<0)) (.slice am wn cm) x.yes (.slice ak x.kids.length ck) x.at_) 40)) (hE.frame (Alk.of hal)) (Nat.le_refl _) s1.bld (Nat.le_trans hBW hal.size) hl)
 rw [parZ_zero] at HX
 have HX2:=Lib.hid (HX.out hn)
 show Calls _ _ #[_,_] _ _
 clear hE hn hx HX st hT ht hb0
 go_enter Tryz.func174,Tryz.ntmps174
 go_upto_region 1 with fail
 change Code.wp _ _ _ _ (W.alloc (.cells (boxZ x.op ⟨x.name.toArray⟩ ⟨x.module.toArray⟩ (decide (x.num<0)) (.slice am wn cm) x.yes (.slice ak x.kids.length ck) x.at_) 40))
 generalize W.alloc _=w1 at hal hN hT1 s1 HX2 ⊢
 obtain ⟨y0,y1,y2,y3,y4,y5,y6,y7⟩:=boxZ_cells hN
 have yt:w1.cell? ⟨tb,0,none⟩=some (.pointer (some ⟨b,0,none⟩)):=by rw [Lib.cell_of_heap hT1];rfl
 go_wp2_with (go_at_call 138;refine HX2.out.mono ?_;rintro r w3 h3;obtain rfl:=h3.eq)
 go_end0
 exact ⟨rfl,h3.2.1,(hal.mono hBW).trans h3.2.2.1,(ok_below hal).trans h3.2.2.2⟩
def TxDoes (e:PZ):Prop:=∀ (B:Nat) (m:Value) (ae:Option Addr) (ce:Nat) (w:World),ZAt YR (fun b=>b<B) w m (.slice ae e.kids.length ce) e→B≤w.heap.size→e.text.length≤1099511627776 →
  Calls Tryz.prog 22 #[.agg #[.int .i64 e.op,.string ⟨e.name.toArray⟩,.string ⟨e.module.toArray⟩,.string ⟨(intF e.num).toArray⟩,.bool e.yes,.slice ae e.kids.length ce,.int .i64 e.at_]] w (StrPost e.text w)
structure TxEnv (e:PZ) (B:Nat) (ae:Option Addr) (w:World):Prop where
 kids:KidsY B w ae e.kids
 does:∀ x∈e.kids,TxDoes x
 ops:∀ x∈e.kids,1≤x.op∧x.op≤24
 hB:B≤w.heap.size
 few:e.kids.length≤65536
 len:e.text.length≤1099511627776
 nml:e.name.length≤65536
 mdl:e.module.length≤65536
theorem ShSt.drew {w W:World}{B' b:Nat}{acc:List UInt8}(h:ShSt w B' b acc W):ShSt w B' b acc W.drew:=⟨h.bld.drew,h.bel.drew,h.kept.drew⟩
theorem formField_cells {w:World}{b:Nat}{x y z u:Value}(h:w.heap[b]?=some (.cells #[x,y,z,u] 209 (0,0))):w.cell? ⟨b,0,none⟩=some x∧w.cell? ⟨b,1,none⟩=some y∧w.cell? ⟨b,2,none⟩=some z∧w.cell? ⟨b,3,none⟩=some u:=by
 refine ⟨?_,?_,?_,?_⟩ <;> (rw [Lib.cell_of_heap h];rfl)
theorem call_any (op:Int)(NM MD:ByteArray)(ng:Bool)(am:Option Addr)(wn cm:Nat)(ys:Bool)(ae:Option Addr)(ce:Nat)(a_:Int)(ks:List PZ)(hk:∀ x∈ks,KdDoes x)(B B' b:Nat)(acc:List UInt8)(w:World)(hkl:ks.length≤1000000)
  (h:KidsZ B w ae ks) (hBB:B≤B') (hbd:Bld B' b acc w 116) (hB:B'≤w.heap.size) (out:List UInt8) (ho:out=(if MD.data.toList=[] then [] else MD.data.toList++[46])++NM.data.toList++[40]++commaZ (ks.map PZ.text)++[41]) (hn:acc.length+out.length≤1099511627776) :
  Calls Tryz.prog 140 #[.pointer (some ⟨b,0,none⟩),.agg #[.int .i64 op,.string NM,.string MD,.bool ng,.slice am wn cm,.bool ys,.slice ae ks.length ce,.int .i64 a_]] w (WrPost B' b (acc++out) w):=by
 have hlo:=congrArg List.length ho
 have HO:=Lib.hid ho
 clear ho
 have hal:=(below_new w (.cells #[.pointer (some ⟨b,0,none⟩)] 114)).alloc (by simp) (.cells (boxZ op NM MD ng (.slice am wn cm) ys (.slice ae ks.length ce) a_) 40)
 have hT:=(Lib.alloc_old (w.alloc (.cells #[.pointer (some ⟨b,0,none⟩)] 114)) (.cells (boxZ op NM MD ng (.slice am wn cm) ys (.slice ae ks.length ce) a_) 40) w.heap.size (by simp)).trans (heap_alloc_new w (.cells #[.pointer (some ⟨b,0,none⟩)] 114))
 have hN:=heap_alloc_new (w.alloc (.cells #[.pointer (some ⟨b,0,none⟩)] 114)) (.cells (boxZ op NM MD ng (.slice am wn cm) ys (.slice ae ks.length ce) a_) 40)
 rw [World.size_alloc] at hN
 have hb1:=hbd.belowT hal
 have hwB:=hal.mono hB
 have HH:=Lib.hid h
 have HK:=Lib.hid hk
 clear h hk hbd
 go_enter Tryz.func140,Tryz.ntmps140
 go_upto_region 1 with fail
 change Code.wp _ _ _ _ ((w.alloc (.cells #[.pointer (some ⟨b,0,none⟩)] 114)).alloc (.cells (boxZ op NM MD ng (.slice am wn cm) ys (.slice ae ks.length ce) a_) 40))
 generalize (w.alloc _).alloc _=w1 at hal hN hT hb1 hwB ⊢
 have hB1:=Nat.le_trans hB hal.size
 obtain ⟨y0,y1,y2,y3,y4,y5,y6,y7⟩:=boxZ_cells hN
 have yt:w1.cell? ⟨w.heap.size,0,none⟩=some (.pointer (some ⟨b,0,none⟩)):=by rw [Lib.cell_of_heap hT];rfl
 have HB1:=Lib.hid hb1
 have HN:=Lib.hid hN
 have HT:=Lib.hid hT
 obtain ⟨md,hmd⟩:∃ md,md=if MD.data.toList=[] then [] else MD.data.toList++[46]:=⟨_,rfl⟩
 rw [← hmd] at hlo
 have HMD:=Lib.hid hmd
 clear hb1 hN hT hmd
 simp only [List.length_append,size_list,List.length_cons,List.length_nil] at hlo
 have hle:acc.length+md.length+NM.size+1+(commaZ (ks.map PZ.text)).length+1≤1099511627776:=by omega
 clear hlo hn
 go_upto_if 6 with fail
 generalize ht:(!MD.toList.isEmpty)=t
 rw [(empty_two MD).1] at ht
 go_cut [6] (fun s wc=>ShSt w1 B' b (acc++md) wc)
 case first =>
  by_cases hm:MD.data.toList=[]
  ·rw [decide_eq_true hm] at ht
   obtain rfl:t=false:=ht.symm
   have hmd0:md=[]:=by rw [HMD.out,if_pos hm]
   subst hmd0
   clear hm
   go_wp2
   go_meet
   rw [List.append_nil]
   exact ShSt.start HB1.out
  ·rw [decide_eq_false hm] at ht
   obtain rfl:t=true:=ht.symm
   have HM2:Hid (md=MD.data.toList++[46]):=Lib.hid (by rw [HMD.out,if_neg hm])
   have hml:=congrArg List.length HM2.out
   simp only [List.length_append,size_list,List.length_cons,List.length_nil] at hml
   have hml2:MD.size+1≤md.length:=by omega
   clear hm hml
   go_wp2_with (go_at_call 56;refine (word2_any MD ⟨#[46]⟩ B' b acc w1 HB1.out hB1 (by show acc.length+MD.size+1≤_;omega)).mono ?_;rintro r w2 h2;obtain rfl:=h2.eq)
   go_meet
   rw [HM2.out]
   exact (ShSt.start HB1.out).write h2
 case rest =>
  obtain ⟨wo,rfl⟩:∃ wo:World,wo=wc:=⟨_,rfl⟩
  have hzo:=hcut.bel.size
  clear y0 y1 y2 y3 y4 y5 y6 y7 yt ht
  obtain ⟨y0,y1,y2,y3,y4,y5,y6,y7⟩:=boxZ_cells (hcut.box HB1.out HN.out (by decide) (by decide))
  have yt:wo.cell? ⟨w.heap.size,0,none⟩=some (.pointer (some ⟨b,0,none⟩)):=by rw [Lib.cell_of_heap (hcut.box HB1.out HT.out (by decide) (by decide))];rfl
  go_upto_region 4 with (go_at_call 56;refine (word2_any NM ⟨#[40]⟩ B' b (acc++md) wo hcut.bld (by omega) (by show (acc++md).length+NM.size+1≤_;rw [List.length_append];omega)).mono ?_;rintro r w2 h2;obtain rfl:=h2.eq)
  have s2:=hcut.write h2
  have hz2:=s2.bel.size
  clear y0 y1 y2 y3 y4 y5 y6 y7 yt h2 hcut
  have T2:=s2.box HB1.out HT.out (by decide) (by decide)
  obtain ⟨y0,y1,y2,y3,y4,y5,y6,y7⟩:=boxZ_cells (s2.box HB1.out HN.out (by decide) (by decide))
  have yt:w2.cell? ⟨w.heap.size,0,none⟩=some (.pointer (some ⟨b,0,none⟩)):=by rw [Lib.cell_of_heap T2];rfl
  have HL:=Lib.hid (list_any 174 #[.pointer (some ⟨w.heap.size,0,none⟩)] (enters_of Tryz.func174 (by kernel_rfl) rfl) ks B B' b ae ce (acc++md++(NM.data.toList++[40])) w2 (fun x hx=>callc_any x (HK.out x hx) B' b w.heap.size _ w2 s2.bld T2 (by omega)) (fun h0=>by
   obtain ⟨kb,off,q1,q2,q3,q4⟩:=HH.out h0
   have hb2:=(hwB.trans s2.bel).mono hBB
   refine ⟨kb,off,q1,q2,Nat.lt_of_lt_of_le q3 hb2.size,fun i hi=>?_⟩
   obtain ⟨am',wn',cm',ak',ck',q5,q6⟩:=q4 i hi
   exact ⟨am',wn',cm',ak',ck',q5.frame (Alk.ofB hb2 fun b hb=>hb),fun j u hu=>(hb2.cell (p:=⟨kb,off+i * 8+j,none⟩) q2).trans (q6 j u hu)⟩) hBB s2.bld (by omega) (by simp only [List.length_append,size_list,List.length_cons,List.length_nil];omega) hkl)
  go_upto_region 5 with (go_at_call 173;refine HL.out.mono ?_;rintro r w3 h3;obtain rfl:=h3.eq)
  have s3:=s2.write h3
  have hz3:=s3.bel.size
  clear y0 y1 y2 y3 y4 y5 y6 y7 yt h3 s2 HL T2
  have yt:w3.cell? ⟨w.heap.size,0,none⟩=some (.pointer (some ⟨b,0,none⟩)):=by rw [Lib.cell_of_heap (s3.box HB1.out HT.out (by decide) (by decide))];rfl
  go_wp2_with (go_at_call 56;refine (word1_any ⟨#[41]⟩ B' b _ w3 s3.bld (by omega) (by show List.length _+1≤_;simp only [List.length_append,size_list,List.length_cons,List.length_nil];omega)).mono ?_;rintro r w4 h4;obtain rfl:=h4.eq)
  go_end0
  have:=WrPost.from hal hB (s3.write h4)
  rw [HO.out,← HMD.out]
  simpa [List.append_assoc] using this
theorem op_no {op:Int}(h1:7≤op)(h2:op≤20):(op == 1)=false∧(op == 2)=false∧(op == 3)=false∧(op == 4)=false∧(op == 5)=false∧(op == 6)=false∧(op == 21)=false∧(op == 22)=false∧(op == 23)=false∧(op == 24)=false:=by
 refine ⟨?_,?_,?_,?_,?_,?_,?_,?_,?_,?_⟩ <;> exact beq_eq_false_iff_ne.2 (by omega)
theorem showF_two {op:Int}(h1:7≤op)(h2:op≤20)(nm md:List UInt8)(num:Int)(yes:Bool)(ks:List (Int × List UInt8)):showF op nm md num yes ks=parZ (firstZ op) (ks.getD 0 (0,[]))++[32]++signZ op++[32]++parZ (thenZ op) (ks.getD 1 (0,[])):=by
 have e1:∀ k:Int,(k≤6∨21≤k)→¬ op=k:=fun k hk q=>by omega
 unfold showF
 rw [if_neg (e1 1 (by omega)),if_neg (e1 2 (by omega)),if_neg (e1 3 (by omega)),if_neg (e1 4 (by omega)),if_neg (e1 5 (by omega)),if_neg (e1 6 (by omega)),if_neg (e1 21 (by omega)),if_neg (e1 22 (by omega)),if_neg (e1 23 (by omega)),if_neg (e1 24 (by omega))]
structure ShEnv (e:PZ) (B B' b:Nat) (am:Option Addr) (wn cm:Nat) (ae:Option Addr) (ce:Nat) (acc:List UInt8) (w:World):Prop where
 kids:KidsZ B w ae e.kids
 does:∀ x∈e.kids,KdDoes x
 hBB:B≤B'
 bld:Bld B' b acc w 116
 hB:B'≤w.heap.size
 len:acc.length+e.text.length≤1099511627776
 num:NumAt (fun k=>k<B) w e.num (.slice am wn cm)
 big:e.num.natAbs<10 ^ 60
 few:e.kids.length≤65536
theorem exprs_none {e:PZ}{B B' b:Nat}{am:Option Addr}{wn cm:Nat}{ae:Option Addr}{ce:Nat}{acc:List UInt8}{w:World}(E:ShEnv e B B' b am wn cm ae ce acc w)(h1:1≤e.op)(h4:e.op≤4) :
  Calls Tryz.prog 88 #[.pointer (some ⟨b,0,none⟩),.agg #[.int .i64 e.op,.string ⟨e.name.toArray⟩,.string ⟨e.module.toArray⟩,.bool (decide (e.num<0)),.slice am wn cm,.bool e.yes,.slice ae e.kids.length ce,.int .i64 e.at_]] w (WrPost B' b (acc++e.text) w):=by
 have hal:=below_new w (.cells (boxZ e.op ⟨e.name.toArray⟩ ⟨e.module.toArray⟩ (decide (e.num<0)) (.slice am wn cm) e.yes (.slice ae e.kids.length ce) e.at_) 40)
 have hN:=heap_alloc_new w (.cells (boxZ e.op ⟨e.name.toArray⟩ ⟨e.module.toArray⟩ (decide (e.num<0)) (.slice am wn cm) e.yes (.slice ae e.kids.length ce) e.at_) 40)
 have hb1:=E.bld.belowT hal
 have hB:=E.hB
 have hln:=E.len
 have HST:=Lib.hid (fun W (hW:Below w.heap.size w W)=>zstr_any (fun k=>k<B) am wn cm e.num W (XA.frame E.num (Alk.of hW)) E.big)
 have htd:=e.text_def
 clear E
 generalize e.text=out at *
 obtain ⟨TX,hTX,eT⟩:=bytes_of (intF e.num)
 rw [show intF e.num=TX.data.toList from hTX.symm] at HST
 have HST:Hid (∀ W,Below w.heap.size w W→Calls Tryz.prog 86 #[.agg #[.bool (decide (e.num<0)),.slice am wn cm]] W fun r w'=>r=.returned (.string TX)∧Below W.heap.size W w'):=Lib.hid fun W hW=>(HST.out W hW).mono fun r w' q=>⟨by rw [q.1],q.2⟩
 have HTX:=Lib.hid hTX
 have HTD:=Lib.hid htd
 clear hTX eT htd
 generalize hop:e.op=op at *
 have HB1:=Lib.hid hb1
 have HN:=Lib.hid hN
 clear hb1 hN
 have:op=1∨op=2∨op=3∨op=4:=by omega
 have key:∀ (S:ByteArray) (W:World),out=S.data.toList→Below w.heap.size w W→Bld B' b acc W 116→Calls Tryz.prog 56 #[.pointer (some ⟨b,0,none⟩),.slice (some ⟨W.heap.size,0,none⟩) 1 1] (W.alloc (.cells #[.string S] 9)) fun r w'=>r=.returned (.tuple #[])∧WrPost B' b (acc++out) w (.returned (.tuple #[])) w':=fun S W hS hW hb =>
  (word1_any S B' b acc W hb (Nat.le_trans hB hW.size) (by rw [← size_list,← hS];exact hln)).mono fun r w' q=>⟨q.1,rfl,by rw [hS];exact q.2.1,(hW.mono hB).trans q.2.2.1,(ok_below hW).trans q.2.2.2⟩
 have HK:=Lib.hid key
 clear key hop hln h1 h4
 rcases this with rfl|rfl|rfl|rfl
 ·have HO:Hid (out=TX.data.toList):=Lib.hid (by rw [HTD.out];exact HTX.out.symm)
  go_enter Tryz.func88,Tryz.ntmps88
  go_upto_region 1 with fail
  change Code.wp _ _ _ _ (w.alloc (.cells (boxZ 1 ⟨e.name.toArray⟩ ⟨e.module.toArray⟩ (decide (e.num<0)) (.slice am wn cm) e.yes (.slice ae e.kids.length ce) e.at_) 40))
  generalize w.alloc _=w1 at hal HN HB1 ⊢
  obtain ⟨y0,y1,y2,y3,y4,y5,y6,y7⟩:=boxZ_cells HN.out
  go_wp2_with (first|(go_at_call 86;refine (HST.out _ hal).mono ?_;rintro r w2 ⟨rfl,hb2⟩)|(go_at_call 56;refine (HK.out TX w2 HO.out (hal.trans (hb2.mono hal.size)) (HB1.out.belowT hb2)).mono ?_;rintro r w3 ⟨rfl,h3⟩))
  go_end0
  exact h3
 ·cases hy:e.yes with
  | true =>
   have HO:Hid (out=(ByteArray.mk #[116,114,117,101]).data.toList):=Lib.hid (by rw [HTD.out,hy];rfl)
   rw [hy] at HN HB1 hal
   clear hy
   go_enter Tryz.func88,Tryz.ntmps88
   go_upto_region 1 with fail
   change Code.wp _ _ _ _ (w.alloc (.cells (boxZ 2 ⟨e.name.toArray⟩ ⟨e.module.toArray⟩ (decide (e.num<0)) (.slice am wn cm) true (.slice ae e.kids.length ce) e.at_) 40))
   generalize w.alloc _=w1 at hal HN HB1 ⊢
   obtain ⟨y0,y1,y2,y3,y4,y5,y6,y7⟩:=boxZ_cells HN.out
   go_wp2_with (go_at_call 56;refine (HK.out _ w1 HO.out hal HB1.out).mono ?_;rintro r w3 ⟨rfl,h3⟩)
   go_end0
   exact h3
  | false =>
   have HO:Hid (out=(ByteArray.mk #[102,97,108,115,101]).data.toList):=Lib.hid (by rw [HTD.out,hy];rfl)
   rw [hy] at HN HB1 hal
   clear hy
   go_enter Tryz.func88,Tryz.ntmps88
   go_upto_region 1 with fail
   change Code.wp _ _ _ _ (w.alloc (.cells (boxZ 2 ⟨e.name.toArray⟩ ⟨e.module.toArray⟩ (decide (e.num<0)) (.slice am wn cm) false (.slice ae e.kids.length ce) e.at_) 40))
   generalize w.alloc _=w1 at hal HN HB1 ⊢
   obtain ⟨y0,y1,y2,y3,y4,y5,y6,y7⟩:=boxZ_cells HN.out
   go_wp2_with (go_at_call 56;refine (HK.out _ w1 HO.out hal HB1.out).mono ?_;rintro r w3 ⟨rfl,h3⟩)
   go_end0
   exact h3
 ·have HO:Hid (out=(ByteArray.mk e.name.toArray).data.toList):=Lib.hid (by rw [HTD.out];rfl)
  go_enter Tryz.func88,Tryz.ntmps88
  go_upto_region 1 with fail
  change Code.wp _ _ _ _ (w.alloc (.cells (boxZ 3 ⟨e.name.toArray⟩ ⟨e.module.toArray⟩ (decide (e.num<0)) (.slice am wn cm) e.yes (.slice ae e.kids.length ce) e.at_) 40))
  generalize w.alloc _=w1 at hal HN HB1 ⊢
  obtain ⟨y0,y1,y2,y3,y4,y5,y6,y7⟩:=boxZ_cells HN.out
  go_wp2_with (go_at_call 56;refine (HK.out _ w1 HO.out hal HB1.out).mono ?_;rintro r w3 ⟨rfl,h3⟩)
  go_end0
  exact h3
 ·have HO:Hid (out=(ByteArray.mk #[114,101,115]).data.toList):=Lib.hid (by rw [HTD.out];rfl)
  go_enter Tryz.func88,Tryz.ntmps88
  go_upto_region 1 with fail
  change Code.wp _ _ _ _ (w.alloc (.cells (boxZ 4 ⟨e.name.toArray⟩ ⟨e.module.toArray⟩ (decide (e.num<0)) (.slice am wn cm) e.yes (.slice ae e.kids.length ce) e.at_) 40))
  generalize w.alloc _=w1 at hal HN HB1 ⊢
  obtain ⟨y0,y1,y2,y3,y4,y5,y6,y7⟩:=boxZ_cells HN.out
  go_wp2_with (go_at_call 56;refine (HK.out _ w1 HO.out hal HB1.out).mono ?_;rintro r w3 ⟨rfl,h3⟩)
  go_end0
  exact h3
end Go.Proofs.YtdednahplodojaaGreatDoor

namespace Go.Proofs.YtdednahplodojaaGreatDoor
open Go.RowKit Go
open Go.RowKit Go
end Go.Proofs.YtdednahplodojaaGreatDoor
