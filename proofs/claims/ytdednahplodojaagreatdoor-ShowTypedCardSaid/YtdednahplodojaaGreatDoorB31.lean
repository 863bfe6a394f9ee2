/- Walks and plain laws: RShowC, ShowJ, ShowK, RShowD. -/
import Derived.Test.YtdednahplodojaaGreatDoorB30
import Derived.IntWalk
set_option maxHeartbeats 16000000
set_option maxRecDepth 100000
set_option linter.unusedVariables false
set_option linter.unusedSimpArgs false
namespace Go.Proofs.YtdednahplodojaaGreatDoor
open Go.RowKit Go
theorem ret_strY {a:ByteArray}{l:List UInt8}(h:a.data.toList=l):Ending.returned (.string a)=.returned (.string ⟨l.toArray⟩):=by subst h;rfl
def TxDoes (e:PZ):Prop:=∀ (B:Nat) (m:Value) (ae:Option Addr) (ce:Nat) (w:World),ZAt YR (fun b=>b<B) w m (.slice ae e.kids.length ce) e→B≤w.heap.size→e.text.length≤1099511627776 →
  Calls Tryz.prog 22 #[.agg #[.int .i64 e.op,.string ⟨e.name.toArray⟩,.string ⟨e.module.toArray⟩,.string ⟨(intF e.num).toArray⟩,.bool e.yes,.slice ae e.kids.length ce,.int .i64 e.at_]] w (StrPost e.text w)
def TkDoes (e:PZ):Prop:=∀ (least:Int) (B:Nat) (m:Value) (ae:Option Addr) (ce:Nat) (w:World),ZAt YR (fun b=>b<B) w m (.slice ae e.kids.length ce) e→B≤w.heap.size→(parZ least (e.op,e.text)).length≤1099511627776 →
  Calls Tryz.prog 48 #[.agg #[.int .i64 e.op,.string ⟨e.name.toArray⟩,.string ⟨e.module.toArray⟩,.string ⟨(intF e.num).toArray⟩,.bool e.yes,.slice ae e.kids.length ce,.int .i64 e.at_],.int .i64 least] w (StrPost (parZ least (e.op,e.text)) w)
theorem rkid_any (e:PZ)(h1:1≤e.op)(h24:e.op≤24)(hx:TxDoes e):TkDoes e:=by
 intro least B m ae ce w h hB hn
 have hp:parZ least (e.op,e.text)=if lvZ e.op<least then [40]++e.text++[41] else e.text:=rfl
 have HL:=Lib.hid (fun W=>rlevel_any e.op h1 h24 W)
 have htl:e.text.length≤(parZ least (e.op,e.text)).length:=by rw [hp];split <;> simp <;> omega
 have HX:=Lib.hid (fun (W:World) (hW:Below w.heap.size w W)=>hx B m ae ce W (h.frame (Alk.of hW)) (Nat.le_trans hB hW.size) (Nat.le_trans htl hn))
 have HP:=Lib.hid hp
 clear hp hx h
 generalize parZ least (e.op,e.text)=out at *
 obtain ⟨TX,hTX,eT⟩:=bytes_of e.text
 have HX:Hid (∀ W,Below w.heap.size w W→Calls Tryz.prog 22 #[.agg #[.int .i64 e.op,.string ⟨e.name.toArray⟩,.string ⟨e.module.toArray⟩,.string ⟨(intF e.num).toArray⟩,.bool e.yes,.slice ae e.kids.length ce,.int .i64 e.at_]] W fun r w'=>r=.returned (.string TX)∧Below W.heap.size W w'):=Lib.hid fun W hW=>(HX.out W hW).mono fun r w' q=>⟨by rw [q.1,eT],q.2⟩
 have HT:=Lib.hid hTX
 have hts:TX.size≤1099511627776:=by rw [← size_list,hTX];omega
 clear hTX eT htl
 generalize ByteArray.mk (intF e.num).toArray=NX at *
 generalize e.op=op at *
 generalize lvZ op=lv at *
 have hbw:=below_new w (.cells (boxY op ⟨e.name.toArray⟩ ⟨e.module.toArray⟩ NX e.yes (.slice ae e.kids.length ce) e.at_) 55)
 have hN:=heap_alloc_new w (.cells (boxY op ⟨e.name.toArray⟩ ⟨e.module.toArray⟩ NX e.yes (.slice ae e.kids.length ce) e.at_) 55)
 go_enter Tryz.func48,Tryz.ntmps48
 go_upto_region 1 with fail
 change Code.wp _ _ _ _ (w.alloc (.cells (boxY op ⟨e.name.toArray⟩ ⟨e.module.toArray⟩ NX e.yes (.slice ae e.kids.length ce) e.at_) 55))
 generalize w.alloc _=w1 at hbw hN ⊢
 have hl1:=(Array.getElem?_eq_some_iff.1 hN).1
 obtain ⟨y0,y1,y2,y3,y4,y5,y6⟩:=boxY_cells hN
 by_cases hl:lv<least
 ·have HO:Hid (out=[40]++TX.data.toList++[41]):=Lib.hid (by rw [HP.out,if_pos hl,HT.out])
  clear HP
  go_wp2_with (first|(go_at_call 89;refine (HL.out _).mono ?_;rintro r w2 ⟨rfl,hb2⟩;have hbw2:=hbw.trans (hb2.mono hbw.size);obtain ⟨z0,z1,z2,z3,z4,z5,z6⟩:=boxY_cells ((hb2.block w.heap.size hl1).trans hN))|(go_at_call 22;refine (HX.out _ hbw2).mono ?_;rintro r w3 ⟨rfl,hb3⟩))
  go_ret
  exact ⟨ret_strY (by rw [HO.out];simp),hbw2.trans (hb3.mono hbw2.size)⟩
 ·have HO:Hid (out=TX.data.toList):=Lib.hid (by rw [HP.out,if_neg hl,HT.out])
  have hl':least≤lv:=by omega
  clear HP hl
  go_wp2_with (first|(go_at_call 89;refine (HL.out _).mono ?_;rintro r w2 ⟨rfl,hb2⟩;have hbw2:=hbw.trans (hb2.mono hbw.size);obtain ⟨z0,z1,z2,z3,z4,z5,z6⟩:=boxY_cells ((hb2.block w.heap.size hl1).trans hN))|(go_at_call 22;refine (HX.out _ hbw2).mono ?_;rintro r w3 ⟨rfl,hb3⟩))
  go_ret
  exact ⟨ret_strY HO.out.symm,hbw2.trans (hb3.mono hbw2.size)⟩
structure TxEnv (e:PZ) (B:Nat) (ae:Option Addr) (w:World):Prop where
 kids:KidsY B w ae e.kids
 does:∀ x∈e.kids,TxDoes x
 ops:∀ x∈e.kids,1≤x.op∧x.op≤24
 hB:B≤w.heap.size
 few:e.kids.length≤65536
 len:e.text.length≤1099511627776
 nml:e.name.length≤65536
 mdl:e.module.length≤65536
theorem rshcall_any {e:PZ}{B:Nat}{ae:Option Addr}{w:World}(E:TxEnv e B ae w)(hop:e.op=24)(ce:Nat) :
  Calls Tryz.prog 49 #[.agg #[.int .i64 e.op,.string ⟨e.name.toArray⟩,.string ⟨e.module.toArray⟩,.string ⟨(intF e.num).toArray⟩,.bool e.yes,.slice ae e.kids.length ce,.int .i64 e.at_]] w (StrPost e.text w):=by
 have htx:e.text=(if e.module=[] then [] else e.module++[46])++e.name++[40]++commaZ (e.kids.map PZ.text)++[41]:=by
  rw [e.text_def,hop,textsZ_map]
  simp only [showF,List.map_map]
  rfl
 have hln:=E.len
 have hlx:=congrArg List.length htx
 simp only [List.length_append,List.length_cons,List.length_nil] at hlx
 have HH:=Lib.hid E.kids
 have HD:=Lib.hid E.does
 have hB:=E.hB
 have hfew:=E.few
 obtain ⟨md,hmd⟩:∃ md,md=if e.module=[] then [] else e.module++[46]:=⟨_,rfl⟩
 rw [← hmd] at htx hlx
 have HTX:=Lib.hid htx
 have HMD:=Lib.hid hmd
 have hle:md.length+e.name.length+(commaZ (e.kids.map PZ.text)).length+2≤1099511627776:=by omega
 have hN0:=bytes_of e.name
 obtain ⟨NM,hNM,eN⟩:=hN0
 obtain ⟨MD,hMD,eM⟩:=bytes_of e.module
 rw [eN,eM]
 rw [← hNM,size_list] at hle
 rw [← hNM] at HTX
 rw [← hMD] at HMD
 clear E htx hlx hln hmd hNM eN hMD eM hop
 generalize ByteArray.mk (intF e.num).toArray=NX at *
 generalize e.text=out at *
 have hbw:=below_new w (.cells (boxY e.op NM MD NX e.yes (.slice ae e.kids.length ce) e.at_) 55)
 have hN:=heap_alloc_new w (.cells (boxY e.op NM MD NX e.yes (.slice ae e.kids.length ce) e.at_) 55)
 go_enter Tryz.func49,Tryz.ntmps49
 go_upto_region 1 with fail
 change Code.wp _ _ _ _ (w.alloc (.cells (boxY e.op NM MD NX e.yes (.slice ae e.kids.length ce) e.at_) 55))
 generalize w.alloc _=w1 at hbw hN ⊢
 have HN:=Lib.hid hN
 have hl1:=(Array.getElem?_eq_some_iff.1 hN).1
 obtain ⟨y0,y1,y2,y3,y4,y5,y6⟩:=boxY_cells hN
 clear hN
 have hz1:=hbw.size
 go_upto_if 10 with fail
 generalize ht:(!MD.toList.isEmpty)=t
 rw [(empty_two MD).1] at ht
 go_cut [3,10] (fun s t wc=>w1=wc∧∃ S:ByteArray,s=.string S∧Hid (S.data.toList=md++NM.data.toList++[40]))
 case first =>
  by_cases hm:MD.data.toList=[]
  ·rw [decide_eq_true hm] at ht
   obtain rfl:t=false:=ht.symm
   have hmd0:md=[]:=by rw [HMD.out,if_pos hm]
   subst hmd0
   clear hm
   go_wp2
   go_meet
   exact ⟨rfl,_,rfl,Lib.hid (by simp)⟩
  ·rw [decide_eq_false hm] at ht
   obtain rfl:t=true:=ht.symm
   have HM2:Hid (md=MD.data.toList++[46]):=Lib.hid (by rw [HMD.out,if_neg hm])
   have hml:=congrArg List.length HM2.out
   simp only [List.length_append,size_list,List.length_cons,List.length_nil] at hml
   have hml2:MD.size+1≤md.length:=by omega
   clear hm hml
   go_wp2
   go_meet
   exact ⟨rfl,_,rfl,Lib.hid (by rw [HM2.out];simp)⟩
 case rest =>
  obtain ⟨rfl,S,rfl,HS⟩:=hcut
  have hss:S.size=md.length+NM.size+1:=by rw [← size_list,HS.out];simp [size_list];omega
  have hsz:S.size+(commaZ (e.kids.map PZ.text)).length+1≤1099511627776:=by omega
  clear hss hle ht
  go_wp2
  go_loopw [3,4] (fun s q wr=>∃ (k:Nat) (T:ByteArray),k≤e.kids.length∧q=.int .i64 k∧s=.string T∧Hid (T.data.toList=S.data.toList++commaZ ((e.kids.map PZ.text).take k))∧Below w1.heap.size w1 wr) (fun _ q _=>e.kids.length - (intOf q).toNat)
  case atStart=>exact ⟨0,S,Nat.zero_le _,rfl,rfl,Lib.hid (by simp [commaZ]),Below.refl _ _⟩
  case round =>
   obtain ⟨k,T,hk,rfl,rfl,HT,hbl⟩:=hrel
   have hwz:=hbl.size
   have hbr:=hbw.trans (hbl.mono hz1)
   clear y0 y1 y2 y3 y4 y5 y6
   obtain ⟨-,-,-,-,-,y5,-⟩:=boxY_cells ((hbl.block w.heap.size hl1).trans HN.out)
   by_cases hlt:k<e.kids.length
   ·have hlm:k<(e.kids.map PZ.text).length:=by simpa using hlt
    have hts:(e.kids.map PZ.text).take (k+1)=(e.kids.map PZ.text).take k++[e.kids[k].text]:=by rw [List.take_succ_eq_append_getElem hlm];simp
    have hsn:=commaZ_snoc ((e.kids.map PZ.text).take k) e.kids[k].text
    rw [← hts] at hsn
    have hnil:((e.kids.map PZ.text).take k=[])↔k=0:=by
     constructor
     ·intro q
      have:=congrArg List.length q
      rw [List.length_take,List.length_nil] at this
      omega
     ·rintro rfl;rfl
    simp only [hnil] at hsn
    have hcl:=commaZ_le ((e.kids.map PZ.text).take (k+1)) ((e.kids.map PZ.text).drop (k+1))
    rw [List.take_append_drop] at hcl
    have hts2:T.size=S.size+(commaZ ((e.kids.map PZ.text).take k)).length:=by rw [← size_list,HT.out,List.length_append,size_list]
    obtain ⟨kb,off,m1,ak1,ck1,rfl,hkB,hE,x0,x1,x2,x3,x4,x5,x6⟩:=HH.out.at (hbr.mono hB) hlt
    have HC0:Hid (k=0→commaZ ((e.kids.map PZ.text).take k)=[]):=Lib.hid (by rintro rfl;rfl)
    have HSN:=Lib.hid hsn
    have hD:=HD.out _ (List.getElem_mem hlt)
    clear hsn hts hlm hnil
    generalize commaZ ((e.kids.map PZ.text).take k)=c at HSN HC0 hts2 HT
    generalize hcc:commaZ ((e.kids.map PZ.text).take (k+1))=c2 at HSN hcl
    have HCC:=Lib.hid hcc
    clear hcc
    generalize e.kids[k]=x at *
    obtain ⟨XT,hXT,eX⟩:=bytes_of x.text
    have hxl:x.text.length≤c2.length:=by rw [HSN.out];split <;> simp <;> omega
    have hX:=hD B m1 ak1 ck1 wr hE (Nat.le_trans hB hbr.size) (by omega)
    unfold StrPost at hX
    rw [eX] at hX
    have HX:=Lib.hid hX
    have HXT:=Lib.hid hXT
    have hkI:(k:Int)<(e.kids.length:Int):=by omega
    have hxs:XT.size≤c2.length:=by rw [← size_list,hXT];exact hxl
    have hTs:T.size≤1099511627776:=by
     have:=congrArg List.length HSN.out
     split at this
     ·rename_i q;rw [HC0.out q] at hts2;simp at hts2;omega
     ·simp only [List.length_append,List.length_cons,List.length_nil] at this;omega
    have hXs:XT.size≤1099511627776:=by omega
    clear hX hXT eX hE hD hts2 hxl hcl hxs
    by_cases h0:k=0
    ·have HF:Hid (c2=XT.data.toList∧c=[]):=Lib.hid ⟨by rw [HSN.out,if_pos h0];exact HXT.out.symm,HC0.out h0⟩
     have hkI0:(k:Int)≤0:=by omega
     clear HSN HC0 h0
     go_wp2_with (go_at_call 22;refine HX.out.mono ?_;rintro r w3 ⟨rfl,hb3⟩)
     exact ⟨⟨k+1,_,by omega,by go_num,rfl,Lib.hid (by rw [HCC.out,HF.out.1];simp [HT.out,HF.out.2]),hbl.trans (hb3.mono hwz)⟩,by simp [intOf];omega⟩
    ·have HF:Hid (c2=c++[44,32]++XT.data.toList):=Lib.hid (by rw [HSN.out,if_neg h0,HXT.out])
     have hkI0:(0:Int)<(k:Int):=by omega
     clear HSN HC0 h0
     go_wp2_with (go_at_call 22;refine HX.out.mono ?_;rintro r w3 ⟨rfl,hb3⟩)
     exact ⟨⟨k+1,_,by omega,by go_num,rfl,Lib.hid (by rw [HCC.out,HF.out];simp [HT.out]),hbl.trans (hb3.mono hwz)⟩,by simp [intOf];omega⟩
   ·obtain rfl:k=e.kids.length:=by omega
    have hkI:decide ((e.kids.length:Int)<(e.kids.length:Int))=false:=decide_eq_false (by omega)
    rw [show (e.kids.map PZ.text).take e.kids.length=e.kids.map PZ.text by rw [List.take_of_length_le (by simp)]] at HT
    have hTs:T.size≤1099511627776:=by rw [← size_list,HT.out,List.length_append,size_list];omega
    go_wp2
    go_ret
    exact ⟨ret_strY (by rw [HTX.out];simp [HT.out,HS.out]),hbr⟩
theorem ShSt.drew {w W:World}{B' b:Nat}{acc:List UInt8}(h:ShSt w B' b acc W):ShSt w B' b acc W.drew:=⟨h.bld.drew,h.bel.drew,h.kept.drew⟩
theorem formField_cells {w:World}{b:Nat}{x y z u:Value}(h:w.heap[b]?=some (.cells #[x,y,z,u] 209 (0,0))):w.cell? ⟨b,0,none⟩=some x∧w.cell? ⟨b,1,none⟩=some y∧w.cell? ⟨b,2,none⟩=some z∧w.cell? ⟨b,3,none⟩=some u:=by
 refine ⟨?_,?_,?_,?_⟩ <;> (rw [Lib.cell_of_heap h];rfl)
theorem call_any (op:Int)(NM MD:ByteArray)(ng:Bool)(am:Option Addr)(wn cm:Nat)(ys:Bool)(ae:Option Addr)(ce:Nat)(a_:Int)(ks:List PZ)(hk:∀ x∈ks,KdDoes x)(B B' b:Nat)(acc:List UInt8)(w:World)(hkl:ks.length≤1000000)
  (h:KidsZ B w ae ks) (hBB:B≤B') (hbd:Bld B' b acc w 116) (hB:B'≤w.heap.size) (out:List UInt8) (ho:out=(if MD.data.toList=[] then [] else MD.data.toList++[46])++NM.data.toList++[40]++commaZ (ks.map PZ.text)++[41]) (hn:acc.length+out.length≤1099511627776) :
  Calls Tryz.prog 140 #[.pointer (some ⟨b,0,none⟩),.agg #[.int .i64 op,.string NM,.string MD,.bool ng,.slice am wn cm,.bool ys,.slice ae ks.length ce,.int .i64 a_]] w (WrPost B' b (acc++out) w):=by
 have hlo:=congrArg List.length ho
 have HO:=Lib.hid ho
 clear ho
 have hal:=(below_new w (.cells #[.pointer (some ⟨b,0,none⟩)] 114)).alloc (by simp) (.cells (boxZ op NM MD ng (.slice am wn cm) ys (.slice ae ks.length ce) a_) 40)
 have hT:=(Lib.alloc_old (w.alloc (.cells #[.pointer (some ⟨b,0,none⟩)] 114)) (.cells (boxZ op NM MD ng (.slice am wn cm) ys (.slice ae ks.length ce) a_) 40) w.heap.size (by simp)).trans (heap_alloc_new w (.cells #[.pointer (some ⟨b,0,none⟩)] 114))
 have hN:=heap_alloc_new (w.alloc (.cells #[.pointer (some ⟨b,0,none⟩)] 114)) (.cells (boxZ op NM MD ng (.slice am wn cm) ys (.slice ae ks.length ce) a_) 40)
 rw [World.size_alloc] at hN
 have hb1:=hbd.belowT hal
 have hwB:=hal.mono hB
 have HH:=Lib.hid h
 have HK:=Lib.hid hk
 clear h hk hbd
 go_enter Tryz.func140,Tryz.ntmps140
 go_upto_region 1 with fail
 change Code.wp _ _ _ _ ((w.alloc (.cells #[.pointer (some ⟨b,0,none⟩)] 114)).alloc (.cells (boxZ op NM MD ng (.slice am wn cm) ys (.slice ae ks.length ce) a_) 40))
 generalize (w.alloc _).alloc _=w1 at hal hN hT hb1 hwB ⊢
 have hB1:=Nat.le_trans hB hal.size
 obtain ⟨y0,y1,y2,y3,y4,y5,y6,y7⟩:=boxZ_cells hN
 have yt:w1.cell? ⟨w.heap.size,0,none⟩=some (.pointer (some ⟨b,0,none⟩)):=by rw [Lib.cell_of_heap hT];rfl
 have HB1:=Lib.hid hb1
 have HN:=Lib.hid hN
 have HT:=Lib.hid hT
 obtain ⟨md,hmd⟩:∃ md,md=if MD.data.toList=[] then [] else MD.data.toList++[46]:=⟨_,rfl⟩
 rw [← hmd] at hlo
 have HMD:=Lib.hid hmd
 clear hb1 hN hT hmd
 simp only [List.length_append,size_list,List.length_cons,List.length_nil] at hlo
 have hle:acc.length+md.length+NM.size+1+(commaZ (ks.map PZ.text)).length+1≤1099511627776:=by omega
 clear hlo hn
 go_upto_if 6 with fail
 generalize ht:(!MD.toList.isEmpty)=t
 rw [(empty_two MD).1] at ht
 go_cut [6] (fun s wc=>ShSt w1 B' b (acc++md) wc)
 case first =>
  by_cases hm:MD.data.toList=[]
  ·rw [decide_eq_true hm] at ht
   obtain rfl:t=false:=ht.symm
   have hmd0:md=[]:=by rw [HMD.out,if_pos hm]
   subst hmd0
   clear hm
   go_wp2
   go_meet
   rw [List.append_nil]
   exact ShSt.start HB1.out
  ·rw [decide_eq_false hm] at ht
   obtain rfl:t=true:=ht.symm
   have HM2:Hid (md=MD.data.toList++[46]):=Lib.hid (by rw [HMD.out,if_neg hm])
   have hml:=congrArg List.length HM2.out
   simp only [List.length_append,size_list,List.length_cons,List.length_nil] at hml
   have hml2:MD.size+1≤md.length:=by omega
   clear hm hml
   go_wp2_with (go_at_call 56;refine (word2_any MD ⟨#[46]⟩ B' b acc w1 HB1.out hB1 (by show acc.length+MD.size+1≤_;omega)).mono ?_;rintro r w2 h2;obtain rfl:=h2.eq)
   go_meet
   rw [HM2.out]
   exact (ShSt.start HB1.out).write h2
 case rest =>
  obtain ⟨wo,rfl⟩:∃ wo:World,wo=wc:=⟨_,rfl⟩
  have hzo:=hcut.bel.size
  clear y0 y1 y2 y3 y4 y5 y6 y7 yt ht
  obtain ⟨y0,y1,y2,y3,y4,y5,y6,y7⟩:=boxZ_cells (hcut.box HB1.out HN.out (by decide) (by decide))
  have yt:wo.cell? ⟨w.heap.size,0,none⟩=some (.pointer (some ⟨b,0,none⟩)):=by rw [Lib.cell_of_heap (hcut.box HB1.out HT.out (by decide) (by decide))];rfl
  go_upto_region 4 with (go_at_call 56;refine (word2_any NM ⟨#[40]⟩ B' b (acc++md) wo hcut.bld (by omega) (by show (acc++md).length+NM.size+1≤_;rw [List.length_append];omega)).mono ?_;rintro r w2 h2;obtain rfl:=h2.eq)
  have s2:=hcut.write h2
  have hz2:=s2.bel.size
  clear y0 y1 y2 y3 y4 y5 y6 y7 yt h2 hcut
  have T2:=s2.box HB1.out HT.out (by decide) (by decide)
  obtain ⟨y0,y1,y2,y3,y4,y5,y6,y7⟩:=boxZ_cells (s2.box HB1.out HN.out (by decide) (by decide))
  have yt:w2.cell? ⟨w.heap.size,0,none⟩=some (.pointer (some ⟨b,0,none⟩)):=by rw [Lib.cell_of_heap T2];rfl
  have HL:=Lib.hid (list_any 174 #[.pointer (some ⟨w.heap.size,0,none⟩)] (enters_of Tryz.func174 (by kernel_rfl) rfl) ks B B' b ae ce (acc++md++(NM.data.toList++[40])) w2 (fun x hx=>callc_any x (HK.out x hx) B' b w.heap.size _ w2 s2.bld T2 (by omega)) (fun h0=>by
   obtain ⟨kb,off,q1,q2,q3,q4⟩:=HH.out h0
   have hb2:=(hwB.trans s2.bel).mono hBB
   refine ⟨kb,off,q1,q2,Nat.lt_of_lt_of_le q3 hb2.size,fun i hi=>?_⟩
   obtain ⟨am',wn',cm',ak',ck',q5,q6⟩:=q4 i hi
   exact ⟨am',wn',cm',ak',ck',q5.frame (Alk.ofB hb2 fun b hb=>hb),fun j u hu=>(hb2.cell (p:=⟨kb,off+i * 8+j,none⟩) q2).trans (q6 j u hu)⟩) hBB s2.bld (by omega) (by simp only [List.length_append,size_list,List.length_cons,List.length_nil];omega) hkl)
  go_upto_region 5 with (go_at_call 173;refine HL.out.mono ?_;rintro r w3 h3;obtain rfl:=h3.eq)
  have s3:=s2.write h3
  have hz3:=s3.bel.size
  clear y0 y1 y2 y3 y4 y5 y6 y7 yt h3 s2 HL T2
  have yt:w3.cell? ⟨w.heap.size,0,none⟩=some (.pointer (some ⟨b,0,none⟩)):=by rw [Lib.cell_of_heap (s3.box HB1.out HT.out (by decide) (by decide))];rfl
  go_wp2_with (go_at_call 56;refine (word1_any ⟨#[41]⟩ B' b _ w3 s3.bld (by omega) (by show List.length _+1≤_;simp only [List.length_append,size_list,List.length_cons,List.length_nil];omega)).mono ?_;rintro r w4 h4;obtain rfl:=h4.eq)
  go_end0
  have:=WrPost.from hal hB (s3.write h4)
  rw [HO.out,← HMD.out]
  simpa [List.append_assoc] using this
theorem op_no {op:Int}(h1:7≤op)(h2:op≤20):(op == 1)=false∧(op == 2)=false∧(op == 3)=false∧(op == 4)=false∧(op == 5)=false∧(op == 6)=false∧(op == 21)=false∧(op == 22)=false∧(op == 23)=false∧(op == 24)=false:=by
 refine ⟨?_,?_,?_,?_,?_,?_,?_,?_,?_,?_⟩ <;> exact beq_eq_false_iff_ne.2 (by omega)
theorem showF_two {op:Int}(h1:7≤op)(h2:op≤20)(nm md:List UInt8)(num:Int)(yes:Bool)(ks:List (Int × List UInt8)):showF op nm md num yes ks=parZ (firstZ op) (ks.getD 0 (0,[]))++[32]++signZ op++[32]++parZ (thenZ op) (ks.getD 1 (0,[])):=by
 have e1:∀ k:Int,(k≤6∨21≤k)→¬ op=k:=fun k hk q=>by omega
 unfold showF
 rw [if_neg (e1 1 (by omega)),if_neg (e1 2 (by omega)),if_neg (e1 3 (by omega)),if_neg (e1 4 (by omega)),if_neg (e1 5 (by omega)),if_neg (e1 6 (by omega)),if_neg (e1 21 (by omega)),if_neg (e1 22 (by omega)),if_neg (e1 23 (by omega)),if_neg (e1 24 (by omega))]
structure ShEnv (e:PZ) (B B' b:Nat) (am:Option Addr) (wn cm:Nat) (ae:Option Addr) (ce:Nat) (acc:List UInt8) (w:World):Prop where
 kids:KidsZ B w ae e.kids
 does:∀ x∈e.kids,KdDoes x
 hBB:B≤B'
 bld:Bld B' b acc w 116
 hB:B'≤w.heap.size
 len:acc.length+e.text.length≤1099511627776
 num:NumAt (fun k=>k<B) w e.num (.slice am wn cm)
 big:e.num.natAbs<10 ^ 60
 few:e.kids.length≤65536
theorem exprs_none {e:PZ}{B B' b:Nat}{am:Option Addr}{wn cm:Nat}{ae:Option Addr}{ce:Nat}{acc:List UInt8}{w:World}(E:ShEnv e B B' b am wn cm ae ce acc w)(h1:1≤e.op)(h4:e.op≤4) :
  Calls Tryz.prog 88 #[.pointer (some ⟨b,0,none⟩),.agg #[.int .i64 e.op,.string ⟨e.name.toArray⟩,.string ⟨e.module.toArray⟩,.bool (decide (e.num<0)),.slice am wn cm,.bool e.yes,.slice ae e.kids.length ce,.int .i64 e.at_]] w (WrPost B' b (acc++e.text) w):=by
 have hal:=below_new w (.cells (boxZ e.op ⟨e.name.toArray⟩ ⟨e.module.toArray⟩ (decide (e.num<0)) (.slice am wn cm) e.yes (.slice ae e.kids.length ce) e.at_) 40)
 have hN:=heap_alloc_new w (.cells (boxZ e.op ⟨e.name.toArray⟩ ⟨e.module.toArray⟩ (decide (e.num<0)) (.slice am wn cm) e.yes (.slice ae e.kids.length ce) e.at_) 40)
 have hb1:=E.bld.belowT hal
 have hB:=E.hB
 have hln:=E.len
 have HST:=Lib.hid (fun W (hW:Below w.heap.size w W)=>zstr_any (fun k=>k<B) am wn cm e.num W (XA.frame E.num (Alk.of hW)) E.big)
 have htd:=e.text_def
 clear E
 generalize e.text=out at *
 obtain ⟨TX,hTX,eT⟩:=bytes_of (intF e.num)
 rw [show intF e.num=TX.data.toList from hTX.symm] at HST
 have HST:Hid (∀ W,Below w.heap.size w W→Calls Tryz.prog 86 #[.agg #[.bool (decide (e.num<0)),.slice am wn cm]] W fun r w'=>r=.returned (.string TX)∧Below W.heap.size W w'):=Lib.hid fun W hW=>(HST.out W hW).mono fun r w' q=>⟨by rw [q.1],q.2⟩
 have HTX:=Lib.hid hTX
 have HTD:=Lib.hid htd
 clear hTX eT htd
 generalize hop:e.op=op at *
 have HB1:=Lib.hid hb1
 have HN:=Lib.hid hN
 clear hb1 hN
 have:op=1∨op=2∨op=3∨op=4:=by omega
 have key:∀ (S:ByteArray) (W:World),out=S.data.toList→Below w.heap.size w W→Bld B' b acc W 116→Calls Tryz.prog 56 #[.pointer (some ⟨b,0,none⟩),.slice (some ⟨W.heap.size,0,none⟩) 1 1] (W.alloc (.cells #[.string S] 9)) fun r w'=>r=.returned (.tuple #[])∧WrPost B' b (acc++out) w (.returned (.tuple #[])) w':=fun S W hS hW hb =>
  (word1_any S B' b acc W hb (Nat.le_trans hB hW.size) (by rw [← size_list,← hS];exact hln)).mono fun r w' q=>⟨q.1,rfl,by rw [hS];exact q.2.1,(hW.mono hB).trans q.2.2.1,(ok_below hW).trans q.2.2.2⟩
 have HK:=Lib.hid key
 clear key hop hln h1 h4
 rcases this with rfl|rfl|rfl|rfl
 ·have HO:Hid (out=TX.data.toList):=Lib.hid (by rw [HTD.out];exact HTX.out.symm)
  go_enter Tryz.func88,Tryz.ntmps88
  go_upto_region 1 with fail
  change Code.wp _ _ _ _ (w.alloc (.cells (boxZ 1 ⟨e.name.toArray⟩ ⟨e.module.toArray⟩ (decide (e.num<0)) (.slice am wn cm) e.yes (.slice ae e.kids.length ce) e.at_) 40))
  generalize w.alloc _=w1 at hal HN HB1 ⊢
  obtain ⟨y0,y1,y2,y3,y4,y5,y6,y7⟩:=boxZ_cells HN.out
  go_wp2_with (first|(go_at_call 86;refine (HST.out _ hal).mono ?_;rintro r w2 ⟨rfl,hb2⟩)|(go_at_call 56;refine (HK.out TX w2 HO.out (hal.trans (hb2.mono hal.size)) (HB1.out.belowT hb2)).mono ?_;rintro r w3 ⟨rfl,h3⟩))
  go_end0
  exact h3
 ·cases hy:e.yes with
  | true =>
   have HO:Hid (out=(ByteArray.mk #[116,114,117,101]).data.toList):=Lib.hid (by rw [HTD.out,hy];rfl)
   rw [hy] at HN HB1 hal
   clear hy
   go_enter Tryz.func88,Tryz.ntmps88
   go_upto_region 1 with fail
   change Code.wp _ _ _ _ (w.alloc (.cells (boxZ 2 ⟨e.name.toArray⟩ ⟨e.module.toArray⟩ (decide (e.num<0)) (.slice am wn cm) true (.slice ae e.kids.length ce) e.at_) 40))
   generalize w.alloc _=w1 at hal HN HB1 ⊢
   obtain ⟨y0,y1,y2,y3,y4,y5,y6,y7⟩:=boxZ_cells HN.out
   go_wp2_with (go_at_call 56;refine (HK.out _ w1 HO.out hal HB1.out).mono ?_;rintro r w3 ⟨rfl,h3⟩)
   go_end0
   exact h3
  | false =>
   have HO:Hid (out=(ByteArray.mk #[102,97,108,115,101]).data.toList):=Lib.hid (by rw [HTD.out,hy];rfl)
   rw [hy] at HN HB1 hal
   clear hy
   go_enter Tryz.func88,Tryz.ntmps88
   go_upto_region 1 with fail
   change Code.wp _ _ _ _ (w.alloc (.cells (boxZ 2 ⟨e.name.toArray⟩ ⟨e.module.toArray⟩ (decide (e.num<0)) (.slice am wn cm) false (.slice ae e.kids.length ce) e.at_) 40))
   generalize w.alloc _=w1 at hal HN HB1 ⊢
   obtain ⟨y0,y1,y2,y3,y4,y5,y6,y7⟩:=boxZ_cells HN.out
   go_wp2_with (go_at_call 56;refine (HK.out _ w1 HO.out hal HB1.out).mono ?_;rintro r w3 ⟨rfl,h3⟩)
   go_end0
   exact h3
 ·have HO:Hid (out=(ByteArray.mk e.name.toArray).data.toList):=Lib.hid (by rw [HTD.out];rfl)
  go_enter Tryz.func88,Tryz.ntmps88
  go_upto_region 1 with fail
  change Code.wp _ _ _ _ (w.alloc (.cells (boxZ 3 ⟨e.name.toArray⟩ ⟨e.module.toArray⟩ (decide (e.num<0)) (.slice am wn cm) e.yes (.slice ae e.kids.length ce) e.at_) 40))
  generalize w.alloc _=w1 at hal HN HB1 ⊢
  obtain ⟨y0,y1,y2,y3,y4,y5,y6,y7⟩:=boxZ_cells HN.out
  go_wp2_with (go_at_call 56;refine (HK.out _ w1 HO.out hal HB1.out).mono ?_;rintro r w3 ⟨rfl,h3⟩)
  go_end0
  exact h3
 ·have HO:Hid (out=(ByteArray.mk #[114,101,115]).data.toList):=Lib.hid (by rw [HTD.out];rfl)
  go_enter Tryz.func88,Tryz.ntmps88
  go_upto_region 1 with fail
  change Code.wp _ _ _ _ (w.alloc (.cells (boxZ 4 ⟨e.name.toArray⟩ ⟨e.module.toArray⟩ (decide (e.num<0)) (.slice am wn cm) e.yes (.slice ae e.kids.length ce) e.at_) 40))
  generalize w.alloc _=w1 at hal HN HB1 ⊢
  obtain ⟨y0,y1,y2,y3,y4,y5,y6,y7⟩:=boxZ_cells HN.out
  go_wp2_with (go_at_call 56;refine (HK.out _ w1 HO.out hal HB1.out).mono ?_;rintro r w3 ⟨rfl,h3⟩)
  go_end0
  exact h3
def sgA:Array Value:=#[.string ⟨#[43]⟩,.string ⟨#[45]⟩,.string ⟨#[42]⟩,.string ⟨#[47]⟩,.string ⟨#[37]⟩,.string ⟨#[61]⟩,.string ⟨#[60,62]⟩,.string ⟨#[60]⟩,.string ⟨#[60,61]⟩,.string ⟨#[62]⟩,.string ⟨#[62,61]⟩,.string ⟨#[38,38]⟩,.string ⟨#[124,124]⟩,.string ⟨#[61,62]⟩]
theorem sgA_at:∀ k:Nat,k<14→sgA[k]?=some (.string ⟨(signZ ((k+7:Nat):Int)).toArray⟩)
 | 0,_=>rfl
 | 1,_=>rfl
 | 2,_=>rfl
 | 3,_=>rfl
 | 4,_=>rfl
 | 5,_=>rfl
 | 6,_=>rfl
 | 7,_=>rfl
 | 8,_=>rfl
 | 9,_=>rfl
 | 10,_=>rfl
 | 11,_=>rfl
 | 12,_=>rfl
 | 13,_=>rfl
 | k+14,h=>absurd h (by omega)
theorem lv_first {op:Int}:firstZ op=if lvZ op=5 then 6 else if lvZ op=1 then 2 else lvZ op:=rfl
theorem lv_then {op:Int}:thenZ op=if lvZ op=1 then 1 else lvZ op+1:=rfl
theorem lv_bound (op:Int):0≤lvZ op∧lvZ op≤9:=by
 unfold lvZ
 repeat' (first|omega|split)
theorem rtwo_any {e:PZ}{B:Nat}{ae:Option Addr}{w:World}(E:TxEnv e B ae w)(h7:7≤e.op)(h20:e.op≤20)(hkn:e.kids.length=2)(ce:Nat) :
  Calls Tryz.prog 50 #[.agg #[.int .i64 e.op,.string ⟨e.name.toArray⟩,.string ⟨e.module.toArray⟩,.string ⟨(intF e.num).toArray⟩,.bool e.yes,.slice ae e.kids.length ce,.int .i64 e.at_]] w (StrPost e.text w):=by
 have htx:e.text=parZ (firstZ e.op) (e.kids[0].op,e.kids[0].text)++([32]:List UInt8)++signZ e.op++([32]:List UInt8)++parZ (thenZ e.op) (e.kids[1].op,e.kids[1].text):=by
  rw [e.text_def,showF_two h7 h20,textsZ_get (show 0<e.kids.length by omega),textsZ_get (show 1<e.kids.length by omega)]
 have hln:=E.len
 have hlx:=congrArg List.length htx
 simp only [List.length_append,List.length_cons,List.length_nil] at hlx
 have hB:=E.hB
 have hm0:e.kids[0]∈e.kids:=List.getElem_mem _
 have hm1:e.kids[1]∈e.kids:=List.getElem_mem _
 have hK0:=rkid_any e.kids[0] (E.ops _ hm0).1 (E.ops _ hm0).2 (E.does _ hm0)
 have hK1:=rkid_any e.kids[1] (E.ops _ hm1).1 (E.ops _ hm1).2 (E.does _ hm1)
 obtain ⟨kb,off,m0,ak0,ck0,hae,hkB,hE0,a0,a1,a2,a3,a4,a5,a6⟩:=E.kids.at (Below.refl _ _) (show 0<e.kids.length by omega)
 obtain ⟨kb',off',m1,ak1,ck1,hae',-,hE1,b0,b1,b2,b3,b4,b5,b6⟩:=E.kids.at (Below.refl _ _) (show 1<e.kids.length by omega)
 subst hae
 simp only [Option.some.injEq,Addr.mk.injEq,and_true] at hae'
 obtain ⟨rfl,rfl⟩:=hae'
 simp only [Nat.zero_mul,Nat.one_mul,Nat.add_zero] at a0 a1 a2 a3 a4 a5 a6 b0 b1 b2 b3 b4 b5 b6
 have HL:=Lib.hid (fun W=>rlevel_any e.op (by omega) (by omega) W)
 generalize e.kids[0]=x at *
 generalize e.kids[1]=z at *
 obtain ⟨P0,hP0,eP0⟩:=bytes_of (parZ (firstZ e.op) (x.op,x.text))
 obtain ⟨P1,hP1,eP1⟩:=bytes_of (parZ (thenZ e.op) (z.op,z.text))
 obtain ⟨SG,hSG,eS⟩:=bytes_of (signZ e.op)
 have hk0:∀ W0 W,Below w.heap.size w W0→Below W0.heap.size W0 W→Calls Tryz.prog 48 #[.agg #[.int .i64 x.op,.string ⟨x.name.toArray⟩,.string ⟨x.module.toArray⟩,.string ⟨(intF x.num).toArray⟩,.bool x.yes,.slice ak0 x.kids.length ck0,.int .i64 x.at_],.int .i64 (firstZ e.op)] W fun r w'=>r=.returned (.string P0)∧Below W0.heap.size W0 w':=fun W0 W h0 h1=>by
  have hW:=h0.trans (h1.mono h0.size)
  exact (hK0 (firstZ e.op) B m0 ak0 ck0 W (hE0.frame (Alk.of hW)) (Nat.le_trans hB hW.size) (by omega)).mono fun r w' q=>⟨by rw [q.1,eP0],h1.trans (q.2.mono h1.size)⟩
 have hk1:∀ W0 W,Below w.heap.size w W0→Below W0.heap.size W0 W→Calls Tryz.prog 48 #[.agg #[.int .i64 z.op,.string ⟨z.name.toArray⟩,.string ⟨z.module.toArray⟩,.string ⟨(intF z.num).toArray⟩,.bool z.yes,.slice ak1 z.kids.length ck1,.int .i64 z.at_],.int .i64 (thenZ e.op)] W fun r w'=>r=.returned (.string P1)∧Below W0.heap.size W0 w':=fun W0 W h0 h1=>by
  have hW:=h0.trans (h1.mono h0.size)
  exact (hK1 (thenZ e.op) B m1 ak1 ck1 W (hE1.frame (Alk.of hW)) (Nat.le_trans hB hW.size) (by omega)).mono fun r w' q=>⟨by rw [q.1,eP1],h1.trans (q.2.mono h1.size)⟩
 have HX0:=Lib.hid hk0
 have HX1:=Lib.hid hk1
 have HTX:Hid (e.text=P0.data.toList++([32]:List UInt8)++SG.data.toList++([32]:List UInt8)++P1.data.toList):=Lib.hid (by rw [htx,hP0,hP1,hSG])
 have hsz:P0.size+1+SG.size+1+P1.size≤1099511627776:=by
  rw [← size_list,← size_list,← size_list,hP0,hP1,hSG];omega
 have hsg:sgA[(e.op - 7).toNat]?=some (.string SG):=by
  rw [sgA_at (e.op - 7).toNat (by omega),show ((((e.op - 7).toNat+7:Nat)):Int)=e.op by omega,eS]
 have hfb:=lv_bound e.op
 have hf1:=lv_first (op:=e.op)
 have hf2:=lv_then (op:=e.op)
 clear E htx hlx hln hm0 hm1 hK0 hK1 hE0 hE1 hk0 hk1 hP0 hP1 hSG eP0 eP1 eS
 generalize ByteArray.mk (intF e.num).toArray=NX at *
 generalize ByteArray.mk (intF x.num).toArray=XN at *
 generalize ByteArray.mk (intF z.num).toArray=ZN at *
 generalize e.text=out at *
 generalize e.op=op at *
 generalize firstZ op=fa at *
 generalize thenZ op=fb at *
 generalize lvZ op=lv at *
 have HF1:=Lib.hid hf1
 have HF2:=Lib.hid hf2
 clear hf1 hf2
 obtain ⟨hlv0,hlv9⟩:=hfb
 have hn:e.kids.length=2:=hkn
 generalize e.kids.length=nk at *
 have hnI0:0<nk:=by omega
 have hnI1:1<nk:=by omega
 have hnJ0:(0:Int)<(nk:Int):=by omega
 have hnJ1:(1:Int)<(nk:Int):=by omega
 clear hkn hn
 have hbw:=below_new w (.cells (boxY op ⟨e.name.toArray⟩ ⟨e.module.toArray⟩ NX e.yes (.slice (some ⟨kb,off,none⟩) nk ce) e.at_) 55)
 have hN:=heap_alloc_new w (.cells (boxY op ⟨e.name.toArray⟩ ⟨e.module.toArray⟩ NX e.yes (.slice (some ⟨kb,off,none⟩) nk ce) e.at_) 55)
 go_enter Tryz.func50,Tryz.ntmps50
 go_upto_region 1 with fail
 change Code.wp _ _ _ _ (w.alloc (.cells (boxY op ⟨e.name.toArray⟩ ⟨e.module.toArray⟩ NX e.yes (.slice (some ⟨kb,off,none⟩) nk ce) e.at_) 55))
 generalize w.alloc _=w1 at hbw hN ⊢
 have hl1:=(Array.getElem?_eq_some_iff.1 hN).1
 have hz1:=hbw.size
 have hal2:=below_new w1 (.cells sgA 159)
 have hS2:=heap_alloc_new w1 (.cells sgA 159)
 have hN2:=(hal2.block w.heap.size hl1).trans hN
 have hb2:=hbw.trans (hal2.mono hz1)
 go_upto_region 2 with fail
 change Code.wp _ _ _ _ (w1.alloc (.cells sgA 159))
 generalize w1.heap.size=sb at hS2 ⊢
 generalize w1.alloc _=w2 at hS2 hN2 hb2 ⊢
 have hls:=(Array.getElem?_eq_some_iff.1 hS2).1
 have hl2:=(Array.getElem?_eq_some_iff.1 hN2).1
 have HN2:=Lib.hid hN2
 have HS2:=Lib.hid hS2
 obtain ⟨y0,-,-,-,-,-,-⟩:=boxY_cells hN2
 clear hN hN2 hS2 hal2 hbw
 go_upto_if 15 with (go_at_call 89;refine (HL.out _).mono ?_;rintro r w3 ⟨rfl,hb3⟩)
 have hN3:=(hb3.block w.heap.size hl2).trans HN2.out
 have hS3:=(hb3.block sb hls).trans HS2.out
 have hb03:=hb2.trans (hb3.mono hb2.size)
 have hl3:=(Array.getElem?_eq_some_iff.1 hN3).1
 have hls3:=(Array.getElem?_eq_some_iff.1 hS3).1
 have HN3:=Lib.hid hN3
 have HS3:=Lib.hid hS3
 clear y0 hN3 hS3 HN2 HS2 HL hb2 hb3 hl1 hz1 hls hl2
 generalize ht:(lv == 5)=t
 obtain ⟨fc,hfc⟩:∃ fc:Int,fc=if lv=5 then 6 else lv:=⟨_,rfl⟩
 have HFC:=Lib.hid hfc
 clear hfc
 go_cut [5,15] (fun s t wc=>s=.int .i64 fc∧w3=wc)
 case first =>
  cases t with
  | true =>
   obtain rfl:lv=5:=by simpa using ht
   go_wp2
   go_meet
   exact ⟨by rw [HFC.out];rfl,rfl⟩
  | false =>
   have hl5:¬ lv=5:=by simpa using ht
   have HL5:=Lib.hid hl5
   clear hl5 ht
   go_wp2
   go_meet
   exact ⟨by rw [HFC.out,if_neg HL5.out],rfl⟩
 case rest =>
 obtain ⟨rfl,rfl⟩:=hcut
 go_upto_if 17 with fail
 clear ht
 generalize ht:(lv == 1)=t1
 go_cut [5,6,17] (fun s6 s7 t wc=>s6=.int .i64 fa∧s7=.int .i64 fb∧w3=wc)
 case first =>
  cases t1 with
  | true =>
   obtain rfl:lv=1:=by simpa using ht
   go_wp2
   go_meet
   exact ⟨by rw [HF1.out];rfl,by rw [HF2.out];rfl,rfl⟩
  | false =>
   have hl5:¬ lv=1:=by simpa using ht
   have HL5:=Lib.hid hl5
   clear hl5 ht
   go_wp2
   go_meet
   exact ⟨by rw [HF1.out,HFC.out,if_neg HL5.out],by rw [HF2.out,if_neg HL5.out],rfl⟩
 case rest =>
 obtain ⟨rfl,rfl,rfl⟩:=hcut
 clear ht HF1 HF2 HFC
 obtain ⟨y0,-,-,-,-,y5,-⟩:=boxY_cells HN3.out
 have ys:w3.cell? ⟨sb,(op - 7).toNat,none⟩=some (.string SG):=by rw [Lib.cell_of_heap HS3.out];exact hsg
 have hkw:kb<w.heap.size:=by omega
 have hS:∀ W:World,Below w3.heap.size w3 W→W.cell? ⟨w.heap.size,0,none⟩=some (.int .i64 op)∧W.cell? ⟨w.heap.size,5,none⟩=some (.slice (some ⟨kb,off,none⟩) nk ce)∧W.cell? ⟨sb,(op - 7).toNat,none⟩=some (.string SG)∧W.cell? ⟨kb,off,none⟩=some (.int .i64 x.op)∧W.cell? ⟨kb,off+1,none⟩=some (.string ⟨x.name.toArray⟩)∧W.cell? ⟨kb,off+2,none⟩=some (.string ⟨x.module.toArray⟩)∧W.cell? ⟨kb,off+3,none⟩=some (.string XN)∧W.cell? ⟨kb,off+4,none⟩=some (.bool x.yes)∧W.cell? ⟨kb,off+5,none⟩=some (.slice ak0 x.kids.length ck0)∧W.cell? ⟨kb,off+6,none⟩=some (.int .i64 x.at_)∧W.cell? ⟨kb,off+7,none⟩=some (.int .i64 z.op)∧W.cell? ⟨kb,off+7+1,none⟩=some (.string ⟨z.name.toArray⟩)∧W.cell? ⟨kb,off+7+2,none⟩=some (.string ⟨z.module.toArray⟩)∧W.cell? ⟨kb,off+7+3,none⟩=some (.string ZN)∧W.cell? ⟨kb,off+7+4,none⟩=some (.bool z.yes)∧W.cell? ⟨kb,off+7+5,none⟩=some (.slice ak1 z.kids.length ck1)∧W.cell? ⟨kb,off+7+6,none⟩=some (.int .i64 z.at_):=fun W hq=>⟨(hq.cell (p:=⟨w.heap.size,0,none⟩) hl3).trans y0,(hq.cell (p:=⟨w.heap.size,5,none⟩) hl3).trans y5,(hq.cell (p:=⟨sb,(op - 7).toNat,none⟩) hls3).trans ys,((hb03.trans (hq.mono hb03.size)).cell (p:=⟨kb,off,none⟩) hkw).trans a0,((hb03.trans (hq.mono hb03.size)).cell (p:=⟨kb,off+1,none⟩) hkw).trans a1,((hb03.trans (hq.mono hb03.size)).cell (p:=⟨kb,off+2,none⟩) hkw).trans a2,((hb03.trans (hq.mono hb03.size)).cell (p:=⟨kb,off+3,none⟩) hkw).trans a3,((hb03.trans (hq.mono hb03.size)).cell (p:=⟨kb,off+4,none⟩) hkw).trans a4,((hb03.trans (hq.mono hb03.size)).cell (p:=⟨kb,off+5,none⟩) hkw).trans a5,((hb03.trans (hq.mono hb03.size)).cell (p:=⟨kb,off+6,none⟩) hkw).trans a6,((hb03.trans (hq.mono hb03.size)).cell (p:=⟨kb,off+7,none⟩) hkw).trans b0,((hb03.trans (hq.mono hb03.size)).cell (p:=⟨kb,off+7+1,none⟩) hkw).trans b1,((hb03.trans (hq.mono hb03.size)).cell (p:=⟨kb,off+7+2,none⟩) hkw).trans b2,((hb03.trans (hq.mono hb03.size)).cell (p:=⟨kb,off+7+3,none⟩) hkw).trans b3,((hb03.trans (hq.mono hb03.size)).cell (p:=⟨kb,off+7+4,none⟩) hkw).trans b4,((hb03.trans (hq.mono hb03.size)).cell (p:=⟨kb,off+7+5,none⟩) hkw).trans b5,((hb03.trans (hq.mono hb03.size)).cell (p:=⟨kb,off+7+6,none⟩) hkw).trans b6⟩
 have HS:=Lib.hid hS
 have hw7:IntKind.i64.wrap (op - 7)=op - 7:=IntWalk.i64_in _ (by omega)
 have h70:0≤op - 7:=by omega
 have hk1:¬ (9223372036854775807<P0.size+1):=by omega
 have hk2:¬ (9223372036854775807<P0.size+1+SG.size):=by omega
 have hk3:¬ (9223372036854775807<P0.size+1+SG.size+1):=by omega
 have hk4:¬ (9223372036854775807<P0.size+1+SG.size+1+P1.size):=by omega
 have h714:op - 7<14:=by omega
 have p0:=hS w3 (Below.refl _ _)
 have HY0:=Lib.hid (fun W=>HX0.out w3 W hb03)
 have HY1:=Lib.hid (fun W=>HX1.out w3 W hb03)
 clear HX0 HX1
 clear hS hsg
 go_upto_region 10 with fail
 go_region_held3 (fun W=>W.cell? ⟨w.heap.size,0,none⟩=some (.int .i64 op)∧W.cell? ⟨w.heap.size,5,none⟩=some (.slice (some ⟨kb,off,none⟩) nk ce)∧W.cell? ⟨sb,(op - 7).toNat,none⟩=some (.string SG)∧W.cell? ⟨kb,off,none⟩=some (.int .i64 x.op)∧W.cell? ⟨kb,off+1,none⟩=some (.string ⟨x.name.toArray⟩)∧W.cell? ⟨kb,off+2,none⟩=some (.string ⟨x.module.toArray⟩)∧W.cell? ⟨kb,off+3,none⟩=some (.string XN)∧W.cell? ⟨kb,off+4,none⟩=some (.bool x.yes)∧W.cell? ⟨kb,off+5,none⟩=some (.slice ak0 x.kids.length ck0)∧W.cell? ⟨kb,off+6,none⟩=some (.int .i64 x.at_)∧W.cell? ⟨kb,off+7,none⟩=some (.int .i64 z.op)∧W.cell? ⟨kb,off+7+1,none⟩=some (.string ⟨z.name.toArray⟩)∧W.cell? ⟨kb,off+7+2,none⟩=some (.string ⟨z.module.toArray⟩)∧W.cell? ⟨kb,off+7+3,none⟩=some (.string ZN)∧W.cell? ⟨kb,off+7+4,none⟩=some (.bool z.yes)∧W.cell? ⟨kb,off+7+5,none⟩=some (.slice ak1 z.kids.length ck1)∧W.cell? ⟨kb,off+7+6,none⟩=some (.int .i64 z.at_))
  (first|(with_reducible exact p3)|(go_keep;done))
  (first|(go_at_call 48;(with_reducible refine (HY0.out _ (Below.refl _ _).drew).mono ?_);rintro r wA ⟨rfl,hqA⟩;have p3:=HS.out _ hqA)|(go_at_call 48;(with_reducible refine (HY1.out _ hqA).mono ?_);rintro r wB ⟨rfl,hqB⟩;have p3:=HS.out _ hqB))
 go_wp2
 go_ret
 exact ⟨ret_strY (by rw [HTX.out];simp),hb03.trans (hqB.mono hb03.size)⟩
end Go.Proofs.YtdednahplodojaaGreatDoor
