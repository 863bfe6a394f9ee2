/- Walks and plain laws: BodiesLawW, Open, ShowArgs, Law. -/
import Derived.Test.YtdednahplodojaaGreatDoorD41
import Derived.Deep.Slices
import Derived.Deep.Fields
import Derived.ChangeSame
import Derived.Test.YtdednahplodojaaGreatDoorRows
import Derived.ProofKit
import Derived.OpenShut
import Derived.OpenVars
set_option maxHeartbeats 16000000
set_option maxRecDepth 100000
set_option linter.unusedVariables false
set_option linter.unusedSimpArgs false
namespace Go.Proofs.YtdednahplodojaaGreatDoor
open Go.RowKit Go
theorem body_cat (T:ByteArray)(t:List UInt8)(h:T.data.toList=t):(ByteArray.mk #[102,117,110,32,102,40,41,58,32,105,110,116,32,61,32]++T++ByteArray.mk #[59]).data.toList=bodyS t:=by
 rw [append_list,append_list,h];rfl
theorem body_row {B:Nat}{w:World}{ad:Option Addr}{cd:Nat}{d:DD}(h:RowK DA (fun b=>b<B) w (.slice ad 1 cd) [d]):∃ b off bm vn dm be de,ad=some ⟨b,off,none⟩∧b<w.heap.size∧EAt XA (fun b=>b<B) w (.slice bm vn dm) (.slice be d.body.kids.length de) d.body∧b<B ∧
  (w.cell? ⟨b,off+5,none⟩=some (.int .i64 d.body.op)∧w.cell? ⟨b,off+6,none⟩=some (.string ⟨d.body.name.toArray⟩)∧w.cell? ⟨b,off+7,none⟩=some (.string ⟨d.body.module.toArray⟩)∧w.cell? ⟨b,off+8,none⟩=some (.bool (decide (d.body.num<0)))∧w.cell? ⟨b,off+9,none⟩=some (.slice bm vn dm)∧w.cell? ⟨b,off+10,none⟩=some (.bool d.body.yes)∧w.cell? ⟨b,off+11,none⟩=some (.slice be d.body.kids.length de)∧w.cell? ⟨b,off+12,none⟩=some (.int .i64 d.body.at_)):=by
 obtain ⟨ao,cap,hv,_,hf⟩:=h.form
 simp only [Value.slice.injEq] at hv
 obtain ⟨rfl,-,rfl⟩:=hv
 obtain ⟨b,off,h1,h2,h3,h4⟩:=hf (by simp)
 obtain ⟨x,h5,h6⟩:=h4 0 (by simp)
 obtain ⟨-,-,hE⟩:=h5
 obtain ⟨am,wn,cm,ae,ce,e1,e2⟩:=hE.slX
 simp only [List.getElem_cons_zero] at hE e1 e2 h6
 refine ⟨b,off,am,wn,cm,ae,ce,h1,h3,by rw [← e1,← e2];exact hE,h2,?_,?_,?_,?_,?_,?_,?_,?_⟩
 ·have:=h6 5 _ rfl;simpa using this
 ·have:=h6 6 _ rfl;rw [show off+0 * DA.sz+6=off+6 by omega] at this;exact this
 ·have:=h6 7 _ rfl;rw [show off+0 * DA.sz+7=off+7 by omega] at this;exact this
 ·have:=h6 8 _ rfl;simpa using this
 ·rw [← e1];have:=h6 9 _ rfl;simpa using this
 ·have:=h6 10 _ rfl;simpa using this
 ·rw [← e2];have:=h6 11 _ rfl;simpa using this
 ·have:=h6 12 _ rfl;simpa using this
theorem showBodies_any (B:Nat)(ao:Option Addr)(ct0:Nat)(t:List CellZ)(w:World)(h:TermAt B w ao t)(hB:B≤w.heap.size) :
  Calls Tryz.prog 7 #[.slice ao t.length ct0] w fun r w'=>r=.returned (.bool true)∧Below w.heap.size w w':=by
 have hb:=fun W (hW:Below w.heap.size w W)=>both_later B ao ct0 t w h hB W hW
 unfold BothPost at hb
 cases he:bothF t with
 | none =>
  rw [he] at hb
  have HB:=Lib.hid hb
  clear hb h he
  go_enter Tryz.func7,Tryz.ntmps7
  go_wp2_with (first|(go_at_call 17;refine (anchor9_any _).mono ?_;rintro r w1 ⟨rfl,hb1⟩)|(go_at_call 18;refine (HB.out _ hb1).mono ?_;rintro r w2 ⟨hb2,rfl⟩))
  go_ret
  exact ⟨rfl,((hb1.trans (hb2.mono hb1.size)).alloc (by have:=hb1.size;have:=hb2.size;omega) _).alloc (by have:=hb1.size;have:=hb2.size;simp;omega) _⟩
 | some e =>
  rw [he] at hb
  have HB:=Lib.hid hb
  have hf:=bothF_fit he
  have ht:=bothF_text he
  have hna:=bothF_noat he
  have hsz:=bothF_size he
  have hsh:e.right false=true→e.text.length≤6000:=fun hr=>bothF_short he hr
  clear hb h he
  go_enter Tryz.func7,Tryz.ntmps7
  go_upto_region 6 with (first|(go_at_call 17;refine (anchor9_any _).mono ?_;rintro r w1 ⟨rfl,hb1⟩)|(go_at_call 18;refine (HB.out _ hb1).mono ?_;rintro r w2 ⟨hb2,am,wn,cm,ae,ce,m,ak,ck,rfl,hZ,hY⟩))
  have hba:=(below_new w2 (.cells (boxZ e.op ⟨e.name.toArray⟩ ⟨e.module.toArray⟩ (decide (e.num<0)) (.slice am wn cm) e.yes (.slice ae e.kids.length ce) e.at_) 40)).alloc (by simp) (.cells (boxY e.op ⟨e.name.toArray⟩ ⟨e.module.toArray⟩ ⟨(intF e.num).toArray⟩ e.yes (.slice ak e.kids.length ck) e.at_) 55)
  have hX:=(Lib.alloc_old (w2.alloc (.cells (boxZ e.op ⟨e.name.toArray⟩ ⟨e.module.toArray⟩ (decide (e.num<0)) (.slice am wn cm) e.yes (.slice ae e.kids.length ce) e.at_) 40)) (.cells (boxY e.op ⟨e.name.toArray⟩ ⟨e.module.toArray⟩ ⟨(intF e.num).toArray⟩ e.yes (.slice ak e.kids.length ck) e.at_) 55) w2.heap.size (by simp)).trans (heap_alloc_new w2 (.cells (boxZ e.op ⟨e.name.toArray⟩ ⟨e.module.toArray⟩ (decide (e.num<0)) (.slice am wn cm) e.yes (.slice ae e.kids.length ce) e.at_) 40))
  have hZ3:=(hZ.imp (Q:=fun b=>b<w2.heap.size) fun b _ hl=>hl).frame (Alk.of hba)
  have hb3:=(hb1.trans (hb2.mono hb1.size)).trans (hba.mono (by have:=hb1.size;have:=hb2.size;omega))
  have hz3:=hba.size
  change Code.wp _ _ _ _ ((w2.alloc (.cells (boxZ e.op ⟨e.name.toArray⟩ ⟨e.module.toArray⟩ (decide (e.num<0)) (.slice am wn cm) e.yes (.slice ae e.kids.length ce) e.at_) 40)).alloc (.cells (boxY e.op ⟨e.name.toArray⟩ ⟨e.module.toArray⟩ ⟨(intF e.num).toArray⟩ e.yes (.slice ak e.kids.length ck) e.at_) 55))
  generalize ((w2.alloc (.cells (boxZ e.op ⟨e.name.toArray⟩ ⟨e.module.toArray⟩ (decide (e.num<0)) (.slice am wn cm) e.yes (.slice ae e.kids.length ce) e.at_) 40)).alloc (.cells (boxY e.op ⟨e.name.toArray⟩ ⟨e.module.toArray⟩ ⟨(intF e.num).toArray⟩ e.yes (.slice ak e.kids.length ck) e.at_) 55))=w3 at hX hZ3 hb3 hz3 ⊢
  clear hba hZ hY hb1 hb2 HB
  have HSf:=Lib.hid (fun W (hW:Below w3.heap.size w3 W)=>sbody_any e w2.heap.size am wn cm ae ce W ⟨hZ3.frame (Alk.of hW),Nat.le_trans hz3 hW.size,hf⟩ (by omega))
  unfold ShowPost at HSf
  obtain ⟨x0,x1,x2,x3,x4,x5,x6,x7⟩:=boxZ_cells hX
  have HX:=Lib.hid hX
  have hlX:=(Array.getElem?_eq_some_iff.1 hX).1
  clear hX
  cases hrt:e.right false with
  | false =>
   simp only [hrt,if_false,Bool.false_eq_true] at HSf
   clear hZ3 hsh
   go_wp2_with (go_at_call 20;refine (HSf.out _ (Below.refl _ _)).mono ?_;rintro r w4 ⟨rfl,hb4⟩)
   go_ret
   exact ⟨rfl,hb3.trans (hb4.mono hb3.size)⟩
  | true =>
   simp only [hrt,if_true] at HSf
   have hs6:=hsh hrt
   have HDx:=Lib.hid (fun W (hW:Below w3.heap.size w3 W)=>zdump_any e hrt hna hf (by omega) w2.heap.size am wn cm ae ce W (hZ3.frame (Alk.of hW)) (Nat.le_trans hz3 hW.size))
   unfold StrPost at HDx
   obtain ⟨T,eT0,eT⟩:=bytes_of e.text
   have hTs:T.size≤6000:=by rw [← size_list,eT0];exact hs6
   have hbs:(bodyS e.text).length≤65536:=by simp only [bodyS,List.length_append,List.length_cons,List.length_nil];omega
   have hct:=body_cat T e.text eT0
   have hcz:(ByteArray.mk #[102,117,110,32,102,40,41,58,32,105,110,116,32,61,32]++T++ByteArray.mk #[59]).size≤1099511627776:=by rw [← size_list,hct];omega
   have HP:=Lib.hid (fun W=>parse_any (ByteArray.mk #[102,117,110,32,102,40,41,58,32,105,110,116,32,61,32]++T++ByteArray.mk #[59]) 200 W (by omega) (by omega) hcz)
   rw [hct] at HP
   have hk1:¬ (9223372036854775807<15+T.size):=by omega
   have hk2:¬ (9223372036854775807<15+T.size+1):=by omega
   have hfp:=body_print hrt hbs
   simp only [eT] at HSf
   clear hsh hZ3 hcz
   rcases hfp with ⟨a,hbad⟩|⟨toks,nodes,hgood,F,hnoat⟩
   ·rw [hbad] at HP
    clear HDx hbad eT eT0 hct hbs
    go_upto_region 10 with (first|(go_at_call 20;refine (HSf.out _ (Below.refl _ _)).mono ?_;rintro r w4 ⟨rfl,hb4⟩)|(go_at_call 13;refine (HP.out _).mono ?_;rintro r w5 ⟨hb5,rfl⟩))
    have hb6:=(below_new w5 (.cells #[.slice none 0 0,.slice none 0 0] 25)).alloc (by simp) (.cells #[.int .i64 23,.int .i64 a] 44)
    have e2:=heap_alloc_new (w5.alloc (.cells #[.slice none 0 0,.slice none 0 0] 25)) (.cells #[.int .i64 23,.int .i64 a] 44)
    rw [World.size_alloc] at e2
    have hb45:=hb4.trans (hb5.mono hb4.size)
    have hbw:=hb3.trans ((hb45.trans (hb6.mono hb45.size)).mono hb3.size)
    change Code.wp _ _ _ _ ((w5.alloc (.cells #[.slice none 0 0,.slice none 0 0] 25)).alloc (.cells #[.int .i64 23,.int .i64 a] 44))
    generalize (w5.alloc _).alloc _=w6 at e2 hbw ⊢
    obtain ⟨f0,f1,-⟩:=fault_cells e2
    clear hb4 hb5 hb6 hb45 HP HSf e2 x0 x1 x2 x3 x4 x5 x6 x7
    go_wp2
    go_ret
    exact ⟨rfl,hbw⟩
   ·rw [hgood] at HP
    have HFo:=Lib.hid (fun B at_ ct an cn W hT hB=>of_yes B at_ ct an cn (ByteArray.mk #[102,117,110,32,102,40,41,58,32,105,110,116,32,61,32]++T++ByteArray.mk #[59]) toks nodes (bodyPg e.ce) W hT hB (by rw [hct];exact F))
    have hpp:(bodyPg e.ce).pp toks=⟨[],[(bodyD e.ce).dd toks 0]⟩:=rfl
    have hbd:((bodyD e.ce).dd toks 0).body=e.ce.pe toks 7:=rfl
    rw [hpp] at HFo
    have hall:=(F.fits _ (by rw [hpp];exact List.mem_singleton.2 rfl)).2.2
    have htold:=(F.told _ (by rw [hpp];exact List.mem_singleton.2 rfl)).2.2
    have hfew:=(F.few _ (by rw [hpp];exact List.mem_singleton.2 rfl)).2.2
    have hnd:=F.nd
    have hcn:=F.count
    have hsm:(bodyS e.text).length≤6016:=by simp only [bodyS,List.length_append,List.length_cons,List.length_nil];omega
    have hxd:((bodyD e.ce).dd toks 0).body.dump=e.toE.dump:=dump_noat (by rw [hbd,hnoat,PZ.toE_z e hrt,PZ.noat_id])
    have hxl:=dumpT_len _ hall
    rw [PE.dump_told htold] at hxl
    have hxs0:((bodyD e.ce).dd toks 0).body.sizeG≤20000:=Nat.le_trans hfew (by omega)
    have hxl2:((bodyD e.ce).dd toks 0).body.dump.length≤1099511627776:=by
     have:((bodyD e.ce).dd toks 0).body.sizeG * (3 * ((bodyS e.text).length+1)+30)≤20000 * (3 * (6016+1)+30):=Nat.mul_le_mul hxs0 (by omega)
     omega
    have hxs:((bodyD e.ce).dd toks 0).body.size≤1099511627776:=by
     have:=PE.size_leG ((bodyD e.ce).dd toks 0).body
     omega
    clear hgood F hnoat hxl htold hfew hnd hcn hpp hbd hxs0 hsm hct
    generalize (bodyD e.ce).dd toks 0=d at *
    generalize e.toE.dump=D at *
    go_upto_region 10 with (first|(go_at_call 20;refine (HSf.out _ (Below.refl _ _)).mono ?_;rintro r w4 ⟨rfl,hb4⟩)|(go_at_call 13;refine (HP.out _).mono ?_;rintro r w5 ⟨hb5,at_,ct,an,cn,rfl,hty⟩))
    have hb6:=(below_new w5 (.cells #[.slice at_ toks.length ct,.slice an nodes.length cn] 25)).alloc (by simp) (.cells #[.int .i64 0,.int .i64 0] 44)
    have hT:=(hty.at).below hb6
    have e1:=(Lib.alloc_old (w5.alloc (.cells #[.slice at_ toks.length ct,.slice an nodes.length cn] 25)) (.cells #[.int .i64 0,.int .i64 0] 44) w5.heap.size (by simp)).trans (heap_alloc_new w5 (.cells #[.slice at_ toks.length ct,.slice an nodes.length cn] 25))
    have e2:=heap_alloc_new (w5.alloc (.cells #[.slice at_ toks.length ct,.slice an nodes.length cn] 25)) (.cells #[.int .i64 0,.int .i64 0] 44)
    rw [World.size_alloc] at e2
    have hb45:=hb4.trans (hb5.mono hb4.size)
    have hb36:=hb45.trans (hb6.mono hb45.size)
    have hs6':=hb6.size
    change Code.wp _ _ _ _ ((w5.alloc (.cells #[.slice at_ toks.length ct,.slice an nodes.length cn] 25)).alloc (.cells #[.int .i64 0,.int .i64 0] 44))
    generalize (w5.alloc _).alloc _=w6 at hT e1 e2 hb36 hs6' ⊢
    clear hty hb4 hb5 hb6 hb45 HP HSf x0 x1 x2 x3 x4 x5 x6 x7 eT eT0
    obtain ⟨c0,c1⟩:=tree_cells e1
    obtain ⟨f0,f1,-⟩:=fault_cells e2
    have HFx:=Lib.hid (HFo.out w5.heap.size at_ ct an cn w6 hT hs6')
    clear HFo hT e1 e2
    go_upto_region 13 with (go_at_call 11;refine HFx.out.mono ?_;rintro r w7 ⟨ai,ci,ad,cd,rfl,-,hx7,hb7⟩)
    have hal:=below_new w7 (.cells #[.slice ai 0 ci,.slice ad 1 cd] 31)
    have hXP:=heap_alloc_new w7 (.cells #[.slice ai 0 ci,.slice ad 1 cd] 31)
    have hx8:=((hx7.imp (Q:=fun b=>b<w7.heap.size) fun b _ hl=>hl).frame (Alk.of hal)).2
    have hb68:=hb7.trans (hal.mono hb7.size)
    have hb38:=hb36.trans (hb68.mono hb36.size)
    have hz8:=hal.size
    change Code.wp _ _ _ _ (w7.alloc (.cells #[.slice ai 0 ci,.slice ad 1 cd] 31))
    generalize w7.alloc _=w8 at hXP hx8 hb38 hz8 ⊢
    clear hal hx7 hb7 hb68 hb36 HFx c0 c1 f0 f1
    obtain ⟨q,off,bm,vn,dm,be,de,rfl,hqw,hE8,hqB,hcells⟩:=body_row hx8
    have HDp:=Lib.hid (fun W (hW:Below w8.heap.size w8 W)=>dumpX_any d.body hall w7.heap.size bm vn dm be de W (hE8.frame (Alk.of hW)) (Nat.le_trans hz8 hW.size) hxl2 hxs)
    unfold StrPost at HDp
    rw [hxd] at HDp
    obtain ⟨DB,eD0,eD⟩:=bytes_of D
    simp only [eD] at HDp HDx
    have hlP:=(Array.getElem?_eq_some_iff.1 hXP).1
    have HXP:=Lib.hid hXP
    have HCL:=Lib.hid hcells
    clear hx8 hE8 hxd hall hxl2 hxs eD eD0 hcells
    generalize d.body=x at *
    have hq0:Below w8.heap.size w8 w8.drew:=(Below.refl _ w8).drew
    have HPX:Hid (∀ W,Below w8.heap.size w8 W→W.cell? ⟨w7.heap.size,1,none⟩=some (.slice (some ⟨q,off,none⟩) 1 cd)):=Lib.hid fun W hW=>by rw [Lib.cell_of_heap ((hW.block w7.heap.size hlP).trans HXP.out)];rfl
    have HPB:Hid (∀ W,Below w8.heap.size w8 W→(W.cell? ⟨q,off+5,none⟩=some (.int .i64 x.op)∧W.cell? ⟨q,off+6,none⟩=some (.string ⟨x.name.toArray⟩)∧W.cell? ⟨q,off+7,none⟩=some (.string ⟨x.module.toArray⟩)∧W.cell? ⟨q,off+8,none⟩=some (.bool (decide (x.num<0)))∧W.cell? ⟨q,off+9,none⟩=some (.slice bm vn dm)∧W.cell? ⟨q,off+10,none⟩=some (.bool x.yes)∧W.cell? ⟨q,off+11,none⟩=some (.slice be x.kids.length de)∧W.cell? ⟨q,off+12,none⟩=some (.int .i64 x.at_))):=Lib.hid fun W hW=>⟨(hW.cell (p:=⟨q,off+5,none⟩) hqw).trans HCL.out.1,(hW.cell (p:=⟨q,off+6,none⟩) hqw).trans HCL.out.2.1,(hW.cell (p:=⟨q,off+7,none⟩) hqw).trans HCL.out.2.2.1,(hW.cell (p:=⟨q,off+8,none⟩) hqw).trans HCL.out.2.2.2.1,(hW.cell (p:=⟨q,off+9,none⟩) hqw).trans HCL.out.2.2.2.2.1,(hW.cell (p:=⟨q,off+10,none⟩) hqw).trans HCL.out.2.2.2.2.2.1,(hW.cell (p:=⟨q,off+11,none⟩) hqw).trans HCL.out.2.2.2.2.2.2.1,(hW.cell (p:=⟨q,off+12,none⟩) hqw).trans HCL.out.2.2.2.2.2.2.2⟩
    have HPE:=Lib.hid (fun W (hW:Below w8.heap.size w8 W)=>boxZ_cells (((hb38.trans (hW.mono hb38.size)).block w2.heap.size hlX).trans HX.out))
    have HDX:=Lib.hid (fun W (hW:Below w8.heap.size w8 W)=>HDx.out W (hb38.trans (hW.mono hb38.size)))
    have hfin:=Lib.hid (fun W (hW:Below w8.heap.size w8 W)=>hb3.trans ((hb38.trans (hW.mono hb38.size)).mono hb3.size))
    have p2:=HPX.out _ (Below.refl _ w8)
    have p3:=HPB.out _ (Below.refl _ w8)
    have p4:=HPE.out _ (Below.refl _ w8)
    have s0:=HPX.out _ (Below.refl _ w8)
    obtain ⟨s1,s2,s3,s4,s5,s6,s7,s8⟩:=HPB.out _ (Below.refl _ w8)
    obtain ⟨u0,u1,u2,u3,u4,u5,u6,u7⟩:=HPE.out _ (Below.refl _ w8)
    clear HDx hXP
    go_region_held3 (fun W=>W.cell? ⟨w7.heap.size,1,none⟩=some (.slice (some ⟨q,off,none⟩) 1 cd)∧(W.cell? ⟨q,off+5,none⟩=some (.int .i64 x.op)∧W.cell? ⟨q,off+6,none⟩=some (.string ⟨x.name.toArray⟩)∧W.cell? ⟨q,off+7,none⟩=some (.string ⟨x.module.toArray⟩)∧W.cell? ⟨q,off+8,none⟩=some (.bool (decide (x.num<0)))∧W.cell? ⟨q,off+9,none⟩=some (.slice bm vn dm)∧W.cell? ⟨q,off+10,none⟩=some (.bool x.yes)∧W.cell? ⟨q,off+11,none⟩=some (.slice be x.kids.length de)∧W.cell? ⟨q,off+12,none⟩=some (.int .i64 x.at_))∧(W.cell? ⟨w2.heap.size,0,none⟩=some (.int .i64 e.op)∧W.cell? ⟨w2.heap.size,1,none⟩=some (.string ⟨e.name.toArray⟩)∧W.cell? ⟨w2.heap.size,2,none⟩=some (.string ⟨e.module.toArray⟩)∧W.cell? ⟨w2.heap.size,3,none⟩=some (.bool (decide (e.num<0)))∧W.cell? ⟨w2.heap.size,4,none⟩=some (.slice am wn cm)∧W.cell? ⟨w2.heap.size,5,none⟩=some (.bool e.yes)∧W.cell? ⟨w2.heap.size,6,none⟩=some (.slice ae e.kids.length ce)∧W.cell? ⟨w2.heap.size,7,none⟩=some (.int .i64 e.at_)))
     (first|(with_reducible exact ⟨p2,p3,p4⟩)|(go_keep;done))
     (first
      | (go_at_call 25;with_reducible refine (HDX.out _ hqA).mono ?_;rintro r wB ⟨rfl,hbwB⟩;have hqB:=hqA.trans (hbwB.mono hqA.size);have p2:=HPX.out _ hqB;have p3:=HPB.out _ hqB;have p4:=HPE.out _ hqB)
      | (go_at_call 25;with_reducible refine (HDp.out _ hq0).mono ?_;rintro r wA ⟨rfl,hbwA⟩;have hqA:=hq0.trans (hbwA.mono hq0.size);have p2:=HPX.out _ hqA;have p3:=HPB.out _ hqA;have p4:=HPE.out _ hqA))
    all_goals
     go_wp2_with fail
     go_ret
     exact ⟨rfl,hfin.out _ hqB⟩
end Go.Proofs.YtdednahplodojaaGreatDoor

namespace Go.Proofs.YtdednahplodojaaGreatDoor
open Go.ChangeShapes Go.WideShapes Go.Deep Go.RowKit
theorem exists_list {α:Type}{Q:Nat→α→Prop}:∀ (n:Nat),(∀ i,i<n→∃ a,Q i a)→∃ l:List α,l.length=n∧∀ i (h:i<l.length),Q i l[i]
 | 0,_=>⟨[],rfl,fun i h=>absurd h (by simp)⟩
 | n+1,h=>by
  obtain ⟨l,hl,hq⟩:=exists_list n (fun i hi=>h i (by omega))
  obtain ⟨a,ha⟩:=h n (by omega)
  refine ⟨l++[a],by simp [hl],fun i hi=>?_⟩
  rcases Nat.lt_or_ge i l.length with h'|h'
  ·rw [List.getElem_append_left h'];exact hq i h'
  ·have:i=n:=by simp at hi;omega
   subst this
   rw [List.getElem_append_right h']
   simp only [hl,Nat.sub_self]
   exact ha
theorem Rec.of {α:Type}{B b off len cap sz:Nat}{w:World}{f:α→List Value}{l:List α}(hf:∀ x,(f x).length=sz)(hl:l.length=len)(hcap:len≤cap)(hb:b<B)(hsz:0<sz)
  (hc:∀ i (h:i<l.length),∀ j u,(f l[i])[j]?=some u→w.cell? ⟨b,off+(i * sz+j),none⟩=some u) :
  Rec B w (.slice (some ⟨b,off,none⟩) len cap) sz f l:=by
 subst hl
 refine ⟨some ⟨b,off,none⟩,cap,rfl,hcap,flat_length hf l,fun _=>⟨b,off,rfl,hb,fun i hi=>?_⟩⟩
 rw [flat_length hf] at hi
 have h1:i / sz<l.length:=Nat.div_lt_of_lt_mul (by rw [Nat.mul_comm];exact hi)
 have h2:i % sz<sz:=Nat.mod_lt _ hsz
 have h3:i / sz * sz+i % sz=i:=by rw [Nat.mul_comm];exact Nat.div_add_mod i sz
 have h4:=flat_at hf l (i / sz) (i % sz) h1 h2
 rw [h3] at h4
 have h5:(f l[i / sz])[i % sz]?=some ((f l[i / sz])[i % sz]'(by rw [hf];exact h2)):=List.getElem?_eq_getElem _
 have h6:=hc (i / sz) h1 (i % sz) _ h5
 rw [h3] at h6
 rw [h6]
 rw [h5] at h4
 obtain ⟨h7,h8⟩:=List.getElem?_eq_some_iff.1 h4
 rw [h8]
theorem Rec.nil {α:Type}{B cap sz:Nat}{w:World}{f:α→List Value}{ao:Option Addr}:Rec B w (.slice ao 0 cap) sz f [] :=
 ⟨ao,cap,rfl,Nat.zero_le _,by simp,fun h=>absurd h (by simp)⟩
theorem add_none (b off n:Nat):(⟨b,off,none⟩:Addr).add n=⟨b,off+n,none⟩:=by
 unfold Addr.add
 split
 ·rename_i h;subst h;rfl
 ·rfl
theorem open_recs {H:Type}{enc:TypeId × Value→H}{P:Program}{w:World}{base:Nat}{spare:Nat→Bool}{held:Bool}{α:Type}{g:α→List Value}{Good:α→Prop}{sz:Nat}{t e:TypeId}{fs:Array Field}{fuel:Nat}{v:Value}{x:DataW H × List MemPlace}
  (ht:P.underlying t=some (.slice e)) (he:P.underlying e=some (.struct fs)) (hone:oneCellFields P fs=true) (hC:P.cellsOf e=sz) (hfs:fs.size=sz) (hg:∀ a,(g a).length=sz) (hsz:0<sz)
  (take:∀ us:List Value,us.length=sz→(∀ (j:Nat) (f:Field),fs[j]?=some f→∃ u n y,us[j]?=some u∧DataW.trod enc P w base spare held n f.type [u]=some y)→∃ a,g a=us∧Good a)
  (h:DataW.trod enc P w base spare held fuel t [v]=some x) :
  ∃ l:List α,Rec w.heap.size w v sz g l∧l.length≤maxLen∧∀ k (hk:k<l.length),Good l[k]:=by
 rcases open_slice ht h with ⟨hcs,_⟩|⟨a,len,cap,m,n,D,Pl,hcs,_,hlc,hcm,hm,_,hi⟩
 ·obtain rfl:v=.slice none 0 0:=by simpa using hcs
  exact ⟨[],Rec.nil,Nat.zero_le _,fun k hk=>absurd hk (by simp)⟩
 obtain rfl:v=.slice (some a) len cap:=by simpa using hcs
 have hlm:len≤m:=by rw [hm];split <;> omega
 have hrow:∀ i,i<len→∃ r:α,(∀ j u,(g r)[j]?=some u→w.cell? ((a.add (i * sz)).add j)=some u)∧Good r:=by
  intro i hil
  obtain ⟨cs,hc,htr⟩:=hi i (by omega)
  rw [hC] at hc
  obtain ⟨_,hlen,hat⟩:=World.cells?_some hc
  obtain ⟨ys,n',_,_,_,hyl,hf⟩:=DataW.trod_struct he htr
  obtain ⟨r,hr,hgood⟩:=take cs hlen (by
   intro j f hj
   have hjl:j<fs.size:=(Array.getElem?_eq_some_iff.1 hj).1
   obtain ⟨ho,hk⟩:=hone_of hone j f hj
   have h1:=hf j f hj
   rw [ho,hk,List.drop_eq_getElem_cons (by omega)] at h1
   refine ⟨cs[j]'(by omega),n',ys[j]'(by omega),List.getElem?_eq_getElem _,?_⟩
   rw [← List.getElem?_eq_getElem]
   exact h1)
  refine ⟨r,fun j u hu=>?_,hgood⟩
  rw [hr] at hu
  obtain ⟨hj,_⟩:=List.getElem?_eq_some_iff.1 hu
  rw [hat j (by omega),hu]
 rcases Nat.eq_zero_or_pos len with h0|h0
 ·subst h0
  exact ⟨[],Rec.nil,Nat.zero_le _,fun k hk=>absurd hk (by simp)⟩
 obtain ⟨b,off,spot⟩:=a
 obtain ⟨r0,hr0,_⟩:=hrow 0 h0
 have hc0:=hr0 0 ((g r0)[0]'(by rw [hg];exact hsz)) (List.getElem?_eq_getElem _)
 rw [Nat.zero_mul] at hc0
 have hc0:w.cell? ⟨b,off,spot⟩=some ((g r0)[0]'(by rw [hg];exact hsz)):=by simpa [Addr.add] using hc0
 have hspot:spot=none:=World.cell?_spot hc0
 subst hspot
 have hb:b<w.heap.size:=World.block_lt_of_cell? w _ hc0
 obtain ⟨l,hl,hq⟩:=exists_list len hrow
 refine ⟨l,Rec.of hg hl hlc hb hsz (fun i h' j u hu=>?_),by omega,fun k hk=>(hq k hk).2⟩
 have:=(hq i h').1 j u hu
 rw [add_none,add_none,Nat.add_assoc] at this
 exact this
theorem open_term {H:Type}{enc:TypeId × Value→H}{w:World}{base:Nat}{spare:Nat→Bool}{held:Bool}{fuel:Nat}{a0:Option Addr}{n0 c0:Nat}{x:DataW H × List MemPlace}
  (h:DataW.trod enc Tryz.prog w base spare held fuel 52 [.slice a0 n0 c0]=some x) :
  ∃ (t:List CellZ) (n:Nat),Value.slice a0 n0 c0=.slice a0 t.length c0∧TermAt w.heap.size w a0 t:=by
 obtain ⟨l,h1,_,_⟩:=open_recs (g:=fun c=>(cellC c).toList) (Good:=fun _:CellZ=>True) Tryz.underlying52 Tryz.underlying104 (by kernel_rfl) (by kernel_rfl) rfl (fun _=>rfl) (by decide) (by
  intro us hlen hf
  obtain ⟨u0,n0,y0,h0,t0⟩:=hf 0 _ rfl
  obtain ⟨u1,n1,y1,h1,t1⟩:=hf 1 _ rfl
  obtain ⟨u2,n2,y2,h2,t2⟩:=hf 2 _ rfl
  obtain ⟨u3,n3,y3,h3,t3⟩:=hf 3 _ rfl
  obtain ⟨u4,n4,y4,h4,t4⟩:=hf 4 _ rfl
  obtain ⟨u5,n5,y5,h5,t5⟩:=hf 5 _ rfl
  obtain ⟨i0,e0,_,_⟩:=DataW.trod_int Tryz.underlying3 t0
  obtain ⟨i1,e1,_,_⟩:=DataW.trod_int Tryz.underlying3 t1
  obtain ⟨s2,e2,_,_⟩:=DataW.trod_string Tryz.underlying9 t2
  obtain ⟨s3,e3,_,_⟩:=DataW.trod_string Tryz.underlying9 t3
  obtain ⟨s4,e4,_,_⟩:=DataW.trod_string Tryz.underlying9 t4
  obtain ⟨b5,e5,_⟩:=DataW.trod_bool Tryz.underlying4 t5
  match us,hlen with
  | [c0,c1,c2,c3,c4,c5],_ =>
   simp only [List.cons.injEq,and_true] at e0 e1 e2 e3 e4 e5
   simp at h0 h1 h2 h3 h4 h5
   subst h0 h1 h2 h3 h4 h5 e0 e1 e2 e3 e4 e5
   exact ⟨⟨i0,i1,s2.data.toList,s3.data.toList,s4.data.toList,b5⟩,rfl,trivial⟩) h
 obtain ⟨ao,cap,hv,_,hc⟩:=Rec.form h1 (fun _=>rfl)
 simp only [Value.slice.injEq] at hv
 obtain ⟨rfl,rfl,rfl⟩:=hv
 refine ⟨l,0,rfl,fun h0=>?_⟩
 obtain ⟨b,off,h2,h3,h4⟩:=hc h0
 exact ⟨b,off,h2,h3,h3,fun i hi j u hu=>h4 i j u hi (by rw [Array.getElem?_toList];exact hu)⟩
end Go.Proofs.YtdednahplodojaaGreatDoor

namespace Go.Proofs.YtdednahplodojaaGreatDoor
open Go.ChangeShapes Go.WideShapes Go.ChangeAt Go.RowKit
theorem trodAll_below {H:Type}{enc:TypeId × Value→H}{P:Program}(hl:laidOutB P=true){W W':World}(hb:Below W.heap.size W W'):∀ {ts:List TypeId} {vs:List Value} {ds:List (DataW H)} {ps:List MemPlace},
  ts.all (fun t=>P.readableRec t && decide (t<P.types.size))=true→DataW.TrodAll enc P W 0 (fun _=>true) true ts vs ds ps→(∀ x∈ps,x.block<W.heap.size) →
  DataW.TrodAll enc P W' 0 (fun b=>decide (b<W.heap.size)) true ts vs ds ps
 | [],[],[],_,_,h,_=>h
 | [],_ :: _,_,_,_,h,_=>h.elim
 | [],[],_ :: _,_,_,h,_=>h.elim
 | _ :: _,[],_,_,_,h,_=>h.elim
 | _ :: _,_ :: _,[],_,_,h,_=>h.elim
 | t :: ts,v :: vs,d :: ds,_,ha,h,hlt=>by
  obtain ⟨p,q,h1,h2,rfl⟩:=h
  simp only [List.all_cons,Bool.and_eq_true,decide_eq_true_eq] at ha
  exact ⟨p,q,Below.trod hl ha.1.1 ha.1.2 h1 hb (fun x hx=>hlt x (List.mem_append_left _ hx)),trodAll_below hl hb ha.2 h2 (fun x hx=>hlt x (List.mem_append_right _ hx)),rfl⟩
theorem law_post {H:Type}{enc:TypeId × Value→H}{P:Program}{f:Func}{s:ChangeSpec}{W W':World}{args:Array Value}{ds gs:List (DataW H)}{before:List MemPlace}{tb:TypeId}
  (hl:laidOutB P=true) (hp:f.params.toList.all (fun t=>P.readableRec t && decide (t<P.types.size))=true) (hv:varsRowed P s.vars=true) (hr:f.resultTypes=#[tb]) (htb:P.underlying tb=some .bool)
  (hW:DataW.Whole enc P f.params.toList s.vars false W args.toList ds gs before) (hf1:(s.fn H (ds++gs)).results=[.lit (.bool true)]) (hf2:(s.fn H (ds++gs)).args=ds) (hf3:(s.fn H (ds++gs)).vars=gs)
  (hb:Below W.heap.size W W'):s.post enc P f false true false false W args (.bool true) W':=by
 have hlt:=hW.lt
 have hW':=hW
 obtain ⟨p,q,hA,hV,rfl,hfz,hnd⟩:=hW
 refine ⟨ds,gs,p++q,[]++[],p,q,hW',?_,?_,?_,hb.frame _,fun h=>by cases h⟩
 ·rw [hr,hf1]
  exact ⟨[],[],shut_bool htb true,rfl,rfl⟩
 ·rw [hf2]
  exact trodAll_below hl hb hp hA (fun x hx=>hlt x (List.mem_append_left _ hx))
 ·rw [hf3]
  exact Below.trodVars hl hb hv hV
end Go.Proofs.YtdednahplodojaaGreatDoor
