/- Walks and plain laws: DumpX, ZedumpW, ReadsLawW, Open, ShowArgs, Law. -/
import Derived.Test.YtdednahplodojaaGreatDoorC33
import Derived.Deep.Slices
import Derived.Deep.Fields
import Derived.ChangeSame
import Derived.Test.YtdednahplodojaaGreatDoorRows
import Derived.ProofKit
import Derived.OpenShut
import Derived.OpenVars
set_option maxHeartbeats 16000000
set_option maxRecDepth 100000
set_option linter.unusedVariables false
set_option linter.unusedSimpArgs false
namespace Go.Proofs.YtdednahplodojaaGreatDoor
open Go.RowKit Go
theorem dumpX_any {M:Nat}(x:PE)(hf:x.fits M)(B:Nat)(am:Option Addr)(wn cm:Nat)(ae:Option Addr)(ce:Nat)(w:World)(h:EAt XA (fun b=>b<B) w (.slice am wn cm) (.slice ae x.kids.length ce) x)(hB:B≤w.heap.size)(hd:x.dump.length≤1099511627776)(hz:x.size≤1099511627776) :
  Calls Tryz.prog 25 #[.agg #[.int .i64 x.op,.string ⟨x.name.toArray⟩,.string ⟨x.module.toArray⟩,.bool (decide (x.num<0)),.slice am wn cm,.bool x.yes,.slice ae x.kids.length ce,.int .i64 x.at_]] w (StrPost x.dump w):=by
 have hbb:=(below_new w (.cells (boxA x.op ⟨x.name.toArray⟩ ⟨x.module.toArray⟩ (decide (x.num<0)) (.slice am wn cm) x.yes (.slice ae x.kids.length ce) x.at_) 40))
 have hbd:=Bld.fresh (T:=99) (w.alloc (.cells (boxA x.op ⟨x.name.toArray⟩ ⟨x.module.toArray⟩ (decide (x.num<0)) (.slice am wn cm) x.yes (.slice ae x.kids.length ce) x.at_) 40))
 rw [World.size_alloc] at hbd
 have hb2:=hbb.alloc hbb.size (.cells #[.pointer none,.slice none 0 0] 99)
 have hbox:=(Lib.alloc_old _ (.cells #[.pointer none,.slice none 0 0] 99) w.heap.size (by simp)).trans (heap_alloc_new w (.cells (boxA x.op ⟨x.name.toArray⟩ ⟨x.module.toArray⟩ (decide (x.num<0)) (.slice am wn cm) x.yes (.slice ae x.kids.length ce) x.at_) 40))
 have hHD:=fun W hW hWB=>edump_any (SizeOf.sizeOf x+1) x (by omega) hf B (w.heap.size+1) (w.heap.size+1) am wn cm ae ce [] W hW (by omega) hWB
 have HD:=Lib.hid hHD
 have HE:=Lib.hid (fun W (hW:Below w.heap.size w W)=>EAt.frame (Alk.ofB hW (fun b hb=>by omega)) h)
 have hs2:w.heap.size+1≤((w.alloc (.cells (boxA x.op ⟨x.name.toArray⟩ ⟨x.module.toArray⟩ (decide (x.num<0)) (.slice am wn cm) x.yes (.slice ae x.kids.length ce) x.at_) 40)).alloc (.cells #[.pointer none,.slice none 0 0] 99)).heap.size:=by simp
 clear hbb hHD h
 go_enter Tryz.func25,Tryz.ntmps25
 go_upto_region 2 with fail
 change Code.wp _ _ _ _ ((w.alloc (.cells (boxA x.op ⟨x.name.toArray⟩ ⟨x.module.toArray⟩ (decide (x.num<0)) (.slice am wn cm) x.yes (.slice ae x.kids.length ce) x.at_) 40)).alloc (.cells #[.pointer none,.slice none 0 0] 99))
 generalize (w.alloc _).alloc _=w2 at hbd hb2 hbox hs2 ⊢
 obtain ⟨y0,y1,y2,y3,y4,y5,y6,y7⟩:=boxA_cells hbox
 have HC:=Lib.hid (HD.out w2 (HE.out w2 hb2) hbd hs2 (by simpa using hd) hz)
 clear hbd hbox HD HE
 go_wp2_with (first|(go_at_call 54;refine HC.out.mono ?_;rintro e w3 ⟨rfl,hbd3,hl3,ho3⟩;rw [List.nil_append] at hbd3;have hz3:=hl3.size)|(go_at_call 40;refine (bstring_any _ _ x.dump _ hbd3 (by omega)).mono ?_;rintro e w4 ⟨rfl,hbd4,hl4,ho4⟩))
 go_ret
 exact ⟨rfl,hb2.trans ((hl3.trans hl4).mono (by omega))⟩
mutual
theorem EAt.ofZ {P:Nat→Prop}{w:World}:∀ {e:PE} {m k:Value},ZAt YA P w m k e.z→EAt XA P w m k e
 | .mk op nm md num txt yes kids at_,m,k,h=>by
  rw [PE.z,ZAt] at h
  obtain ⟨h1,l,h2,h3⟩:=h
  rw [EAt]
  refine ⟨h1,l,?_,EAtL.ofZ h3⟩
  rw [rowsZ_of,zsE_map,List.length_map] at h2
  exact h2
theorem EAtL.ofZ {P:Nat→Prop}{w:World}:∀ {es:List PE} {l:List (Value × Value)},ZAtL YA P w l (zsE es)→EAtL XA P w l es
 | [],l,h=>by rw [zsE,ZAtL] at h;rw [EAtL];exact h
 | e :: es,l,h=>by
  rw [zsE,ZAtL] at h
  obtain ⟨p,l',h1,h2,h3⟩:=h
  rw [EAtL]
  exact ⟨p,l',h1,EAt.ofZ h2,EAtL.ofZ h3⟩
end
mutual
theorem PZ.toE_fits {fm:Bool}:∀ e:PZ,e.right fm=true→e.fit→e.toE.fits 65536
 | .mk op nm md num yes kids at_,h,hf=>by
  have R:=PZ.rightZ h
  have h1:1≤op:=R.op1
  have h2:op≤24:=R.op24
  have hv:=values_len R.values
  rw [PZ.fit] at hf
  simp only [PZ.num] at hv
  rw [PZ.toE,PE.fits]
  exact ⟨by omega,hf.1,hf.2.1,by omega,by omega,hf.2.2.1,toEs_fits kids (rightsZ_all.2 R.kids) hf.2.2.2.2⟩
theorem toEs_fits {fm:Bool}:∀ l:List PZ,rightsZ fm l=true→fitZ l→fitsE 65536 (toEs l)
 | [],_,_=>by rw [toEs,fitsE];trivial
 | e :: l,h,hf=>by
  rw [rightsZ,Bool.and_eq_true] at h
  rw [fitZ] at hf
  rw [toEs,fitsE]
  exact ⟨PZ.toE_fits e h.1 hf.1,toEs_fits l h.2 hf.2⟩
end
mutual
theorem PZ.toE_told:∀ e:PZ,e.toE.told
 | .mk op nm md num yes kids at_=>by rw [PZ.toE,PE.told];exact ⟨fun _=>rfl,toEs_told kids⟩
theorem toEs_told:∀ l:List PZ,toldE (toEs l)
 | []=>by rw [toEs,toldE];trivial
 | e :: l=>by rw [toEs,toldE];exact ⟨PZ.toE_told e,toEs_told l⟩
end
mutual
theorem PZ.toE_sizes:∀ e:PZ,e.toE.sizeG=e.size∧e.toE.size=e.size
 | .mk op nm md num yes kids at_=>by
  have:=toEs_sizes kids
  rw [PZ.toE,PE.sizeG,PE.size,PZ.size];omega
theorem toEs_sizes:∀ l:List PZ,sizeGE (toEs l)=sizeZ l∧sizeE (toEs l)=sizeZ l
 | []=>by rw [toEs,sizeGE,sizeE,sizeZ];exact ⟨rfl,rfl⟩
 | e :: l=>by
  have h1:=PZ.toE_sizes e
  have h2:=toEs_sizes l
  rw [toEs,sizeGE,sizeE,sizeZ];omega
end
theorem stepZ_noat {l:List PZ}{c:CellZ}(h:∀ x∈l,x.noat=x):∀ x∈stepZ l c,x.noat=x:=by
 intro x hx
 rw [stepZ] at hx
 rcases List.mem_append.1 hx with hx|hx
 ·exact h x (List.mem_of_mem_take hx)
 ·rw [List.mem_singleton] at hx
  subst hx
  rw [PZ.noat,noatZ_map]
  congr 1
  conv=>rhs;rw [← List.map_id (l.drop _)]
  exact List.map_congr_left fun y hy=>h y (List.mem_of_mem_drop hy)
theorem foldZ_noat:∀ (t:List CellZ) (l:List PZ),(∀ x∈l,x.noat=x)→∀ x∈t.foldl stepZ l,x.noat=x
 | [],l,h=>h
 | c :: t,l,h=>by rw [List.foldl_cons];exact foldZ_noat t _ (stepZ_noat h)
theorem bothF_noat {t:List CellZ}{e:PZ}(h:bothF t=some e):e.noat=e:=by
 unfold bothF at h
 split at h
 ·cases h
 ·split at h
  ·exact foldZ_noat t [] (fun x hx=>by cases hx) e (List.mem_of_getLast? h)
  ·cases h
mutual
theorem PE.size_leG:∀ e:PE,e.size≤e.sizeG
 | .mk _ _ _ _ _ _ kids _=>by
  rw [PE.size,PE.sizeG]
  have:=sizeE_leG kids
  omega
theorem sizeE_leG:∀ l:List PE,sizeE l≤sizeGE l
 | []=>Nat.le_refl _
 | e :: l=>by
  rw [sizeE,sizeGE]
  have h1:=PE.size_leG e
  have h2:=sizeE_leG l
  omega
end
theorem zdump_any {fm:Bool}(e:PZ)(hr:e.right fm=true)(h0:e.noat=e)(hf:e.fit)(hz:e.size≤100000)(B:Nat)(am:Option Addr)(wn cm:Nat)(ae:Option Addr)(ce:Nat)(w:World)(h:ZAt YA (fun b=>b<B) w (.slice am wn cm) (.slice ae e.kids.length ce) e)(hB:B≤w.heap.size) :
  Calls Tryz.prog 25 #[.agg #[.int .i64 e.op,.string ⟨e.name.toArray⟩,.string ⟨e.module.toArray⟩,.bool (decide (e.num<0)),.slice am wn cm,.bool e.yes,.slice ae e.kids.length ce,.int .i64 e.at_]] w (StrPost e.toE.dump w):=by
 have hfit:=PZ.toE_fits e hr hf
 have hsz:=PZ.toE_sizes e
 have hdl:=dumpT_len e.toE hfit
 rw [PE.dump_told (PZ.toE_told e)] at hdl
 have hzz:=PZ.toE_z e hr
 rw [h0] at hzz
 have hl:e.toE.dump.length≤1099511627776:=by
  rw [hsz.1] at hdl
  have:e.size * (3 * 65536+30)≤100000 * (3 * 65536+30):=Nat.mul_le_mul_right _ hz
  omega
 have hs2:e.toE.size≤1099511627776:=by rw [hsz.2];omega
 clear hdl hsz hr h0 hf hz
 generalize e.toE=x at *
 subst hzz
 cases x with
 | mk op nm md num txt yes kids a =>
  have hk:(PE.mk op nm md num txt yes kids a).z.kids.length=kids.length:=by rw [PE.z,zsE_map];exact List.length_map _
  rw [hk] at h ⊢
  have:=dumpX_any _ hfit B am wn cm ae ce w (EAt.ofZ h) hB hl hs2
  rw [PE.z]
  exact this
theorem TermAt.later {B:Nat}{w W:World}{ao:Option Addr}{t:List CellZ}(h:TermAt B w ao t)(hW:Below w.heap.size w W):TermAt B W ao t:=fun h0=>by
 obtain ⟨b,off,h1,h2,h3,h4⟩:=h h0
 exact ⟨b,off,h1,h2,Nat.lt_of_lt_of_le h3 hW.size,fun i hi j u hu=>(hW.cell (p:=⟨b,off+i * 6+j,none⟩) h3).trans (h4 i hi j u hu)⟩
theorem sformula_pe (x:PE)(B:Nat)(am:Option Addr)(wn cm:Nat)(ae:Option Addr)(ce:Nat)(w:World)(h:EAt XA (fun b=>b<B) w (.slice am wn cm) (.slice ae x.kids.length ce) x)(hB:B≤w.heap.size)(hf:x.z.fit)(hn:x.z.text.length≤1099511627776) :
  Calls Tryz.prog 19 #[.agg #[.int .i64 x.op,.string ⟨x.name.toArray⟩,.string ⟨x.module.toArray⟩,.bool (decide (x.num<0)),.slice am wn cm,.bool x.yes,.slice ae x.kids.length ce,.int .i64 x.at_]] w (ShowPost true x.z w):=by
 cases x with
 | mk op nm md num txt yes kids a =>
  have hk:(PE.mk op nm md num txt yes kids a).z.kids.length=kids.length:=by rw [PE.z,zsE_map];exact List.length_map _
  have hz:=ZAt.ofE h
  have hz':ZAt YA (fun b=>b<B) w (.slice am wn cm) (.slice ae (PE.mk op nm md num txt yes kids a).z.kids.length ce) (PE.mk op nm md num txt yes kids a).z:=by rw [hk];exact hz
  have:=sformula_any _ B am wn cm ae ce w ⟨hz',hB,hf⟩ hn
  rw [hk] at this
  rw [PE.z] at this ⊢
  exact this
theorem both_later (B:Nat)(ao:Option Addr)(ct:Nat)(t:List CellZ)(w:World)(h:TermAt B w ao t)(hB:B≤w.heap.size)(W:World)(hW:Below w.heap.size w W):Calls Tryz.prog 18 #[.slice ao t.length ct] W (BothPost t W):=both_any B ao ct t W (h.later hW) (Nat.le_trans hB hW.size)
theorem showReads_any (B:Nat)(ao:Option Addr)(ct0:Nat)(t:List CellZ)(w:World)(h:TermAt B w ao t)(hB:B≤w.heap.size) :
  Calls Tryz.prog 6 #[.slice ao t.length ct0] w fun r w'=>r=.returned (.bool true)∧Below w.heap.size w w':=by
 have hb:=fun W (hW:Below w.heap.size w W)=>both_later B ao ct0 t w h hB W hW
 unfold BothPost at hb
 cases he:bothF t with
 | none =>
  rw [he] at hb
  have HB:=Lib.hid hb
  clear hb h he
  go_enter Tryz.func6,Tryz.ntmps6
  go_wp2_with (first|(go_at_call 17;refine (anchor9_any _).mono ?_;rintro r w1 ⟨rfl,hb1⟩)|(go_at_call 18;refine (HB.out _ hb1).mono ?_;rintro r w2 ⟨hb2,rfl⟩))
  go_ret
  exact ⟨rfl,((hb1.trans (hb2.mono hb1.size)).alloc (by have:=hb1.size;have:=hb2.size;omega) _).alloc (by have:=hb1.size;have:=hb2.size;simp;omega) _⟩
 | some e =>
  rw [he] at hb
  have HB:=Lib.hid hb
  have hf:=bothF_fit he
  have ht:=bothF_text he
  have hna:=bothF_noat he
  have hsz:=bothF_size he
  have hsh:e.right true=true→e.text.length≤6000:=fun hr=>bothF_short he hr
  clear hb h he
  go_enter Tryz.func6,Tryz.ntmps6
  go_upto_region 6 with (first|(go_at_call 17;refine (anchor9_any _).mono ?_;rintro r w1 ⟨rfl,hb1⟩)|(go_at_call 18;refine (HB.out _ hb1).mono ?_;rintro r w2 ⟨hb2,am,wn,cm,ae,ce,m,ak,ck,rfl,hZ,hY⟩))
  have hba:=(below_new w2 (.cells (boxZ e.op ⟨e.name.toArray⟩ ⟨e.module.toArray⟩ (decide (e.num<0)) (.slice am wn cm) e.yes (.slice ae e.kids.length ce) e.at_) 40)).alloc (by simp) (.cells (boxY e.op ⟨e.name.toArray⟩ ⟨e.module.toArray⟩ ⟨(intF e.num).toArray⟩ e.yes (.slice ak e.kids.length ck) e.at_) 55)
  have hX:=(Lib.alloc_old (w2.alloc (.cells (boxZ e.op ⟨e.name.toArray⟩ ⟨e.module.toArray⟩ (decide (e.num<0)) (.slice am wn cm) e.yes (.slice ae e.kids.length ce) e.at_) 40)) (.cells (boxY e.op ⟨e.name.toArray⟩ ⟨e.module.toArray⟩ ⟨(intF e.num).toArray⟩ e.yes (.slice ak e.kids.length ck) e.at_) 55) w2.heap.size (by simp)).trans (heap_alloc_new w2 (.cells (boxZ e.op ⟨e.name.toArray⟩ ⟨e.module.toArray⟩ (decide (e.num<0)) (.slice am wn cm) e.yes (.slice ae e.kids.length ce) e.at_) 40))
  have hZ3:=(hZ.imp (Q:=fun b=>b<w2.heap.size) fun b _ hl=>hl).frame (Alk.of hba)
  have hb3:=(hb1.trans (hb2.mono hb1.size)).trans (hba.mono (by have:=hb1.size;have:=hb2.size;omega))
  have hz3:=hba.size
  change Code.wp _ _ _ _ ((w2.alloc (.cells (boxZ e.op ⟨e.name.toArray⟩ ⟨e.module.toArray⟩ (decide (e.num<0)) (.slice am wn cm) e.yes (.slice ae e.kids.length ce) e.at_) 40)).alloc (.cells (boxY e.op ⟨e.name.toArray⟩ ⟨e.module.toArray⟩ ⟨(intF e.num).toArray⟩ e.yes (.slice ak e.kids.length ck) e.at_) 55))
  generalize ((w2.alloc (.cells (boxZ e.op ⟨e.name.toArray⟩ ⟨e.module.toArray⟩ (decide (e.num<0)) (.slice am wn cm) e.yes (.slice ae e.kids.length ce) e.at_) 40)).alloc (.cells (boxY e.op ⟨e.name.toArray⟩ ⟨e.module.toArray⟩ ⟨(intF e.num).toArray⟩ e.yes (.slice ak e.kids.length ck) e.at_) 55))=w3 at hX hZ3 hb3 hz3 ⊢
  clear hba hZ hY hb1 hb2 HB
  have HSf:=Lib.hid (fun W (hW:Below w3.heap.size w3 W)=>sformula_any e w2.heap.size am wn cm ae ce W ⟨hZ3.frame (Alk.of hW),Nat.le_trans hz3 hW.size,hf⟩ (by omega))
  unfold ShowPost at HSf
  obtain ⟨x0,x1,x2,x3,x4,x5,x6,x7⟩:=boxZ_cells hX
  have HX:=Lib.hid hX
  have hlX:=(Array.getElem?_eq_some_iff.1 hX).1
  clear hX
  cases hrt:e.right true with
  | false =>
   simp only [hrt,if_false,Bool.false_eq_true] at HSf
   clear hZ3 hsh
   go_wp2_with (go_at_call 19;refine (HSf.out _ (Below.refl _ _)).mono ?_;rintro r w4 ⟨rfl,hb4⟩)
   go_ret
   exact ⟨rfl,hb3.trans (hb4.mono hb3.size)⟩
  | true =>
   simp only [hrt,if_true] at HSf
   have hs6:=hsh hrt
   have HDx:=Lib.hid (fun W (hW:Below w3.heap.size w3 W)=>zdump_any e hrt hna hf (by omega) w2.heap.size am wn cm ae ce W (hZ3.frame (Alk.of hW)) (Nat.le_trans hz3 hW.size))
   unfold StrPost at HDx
   obtain ⟨T,eT0,eT⟩:=bytes_of e.text
   have hTs:T.size≤6000:=by rw [← size_list,eT0];exact hs6
   have HP:=Lib.hid (fun W=>formula_any T 200 W (by omega) (by omega) (by omega))
   rw [eT0] at HP
   have hfp:=form_print hrt (by omega)
   simp only [eT] at HSf
   clear hsh hZ3
   rcases hfp with ⟨a,hbad⟩|⟨toks,nodes,hgood,F,hnoat⟩
   ·rw [hbad] at HP
    clear HDx hbad eT eT0
    go_upto_region 10 with (first|(go_at_call 19;refine (HSf.out _ (Below.refl _ _)).mono ?_;rintro r w4 ⟨rfl,hb4⟩)|(go_at_call 24;refine (HP.out _).mono ?_;rintro r w5 ⟨hb5,rfl⟩))
    have hb6:=(below_new w5 (.cells #[.slice none 0 0,.slice none 0 0] 25)).alloc (by simp) (.cells #[.int .i64 23,.int .i64 a] 44)
    have e2:=heap_alloc_new (w5.alloc (.cells #[.slice none 0 0,.slice none 0 0] 25)) (.cells #[.int .i64 23,.int .i64 a] 44)
    rw [World.size_alloc] at e2
    have hb45:=hb4.trans (hb5.mono hb4.size)
    have hbw:=hb3.trans ((hb45.trans (hb6.mono hb45.size)).mono hb3.size)
    change Code.wp _ _ _ _ ((w5.alloc (.cells #[.slice none 0 0,.slice none 0 0] 25)).alloc (.cells #[.int .i64 23,.int .i64 a] 44))
    generalize (w5.alloc _).alloc _=w6 at e2 hbw ⊢
    obtain ⟨f0,f1,-⟩:=fault_cells e2
    clear hb4 hb5 hb6 hb45 HP HSf e2 x0 x1 x2 x3 x4 x5 x6 x7
    go_wp2
    go_ret
    exact ⟨rfl,hbw⟩
   ·rw [hgood] at HP
    have HFo:=Lib.hid (fun B at_ ct an cn W hT hB=>formulaOf_yes B at_ ct an cn T toks nodes e.ce W hT hB (by rw [eT0];exact F))
    have hxf:=F.fits
    have hxd:(e.ce.pe toks 0).dump=e.toE.dump:=dump_noat (by rw [hnoat,PZ.toE_z e hrt,PZ.noat_id])
    have hxr:(e.ce.pe toks 0).z.right true=true:=by rw [← PZ.noat_right,hnoat,PZ.noat_right,hrt]
    have hxt:(e.ce.pe toks 0).z.text=e.text:=by rw [← PZ.noat_text,hnoat,PZ.noat_text]
    have hxfit:(e.ce.pe toks 0).z.fit:=by rw [← PZ.noat_fit,hnoat,PZ.noat_fit];exact hf
    have hxl:=dumpT_len _ F.fits
    rw [PE.dump_told F.told] at hxl
    have hxl2:(e.ce.pe toks 0).dump.length≤1099511627776:=by
     have:=F.few
     have:(e.ce.pe toks 0).sizeG * (3 * 65536+30)≤200000 * (3 * 65536+30):=Nat.mul_le_mul_right _ this
     omega
    have hxs:(e.ce.pe toks 0).size≤1099511627776:=by
     have:=PE.size_leG (e.ce.pe toks 0)
     have:=F.few
     omega
    clear hgood F hnoat hxl
    generalize e.ce.pe toks 0=x at *
    generalize e.toE.dump=D at *
    go_upto_region 10 with (first|(go_at_call 19;refine (HSf.out _ (Below.refl _ _)).mono ?_;rintro r w4 ⟨rfl,hb4⟩)|(go_at_call 24;refine (HP.out _).mono ?_;rintro r w5 ⟨hb5,at_,ct,an,cn,rfl,hty⟩))
    have hb6:=(below_new w5 (.cells #[.slice at_ toks.length ct,.slice an nodes.length cn] 25)).alloc (by simp) (.cells #[.int .i64 0,.int .i64 0] 44)
    have hT:=(hty.at).below hb6
    have e1:=(Lib.alloc_old (w5.alloc (.cells #[.slice at_ toks.length ct,.slice an nodes.length cn] 25)) (.cells #[.int .i64 0,.int .i64 0] 44) w5.heap.size (by simp)).trans (heap_alloc_new w5 (.cells #[.slice at_ toks.length ct,.slice an nodes.length cn] 25))
    have e2:=heap_alloc_new (w5.alloc (.cells #[.slice at_ toks.length ct,.slice an nodes.length cn] 25)) (.cells #[.int .i64 0,.int .i64 0] 44)
    rw [World.size_alloc] at e2
    have hb45:=hb4.trans (hb5.mono hb4.size)
    have hb36:=hb45.trans (hb6.mono hb45.size)
    have hs6':=hb6.size
    change Code.wp _ _ _ _ ((w5.alloc (.cells #[.slice at_ toks.length ct,.slice an nodes.length cn] 25)).alloc (.cells #[.int .i64 0,.int .i64 0] 44))
    generalize (w5.alloc _).alloc _=w6 at hT e1 e2 hb36 hs6' ⊢
    clear hty hb4 hb5 hb6 hb45 HP HSf x0 x1 x2 x3 x4 x5 x6 x7
    obtain ⟨c0,c1⟩:=tree_cells e1
    obtain ⟨f0,f1,-⟩:=fault_cells e2
    have HFx:=Lib.hid (HFo.out w5.heap.size at_ ct an cn w6 hT hs6')
    clear HFo hT e1 e2
    go_upto_region 13 with (go_at_call 12;refine HFx.out.mono ?_;rintro r w7 ⟨bm,vn,dm,be,de,rfl,hx7,hb7⟩)
    have hal:=below_new w7 (.cells (boxZ x.op ⟨x.name.toArray⟩ ⟨x.module.toArray⟩ (decide (x.num<0)) (.slice bm vn dm) x.yes (.slice be x.kids.length de) x.at_) 40)
    have hXP:=heap_alloc_new w7 (.cells (boxZ x.op ⟨x.name.toArray⟩ ⟨x.module.toArray⟩ (decide (x.num<0)) (.slice bm vn dm) x.yes (.slice be x.kids.length de) x.at_) 40)
    have hx8:=(hx7.imp (Q:=fun b=>b<w7.heap.size) fun b _ hl=>hl).frame (Alk.of hal)
    have hb68:=hb7.trans (hal.mono hb7.size)
    have hb38:=hb36.trans (hb68.mono hb36.size)
    have hz8:=hal.size
    change Code.wp _ _ _ _ (w7.alloc (.cells (boxZ x.op ⟨x.name.toArray⟩ ⟨x.module.toArray⟩ (decide (x.num<0)) (.slice bm vn dm) x.yes (.slice be x.kids.length de) x.at_) 40))
    generalize w7.alloc _=w8 at hXP hx8 hb38 hz8 ⊢
    clear hal hx7 hb7 hb68 hb36 HFx c0 c1 f0 f1
    have HSx:=Lib.hid (sformula_pe x w7.heap.size bm vn dm be de w8 hx8 hz8 hxfit (by rw [hxt];omega))
    unfold ShowPost at HSx
    simp only [hxr,if_true,hxt,eT] at HSx
    have HDp:=Lib.hid (fun W (hW:Below w8.heap.size w8 W)=>dumpX_any x hxf w7.heap.size bm vn dm be de W (hx8.frame (Alk.of hW)) (Nat.le_trans hz8 hW.size) hxl2 hxs)
    unfold StrPost at HDp
    rw [hxd] at HDp
    obtain ⟨DB,eD0,eD⟩:=bytes_of D
    simp only [eD] at HDp HDx
    have hlP:=(Array.getElem?_eq_some_iff.1 hXP).1
    obtain ⟨y0,y1,y2,y3,y4,y5,y6,y7⟩:=boxZ_cells hXP
    have HXP:=Lib.hid hXP
    clear hXP hx8 hxf hxd hxr hxt hxfit hxl2 hxs eT eT0 eD eD0
    go_upto_region 14 with (go_at_call 19;refine HSx.out.mono ?_;rintro r w9 ⟨rfl,hb9⟩)
    clear y0 y1 y2 y3 y4 y5 y6 y7 HSx
    have hb39:=hb38.trans (hb9.mono hb38.size)
    have hq0:=hb9.drew
    have HPX:=Lib.hid (fun W (hW:Below w8.heap.size w8 W)=>boxZ_cells ((hW.block w7.heap.size hlP).trans HXP.out))
    have HPE:=Lib.hid (fun W (hW:Below w8.heap.size w8 W)=>boxZ_cells (((hb38.trans (hW.mono hb38.size)).block w2.heap.size hlX).trans HX.out))
    have HDX:=Lib.hid (fun W (hW:Below w8.heap.size w8 W)=>HDx.out W (hb38.trans (hW.mono hb38.size)))
    have hfin:=Lib.hid (fun W (hW:Below w8.heap.size w8 W)=>hb3.trans ((hb38.trans (hW.mono hb38.size)).mono hb3.size))
    have p3:=HPX.out w9 hb9
    have p4:=HPE.out w9 hb9
    obtain ⟨s0,s1,s2,s3,s4,s5,s6,s7⟩:=HPX.out w9 hb9
    obtain ⟨u0,u1,u2,u3,u4,u5,u6,u7⟩:=HPE.out w9 hb9
    clear HDx
    go_region_held3 (fun W=>(W.cell? ⟨w7.heap.size,0,none⟩=some (.int .i64 x.op)∧W.cell? ⟨w7.heap.size,1,none⟩=some (.string ⟨x.name.toArray⟩)∧W.cell? ⟨w7.heap.size,2,none⟩=some (.string ⟨x.module.toArray⟩)∧W.cell? ⟨w7.heap.size,3,none⟩=some (.bool (decide (x.num<0)))∧W.cell? ⟨w7.heap.size,4,none⟩=some (.slice bm vn dm)∧W.cell? ⟨w7.heap.size,5,none⟩=some (.bool x.yes)∧W.cell? ⟨w7.heap.size,6,none⟩=some (.slice be x.kids.length de)∧W.cell? ⟨w7.heap.size,7,none⟩=some (.int .i64 x.at_))∧(W.cell? ⟨w2.heap.size,0,none⟩=some (.int .i64 e.op)∧W.cell? ⟨w2.heap.size,1,none⟩=some (.string ⟨e.name.toArray⟩)∧W.cell? ⟨w2.heap.size,2,none⟩=some (.string ⟨e.module.toArray⟩)∧W.cell? ⟨w2.heap.size,3,none⟩=some (.bool (decide (e.num<0)))∧W.cell? ⟨w2.heap.size,4,none⟩=some (.slice am wn cm)∧W.cell? ⟨w2.heap.size,5,none⟩=some (.bool e.yes)∧W.cell? ⟨w2.heap.size,6,none⟩=some (.slice ae e.kids.length ce)∧W.cell? ⟨w2.heap.size,7,none⟩=some (.int .i64 e.at_)))
     (first|(with_reducible exact ⟨p3,p4⟩)|(go_keep;done))
     (first
      | (go_at_call 25;with_reducible refine (HDX.out _ hqA).mono ?_;rintro r wB ⟨rfl,hbwB⟩;have hqB:=hqA.trans (hbwB.mono hqA.size);have p3:=HPX.out _ hqB;have p4:=HPE.out _ hqB)
      | (go_at_call 25;with_reducible refine (HDp.out _ hq0).mono ?_;rintro r wA ⟨rfl,hbwA⟩;have hqA:=hq0.trans (hbwA.mono hq0.size);have p3:=HPX.out _ hqA;have p4:=HPE.out _ hqA))
    all_goals
     go_wp2_with fail
     go_ret
     exact ⟨rfl,hfin.out _ hqB⟩
end Go.Proofs.YtdednahplodojaaGreatDoor

namespace Go.Proofs.YtdednahplodojaaGreatDoor
open Go.ChangeShapes Go.WideShapes Go.Deep Go.RowKit
theorem exists_list {α:Type}{Q:Nat→α→Prop}:∀ (n:Nat),(∀ i,i<n→∃ a,Q i a)→∃ l:List α,l.length=n∧∀ i (h:i<l.length),Q i l[i]
 | 0,_=>⟨[],rfl,fun i h=>absurd h (by simp)⟩
 | n+1,h=>by
  obtain ⟨l,hl,hq⟩:=exists_list n (fun i hi=>h i (by omega))
  obtain ⟨a,ha⟩:=h n (by omega)
  refine ⟨l++[a],by simp [hl],fun i hi=>?_⟩
  rcases Nat.lt_or_ge i l.length with h'|h'
  ·rw [List.getElem_append_left h'];exact hq i h'
  ·have:i=n:=by simp at hi;omega
   subst this
   rw [List.getElem_append_right h']
   simp only [hl,Nat.sub_self]
   exact ha
theorem Rec.of {α:Type}{B b off len cap sz:Nat}{w:World}{f:α→List Value}{l:List α}(hf:∀ x,(f x).length=sz)(hl:l.length=len)(hcap:len≤cap)(hb:b<B)(hsz:0<sz)
  (hc:∀ i (h:i<l.length),∀ j u,(f l[i])[j]?=some u→w.cell? ⟨b,off+(i * sz+j),none⟩=some u) :
  Rec B w (.slice (some ⟨b,off,none⟩) len cap) sz f l:=by
 subst hl
 refine ⟨some ⟨b,off,none⟩,cap,rfl,hcap,flat_length hf l,fun _=>⟨b,off,rfl,hb,fun i hi=>?_⟩⟩
 rw [flat_length hf] at hi
 have h1:i / sz<l.length:=Nat.div_lt_of_lt_mul (by rw [Nat.mul_comm];exact hi)
 have h2:i % sz<sz:=Nat.mod_lt _ hsz
 have h3:i / sz * sz+i % sz=i:=by rw [Nat.mul_comm];exact Nat.div_add_mod i sz
 have h4:=flat_at hf l (i / sz) (i % sz) h1 h2
 rw [h3] at h4
 have h5:(f l[i / sz])[i % sz]?=some ((f l[i / sz])[i % sz]'(by rw [hf];exact h2)):=List.getElem?_eq_getElem _
 have h6:=hc (i / sz) h1 (i % sz) _ h5
 rw [h3] at h6
 rw [h6]
 rw [h5] at h4
 obtain ⟨h7,h8⟩:=List.getElem?_eq_some_iff.1 h4
 rw [h8]
theorem Rec.nil {α:Type}{B cap sz:Nat}{w:World}{f:α→List Value}{ao:Option Addr}:Rec B w (.slice ao 0 cap) sz f [] :=
 ⟨ao,cap,rfl,Nat.zero_le _,by simp,fun h=>absurd h (by simp)⟩
theorem add_none (b off n:Nat):(⟨b,off,none⟩:Addr).add n=⟨b,off+n,none⟩:=by
 unfold Addr.add
 split
 ·rename_i h;subst h;rfl
 ·rfl
theorem open_recs {H:Type}{enc:TypeId × Value→H}{P:Program}{w:World}{base:Nat}{spare:Nat→Bool}{held:Bool}{α:Type}{g:α→List Value}{Good:α→Prop}{sz:Nat}{t e:TypeId}{fs:Array Field}{fuel:Nat}{v:Value}{x:DataW H × List MemPlace}
  (ht:P.underlying t=some (.slice e)) (he:P.underlying e=some (.struct fs)) (hone:oneCellFields P fs=true) (hC:P.cellsOf e=sz) (hfs:fs.size=sz) (hg:∀ a,(g a).length=sz) (hsz:0<sz)
  (take:∀ us:List Value,us.length=sz→(∀ (j:Nat) (f:Field),fs[j]?=some f→∃ u n y,us[j]?=some u∧DataW.trod enc P w base spare held n f.type [u]=some y)→∃ a,g a=us∧Good a)
  (h:DataW.trod enc P w base spare held fuel t [v]=some x) :
  ∃ l:List α,Rec w.heap.size w v sz g l∧l.length≤maxLen∧∀ k (hk:k<l.length),Good l[k]:=by
 rcases open_slice ht h with ⟨hcs,_⟩|⟨a,len,cap,m,n,D,Pl,hcs,_,hlc,hcm,hm,_,hi⟩
 ·obtain rfl:v=.slice none 0 0:=by simpa using hcs
  exact ⟨[],Rec.nil,Nat.zero_le _,fun k hk=>absurd hk (by simp)⟩
 obtain rfl:v=.slice (some a) len cap:=by simpa using hcs
 have hlm:len≤m:=by rw [hm];split <;> omega
 have hrow:∀ i,i<len→∃ r:α,(∀ j u,(g r)[j]?=some u→w.cell? ((a.add (i * sz)).add j)=some u)∧Good r:=by
  intro i hil
  obtain ⟨cs,hc,htr⟩:=hi i (by omega)
  rw [hC] at hc
  obtain ⟨_,hlen,hat⟩:=World.cells?_some hc
  obtain ⟨ys,n',_,_,_,hyl,hf⟩:=DataW.trod_struct he htr
  obtain ⟨r,hr,hgood⟩:=take cs hlen (by
   intro j f hj
   have hjl:j<fs.size:=(Array.getElem?_eq_some_iff.1 hj).1
   obtain ⟨ho,hk⟩:=hone_of hone j f hj
   have h1:=hf j f hj
   rw [ho,hk,List.drop_eq_getElem_cons (by omega)] at h1
   refine ⟨cs[j]'(by omega),n',ys[j]'(by omega),List.getElem?_eq_getElem _,?_⟩
   rw [← List.getElem?_eq_getElem]
   exact h1)
  refine ⟨r,fun j u hu=>?_,hgood⟩
  rw [hr] at hu
  obtain ⟨hj,_⟩:=List.getElem?_eq_some_iff.1 hu
  rw [hat j (by omega),hu]
 rcases Nat.eq_zero_or_pos len with h0|h0
 ·subst h0
  exact ⟨[],Rec.nil,Nat.zero_le _,fun k hk=>absurd hk (by simp)⟩
 obtain ⟨b,off,spot⟩:=a
 obtain ⟨r0,hr0,_⟩:=hrow 0 h0
 have hc0:=hr0 0 ((g r0)[0]'(by rw [hg];exact hsz)) (List.getElem?_eq_getElem _)
 rw [Nat.zero_mul] at hc0
 have hc0:w.cell? ⟨b,off,spot⟩=some ((g r0)[0]'(by rw [hg];exact hsz)):=by simpa [Addr.add] using hc0
 have hspot:spot=none:=World.cell?_spot hc0
 subst hspot
 have hb:b<w.heap.size:=World.block_lt_of_cell? w _ hc0
 obtain ⟨l,hl,hq⟩:=exists_list len hrow
 refine ⟨l,Rec.of hg hl hlc hb hsz (fun i h' j u hu=>?_),by omega,fun k hk=>(hq k hk).2⟩
 have:=(hq i h').1 j u hu
 rw [add_none,add_none,Nat.add_assoc] at this
 exact this
theorem open_term {H:Type}{enc:TypeId × Value→H}{w:World}{base:Nat}{spare:Nat→Bool}{held:Bool}{fuel:Nat}{a0:Option Addr}{n0 c0:Nat}{x:DataW H × List MemPlace}
  (h:DataW.trod enc Tryz.prog w base spare held fuel 52 [.slice a0 n0 c0]=some x) :
  ∃ (t:List CellZ) (n:Nat),Value.slice a0 n0 c0=.slice a0 t.length c0∧TermAt w.heap.size w a0 t:=by
 obtain ⟨l,h1,_,_⟩:=open_recs (g:=fun c=>(cellC c).toList) (Good:=fun _:CellZ=>True) Tryz.underlying52 Tryz.underlying104 (by kernel_rfl) (by kernel_rfl) rfl (fun _=>rfl) (by decide) (by
  intro us hlen hf
  obtain ⟨u0,n0,y0,h0,t0⟩:=hf 0 _ rfl
  obtain ⟨u1,n1,y1,h1,t1⟩:=hf 1 _ rfl
  obtain ⟨u2,n2,y2,h2,t2⟩:=hf 2 _ rfl
  obtain ⟨u3,n3,y3,h3,t3⟩:=hf 3 _ rfl
  obtain ⟨u4,n4,y4,h4,t4⟩:=hf 4 _ rfl
  obtain ⟨u5,n5,y5,h5,t5⟩:=hf 5 _ rfl
  obtain ⟨i0,e0,_,_⟩:=DataW.trod_int Tryz.underlying3 t0
  obtain ⟨i1,e1,_,_⟩:=DataW.trod_int Tryz.underlying3 t1
  obtain ⟨s2,e2,_,_⟩:=DataW.trod_string Tryz.underlying9 t2
  obtain ⟨s3,e3,_,_⟩:=DataW.trod_string Tryz.underlying9 t3
  obtain ⟨s4,e4,_,_⟩:=DataW.trod_string Tryz.underlying9 t4
  obtain ⟨b5,e5,_⟩:=DataW.trod_bool Tryz.underlying4 t5
  match us,hlen with
  | [c0,c1,c2,c3,c4,c5],_ =>
   simp only [List.cons.injEq,and_true] at e0 e1 e2 e3 e4 e5
   simp at h0 h1 h2 h3 h4 h5
   subst h0 h1 h2 h3 h4 h5 e0 e1 e2 e3 e4 e5
   exact ⟨⟨i0,i1,s2.data.toList,s3.data.toList,s4.data.toList,b5⟩,rfl,trivial⟩) h
 obtain ⟨ao,cap,hv,_,hc⟩:=Rec.form h1 (fun _=>rfl)
 simp only [Value.slice.injEq] at hv
 obtain ⟨rfl,rfl,rfl⟩:=hv
 refine ⟨l,0,rfl,fun h0=>?_⟩
 obtain ⟨b,off,h2,h3,h4⟩:=hc h0
 exact ⟨b,off,h2,h3,h3,fun i hi j u hu=>h4 i j u hi (by rw [Array.getElem?_toList];exact hu)⟩
end Go.Proofs.YtdednahplodojaaGreatDoor

namespace Go.Proofs.YtdednahplodojaaGreatDoor
open Go.ChangeShapes Go.WideShapes Go.ChangeAt Go.RowKit
theorem trodAll_below {H:Type}{enc:TypeId × Value→H}{P:Program}(hl:laidOutB P=true){W W':World}(hb:Below W.heap.size W W'):∀ {ts:List TypeId} {vs:List Value} {ds:List (DataW H)} {ps:List MemPlace},
  ts.all (fun t=>P.readableRec t && decide (t<P.types.size))=true→DataW.TrodAll enc P W 0 (fun _=>true) true ts vs ds ps→(∀ x∈ps,x.block<W.heap.size) →
  DataW.TrodAll enc P W' 0 (fun b=>decide (b<W.heap.size)) true ts vs ds ps
 | [],[],[],_,_,h,_=>h
 | [],_ :: _,_,_,_,h,_=>h.elim
 | [],[],_ :: _,_,_,h,_=>h.elim
 | _ :: _,[],_,_,_,h,_=>h.elim
 | _ :: _,_ :: _,[],_,_,h,_=>h.elim
 | t :: ts,v :: vs,d :: ds,_,ha,h,hlt=>by
  obtain ⟨p,q,h1,h2,rfl⟩:=h
  simp only [List.all_cons,Bool.and_eq_true,decide_eq_true_eq] at ha
  exact ⟨p,q,Below.trod hl ha.1.1 ha.1.2 h1 hb (fun x hx=>hlt x (List.mem_append_left _ hx)),trodAll_below hl hb ha.2 h2 (fun x hx=>hlt x (List.mem_append_right _ hx)),rfl⟩
theorem law_post {H:Type}{enc:TypeId × Value→H}{P:Program}{f:Func}{s:ChangeSpec}{W W':World}{args:Array Value}{ds gs:List (DataW H)}{before:List MemPlace}{tb:TypeId}
  (hl:laidOutB P=true) (hp:f.params.toList.all (fun t=>P.readableRec t && decide (t<P.types.size))=true) (hv:varsRowed P s.vars=true) (hr:f.resultTypes=#[tb]) (htb:P.underlying tb=some .bool)
  (hW:DataW.Whole enc P f.params.toList s.vars false W args.toList ds gs before) (hf1:(s.fn H (ds++gs)).results=[.lit (.bool true)]) (hf2:(s.fn H (ds++gs)).args=ds) (hf3:(s.fn H (ds++gs)).vars=gs)
  (hb:Below W.heap.size W W'):s.post enc P f false true false false W args (.bool true) W':=by
 have hlt:=hW.lt
 have hW':=hW
 obtain ⟨p,q,hA,hV,rfl,hfz,hnd⟩:=hW
 refine ⟨ds,gs,p++q,[]++[],p,q,hW',?_,?_,?_,hb.frame _,fun h=>by cases h⟩
 ·rw [hr,hf1]
  exact ⟨[],[],shut_bool htb true,rfl,rfl⟩
 ·rw [hf2]
  exact trodAll_below hl hb hp hA (fun x hx=>hlt x (List.mem_append_left _ hx))
 ·rw [hf3]
  exact Below.trodVars hl hb hv hV
end Go.Proofs.YtdednahplodojaaGreatDoor
