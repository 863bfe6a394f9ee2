/- Walks and plain laws: FreeLaw, Law. -/
import Derived.Test.YtbodlpoomfefcaaGreatDoorA34
import Derived.Test.YtbodlpoomfefcaaGreatDoorRows
import Derived.ProofKit
import Derived.OpenShut
import Derived.OpenVars
set_option maxHeartbeats 16000000
set_option maxRecDepth 100000
set_option linter.unusedVariables false
set_option linter.unusedSimpArgs false
namespace Go.Proofs.YtbodlpoomfefcaaGreatDoor
open Go.RowKit Go
def funT (s:ByteArray):ByteArray:=ByteArray.mk #[102,117,110,32,102,40,41,58,105,110,116,61]++s++ByteArray.mk #[59]
theorem funT_size (s:ByteArray):(funT s).size=s.size+13:=by
 show (ByteArray.mk #[102,117,110,32,102,40,41,58,105,110,116,61]++s++ByteArray.mk #[59]).size=_
 rw [ByteArray.size_append,ByteArray.size_append,show (ByteArray.mk #[102,117,110,32,102,40,41,58,105,110,116,61]).size=12 from rfl,show (ByteArray.mk #[59]).size=1 from rfl]
 omega
theorem funT_list (s:ByteArray):∃ R,(funT s).data.toList=102 :: 117 :: 110 :: 32 :: R:=by
 refine ⟨102 :: 40 :: 41 :: 58 :: 105 :: 110 :: 116 :: 61 :: (s.data.toList++[59]),?_⟩
 show (ByteArray.mk #[102,117,110,32,102,40,41,58,105,110,116,61]++s++ByteArray.mk #[59]).data.toList=_
 simp
mutual
theorem PE.size_leF:∀ e:PE,e.size≤e.sizeG
 | .mk _ _ _ _ _ _ kids _=>by
  rw [PE.size,PE.sizeG]
  have:=sizeE_leF kids
  omega
theorem sizeE_leF:∀ l:List PE,sizeE l≤sizeGE l
 | []=>Nat.le_refl _
 | e :: l=>by
  rw [sizeE,sizeGE]
  have h1:=PE.size_leF e
  have h2:=sizeE_leF l
  omega
end
theorem first_body {S:List UInt8}{toks:List Tok}{nodes:List Nd}{p:PgS}(F:PGood S toks nodes p)(hS:S.length≤1000)(h:0<(p.pp toks).defs.length):(p.pp toks).defs[0].body.size≤400000∧(p.pp toks).defs[0].body.letOk:=by
 constructor
 ·have h1:=(F.few _ (List.getElem_mem h)).2.2
  have h2:=PE.size_leF (p.pp toks).defs[0].body
  have h3:=F.nd
  have h4:=F.count
  omega
 ·have h1:0<p.defs.length:=by rw [← defsDD_len toks p.defs (3 * p.imps)];exact h
  have h2:=defsDD_get toks p.defs (3 * p.imps) 0 h1 h
  show ((defsDD toks (3 * p.imps) p.defs)[0]).body.letOk
  rw [h2]
  exact CE.letOk _ _ _
theorem fre_big (s:ByteArray)(w:World)(hs:s.size≤maxLen)(h:600<s.size) :
  Calls Tryz.prog 5 #[.string s] w fun e w'=>e=.returned (.bool true)∧Below w.heap.size w w':=by
 unfold maxLen at hs
 go_enter Tryz.func5,Tryz.ntmps5
 go_wp2_with (go_at_call 10;refine (anchor_any _).mono ?_;rintro e w1 ⟨rfl,hb1⟩)
 go_ret
 exact ⟨rfl,hb1⟩
theorem fre_bad (s:ByteArray)(w:World)(hs:s.size≤600)(c a:Nat)(h:progF (funT s).data.toList 100=.bad c a) :
  Calls Tryz.prog 5 #[.string s] w fun e w'=>e=.returned (.bool true)∧Below w.heap.size w w':=by
 have hc:=progF_bad h
 have hcI:((c:Int) == 0)=false:=beq_eq_false_iff_ne.2 (by omega)
 have hS:(funT s).size≤613:=by rw [funT_size];omega
 have HF:=Lib.hid (fun W=>parse_any (funT s) 100 W (by omega) (by omega) (by omega))
 rw [h] at HF
 have hsI:¬ ((600:Int)<(s.size:Int)):=by omega
 clear h hc
 unfold funT at HF
 go_enter Tryz.func5,Tryz.ntmps5
 go_upto_region 6 with (first|(go_at_call 10;refine (anchor_any _).mono ?_;rintro e w1 ⟨rfl,hb1⟩)|(go_at_call 14;refine (HF.out _).mono ?_;rintro e w2 ⟨hb2,rfl⟩))
 have hb3:=(below_new w2 (.cells #[.slice none 0 0,.slice none 0 0] 25)).alloc (by simp) (.cells #[.int .i64 c,.int .i64 a] 44)
 have e2:=heap_alloc_new (w2.alloc (.cells #[.slice none 0 0,.slice none 0 0] 25)) (.cells #[.int .i64 c,.int .i64 a] 44)
 rw [World.size_alloc] at e2
 have hbw:=(hb1.trans (hb2.mono hb1.size)).trans (hb3.mono (hb1.trans (hb2.mono hb1.size)).size)
 clear hb1 hb2 hb3 HF
 generalize (w2.alloc _).alloc _=w3 at e2 hbw ⊢
 obtain ⟨f0,f1,-⟩:=fault_cells e2
 go_wp2
 go_ret
 exact ⟨rfl,hbw⟩
theorem fre_good (s:ByteArray)(w:World)(hs:s.size≤600)(toks:List Tok)(nodes:List Nd)(h:progF (funT s).data.toList 100=.good toks nodes) :
  Calls Tryz.prog 5 #[.string s] w fun e w'=>e=.returned (.bool true)∧Below w.heap.size w w':=by
 obtain ⟨p,F⟩:=prog_good (by omega) h
 have hS:(funT s).size≤613:=by rw [funT_size];omega
 have HF:=Lib.hid (fun W=>parse_any (funT s) 100 W (by omega) (by omega) (by omega))
 rw [h] at HF
 have hs':(funT s).data.toList.length≤1000:=by rw [size_list];omega
 have HO:=Lib.hid (fun B at_ ct an cn W hT hB=>of_yes B at_ ct an cn (funT s) toks nodes p W hT hB F)
 have hd0:0<(p.pp toks).defs.length:=by
  obtain ⟨R,hR⟩:=funT_list s
  have F2:=F
  rw [hR] at F2
  show 0<(defsDD toks (3 * p.imps) p.defs).length
  rw [defsDD_len]
  exact List.length_pos_iff.2 F2.some_def
 have HB0:=Lib.hid (first_body F hs')
 have hd64:=F.psmall.dfew
 generalize p.pp toks=pp at HO hd0 HB0 hd64
 have hsI:¬ ((600:Int)<(s.size:Int)):=by omega
 have hdI:¬ ((pp.defs.length:Int)<1):=by omega
 clear h F
 unfold funT at HF
 go_enter Tryz.func5,Tryz.ntmps5
 go_upto_region 6 with (first|(go_at_call 10;refine (anchor_any _).mono ?_;rintro e w1 ⟨rfl,hb1⟩)|(go_at_call 14;refine (HF.out _).mono ?_;rintro e w2 ⟨hb2,at_,ct,an,cn,rfl,hty⟩))
 have hb3:=(below_new w2 (.cells #[.slice at_ toks.length ct,.slice an nodes.length cn] 25)).alloc (by simp) (.cells #[.int .i64 0,.int .i64 0] 44)
 have e1:=(Lib.alloc_old (w2.alloc (.cells #[.slice at_ toks.length ct,.slice an nodes.length cn] 25)) (.cells #[.int .i64 0,.int .i64 0] 44) w2.heap.size (by simp)).trans (heap_alloc_new w2 (.cells #[.slice at_ toks.length ct,.slice an nodes.length cn] 25))
 have e2:=heap_alloc_new (w2.alloc (.cells #[.slice at_ toks.length ct,.slice an nodes.length cn] 25)) (.cells #[.int .i64 0,.int .i64 0] 44)
 rw [World.size_alloc] at e2
 have hbw:=(hb1.trans (hb2.mono hb1.size)).trans (hb3.mono (hb1.trans (hb2.mono hb1.size)).size)
 have hT:=hty.at.below hb3
 have hs3:w2.heap.size+1<((w2.alloc (.cells #[.slice at_ toks.length ct,.slice an nodes.length cn] 25)).alloc (.cells #[.int .i64 0,.int .i64 0] 44)).heap.size:=by simp
 clear hb1 hb2 hb3 HF hty
 generalize (w2.alloc _).alloc _=w3 at e1 e2 hbw hT hs3 ⊢
 generalize w2.heap.size=tb at e1 e2 hT hs3 ⊢
 obtain ⟨c0,c1⟩:=tree_cells e1
 obtain ⟨f0,f1,-⟩:=fault_cells e2
 have HOx:=Lib.hid (HO.out tb at_ ct an cn w3 hT (by omega))
 clear e1 e2 HO
 go_upto_region 9 with (go_at_call 12;refine HOx.out.mono ?_;rintro e w4 ⟨ai,ci,ad,cd,rfl,hn4,hp4,hb4⟩)
 have hbw4:=hbw.trans (hb4.mono hbw.size)
 have hb5:=hbw4.alloc hbw4.size (.cells #[.slice ai pp.imports.length ci,.slice ad pp.defs.length cd] 31)
 have g5:=heap_alloc_new w4 (.cells #[.slice ai pp.imports.length ci,.slice ad pp.defs.length cd] 31)
 have hp5:PAtA (fun b=>b<w4.heap.size) (w4.alloc (.cells #[.slice ai pp.imports.length ci,.slice ad pp.defs.length cd] 31)) (.slice ai pp.imports.length ci) (.slice ad pp.defs.length cd) pp:=(hp4.imp (Q:=fun b=>b<w4.heap.size) fun b _ hl=>hl).frame ⟨by simp,fun b _ hl=>Lib.alloc_old _ _ _ hl⟩
 have hs5:w4.heap.size<(w4.alloc (.cells #[.slice ai pp.imports.length ci,.slice ad pp.defs.length cd] 31)).heap.size:=by simp
 clear c0 c1 f0 f1 hbw hb4 hp4 HOx hT
 generalize w4.heap.size=B5 at *
 generalize w4.alloc _=w5 at *
 have p1:w5.cell? ⟨B5,1,none⟩=some (.slice ad pp.defs.length cd):=by rw [Lib.cell_of_heap g5];rfl
 obtain ⟨_,hdr⟩:=hp5
 obtain ⟨ao2,cc2,hv2,hcap2,hform2⟩:=hdr.form
 simp only [Value.slice.injEq] at hv2
 obtain ⟨rfl,-,rfl⟩:=hv2
 obtain ⟨b,off,rfl,hbB,hbw,hkid⟩:=hform2 hd0
 obtain ⟨⟨pv,cv,bm,bk⟩,⟨hpr,hcr,hbe⟩,hc⟩:=hkid 0 hd0
 obtain ⟨hz,hlet⟩:=HB0.out hd0
 generalize pp.defs[0]=d at *
 simp only at hbe
 obtain ⟨am,wn,cm,ae,ce,rfl,rfl⟩:=EAt.slX hbe
 have hcl:∀ (c:Nat) (u:Value),w5.cell? ⟨b,off+0 * 15+c,none⟩=some u→w5.cell? ⟨b,off+c,none⟩=some u:=fun c u h=>by rw [Nat.zero_mul,Nat.add_zero] at h;exact h
 have y5:w5.cell? ⟨b,off+5,none⟩=some (.int .i64 d.body.op):=hcl 5 _ (hc 5 _ rfl)
 have y6:w5.cell? ⟨b,off+6,none⟩=some (.string ⟨d.body.name.toArray⟩):=hcl 6 _ (hc 6 _ rfl)
 have y7:w5.cell? ⟨b,off+7,none⟩=some (.string ⟨d.body.module.toArray⟩):=hcl 7 _ (hc 7 _ rfl)
 have y8:w5.cell? ⟨b,off+8,none⟩=some (.bool (decide (d.body.num<0))):=hcl 8 _ (hc 8 _ rfl)
 have y9:w5.cell? ⟨b,off+9,none⟩=some (.slice am wn cm):=hcl 9 _ (hc 9 _ rfl)
 have y10:w5.cell? ⟨b,off+10,none⟩=some (.bool d.body.yes):=hcl 10 _ (hc 10 _ rfl)
 have y11:w5.cell? ⟨b,off+11,none⟩=some (.slice ae d.body.kids.length ce):=hcl 11 _ (hc 11 _ rfl)
 have y12:w5.cell? ⟨b,off+12,none⟩=some (.int .i64 d.body.at_):=hcl 12 _ (hc 12 _ rfl)
 have HL:=Lib.hid (lfree_any (SizeOf.sizeOf d.body+1) d.body (by omega) B5 am wn cm ae ce w5 hbe (by omega) hz hlet)
 have hd1:(0:Int)<(pp.defs.length:Int):=by omega
 clear hc hcl hkid hform2 hdr hpr hcr hbe hz hlet HB0 g5
 go_wp2_with (go_at_call 23;refine HL.out.mono ?_;rintro r w6 ⟨rfl,hb6⟩)
 go_ret
 exact ⟨rfl,hb5.trans (hb6.mono hb5.size)⟩
theorem fre_any (s:ByteArray)(w:World)(hs:s.size≤maxLen) :
  Calls Tryz.prog 5 #[.string s] w fun e w'=>e=.returned (.bool true)∧Below w.heap.size w w':=by
 by_cases h:s.size≤600
 ·cases hf:progF (funT s).data.toList 100 with
  | bad c a=>exact fre_bad s w h c a hf
  | good toks nodes=>exact fre_good s w h toks nodes hf
 ·exact fre_big s w hs (by omega)
end Go.Proofs.YtbodlpoomfefcaaGreatDoor

namespace Go.Proofs.YtbodlpoomfefcaaGreatDoor
open Go.ChangeShapes Go.WideShapes Go.ChangeAt Go.RowKit
theorem trodAll_below {H:Type}{enc:TypeId × Value→H}{P:Program}(hl:laidOutB P=true){W W':World}(hb:Below W.heap.size W W'):∀ {ts:List TypeId} {vs:List Value} {ds:List (DataW H)} {ps:List MemPlace},
  ts.all (fun t=>P.readableRec t && decide (t<P.types.size))=true→DataW.TrodAll enc P W 0 (fun _=>true) true ts vs ds ps→(∀ x∈ps,x.block<W.heap.size) →
  DataW.TrodAll enc P W' 0 (fun b=>decide (b<W.heap.size)) true ts vs ds ps
 | [],[],[],_,_,h,_=>h
 | [],_ :: _,_,_,_,h,_=>h.elim
 | [],[],_ :: _,_,_,h,_=>h.elim
 | _ :: _,[],_,_,_,h,_=>h.elim
 | _ :: _,_ :: _,[],_,_,h,_=>h.elim
 | t :: ts,v :: vs,d :: ds,_,ha,h,hlt=>by
  obtain ⟨p,q,h1,h2,rfl⟩:=h
  simp only [List.all_cons,Bool.and_eq_true,decide_eq_true_eq] at ha
  exact ⟨p,q,Below.trod hl ha.1.1 ha.1.2 h1 hb (fun x hx=>hlt x (List.mem_append_left _ hx)),trodAll_below hl hb ha.2 h2 (fun x hx=>hlt x (List.mem_append_right _ hx)),rfl⟩
theorem law_post {H:Type}{enc:TypeId × Value→H}{P:Program}{f:Func}{s:ChangeSpec}{W W':World}{args:Array Value}{ds gs:List (DataW H)}{before:List MemPlace}{tb:TypeId}
  (hl:laidOutB P=true) (hp:f.params.toList.all (fun t=>P.readableRec t && decide (t<P.types.size))=true) (hv:varsRowed P s.vars=true) (hr:f.resultTypes=#[tb]) (htb:P.underlying tb=some .bool)
  (hW:DataW.Whole enc P f.params.toList s.vars false W args.toList ds gs before) (hf1:(s.fn H (ds++gs)).results=[.lit (.bool true)]) (hf2:(s.fn H (ds++gs)).args=ds) (hf3:(s.fn H (ds++gs)).vars=gs)
  (hb:Below W.heap.size W W'):s.post enc P f false true false false W args (.bool true) W':=by
 have hlt:=hW.lt
 have hW':=hW
 obtain ⟨p,q,hA,hV,rfl,hfz,hnd⟩:=hW
 refine ⟨ds,gs,p++q,[]++[],p,q,hW',?_,?_,?_,hb.frame _,fun h=>by cases h⟩
 ·rw [hr,hf1]
  exact ⟨[],[],shut_bool htb true,rfl,rfl⟩
 ·rw [hf2]
  exact trodAll_below hl hb hp hA (fun x hx=>hlt x (List.mem_append_left _ hx))
 ·rw [hf3]
  exact Below.trodVars hl hb hv hV
end Go.Proofs.YtbodlpoomfefcaaGreatDoor
