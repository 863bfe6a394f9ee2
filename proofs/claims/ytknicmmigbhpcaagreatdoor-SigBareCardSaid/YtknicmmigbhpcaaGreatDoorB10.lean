/- Walks and plain laws: ParseW10, ParseW11, ParseW12, ParseW13, ParseW14. -/
import Derived.Test.YtknicmmigbhpcaaGreatDoorB09
import Derived.Deep.LoopGhost
set_option maxHeartbeats 16000000
set_option maxRecDepth 100000
set_option linter.unusedVariables false
set_option linter.unusedSimpArgs false
namespace Go.Proofs.YtknicmmigbhpcaaGreatDoor
open Go.RowKit
def ab3 (E:aT)(st:aB)(t:Tok)(w:World)(e:Ending)(w':World):Prop:=e=.returned (.agg #[.int .i64 t.kind,.string ⟨t.lead.toArray⟩,.string ⟨t.text.toArray⟩,.int .i64 t.place])∧PW E st w'∧Kp E.B w w'
theorem YD (E:aT)(hE:E.ok)(st:aB)(w:World)(h:PW E st w) :
  Calls Tryz.prog 174 #[.pointer (some ⟨E.bb,0,none⟩)] w (ab3 E st (bP E.toks st.used) w) :=
 (wZ E.R E.B E.bb E.tv E.toks st.used st.nodes w h.2.1 h.2.2.1 hE.1 h.2.2.2.2.1 hE.2.1).mono fun _e _w' ⟨he,hb⟩=>⟨he,h.later hb,Kp.of hb h.dM⟩
theorem sS (E:aT)(hE:E.ok)(b c:ByteArray)(st:aB)(x:Bool)(hx:aS E.toks st [b.data.toList,c.data.toList]=x)(w:World)(h:PW E st w) :
  Calls Tryz.prog 165 #[.pointer (some ⟨E.pb,0,none⟩),.slice (some ⟨w.heap.size,0,none⟩) 2 2] (w.alloc (.cells #[.string b,.string c] 9)) (qh E st x w):=by
 subst hx;exact Uo E hE b c st w h
def mI (w:World)(b:Nat)(k:Nat):Prop:=∃ x y q:Value,w.heap[b]?=some (.cells #[.int .i64 k,x,y,q] 136)
theorem mI.kp {B:Nat}{w w':World}{b k:Nat}(h:mI w b k)(hk:Kp B w w'):mI w' b k:=by
 obtain⟨x,y,q,h⟩:=h;exact⟨x,y,q,hk.2 _ _ _ _ h (by decide) (by decide) (by decide)⟩
theorem mI.cell {w:World}{b k:Nat}(h:mI w b k):w.cell? ⟨b,0,none⟩=some (.int .i64 k):=by
 obtain⟨x,y,q,h⟩:=h;rw[Lib.cell_of_heap h];rfl
theorem mI.new (w:World)(k:Nat)(x y q:Value):mI (w.alloc (.cells #[.int .i64 k,x,y,q] 136)) w.heap.size k:=⟨x,y,q,heap_alloc_new _ _⟩
theorem QZ (E:aT)(hE:E.ok)(g:Nat)(ih:Au E g)(nest:Nat)(st:aB)(r:Int × aB)(w:World)(h:run E.toks E.depth (g+1) (.atom nest) st=some r)(hp:PW E st w)(hn:r.2.nodes.length+1≤1099511627776)(bT:nest≤E.depth) :
  Calls Tryz.prog 318 #[.pointer (some ⟨E.pb,0,none⟩),.int .i64 nest] w (dx E r w):=by
 have rX:=hE.2.2
 have hHI:∀ (t:Task) (st:aB) (r:Int × aB),run E.toks E.depth g t st=some r→r.2.nodes.length+1≤1099511627776→vF E t→∀ w,PW E st w→lT E r w t:=fun t st r h1 h2 h3 w h4=>ih t st r w h1 h4 h2 h3
 have ex:=aO E.toks E.depth g;rw[run] at h;have hP:=YD E hE st;generalize bP E.toks st.used=t at hP h;obtain⟨k,x,y,q⟩:=t;simp only at h;have HP:=ah hP;clear hP;have tf:=Fh
 by_cases hf:st.fE≠0
 ·rw[if_pos hf] at h
  injection h with h;subst h
  have HO:=ah (rP E st hf);clear hf hHI ex ih hn;go_enter Tryz.func318,Tryz.ntmps318;obtain⟨d0,_,_,_,_,_⟩:=hp.cells;go_wp2_with (go_at_call 174;refine(HP.out w hp).mono ?_);rintro e w0 ⟨rfl,hp0,hk0⟩;clear d0;have hT0:=mI.new w0 k (.string ⟨x.toArray⟩) (.string ⟨y.toArray⟩) (.int .i64 q);have vH:=hp0.later (aj w0 (.cells #[.int .i64 k,.string ⟨x.toArray⟩,.string ⟨y.toArray⟩,.int .i64 q] 136));have qZ:=hk0.trans (Kp.of (aj w0 (.cells #[.int .i64 k,.string ⟨x.toArray⟩,.string ⟨y.toArray⟩,.int .i64 q] 136)) hp0.dM);go_wp2_with (go_at_call 101;refine(HO.out _ vH).mono ?_);rintro e w1 ⟨rfl,hp1,hk1⟩;go_wp2;go_ret;exact⟨rfl,hp1,qZ.trans hk1⟩
 rw[if_neg hf] at h;have HO:=ah (jr E st (by simpa using hf));clear hf
 by_cases hk3:k=3
 ·rw[if_pos hk3] at h
  injection h with h;subst h
  have n2:=aC (aD _ _ _) hn;have n1:=aC (aJ _ _) n2
  have k3:((k:Int) == 3)=true:=by rw[beq_iff_eq];omega
  have HL:=ah (fun w hp=>bA E st w hp hE.1 hE.2.1 n1);have HN:=ah (fun w hp=>gV E 15 [(ay E.toks st).1] 1 _ (ay E.toks st).2 w hp rfl rfl (by omega) n2);clear n1 n2 hk3 hHI ex ih hn;go_enter Tryz.func318,Tryz.ntmps318;obtain⟨d0,_,_,_,_,_⟩:=hp.cells;go_wp2_with (go_at_call 174;refine(HP.out w hp).mono ?_);rintro e w0 ⟨rfl,hp0,hk0⟩;clear d0;have hT0:=mI.new w0 k (.string ⟨x.toArray⟩) (.string ⟨y.toArray⟩) (.int .i64 q);have vH:=hp0.later (aj w0 (.cells #[.int .i64 k,.string ⟨x.toArray⟩,.string ⟨y.toArray⟩,.int .i64 q] 136));have qZ:=hk0.trans (Kp.of (aj w0 (.cells #[.int .i64 k,.string ⟨x.toArray⟩,.string ⟨y.toArray⟩,.int .i64 q] 136)) hp0.dM);go_wp2_with (go_at_call 101;refine(HO.out _ vH).mono ?_);rintro e w1 ⟨rfl,hp1,hk1⟩;have hT1:=hT0.kp hk1;have t1:=hT1.cell;obtain⟨d0,_,_,_,_,_⟩:=hp1.cells;go_wp2_with (go_at_call 167;refine(HL.out w1 hp1).mono ?_);rintro e w2 ⟨rfl,hp2,hk2⟩;clear d0;go_wp2_with (go_at_call 106;refine(HN.out w2 hp2).mono ?_);rintro e w3 ⟨rfl,hp3,hk3⟩;go_wp2;go_ret;exact⟨rfl,hp3,((qZ.trans hk1).trans hk2).trans hk3⟩
 rw[if_neg hk3] at h
 have k3:((k:Int) == 3)=false:=by rw[← Bool.not_eq_true,beq_iff_eq];omega
 clear hk3
 by_cases hx1:aS E.toks st [O9,Mh]=true
 ·rw[if_pos hx1] at h
  injection h with h;subst h
  have n2:=aC (aD _ _ _) hn;have n1:=aC (aJ _ _) n2;have HX:=ah (sS E hE ⟨#[116,114,117,101]⟩ ⟨#[102,97,108,115,101]⟩ st true hx1);have HL:=ah (fun w hp=>bA E st w hp hE.1 hE.2.1 n1);have HN:=ah (fun w hp=>gV E 16 [(ay E.toks st).1] 1 _ (ay E.toks st).2 w hp rfl rfl (by omega) n2);clear n1 n2 hx1 hHI ex ih hn;go_enter Tryz.func318,Tryz.ntmps318;obtain⟨d0,_,_,_,_,_⟩:=hp.cells;go_wp2_with (go_at_call 174;refine(HP.out w hp).mono ?_);rintro e w0 ⟨rfl,hp0,hk0⟩;clear d0;have hT0:=mI.new w0 k (.string ⟨x.toArray⟩) (.string ⟨y.toArray⟩) (.int .i64 q);have vH:=hp0.later (aj w0 (.cells #[.int .i64 k,.string ⟨x.toArray⟩,.string ⟨y.toArray⟩,.int .i64 q] 136));have qZ:=hk0.trans (Kp.of (aj w0 (.cells #[.int .i64 k,.string ⟨x.toArray⟩,.string ⟨y.toArray⟩,.int .i64 q] 136)) hp0.dM);go_wp2_with (go_at_call 101;refine(HO.out _ vH).mono ?_);rintro e w1 ⟨rfl,hp1,hk1⟩;have hT1:=hT0.kp hk1;have t1:=hT1.cell;go_wp2_with (go_at_call 165;refine(HX.out w1 hp1).mono ?_);rintro e w2 ⟨rfl,hp2,hk2⟩;clear t1;obtain⟨d0,_,_,_,_,_⟩:=hp2.cells;go_wp2_with (go_at_call 167;refine(HL.out w2 hp2).mono ?_);rintro e w3 ⟨rfl,hp3,hk3⟩;clear d0;go_wp2_with (go_at_call 106;refine(HN.out w3 hp3).mono ?_);rintro e w4 ⟨rfl,nA,hk4⟩;go_wp2;go_ret;exact⟨rfl,nA,(((qZ.trans hk1).trans hk2).trans hk3).trans hk4⟩
 rw[if_neg hx1] at h;have HX:=ah (sS E hE ⟨#[116,114,117,101]⟩ ⟨#[102,97,108,115,101]⟩ st false (eq_false_of_ne_true hx1));clear hx1
 by_cases hx2:st.clause=true∧aS E.toks st [aaz]=true
 ·rw[if_pos hx2] at h
  injection h with h;subst h
  have n2:=aC (aD _ _ _) hn;have n1:=aC (aJ _ _) n2;have hc:=ah hx2.1;have HR:=ah (dn E hE ⟨#[114,101,115]⟩ st true hx2.2);have HL:=ah (fun w hp=>bA E st w hp hE.1 hE.2.1 n1);have HN:=ah (fun w hp=>gV E 17 [(ay E.toks st).1] 1 _ (ay E.toks st).2 w hp rfl rfl (by omega) n2);clear n1 n2 hx2 hHI ex ih hn;go_enter Tryz.func318,Tryz.ntmps318;obtain⟨d0,_,_,_,_,_⟩:=hp.cells;go_wp2_with (go_at_call 174;refine(HP.out w hp).mono ?_);rintro e w0 ⟨rfl,hp0,hk0⟩;clear d0;have hT0:=mI.new w0 k (.string ⟨x.toArray⟩) (.string ⟨y.toArray⟩) (.int .i64 q);have vH:=hp0.later (aj w0 (.cells #[.int .i64 k,.string ⟨x.toArray⟩,.string ⟨y.toArray⟩,.int .i64 q] 136));have qZ:=hk0.trans (Kp.of (aj w0 (.cells #[.int .i64 k,.string ⟨x.toArray⟩,.string ⟨y.toArray⟩,.int .i64 q] 136)) hp0.dM);go_wp2_with (go_at_call 101;refine(HO.out _ vH).mono ?_);rintro e w1 ⟨rfl,hp1,hk1⟩;have hT1:=hT0.kp hk1;have t1:=hT1.cell;go_wp2_with (go_at_call 165;refine(HX.out w1 hp1).mono ?_);rintro e w2 ⟨rfl,hp2,hk2⟩;clear t1;obtain⟨_,_,c2,_,_,_⟩:=hp2.cells;rw[hc.out] at c2;go_wp2_with (go_at_call 165;refine(HR.out w2 hp2).mono ?_);rintro e w3 ⟨rfl,hp3,hk3⟩;clear c2;obtain⟨d0,_,_,_,_,_⟩:=hp3.cells;go_wp2_with (go_at_call 167;refine(HL.out w3 hp3).mono ?_);rintro e w4 ⟨rfl,nA,hk4⟩;clear d0;go_wp2_with (go_at_call 106;refine(HN.out w4 nA).mono ?_);rintro e w5 ⟨rfl,qY,hk5⟩;go_wp2;go_ret;exact⟨rfl,qY,((((qZ.trans hk1).trans hk2).trans hk3).trans hk4).trans hk5⟩
 rw[if_neg hx2] at h
 have HR:st.clause=true→Hid (∀ w,PW E st w→Calls Tryz.prog 165 #[.pointer (some ⟨E.pb,0,none⟩),.slice (some ⟨w.heap.size,0,none⟩) 1 1] (w.alloc (.cells #[.string ⟨#[114,101,115]⟩] 9)) (qh E st false w)):=fun hc=>ah (dn E hE ⟨#[114,101,115]⟩ st false (eq_false_of_ne_true fun q=>hx2 ⟨hc,q⟩))
 clear hx2
 by_cases hx3:aS E.toks st [[40]]=true
 ·rw[if_pos hx3] at h
  obtain⟨b,h1,h⟩:=bH h
  injection h with h;subst h
  have n4:=aC (aD _ _ _) hn;have n3:=aC (aF _ _ _) n4;have n2:=aC (ex _ _ _ h1) n3;have n1:=aC (aJ _ _) n2;have HY:=ah (dn E hE ⟨#[40]⟩ st true hx3);have HL:=ah (fun w hp=>bA E st w hp hE.1 hE.2.1 n1);have HE:=ah (hHI _ _ _ h1 n3 (by show nest+1≤_;omega));have HM:=ah (fun w hp=>dA E hE ⟨#[41]⟩ b.2 w hp n3);have HN:=ah (fun w hp=>gV E 12 [(ay E.toks st).1,b.1,(aA E.toks [[41]] b.2).1] 3 _ (aA E.toks [[41]] b.2).2 w hp rfl rfl (by omega) n4);clear n1 n2 n3 n4 h1 hx3 hHI ex ih hn
  by_cases hcl:st.clause=true
  ·have HR:=HR hcl
   have hc:=ah hcl;clear hcl;go_enter Tryz.func318,Tryz.ntmps318;obtain⟨d0,_,_,_,_,_⟩:=hp.cells;go_wp2_with (go_at_call 174;refine(HP.out w hp).mono ?_);rintro e w0 ⟨rfl,hp0,hk0⟩;clear d0;have hT0:=mI.new w0 k (.string ⟨x.toArray⟩) (.string ⟨y.toArray⟩) (.int .i64 q);have vH:=hp0.later (aj w0 (.cells #[.int .i64 k,.string ⟨x.toArray⟩,.string ⟨y.toArray⟩,.int .i64 q] 136));have qZ:=hk0.trans (Kp.of (aj w0 (.cells #[.int .i64 k,.string ⟨x.toArray⟩,.string ⟨y.toArray⟩,.int .i64 q] 136)) hp0.dM);go_wp2_with (go_at_call 101;refine(HO.out _ vH).mono ?_);rintro e w1 ⟨rfl,hp1,hk1⟩;have hT1:=hT0.kp hk1;have t1:=hT1.cell;go_wp2_with (go_at_call 165;refine(HX.out w1 hp1).mono ?_);rintro e w2 ⟨rfl,hp2,hk2⟩;clear t1;obtain⟨_,_,c2,_,_,_⟩:=hp2.cells;rw[hc.out] at c2;go_wp2_with (go_at_call 165;refine(HR.out w2 hp2).mono ?_);rintro e w3 ⟨rfl,hp3,hk3⟩;clear c2;go_wp2_with (go_at_call 165;refine(HY.out w3 hp3).mono ?_);rintro e w4 ⟨rfl,nA,hk4⟩;obtain⟨d0,_,_,_,_,_⟩:=nA.cells;go_wp2_with (go_at_call 167;refine(HL.out w4 nA).mono ?_);rintro e w5 ⟨rfl,qY,hk5⟩;clear d0;go_wp2_with (go_at_call 172;refine(HE.out w5 qY).mono ?_);rintro e w6 ⟨rfl,BL,yG⟩;go_wp2_with (go_at_call 168;refine(HM.out w6 BL).mono ?_);rintro e w7 ⟨rfl,Ew,AQ⟩;go_wp2_with (go_at_call 106;refine(HN.out w7 Ew).mono ?_);rintro e w8 ⟨rfl,QW,Us⟩;go_wp2;go_ret;exact⟨rfl,QW,(((((((qZ.trans hk1).trans hk2).trans hk3).trans hk4).trans hk5).trans yG).trans AQ).trans Us⟩
  ·have hc:=ah (eq_false_of_ne_true hcl)
   clear hcl HR;go_enter Tryz.func318,Tryz.ntmps318;obtain⟨d0,_,_,_,_,_⟩:=hp.cells;go_wp2_with (go_at_call 174;refine(HP.out w hp).mono ?_);rintro e w0 ⟨rfl,hp0,hk0⟩;clear d0;have hT0:=mI.new w0 k (.string ⟨x.toArray⟩) (.string ⟨y.toArray⟩) (.int .i64 q);have vH:=hp0.later (aj w0 (.cells #[.int .i64 k,.string ⟨x.toArray⟩,.string ⟨y.toArray⟩,.int .i64 q] 136));have qZ:=hk0.trans (Kp.of (aj w0 (.cells #[.int .i64 k,.string ⟨x.toArray⟩,.string ⟨y.toArray⟩,.int .i64 q] 136)) hp0.dM);go_wp2_with (go_at_call 101;refine(HO.out _ vH).mono ?_);rintro e w1 ⟨rfl,hp1,hk1⟩;have hT1:=hT0.kp hk1;have t1:=hT1.cell;go_wp2_with (go_at_call 165;refine(HX.out w1 hp1).mono ?_);rintro e w2 ⟨rfl,hp2,hk2⟩;clear t1;obtain⟨_,_,c2,_,_,_⟩:=hp2.cells;rw[hc.out] at c2;go_wp2_with (go_at_call 165;refine(HY.out w2 hp2).mono ?_);rintro e w3 ⟨rfl,hp3,hk3⟩;clear c2;obtain⟨d0,_,_,_,_,_⟩:=hp3.cells;go_wp2_with (go_at_call 167;refine(HL.out w3 hp3).mono ?_);rintro e w4 ⟨rfl,nA,hk4⟩;clear d0;go_wp2_with (go_at_call 172;refine(HE.out w4 nA).mono ?_);rintro e w5 ⟨rfl,qY,hk5⟩;go_wp2_with (go_at_call 168;refine(HM.out w5 qY).mono ?_);rintro e w6 ⟨rfl,BL,yG⟩;go_wp2_with (go_at_call 106;refine(HN.out w6 BL).mono ?_);rintro e w7 ⟨rfl,Ew,AQ⟩;go_wp2;go_ret;exact⟨rfl,Ew,((((((qZ.trans hk1).trans hk2).trans hk3).trans hk4).trans hk5).trans yG).trans AQ⟩
 rw[if_neg hx3] at h;have HY:=ah (dn E hE ⟨#[40]⟩ st false (eq_false_of_ne_true hx3));clear hx3
 by_cases hk1:k=1
 ·rw[if_pos hk1] at h
  have k1:((k:Int) == 1)=true:=by rw[beq_iff_eq];omega
  have HN:=ah (hHI _ _ _ h hn bT);clear h hk1 hHI ex ih hn
  by_cases hcl:st.clause=true
  ·have HR:=HR hcl
   have hc:=ah hcl;clear hcl;go_enter Tryz.func318,Tryz.ntmps318;obtain⟨d0,_,_,_,_,_⟩:=hp.cells;go_wp2_with (go_at_call 174;refine(HP.out w hp).mono ?_);rintro e w0 ⟨rfl,hp0,hk0⟩;clear d0;have hT0:=mI.new w0 k (.string ⟨x.toArray⟩) (.string ⟨y.toArray⟩) (.int .i64 q);have vH:=hp0.later (aj w0 (.cells #[.int .i64 k,.string ⟨x.toArray⟩,.string ⟨y.toArray⟩,.int .i64 q] 136));have qZ:=hk0.trans (Kp.of (aj w0 (.cells #[.int .i64 k,.string ⟨x.toArray⟩,.string ⟨y.toArray⟩,.int .i64 q] 136)) hp0.dM);go_wp2_with (go_at_call 101;refine(HO.out _ vH).mono ?_);rintro e w1 ⟨rfl,hp1,hk1⟩;have hT1:=hT0.kp hk1;have t1:=hT1.cell;go_wp2_with (go_at_call 165;refine(HX.out w1 hp1).mono ?_);rintro e w2 ⟨rfl,hp2,hk2⟩;clear t1;have Pm:=hT1.kp hk2;obtain⟨_,_,c2,_,_,_⟩:=hp2.cells;rw[hc.out] at c2;go_wp2_with (go_at_call 165;refine(HR.out w2 hp2).mono ?_);rintro e w3 ⟨rfl,hp3,hk3⟩;clear c2;have hT3:=Pm.kp hk3;go_wp2_with (go_at_call 165;refine(HY.out w3 hp3).mono ?_);rintro e w4 ⟨rfl,nA,hk4⟩;have hT4:=hT3.kp hk4;have t4:=hT4.cell;go_wp2_with (go_at_call 323;refine(HN.out w4 nA).mono ?_);rintro e w5 ⟨rfl,qY,hk5⟩;go_wp2;go_ret;exact⟨rfl,qY,((((qZ.trans hk1).trans hk2).trans hk3).trans hk4).trans hk5⟩
  ·have hc:=ah (eq_false_of_ne_true hcl)
   clear hcl HR;go_enter Tryz.func318,Tryz.ntmps318;obtain⟨d0,_,_,_,_,_⟩:=hp.cells;go_wp2_with (go_at_call 174;refine(HP.out w hp).mono ?_);rintro e w0 ⟨rfl,hp0,hk0⟩;clear d0;have hT0:=mI.new w0 k (.string ⟨x.toArray⟩) (.string ⟨y.toArray⟩) (.int .i64 q);have vH:=hp0.later (aj w0 (.cells #[.int .i64 k,.string ⟨x.toArray⟩,.string ⟨y.toArray⟩,.int .i64 q] 136));have qZ:=hk0.trans (Kp.of (aj w0 (.cells #[.int .i64 k,.string ⟨x.toArray⟩,.string ⟨y.toArray⟩,.int .i64 q] 136)) hp0.dM);go_wp2_with (go_at_call 101;refine(HO.out _ vH).mono ?_);rintro e w1 ⟨rfl,hp1,hk1⟩;have hT1:=hT0.kp hk1;have t1:=hT1.cell;go_wp2_with (go_at_call 165;refine(HX.out w1 hp1).mono ?_);rintro e w2 ⟨rfl,hp2,hk2⟩;clear t1;have Pm:=hT1.kp hk2;obtain⟨_,_,c2,_,_,_⟩:=hp2.cells;rw[hc.out] at c2;go_wp2_with (go_at_call 165;refine(HY.out w2 hp2).mono ?_);rintro e w3 ⟨rfl,hp3,hk3⟩;clear c2;have hT3:=Pm.kp hk3;have t3:=hT3.cell;go_wp2_with (go_at_call 323;refine(HN.out w3 hp3).mono ?_);rintro e w4 ⟨rfl,nA,hk4⟩;go_wp2;go_ret;exact⟨rfl,nA,(((qZ.trans hk1).trans hk2).trans hk3).trans hk4⟩
 ·rw[if_neg hk1] at h
  injection h with h;subst h
  have k1:((k:Int) == 1)=false:=by rw[← Bool.not_eq_true,beq_iff_eq];omega
  have HF:=ah (fun w hp=>kC E hE 22 st w hp);clear hk1 hHI ex ih hn
  by_cases hcl:st.clause=true
  ·have HR:=HR hcl
   have hc:=ah hcl;clear hcl;go_enter Tryz.func318,Tryz.ntmps318;obtain⟨d0,_,_,_,_,_⟩:=hp.cells;go_wp2_with (go_at_call 174;refine(HP.out w hp).mono ?_);rintro e w0 ⟨rfl,hp0,hk0⟩;clear d0;have hT0:=mI.new w0 k (.string ⟨x.toArray⟩) (.string ⟨y.toArray⟩) (.int .i64 q);have vH:=hp0.later (aj w0 (.cells #[.int .i64 k,.string ⟨x.toArray⟩,.string ⟨y.toArray⟩,.int .i64 q] 136));have qZ:=hk0.trans (Kp.of (aj w0 (.cells #[.int .i64 k,.string ⟨x.toArray⟩,.string ⟨y.toArray⟩,.int .i64 q] 136)) hp0.dM);go_wp2_with (go_at_call 101;refine(HO.out _ vH).mono ?_);rintro e w1 ⟨rfl,hp1,hk1⟩;have hT1:=hT0.kp hk1;have t1:=hT1.cell;go_wp2_with (go_at_call 165;refine(HX.out w1 hp1).mono ?_);rintro e w2 ⟨rfl,hp2,hk2⟩;clear t1;have Pm:=hT1.kp hk2;obtain⟨_,_,c2,_,_,_⟩:=hp2.cells;rw[hc.out] at c2;go_wp2_with (go_at_call 165;refine(HR.out w2 hp2).mono ?_);rintro e w3 ⟨rfl,hp3,hk3⟩;clear c2;have hT3:=Pm.kp hk3;go_wp2_with (go_at_call 165;refine(HY.out w3 hp3).mono ?_);rintro e w4 ⟨rfl,nA,hk4⟩;have hT4:=hT3.kp hk4;have t4:=hT4.cell;go_wp2_with (go_at_call 166;refine(HF.out w4 nA).mono ?_);rintro e w5 ⟨rfl,qY,hk5⟩;go_wp2;go_ret;exact⟨rfl,qY,((((qZ.trans hk1).trans hk2).trans hk3).trans hk4).trans hk5⟩
  ·have hc:=ah (eq_false_of_ne_true hcl)
   clear hcl HR;go_enter Tryz.func318,Tryz.ntmps318;obtain⟨d0,_,_,_,_,_⟩:=hp.cells;go_wp2_with (go_at_call 174;refine(HP.out w hp).mono ?_);rintro e w0 ⟨rfl,hp0,hk0⟩;clear d0;have hT0:=mI.new w0 k (.string ⟨x.toArray⟩) (.string ⟨y.toArray⟩) (.int .i64 q);have vH:=hp0.later (aj w0 (.cells #[.int .i64 k,.string ⟨x.toArray⟩,.string ⟨y.toArray⟩,.int .i64 q] 136));have qZ:=hk0.trans (Kp.of (aj w0 (.cells #[.int .i64 k,.string ⟨x.toArray⟩,.string ⟨y.toArray⟩,.int .i64 q] 136)) hp0.dM);go_wp2_with (go_at_call 101;refine(HO.out _ vH).mono ?_);rintro e w1 ⟨rfl,hp1,hk1⟩;have hT1:=hT0.kp hk1;have t1:=hT1.cell;go_wp2_with (go_at_call 165;refine(HX.out w1 hp1).mono ?_);rintro e w2 ⟨rfl,hp2,hk2⟩;clear t1;have Pm:=hT1.kp hk2;obtain⟨_,_,c2,_,_,_⟩:=hp2.cells;rw[hc.out] at c2;go_wp2_with (go_at_call 165;refine(HY.out w2 hp2).mono ?_);rintro e w3 ⟨rfl,hp3,hk3⟩;clear c2;have hT3:=Pm.kp hk3;have t3:=hT3.cell;go_wp2_with (go_at_call 166;refine(HF.out w3 hp3).mono ?_);rintro e w4 ⟨rfl,nA,hk4⟩;go_wp2;go_ret;exact⟨rfl,nA,(((qZ.trans hk1).trans hk2).trans hk3).trans hk4⟩
end Go.Proofs.YtknicmmigbhpcaaGreatDoor

namespace Go.Proofs.YtknicmmigbhpcaaGreatDoor
open Go.RowKit Go
def ab4 (l:List (List UInt8))(w:World)(e:Ending)(w':World):Prop:=∃ b n,e=.returned (.slice (some ⟨b,0,none⟩) n n)∧j4 w' (.slice (some ⟨b,0,none⟩) n n) l∧Below w.heap.size w w'
theorem sU (w:World)(bs:List ByteArray):j4 (w.alloc (.cells (bs.map Value.string).toArray 9)) (.slice (some ⟨w.heap.size,0,none⟩) bs.length bs.length) (bs.map (·.data.toList)):=by
 refine⟨w.heap.size,0,bs.length,by simp,by simp,fun j hj=>?_⟩;rw[Lib.cell_of_heap (heap_alloc_new _ _)];simp only[List.length_map] at hj;simp[hj]
theorem vI (l:Nat)(hl:l≤4)(w:World) :
  Calls Tryz.prog 299 #[.int .i64 l] w (ab4 (yI l) w):=by
 have hc:l=0∨l=1∨l=2∨l=3∨l=4:=by omega
 rcases hc with rfl|rfl|rfl|rfl|rfl<;>
 ·go_enter Tryz.func299,Tryz.ntmps299
  go_wp2;go_ret
  first
   | exact⟨_,_,rfl,sU w [⟨#[124,124]⟩],aj _ _⟩
   | exact⟨_,_,rfl,sU w [⟨#[38,38]⟩],aj _ _⟩
   | exact⟨_,_,rfl,sU w [⟨#[61]⟩,⟨#[60,62]⟩,⟨#[60]⟩,⟨#[60,61]⟩,⟨#[62]⟩,⟨#[62,61]⟩],aj _ _⟩
   | exact⟨_,_,rfl,sU w [⟨#[43]⟩,⟨#[45]⟩],aj _ _⟩
   | exact⟨_,_,rfl,sU w [⟨#[42]⟩,⟨#[47]⟩,⟨#[37]⟩],aj _ _⟩
def aaH (E:aT)(l nest:Nat)(r:Int × aB)(w:World)(g k:Nat)(av:Value)(wr:World):Prop :=
 ∃ (a:Int) (s:aB),av=.int .i64 a∧k≤g∧run E.toks E.depth k (.loop l nest a) s=some r∧PW E s wr∧Kp E.B w wr
theorem Fj (l:Nat):(yI l).length≤1000:=by
 match l with
 | 0=>decide
 | 1=>decide
 | 2=>decide
 | 3=>decide
 | n+4=>simp[yI]
theorem Uu (E:aT)(hE:E.ok)(v:Value)(l:List (List UInt8))(st:aB)(x:Bool)(hx:aS E.toks st l=x)(hl:l.length≤1000)(w:World)(h:PW E st w)(hv:j4 w v l) :
  Calls Tryz.prog 165 #[.pointer (some ⟨E.pb,0,none⟩),v] w (qh E st x w):=by
 subst hx;refine(sO E v l st w h hv hE.1 hE.2.1 hl).mono ?_;rintro e w' ⟨rfl,hb⟩;exact⟨rfl,h.later hb,Kp.of hb h.dM⟩
theorem row_step (E:aT)(hE:E.ok)(g:Nat)(ih:∀ g',g'≤g→Au E g')(l nest:Nat)(st:aB)(r:Int × aB)(w:World)(h:run E.toks E.depth (g+1) (.row l nest) st=some r)(hp:PW E st w)(hn:r.2.nodes.length+1≤1099511627776)(bT:l≤4∧nest≤E.depth) :
  Calls Tryz.prog 277 #[.pointer (some ⟨E.pb,0,none⟩),.int .i64 l,.int .i64 nest] w (dx E r w):=by
 have rX:=hE.2.2;rw[run] at h;obtain⟨a,h0,h⟩:=bH h;have n1:=aC (aO E.toks E.depth g _ _ _ h) hn;have HP:=ah (fun w hp=>ih g (Nat.le_refl _) _ _ _ w h0 hp n1 bT);have IH:=ah ih;have H0:=ah h;have HN0:=ah hn;clear h h0 n1 ih hn;obtain⟨hl,bT⟩:=bT;go_enter Tryz.func277,Tryz.ntmps277;go_wp2_with (go_at_call 298;refine(HP.out w hp).mono ?_);rintro e w1 ⟨rfl,hp1,hk1⟩;go_wp2
 go_loopg [7] g (fun k av wr=>aaH E l nest r w g k av wr)
 case atStart=>exact⟨_,_,rfl,Nat.le_refl _,H0.out,hp1,hk1⟩
 case round =>
  obtain⟨a',s,rfl,hle,hr,hps,hks⟩:=hrel
  cases gk with
  | zero=>rw[run] at hr;cases hr
  | succ k =>
   rw[run] at hr
   by_cases hf:s.fE=0
   ·have HO:=ah (jr E s hf)
    by_cases hx:aS E.toks s (yI l)=true
    ·rw[if_pos ⟨hf,hx⟩] at hr
     have HX:=ah (fun w hp v=>Uu E hE v _ s true hx (Fj l) w hp);obtain⟨b,h1,hr⟩:=bH hr
     have nb:b.2.nodes.length+1≤1099511627776:=by
      by_cases l2:l=2
      ·rw[if_pos l2] at hr
       injection hr with hr
       subst hr;exact aC (aD _ _ _) HN0.out
      ·rw[if_neg l2] at hr
       exact aC ((aD _ _ _).trans (aO E.toks E.depth k _ _ _ hr)) HN0.out
     have n2:=aC (aO E.toks E.depth k _ _ _ h1) nb;have n1:=aC (aJ _ _) n2;have HL:=ah (fun w hp=>bA E s w hp hE.1 hE.2.1 n1);have HQ:=ah (fun w hp=>IH.out k (by omega) _ _ _ w h1 hp nb ⟨hl,bT⟩);have HN:=ah (fun w hp=>gV E 10 [a',(ay E.toks s).1,b.1] 3 _ b.2 w hp rfl rfl (by omega) nb);clear h1 nb n1 n2 hf hx
     by_cases l2:l=2
     ·rw[if_pos l2] at hr
      injection hr with hr
      have HR:=ah hr
      have k2:((l:Int) == 2)=true:=by rw[beq_iff_eq];omega
      clear hr l2;go_wp2_with (go_at_call 101;refine(HO.out _ hps).mono ?_);rintro e v1 ⟨rfl,Ez,MP⟩;go_wp2_with (go_at_call 299;refine(vI l hl _).mono ?_);rintro e v2 ⟨sb,sn,rfl,hsv,hbw2⟩;have Uv:=Ez.later hbw2;go_wp2_with (go_at_call 165;refine(HX.out _ Uv _ hsv).mono ?_);rintro e v3 ⟨rfl,MQ,Uw⟩;clear hsv;obtain⟨d0,_,_,_,_,_⟩:=MQ.cells;go_wp2_with (go_at_call 167;refine(HL.out _ MQ).mono ?_);rintro e v4 ⟨rfl,aaI,aaJ⟩;clear d0;go_wp2_with (go_at_call 298;refine(HQ.out _ aaI).mono ?_);rintro e v5 ⟨rfl,aaK,Q0⟩;go_wp2_with (go_at_call 106;refine(HN.out _ aaK).mono ?_);rintro e v6 ⟨rfl,aaL,aaM⟩;go_wp2;go_ret;refine⟨?_,?_,((((((hks.trans MP).trans (Kp.of hbw2 Ez.dM)).trans Uw).trans aaJ).trans Q0).trans aaM)⟩
      ·rw[← HR.out];rfl
      ·rw[← HR.out];exact aaL
     ·rw[if_neg l2] at hr
      have HR:=ah hr
      have k2:((l:Int) == 2)=false:=by rw[← Bool.not_eq_true,beq_iff_eq];omega
      clear hr l2;go_wp2_with (go_at_call 101;refine(HO.out _ hps).mono ?_);rintro e v1 ⟨rfl,Ez,MP⟩;go_wp2_with (go_at_call 299;refine(vI l hl _).mono ?_);rintro e v2 ⟨sb,sn,rfl,hsv,hbw2⟩;have Uv:=Ez.later hbw2;go_wp2_with (go_at_call 165;refine(HX.out _ Uv _ hsv).mono ?_);rintro e v3 ⟨rfl,MQ,Uw⟩;clear hsv;obtain⟨d0,_,_,_,_,_⟩:=MQ.cells;go_wp2_with (go_at_call 167;refine(HL.out _ MQ).mono ?_);rintro e v4 ⟨rfl,aaI,aaJ⟩;clear d0;go_wp2_with (go_at_call 298;refine(HQ.out _ aaI).mono ?_);rintro e v5 ⟨rfl,aaK,Q0⟩;go_wp2_with (go_at_call 106;refine(HN.out _ aaK).mono ?_);rintro e v6 ⟨rfl,aaL,aaM⟩;go_wp2
      go_roundg k
      case measure=>omega
      case rel=>exact⟨_,_,rfl,by omega,HR.out,aaL,((((((hks.trans MP).trans (Kp.of hbw2 Ez.dM)).trans Uw).trans aaJ).trans Q0).trans aaM)⟩
    ·rw[if_neg (fun q=>hx q.2)] at hr
     injection hr with hr
     have HX:=ah (fun w hp v=>Uu E hE v _ s false (eq_false_of_ne_true hx) (Fj l) w hp);have HR:=ah hr;clear hr hf hx;go_wp2_with (go_at_call 101;refine(HO.out _ hps).mono ?_);rintro e v1 ⟨rfl,Ez,MP⟩;go_wp2_with (go_at_call 299;refine(vI l hl _).mono ?_);rintro e v2 ⟨sb,sn,rfl,hsv,hbw2⟩;have Uv:=Ez.later hbw2;go_wp2_with (go_at_call 165;refine(HX.out _ Uv _ hsv).mono ?_);rintro e v3 ⟨rfl,MQ,Uw⟩;clear hsv;go_wp2;go_ret;refine⟨?_,?_,(((hks.trans MP).trans (Kp.of hbw2 Ez.dM)).trans Uw)⟩
     ·rw[← HR.out];rfl
     ·rw[← HR.out];exact MQ
   ·rw[if_neg (fun q=>hf q.1)] at hr
    injection hr with hr
    have HO:=ah (rP E s hf);have HR:=ah hr;clear hr hf;go_wp2_with (go_at_call 101;refine(HO.out _ hps).mono ?_);rintro e v1 ⟨rfl,Ez,MP⟩;go_wp2;go_ret;refine⟨?_,?_,hks.trans MP⟩
    ·rw[← HR.out];rfl
    ·rw[← HR.out];exact Ez
def PR (E:aT)(R:List Nat)(st:aB)(w:World):Prop:=PW { E with R:=R } st w
theorem PR.drop {E:aT}{R:List Nat}{st:aB}{w:World}(h:PR E R st w)(hR:∀ r∈E.R,r∈R):PW E st w:=by
 obtain⟨h1,⟨b1,nv,l,b2,b3,b4,b5⟩,h3,h4,h5,h6⟩:=h;exact⟨h1,⟨b1,nv,l,b2,b3,b4,fun p hp=>⟨(b5 p hp).1,fun b off n cap hv hn hb=>(b5 p hp).2 b off n cap hv hn (hR b hb)⟩⟩,h3,h4,h5,fun r hr=>h6 r (hR r hr)⟩
theorem PW.pr {E:aT}{st:aB}{w:World}(h:PW E st w):PR E E.R st w:=h
def YE (E:aT)(R:List Nat)(st:aB)(w:World):Prop :=
 w.heap[E.pb]?=some (.cells #[.pointer (some ⟨E.bb,0,none⟩),.int .i64 E.depth,.bool st.clause,.int .i64 st.fE,.int .i64 st.Ya] 188 (0,0)) ∧
  BW R E.B E.bb E.tv st.used st.nodes w∧Rec E.B w E.tv 4 bY E.toks∧E.B≤E.pb∧st.used≤E.toks.length
theorem PR.less {E:aT}{R:List Nat}{st:aB}{w:World}(h:PR E R st w):YE E R st w:=⟨h.1,h.2.1,h.2.2.1,h.2.2.2.1,h.2.2.2.2.1⟩
theorem YE.full {E:aT}{R:List Nat}{st:aB}{w:World}(h:YE E R st w)(hR:∀ r∈R,r<w.heap.size):PR E R st w:=⟨h.1,h.2.1,h.2.2.1,h.2.2.2.1,h.2.2.2.2,hR⟩
theorem YE.more {E:aT}{R:List Nat}{st:aB}{w:World}(h:YE E R st w)(g:Nat)(hg:w.heap.size≤g):YE E (g :: R) st w:=by
 obtain⟨h1,⟨b1,nv,l,b2,b3,b4,b5⟩,h3,h4,h5⟩:=h;refine⟨h1,⟨b1,nv,l,b2,b3,b4,fun p hp=>⟨(b5 p hp).1,fun b off n cap hv hn q=>?_⟩⟩,h3,h4,h5⟩
 rcases List.mem_cons.1 q with q|q
 ·obtain⟨ao,cap',hv',_,hf⟩:=(b5 p hp).1
  rw[hv] at hv';simp only[Value.slice.injEq] at hv';obtain⟨ha,hl,_⟩:=hv';obtain⟨b',off',cs,fr,he,hh,_⟩:=hf (by omega);rw[← ha] at he;simp only[Option.some.injEq,Addr.mk.injEq] at he;have:=(bG hh).1;omega
 ·exact(b5 p hp).2 b off n cap hv hn q
theorem PR.take {E:aT}{R:List Nat}{st:aB}{w w':World}(h:PR E R st w)(hb:Below w.heap.size w w')(g:Nat)(hg:w.heap.size≤g)(hg':g<w'.heap.size):PR E (g :: R) st w':=by
 obtain⟨h1,h2,h3,h4,h5⟩:=h.less.more g hg;have hB:=PW.dM (E:={ E with R:=R }) h;have hlt:=(bG h1).1;refine⟨?_,h2.later hb,h3.below (hb.mono hB),h4,h5,fun r hr=>?_⟩
 ·rw[hb.block E.pb hlt];exact h1
 ·rcases List.mem_cons.1 hr with rfl|hr
  ·exact hg'
  ·exact Nat.lt_of_lt_of_le (h.2.2.2.2.2 r hr) hb.size
theorem YE.grown {E:aT}{R:List Nat}{st:aB}{w w':World}(h:YE E R st w){base n:Nat}{v:Value}{xs:List Value}(ho:w.ownsRow base 3 1 v n xs)(hB:E.B≤base)(hv:∀ b,v.ownBlock=some b→b∈R)(hg:w.grownBy w' v.ownBlock):YE E R st w':=by
 obtain⟨h1,⟨b1,nv,l,b2,b3,b4,b5⟩,h3,h4,h5⟩:=h;have hlt:=(bG h1).1;have hbel:Below E.B w w':=(Below.refl _ _).grown hg (by omega) (fun k hk=>by have:=(ho.lt k hk).1;omega);refine⟨gL ho hg h1 (by decide),⟨b1,nv,l,gL ho hg b2 (by decide),b3,⟨b4.1,?_⟩,fun p hp=>?_⟩,h3.below hbel,h4,h5⟩
 ·rcases b4.2 with hn|⟨g,cap,cur,hv',hg',hh,hr⟩
  ·exact .inl hn
  ·exact .inr ⟨g,cap,cur,hv',hg',gL ho hg hh (by decide),hr⟩
 ·refine⟨?_,(b5 p hp).2⟩
  obtain⟨ao,cap,hv',hc,hf⟩:=(b5 p hp).1;refine⟨ao,cap,hv',hc,fun h0=>?_⟩;obtain⟨b,off,cs,fr,ha,hh,hj⟩:=hf h0;refine⟨b,off,cs,fr,ha,?_,hj⟩;subst ha;rw[hg.block b (bG hh).1]
  ·exact hh
  ·intro q
   have hout:=(b5 p hp).2;rw[hv'] at hout;exact hout b off _ cap rfl h0 (hv b q.symm)
theorem PR.append {E:aT}{R:List Nat}{st:aB}{w w':World}(h:PR E R st w){base n H:Nat}{g:Nat}{v:Value}{xs:List Value}(ho:w.ownsRow base 3 1 v n xs)(hB:E.B≤base)(hv:∀ b,v.ownBlock=some b→b∈R)
  (hg:w.grownBy w' v.ownBlock) (hor:v.ownBlock=some g∨g=H) (hH:w.heap.size=H) (hlt:g<w'.heap.size) :
  ∃ R',(∀ r∈R,r∈R')∧g∈R'∧PR E R' st w':=by
 have hsz:w.heap.size≤w'.heap.size:=((Below.refl 0 w).grown hg (Nat.zero_le _) (fun k _=>Nat.zero_le _)).size;have hb6:=h.2.2.2.2.2
 rcases hor with hor|rfl
 ·exact⟨R,fun r hr=>hr,hv _ hor,(h.less.grown ho hB hv hg).full fun r hr=>Nat.lt_of_lt_of_le (hb6 r hr) hsz⟩
 ·refine⟨g :: R,fun r hr=>List.mem_cons_of_mem _ hr,List.mem_cons_self,((h.less.more g (by omega)).grown ho hB (fun b hb=>List.mem_cons_of_mem _ (hv b hb)) hg).full fun r hr=>?_⟩
  rcases List.mem_cons.1 hr with rfl|hr
  ·exact hlt
  ·exact Nat.lt_of_lt_of_le (hb6 r hr) hsz
theorem gy {B base n:Nat}{w w':World}{v:Value}{xs:List Value}(h:w.ownsRow base 3 1 v n xs)(hk:Kp B w w'):w'.ownsRow base 3 1 v n xs:=by
 refine⟨h.1,?_⟩
 rcases h.2 with hn|⟨g,cap,cur,hv,hg,hh,hr⟩
 ·exact .inl hn
 ·exact .inr ⟨g,cap,cur,hv,hg,hk.2 _ _ _ _ hh (by decide) (by decide) (by decide),hr⟩
theorem Kp.grown {B base n:Nat}{w0 w w':World}{v:Value}{xs:List Value}(hk:Kp B w0 w)(ho:w.ownsRow base 3 1 v n xs)(hb:w0.heap.size≤base)(hB:B≤w0.heap.size)(hg:w.grownBy w' v.ownBlock):Kp B w0 w':=by
 refine⟨hk.1.grown hg (by have:=hk.size;omega) (fun k hkk=>by have:=(ho.lt k hkk).1;omega),fun k cs T fr h0 h1 h2 h3=>?_⟩;have hkk:=(bG h0).1;rw[hg.block k (by have:=hk.size;omega) (fun q=>by have:=(ho.lt k q.symm).1;omega)];exact hk.2 k cs T fr h0 h1 h2 h3
def Ux (E:aT)(l:List Int × aB)(w:World)(e:Ending)(w':World):Prop:=∃ v,e=.returned v∧dI w' v l.1∧(l.1=[]→v=.slice none 0 0)∧PW E l.2 w'∧Kp E.B w w'
def aaN (E:aT)(one:aB→Option (Int × aB))(res:List Int × aB)(w0:World)(kv nv:Value)(wr:World):Prop :=
 ∃ (r m:Nat) (kids:List Int) (s:aB) (R:List Nat),nv=.int .i64 (m:Nat)∧m+r=9∧kids.length+2 * r≤16∧aR E.toks one r kids s=some res ∧
  wr.ownsRow w0.heap.size 3 1 kv kids.length (kids.map (Value.int .i64))∧(∀ b,kv.ownBlock=some b→b∈R)∧(∀ r∈E.R,r∈R)∧(kids=[]→kv=.slice none 0 0)∧PR E R s wr∧Kp E.B w0 wr
theorem PR.dM {E:aT}{R:List Nat}{st:aB}{w:World}(h:PR E R st w):E.B≤w.heap.size:=PW.dM (E:={ E with R:=R }) h
theorem kD {E:aT}{R:List Nat}{w0 w:World}{kv:Value}{n:Nat}{kids:List Int}{s:aB}{res:List Int × aB}(ho:w.ownsRow w0.heap.size 3 1 kv n (kids.map (Value.int .i64)))(hR:∀ r∈E.R,r∈R)(hp:PR E R s w)(hk:Kp E.B w0 w)(h:(kids,s)=res)(h0:kids=[]→kv=.slice none 0 0):Ux E res w0 (.returned kv) w:=by
 subst h;exact⟨kv,rfl,dI.eZ ho,h0,hp.drop hR,hk⟩
theorem mJ {w:World}{base n:Nat}{v:Value}{xs:List Value}(h:w.ownsRow base 3 1 v n xs):∃ ao cap,v=.slice ao n cap:=by
 rcases h.2 with ⟨hv,hn0⟩|⟨g,cap,cur,hv,_⟩
 ·exact⟨none,0,by rw[hv,hn0]⟩
 ·exact⟨_,cap,hv⟩
theorem Fp (E:aT)(hE:E.ok)(one:aB→Option (Int × aB))(cp cn:Nat)(st:aB)(res:List Int × aB)(w:World)(h:jh E.toks one st=some res)(hp:PW E st w)(hn:res.2.nodes.length+1≤1099511627776)
  (hext:∀ s k,one s=some k→bZ s k.2)
  (hone:∀ (R:List Nat) (s:aB) (k:Int × aB) (w':World),one s=some k→PR E R s w'→Kp E.B w w'→k.2.nodes.length+1≤1099511627776 →
   Calls Tryz.prog 326 #[.pointer (some ⟨cp,0,none⟩),.pointer (some ⟨cn,0,none⟩)] w' (dx { E with R:=R } k w')) :
  Calls Tryz.prog 169 #[.pointer (some ⟨E.pb,0,none⟩),.func (.func 326) #[] #[.pointer (some ⟨cp,0,none⟩),.pointer (some ⟨cn,0,none⟩)]] w (Ux E res w):=by
 have rX:=hE.2.2;obtain⟨i0,hi,hz0,hz1,hz2⟩:=info_parts Tryz.kS;unfold jh at h
 by_cases hx:aS E.toks st [[41]]=true
 ·rw[if_pos hx] at h
  injection h with h;subst h
  have HX:=ah (dn E hE ⟨#[41]⟩ st true hx);clear hx hone hext;go_enter Tryz.func169,Tryz.ntmps169;go_wp2_with (go_at_call 165;refine(HX.out w hp).mono ?_);rintro e w1 ⟨rfl,hp1,hk1⟩;go_wp2;go_ret;exact⟨_,rfl,⟨none,0,rfl,Nat.le_refl _,fun q=>absurd q (by simp)⟩,fun _=>rfl,hp1,hk1⟩
 ·rw[if_neg hx] at h
  have HX:=ah (dn E hE ⟨#[41]⟩ st false (eq_false_of_ne_true hx));have H0:=ah h;have BD:=ah hone;have EA:=ah hext;have HN:=ah hn;have HE:=ah hE;clear hx hone hext h hn;go_enter Tryz.func169,Tryz.ntmps169;go_wp2_with (go_at_call 165;refine(HX.out w hp).mono ?_);rintro e w1 ⟨rfl,hp1,hk1⟩;go_wp2
  go_loopw [5,6] (fun kv nv wr=>aaN E one res w kv nv wr) (fun _ nv _=>10 - (intOf nv).toNat)
  case atStart=>exact⟨8,1,[],st,E.R,rfl,rfl,by simp,H0.out,World.ownsRow_nil _ _ _ _,fun _ q=>by simp[Value.ownBlock] at q,fun _ q=>q,fun _=>rfl,hp1,hk1⟩
  case round =>
   obtain⟨r,m,kids,s,R,rfl,hm,hkl,hl,hown,hR,hER,hnil,hps,hks⟩:=hrel;obtain⟨ao,cap,rfl⟩:=mJ hown;have uP:=ah hnil;clear hnil;have hBw:E.B≤w.heap.size:=hp.dM
   by_cases hf:s.fE=0
   ·have HO:=ah (jr { E with R:=R } s hf)
    cases r with
    | zero =>
     obtain rfl:m=9:=by omega
     rw[aR,if_pos hf] at hl
     injection hl with hl
     have HF:=ah (fun w hp=>kC { E with R:=R } HE.out 15 s w hp);have HL:=ah hl;clear hl hf;go_wp2_with (go_at_call 101;refine(HO.out _ hps).mono ?_);rintro e w2 ⟨rfl,hp2,hk2⟩;go_wp2_with (go_at_call 166;refine(HF.out _ hp2).mono ?_);rintro e w3 ⟨rfl,hp3,hk3⟩;have hown3:=gy (gy hown hk2) hk3;go_wp2;go_ret;exact kD hown3 hER hp3 ((hks.trans hk2).trans hk3) HL.out uP.out
    | succ r =>
     rw[aR,if_neg (by simp[hf])] at hl;obtain⟨k,h1,hl⟩:=bH hl;have d8:decide (8<(m:Int))=false:=decide_eq_false (by omega);have d8':decide (8<m)=false:=decide_eq_false (by omega)
     have hnk:k.2.nodes.length+1≤1099511627776:=by
      split at hl
      ·exact aC ((aJ _ _).trans (kL _ one EA.out _ _ _ _ hl)) HN.out
      ·injection hl with hl;rw[← hl] at HN;exact HN.out
     have HK:=ah (fun w' hp hk=>BD.out R s k w' h1 hp hk hnk);have HL:=ah hl;clear hl h1 hf;go_wp2_with (go_at_call 101;refine(HO.out _ hps).mono ?_);rintro e w2 ⟨rfl,hp2,hk2⟩;go_wp2_with (go_at_call 326;refine(HK.out _ hp2 (hks.trans hk2)).mono ?_);rintro e w3 ⟨rfl,hp3,hk3⟩;have MR:PR E R k.2 w3:=hp3;clear hp3;have hown3:=gy (gy hown hk2) hk3;have vH:PR E R k.2 (w3.alloc (.cells #[.int .i64 k.1] 3)):=PW.later MR (aj w3 _);have hnw:=heap_alloc_new w3 (.cells #[.int .i64 k.1] 3);have qZ:Kp E.B w (w3.alloc (.cells #[.int .i64 k.1] 3)):=((hks.trans hk2).trans hk3).trans (Kp.of (aj w3 _) MR.dM);have kT:=hown3.alloc (.cells #[.int .i64 k.1] 3);have aaO:w.heap.size≤w3.heap.size:=((hks.trans hk2).trans hk3).size;go_wp2_with (at_builtin;refine wpList_append_lies _ rfl _ _ 51 rfl w.heap.size 3 i0 (.int .i64 0) 1 8 Tryz.underlying51 hi hz0 hz1 hz2 rfl (by decide) _ _ _ rfl kT ⟨w3.heap.size,0,none⟩ 1 1 [.int .i64 k.1] rfl rfl ?c1 ?c2 ?c3 ?c4 ?c5 ?c6 _ rfl ?_)
     case c1=>exact World.news_of_block (cs:=#[.int .i64 k.1]) (t:=3) (fr:=(0,0)) hnw
     case c2=>simp[Value.oneCell']
     case c3=>omega
     case c4=>unfold maxLen;omega
     case c5=>omega
     case c6=>simp;omega
     intro g cap4 w4 wU vJ Uy Q6;obtain⟨R4,hR4,hg4,nA⟩:=vH.append kT hBw hR vJ Uy (by simp) Q6;have hk4:=qZ.grown kT (Nat.le_refl _) hBw vJ
     have q8:w4.ownsRow w.heap.size 3 1 (.slice (some ⟨g,0,none⟩) (kids.length+1) cap4) (kids.length+1) ((kids++[k.1]).map (Value.int .i64)):=by rw[List.map_append];exact wU
     have Hq:∀ r∈E.R,r∈R4:=fun r hr=>hR4 r (hER r hr)
     clear vH hnw qZ kT vJ Uy Q6 hown3 wU hk2 hk3 hp2 MR hown hps hks HO HK HX H0 BD aaO hR4
     by_cases GZ:k.2.fE=0
     ·have Uz:=ah (jr { E with R:=R4 } k.2 GZ)
      by_cases hx4:aS E.toks k.2 [[44]]=true
      ·have hl:=HL.out
       rw[if_pos ⟨GZ,hx4⟩] at hl;have YF:=ah (dn { E with R:=R4 } HE.out ⟨#[44]⟩ k.2 true hx4);have HLF:=ah (fun w hp=>bA { E with R:=R4 } k.2 w hp HE.out.1 HE.out.2.1 hnk);have HL2:=ah hl;clear hl HL GZ hx4;go_wp2_with (go_at_call 101;refine(Uz.out _ nA).mono ?_);rintro e w5 ⟨rfl,qY,hk5⟩;go_wp2_with (go_at_call 165;refine(YF.out _ qY).mono ?_);rintro e w6 ⟨rfl,BL,yG⟩;obtain⟨d0,_,_,_,_,_⟩:=BL.cells;go_wp2_with (go_at_call 167;refine(HLF.out _ BL).mono ?_);rintro e w7 ⟨rfl,Ew,AQ⟩;clear d0;have MS:PR E R4 (ay E.toks k.2).2 w7:=Ew;clear Ew;have JV:=gy (gy (gy q8 hk5) yG) AQ;have MU:=((hk4.trans hk5).trans yG).trans AQ;have vH:PR E R4 (ay E.toks k.2).2 (w7.alloc (.cells #[.int .i64 (ay E.toks k.2).1] 3)):=PW.later MS (aj w7 _);have hnw:=heap_alloc_new w7 (.cells #[.int .i64 (ay E.toks k.2).1] 3);have qZ:Kp E.B w (w7.alloc (.cells #[.int .i64 (ay E.toks k.2).1] 3)):=MU.trans (Kp.of (aj w7 _) MS.dM);have kT:=JV.alloc (.cells #[.int .i64 (ay E.toks k.2).1] 3);have ab5:w.heap.size≤w7.heap.size:=MU.size
       have hv4:∀ b,(Value.slice (some ⟨g,0,none⟩) (kids.length+1) cap4).ownBlock=some b→b∈R4:=fun b hb=>by
        simp only[Value.ownBlock,Option.some.injEq] at hb;subst hb;exact hg4
       go_wp2_with (at_builtin;refine wpList_append_lies _ rfl _ _ 51 rfl w.heap.size 3 i0 (.int .i64 0) 1 8 Tryz.underlying51 hi hz0 hz1 hz2 rfl (by decide) _ _ _ rfl kT ⟨w7.heap.size,0,none⟩ 1 1 [.int .i64 (ay E.toks k.2).1] rfl rfl ?c1 ?c2 ?c3 ?c4 ?c5 ?c6 _ rfl ?_)
       case c1=>exact World.news_of_block (cs:=#[.int .i64 (ay E.toks k.2).1]) (t:=3) (fr:=(0,0)) hnw
       case c2=>simp[Value.oneCell']
       case c3=>omega
       case c4=>unfold maxLen;omega
       case c5=>omega
       case c6=>simp;omega
       intro g8 MV w8 sV lU BN vK;obtain⟨R8,JW,hg8,QW⟩:=vH.append kT hBw hv4 lU BN (by simp) vK;have Us:=qZ.grown kT (Nat.le_refl _) hBw lU
       have MW:w8.ownsRow w.heap.size 3 1 (.slice (some ⟨g8,0,none⟩) (kids.length+1+1) MV) (kids++[k.1,(ay E.toks k.2).1]).length ((kids++[k.1,(ay E.toks k.2).1]).map (Value.int .i64)):=by
        rw[List.map_append,bN];exact sV
       have hv8:∀ b,(Value.slice (some ⟨g8,0,none⟩) (kids.length+1+1) MV).ownBlock=some b→b∈R8:=fun b hb=>by
        simp only[Value.ownBlock,Option.some.injEq] at hb;subst hb;exact hg8
       have aaP:∀ r∈E.R,r∈R8:=fun r hr=>JW r (Hq r hr)
       clear vH hnw qZ kT lU BN vK JV sV MU q8 hk4 hk5 yG AQ nA qY BL MS Uz YF HLF JW hv4 Hq hg4;go_wp2
       go_roundw
       case rel=>exact⟨r,m+1,_,_,R8,by go_num,by omega,by simp;omega,HL2.out,MW,hv8,aaP,(fun q=>by simp at q),QW,Us⟩
       case measure=>simp[intOf];omega
      ·have hl:=HL.out
       rw[if_neg (fun q=>hx4 q.2)] at hl
       injection hl with hl
       have YF:=ah (dn { E with R:=R4 } HE.out ⟨#[44]⟩ k.2 false (eq_false_of_ne_true hx4));have HL2:=ah hl;clear hl HL GZ hx4;go_wp2_with (go_at_call 101;refine(Uz.out _ nA).mono ?_);rintro e w5 ⟨rfl,qY,hk5⟩;go_wp2_with (go_at_call 165;refine(YF.out _ qY).mono ?_);rintro e w6 ⟨rfl,BL,yG⟩;have hown6:=gy (gy q8 hk5) yG;go_wp2;go_ret;exact kD hown6 Hq BL ((hk4.trans hk5).trans yG) HL2.out (fun q=>by simp at q)
     ·have hl:=HL.out
      rw[if_neg (fun q=>GZ q.1)] at hl
      injection hl with hl
      have Uz:=ah (rP { E with R:=R4 } k.2 GZ);have HL2:=ah hl;clear hl HL GZ;go_wp2_with (go_at_call 101;refine(Uz.out _ nA).mono ?_);rintro e w5 ⟨rfl,qY,hk5⟩;have hown5:=gy q8 hk5;go_wp2;go_ret;exact kD hown5 Hq qY (hk4.trans hk5) HL2.out (fun q=>by simp at q)
   ·have HO:=ah (rP { E with R:=R } s hf)
    have hl':(kids,s)=res:=by
     cases r with
     | zero=>rw[aR,if_neg hf] at hl;injection hl
     | succ r=>rw[aR,if_pos hf] at hl;injection hl
    have HL:=ah hl';clear hl hl' hf;go_wp2_with (go_at_call 101;refine(HO.out _ hps).mono ?_);rintro e w2 ⟨rfl,hp2,hk2⟩;have hown2:=gy hown hk2;go_wp2;go_ret;exact kD hown2 hER hp2 (hks.trans hk2) HL.out uP.out
end Go.Proofs.YtknicmmigbhpcaaGreatDoor
