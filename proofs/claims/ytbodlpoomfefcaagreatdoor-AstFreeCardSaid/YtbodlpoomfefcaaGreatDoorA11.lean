/- Walks and plain laws: ParseW10, ParseW11, ParseW12, ParseW13. -/
import Derived.Test.YtbodlpoomfefcaaGreatDoorA10
import Derived.Deep.LoopGhost
set_option maxHeartbeats 16000000
set_option maxRecDepth 100000
set_option linter.unusedVariables false
set_option linter.unusedSimpArgs false
namespace Go.Proofs.YtbodlpoomfefcaaGreatDoor
open Go.RowKit
def TPost (E:PEnv)(st:PSt)(t:Tok)(w:World)(e:Ending)(w':World):Prop:=e=.returned (.agg #[.int .i64 t.kind,.string ⟨t.lead.toArray⟩,.string ⟨t.text.toArray⟩,.int .i64 t.place])∧PW E st w'∧Kp E.B w w'
theorem peek_is (E:PEnv)(hE:E.ok)(st:PSt)(w:World)(h:PW E st w) :
  Calls Tryz.prog 146 #[.pointer (some ⟨E.bb,0,none⟩)] w (TPost E st (peekF E.toks st.used) w) :=
 (peek_any E.R E.B E.bb E.tv E.toks st.used st.nodes w h.2.1 h.2.2.1 hE.1 h.2.2.2.2.1 hE.2.1).mono fun _e _w' ⟨he,hb⟩=>⟨he,h.later hb,Kp.of hb h.B_le⟩
theorem next2_is (E:PEnv)(hE:E.ok)(b c:ByteArray)(st:PSt)(x:Bool)(hx:nextF E.toks st [b.data.toList,c.data.toList]=x)(w:World)(h:PW E st w) :
  Calls Tryz.prog 138 #[.pointer (some ⟨E.pb,0,none⟩),.slice (some ⟨w.heap.size,0,none⟩) 2 2] (w.alloc (.cells #[.string b,.string c] 9)) (NPost E st x w):=by
 subst hx;exact next_two E hE b c st w h
def TokAt (w:World)(b:Nat)(k:Nat):Prop:=∃ x y q:Value,w.heap[b]?=some (.cells #[.int .i64 k,x,y,q] 80)
theorem TokAt.kp {B:Nat}{w w':World}{b k:Nat}(h:TokAt w b k)(hk:Kp B w w'):TokAt w' b k:=by
 obtain ⟨x,y,q,h⟩:=h
 exact ⟨x,y,q,hk.2 _ _ _ _ h (by decide) (by decide) (by decide)⟩
theorem TokAt.cell {w:World}{b k:Nat}(h:TokAt w b k):w.cell? ⟨b,0,none⟩=some (.int .i64 k):=by
 obtain ⟨x,y,q,h⟩:=h
 rw [Lib.cell_of_heap h];rfl
theorem TokAt.new (w:World)(k:Nat)(x y q:Value):TokAt (w.alloc (.cells #[.int .i64 k,x,y,q] 80)) w.heap.size k:=⟨x,y,q,heap_alloc_new _ _⟩
theorem atom_step (E:PEnv)(hE:E.ok)(g:Nat)(ih:AllT E g)(nest:Nat)(st:PSt)(r:Int × PSt)(w:World)(h:run E.toks E.depth (g+1) (.atom nest) st=some r)(hp:PW E st w)(hn:r.2.nodes.length+1≤1099511627776)(hnest:nest≤E.depth) :
  Calls Tryz.prog 320 #[.pointer (some ⟨E.pb,0,none⟩),.int .i64 nest] w (PPost E r w):=by
 have hdep:=hE.2.2
 have hHI:∀ (t:Task) (st:PSt) (r:Int × PSt),run E.toks E.depth g t st=some r→r.2.nodes.length+1≤1099511627776→nestOk E t→∀ w,PW E st w→taskCalls E r w t:=fun t st r h1 h2 h3 w h4=>ih t st r w h1 h4 h2 h3
 have ex:=run_ext E.toks E.depth g
 rw [run] at h
 have hP:=peek_is E hE st
 generalize peekF E.toks st.used=t at hP h
 obtain ⟨k,x,y,q⟩:=t
 simp only at h
 have HP:=Lib.hid hP
 clear hP
 have tf:=tokField0
 by_cases hf:st.fE≠0
 ·rw [if_pos hf] at h
  injection h with h;subst h
  have HO:=Lib.hid (ok_no E st hf)
  clear hf hHI ex ih hn
  go_enter Tryz.func320,Tryz.ntmps320
  obtain ⟨d0,_,_,_,_,_⟩:=hp.cells
  go_wp2_with (go_at_call 146;refine (HP.out w hp).mono ?_)
  rintro e w0 ⟨rfl,hp0,hk0⟩
  clear d0
  have hT0:=TokAt.new w0 k (.string ⟨x.toArray⟩) (.string ⟨y.toArray⟩) (.int .i64 q)
  have hpA:=hp0.later (below_new w0 (.cells #[.int .i64 k,.string ⟨x.toArray⟩,.string ⟨y.toArray⟩,.int .i64 q] 80))
  have hkA:=hk0.trans (Kp.of (below_new w0 (.cells #[.int .i64 k,.string ⟨x.toArray⟩,.string ⟨y.toArray⟩,.int .i64 q] 80)) hp0.B_le)
  go_wp2_with (go_at_call 83;refine (HO.out _ hpA).mono ?_)
  rintro e w1 ⟨rfl,hp1,hk1⟩
  go_wp2
  go_ret
  exact ⟨rfl,hp1,hkA.trans hk1⟩
 rw [if_neg hf] at h
 have HO:=Lib.hid (ok_yes E st (by simpa using hf))
 clear hf
 by_cases hk3:k=3
 ·rw [if_pos hk3] at h
  injection h with h;subst h
  have n2:=nodes_le (nodeM_ext _ _ _) hn
  have n1:=nodes_le (leafM_ext _ _) n2
  have k3:((k:Int) == 3)=true:=by rw [beq_iff_eq];omega
  have HL:=Lib.hid (fun w hp=>pleaf_any E st w hp hE.1 hE.2.1 n1)
  have HN:=Lib.hid (fun w hp=>node_lit E 15 [(leafM E.toks st).1] 1 _ (leafM E.toks st).2 w hp rfl rfl (by omega) n2)
  clear n1 n2 hk3 hHI ex ih hn
  go_enter Tryz.func320,Tryz.ntmps320
  obtain ⟨d0,_,_,_,_,_⟩:=hp.cells
  go_wp2_with (go_at_call 146;refine (HP.out w hp).mono ?_)
  rintro e w0 ⟨rfl,hp0,hk0⟩
  clear d0
  have hT0:=TokAt.new w0 k (.string ⟨x.toArray⟩) (.string ⟨y.toArray⟩) (.int .i64 q)
  have hpA:=hp0.later (below_new w0 (.cells #[.int .i64 k,.string ⟨x.toArray⟩,.string ⟨y.toArray⟩,.int .i64 q] 80))
  have hkA:=hk0.trans (Kp.of (below_new w0 (.cells #[.int .i64 k,.string ⟨x.toArray⟩,.string ⟨y.toArray⟩,.int .i64 q] 80)) hp0.B_le)
  go_wp2_with (go_at_call 83;refine (HO.out _ hpA).mono ?_)
  rintro e w1 ⟨rfl,hp1,hk1⟩
  have hT1:=hT0.kp hk1
  have t1:=hT1.cell
  obtain ⟨d0,_,_,_,_,_⟩:=hp1.cells
  go_wp2_with (go_at_call 140;refine (HL.out w1 hp1).mono ?_)
  rintro e w2 ⟨rfl,hp2,hk2⟩
  clear d0
  go_wp2_with (go_at_call 88;refine (HN.out w2 hp2).mono ?_)
  rintro e w3 ⟨rfl,hp3,hk3⟩
  go_wp2
  go_ret
  exact ⟨rfl,hp3,((hkA.trans hk1).trans hk2).trans hk3⟩
 rw [if_neg hk3] at h
 have k3:((k:Int) == 3)=false:=by rw [← Bool.not_eq_true,beq_iff_eq];omega
 clear hk3
 by_cases hx1:nextF E.toks st [tTrue,tFalse]=true
 ·rw [if_pos hx1] at h
  injection h with h;subst h
  have n2:=nodes_le (nodeM_ext _ _ _) hn
  have n1:=nodes_le (leafM_ext _ _) n2
  have HX:=Lib.hid (next2_is E hE ⟨#[116,114,117,101]⟩ ⟨#[102,97,108,115,101]⟩ st true hx1)
  have HL:=Lib.hid (fun w hp=>pleaf_any E st w hp hE.1 hE.2.1 n1)
  have HN:=Lib.hid (fun w hp=>node_lit E 16 [(leafM E.toks st).1] 1 _ (leafM E.toks st).2 w hp rfl rfl (by omega) n2)
  clear n1 n2 hx1 hHI ex ih hn
  go_enter Tryz.func320,Tryz.ntmps320
  obtain ⟨d0,_,_,_,_,_⟩:=hp.cells
  go_wp2_with (go_at_call 146;refine (HP.out w hp).mono ?_)
  rintro e w0 ⟨rfl,hp0,hk0⟩
  clear d0
  have hT0:=TokAt.new w0 k (.string ⟨x.toArray⟩) (.string ⟨y.toArray⟩) (.int .i64 q)
  have hpA:=hp0.later (below_new w0 (.cells #[.int .i64 k,.string ⟨x.toArray⟩,.string ⟨y.toArray⟩,.int .i64 q] 80))
  have hkA:=hk0.trans (Kp.of (below_new w0 (.cells #[.int .i64 k,.string ⟨x.toArray⟩,.string ⟨y.toArray⟩,.int .i64 q] 80)) hp0.B_le)
  go_wp2_with (go_at_call 83;refine (HO.out _ hpA).mono ?_)
  rintro e w1 ⟨rfl,hp1,hk1⟩
  have hT1:=hT0.kp hk1
  have t1:=hT1.cell
  go_wp2_with (go_at_call 138;refine (HX.out w1 hp1).mono ?_)
  rintro e w2 ⟨rfl,hp2,hk2⟩
  clear t1
  obtain ⟨d0,_,_,_,_,_⟩:=hp2.cells
  go_wp2_with (go_at_call 140;refine (HL.out w2 hp2).mono ?_)
  rintro e w3 ⟨rfl,hp3,hk3⟩
  clear d0
  go_wp2_with (go_at_call 88;refine (HN.out w3 hp3).mono ?_)
  rintro e w4 ⟨rfl,hp4,hk4⟩
  go_wp2
  go_ret
  exact ⟨rfl,hp4,(((hkA.trans hk1).trans hk2).trans hk3).trans hk4⟩
 rw [if_neg hx1] at h
 have HX:=Lib.hid (next2_is E hE ⟨#[116,114,117,101]⟩ ⟨#[102,97,108,115,101]⟩ st false (eq_false_of_ne_true hx1))
 clear hx1
 by_cases hx2:st.clause=true∧nextF E.toks st [tRes]=true
 ·rw [if_pos hx2] at h
  injection h with h;subst h
  have n2:=nodes_le (nodeM_ext _ _ _) hn
  have n1:=nodes_le (leafM_ext _ _) n2
  have hc:=Lib.hid hx2.1
  have HR:=Lib.hid (next_is E hE ⟨#[114,101,115]⟩ st true hx2.2)
  have HL:=Lib.hid (fun w hp=>pleaf_any E st w hp hE.1 hE.2.1 n1)
  have HN:=Lib.hid (fun w hp=>node_lit E 17 [(leafM E.toks st).1] 1 _ (leafM E.toks st).2 w hp rfl rfl (by omega) n2)
  clear n1 n2 hx2 hHI ex ih hn
  go_enter Tryz.func320,Tryz.ntmps320
  obtain ⟨d0,_,_,_,_,_⟩:=hp.cells
  go_wp2_with (go_at_call 146;refine (HP.out w hp).mono ?_)
  rintro e w0 ⟨rfl,hp0,hk0⟩
  clear d0
  have hT0:=TokAt.new w0 k (.string ⟨x.toArray⟩) (.string ⟨y.toArray⟩) (.int .i64 q)
  have hpA:=hp0.later (below_new w0 (.cells #[.int .i64 k,.string ⟨x.toArray⟩,.string ⟨y.toArray⟩,.int .i64 q] 80))
  have hkA:=hk0.trans (Kp.of (below_new w0 (.cells #[.int .i64 k,.string ⟨x.toArray⟩,.string ⟨y.toArray⟩,.int .i64 q] 80)) hp0.B_le)
  go_wp2_with (go_at_call 83;refine (HO.out _ hpA).mono ?_)
  rintro e w1 ⟨rfl,hp1,hk1⟩
  have hT1:=hT0.kp hk1
  have t1:=hT1.cell
  go_wp2_with (go_at_call 138;refine (HX.out w1 hp1).mono ?_)
  rintro e w2 ⟨rfl,hp2,hk2⟩
  clear t1
  obtain ⟨_,_,c2,_,_,_⟩:=hp2.cells
  rw [hc.out] at c2
  go_wp2_with (go_at_call 138;refine (HR.out w2 hp2).mono ?_)
  rintro e w3 ⟨rfl,hp3,hk3⟩
  clear c2
  obtain ⟨d0,_,_,_,_,_⟩:=hp3.cells
  go_wp2_with (go_at_call 140;refine (HL.out w3 hp3).mono ?_)
  rintro e w4 ⟨rfl,hp4,hk4⟩
  clear d0
  go_wp2_with (go_at_call 88;refine (HN.out w4 hp4).mono ?_)
  rintro e w5 ⟨rfl,hp5,hk5⟩
  go_wp2
  go_ret
  exact ⟨rfl,hp5,((((hkA.trans hk1).trans hk2).trans hk3).trans hk4).trans hk5⟩
 rw [if_neg hx2] at h
 have HR:st.clause=true→Hid (∀ w,PW E st w→Calls Tryz.prog 138 #[.pointer (some ⟨E.pb,0,none⟩),.slice (some ⟨w.heap.size,0,none⟩) 1 1] (w.alloc (.cells #[.string ⟨#[114,101,115]⟩] 9)) (NPost E st false w)):=fun hc=>Lib.hid (next_is E hE ⟨#[114,101,115]⟩ st false (eq_false_of_ne_true fun q=>hx2 ⟨hc,q⟩))
 clear hx2
 by_cases hx3:nextF E.toks st [[40]]=true
 ·rw [if_pos hx3] at h
  obtain ⟨b,h1,h⟩:=Option.bind_eq_some_iff.1 h
  injection h with h;subst h
  have n4:=nodes_le (nodeM_ext _ _ _) hn
  have n3:=nodes_le (mustM_ext _ _ _) n4
  have n2:=nodes_le (ex _ _ _ h1) n3
  have n1:=nodes_le (leafM_ext _ _) n2
  have HY:=Lib.hid (next_is E hE ⟨#[40]⟩ st true hx3)
  have HL:=Lib.hid (fun w hp=>pleaf_any E st w hp hE.1 hE.2.1 n1)
  have HE:=Lib.hid (hHI _ _ _ h1 n3 (by show nest+1≤_;omega))
  have HM:=Lib.hid (fun w hp=>must_one E hE ⟨#[41]⟩ b.2 w hp n3)
  have HN:=Lib.hid (fun w hp=>node_lit E 12 [(leafM E.toks st).1,b.1,(mustM E.toks [[41]] b.2).1] 3 _ (mustM E.toks [[41]] b.2).2 w hp rfl rfl (by omega) n4)
  clear n1 n2 n3 n4 h1 hx3 hHI ex ih hn
  by_cases hcl:st.clause=true
  ·have HR:=HR hcl
   have hc:=Lib.hid hcl
   clear hcl
   go_enter Tryz.func320,Tryz.ntmps320
   obtain ⟨d0,_,_,_,_,_⟩:=hp.cells
   go_wp2_with (go_at_call 146;refine (HP.out w hp).mono ?_)
   rintro e w0 ⟨rfl,hp0,hk0⟩
   clear d0
   have hT0:=TokAt.new w0 k (.string ⟨x.toArray⟩) (.string ⟨y.toArray⟩) (.int .i64 q)
   have hpA:=hp0.later (below_new w0 (.cells #[.int .i64 k,.string ⟨x.toArray⟩,.string ⟨y.toArray⟩,.int .i64 q] 80))
   have hkA:=hk0.trans (Kp.of (below_new w0 (.cells #[.int .i64 k,.string ⟨x.toArray⟩,.string ⟨y.toArray⟩,.int .i64 q] 80)) hp0.B_le)
   go_wp2_with (go_at_call 83;refine (HO.out _ hpA).mono ?_)
   rintro e w1 ⟨rfl,hp1,hk1⟩
   have hT1:=hT0.kp hk1
   have t1:=hT1.cell
   go_wp2_with (go_at_call 138;refine (HX.out w1 hp1).mono ?_)
   rintro e w2 ⟨rfl,hp2,hk2⟩
   clear t1
   obtain ⟨_,_,c2,_,_,_⟩:=hp2.cells
   rw [hc.out] at c2
   go_wp2_with (go_at_call 138;refine (HR.out w2 hp2).mono ?_)
   rintro e w3 ⟨rfl,hp3,hk3⟩
   clear c2
   go_wp2_with (go_at_call 138;refine (HY.out w3 hp3).mono ?_)
   rintro e w4 ⟨rfl,hp4,hk4⟩
   obtain ⟨d0,_,_,_,_,_⟩:=hp4.cells
   go_wp2_with (go_at_call 140;refine (HL.out w4 hp4).mono ?_)
   rintro e w5 ⟨rfl,hp5,hk5⟩
   clear d0
   go_wp2_with (go_at_call 125;refine (HE.out w5 hp5).mono ?_)
   rintro e w6 ⟨rfl,hp6,hk6⟩
   go_wp2_with (go_at_call 141;refine (HM.out w6 hp6).mono ?_)
   rintro e w7 ⟨rfl,hp7,hk7⟩
   go_wp2_with (go_at_call 88;refine (HN.out w7 hp7).mono ?_)
   rintro e w8 ⟨rfl,hp8,hk8⟩
   go_wp2
   go_ret
   exact ⟨rfl,hp8,(((((((hkA.trans hk1).trans hk2).trans hk3).trans hk4).trans hk5).trans hk6).trans hk7).trans hk8⟩
  ·have hc:=Lib.hid (eq_false_of_ne_true hcl)
   clear hcl HR
   go_enter Tryz.func320,Tryz.ntmps320
   obtain ⟨d0,_,_,_,_,_⟩:=hp.cells
   go_wp2_with (go_at_call 146;refine (HP.out w hp).mono ?_)
   rintro e w0 ⟨rfl,hp0,hk0⟩
   clear d0
   have hT0:=TokAt.new w0 k (.string ⟨x.toArray⟩) (.string ⟨y.toArray⟩) (.int .i64 q)
   have hpA:=hp0.later (below_new w0 (.cells #[.int .i64 k,.string ⟨x.toArray⟩,.string ⟨y.toArray⟩,.int .i64 q] 80))
   have hkA:=hk0.trans (Kp.of (below_new w0 (.cells #[.int .i64 k,.string ⟨x.toArray⟩,.string ⟨y.toArray⟩,.int .i64 q] 80)) hp0.B_le)
   go_wp2_with (go_at_call 83;refine (HO.out _ hpA).mono ?_)
   rintro e w1 ⟨rfl,hp1,hk1⟩
   have hT1:=hT0.kp hk1
   have t1:=hT1.cell
   go_wp2_with (go_at_call 138;refine (HX.out w1 hp1).mono ?_)
   rintro e w2 ⟨rfl,hp2,hk2⟩
   clear t1
   obtain ⟨_,_,c2,_,_,_⟩:=hp2.cells
   rw [hc.out] at c2
   go_wp2_with (go_at_call 138;refine (HY.out w2 hp2).mono ?_)
   rintro e w3 ⟨rfl,hp3,hk3⟩
   clear c2
   obtain ⟨d0,_,_,_,_,_⟩:=hp3.cells
   go_wp2_with (go_at_call 140;refine (HL.out w3 hp3).mono ?_)
   rintro e w4 ⟨rfl,hp4,hk4⟩
   clear d0
   go_wp2_with (go_at_call 125;refine (HE.out w4 hp4).mono ?_)
   rintro e w5 ⟨rfl,hp5,hk5⟩
   go_wp2_with (go_at_call 141;refine (HM.out w5 hp5).mono ?_)
   rintro e w6 ⟨rfl,hp6,hk6⟩
   go_wp2_with (go_at_call 88;refine (HN.out w6 hp6).mono ?_)
   rintro e w7 ⟨rfl,hp7,hk7⟩
   go_wp2
   go_ret
   exact ⟨rfl,hp7,((((((hkA.trans hk1).trans hk2).trans hk3).trans hk4).trans hk5).trans hk6).trans hk7⟩
 rw [if_neg hx3] at h
 have HY:=Lib.hid (next_is E hE ⟨#[40]⟩ st false (eq_false_of_ne_true hx3))
 clear hx3
 by_cases hk1:k=1
 ·rw [if_pos hk1] at h
  have k1:((k:Int) == 1)=true:=by rw [beq_iff_eq];omega
  have HN:=Lib.hid (hHI _ _ _ h hn hnest)
  clear h hk1 hHI ex ih hn
  by_cases hcl:st.clause=true
  ·have HR:=HR hcl
   have hc:=Lib.hid hcl
   clear hcl
   go_enter Tryz.func320,Tryz.ntmps320
   obtain ⟨d0,_,_,_,_,_⟩:=hp.cells
   go_wp2_with (go_at_call 146;refine (HP.out w hp).mono ?_)
   rintro e w0 ⟨rfl,hp0,hk0⟩
   clear d0
   have hT0:=TokAt.new w0 k (.string ⟨x.toArray⟩) (.string ⟨y.toArray⟩) (.int .i64 q)
   have hpA:=hp0.later (below_new w0 (.cells #[.int .i64 k,.string ⟨x.toArray⟩,.string ⟨y.toArray⟩,.int .i64 q] 80))
   have hkA:=hk0.trans (Kp.of (below_new w0 (.cells #[.int .i64 k,.string ⟨x.toArray⟩,.string ⟨y.toArray⟩,.int .i64 q] 80)) hp0.B_le)
   go_wp2_with (go_at_call 83;refine (HO.out _ hpA).mono ?_)
   rintro e w1 ⟨rfl,hp1,hk1⟩
   have hT1:=hT0.kp hk1
   have t1:=hT1.cell
   go_wp2_with (go_at_call 138;refine (HX.out w1 hp1).mono ?_)
   rintro e w2 ⟨rfl,hp2,hk2⟩
   clear t1
   have hT2:=hT1.kp hk2
   obtain ⟨_,_,c2,_,_,_⟩:=hp2.cells
   rw [hc.out] at c2
   go_wp2_with (go_at_call 138;refine (HR.out w2 hp2).mono ?_)
   rintro e w3 ⟨rfl,hp3,hk3⟩
   clear c2
   have hT3:=hT2.kp hk3
   go_wp2_with (go_at_call 138;refine (HY.out w3 hp3).mono ?_)
   rintro e w4 ⟨rfl,hp4,hk4⟩
   have hT4:=hT3.kp hk4
   have t4:=hT4.cell
   go_wp2_with (go_at_call 322;refine (HN.out w4 hp4).mono ?_)
   rintro e w5 ⟨rfl,hp5,hk5⟩
   go_wp2
   go_ret
   exact ⟨rfl,hp5,((((hkA.trans hk1).trans hk2).trans hk3).trans hk4).trans hk5⟩
  ·have hc:=Lib.hid (eq_false_of_ne_true hcl)
   clear hcl HR
   go_enter Tryz.func320,Tryz.ntmps320
   obtain ⟨d0,_,_,_,_,_⟩:=hp.cells
   go_wp2_with (go_at_call 146;refine (HP.out w hp).mono ?_)
   rintro e w0 ⟨rfl,hp0,hk0⟩
   clear d0
   have hT0:=TokAt.new w0 k (.string ⟨x.toArray⟩) (.string ⟨y.toArray⟩) (.int .i64 q)
   have hpA:=hp0.later (below_new w0 (.cells #[.int .i64 k,.string ⟨x.toArray⟩,.string ⟨y.toArray⟩,.int .i64 q] 80))
   have hkA:=hk0.trans (Kp.of (below_new w0 (.cells #[.int .i64 k,.string ⟨x.toArray⟩,.string ⟨y.toArray⟩,.int .i64 q] 80)) hp0.B_le)
   go_wp2_with (go_at_call 83;refine (HO.out _ hpA).mono ?_)
   rintro e w1 ⟨rfl,hp1,hk1⟩
   have hT1:=hT0.kp hk1
   have t1:=hT1.cell
   go_wp2_with (go_at_call 138;refine (HX.out w1 hp1).mono ?_)
   rintro e w2 ⟨rfl,hp2,hk2⟩
   clear t1
   have hT2:=hT1.kp hk2
   obtain ⟨_,_,c2,_,_,_⟩:=hp2.cells
   rw [hc.out] at c2
   go_wp2_with (go_at_call 138;refine (HY.out w2 hp2).mono ?_)
   rintro e w3 ⟨rfl,hp3,hk3⟩
   clear c2
   have hT3:=hT2.kp hk3
   have t3:=hT3.cell
   go_wp2_with (go_at_call 322;refine (HN.out w3 hp3).mono ?_)
   rintro e w4 ⟨rfl,hp4,hk4⟩
   go_wp2
   go_ret
   exact ⟨rfl,hp4,(((hkA.trans hk1).trans hk2).trans hk3).trans hk4⟩
 ·rw [if_neg hk1] at h
  injection h with h;subst h
  have k1:((k:Int) == 1)=false:=by rw [← Bool.not_eq_true,beq_iff_eq];omega
  have HF:=Lib.hid (fun w hp=>pfail_any E hE 22 st w hp)
  clear hk1 hHI ex ih hn
  by_cases hcl:st.clause=true
  ·have HR:=HR hcl
   have hc:=Lib.hid hcl
   clear hcl
   go_enter Tryz.func320,Tryz.ntmps320
   obtain ⟨d0,_,_,_,_,_⟩:=hp.cells
   go_wp2_with (go_at_call 146;refine (HP.out w hp).mono ?_)
   rintro e w0 ⟨rfl,hp0,hk0⟩
   clear d0
   have hT0:=TokAt.new w0 k (.string ⟨x.toArray⟩) (.string ⟨y.toArray⟩) (.int .i64 q)
   have hpA:=hp0.later (below_new w0 (.cells #[.int .i64 k,.string ⟨x.toArray⟩,.string ⟨y.toArray⟩,.int .i64 q] 80))
   have hkA:=hk0.trans (Kp.of (below_new w0 (.cells #[.int .i64 k,.string ⟨x.toArray⟩,.string ⟨y.toArray⟩,.int .i64 q] 80)) hp0.B_le)
   go_wp2_with (go_at_call 83;refine (HO.out _ hpA).mono ?_)
   rintro e w1 ⟨rfl,hp1,hk1⟩
   have hT1:=hT0.kp hk1
   have t1:=hT1.cell
   go_wp2_with (go_at_call 138;refine (HX.out w1 hp1).mono ?_)
   rintro e w2 ⟨rfl,hp2,hk2⟩
   clear t1
   have hT2:=hT1.kp hk2
   obtain ⟨_,_,c2,_,_,_⟩:=hp2.cells
   rw [hc.out] at c2
   go_wp2_with (go_at_call 138;refine (HR.out w2 hp2).mono ?_)
   rintro e w3 ⟨rfl,hp3,hk3⟩
   clear c2
   have hT3:=hT2.kp hk3
   go_wp2_with (go_at_call 138;refine (HY.out w3 hp3).mono ?_)
   rintro e w4 ⟨rfl,hp4,hk4⟩
   have hT4:=hT3.kp hk4
   have t4:=hT4.cell
   go_wp2_with (go_at_call 139;refine (HF.out w4 hp4).mono ?_)
   rintro e w5 ⟨rfl,hp5,hk5⟩
   go_wp2
   go_ret
   exact ⟨rfl,hp5,((((hkA.trans hk1).trans hk2).trans hk3).trans hk4).trans hk5⟩
  ·have hc:=Lib.hid (eq_false_of_ne_true hcl)
   clear hcl HR
   go_enter Tryz.func320,Tryz.ntmps320
   obtain ⟨d0,_,_,_,_,_⟩:=hp.cells
   go_wp2_with (go_at_call 146;refine (HP.out w hp).mono ?_)
   rintro e w0 ⟨rfl,hp0,hk0⟩
   clear d0
   have hT0:=TokAt.new w0 k (.string ⟨x.toArray⟩) (.string ⟨y.toArray⟩) (.int .i64 q)
   have hpA:=hp0.later (below_new w0 (.cells #[.int .i64 k,.string ⟨x.toArray⟩,.string ⟨y.toArray⟩,.int .i64 q] 80))
   have hkA:=hk0.trans (Kp.of (below_new w0 (.cells #[.int .i64 k,.string ⟨x.toArray⟩,.string ⟨y.toArray⟩,.int .i64 q] 80)) hp0.B_le)
   go_wp2_with (go_at_call 83;refine (HO.out _ hpA).mono ?_)
   rintro e w1 ⟨rfl,hp1,hk1⟩
   have hT1:=hT0.kp hk1
   have t1:=hT1.cell
   go_wp2_with (go_at_call 138;refine (HX.out w1 hp1).mono ?_)
   rintro e w2 ⟨rfl,hp2,hk2⟩
   clear t1
   have hT2:=hT1.kp hk2
   obtain ⟨_,_,c2,_,_,_⟩:=hp2.cells
   rw [hc.out] at c2
   go_wp2_with (go_at_call 138;refine (HY.out w2 hp2).mono ?_)
   rintro e w3 ⟨rfl,hp3,hk3⟩
   clear c2
   have hT3:=hT2.kp hk3
   have t3:=hT3.cell
   go_wp2_with (go_at_call 139;refine (HF.out w3 hp3).mono ?_)
   rintro e w4 ⟨rfl,hp4,hk4⟩
   go_wp2
   go_ret
   exact ⟨rfl,hp4,(((hkA.trans hk1).trans hk2).trans hk3).trans hk4⟩
end Go.Proofs.YtbodlpoomfefcaaGreatDoor

namespace Go.Proofs.YtbodlpoomfefcaaGreatDoor
open Go.RowKit Go
def GPost (l:List (List UInt8))(w:World)(e:Ending)(w':World):Prop:=∃ b n,e=.returned (.slice (some ⟨b,0,none⟩) n n)∧StrsAt w' (.slice (some ⟨b,0,none⟩) n n) l∧Below w.heap.size w w'
theorem strs_new (w:World)(bs:List ByteArray):StrsAt (w.alloc (.cells (bs.map Value.string).toArray 9)) (.slice (some ⟨w.heap.size,0,none⟩) bs.length bs.length) (bs.map (·.data.toList)):=by
 refine ⟨w.heap.size,0,bs.length,by simp,by simp,fun j hj=>?_⟩
 rw [Lib.cell_of_heap (heap_alloc_new _ _)]
 simp only [List.length_map] at hj
 simp [hj]
theorem lsigns_any (l:Nat)(hl:l≤4)(w:World) :
  Calls Tryz.prog 281 #[.int .i64 l] w (GPost (signsF l) w):=by
 have hc:l=0∨l=1∨l=2∨l=3∨l=4:=by omega
 rcases hc with rfl|rfl|rfl|rfl|rfl <;>
 ·go_enter Tryz.func281,Tryz.ntmps281
  go_wp2
  go_ret
  first
   | exact ⟨_,_,rfl,strs_new w [⟨#[124,124]⟩],below_new _ _⟩
   | exact ⟨_,_,rfl,strs_new w [⟨#[38,38]⟩],below_new _ _⟩
   | exact ⟨_,_,rfl,strs_new w [⟨#[61]⟩,⟨#[60,62]⟩,⟨#[60]⟩,⟨#[60,61]⟩,⟨#[62]⟩,⟨#[62,61]⟩],below_new _ _⟩
   | exact ⟨_,_,rfl,strs_new w [⟨#[43]⟩,⟨#[45]⟩],below_new _ _⟩
   | exact ⟨_,_,rfl,strs_new w [⟨#[42]⟩,⟨#[47]⟩,⟨#[37]⟩],below_new _ _⟩
def LoopAt (E:PEnv)(l nest:Nat)(r:Int × PSt)(w:World)(g k:Nat)(av:Value)(wr:World):Prop :=
 ∃ (a:Int) (s:PSt),av=.int .i64 a∧k≤g∧run E.toks E.depth k (.loop l nest a) s=some r∧PW E s wr∧Kp E.B w wr
theorem signs_len (l:Nat):(signsF l).length≤1000:=by
 match l with
 | 0=>decide
 | 1=>decide
 | 2=>decide
 | 3=>decide
 | n+4=>simp [signsF]
theorem next_v (E:PEnv)(hE:E.ok)(v:Value)(l:List (List UInt8))(st:PSt)(x:Bool)(hx:nextF E.toks st l=x)(hl:l.length≤1000)(w:World)(h:PW E st w)(hv:StrsAt w v l) :
  Calls Tryz.prog 138 #[.pointer (some ⟨E.pb,0,none⟩),v] w (NPost E st x w):=by
 subst hx
 refine (next_any E v l st w h hv hE.1 hE.2.1 hl).mono ?_
 rintro e w' ⟨rfl,hb⟩
 exact ⟨rfl,h.later hb,Kp.of hb h.B_le⟩
theorem row_step (E:PEnv)(hE:E.ok)(g:Nat)(ih:∀ g',g'≤g→AllT E g')(l nest:Nat)(st:PSt)(r:Int × PSt)(w:World)(h:run E.toks E.depth (g+1) (.row l nest) st=some r)(hp:PW E st w)(hn:r.2.nodes.length+1≤1099511627776)(hnest:l≤4∧nest≤E.depth) :
  Calls Tryz.prog 253 #[.pointer (some ⟨E.pb,0,none⟩),.int .i64 l,.int .i64 nest] w (PPost E r w):=by
 have hdep:=hE.2.2
 rw [run] at h
 obtain ⟨a,h0,h⟩:=Option.bind_eq_some_iff.1 h
 have n1:=nodes_le (run_ext E.toks E.depth g _ _ _ h) hn
 have HP:=Lib.hid (fun w hp=>ih g (Nat.le_refl _) _ _ _ w h0 hp n1 hnest)
 have IH:=Lib.hid ih
 have H0:=Lib.hid h
 have HN0:=Lib.hid hn
 clear h h0 n1 ih hn
 obtain ⟨hl,hnest⟩:=hnest
 go_enter Tryz.func253,Tryz.ntmps253
 go_wp2_with (go_at_call 280;refine (HP.out w hp).mono ?_)
 rintro e w1 ⟨rfl,hp1,hk1⟩
 go_wp2
 go_loopg [7] g (fun k av wr=>LoopAt E l nest r w g k av wr)
 case atStart=>exact ⟨_,_,rfl,Nat.le_refl _,H0.out,hp1,hk1⟩
 case round =>
  obtain ⟨a',s,rfl,hle,hr,hps,hks⟩:=hrel
  cases gk with
  | zero=>rw [run] at hr;cases hr
  | succ k =>
   rw [run] at hr
   by_cases hf:s.fE=0
   ·have HO:=Lib.hid (ok_yes E s hf)
    by_cases hx:nextF E.toks s (signsF l)=true
    ·rw [if_pos ⟨hf,hx⟩] at hr
     have HX:=Lib.hid (fun w hp v=>next_v E hE v _ s true hx (signs_len l) w hp)
     obtain ⟨b,h1,hr⟩:=Option.bind_eq_some_iff.1 hr
     have nb:b.2.nodes.length+1≤1099511627776:=by
      by_cases l2:l=2
      ·rw [if_pos l2] at hr
       injection hr with hr
       subst hr
       exact nodes_le (nodeM_ext _ _ _) HN0.out
      ·rw [if_neg l2] at hr
       exact nodes_le ((nodeM_ext _ _ _).trans (run_ext E.toks E.depth k _ _ _ hr)) HN0.out
     have n2:=nodes_le (run_ext E.toks E.depth k _ _ _ h1) nb
     have n1:=nodes_le (leafM_ext _ _) n2
     have HL:=Lib.hid (fun w hp=>pleaf_any E s w hp hE.1 hE.2.1 n1)
     have HQ:=Lib.hid (fun w hp=>IH.out k (by omega) _ _ _ w h1 hp nb ⟨hl,hnest⟩)
     have HN:=Lib.hid (fun w hp=>node_lit E 10 [a',(leafM E.toks s).1,b.1] 3 _ b.2 w hp rfl rfl (by omega) nb)
     clear h1 nb n1 n2 hf hx
     by_cases l2:l=2
     ·rw [if_pos l2] at hr
      injection hr with hr
      have HR:=Lib.hid hr
      have k2:((l:Int) == 2)=true:=by rw [beq_iff_eq];omega
      clear hr l2
      go_wp2_with (go_at_call 83;refine (HO.out _ hps).mono ?_)
      rintro e v1 ⟨rfl,hpw1,hkw1⟩
      go_wp2_with (go_at_call 281;refine (lsigns_any l hl _).mono ?_)
      rintro e v2 ⟨sb,sn,rfl,hsv,hbw2⟩
      have hpw2:=hpw1.later hbw2
      go_wp2_with (go_at_call 138;refine (HX.out _ hpw2 _ hsv).mono ?_)
      rintro e v3 ⟨rfl,hpw3,hkw3⟩
      clear hsv
      obtain ⟨d0,_,_,_,_,_⟩:=hpw3.cells
      go_wp2_with (go_at_call 140;refine (HL.out _ hpw3).mono ?_)
      rintro e v4 ⟨rfl,hpw4,hkw4⟩
      clear d0
      go_wp2_with (go_at_call 280;refine (HQ.out _ hpw4).mono ?_)
      rintro e v5 ⟨rfl,hpw5,hkw5⟩
      go_wp2_with (go_at_call 88;refine (HN.out _ hpw5).mono ?_)
      rintro e v6 ⟨rfl,hpw6,hkw6⟩
      go_wp2
      go_ret
      refine ⟨?_,?_,((((((hks.trans hkw1).trans (Kp.of hbw2 hpw1.B_le)).trans hkw3).trans hkw4).trans hkw5).trans hkw6)⟩
      ·rw [← HR.out];rfl
      ·rw [← HR.out];exact hpw6
     ·rw [if_neg l2] at hr
      have HR:=Lib.hid hr
      have k2:((l:Int) == 2)=false:=by rw [← Bool.not_eq_true,beq_iff_eq];omega
      clear hr l2
      go_wp2_with (go_at_call 83;refine (HO.out _ hps).mono ?_)
      rintro e v1 ⟨rfl,hpw1,hkw1⟩
      go_wp2_with (go_at_call 281;refine (lsigns_any l hl _).mono ?_)
      rintro e v2 ⟨sb,sn,rfl,hsv,hbw2⟩
      have hpw2:=hpw1.later hbw2
      go_wp2_with (go_at_call 138;refine (HX.out _ hpw2 _ hsv).mono ?_)
      rintro e v3 ⟨rfl,hpw3,hkw3⟩
      clear hsv
      obtain ⟨d0,_,_,_,_,_⟩:=hpw3.cells
      go_wp2_with (go_at_call 140;refine (HL.out _ hpw3).mono ?_)
      rintro e v4 ⟨rfl,hpw4,hkw4⟩
      clear d0
      go_wp2_with (go_at_call 280;refine (HQ.out _ hpw4).mono ?_)
      rintro e v5 ⟨rfl,hpw5,hkw5⟩
      go_wp2_with (go_at_call 88;refine (HN.out _ hpw5).mono ?_)
      rintro e v6 ⟨rfl,hpw6,hkw6⟩
      go_wp2
      go_roundg k
      case measure=>omega
      case rel=>exact ⟨_,_,rfl,by omega,HR.out,hpw6,((((((hks.trans hkw1).trans (Kp.of hbw2 hpw1.B_le)).trans hkw3).trans hkw4).trans hkw5).trans hkw6)⟩
    ·rw [if_neg (fun q=>hx q.2)] at hr
     injection hr with hr
     have HX:=Lib.hid (fun w hp v=>next_v E hE v _ s false (eq_false_of_ne_true hx) (signs_len l) w hp)
     have HR:=Lib.hid hr
     clear hr hf hx
     go_wp2_with (go_at_call 83;refine (HO.out _ hps).mono ?_)
     rintro e v1 ⟨rfl,hpw1,hkw1⟩
     go_wp2_with (go_at_call 281;refine (lsigns_any l hl _).mono ?_)
     rintro e v2 ⟨sb,sn,rfl,hsv,hbw2⟩
     have hpw2:=hpw1.later hbw2
     go_wp2_with (go_at_call 138;refine (HX.out _ hpw2 _ hsv).mono ?_)
     rintro e v3 ⟨rfl,hpw3,hkw3⟩
     clear hsv
     go_wp2
     go_ret
     refine ⟨?_,?_,(((hks.trans hkw1).trans (Kp.of hbw2 hpw1.B_le)).trans hkw3)⟩
     ·rw [← HR.out];rfl
     ·rw [← HR.out];exact hpw3
   ·rw [if_neg (fun q=>hf q.1)] at hr
    injection hr with hr
    have HO:=Lib.hid (ok_no E s hf)
    have HR:=Lib.hid hr
    clear hr hf
    go_wp2_with (go_at_call 83;refine (HO.out _ hps).mono ?_)
    rintro e v1 ⟨rfl,hpw1,hkw1⟩
    go_wp2
    go_ret
    refine ⟨?_,?_,hks.trans hkw1⟩
    ·rw [← HR.out];rfl
    ·rw [← HR.out];exact hpw1
def PR (E:PEnv)(R:List Nat)(st:PSt)(w:World):Prop:=PW { E with R:=R } st w
theorem PR.drop {E:PEnv}{R:List Nat}{st:PSt}{w:World}(h:PR E R st w)(hR:∀ r∈E.R,r∈R):PW E st w:=by
 obtain ⟨h1,⟨b1,nv,l,b2,b3,b4,b5⟩,h3,h4,h5,h6⟩:=h
 exact ⟨h1,⟨b1,nv,l,b2,b3,b4,fun p hp=>⟨(b5 p hp).1,fun b off n cap hv hn hb=>(b5 p hp).2 b off n cap hv hn (hR b hb)⟩⟩,h3,h4,h5,fun r hr=>h6 r (hR r hr)⟩
theorem PW.pr {E:PEnv}{st:PSt}{w:World}(h:PW E st w):PR E E.R st w:=h
def PR0 (E:PEnv)(R:List Nat)(st:PSt)(w:World):Prop :=
 w.heap[E.pb]?=some (.cells #[.pointer (some ⟨E.bb,0,none⟩),.int .i64 E.depth,.bool st.clause,.int .i64 st.fE,.int .i64 st.fAt] 156 (0,0)) ∧
  BW R E.B E.bb E.tv st.used st.nodes w∧Rec E.B w E.tv 4 tokCells E.toks∧E.B≤E.pb∧st.used≤E.toks.length
theorem PR.less {E:PEnv}{R:List Nat}{st:PSt}{w:World}(h:PR E R st w):PR0 E R st w:=⟨h.1,h.2.1,h.2.2.1,h.2.2.2.1,h.2.2.2.2.1⟩
theorem PR0.full {E:PEnv}{R:List Nat}{st:PSt}{w:World}(h:PR0 E R st w)(hR:∀ r∈R,r<w.heap.size):PR E R st w:=⟨h.1,h.2.1,h.2.2.1,h.2.2.2.1,h.2.2.2.2,hR⟩
theorem PR0.more {E:PEnv}{R:List Nat}{st:PSt}{w:World}(h:PR0 E R st w)(g:Nat)(hg:w.heap.size≤g):PR0 E (g :: R) st w:=by
 obtain ⟨h1,⟨b1,nv,l,b2,b3,b4,b5⟩,h3,h4,h5⟩:=h
 refine ⟨h1,⟨b1,nv,l,b2,b3,b4,fun p hp=>⟨(b5 p hp).1,fun b off n cap hv hn q=>?_⟩⟩,h3,h4,h5⟩
 rcases List.mem_cons.1 q with q|q
 ·obtain ⟨ao,cap',hv',_,hf⟩:=(b5 p hp).1
  rw [hv] at hv'
  simp only [Value.slice.injEq] at hv'
  obtain ⟨ha,hl,_⟩:=hv'
  obtain ⟨b',off',cs,fr,he,hh,_⟩:=hf (by omega)
  rw [← ha] at he
  simp only [Option.some.injEq,Addr.mk.injEq] at he
  have:=(Array.getElem?_eq_some_iff.1 hh).1
  omega
 ·exact (b5 p hp).2 b off n cap hv hn q
theorem PR.take {E:PEnv}{R:List Nat}{st:PSt}{w w':World}(h:PR E R st w)(hb:Below w.heap.size w w')(g:Nat)(hg:w.heap.size≤g)(hg':g<w'.heap.size):PR E (g :: R) st w':=by
 obtain ⟨h1,h2,h3,h4,h5⟩:=h.less.more g hg
 have hB:=PW.B_le (E:={ E with R:=R }) h
 have hlt:=(Array.getElem?_eq_some_iff.1 h1).1
 refine ⟨?_,h2.later hb,h3.below (hb.mono hB),h4,h5,fun r hr=>?_⟩
 ·rw [hb.block E.pb hlt];exact h1
 ·rcases List.mem_cons.1 hr with rfl|hr
  ·exact hg'
  ·exact Nat.lt_of_lt_of_le (h.2.2.2.2.2 r hr) hb.size
theorem PR0.grown {E:PEnv}{R:List Nat}{st:PSt}{w w':World}(h:PR0 E R st w){base n:Nat}{v:Value}{xs:List Value}(ho:w.ownsRow base 3 1 v n xs)(hB:E.B≤base)(hv:∀ b,v.ownBlock=some b→b∈R)(hg:w.grownBy w' v.ownBlock):PR0 E R st w':=by
 obtain ⟨h1,⟨b1,nv,l,b2,b3,b4,b5⟩,h3,h4,h5⟩:=h
 have hlt:=(Array.getElem?_eq_some_iff.1 h1).1
 have hbel:Below E.B w w':=(Below.refl _ _).grown hg (by omega) (fun k hk=>by have:=(ho.lt k hk).1;omega)
 refine ⟨own_block ho hg h1 (by decide),⟨b1,nv,l,own_block ho hg b2 (by decide),b3,⟨b4.1,?_⟩,fun p hp=>?_⟩,h3.below hbel,h4,h5⟩
 ·rcases b4.2 with hn|⟨g,cap,cur,hv',hg',hh,hr⟩
  ·exact .inl hn
  ·exact .inr ⟨g,cap,cur,hv',hg',own_block ho hg hh (by decide),hr⟩
 ·refine ⟨?_,(b5 p hp).2⟩
  obtain ⟨ao,cap,hv',hc,hf⟩:=(b5 p hp).1
  refine ⟨ao,cap,hv',hc,fun h0=>?_⟩
  obtain ⟨b,off,cs,fr,ha,hh,hj⟩:=hf h0
  refine ⟨b,off,cs,fr,ha,?_,hj⟩
  subst ha
  rw [hg.block b (Array.getElem?_eq_some_iff.1 hh).1]
  ·exact hh
  ·intro q
   have hout:=(b5 p hp).2
   rw [hv'] at hout
   exact hout b off _ cap rfl h0 (hv b q.symm)
theorem PR.append {E:PEnv}{R:List Nat}{st:PSt}{w w':World}(h:PR E R st w){base n H:Nat}{g:Nat}{v:Value}{xs:List Value}(ho:w.ownsRow base 3 1 v n xs)(hB:E.B≤base)(hv:∀ b,v.ownBlock=some b→b∈R)
  (hg:w.grownBy w' v.ownBlock) (hor:v.ownBlock=some g∨g=H) (hH:w.heap.size=H) (hlt:g<w'.heap.size) :
  ∃ R',(∀ r∈R,r∈R')∧g∈R'∧PR E R' st w':=by
 have hsz:w.heap.size≤w'.heap.size:=((Below.refl 0 w).grown hg (Nat.zero_le _) (fun k _=>Nat.zero_le _)).size
 have hb6:=h.2.2.2.2.2
 rcases hor with hor|rfl
 ·exact ⟨R,fun r hr=>hr,hv _ hor,(h.less.grown ho hB hv hg).full fun r hr=>Nat.lt_of_lt_of_le (hb6 r hr) hsz⟩
 ·refine ⟨g :: R,fun r hr=>List.mem_cons_of_mem _ hr,List.mem_cons_self,((h.less.more g (by omega)).grown ho hB (fun b hb=>List.mem_cons_of_mem _ (hv b hb)) hg).full fun r hr=>?_⟩
  rcases List.mem_cons.1 hr with rfl|hr
  ·exact hlt
  ·exact Nat.lt_of_lt_of_le (hb6 r hr) hsz
theorem own_kp {B base n:Nat}{w w':World}{v:Value}{xs:List Value}(h:w.ownsRow base 3 1 v n xs)(hk:Kp B w w'):w'.ownsRow base 3 1 v n xs:=by
 refine ⟨h.1,?_⟩
 rcases h.2 with hn|⟨g,cap,cur,hv,hg,hh,hr⟩
 ·exact .inl hn
 ·exact .inr ⟨g,cap,cur,hv,hg,hk.2 _ _ _ _ hh (by decide) (by decide) (by decide),hr⟩
theorem Kp.grown {B base n:Nat}{w0 w w':World}{v:Value}{xs:List Value}(hk:Kp B w0 w)(ho:w.ownsRow base 3 1 v n xs)(hb:w0.heap.size≤base)(hB:B≤w0.heap.size)(hg:w.grownBy w' v.ownBlock):Kp B w0 w':=by
 refine ⟨hk.1.grown hg (by have:=hk.size;omega) (fun k hkk=>by have:=(ho.lt k hkk).1;omega),fun k cs T fr h0 h1 h2 h3=>?_⟩
 have hkk:=(Array.getElem?_eq_some_iff.1 h0).1
 rw [hg.block k (by have:=hk.size;omega) (fun q=>by have:=(ho.lt k q.symm).1;omega)]
 exact hk.2 k cs T fr h0 h1 h2 h3
end Go.Proofs.YtbodlpoomfefcaaGreatDoor
