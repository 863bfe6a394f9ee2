/- Walks and plain laws: ParseW16, ParseW17, ParseW18, ParseW19, ParseW20, StepCall. -/
import Derived.Test.YtbodlpoomfefcaaGreatDoorA12
import Derived.Lib.SliceRun
set_option maxHeartbeats 16000000
set_option maxRecDepth 100000
set_option linter.unusedVariables false
set_option linter.unusedSimpArgs false
namespace Go.Proofs.YtbodlpoomfefcaaGreatDoor
open Go.RowKit Go
theorem ints_news {w:World}{b off:Nat}{cs:Array Value}{fr:Nat × Nat}{ks:List Int}(hh:w.heap[b]?=some (.cells cs 3 fr))(hj:∀ j,(h:j<ks.length)→cs[off+j]?=some (.int .i64 ks[j])) :
  ∀ j u,(ks.map (Value.int .i64))[j]?=some u→w.cell? ((⟨b,off,none⟩:Addr).add j)=some u:=fun j u hu=>by
 obtain ⟨h1,h2⟩:=List.getElem?_eq_some_iff.1 hu
 rw [List.length_map] at h1
 have hadd:(⟨b,off,none⟩:Addr).add j=⟨b,off+j,none⟩:=by unfold Addr.add;split <;> simp_all
 rw [hadd,cell_of_row w b (off+j) cs _ fr hh,hj j h1,← h2,List.getElem_map]
theorem KRow.kids {E:PEnv}{W0:World}{R:List Nat}{v:Value}{ks kk:List Int}{s:PSt}{w:World}(h:KRow E W0 R v ks s w)(e:ks=kk):IntsAt w v kk:=by rw [← e];exact h.node
theorem KRow.row {E:PEnv}{W0:World}{R:List Nat}{v:Value}{ks:List Int}{s:PSt}{w:World}{n:Nat}(h:KRow E W0 R v ks s w)(e:ks.length=n):w.ownsRow W0.heap.size 3 1 v n (ks.map (Value.int .i64)):=by rw [← e];exact h.1
theorem name_two (E:PEnv)(nest:Nat){w w':World}{R:List Nat}{v:Value}{ks:List Int}{s:PSt}(K:KRow E (nameW E nest w) R v ks s w'):w'.cell? ⟨w.heap.size,0,none⟩=some (.pointer (some ⟨E.pb,0,none⟩))∧w'.cell? ⟨E.pb,0,none⟩=some (.pointer (some ⟨E.bb,0,none⟩)) :=
 ⟨nameW_p E nest K.2.2.2.2,(PW.cells K.2.2.2.1).1⟩
theorem name_call (E:PEnv)(hE:E.ok)(g:Nat)(ih:∀ R,AllT { E with R:=R } g)(nest:Nat)(st:PSt)(r:Int × PSt)(w:World)(h:run E.toks E.depth (g+1) (.name nest) st=some r)(hp:PW E st w)(hn:r.2.nodes.length+1≤1099511627776)(hnest:nest≤E.depth)
  (hcl:(leafM E.toks st).2.clause=false) (hx:nextF E.toks (leafM E.toks st).2 [[46],[40]]=true) :
  Calls Tryz.prog 322 #[.pointer (some ⟨E.pb,0,none⟩),.int .i64 nest] w (PPost E r w):=by
 have hdep:=hE.2.2
 obtain ⟨i0,hi,hz0,hz1,hz2⟩:=info_parts Tryz.infoInt
 rw [run,if_neg (by rw [hcl,hx];simp)] at h
 have hA:PW E st (nameW E nest w):=hp.later (nameW_below E nest w)
 have hkA:Kp E.B w (nameW E nest w):=Kp.of (nameW_below E nest w) hp.B_le
 have hBW:E.B≤(nameW E nest w).heap.size:=hA.B_le
 obtain ⟨l,h1,h⟩:=Option.bind_eq_some_iff.1 h
 injection h with h
 subst h
 have hmf:∀ (fn:Fn) (first cap:Array Value) (w:World),(Instr.makeFunc fn first cap).run Tryz.prog w=.ok (.func fn first cap) w:=fun _ _ _ _=>rfl
 have n6:=nodes_le (nodeM_ext _ _ _) hn
 have n5:=nodes_le (mustM_ext _ _ _) n6
 have hlx:=listM_ext E.toks _ (fun s k hk=>run_ext E.toks E.depth g _ _ _ hk) _ _ h1
 have n4:=nodes_le hlx n5
 have n3:=nodes_le (mustM_ext _ _ _) n4
 have n2:=nodes_le (qualM_ext E.toks (leafM E.toks st)) n3
 have n1:=nodes_le (leafM_ext _ _) n2
 have hll:=listM_len _ _ _ _ h1
 have HL:=Lib.hid (fun w hp=>pleaf_any E st w hp hE.1 hE.2.1 n1)
 have hc:=Lib.hid hcl
 clear hcl
 by_cases hd:nextF E.toks (leafM E.toks st).2 [[46]]=true
 ·have hqm:qualM E.toks (leafM E.toks st)=([(leafM E.toks st).1,(leafM E.toks (leafM E.toks st).2).1,(kindM E.toks 1 (leafM E.toks (leafM E.toks st).2).2).1],(kindM E.toks 1 (leafM E.toks (leafM E.toks st).2).2).2):=by rw [qualM,if_pos hd]
  clear hn hlx h
  rw [hqm] at h1 n3 ⊢
  dsimp only at h1 n3 ⊢
  have n2a:=nodes_le (kindM_ext _ _ _) n3
  generalize hkk:(_++[(mustM E.toks [[41]] l.2).1]:List Int)=kk
  have HKK:=Lib.hid hkk
  have HKL:Hid (kk.length≤1099511627776):=Lib.hid (by rw [← hkk];simp;omega)
  clear hkk
  clear hqm
  have hA':PW E st ((w.alloc (.cells #[.pointer (some ⟨E.pb,0,none⟩)] 94)).alloc (.cells #[.int .i64 nest] 3)):=hA
  obtain ⟨d0,_,_,_,_,_⟩:=hA'.cells
  go_enter Tryz.func322,Tryz.ntmps322
  go_wp2_with (go_at_call 140;refine (HL.out _ hA').mono ?_)
  rintro e w1 ⟨rfl,hp1,hk1'⟩
  have hk1:Kp E.B (nameW E nest w) w1:=hk1'
  clear d0 hk1' hA'
  have K1:=KRow.start (leafM E.toks st).1 hp1 hk1
  have p1:=nameW_p E nest K1.2.2.2.2
  obtain ⟨_,_,c1,_,_,_⟩:=PW.cells K1.2.2.2.1
  rw [hc.out] at c1
  have hXB:=next2_is { E with R:=w1.heap.size :: E.R } hE ⟨#[46]⟩ ⟨#[40]⟩ (leafM E.toks st).2 true hx _ K1.2.2.2.1
  rw [show (w1.alloc (.cells #[.int .i64 (leafM E.toks st).1] 3)).heap.size=w1.heap.size+1 by simp] at hXB
  have HXB:=Lib.hid hXB
  clear hXB
  go_wp2_with (go_at_call 138;refine HXB.out.mono ?_)
  rintro e w2 ⟨rfl,hq,hkq⟩
  have K2:=K1.call hq hkq
  have p2:=nameW_p E nest K2.2.2.2.2
  clear hq hkq c1 p1 K1 hp1 hk1 HXB
  have HC:=Lib.hid (next_is { E with R:=w1.heap.size :: E.R } hE ⟨#[46]⟩ (leafM E.toks st).2 true hd _ K2.2.2.2.1)
  go_wp2_with (go_at_call 138;refine HC.out.mono ?_)
  rintro e w3 ⟨rfl,hq,hkq⟩
  have K3:=K2.call hq hkq
  clear hq hkq HC
  have p3:=nameW_p E nest K3.2.2.2.2
  obtain ⟨d0,_,_,_,_,_⟩:=PW.cells K3.2.2.2.1
  clear p2 K2
  have K3d:KRow E (nameW E nest w) (w1.heap.size :: E.R) (.slice (some ⟨w1.heap.size,0,none⟩) 1 1) [(leafM E.toks st).1] (leafM E.toks st).2 w3.drew:=K3.call (PW.later K3.2.2.2.1 ((Below.refl _ _).drew)) (Kp.of ((Below.refl _ _).drew) K3.2.2.2.1.B_le)
  have HC1:=Lib.hid (pleaf_any { E with R:=w1.heap.size :: E.R } (leafM E.toks st).2 _ K3d.2.2.2.1 hE.1 hE.2.1 n2)
  have HC2:=Lib.hid (fun w hq=>kind_any { E with R:=w1.heap.size :: E.R } hE 1 (leafM E.toks (leafM E.toks st).2).2 w hq n2a)
  have HK3d:=Lib.hid K3d
  clear K3d
  go_wp2
  go_region_held3 (fun w'=>w'.cell? ⟨w.heap.size,0,none⟩=some (.pointer (some ⟨E.pb,0,none⟩))∧w'.cell? ⟨E.pb,0,none⟩=some (.pointer (some ⟨E.bb,0,none⟩))) (first|go_keep|exact p4|exact p5|exact p6)
   (first|(go_at_call 140;refine HC1.out.mono ?_;rintro e w4 ⟨rfl,hq4,hkq4⟩;have K4:=HK3d.out.call hq4 hkq4;have p4:=name_two E nest K4)|(go_at_call 89;refine (HC2.out _ hq4).mono ?_;rintro e w5 ⟨rfl,hq5,hkq5⟩;have K5:=K4.call hq5 hkq5;have p5:=name_two E nest K5)|((refine step_append_lies _ (by rfl) _ _ _ (by rfl) (nameW E nest w).heap.size 3 i0 _ 1 8 Tryz.underlying81 hi hz0 hz1 hz2 rfl (by omega) _ (1) _ (by rfl) (K5.lit _).1 ⟨w5.heap.size,0,none⟩ 2 2 [.int .i64 (leafM E.toks (leafM E.toks st).2).1,.int .i64 (kindM E.toks 1 (leafM E.toks (leafM E.toks st).2).2).1] (by rfl) (by rfl) (World.news_of_block (cs:=#[.int .i64 (leafM E.toks (leafM E.toks st).2).1,.int .i64 (kindM E.toks 1 (leafM E.toks (leafM E.toks st).2).2).1]) (t:=3) (fr:=(0,0)) (heap_alloc_new w5 _)) (by simp [Value.oneCell']) (by omega) (by unfold maxLen;omega) (by omega) (K5.lit _).2.2.2.2.size (w5.heap.size+1) (by simp) ?_;intro g6 cap6 w6 hown6 hgrow6 hat6 hlt6;obtain ⟨R6,K6⟩:=(K5.lit (.cells #[.int .i64 (leafM E.toks (leafM E.toks st).2).1,.int .i64 (kindM E.toks 1 (leafM E.toks (leafM E.toks st).2).2).1] 3)).app (news:=[(leafM E.toks (leafM E.toks st).2).1,(kindM E.toks 1 (leafM E.toks (leafM E.toks st).2).2).1]) hBW (by simp) hown6 hgrow6 hat6 (by simp) hlt6;have p6:=name_two E nest K6)))
  clear hown6 hgrow6 hat6 hlt6 p6 K5 K4 K3 p3 d0 p4 p5 HC1 HC2 HK3d hq4 hkq4 hq5 hkq5
  have p6:=nameW_p E nest K6.2.2.2.2
  have HC:=Lib.hid (must_one { E with R:=R6 } hE ⟨#[40]⟩ (kindM E.toks 1 (leafM E.toks (leafM E.toks st).2).2).2 _ K6.2.2.2.1 n3)
  go_wp2_with (go_at_call 141;refine HC.out.mono ?_)
  rintro e w7 ⟨rfl,hq,hkq⟩
  have K7:=K6.call hq hkq
  clear hq hkq HC
  clear p6 K6
  have hL8:=K7.lit (.cells #[.int .i64 (mustM E.toks [[40]] (kindM E.toks 1 (leafM E.toks (leafM E.toks st).2).2).2).1] 3)
  have hnw8:=heap_alloc_new w7 (.cells #[.int .i64 (mustM E.toks [[40]] (kindM E.toks 1 (leafM E.toks (leafM E.toks st).2).2).2).1] 3)
  go_wp2_with (at_builtin;refine wpList_append_lies _ rfl _ _ 81 rfl (nameW E nest w).heap.size 3 i0 (.int .i64 0) 1 8 Tryz.underlying81 hi hz0 hz1 hz2 rfl (by decide) _ (3) _ rfl hL8.1 ⟨w7.heap.size,0,none⟩ 1 1 [.int .i64 (mustM E.toks [[40]] (kindM E.toks 1 (leafM E.toks (leafM E.toks st).2).2).2).1] rfl rfl ?c1 ?c2 ?c3 ?c4 ?c5 ?c6 _ rfl ?_)
  case c1=>exact World.news_of_block (cs:=#[.int .i64 (mustM E.toks [[40]] (kindM E.toks 1 (leafM E.toks (leafM E.toks st).2).2).2).1]) (t:=3) (fr:=(0,0)) hnw8
  case c2=>simp [Value.oneCell']
  case c3=>omega
  case c4=>unfold maxLen;omega
  case c5=>omega
  case c6=>exact hL8.2.2.2.2.size
  intro g8 cap8 w8 hown8 hgrow8 hat8 hlt8
  obtain ⟨R8,K8⟩:=hL8.app (news:=[(mustM E.toks [[40]] (kindM E.toks 1 (leafM E.toks (leafM E.toks st).2).2).2).1]) hBW (by simp) hown8 hgrow8 hat8 (by simp) hlt8
  clear hL8 hnw8 hown8 hgrow8 hat8 hlt8 K7
  have p8:=nameW_p E nest K8.2.2.2.2
  have HLs:=Lib.hid (list_name { E with R:=R8 } hE (fun s=>run E.toks E.depth g (.expr (nest+1)) s) w.heap.size (w.heap.size+1) (mustM E.toks [[40]] (kindM E.toks 1 (leafM E.toks (leafM E.toks st).2).2).2).2 l w8 h1 K8.2.2.2.1 n5 (fun s k hk=>run_ext E.toks E.depth g _ _ _ hk) (fun R s k w' hk hR hkk hnk=>name1_any { E with R:=R } g nest _ _ (ih R) s k w' hk hR hnk hnest hdep (nameW_p E nest (K8.2.2.2.2.trans hkk)) (nameW_n E nest (K8.2.2.2.2.trans hkk))))
  clear h1
  go_wp2_with (go_at_call 142;refine HLs.out.mono ?_)
  rintro e w9 ⟨v,rfl,hiv,hnil,hq,hkq⟩
  have K9:=K8.call hq hkq
  clear hq hkq HLs p8 K8
  by_cases hl0:l.1=[]
  ·obtain rfl:=hnil hl0
   go_wp2_with (at_builtin;refine wpList_append_own_none rfl _ _ 81 rfl (nameW E nest w).heap.size 3 i0 1 Tryz.underlying81 hi _ (4) _ rfl K9.1 rfl ?_)
   go_wp2
   have HKE:=Lib.hid (show [(leafM E.toks st).1]++[(leafM E.toks (leafM E.toks st).2).1,(kindM E.toks 1 (leafM E.toks (leafM E.toks st).2).2).1]++[(mustM E.toks [[40]] (kindM E.toks 1 (leafM E.toks (leafM E.toks st).2).2).2).1]++[(mustM E.toks [[41]] l.2).1]=kk by rw [← HKK.out,hl0] <;> rfl)
   have Kd:=K9.call (PW.later K9.2.2.2.1 ((Below.refl _ _).drew)) (Kp.of ((Below.refl _ _).drew) K9.2.2.2.1.B_le)
   have HC1:=Lib.hid (must_one { E with R:=R8 } hE ⟨#[41]⟩ l.2 w9.drew Kd.2.2.2.1 n5)
   have HC2:=Lib.hid (fun R w v hq hv=>pnode_any { E with R:=R } 13 v kk (mustM E.toks [[41]] l.2).2 w hq hv HKL.out n6)
   have pd:=name_two E nest Kd
   have Ks:=K9.lit (.cells #[.string ⟨#[41]⟩] 9)
   have ps:=name_two E nest (Ks.call (PW.later Ks.2.2.2.1 ((Below.refl _ _).drew)) (Kp.of ((Below.refl _ _).drew) Ks.2.2.2.1.B_le))
   clear Ks
   have HKd:=Lib.hid Kd
   clear Kd
   go_region_held3 (fun w'=>w'.cell? ⟨w.heap.size,0,none⟩=some (.pointer (some ⟨E.pb,0,none⟩))∧w'.cell? ⟨E.pb,0,none⟩=some (.pointer (some ⟨E.bb,0,none⟩))) (first|go_keep|exact pd|exact ps|exact p11|exact p12|exact p13)
   (first|(go_at_call 141;refine HC1.out.mono ?_;rintro e w11 ⟨rfl,hq11,hkq11⟩;have K11:=HKd.out.call hq11 hkq11;have p11:=name_two E nest K11)|((refine step_append_lies _ (by rfl) _ _ _ (by rfl) (nameW E nest w).heap.size 3 i0 _ 1 8 Tryz.underlying81 hi hz0 hz1 hz2 rfl (by omega) _ (4) _ (by rfl) (KRow.row (K11.lit _) (by simp <;> omega)) ⟨w11.heap.size,0,none⟩ 1 1 [.int .i64 (mustM E.toks [[41]] l.2).1] (by rfl) (by rfl) (World.news_of_block (cs:=#[.int .i64 (mustM E.toks [[41]] l.2).1]) (t:=3) (fr:=(0,0)) (heap_alloc_new w11 _)) (by simp [Value.oneCell']) (by omega) (by unfold maxLen;omega) (by omega) (K11.lit _).2.2.2.2.size (w11.heap.size+1) (by simp) ?_;intro g12 cap12 w12 hown12 hgrow12 hat12 hlt12;obtain ⟨R12,K12⟩:=(K11.lit (.cells #[.int .i64 (mustM E.toks [[41]] l.2).1] 3)).app (news:=[(mustM E.toks [[41]] l.2).1]) hBW (by simp <;> omega) hown12 hgrow12 hat12 (by simp) hlt12;have p12:=name_two E nest K12))|(go_at_call 88;refine (HC2.out _ _ _ K12.2.2.2.1 (K12.kids HKE.out)).mono ?_;rintro e w13 ⟨rfl,hq13,hkq13⟩;have K13:=K12.call hq13 hkq13;have p13:=name_two E nest K13))
   go_wp2
   go_ret
   exact ⟨rfl,PR.drop K13.2.2.2.1 K13.2.2.1,hkA.trans K13.2.2.2.2⟩
  ·have hpos:0<l.1.length:=List.length_pos_iff.2 hl0
   obtain ⟨ao,capv,rfl,hcv,hf⟩:=hiv
   obtain ⟨vb,vo,vcs,vfr,rfl,hh,hj⟩:=hf hpos
   clear hnil hl0 hf
   go_wp2_with (at_builtin;refine wpList_append_lies _ rfl _ _ 81 rfl (nameW E nest w).heap.size 3 i0 (.int .i64 0) 1 8 Tryz.underlying81 hi hz0 hz1 hz2 rfl (by decide) _ (4) _ rfl K9.1 ⟨vb,vo,none⟩ l.1.length capv (l.1.map (Value.int .i64)) rfl (by simp) ?c1 ?c2 ?c3 ?c4 ?c5 ?c6 _ rfl ?_)
   case c1=>exact ints_news hh hj
   case c2=>intro u hu;obtain ⟨y,_,rfl⟩:=List.mem_map.1 hu;rfl
   case c3=>exact hpos
   case c4=>unfold maxLen;omega
   case c5=>omega
   case c6=>exact K9.2.2.2.2.size
   intro g10 cap10 w10 hown10 hgrow10 hat10 hlt10
   obtain ⟨R10,K10⟩:=K9.app (news:=l.1) hBW (by simp <;> omega) hown10 hgrow10 hat10 (by simp) hlt10
   clear hown10 hgrow10 hat10 hlt10 K9 hh hj
   have p10:=nameW_p E nest K10.2.2.2.2
   clear p10
   go_wp2
   have HKE:=Lib.hid (show [(leafM E.toks st).1]++[(leafM E.toks (leafM E.toks st).2).1,(kindM E.toks 1 (leafM E.toks (leafM E.toks st).2).2).1]++[(mustM E.toks [[40]] (kindM E.toks 1 (leafM E.toks (leafM E.toks st).2).2).2).1]++l.1++[(mustM E.toks [[41]] l.2).1]=kk by rw [← HKK.out] <;> rfl)
   have Kd:=K10.call (PW.later K10.2.2.2.1 ((Below.refl _ _).drew)) (Kp.of ((Below.refl _ _).drew) K10.2.2.2.1.B_le)
   have HC1:=Lib.hid (must_one { E with R:=R10 } hE ⟨#[41]⟩ l.2 w10.drew Kd.2.2.2.1 n5)
   have HC2:=Lib.hid (fun R w v hq hv=>pnode_any { E with R:=R } 13 v kk (mustM E.toks [[41]] l.2).2 w hq hv HKL.out n6)
   have pd:=name_two E nest Kd
   have Ks:=K10.lit (.cells #[.string ⟨#[41]⟩] 9)
   have ps:=name_two E nest (Ks.call (PW.later Ks.2.2.2.1 ((Below.refl _ _).drew)) (Kp.of ((Below.refl _ _).drew) Ks.2.2.2.1.B_le))
   clear Ks
   have HKd:=Lib.hid Kd
   clear Kd
   go_region_held3 (fun w'=>w'.cell? ⟨w.heap.size,0,none⟩=some (.pointer (some ⟨E.pb,0,none⟩))∧w'.cell? ⟨E.pb,0,none⟩=some (.pointer (some ⟨E.bb,0,none⟩))) (first|go_keep|exact pd|exact ps|exact p11|exact p12|exact p13)
   (first|(go_at_call 141;refine HC1.out.mono ?_;rintro e w11 ⟨rfl,hq11,hkq11⟩;have K11:=HKd.out.call hq11 hkq11;have p11:=name_two E nest K11)|((refine step_append_lies _ (by rfl) _ _ _ (by rfl) (nameW E nest w).heap.size 3 i0 _ 1 8 Tryz.underlying81 hi hz0 hz1 hz2 rfl (by omega) _ (4+l.1.length) _ (by rfl) (KRow.row (K11.lit _) (by simp <;> omega)) ⟨w11.heap.size,0,none⟩ 1 1 [.int .i64 (mustM E.toks [[41]] l.2).1] (by rfl) (by rfl) (World.news_of_block (cs:=#[.int .i64 (mustM E.toks [[41]] l.2).1]) (t:=3) (fr:=(0,0)) (heap_alloc_new w11 _)) (by simp [Value.oneCell']) (by omega) (by unfold maxLen;omega) (by omega) (K11.lit _).2.2.2.2.size (w11.heap.size+1) (by simp) ?_;intro g12 cap12 w12 hown12 hgrow12 hat12 hlt12;obtain ⟨R12,K12⟩:=(K11.lit (.cells #[.int .i64 (mustM E.toks [[41]] l.2).1] 3)).app (news:=[(mustM E.toks [[41]] l.2).1]) hBW (by simp <;> omega) hown12 hgrow12 hat12 (by simp) hlt12;have p12:=name_two E nest K12))|(go_at_call 88;refine (HC2.out _ _ _ K12.2.2.2.1 (K12.kids HKE.out)).mono ?_;rintro e w13 ⟨rfl,hq13,hkq13⟩;have K13:=K12.call hq13 hkq13;have p13:=name_two E nest K13))
   go_wp2
   go_ret
   exact ⟨rfl,PR.drop K13.2.2.2.1 K13.2.2.1,hkA.trans K13.2.2.2.2⟩
 ·have hqm:qualM E.toks (leafM E.toks st)=([(leafM E.toks st).1],(leafM E.toks st).2):=by rw [qualM,if_neg hd]
  clear hn hlx h
  rw [hqm] at h1 n3 ⊢
  dsimp only at h1 n3 ⊢
  generalize hkk:(_++[(mustM E.toks [[41]] l.2).1]:List Int)=kk
  have HKK:=Lib.hid hkk
  have HKL:Hid (kk.length≤1099511627776):=Lib.hid (by rw [← hkk];simp;omega)
  clear hkk
  clear hqm
  have hA':PW E st ((w.alloc (.cells #[.pointer (some ⟨E.pb,0,none⟩)] 94)).alloc (.cells #[.int .i64 nest] 3)):=hA
  obtain ⟨d0,_,_,_,_,_⟩:=hA'.cells
  go_enter Tryz.func322,Tryz.ntmps322
  go_wp2_with (go_at_call 140;refine (HL.out _ hA').mono ?_)
  rintro e w1 ⟨rfl,hp1,hk1'⟩
  have hk1:Kp E.B (nameW E nest w) w1:=hk1'
  clear d0 hk1' hA'
  have K1:=KRow.start (leafM E.toks st).1 hp1 hk1
  have p1:=nameW_p E nest K1.2.2.2.2
  obtain ⟨_,_,c1,_,_,_⟩:=PW.cells K1.2.2.2.1
  rw [hc.out] at c1
  have hXB:=next2_is { E with R:=w1.heap.size :: E.R } hE ⟨#[46]⟩ ⟨#[40]⟩ (leafM E.toks st).2 true hx _ K1.2.2.2.1
  rw [show (w1.alloc (.cells #[.int .i64 (leafM E.toks st).1] 3)).heap.size=w1.heap.size+1 by simp] at hXB
  have HXB:=Lib.hid hXB
  clear hXB
  go_wp2_with (go_at_call 138;refine HXB.out.mono ?_)
  rintro e w2 ⟨rfl,hq,hkq⟩
  have K2:=K1.call hq hkq
  have p2:=nameW_p E nest K2.2.2.2.2
  clear hq hkq c1 p1 K1 hp1 hk1 HXB
  have HC:=Lib.hid (next_is { E with R:=w1.heap.size :: E.R } hE ⟨#[46]⟩ (leafM E.toks st).2 false (eq_false_of_ne_true hd) _ K2.2.2.2.1)
  go_wp2_with (go_at_call 138;refine HC.out.mono ?_)
  rintro e w3 ⟨rfl,hq,hkq⟩
  have K3:=K2.call hq hkq
  clear hq hkq HC
  have p3:=nameW_p E nest K3.2.2.2.2
  clear p2 K2
  have HC:=Lib.hid (must_one { E with R:=w1.heap.size :: E.R } hE ⟨#[40]⟩ (leafM E.toks st).2 _ K3.2.2.2.1 n3)
  go_wp2_with (go_at_call 141;refine HC.out.mono ?_)
  rintro e w7 ⟨rfl,hq,hkq⟩
  have K7:=K3.call hq hkq
  clear hq hkq HC
  clear p3 K3
  have hL8:=K7.lit (.cells #[.int .i64 (mustM E.toks [[40]] (leafM E.toks st).2).1] 3)
  have hnw8:=heap_alloc_new w7 (.cells #[.int .i64 (mustM E.toks [[40]] (leafM E.toks st).2).1] 3)
  go_wp2_with (at_builtin;refine wpList_append_lies _ rfl _ _ 81 rfl (nameW E nest w).heap.size 3 i0 (.int .i64 0) 1 8 Tryz.underlying81 hi hz0 hz1 hz2 rfl (by decide) _ (1) _ rfl hL8.1 ⟨w7.heap.size,0,none⟩ 1 1 [.int .i64 (mustM E.toks [[40]] (leafM E.toks st).2).1] rfl rfl ?c1 ?c2 ?c3 ?c4 ?c5 ?c6 _ rfl ?_)
  case c1=>exact World.news_of_block (cs:=#[.int .i64 (mustM E.toks [[40]] (leafM E.toks st).2).1]) (t:=3) (fr:=(0,0)) hnw8
  case c2=>simp [Value.oneCell']
  case c3=>omega
  case c4=>unfold maxLen;omega
  case c5=>omega
  case c6=>exact hL8.2.2.2.2.size
  intro g8 cap8 w8 hown8 hgrow8 hat8 hlt8
  obtain ⟨R8,K8⟩:=hL8.app (news:=[(mustM E.toks [[40]] (leafM E.toks st).2).1]) hBW (by simp) hown8 hgrow8 hat8 (by simp) hlt8
  clear hL8 hnw8 hown8 hgrow8 hat8 hlt8 K7
  have p8:=nameW_p E nest K8.2.2.2.2
  have HLs:=Lib.hid (list_name { E with R:=R8 } hE (fun s=>run E.toks E.depth g (.expr (nest+1)) s) w.heap.size (w.heap.size+1) (mustM E.toks [[40]] (leafM E.toks st).2).2 l w8 h1 K8.2.2.2.1 n5 (fun s k hk=>run_ext E.toks E.depth g _ _ _ hk) (fun R s k w' hk hR hkk hnk=>name1_any { E with R:=R } g nest _ _ (ih R) s k w' hk hR hnk hnest hdep (nameW_p E nest (K8.2.2.2.2.trans hkk)) (nameW_n E nest (K8.2.2.2.2.trans hkk))))
  clear h1
  go_wp2_with (go_at_call 142;refine HLs.out.mono ?_)
  rintro e w9 ⟨v,rfl,hiv,hnil,hq,hkq⟩
  have K9:=K8.call hq hkq
  clear hq hkq HLs p8 K8
  by_cases hl0:l.1=[]
  ·obtain rfl:=hnil hl0
   go_wp2_with (at_builtin;refine wpList_append_own_none rfl _ _ 81 rfl (nameW E nest w).heap.size 3 i0 1 Tryz.underlying81 hi _ (2) _ rfl K9.1 rfl ?_)
   go_wp2
   have HKE:=Lib.hid (show [(leafM E.toks st).1]++[(mustM E.toks [[40]] (leafM E.toks st).2).1]++[(mustM E.toks [[41]] l.2).1]=kk by rw [← HKK.out,hl0] <;> rfl)
   have Kd:=K9.call (PW.later K9.2.2.2.1 ((Below.refl _ _).drew)) (Kp.of ((Below.refl _ _).drew) K9.2.2.2.1.B_le)
   have HC1:=Lib.hid (must_one { E with R:=R8 } hE ⟨#[41]⟩ l.2 w9.drew Kd.2.2.2.1 n5)
   have HC2:=Lib.hid (fun R w v hq hv=>pnode_any { E with R:=R } 13 v kk (mustM E.toks [[41]] l.2).2 w hq hv HKL.out n6)
   have pd:=name_two E nest Kd
   have Ks:=K9.lit (.cells #[.string ⟨#[41]⟩] 9)
   have ps:=name_two E nest (Ks.call (PW.later Ks.2.2.2.1 ((Below.refl _ _).drew)) (Kp.of ((Below.refl _ _).drew) Ks.2.2.2.1.B_le))
   clear Ks
   have HKd:=Lib.hid Kd
   clear Kd
   go_region_held3 (fun w'=>w'.cell? ⟨w.heap.size,0,none⟩=some (.pointer (some ⟨E.pb,0,none⟩))∧w'.cell? ⟨E.pb,0,none⟩=some (.pointer (some ⟨E.bb,0,none⟩))) (first|go_keep|exact pd|exact ps|exact p11|exact p12|exact p13)
   (first|(go_at_call 141;refine HC1.out.mono ?_;rintro e w11 ⟨rfl,hq11,hkq11⟩;have K11:=HKd.out.call hq11 hkq11;have p11:=name_two E nest K11)|((refine step_append_lies _ (by rfl) _ _ _ (by rfl) (nameW E nest w).heap.size 3 i0 _ 1 8 Tryz.underlying81 hi hz0 hz1 hz2 rfl (by omega) _ (2) _ (by rfl) (KRow.row (K11.lit _) (by simp <;> omega)) ⟨w11.heap.size,0,none⟩ 1 1 [.int .i64 (mustM E.toks [[41]] l.2).1] (by rfl) (by rfl) (World.news_of_block (cs:=#[.int .i64 (mustM E.toks [[41]] l.2).1]) (t:=3) (fr:=(0,0)) (heap_alloc_new w11 _)) (by simp [Value.oneCell']) (by omega) (by unfold maxLen;omega) (by omega) (K11.lit _).2.2.2.2.size (w11.heap.size+1) (by simp) ?_;intro g12 cap12 w12 hown12 hgrow12 hat12 hlt12;obtain ⟨R12,K12⟩:=(K11.lit (.cells #[.int .i64 (mustM E.toks [[41]] l.2).1] 3)).app (news:=[(mustM E.toks [[41]] l.2).1]) hBW (by simp <;> omega) hown12 hgrow12 hat12 (by simp) hlt12;have p12:=name_two E nest K12))|(go_at_call 88;refine (HC2.out _ _ _ K12.2.2.2.1 (K12.kids HKE.out)).mono ?_;rintro e w13 ⟨rfl,hq13,hkq13⟩;have K13:=K12.call hq13 hkq13;have p13:=name_two E nest K13))
   go_wp2
   go_ret
   exact ⟨rfl,PR.drop K13.2.2.2.1 K13.2.2.1,hkA.trans K13.2.2.2.2⟩
  ·have hpos:0<l.1.length:=List.length_pos_iff.2 hl0
   obtain ⟨ao,capv,rfl,hcv,hf⟩:=hiv
   obtain ⟨vb,vo,vcs,vfr,rfl,hh,hj⟩:=hf hpos
   clear hnil hl0 hf
   go_wp2_with (at_builtin;refine wpList_append_lies _ rfl _ _ 81 rfl (nameW E nest w).heap.size 3 i0 (.int .i64 0) 1 8 Tryz.underlying81 hi hz0 hz1 hz2 rfl (by decide) _ (2) _ rfl K9.1 ⟨vb,vo,none⟩ l.1.length capv (l.1.map (Value.int .i64)) rfl (by simp) ?c1 ?c2 ?c3 ?c4 ?c5 ?c6 _ rfl ?_)
   case c1=>exact ints_news hh hj
   case c2=>intro u hu;obtain ⟨y,_,rfl⟩:=List.mem_map.1 hu;rfl
   case c3=>exact hpos
   case c4=>unfold maxLen;omega
   case c5=>omega
   case c6=>exact K9.2.2.2.2.size
   intro g10 cap10 w10 hown10 hgrow10 hat10 hlt10
   obtain ⟨R10,K10⟩:=K9.app (news:=l.1) hBW (by simp <;> omega) hown10 hgrow10 hat10 (by simp) hlt10
   clear hown10 hgrow10 hat10 hlt10 K9 hh hj
   have p10:=nameW_p E nest K10.2.2.2.2
   clear p10
   go_wp2
   have HKE:=Lib.hid (show [(leafM E.toks st).1]++[(mustM E.toks [[40]] (leafM E.toks st).2).1]++l.1++[(mustM E.toks [[41]] l.2).1]=kk by rw [← HKK.out] <;> rfl)
   have Kd:=K10.call (PW.later K10.2.2.2.1 ((Below.refl _ _).drew)) (Kp.of ((Below.refl _ _).drew) K10.2.2.2.1.B_le)
   have HC1:=Lib.hid (must_one { E with R:=R10 } hE ⟨#[41]⟩ l.2 w10.drew Kd.2.2.2.1 n5)
   have HC2:=Lib.hid (fun R w v hq hv=>pnode_any { E with R:=R } 13 v kk (mustM E.toks [[41]] l.2).2 w hq hv HKL.out n6)
   have pd:=name_two E nest Kd
   have Ks:=K10.lit (.cells #[.string ⟨#[41]⟩] 9)
   have ps:=name_two E nest (Ks.call (PW.later Ks.2.2.2.1 ((Below.refl _ _).drew)) (Kp.of ((Below.refl _ _).drew) Ks.2.2.2.1.B_le))
   clear Ks
   have HKd:=Lib.hid Kd
   clear Kd
   go_region_held3 (fun w'=>w'.cell? ⟨w.heap.size,0,none⟩=some (.pointer (some ⟨E.pb,0,none⟩))∧w'.cell? ⟨E.pb,0,none⟩=some (.pointer (some ⟨E.bb,0,none⟩))) (first|go_keep|exact pd|exact ps|exact p11|exact p12|exact p13)
   (first|(go_at_call 141;refine HC1.out.mono ?_;rintro e w11 ⟨rfl,hq11,hkq11⟩;have K11:=HKd.out.call hq11 hkq11;have p11:=name_two E nest K11)|((refine step_append_lies _ (by rfl) _ _ _ (by rfl) (nameW E nest w).heap.size 3 i0 _ 1 8 Tryz.underlying81 hi hz0 hz1 hz2 rfl (by omega) _ (2+l.1.length) _ (by rfl) (KRow.row (K11.lit _) (by simp <;> omega)) ⟨w11.heap.size,0,none⟩ 1 1 [.int .i64 (mustM E.toks [[41]] l.2).1] (by rfl) (by rfl) (World.news_of_block (cs:=#[.int .i64 (mustM E.toks [[41]] l.2).1]) (t:=3) (fr:=(0,0)) (heap_alloc_new w11 _)) (by simp [Value.oneCell']) (by omega) (by unfold maxLen;omega) (by omega) (K11.lit _).2.2.2.2.size (w11.heap.size+1) (by simp) ?_;intro g12 cap12 w12 hown12 hgrow12 hat12 hlt12;obtain ⟨R12,K12⟩:=(K11.lit (.cells #[.int .i64 (mustM E.toks [[41]] l.2).1] 3)).app (news:=[(mustM E.toks [[41]] l.2).1]) hBW (by simp <;> omega) hown12 hgrow12 hat12 (by simp) hlt12;have p12:=name_two E nest K12))|(go_at_call 88;refine (HC2.out _ _ _ K12.2.2.2.1 (K12.kids HKE.out)).mono ?_;rintro e w13 ⟨rfl,hq13,hkq13⟩;have K13:=K12.call hq13 hkq13;have p13:=name_two E nest K13))
   go_wp2
   go_ret
   exact ⟨rfl,PR.drop K13.2.2.2.1 K13.2.2.1,hkA.trans K13.2.2.2.2⟩
theorem name_step (E:PEnv)(hE:E.ok)(g:Nat)(ih:∀ R,AllT { E with R:=R } g)(nest:Nat)(st:PSt)(r:Int × PSt)(w:World)(h:run E.toks E.depth (g+1) (.name nest) st=some r)(hp:PW E st w)(hn:r.2.nodes.length+1≤1099511627776)(hnest:nest≤E.depth) :
  Calls Tryz.prog 322 #[.pointer (some ⟨E.pb,0,none⟩),.int .i64 nest] w (PPost E r w):=by
 by_cases hc:(leafM E.toks st).2.clause=true∨nextF E.toks (leafM E.toks st).2 [[46],[40]]=false
 ·exact name_plain E hE g nest st r w h hp hn hnest hc
 ·refine name_call E hE g ih nest st r w h hp hn hnest ?_ ?_
  ·exact eq_false_of_ne_true fun q=>hc (.inl q)
  ·cases hq:nextF E.toks (leafM E.toks st).2 [[46],[40]] with
   | true=>rfl
   | false=>exact (hc (.inr hq)).elim
theorem allT_upto (E:PEnv)(hE:E.ok):∀ (g g':Nat),g'≤g→∀ R,AllT { E with R:=R } g'
 | 0,g',hg,R=>by
  obtain rfl:g'=0:=by omega
  intro t st r w h
  rw [run] at h
  cases h
 | g+1,g',hg,R=>by
  have ih:=allT_upto E hE g
  by_cases h':g'≤g
  ·exact ih g' h' R
  ·obtain rfl:g'=g+1:=by omega
   intro t st r w h hp hn hnest
   have hE':PEnv.ok { E with R:=R }:=hE
   have i0:=ih g (Nat.le_refl _) R
   cases t with
   | expr nest=>exact expr_step { E with R:=R } hE' g i0 nest st r w h hp hn hnest
   | formula nest=>exact formula_step { E with R:=R } hE' g i0 nest st r w h hp hn hnest
   | part l nest=>exact part_step { E with R:=R } g i0 l nest st r w h hp hn hnest
   | row l nest=>exact row_step { E with R:=R } hE' g (fun g' h'=>ih g' h' R) l nest st r w h hp hn hnest
   | loop l nest a=>trivial
   | neg nest=>exact neg_step { E with R:=R } hE' g i0 nest st r w h hp hn hnest
   | factor nest=>exact factor_step { E with R:=R } hE' g i0 nest st r w h hp hn hnest
   | atom nest=>exact atom_step { E with R:=R } hE' g i0 nest st r w h hp hn hnest
   | name nest=>exact name_step { E with R:=R } hE' g (fun R'=>ih g (Nat.le_refl _) R') nest st r w h hp hn hnest
theorem allT (E:PEnv)(hE:E.ok)(g:Nat):AllT E g:=allT_upto E hE g g (Nat.le_refl _) E.R
theorem PW.mark {E:PEnv}{st:PSt}{w:World}(h:PW E st w)(c:Bool):PW E { st with clause:=c } (w.setCell ⟨E.pb,2,none⟩ (.bool c))∧Kp E.B w (w.setCell ⟨E.pb,2,none⟩ (.bool c)):=by
 obtain ⟨h1,h2,h3,h4,h5⟩:=h
 have hkeep:∀ (k:Nat) (cs:Array Value) (T:TypeId) (fr:Nat × Nat),w.heap[k]?=some (.cells cs T fr)→T≠156→(w.setCell ⟨E.pb,2,none⟩ (.bool c)).heap[k]?=some (.cells cs T fr):=fun k cs T fr h0 q=>by
  have hne:k≠E.pb:=by
   rintro rfl
   rw [h1] at h0
   simp only [Option.some.injEq,Obj.cells.injEq] at h0
   exact q h0.2.1.symm
  rw [heap_setCell_other _ _ _ _ hne]
  exact h0
 have hb:Below E.B w (w.setCell ⟨E.pb,2,none⟩ (.bool c)):=(Below.refl _ _).setCell h4 _
 have hk:Kp E.B w (w.setCell ⟨E.pb,2,none⟩ (.bool c)):=⟨hb,fun k cs T fr h0 q1 _ _=>hkeep k cs T fr h0 q1⟩
 refine ⟨⟨?_,?_,h3.below hb,h4,h5.1,fun r hr=>Nat.lt_of_lt_of_le (h5.2 r hr) hb.size⟩,hk⟩
 ·rw [heap_setCell_same w E.pb 2 _ _ _ h1]
  rfl
 ·obtain ⟨b1,nv,l,b2,b3,b4,b5⟩:=h2
  refine ⟨b1,nv,l,hkeep _ _ _ _ b2 (by decide),b3,?_,fun p hp=>(b5 p hp).kept hk⟩
  exact own_set b4 (own_ne b4 h1 (by decide)) _
def VPost (E:PEnv)(st:PSt)(w:World)(e:Ending)(w':World):Prop:=e=.returned (.tuple #[])∧PW E st w'∧Kp E.B w w'
theorem alone_any (E:PEnv)(hE:E.ok)(g:Nat)(st:PSt)(a:Int × PSt)(w:World)(h:run E.toks E.depth g (.expr 1) { st with clause:=true }=some a)(hp:PW E st w)(hn:(nodeM 18 [a.1,(kindM E.toks 5 a.2).1] (kindM E.toks 5 a.2).2).2.nodes.length+1≤1099511627776) :
  Calls Tryz.prog 72 #[.pointer (some ⟨E.pb,0,none⟩)] w (VPost E (nodeM 18 [a.1,(kindM E.toks 5 a.2).1] (kindM E.toks 5 a.2).2).2 w):=by
 have n2:=nodes_le (nodeM_ext _ _ _) hn
 have n1:=nodes_le (kindM_ext _ _ _) n2
 obtain ⟨hm,hkm⟩:=hp.mark true
 have hz:w.frozen? ⟨E.pb,2,none⟩=false:=hp.cells.2.2.2.2.2 2
 have HX:=Lib.hid (allT E hE g _ _ _ _ h hm n1 (by show 1≤_;omega))
 have HK:=Lib.hid (fun w hp=>kind_any E hE 5 a.2 w hp n1)
 have HN:=Lib.hid (fun w hp=>node_lit E 18 [a.1,(kindM E.toks 5 a.2).1] 2 _ (kindM E.toks 5 a.2).2 w hp rfl rfl (by omega) n2)
 obtain ⟨_,_,c2,_,_,_⟩:=hp.cells
 clear h hn n1 n2 hm
 go_enter Tryz.func72,Tryz.ntmps72
 go_wp2_with (go_at_call 125;refine HX.out.mono ?_)
 rintro e w1 ⟨rfl,hp1,hk1⟩
 go_wp2_with (go_at_call 89;refine (HK.out _ hp1).mono ?_)
 rintro e w2 ⟨rfl,hp2,hk2⟩
 go_wp2_with (go_at_call 88;refine (HN.out _ hp2).mono ?_)
 rintro e w3 ⟨rfl,hp3,hk3⟩
 go_wp2
 go_end0
 exact ⟨rfl,hp3,((hkm.trans hk1).trans hk2).trans hk3⟩
theorem Tryz.infoTok2:(Tryz.prog.info? 80).map (fun i=>(i.zero,i.size,i.bytes))=some (some (.agg #[.int .i64 0,.string ⟨#[]⟩,.string ⟨#[]⟩,.int .i64 0]),4,48):=by kernel_rfl
def TokClone (toks:List Tok)(w:World)(e:Ending)(w':World):Prop:=∃ v',e=.returned v'∧w'.ownsRow w.heap.size 80 4 v' toks.length (toks.flatMap tokCells)∧Below w.heap.size w w'
theorem clone_toks (B:Nat)(tv:Value)(toks:List Tok)(w:World)(h:Rec B w tv 4 tokCells toks)(h0:0<toks.length)(hn:toks.length≤1099511627776) :
  Calls Tryz.prog 136 #[tv] w (TokClone toks w):=by
 obtain ⟨i0,hi,hz0,hz1,hz2⟩:=info_parts Tryz.infoTok2
 obtain ⟨ao,cap,rfl,hcap,hlen,hf⟩:=h
 obtain ⟨b,off,rfl,hB,hcell⟩:=hf h0
 have A:=Lib.hid hcell
 have HLEN:=Lib.hid hlen
 have hu:∀ u∈toks.flatMap tokCells,u.oneCell'=true:=by
  intro u hu
  obtain ⟨t,_,ht⟩:=List.mem_flatMap.1 hu
  simp only [tokCells,List.mem_cons,List.not_mem_nil,or_false] at ht
  rcases ht with rfl|rfl|rfl|rfl <;> rfl
 have HU:=Lib.hid hu
 clear hcell hf hlen hu
 have q22:∀ (w:World) (a:Option Addr) (n c n' c':Nat),(binOp .eql 22 (.slice a n c) (.slice none n' c')).run Tryz.prog w=.ok (.bool a.isNone) w:=fun w a n c n' c'=>Lib.run_eql_slice_nil w _ _ a n c n' c' Tryz.underlying22
 have u22:∀ w,Sem.run Tryz.prog (underlying 22) w=.ok (TypeDesc.slice 80) w:=run_underlying Tryz.underlying22
 go_enter Tryz.func136,Tryz.ntmps136
 go_wp2_with (at_builtin;refine wpList_append_own _ rfl _ _ 22 rfl w.heap.size 80 i0 (.agg #[.int .i64 0,.string ⟨#[]⟩,.string ⟨#[]⟩,.int .i64 0]) 4 48 Tryz.underlying22 hi hz0 hz1 hz2 rfl (by decide) _ _ _ rfl (World.ownsRow_made w #[] 0 (Nat.le_refl _) (Nat.zero_le _) rfl) ⟨b,off,none⟩ toks.length cap (toks.flatMap tokCells) rfl ?qc1 ?qc2 ?qc3 ?qc4 ?qc5 ?qc6 ?_)
 case qc1=>exact HLEN.out
 case qc2 =>
  intro j u hj
  obtain ⟨h1,h2⟩:=List.getElem?_eq_some_iff.1 hj
  rw [Addr.add_lit]
  refine Lib.cell?_alloc_some _ ?_
  rw [A.out j h1,h2]
 case qc3=>exact HU.out
 case qc4=>unfold maxLen;omega
 case qc5=>omega
 case qc6=>simp
 intro v' w1 hown hgrow hnil
 go_wp2
 go_ret
 refine ⟨v',rfl,by simpa using hown,?_⟩
 exact ((Below.refl _ w).alloc (Nat.le_refl _) _).grown hgrow (by simp) (by intro k hk;simp [Value.ownBlock] at hk;omega)
def NBPost (toks:List Tok)(w:World)(e:Ending)(w':World):Prop :=
 ∃ (bb B:Nat) (tv:Value),e=.returned (.pointer (some ⟨bb,0,none⟩))∧BW [] B bb tv 0 [] w'∧Rec B w' tv 4 tokCells toks∧w.heap.size≤B∧Below w.heap.size w w'
theorem newB_any (B:Nat)(tv:Value)(toks:List Tok)(w:World)(h:Rec B w tv 4 tokCells toks)(h0:0<toks.length)(hn:toks.length≤1099511627776) :
  Calls Tryz.prog 82 #[tv] w (NBPost toks w):=by
 have HC:=Lib.hid (clone_toks B tv toks w h h0 hn)
 obtain ⟨ao,cap,rfl,_,_,_⟩:=h
 go_enter Tryz.func82,Tryz.ntmps82
 go_wp2_with (go_at_call 136;refine HC.out.mono ?_)
 rintro e w1 ⟨v',rfl,hown,hb⟩
 obtain ⟨g,c5,rfl,hg1,hg2⟩:=hown.form h0
 go_wp2
 go_ret
 have hb1:=below_new w1 (.cells #[.slice (some ⟨g,0,none⟩) toks.length c5,.slice none 0 0,.int .i64 0] 221)
 refine ⟨w1.heap.size,w1.heap.size,_,rfl,⟨Nat.le_refl _,.slice none 0 0,[],heap_alloc_new _ _,rfl,World.ownsRow_nil _ _ _ _,fun p hp=>by cases hp⟩,?_,hb.size,hb.trans (hb1.mono hb.size)⟩
 exact (Sl.ofOwns hown).below hb1
theorem step_call {P:Program}{ops:Array Oper}{o:Oper}{a:Act}{w:World}{K:Act→World→Prop}{Q:Exit→Act→World→Prop}{E:Prop}
  (hg:o.guard=none) (f:Nat) (xs:Array Operand) (ts:Array TypeId) (hop:o.op=Op.call { callee:=Callee.value (Operand.func f),args:=xs,argTypes:=ts })
  {args:Array Value} {R:Ending→World→Prop} (hc:Calls P f args w R) (hargs:xs.toList.map a.eval=args.toList) (henter:(callFunc f args).run P w=.ok (.enter f args) w)
  (hK:∀ e w',R e w'→∃ v,e=.returned v∧K (a.put o.dst v) w') :
  if Region.wanted o (yielded ops a.tmps)=true then Oper.wp P o a w K Q else E:=by
 have hw:Region.wanted o (yielded ops a.tmps)=true:=by simp [Region.wanted,hg]
 rw [if_pos hw]
 have hm:xs.map a.eval=args:=by
  apply Array.ext'
  rw [Array.toList_map,hargs]
 have hrun:(execOp a.eval o).run P w=.ok (.enter f args) w:=by
  simp [execOp,hop,resolve,invoke,Act.eval,hm,henter,Deferred.ofValue,go_sem]
 unfold Oper.wp
 rw [hrun,Oper.upon_enter]
 refine hc.mono fun e w' hR=>?_
 obtain ⟨v,rfl,h⟩:=hK e w' hR
 exact h
end Go.Proofs.YtbodlpoomfefcaaGreatDoor
