/- Walks and plain laws: ParseW16, ParseW17, ParseW18, ParseW19, ParseW20, StepCall. -/
import Derived.Test.YtknicmmigbhpcaaGreatDoorF10
import Derived.Laws.AppendOwnNone
import Derived.Lib.SliceRun
set_option maxHeartbeats 16000000
set_option maxRecDepth 100000
set_option linter.unusedVariables false
set_option linter.unusedSimpArgs false
namespace Go.Proofs.YtknicmmigbhpcaaGreatDoor
open Go.RowKit Go
theorem uy {w:World}{b off:Nat}{cs:Array Value}{fr:Nat × Nat}{ks:List Int}(hh:w.heap[b]?=some (.cells cs 3 fr))(hj:∀ j,(h:j<ks.length)→cs[off+j]?=some (.int .i64 ks[j])) :
  ∀ j u,(ks.map (Value.int .i64))[j]?=some u→w.cell? ((⟨b,off,none⟩:Addr).add j)=some u:=fun j u hu=>by
 obtain⟨h1,h2⟩:=mR hu;rw[List.length_map] at h1
 have hadd:(⟨b,off,none⟩:Addr).add j=⟨b,off+j,none⟩:=by unfold Addr.add;split<;>simp_all
 rw[hadd,cell_of_row w b (off+j) cs _ fr hh,hj j h1,← h2,List.getElem_map]
theorem iI.kids {E:aT}{W0:World}{R:List Nat}{v:Value}{ks kk:List Int}{s:aB}{w:World}(h:iI E W0 R v ks s w)(e:ks=kk):dH w v kk:=by rw[← e];exact h.node
theorem iI.row {E:aT}{W0:World}{R:List Nat}{v:Value}{ks:List Int}{s:aB}{w:World}{n:Nat}(h:iI E W0 R v ks s w)(e:ks.length=n):w.ownsRow W0.heap.size 3 1 v n (ks.map (Value.int .i64)):=by rw[← e];exact h.1
theorem bR (E:aT)(nest:Nat){w w':World}{R:List Nat}{v:Value}{ks:List Int}{s:aB}(K:iI E (iH E nest w) R v ks s w'):w'.cell? ⟨w.heap.size,0,none⟩=some (.pointer (some ⟨E.pb,0,none⟩))∧w'.cell? ⟨E.pb,0,none⟩=some (.pointer (some ⟨E.bb,0,none⟩)) :=
 ⟨gQ E nest K.2.2.2.2,(PW.cells K.2.2.2.1).1⟩
theorem QK (E:aT)(hE:E.ok)(g:Nat)(ih:∀ R,Al { E with R:=R } g)(nest:Nat)(st:aB)(r:Int × aB)(w:World)(h:run E.toks E.depth (g+1) (.name nest) st=some r)(hp:PW E st w)(hn:r.2.nodes.length+1≤1099511627776)(bQ:nest≤E.depth)
  (hcl:(ay E.toks st).2.clause=false) (hx:aS E.toks (ay E.toks st).2 [[46],[40]]=true) :
  Calls Tryz.prog 323 #[.pointer (some ⟨E.pb,0,none⟩),.int .i64 nest] w (dh E r w):=by
 have rT:=hE.2.2;obtain⟨i0,hi,hz0,hz1,hz2⟩:=info_parts Tryz.kP;rw[run,if_neg (by rw[hcl,hx];simp)] at h;have hA:PW E st (iH E nest w):=hp.later (oW E nest w);have qW:Kp E.B w (iH E nest w):=Kp.of (oW E nest w) hp.dL;have hBW:E.B≤(iH E nest w).heap.size:=hA.dL;obtain⟨l,h1,h⟩:=bH h
 injection h with h
 subst h
 have hmf:∀ (fn:Fn) (first cap:Array Value) (w:World),(Instr.makeFunc fn first cap).run Tryz.prog w=.ok (.func fn first cap) w:=fun _ _ _ _=>rfl
 have n6:=aC (aD _ _ _) hn;have n5:=aC (aF _ _ _) n6;have hlx:=kg E.toks _ (fun s k hk=>aN E.toks E.depth g _ _ _ hk) _ _ h1;have n4:=aC hlx n5;have n3:=aC (aF _ _ _) n4;have n2:=aC (yJ E.toks (ay E.toks st)) n3;have n1:=aC (aJ _ _) n2;have hll:=Fb _ _ _ _ h1;have HL:=ah (fun w hp=>bA E st w hp hE.1 hE.2.1 n1);have hc:=ah hcl;clear hcl
 by_cases hd:aS E.toks (ay E.toks st).2 [[46]]=true
 ·have hqm:lD E.toks (ay E.toks st)=([(ay E.toks st).1,(ay E.toks (ay E.toks st).2).1,(aO E.toks 1 (ay E.toks (ay E.toks st).2).2).1],(aO E.toks 1 (ay E.toks (ay E.toks st).2).2).2):=by rw[lD,if_pos hd]
  clear hn hlx h;rw[hqm] at h1 n3 ⊢;dsimp only at h1 n3 ⊢;have n2a:=aC (dO _ _ _) n3;generalize hkk:(_++[(aA E.toks [[41]] l.2).1]:List Int)=kk;have HKK:=ah hkk;have XF:Hid (kk.length≤1099511627776):=ah (by rw[← hkk];simp;omega);clear hkk;clear hqm;have hA':PW E st ((w.alloc (.cells #[.pointer (some ⟨E.pb,0,none⟩)] 129)).alloc (.cells #[.int .i64 nest] 3)):=hA;obtain⟨d0,_,_,_,_,_⟩:=hA'.cells;go_enter Tryz.func323,Tryz.ntmps323;go_wp2_with (go_at_call 167;refine(HL.out _ hA').mono ?_);rintro e w1 ⟨rfl,hp1,BI⟩;have hk1:Kp E.B (iH E nest w) w1:=BI;clear d0 BI hA';have K1:=iI.start (ay E.toks st).1 hp1 hk1;have p1:=gQ E nest K1.2.2.2.2;obtain⟨_,_,c1,_,_,_⟩:=PW.cells K1.2.2.2.1;rw[hc.out] at c1;have Um:=sJ { E with R:=w1.heap.size :: E.R } hE ⟨#[46]⟩ ⟨#[40]⟩ (ay E.toks st).2 true hx _ K1.2.2.2.1;rw[show (w1.alloc (.cells #[.int .i64 (ay E.toks st).1] 3)).heap.size=w1.heap.size+1 by simp] at Um;have HXB:=ah Um;clear Um;go_wp2_with (go_at_call 165;refine HXB.out.mono ?_);rintro e w2 ⟨rfl,hq,hkq⟩;have K2:=K1.call hq hkq;have p2:=gQ E nest K2.2.2.2.2;clear hq hkq c1 p1 K1 hp1 hk1 HXB;have HC:=ah (cZ { E with R:=w1.heap.size :: E.R } hE ⟨#[46]⟩ (ay E.toks st).2 true hd _ K2.2.2.2.1);go_wp2_with (go_at_call 165;refine HC.out.mono ?_);rintro e w3 ⟨rfl,hq,hkq⟩;have K3:=K2.call hq hkq;clear hq hkq HC;have p3:=gQ E nest K3.2.2.2.2;obtain⟨d0,_,_,_,_,_⟩:=PW.cells K3.2.2.2.1;clear p2 K2;have K3d:iI E (iH E nest w) (w1.heap.size :: E.R) (.slice (some ⟨w1.heap.size,0,none⟩) 1 1) [(ay E.toks st).1] (ay E.toks st).2 w3.drew:=K3.call (PW.later K3.2.2.2.1 ((Below.refl _ _).drew)) (Kp.of ((Below.refl _ _).drew) K3.2.2.2.1.dL);have LM:=ah (bA { E with R:=w1.heap.size :: E.R } (ay E.toks st).2 _ K3d.2.2.2.1 hE.1 hE.2.1 n2);have Ee:=ah (fun w hq=>qj { E with R:=w1.heap.size :: E.R } hE 1 (ay E.toks (ay E.toks st).2).2 w hq n2a);have ab1:=ah K3d;clear K3d;go_wp2
  go_region_held3 (fun w'=>w'.cell? ⟨w.heap.size,0,none⟩=some (.pointer (some ⟨E.pb,0,none⟩))∧w'.cell? ⟨E.pb,0,none⟩=some (.pointer (some ⟨E.bb,0,none⟩))) (first|go_keep|exact p4|exact p5|exact p6)
   (first|(go_at_call 167;refine LM.out.mono ?_;rintro e w4 ⟨rfl,hq4,ab2⟩;have K4:=ab1.out.call hq4 ab2;have p4:=bR E nest K4)|(go_at_call 107;refine(Ee.out _ hq4).mono ?_;rintro e w5 ⟨rfl,zP,ab3⟩;have K5:=K4.call zP ab3;have p5:=bR E nest K5)|((refine step_append_lies _ (by rfl) _ _ _ (by rfl) (iH E nest w).heap.size 3 i0 _ 1 8 Tryz.underlying51 hi hz0 hz1 hz2 rfl (by omega) _ (1) _ (by rfl) (K5.lit _).1 ⟨w5.heap.size,0,none⟩ 2 2 [.int .i64 (ay E.toks (ay E.toks st).2).1,.int .i64 (aO E.toks 1 (ay E.toks (ay E.toks st).2).2).1] (by rfl) (by rfl) (World.news_of_block (cs:=#[.int .i64 (ay E.toks (ay E.toks st).2).1,.int .i64 (aO E.toks 1 (ay E.toks (ay E.toks st).2).2).1]) (t:=3) (fr:=(0,0)) (heap_alloc_new w5 _)) (by simp[Value.oneCell']) (by omega) (by unfold maxLen;omega) (by omega) (K5.lit _).2.2.2.2.size (w5.heap.size+1) (by simp) ?_;intro g6 cap6 w6 hown6 kR Un Uo;obtain⟨R6,K6⟩:=(K5.lit (.cells #[.int .i64 (ay E.toks (ay E.toks st).2).1,.int .i64 (aO E.toks 1 (ay E.toks (ay E.toks st).2).2).1] 3)).app (news:=[(ay E.toks (ay E.toks st).2).1,(aO E.toks 1 (ay E.toks (ay E.toks st).2).2).1]) hBW (by simp) hown6 kR Un (by simp) Uo;have p6:=bR E nest K6)))
  clear hown6 kR Un Uo p6 K5 K4 K3 p3 d0 p4 p5 LM Ee ab1 hq4 ab2 zP ab3;have p6:=gQ E nest K6.2.2.2.2;have HC:=ah (dx { E with R:=R6 } hE ⟨#[40]⟩ (aO E.toks 1 (ay E.toks (ay E.toks st).2).2).2 _ K6.2.2.2.1 n3);go_wp2_with (go_at_call 168;refine HC.out.mono ?_);rintro e w7 ⟨rfl,hq,hkq⟩;have K7:=K6.call hq hkq;clear hq hkq HC;clear p6 K6;have Yv:=K7.lit (.cells #[.int .i64 (aA E.toks [[40]] (aO E.toks 1 (ay E.toks (ay E.toks st).2).2).2).1] 3);have Uq:=heap_alloc_new w7 (.cells #[.int .i64 (aA E.toks [[40]] (aO E.toks 1 (ay E.toks (ay E.toks st).2).2).2).1] 3);go_wp2_with (at_builtin;refine wpList_append_lies _ rfl _ _ 51 rfl (iH E nest w).heap.size 3 i0 (.int .i64 0) 1 8 Tryz.underlying51 hi hz0 hz1 hz2 rfl (by decide) _ (3) _ rfl Yv.1 ⟨w7.heap.size,0,none⟩ 1 1 [.int .i64 (aA E.toks [[40]] (aO E.toks 1 (ay E.toks (ay E.toks st).2).2).2).1] rfl rfl ?c1 ?c2 ?c3 ?c4 ?c5 ?c6 _ rfl ?_)
  case c1=>exact World.news_of_block (cs:=#[.int .i64 (aA E.toks [[40]] (aO E.toks 1 (ay E.toks (ay E.toks st).2).2).2).1]) (t:=3) (fr:=(0,0)) Uq
  case c2=>simp[Value.oneCell']
  case c3=>omega
  case c4=>unfold maxLen;omega
  case c5=>omega
  case c6=>exact Yv.2.2.2.2.size
  intro g8 MH w8 sM lT BH vI;obtain⟨R8,K8⟩:=Yv.app (news:=[(aA E.toks [[40]] (aO E.toks 1 (ay E.toks (ay E.toks st).2).2).2).1]) hBW (by simp) sM lT BH (by simp) vI;clear Yv Uq sM lT BH vI K7;have p8:=gQ E nest K8.2.2.2.2;have HLs:=ah (E8 { E with R:=R8 } hE (fun s=>run E.toks E.depth g (.expr (nest+1)) s) w.heap.size (w.heap.size+1) (aA E.toks [[40]] (aO E.toks 1 (ay E.toks (ay E.toks st).2).2).2).2 l w8 h1 K8.2.2.2.1 n5 (fun s k hk=>aN E.toks E.depth g _ _ _ hk) (fun R s k w' hk hR hkk hnk=>Fa { E with R:=R } g nest _ _ (ih R) s k w' hk hR hnk bQ rT (gQ E nest (K8.2.2.2.2.trans hkk)) (O4 E nest (K8.2.2.2.2.trans hkk))));clear h1;go_wp2_with (go_at_call 169;refine HLs.out.mono ?_);rintro e w9 ⟨v,rfl,hiv,hnil,hq,hkq⟩;have K9:=K8.call hq hkq;clear hq hkq HLs p8 K8
  by_cases hl0:l.1=[]
  ·obtain rfl:=hnil hl0
   go_wp2_with (at_builtin;refine wpList_append_own_none rfl _ _ 51 rfl (iH E nest w).heap.size 3 i0 1 Tryz.underlying51 hi _ (4) _ rfl K9.1 rfl ?_);go_wp2;have HKE:=ah (show [(ay E.toks st).1]++[(ay E.toks (ay E.toks st).2).1,(aO E.toks 1 (ay E.toks (ay E.toks st).2).2).1]++[(aA E.toks [[40]] (aO E.toks 1 (ay E.toks (ay E.toks st).2).2).2).1]++[(aA E.toks [[41]] l.2).1]=kk by rw[← HKK.out,hl0]<;>rfl);have Kd:=K9.call (PW.later K9.2.2.2.1 ((Below.refl _ _).drew)) (Kp.of ((Below.refl _ _).drew) K9.2.2.2.1.dL);have LM:=ah (dx { E with R:=R8 } hE ⟨#[41]⟩ l.2 w9.drew Kd.2.2.2.1 n5);have Ee:=ah (fun R w v hq hv=>jM { E with R:=R } 13 v kk (aA E.toks [[41]] l.2).2 w hq hv XF.out n6);have pd:=bR E nest Kd;have Ks:=K9.lit (.cells #[.string ⟨#[41]⟩] 9);have ps:=bR E nest (Ks.call (PW.later Ks.2.2.2.1 ((Below.refl _ _).drew)) (Kp.of ((Below.refl _ _).drew) Ks.2.2.2.1.dL));clear Ks;have HKd:=ah Kd;clear Kd
   go_region_held3 (fun w'=>w'.cell? ⟨w.heap.size,0,none⟩=some (.pointer (some ⟨E.pb,0,none⟩))∧w'.cell? ⟨E.pb,0,none⟩=some (.pointer (some ⟨E.bb,0,none⟩))) (first|go_keep|exact pd|exact ps|exact p11|exact p12|exact p13)
   (first|(go_at_call 168;refine LM.out.mono ?_;rintro e sN ⟨rfl,hq11,BJ⟩;have yO:=HKd.out.call hq11 BJ;have p11:=bR E nest yO)|((refine step_append_lies _ (by rfl) _ _ _ (by rfl) (iH E nest w).heap.size 3 i0 _ 1 8 Tryz.underlying51 hi hz0 hz1 hz2 rfl (by omega) _ (4) _ (by rfl) (iI.row (yO.lit _) (by simp<;>omega)) ⟨sN.heap.size,0,none⟩ 1 1 [.int .i64 (aA E.toks [[41]] l.2).1] (by rfl) (by rfl) (World.news_of_block (cs:=#[.int .i64 (aA E.toks [[41]] l.2).1]) (t:=3) (fr:=(0,0)) (heap_alloc_new sN _)) (by simp[Value.oneCell']) (by omega) (by unfold maxLen;omega) (by omega) (yO.lit _).2.2.2.2.size (sN.heap.size+1) (by simp) ?_;intro g12 O8 w12 vJ qY BK BL;obtain⟨R12,yC⟩:=(yO.lit (.cells #[.int .i64 (aA E.toks [[41]] l.2).1] 3)).app (news:=[(aA E.toks [[41]] l.2).1]) hBW (by simp<;>omega) vJ qY BK (by simp) BL;have p12:=bR E nest yC))|(go_at_call 106;refine(Ee.out _ _ _ yC.2.2.2.1 (yC.kids HKE.out)).mono ?_;rintro e w13 ⟨rfl,MK,BM⟩;have Ao:=yC.call MK BM;have p13:=bR E nest Ao))
   go_wp2;go_ret;exact⟨rfl,PR.drop Ao.2.2.2.1 Ao.2.2.1,qW.trans Ao.2.2.2.2⟩
  ·have hpos:0<l.1.length:=List.length_pos_iff.2 hl0
   obtain⟨ao,MN,rfl,hcv,hf⟩:=hiv;obtain⟨vb,vo,vcs,vfr,rfl,hh,hj⟩:=hf hpos;clear hnil hl0 hf;go_wp2_with (at_builtin;refine wpList_append_lies _ rfl _ _ 51 rfl (iH E nest w).heap.size 3 i0 (.int .i64 0) 1 8 Tryz.underlying51 hi hz0 hz1 hz2 rfl (by decide) _ (4) _ rfl K9.1 ⟨vb,vo,none⟩ l.1.length MN (l.1.map (Value.int .i64)) rfl (by simp) ?c1 ?c2 ?c3 ?c4 ?c5 ?c6 _ rfl ?_)
   case c1=>exact uy hh hj
   case c2=>intro u hu;obtain⟨y,_,rfl⟩:=List.mem_map.1 hu;rfl
   case c3=>exact hpos
   case c4=>unfold maxLen;omega
   case c5=>omega
   case c6=>exact K9.2.2.2.2.size
   intro g10 ab4 jR BN xq JG JH;obtain⟨R10,Fe⟩:=K9.app (news:=l.1) hBW (by simp<;>omega) BN xq JG (by simp) JH;clear BN xq JG JH K9 hh hj;have p10:=gQ E nest Fe.2.2.2.2;clear p10;go_wp2;have HKE:=ah (show [(ay E.toks st).1]++[(ay E.toks (ay E.toks st).2).1,(aO E.toks 1 (ay E.toks (ay E.toks st).2).2).1]++[(aA E.toks [[40]] (aO E.toks 1 (ay E.toks (ay E.toks st).2).2).2).1]++l.1++[(aA E.toks [[41]] l.2).1]=kk by rw[← HKK.out]<;>rfl);have Kd:=Fe.call (PW.later Fe.2.2.2.1 ((Below.refl _ _).drew)) (Kp.of ((Below.refl _ _).drew) Fe.2.2.2.1.dL);have LM:=ah (dx { E with R:=R10 } hE ⟨#[41]⟩ l.2 jR.drew Kd.2.2.2.1 n5);have Ee:=ah (fun R w v hq hv=>jM { E with R:=R } 13 v kk (aA E.toks [[41]] l.2).2 w hq hv XF.out n6);have pd:=bR E nest Kd;have Ks:=Fe.lit (.cells #[.string ⟨#[41]⟩] 9);have ps:=bR E nest (Ks.call (PW.later Ks.2.2.2.1 ((Below.refl _ _).drew)) (Kp.of ((Below.refl _ _).drew) Ks.2.2.2.1.dL));clear Ks;have HKd:=ah Kd;clear Kd
   go_region_held3 (fun w'=>w'.cell? ⟨w.heap.size,0,none⟩=some (.pointer (some ⟨E.pb,0,none⟩))∧w'.cell? ⟨E.pb,0,none⟩=some (.pointer (some ⟨E.bb,0,none⟩))) (first|go_keep|exact pd|exact ps|exact p11|exact p12|exact p13)
   (first|(go_at_call 168;refine LM.out.mono ?_;rintro e sN ⟨rfl,hq11,BJ⟩;have yO:=HKd.out.call hq11 BJ;have p11:=bR E nest yO)|((refine step_append_lies _ (by rfl) _ _ _ (by rfl) (iH E nest w).heap.size 3 i0 _ 1 8 Tryz.underlying51 hi hz0 hz1 hz2 rfl (by omega) _ (4+l.1.length) _ (by rfl) (iI.row (yO.lit _) (by simp<;>omega)) ⟨sN.heap.size,0,none⟩ 1 1 [.int .i64 (aA E.toks [[41]] l.2).1] (by rfl) (by rfl) (World.news_of_block (cs:=#[.int .i64 (aA E.toks [[41]] l.2).1]) (t:=3) (fr:=(0,0)) (heap_alloc_new sN _)) (by simp[Value.oneCell']) (by omega) (by unfold maxLen;omega) (by omega) (yO.lit _).2.2.2.2.size (sN.heap.size+1) (by simp) ?_;intro g12 O8 w12 vJ qY BK BL;obtain⟨R12,yC⟩:=(yO.lit (.cells #[.int .i64 (aA E.toks [[41]] l.2).1] 3)).app (news:=[(aA E.toks [[41]] l.2).1]) hBW (by simp<;>omega) vJ qY BK (by simp) BL;have p12:=bR E nest yC))|(go_at_call 106;refine(Ee.out _ _ _ yC.2.2.2.1 (yC.kids HKE.out)).mono ?_;rintro e w13 ⟨rfl,MK,BM⟩;have Ao:=yC.call MK BM;have p13:=bR E nest Ao))
   go_wp2;go_ret;exact⟨rfl,PR.drop Ao.2.2.2.1 Ao.2.2.1,qW.trans Ao.2.2.2.2⟩
 ·have hqm:lD E.toks (ay E.toks st)=([(ay E.toks st).1],(ay E.toks st).2):=by rw[lD,if_neg hd]
  clear hn hlx h;rw[hqm] at h1 n3 ⊢;dsimp only at h1 n3 ⊢;generalize hkk:(_++[(aA E.toks [[41]] l.2).1]:List Int)=kk;have HKK:=ah hkk;have XF:Hid (kk.length≤1099511627776):=ah (by rw[← hkk];simp;omega);clear hkk;clear hqm;have hA':PW E st ((w.alloc (.cells #[.pointer (some ⟨E.pb,0,none⟩)] 129)).alloc (.cells #[.int .i64 nest] 3)):=hA;obtain⟨d0,_,_,_,_,_⟩:=hA'.cells;go_enter Tryz.func323,Tryz.ntmps323;go_wp2_with (go_at_call 167;refine(HL.out _ hA').mono ?_);rintro e w1 ⟨rfl,hp1,BI⟩;have hk1:Kp E.B (iH E nest w) w1:=BI;clear d0 BI hA';have K1:=iI.start (ay E.toks st).1 hp1 hk1;have p1:=gQ E nest K1.2.2.2.2;obtain⟨_,_,c1,_,_,_⟩:=PW.cells K1.2.2.2.1;rw[hc.out] at c1;have Um:=sJ { E with R:=w1.heap.size :: E.R } hE ⟨#[46]⟩ ⟨#[40]⟩ (ay E.toks st).2 true hx _ K1.2.2.2.1;rw[show (w1.alloc (.cells #[.int .i64 (ay E.toks st).1] 3)).heap.size=w1.heap.size+1 by simp] at Um;have HXB:=ah Um;clear Um;go_wp2_with (go_at_call 165;refine HXB.out.mono ?_);rintro e w2 ⟨rfl,hq,hkq⟩;have K2:=K1.call hq hkq;have p2:=gQ E nest K2.2.2.2.2;clear hq hkq c1 p1 K1 hp1 hk1 HXB;have HC:=ah (cZ { E with R:=w1.heap.size :: E.R } hE ⟨#[46]⟩ (ay E.toks st).2 false (eq_false_of_ne_true hd) _ K2.2.2.2.1);go_wp2_with (go_at_call 165;refine HC.out.mono ?_);rintro e w3 ⟨rfl,hq,hkq⟩;have K3:=K2.call hq hkq;clear hq hkq HC;have p3:=gQ E nest K3.2.2.2.2;clear p2 K2;have HC:=ah (dx { E with R:=w1.heap.size :: E.R } hE ⟨#[40]⟩ (ay E.toks st).2 _ K3.2.2.2.1 n3);go_wp2_with (go_at_call 168;refine HC.out.mono ?_);rintro e w7 ⟨rfl,hq,hkq⟩;have K7:=K3.call hq hkq;clear hq hkq HC;clear p3 K3;have Yv:=K7.lit (.cells #[.int .i64 (aA E.toks [[40]] (ay E.toks st).2).1] 3);have Uq:=heap_alloc_new w7 (.cells #[.int .i64 (aA E.toks [[40]] (ay E.toks st).2).1] 3)
  go_wp2_with (at_builtin;refine wpList_append_lies _ rfl _ _ 51 rfl (iH E nest w).heap.size 3 i0 (.int .i64 0) 1 8 Tryz.underlying51 hi hz0 hz1 hz2 rfl (by decide) _ (1) _ rfl Yv.1 ⟨w7.heap.size,0,none⟩ 1 1 [.int .i64 (aA E.toks [[40]] (ay E.toks st).2).1] rfl rfl ?c1 ?c2 ?c3 ?c4 ?c5 ?c6 _ rfl ?_)
  case c1=>exact World.news_of_block (cs:=#[.int .i64 (aA E.toks [[40]] (ay E.toks st).2).1]) (t:=3) (fr:=(0,0)) Uq
  case c2=>simp[Value.oneCell']
  case c3=>omega
  case c4=>unfold maxLen;omega
  case c5=>omega
  case c6=>exact Yv.2.2.2.2.size
  intro g8 MH w8 sM lT BH vI;obtain⟨R8,K8⟩:=Yv.app (news:=[(aA E.toks [[40]] (ay E.toks st).2).1]) hBW (by simp) sM lT BH (by simp) vI;clear Yv Uq sM lT BH vI K7;have p8:=gQ E nest K8.2.2.2.2;have HLs:=ah (E8 { E with R:=R8 } hE (fun s=>run E.toks E.depth g (.expr (nest+1)) s) w.heap.size (w.heap.size+1) (aA E.toks [[40]] (ay E.toks st).2).2 l w8 h1 K8.2.2.2.1 n5 (fun s k hk=>aN E.toks E.depth g _ _ _ hk) (fun R s k w' hk hR hkk hnk=>Fa { E with R:=R } g nest _ _ (ih R) s k w' hk hR hnk bQ rT (gQ E nest (K8.2.2.2.2.trans hkk)) (O4 E nest (K8.2.2.2.2.trans hkk))));clear h1;go_wp2_with (go_at_call 169;refine HLs.out.mono ?_);rintro e w9 ⟨v,rfl,hiv,hnil,hq,hkq⟩;have K9:=K8.call hq hkq;clear hq hkq HLs p8 K8
  by_cases hl0:l.1=[]
  ·obtain rfl:=hnil hl0
   go_wp2_with (at_builtin;refine wpList_append_own_none rfl _ _ 51 rfl (iH E nest w).heap.size 3 i0 1 Tryz.underlying51 hi _ (2) _ rfl K9.1 rfl ?_);go_wp2;have HKE:=ah (show [(ay E.toks st).1]++[(aA E.toks [[40]] (ay E.toks st).2).1]++[(aA E.toks [[41]] l.2).1]=kk by rw[← HKK.out,hl0]<;>rfl);have Kd:=K9.call (PW.later K9.2.2.2.1 ((Below.refl _ _).drew)) (Kp.of ((Below.refl _ _).drew) K9.2.2.2.1.dL);have LM:=ah (dx { E with R:=R8 } hE ⟨#[41]⟩ l.2 w9.drew Kd.2.2.2.1 n5);have Ee:=ah (fun R w v hq hv=>jM { E with R:=R } 13 v kk (aA E.toks [[41]] l.2).2 w hq hv XF.out n6);have pd:=bR E nest Kd;have Ks:=K9.lit (.cells #[.string ⟨#[41]⟩] 9);have ps:=bR E nest (Ks.call (PW.later Ks.2.2.2.1 ((Below.refl _ _).drew)) (Kp.of ((Below.refl _ _).drew) Ks.2.2.2.1.dL));clear Ks;have HKd:=ah Kd;clear Kd
   go_region_held3 (fun w'=>w'.cell? ⟨w.heap.size,0,none⟩=some (.pointer (some ⟨E.pb,0,none⟩))∧w'.cell? ⟨E.pb,0,none⟩=some (.pointer (some ⟨E.bb,0,none⟩))) (first|go_keep|exact pd|exact ps|exact p11|exact p12|exact p13)
   (first|(go_at_call 168;refine LM.out.mono ?_;rintro e sN ⟨rfl,hq11,BJ⟩;have yO:=HKd.out.call hq11 BJ;have p11:=bR E nest yO)|((refine step_append_lies _ (by rfl) _ _ _ (by rfl) (iH E nest w).heap.size 3 i0 _ 1 8 Tryz.underlying51 hi hz0 hz1 hz2 rfl (by omega) _ (2) _ (by rfl) (iI.row (yO.lit _) (by simp<;>omega)) ⟨sN.heap.size,0,none⟩ 1 1 [.int .i64 (aA E.toks [[41]] l.2).1] (by rfl) (by rfl) (World.news_of_block (cs:=#[.int .i64 (aA E.toks [[41]] l.2).1]) (t:=3) (fr:=(0,0)) (heap_alloc_new sN _)) (by simp[Value.oneCell']) (by omega) (by unfold maxLen;omega) (by omega) (yO.lit _).2.2.2.2.size (sN.heap.size+1) (by simp) ?_;intro g12 O8 w12 vJ qY BK BL;obtain⟨R12,yC⟩:=(yO.lit (.cells #[.int .i64 (aA E.toks [[41]] l.2).1] 3)).app (news:=[(aA E.toks [[41]] l.2).1]) hBW (by simp<;>omega) vJ qY BK (by simp) BL;have p12:=bR E nest yC))|(go_at_call 106;refine(Ee.out _ _ _ yC.2.2.2.1 (yC.kids HKE.out)).mono ?_;rintro e w13 ⟨rfl,MK,BM⟩;have Ao:=yC.call MK BM;have p13:=bR E nest Ao))
   go_wp2;go_ret;exact⟨rfl,PR.drop Ao.2.2.2.1 Ao.2.2.1,qW.trans Ao.2.2.2.2⟩
  ·have hpos:0<l.1.length:=List.length_pos_iff.2 hl0
   obtain⟨ao,MN,rfl,hcv,hf⟩:=hiv;obtain⟨vb,vo,vcs,vfr,rfl,hh,hj⟩:=hf hpos;clear hnil hl0 hf;go_wp2_with (at_builtin;refine wpList_append_lies _ rfl _ _ 51 rfl (iH E nest w).heap.size 3 i0 (.int .i64 0) 1 8 Tryz.underlying51 hi hz0 hz1 hz2 rfl (by decide) _ (2) _ rfl K9.1 ⟨vb,vo,none⟩ l.1.length MN (l.1.map (Value.int .i64)) rfl (by simp) ?c1 ?c2 ?c3 ?c4 ?c5 ?c6 _ rfl ?_)
   case c1=>exact uy hh hj
   case c2=>intro u hu;obtain⟨y,_,rfl⟩:=List.mem_map.1 hu;rfl
   case c3=>exact hpos
   case c4=>unfold maxLen;omega
   case c5=>omega
   case c6=>exact K9.2.2.2.2.size
   intro g10 ab4 jR BN xq JG JH;obtain⟨R10,Fe⟩:=K9.app (news:=l.1) hBW (by simp<;>omega) BN xq JG (by simp) JH;clear BN xq JG JH K9 hh hj;have p10:=gQ E nest Fe.2.2.2.2;clear p10;go_wp2;have HKE:=ah (show [(ay E.toks st).1]++[(aA E.toks [[40]] (ay E.toks st).2).1]++l.1++[(aA E.toks [[41]] l.2).1]=kk by rw[← HKK.out]<;>rfl);have Kd:=Fe.call (PW.later Fe.2.2.2.1 ((Below.refl _ _).drew)) (Kp.of ((Below.refl _ _).drew) Fe.2.2.2.1.dL);have LM:=ah (dx { E with R:=R10 } hE ⟨#[41]⟩ l.2 jR.drew Kd.2.2.2.1 n5);have Ee:=ah (fun R w v hq hv=>jM { E with R:=R } 13 v kk (aA E.toks [[41]] l.2).2 w hq hv XF.out n6);have pd:=bR E nest Kd;have Ks:=Fe.lit (.cells #[.string ⟨#[41]⟩] 9);have ps:=bR E nest (Ks.call (PW.later Ks.2.2.2.1 ((Below.refl _ _).drew)) (Kp.of ((Below.refl _ _).drew) Ks.2.2.2.1.dL));clear Ks;have HKd:=ah Kd;clear Kd
   go_region_held3 (fun w'=>w'.cell? ⟨w.heap.size,0,none⟩=some (.pointer (some ⟨E.pb,0,none⟩))∧w'.cell? ⟨E.pb,0,none⟩=some (.pointer (some ⟨E.bb,0,none⟩))) (first|go_keep|exact pd|exact ps|exact p11|exact p12|exact p13)
   (first|(go_at_call 168;refine LM.out.mono ?_;rintro e sN ⟨rfl,hq11,BJ⟩;have yO:=HKd.out.call hq11 BJ;have p11:=bR E nest yO)|((refine step_append_lies _ (by rfl) _ _ _ (by rfl) (iH E nest w).heap.size 3 i0 _ 1 8 Tryz.underlying51 hi hz0 hz1 hz2 rfl (by omega) _ (2+l.1.length) _ (by rfl) (iI.row (yO.lit _) (by simp<;>omega)) ⟨sN.heap.size,0,none⟩ 1 1 [.int .i64 (aA E.toks [[41]] l.2).1] (by rfl) (by rfl) (World.news_of_block (cs:=#[.int .i64 (aA E.toks [[41]] l.2).1]) (t:=3) (fr:=(0,0)) (heap_alloc_new sN _)) (by simp[Value.oneCell']) (by omega) (by unfold maxLen;omega) (by omega) (yO.lit _).2.2.2.2.size (sN.heap.size+1) (by simp) ?_;intro g12 O8 w12 vJ qY BK BL;obtain⟨R12,yC⟩:=(yO.lit (.cells #[.int .i64 (aA E.toks [[41]] l.2).1] 3)).app (news:=[(aA E.toks [[41]] l.2).1]) hBW (by simp<;>omega) vJ qY BK (by simp) BL;have p12:=bR E nest yC))|(go_at_call 106;refine(Ee.out _ _ _ yC.2.2.2.1 (yC.kids HKE.out)).mono ?_;rintro e w13 ⟨rfl,MK,BM⟩;have Ao:=yC.call MK BM;have p13:=bR E nest Ao))
   go_wp2;go_ret;exact⟨rfl,PR.drop Ao.2.2.2.1 Ao.2.2.1,qW.trans Ao.2.2.2.2⟩
theorem QL (E:aT)(hE:E.ok)(g:Nat)(ih:∀ R,Al { E with R:=R } g)(nest:Nat)(st:aB)(r:Int × aB)(w:World)(h:run E.toks E.depth (g+1) (.name nest) st=some r)(hp:PW E st w)(hn:r.2.nodes.length+1≤1099511627776)(bQ:nest≤E.depth) :
  Calls Tryz.prog 323 #[.pointer (some ⟨E.pb,0,none⟩),.int .i64 nest] w (dh E r w):=by
 by_cases hc:(ay E.toks st).2.clause=true∨aS E.toks (ay E.toks st).2 [[46],[40]]=false
 ·exact MJ E hE g nest st r w h hp hn bQ hc
 ·refine QK E hE g ih nest st r w h hp hn bQ ?_ ?_
  ·exact eq_false_of_ne_true fun q=>hc (.inl q)
  ·cases hq:aS E.toks (ay E.toks st).2 [[46],[40]] with
   | true=>rfl
   | false=>exact(hc (.inr hq)).elim
theorem Fg (E:aT)(hE:E.ok):∀ (g g':Nat),g'≤g→∀ R,Al { E with R:=R } g'
 | 0,g',hg,R=>by
  obtain rfl:g'=0:=by omega
  intro t st r w h;rw[run] at h;cases h
 | g+1,g',hg,R=>by
  have ih:=Fg E hE g
  by_cases h':g'≤g
  ·exact ih g' h' R
  ·obtain rfl:g'=g+1:=by omega
   intro t st r w h hp hn bQ;have hE':aT.ok { E with R:=R }:=hE;have i0:=ih g (Nat.le_refl _) R
   cases t with
   | expr nest=>exact QD { E with R:=R } hE' g i0 nest st r w h hp hn bQ
   | formula nest=>exact GR { E with R:=R } hE' g i0 nest st r w h hp hn bQ
   | part l nest=>exact QF { E with R:=R } g i0 l nest st r w h hp hn bQ
   | row l nest=>exact row_step { E with R:=R } hE' g (fun g' h'=>ih g' h' R) l nest st r w h hp hn bQ
   | loop l nest a=>trivial
   | neg nest=>exact Uf { E with R:=R } hE' g i0 nest st r w h hp hn bQ
   | factor nest=>exact JD { E with R:=R } hE' g i0 nest st r w h hp hn bQ
   | atom nest=>exact QH { E with R:=R } hE' g i0 nest st r w h hp hn bQ
   | name nest=>exact QL { E with R:=R } hE' g (fun R'=>ih g (Nat.le_refl _) R') nest st r w h hp hn bQ
theorem allT (E:aT)(hE:E.ok)(g:Nat):Al E g:=Fg E hE g g (Nat.le_refl _) E.R
theorem PW.mark {E:aT}{st:aB}{w:World}(h:PW E st w)(c:Bool):PW E { st with clause:=c } (w.setCell ⟨E.pb,2,none⟩ (.bool c))∧Kp E.B w (w.setCell ⟨E.pb,2,none⟩ (.bool c)):=by
 obtain⟨h1,h2,h3,h4,h5⟩:=h
 have hkeep:∀ (k:Nat) (cs:Array Value) (T:TypeId) (fr:Nat × Nat),w.heap[k]?=some (.cells cs T fr)→T≠188→(w.setCell ⟨E.pb,2,none⟩ (.bool c)).heap[k]?=some (.cells cs T fr):=fun k cs T fr h0 q=>by
  have hne:k≠E.pb:=by
   rintro rfl;rw[h1] at h0;simp only[Option.some.injEq,Obj.cells.injEq] at h0;exact q h0.2.1.symm
  rw[heap_setCell_other _ _ _ _ hne];exact h0
 have hb:Below E.B w (w.setCell ⟨E.pb,2,none⟩ (.bool c)):=(Below.refl _ _).setCell h4 _
 have hk:Kp E.B w (w.setCell ⟨E.pb,2,none⟩ (.bool c)):=⟨hb,fun k cs T fr h0 q1 _ _=>hkeep k cs T fr h0 q1⟩
 refine⟨⟨?_,?_,h3.below hb,h4,h5.1,fun r hr=>Nat.lt_of_lt_of_le (h5.2 r hr) hb.size⟩,hk⟩
 ·rw[heap_setCell_same w E.pb 2 _ _ _ h1]
  rfl
 ·obtain⟨b1,nv,l,b2,b3,b4,b5⟩:=h2
  refine⟨b1,nv,l,hkeep _ _ _ _ b2 (by decide),b3,?_,fun p hp=>(b5 p hp).kept hk⟩;exact iD b4 (own_ne b4 h1 (by decide)) _
def ZT (E:aT)(st:aB)(w:World)(e:Ending)(w':World):Prop:=e=.returned (.tuple #[])∧PW E st w'∧Kp E.B w w'
theorem Tryz.Ur:(Tryz.prog.info? 136).map (fun i=>(i.zero,i.size,i.bytes))=some (some (.agg #[.int .i64 0,.string ⟨#[]⟩,.string ⟨#[]⟩,.int .i64 0]),4,48):=by kernel_rfl
def Us (toks:List Tok)(w:World)(e:Ending)(w':World):Prop:=∃ v',e=.returned v'∧w'.ownsRow w.heap.size 136 4 v' toks.length (toks.flatMap bV)∧Below w.heap.size w w'
theorem BO (B:Nat)(tv:Value)(toks:List Tok)(w:World)(h:Rec B w tv 4 bV toks)(h0:0<toks.length)(hn:toks.length≤1099511627776) :
  Calls Tryz.prog 163 #[tv] w (Us toks w):=by
 obtain⟨i0,hi,hz0,hz1,hz2⟩:=info_parts Tryz.Ur;obtain⟨ao,cap,rfl,hcap,hlen,hf⟩:=h;obtain⟨b,off,rfl,hB,hcell⟩:=hf h0;have A:=ah hcell;have HLEN:=ah hlen
 have hu:∀ u∈toks.flatMap bV,u.oneCell'=true:=by
  intro u hu;obtain⟨t,_,ht⟩:=List.mem_flatMap.1 hu;simp only[bV,List.mem_cons,List.not_mem_nil,or_false] at ht
  rcases ht with rfl|rfl|rfl|rfl<;>rfl
 have HU:=ah hu;clear hcell hf hlen hu
 have q22:∀ (w:World) (a:Option Addr) (n c n' c':Nat),(binOp .eql 86 (.slice a n c) (.slice none n' c')).run Tryz.prog w=.ok (.bool a.isNone) w:=fun w a n c n' c'=>Lib.run_eql_slice_nil w _ _ a n c n' c' Tryz.underlying86
 have u22:∀ w,Sem.run Tryz.prog (underlying 86) w=.ok (TypeDesc.slice 136) w:=run_underlying Tryz.underlying86;go_enter Tryz.func163,Tryz.ntmps163;go_wp2_with (at_builtin;refine wpList_append_own _ rfl _ _ 86 rfl w.heap.size 136 i0 (.agg #[.int .i64 0,.string ⟨#[]⟩,.string ⟨#[]⟩,.int .i64 0]) 4 48 Tryz.underlying86 hi hz0 hz1 hz2 rfl (by decide) _ _ _ rfl (World.ownsRow_made w #[] 0 (Nat.le_refl _) (Nat.zero_le _) rfl) ⟨b,off,none⟩ toks.length cap (toks.flatMap bV) rfl ?qc1 ?qc2 ?qc3 ?qc4 ?qc5 ?qc6 ?_)
 case qc1=>exact HLEN.out
 case qc2 =>
  intro j u hj;obtain⟨h1,h2⟩:=mR hj;rw[Addr.add_lit];refine Lib.cell?_alloc_some _ ?_;rw[A.out j h1,h2]
 case qc3=>exact HU.out
 case qc4=>unfold maxLen;omega
 case qc5=>omega
 case qc6=>simp
 intro v' w1 hown hgrow hnil;go_wp2;go_ret;refine⟨v',rfl,by simpa using hown,?_⟩;exact((Below.refl _ w).alloc (Nat.le_refl _) _).grown hgrow (by simp) (by intro k hk;simp[Value.ownBlock] at hk;omega)
def aaM (toks:List Tok)(w:World)(e:Ending)(w':World):Prop :=
 ∃ (bb B:Nat) (tv:Value),e=.returned (.pointer (some ⟨bb,0,none⟩))∧BW [] B bb tv 0 [] w'∧Rec B w' tv 4 bV toks∧w.heap.size≤B∧Below w.heap.size w w'
theorem Ut (B:Nat)(tv:Value)(toks:List Tok)(w:World)(h:Rec B w tv 4 bV toks)(h0:0<toks.length)(hn:toks.length≤1099511627776) :
  Calls Tryz.prog 100 #[tv] w (aaM toks w):=by
 have HC:=ah (BO B tv toks w h h0 hn);obtain⟨ao,cap,rfl,_,_,_⟩:=h;go_enter Tryz.func100,Tryz.ntmps100;go_wp2_with (go_at_call 163;refine HC.out.mono ?_);rintro e w1 ⟨v',rfl,hown,hb⟩;obtain⟨g,c5,rfl,hg1,hg2⟩:=hown.form h0;go_wp2;go_ret;have hb1:=aj w1 (.cells #[.slice (some ⟨g,0,none⟩) toks.length c5,.slice none 0 0,.int .i64 0] 245);refine⟨w1.heap.size,w1.heap.size,_,rfl,⟨Nat.le_refl _,.slice none 0 0,[],heap_alloc_new _ _,rfl,World.ownsRow_nil _ _ _ _,fun p hp=>by cases hp⟩,?_,hb.size,hb.trans (hb1.mono hb.size)⟩;exact(Sl.fF hown).below hb1
theorem uD {P:Program}{ops:Array Oper}{o:Oper}{a:Act}{w:World}{K:Act→World→Prop}{Q:Exit→Act→World→Prop}{E:Prop}
  (hg:o.guard=none) (f:Nat) (xs:Array Operand) (ts:Array TypeId) (hop:o.op=Op.call { callee:=Callee.value (Operand.func f),args:=xs,argTypes:=ts })
  {args:Array Value} {R:Ending→World→Prop} (hc:Calls P f args w R) (hargs:xs.toList.map a.eval=args.toList) (henter:(callFunc f args).run P w=.ok (.enter f args) w)
  (hK:∀ e w',R e w'→∃ v,e=.returned v∧K (a.put o.dst v) w') :
  if Region.wanted o (yielded ops a.tmps)=true then Oper.wp P o a w K Q else E:=by
 have hw:Region.wanted o (yielded ops a.tmps)=true:=by simp[Region.wanted,hg]
 rw[if_pos hw]
 have hm:xs.map a.eval=args:=by
  apply Array.ext'
  rw[Array.toList_map,hargs]
 have hrun:(execOp a.eval o).run P w=.ok (.enter f args) w:=by
  simp[execOp,hop,resolve,invoke,Act.eval,hm,henter,Deferred.ofValue,go_sem]
 unfold Oper.wp;rw[hrun,Oper.upon_enter]
 refine hc.mono fun e w' hR=>?_
 obtain⟨v,rfl,h⟩:=hK e w' hR;exact h
end Go.Proofs.YtknicmmigbhpcaaGreatDoor
