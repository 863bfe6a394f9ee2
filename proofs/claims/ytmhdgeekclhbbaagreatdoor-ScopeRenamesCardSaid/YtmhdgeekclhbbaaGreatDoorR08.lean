/- Walks and plain laws: ParseW16, ParseW17, ParseW18, ParseW19, ParseW20, StepCall, ReadW3, ZedW1, ReadLaws. -/
import Derived.Test.YtmhdgeekclhbbaaGreatDoorR07
import Derived.Laws.AppendOwnNone
import Derived.Lib.SliceRun
import Derived.Shelf.Abstract
set_option maxHeartbeats 16000000
set_option maxRecDepth 100000
set_option linter.unusedVariables false
set_option linter.unusedSimpArgs false
namespace Go.Proofs.YtmhdgeekclhbbaaGreatDoor
open Go.RowKit Go
theorem wT {w:World}{b off:Nat}{cs:Array Value}{fr:Nat × Nat}{ks:List Int}(hh:w.heap[b]?=some (.cells cs 3 fr))(hj:∀ j,(h:j<ks.length)→cs[off+j]?=some (.int .i64 ks[j])) :
  ∀ j u,(ks.map (Value.int .i64))[j]?=some u→w.cell? ((⟨b,off,none⟩:Addr).add j)=some u:=fun j u hu=>by
 obtain⟨h1,h2⟩:=pJ hu;rw[List.length_map] at h1
 have hadd:(⟨b,off,none⟩:Addr).add j=⟨b,off+j,none⟩:=by unfold Addr.add;split<;>simp_all
 rw[hadd,cell_of_row w b (off+j) cs _ fr hh,hj j h1,← h2,List.getElem_map]
theorem jv.aA {E:bG}{W0:World}{R:List Nat}{v:Value}{ks kk:List Int}{s:aJ}{w:World}(h:jv E W0 R v ks s w)(e:ks=kk):eH w v kk:=by rw[← e];exact h.node
theorem jv.row {E:bG}{W0:World}{R:List Nat}{v:Value}{ks:List Int}{s:aJ}{w:World}{n:Nat}(h:jv E W0 R v ks s w)(e:ks.length=n):w.ownsRow W0.heap.size 3 1 v n (ks.map (Value.int .i64)):=by rw[← e];exact h.1
theorem dH (E:bG)(aF:Nat){w w':World}{R:List Nat}{v:Value}{ks:List Int}{s:aJ}(K:jv E (jr E aF w) R v ks s w'):w'.cell? ⟨w.heap.size,0,none⟩=some (.pointer (some ⟨E.pb,0,none⟩))∧w'.cell? ⟨E.pb,0,none⟩=some (.pointer (some ⟨E.bb,0,none⟩)) :=
 ⟨iR E aF K.2.2.2.2,(PW.cells K.2.2.2.1).1⟩
theorem UQ (E:bG)(hE:E.ok)(g:Nat)(ih:∀ R,CU { E with R:=R } g)(aF:Nat)(st:aJ)(r:Int × aJ)(w:World)(h:run E.ah E.depth (g+1) (.name aF) st=some r)(hp:PW E st w)(hn:r.2.aj.length+1≤1099511627776)(dG:aF≤E.depth)
  (hcl:(aD E.ah st).2.aC=false) (hx:bF E.ah (aD E.ah st).2 [[46],[40]]=true) :
  Calls Tryz.prog 319 #[.pointer (some ⟨E.pb,0,none⟩),.int .i64 aF] w (dZ E r w):=by
 have vg:=hE.2.2;obtain⟨i0,hi,hz0,hz1,hz2⟩:=info_parts Tryz.nG;rw[run,if_neg (by rw[hcl,hx];simp)] at h;have hA:PW E st (jr E aF w):=hp.later (rW E aF w);have uH:Kp E.B w (jr E aF w):=Kp.of (rW E aF w) hp.fq;have hBW:E.B≤(jr E aF w).heap.size:=hA.fq;obtain⟨l,h1,h⟩:=cK h
 injection h with h
 subst h
 have hmf:∀ (fn:Fn) (first cap:Array Value) (w:World),(Instr.makeFunc fn first cap).run Tryz.prog w=.ok (.func fn first cap) w:=fun _ _ _ _=>rfl
 have n6:=aK (aL _ _ _) hn;have n5:=aK (aM _ _ _) n6;have hlx:=mE E.ah _ (fun s k hk=>bg E.ah E.depth g _ _ _ hk) _ _ h1;have n4:=aK hlx n5;have n3:=aK (aM _ _ _) n4;have n2:=aK (AA E.ah (aD E.ah st)) n3;have n1:=aK (aO _ _) n2;have hll:=IB _ _ _ _ h1;have HL:=ay (fun w hp=>bT E st w hp hE.1 hE.2.1 n1);have hc:=ay hcl;clear hcl
 by_cases hd:bF E.ah (aD E.ah st).2 [[46]]=true
 ·have hqm:nU E.ah (aD E.ah st)=([(aD E.ah st).1,(aD E.ah (aD E.ah st).2).1,(bA E.ah 1 (aD E.ah (aD E.ah st).2).2).1],(bA E.ah 1 (aD E.ah (aD E.ah st).2).2).2):=by rw[nU,if_pos hd]
  clear hn hlx h;rw[hqm] at h1 n3 ⊢;dsimp only at h1 n3 ⊢;have n2a:=aK (fA _ _ _) n3;generalize hkk:(_++[(aH E.ah [[41]] l.2).1]:List Int)=kk;have HKK:=ay hkk;have HKL:Hid (kk.length≤1099511627776):=ay (by rw[← hkk];simp;omega);clear hkk;clear hqm;have hA':PW E st ((w.alloc (.cells #[.pointer (some ⟨E.pb,0,none⟩)] 123)).alloc (.cells #[.int .i64 aF] 3)):=hA;obtain⟨d0,_,_,_,_,_⟩:=hA'.cells;go_enter Tryz.func319,Tryz.ntmps319;go_wp2_with (go_at_call 162;refine(HL.out _ hA').mono ?_);rintro e w1 ⟨rfl,hp1,Er⟩;have hk1:Kp E.B (jr E aF w) w1:=Er;clear d0 Er hA';have K1:=jv.start (aD E.ah st).1 hp1 hk1;have p1:=iR E aF K1.2.2.2.2;obtain⟨_,_,c1,_,_,_⟩:=PW.cells K1.2.2.2.1;rw[hc.out] at c1;have XZ:=vR { E with R:=w1.heap.size :: E.R } hE ⟨#[46]⟩ ⟨#[40]⟩ (aD E.ah st).2 true hx _ K1.2.2.2.1;rw[show (w1.alloc (.cells #[.int .i64 (aD E.ah st).1] 3)).heap.size=w1.heap.size+1 by simp] at XZ;have HXB:=ay XZ;clear XZ;go_wp2_with (go_at_call 160;refine HXB.out.mono ?_);rintro e w2 ⟨rfl,hq,dn⟩;have K2:=K1.call hq dn;have p2:=iR E aF K2.2.2.2.2;clear hq dn c1 p1 K1 hp1 hk1 HXB;have HC:=ay (dW { E with R:=w1.heap.size :: E.R } hE ⟨#[46]⟩ (aD E.ah st).2 true hd _ K2.2.2.2.1);go_wp2_with (go_at_call 160;refine HC.out.mono ?_);rintro e w3 ⟨rfl,hq,dn⟩;have K3:=K2.call hq dn;clear hq dn HC;have p3:=iR E aF K3.2.2.2.2;obtain⟨d0,_,_,_,_,_⟩:=PW.cells K3.2.2.2.1;clear p2 K2;have K3d:jv E (jr E aF w) (w1.heap.size :: E.R) (.slice (some ⟨w1.heap.size,0,none⟩) 1 1) [(aD E.ah st).1] (aD E.ah st).2 w3.drew:=K3.call (PW.later K3.2.2.2.1 ((bI _ _).drew)) (Kp.of ((bI _ _).drew) K3.2.2.2.1.fq);have J6:=ay (bT { E with R:=w1.heap.size :: E.R } (aD E.ah st).2 _ K3d.2.2.2.1 hE.1 hE.2.1 n2);have zB:=ay (fun w hq=>sV { E with R:=w1.heap.size :: E.R } hE 1 (aD E.ah (aD E.ah st).2).2 w hq n2a);have aep:=ay K3d;clear K3d;go_wp2
  go_region_held3 (fun w'=>w'.cell? ⟨w.heap.size,0,none⟩=some (.pointer (some ⟨E.pb,0,none⟩))∧w'.cell? ⟨E.pb,0,none⟩=some (.pointer (some ⟨E.bb,0,none⟩))) (first|go_keep|exact p4|exact p5|exact p6)
   (first|(go_at_call 162;refine J6.out.mono ?_;rintro e w4 ⟨rfl,hq4,aer⟩;have K4:=aep.out.call hq4 aer;have p4:=dH E aF K4)|(go_at_call 102;refine(zB.out _ hq4).mono ?_;rintro e w5 ⟨rfl,xE,aes⟩;have K5:=K4.call xE aes;have p5:=dH E aF K5)|((refine step_append_lies _ (by rfl) _ _ _ (by rfl) (jr E aF w).heap.size 3 i0 _ 1 8 Tryz.underlying127 hi hz0 hz1 hz2 rfl (by omega) _ (1) _ (by rfl) (K5.lit _).1 ⟨w5.heap.size,0,none⟩ 2 2 [.int .i64 (aD E.ah (aD E.ah st).2).1,.int .i64 (bA E.ah 1 (aD E.ah (aD E.ah st).2).2).1] (by rfl) (by rfl) (vv (cs:=#[.int .i64 (aD E.ah (aD E.ah st).2).1,.int .i64 (bA E.ah 1 (aD E.ah (aD E.ah st).2).2).1]) (t:=3) (fr:=(0,0)) (aY w5 _)) (by simp[Value.oneCell']) (by omega) (by unfold maxLen;omega) (by omega) (K5.lit _).2.2.2.2.size (w5.heap.size+1) (by simp) ?_;intro g6 cap6 w6 hown6 nI X3 X4;obtain⟨R6,K6⟩:=(K5.lit (.cells #[.int .i64 (aD E.ah (aD E.ah st).2).1,.int .i64 (bA E.ah 1 (aD E.ah (aD E.ah st).2).2).1] 3)).app (news:=[(aD E.ah (aD E.ah st).2).1,(bA E.ah 1 (aD E.ah (aD E.ah st).2).2).1]) hBW (by simp) hown6 nI X3 (by simp) X4;have p6:=dH E aF K6)))
  clear hown6 nI X3 X4 p6 K5 K4 K3 p3 d0 p4 p5 J6 zB aep hq4 aer xE aes;have p6:=iR E aF K6.2.2.2.2;have HC:=ay (eu { E with R:=R6 } hE ⟨#[40]⟩ (bA E.ah 1 (aD E.ah (aD E.ah st).2).2).2 _ K6.2.2.2.1 n3);go_wp2_with (go_at_call 163;refine HC.out.mono ?_);rintro e w7 ⟨rfl,hq,dn⟩;have K7:=K6.call hq dn;clear hq dn HC;clear p6 K6;have hL8:=K7.lit (.cells #[.int .i64 (aH E.ah [[40]] (bA E.ah 1 (aD E.ah (aD E.ah st).2).2).2).1] 3);have X5:=aY w7 (.cells #[.int .i64 (aH E.ah [[40]] (bA E.ah 1 (aD E.ah (aD E.ah st).2).2).2).1] 3);go_wp2_with (at_builtin;refine wpList_append_lies _ rfl _ _ 127 rfl (jr E aF w).heap.size 3 i0 (.int .i64 0) 1 8 Tryz.underlying127 hi hz0 hz1 hz2 rfl (by decide) _ (3) _ rfl hL8.1 ⟨w7.heap.size,0,none⟩ 1 1 [.int .i64 (aH E.ah [[40]] (bA E.ah 1 (aD E.ah (aD E.ah st).2).2).2).1] rfl rfl ?c1 ?c2 ?c3 ?c4 ?c5 ?c6 _ rfl ?_)
  case c1=>exact vv (cs:=#[.int .i64 (aH E.ah [[40]] (bA E.ah 1 (aD E.ah (aD E.ah st).2).2).2).1]) (t:=3) (fr:=(0,0)) X5
  case c2=>simp[Value.oneCell']
  case c3=>omega
  case c4=>unfold maxLen;omega
  case c5=>omega
  case c6=>exact hL8.2.2.2.2.size
  intro g8 Qx w8 vT ou Ep yE;obtain⟨R8,K8⟩:=hL8.app (news:=[(aH E.ah [[40]] (bA E.ah 1 (aD E.ah (aD E.ah st).2).2).2).1]) hBW (by simp) vT ou Ep (by simp) yE;clear hL8 X5 vT ou Ep yE K7;have p8:=iR E aF K8.2.2.2.2;have HLs:=ay (Iy { E with R:=R8 } hE (fun s=>run E.ah E.depth g (.expr (aF+1)) s) w.heap.size (w.heap.size+1) (aH E.ah [[40]] (bA E.ah 1 (aD E.ah (aD E.ah st).2).2).2).2 l w8 h1 K8.2.2.2.1 n5 (fun s k hk=>bg E.ah E.depth g _ _ _ hk) (fun R s k w' hk hR hkk hnk=>Iz { E with R:=R } g aF _ _ (ih R) s k w' hk hR hnk dG vg (iR E aF (K8.2.2.2.2.trans hkk)) (SQ E aF (K8.2.2.2.2.trans hkk))));clear h1;go_wp2_with (go_at_call 164;refine HLs.out.mono ?_);rintro e w9 ⟨v,rfl,hiv,hnil,hq,dn⟩;have K9:=K8.call hq dn;clear hq dn HLs p8 K8
  by_cases hl0:l.1=[]
  ·obtain rfl:=hnil hl0
   go_wp2_with (at_builtin;refine wpList_append_own_none rfl _ _ 127 rfl (jr E aF w).heap.size 3 i0 1 Tryz.underlying127 hi _ (4) _ rfl K9.1 rfl ?_);go_wp2;have HKE:=ay (show [(aD E.ah st).1]++[(aD E.ah (aD E.ah st).2).1,(bA E.ah 1 (aD E.ah (aD E.ah st).2).2).1]++[(aH E.ah [[40]] (bA E.ah 1 (aD E.ah (aD E.ah st).2).2).2).1]++[(aH E.ah [[41]] l.2).1]=kk by rw[← HKK.out,hl0]<;>rfl);have Kd:=K9.call (PW.later K9.2.2.2.1 ((bI _ _).drew)) (Kp.of ((bI _ _).drew) K9.2.2.2.1.fq);have J6:=ay (eu { E with R:=R8 } hE ⟨#[41]⟩ l.2 w9.drew Kd.2.2.2.1 n5);have zB:=ay (fun R w v hq hv=>kS { E with R:=R } 13 v kk (aH E.ah [[41]] l.2).2 w hq hv HKL.out n6);have pd:=dH E aF Kd;have Ks:=K9.lit (.cells #[.string ⟨#[41]⟩] 9);have ps:=dH E aF (Ks.call (PW.later Ks.2.2.2.1 ((bI _ _).drew)) (Kp.of ((bI _ _).drew) Ks.2.2.2.1.fq));clear Ks;have HKd:=ay Kd;clear Kd
   go_region_held3 (fun w'=>w'.cell? ⟨w.heap.size,0,none⟩=some (.pointer (some ⟨E.pb,0,none⟩))∧w'.cell? ⟨E.pb,0,none⟩=some (.pointer (some ⟨E.bb,0,none⟩))) (first|go_keep|exact pd|exact ps|exact p11|exact p12|exact p13)
   (first|(go_at_call 163;refine J6.out.mono ?_;rintro e vU ⟨rfl,hq11,Es⟩;have A8:=HKd.out.call hq11 Es;have p11:=dH E aF A8)|((refine step_append_lies _ (by rfl) _ _ _ (by rfl) (jr E aF w).heap.size 3 i0 _ 1 8 Tryz.underlying127 hi hz0 hz1 hz2 rfl (by omega) _ (4) _ (by rfl) (jv.row (A8.lit _) (by simp<;>omega)) ⟨vU.heap.size,0,none⟩ 1 1 [.int .i64 (aH E.ah [[41]] l.2).1] (by rfl) (by rfl) (vv (cs:=#[.int .i64 (aH E.ah [[41]] l.2).1]) (t:=3) (fr:=(0,0)) (aY vU _)) (by simp[Value.oneCell']) (by omega) (by unfold maxLen;omega) (by omega) (A8.lit _).2.2.2.2.size (vU.heap.size+1) (by simp) ?_;intro g12 SS w12 yF uJ Et Eu;obtain⟨R12,Ar⟩:=(A8.lit (.cells #[.int .i64 (aH E.ah [[41]] l.2).1] 3)).app (news:=[(aH E.ah [[41]] l.2).1]) hBW (by simp<;>omega) yF uJ Et (by simp) Eu;have p12:=dH E aF Ar))|(go_at_call 101;refine(zB.out _ _ _ Ar.2.2.2.1 (Ar.aA HKE.out)).mono ?_;rintro e w13 ⟨rfl,QA,Ev⟩;have CZ:=Ar.call QA Ev;have p13:=dH E aF CZ))
   go_wp2;go_ret;exact⟨rfl,PR.drop CZ.2.2.2.1 CZ.2.2.1,uH.trans CZ.2.2.2.2⟩
  ·have hpos:0<l.1.length:=List.length_pos_iff.2 hl0
   obtain⟨ao,QB,rfl,hcv,hf⟩:=hiv;obtain⟨vb,vo,vcs,vfr,rfl,hh,hj⟩:=hf hpos;clear hnil hl0 hf;go_wp2_with (at_builtin;refine wpList_append_lies _ rfl _ _ 127 rfl (jr E aF w).heap.size 3 i0 (.int .i64 0) 1 8 Tryz.underlying127 hi hz0 hz1 hz2 rfl (by decide) _ (4) _ rfl K9.1 ⟨vb,vo,none⟩ l.1.length QB (l.1.map (Value.int .i64)) rfl (by simp) ?c1 ?c2 ?c3 ?c4 ?c5 ?c6 _ rfl ?_)
   case c1=>exact wT hh hj
   case c2=>intro u hu;obtain⟨y,_,rfl⟩:=List.mem_map.1 hu;rfl
   case c3=>exact hpos
   case c4=>unfold maxLen;omega
   case c5=>omega
   case c6=>exact K9.2.2.2.2.size
   intro g10 aeu mH Ew zI Nh Ni;obtain⟨R10,IC⟩:=K9.app (news:=l.1) hBW (by simp<;>omega) Ew zI Nh (by simp) Ni;clear Ew zI Nh Ni K9 hh hj;have p10:=iR E aF IC.2.2.2.2;clear p10;go_wp2;have HKE:=ay (show [(aD E.ah st).1]++[(aD E.ah (aD E.ah st).2).1,(bA E.ah 1 (aD E.ah (aD E.ah st).2).2).1]++[(aH E.ah [[40]] (bA E.ah 1 (aD E.ah (aD E.ah st).2).2).2).1]++l.1++[(aH E.ah [[41]] l.2).1]=kk by rw[← HKK.out]<;>rfl);have Kd:=IC.call (PW.later IC.2.2.2.1 ((bI _ _).drew)) (Kp.of ((bI _ _).drew) IC.2.2.2.1.fq);have J6:=ay (eu { E with R:=R10 } hE ⟨#[41]⟩ l.2 mH.drew Kd.2.2.2.1 n5);have zB:=ay (fun R w v hq hv=>kS { E with R:=R } 13 v kk (aH E.ah [[41]] l.2).2 w hq hv HKL.out n6);have pd:=dH E aF Kd;have Ks:=IC.lit (.cells #[.string ⟨#[41]⟩] 9);have ps:=dH E aF (Ks.call (PW.later Ks.2.2.2.1 ((bI _ _).drew)) (Kp.of ((bI _ _).drew) Ks.2.2.2.1.fq));clear Ks;have HKd:=ay Kd;clear Kd
   go_region_held3 (fun w'=>w'.cell? ⟨w.heap.size,0,none⟩=some (.pointer (some ⟨E.pb,0,none⟩))∧w'.cell? ⟨E.pb,0,none⟩=some (.pointer (some ⟨E.bb,0,none⟩))) (first|go_keep|exact pd|exact ps|exact p11|exact p12|exact p13)
   (first|(go_at_call 163;refine J6.out.mono ?_;rintro e vU ⟨rfl,hq11,Es⟩;have A8:=HKd.out.call hq11 Es;have p11:=dH E aF A8)|((refine step_append_lies _ (by rfl) _ _ _ (by rfl) (jr E aF w).heap.size 3 i0 _ 1 8 Tryz.underlying127 hi hz0 hz1 hz2 rfl (by omega) _ (4+l.1.length) _ (by rfl) (jv.row (A8.lit _) (by simp<;>omega)) ⟨vU.heap.size,0,none⟩ 1 1 [.int .i64 (aH E.ah [[41]] l.2).1] (by rfl) (by rfl) (vv (cs:=#[.int .i64 (aH E.ah [[41]] l.2).1]) (t:=3) (fr:=(0,0)) (aY vU _)) (by simp[Value.oneCell']) (by omega) (by unfold maxLen;omega) (by omega) (A8.lit _).2.2.2.2.size (vU.heap.size+1) (by simp) ?_;intro g12 SS w12 yF uJ Et Eu;obtain⟨R12,Ar⟩:=(A8.lit (.cells #[.int .i64 (aH E.ah [[41]] l.2).1] 3)).app (news:=[(aH E.ah [[41]] l.2).1]) hBW (by simp<;>omega) yF uJ Et (by simp) Eu;have p12:=dH E aF Ar))|(go_at_call 101;refine(zB.out _ _ _ Ar.2.2.2.1 (Ar.aA HKE.out)).mono ?_;rintro e w13 ⟨rfl,QA,Ev⟩;have CZ:=Ar.call QA Ev;have p13:=dH E aF CZ))
   go_wp2;go_ret;exact⟨rfl,PR.drop CZ.2.2.2.1 CZ.2.2.1,uH.trans CZ.2.2.2.2⟩
 ·have hqm:nU E.ah (aD E.ah st)=([(aD E.ah st).1],(aD E.ah st).2):=by rw[nU,if_neg hd]
  clear hn hlx h;rw[hqm] at h1 n3 ⊢;dsimp only at h1 n3 ⊢;generalize hkk:(_++[(aH E.ah [[41]] l.2).1]:List Int)=kk;have HKK:=ay hkk;have HKL:Hid (kk.length≤1099511627776):=ay (by rw[← hkk];simp;omega);clear hkk;clear hqm;have hA':PW E st ((w.alloc (.cells #[.pointer (some ⟨E.pb,0,none⟩)] 123)).alloc (.cells #[.int .i64 aF] 3)):=hA;obtain⟨d0,_,_,_,_,_⟩:=hA'.cells;go_enter Tryz.func319,Tryz.ntmps319;go_wp2_with (go_at_call 162;refine(HL.out _ hA').mono ?_);rintro e w1 ⟨rfl,hp1,Er⟩;have hk1:Kp E.B (jr E aF w) w1:=Er;clear d0 Er hA';have K1:=jv.start (aD E.ah st).1 hp1 hk1;have p1:=iR E aF K1.2.2.2.2;obtain⟨_,_,c1,_,_,_⟩:=PW.cells K1.2.2.2.1;rw[hc.out] at c1;have XZ:=vR { E with R:=w1.heap.size :: E.R } hE ⟨#[46]⟩ ⟨#[40]⟩ (aD E.ah st).2 true hx _ K1.2.2.2.1;rw[show (w1.alloc (.cells #[.int .i64 (aD E.ah st).1] 3)).heap.size=w1.heap.size+1 by simp] at XZ;have HXB:=ay XZ;clear XZ;go_wp2_with (go_at_call 160;refine HXB.out.mono ?_);rintro e w2 ⟨rfl,hq,dn⟩;have K2:=K1.call hq dn;have p2:=iR E aF K2.2.2.2.2;clear hq dn c1 p1 K1 hp1 hk1 HXB;have HC:=ay (dW { E with R:=w1.heap.size :: E.R } hE ⟨#[46]⟩ (aD E.ah st).2 false (eq_false_of_ne_true hd) _ K2.2.2.2.1);go_wp2_with (go_at_call 160;refine HC.out.mono ?_);rintro e w3 ⟨rfl,hq,dn⟩;have K3:=K2.call hq dn;clear hq dn HC;have p3:=iR E aF K3.2.2.2.2;clear p2 K2;have HC:=ay (eu { E with R:=w1.heap.size :: E.R } hE ⟨#[40]⟩ (aD E.ah st).2 _ K3.2.2.2.1 n3);go_wp2_with (go_at_call 163;refine HC.out.mono ?_);rintro e w7 ⟨rfl,hq,dn⟩;have K7:=K3.call hq dn;clear hq dn HC;clear p3 K3;have hL8:=K7.lit (.cells #[.int .i64 (aH E.ah [[40]] (aD E.ah st).2).1] 3);have X5:=aY w7 (.cells #[.int .i64 (aH E.ah [[40]] (aD E.ah st).2).1] 3)
  go_wp2_with (at_builtin;refine wpList_append_lies _ rfl _ _ 127 rfl (jr E aF w).heap.size 3 i0 (.int .i64 0) 1 8 Tryz.underlying127 hi hz0 hz1 hz2 rfl (by decide) _ (1) _ rfl hL8.1 ⟨w7.heap.size,0,none⟩ 1 1 [.int .i64 (aH E.ah [[40]] (aD E.ah st).2).1] rfl rfl ?c1 ?c2 ?c3 ?c4 ?c5 ?c6 _ rfl ?_)
  case c1=>exact vv (cs:=#[.int .i64 (aH E.ah [[40]] (aD E.ah st).2).1]) (t:=3) (fr:=(0,0)) X5
  case c2=>simp[Value.oneCell']
  case c3=>omega
  case c4=>unfold maxLen;omega
  case c5=>omega
  case c6=>exact hL8.2.2.2.2.size
  intro g8 Qx w8 vT ou Ep yE;obtain⟨R8,K8⟩:=hL8.app (news:=[(aH E.ah [[40]] (aD E.ah st).2).1]) hBW (by simp) vT ou Ep (by simp) yE;clear hL8 X5 vT ou Ep yE K7;have p8:=iR E aF K8.2.2.2.2;have HLs:=ay (Iy { E with R:=R8 } hE (fun s=>run E.ah E.depth g (.expr (aF+1)) s) w.heap.size (w.heap.size+1) (aH E.ah [[40]] (aD E.ah st).2).2 l w8 h1 K8.2.2.2.1 n5 (fun s k hk=>bg E.ah E.depth g _ _ _ hk) (fun R s k w' hk hR hkk hnk=>Iz { E with R:=R } g aF _ _ (ih R) s k w' hk hR hnk dG vg (iR E aF (K8.2.2.2.2.trans hkk)) (SQ E aF (K8.2.2.2.2.trans hkk))));clear h1;go_wp2_with (go_at_call 164;refine HLs.out.mono ?_);rintro e w9 ⟨v,rfl,hiv,hnil,hq,dn⟩;have K9:=K8.call hq dn;clear hq dn HLs p8 K8
  by_cases hl0:l.1=[]
  ·obtain rfl:=hnil hl0
   go_wp2_with (at_builtin;refine wpList_append_own_none rfl _ _ 127 rfl (jr E aF w).heap.size 3 i0 1 Tryz.underlying127 hi _ (2) _ rfl K9.1 rfl ?_);go_wp2;have HKE:=ay (show [(aD E.ah st).1]++[(aH E.ah [[40]] (aD E.ah st).2).1]++[(aH E.ah [[41]] l.2).1]=kk by rw[← HKK.out,hl0]<;>rfl);have Kd:=K9.call (PW.later K9.2.2.2.1 ((bI _ _).drew)) (Kp.of ((bI _ _).drew) K9.2.2.2.1.fq);have J6:=ay (eu { E with R:=R8 } hE ⟨#[41]⟩ l.2 w9.drew Kd.2.2.2.1 n5);have zB:=ay (fun R w v hq hv=>kS { E with R:=R } 13 v kk (aH E.ah [[41]] l.2).2 w hq hv HKL.out n6);have pd:=dH E aF Kd;have Ks:=K9.lit (.cells #[.string ⟨#[41]⟩] 9);have ps:=dH E aF (Ks.call (PW.later Ks.2.2.2.1 ((bI _ _).drew)) (Kp.of ((bI _ _).drew) Ks.2.2.2.1.fq));clear Ks;have HKd:=ay Kd;clear Kd
   go_region_held3 (fun w'=>w'.cell? ⟨w.heap.size,0,none⟩=some (.pointer (some ⟨E.pb,0,none⟩))∧w'.cell? ⟨E.pb,0,none⟩=some (.pointer (some ⟨E.bb,0,none⟩))) (first|go_keep|exact pd|exact ps|exact p11|exact p12|exact p13)
   (first|(go_at_call 163;refine J6.out.mono ?_;rintro e vU ⟨rfl,hq11,Es⟩;have A8:=HKd.out.call hq11 Es;have p11:=dH E aF A8)|((refine step_append_lies _ (by rfl) _ _ _ (by rfl) (jr E aF w).heap.size 3 i0 _ 1 8 Tryz.underlying127 hi hz0 hz1 hz2 rfl (by omega) _ (2) _ (by rfl) (jv.row (A8.lit _) (by simp<;>omega)) ⟨vU.heap.size,0,none⟩ 1 1 [.int .i64 (aH E.ah [[41]] l.2).1] (by rfl) (by rfl) (vv (cs:=#[.int .i64 (aH E.ah [[41]] l.2).1]) (t:=3) (fr:=(0,0)) (aY vU _)) (by simp[Value.oneCell']) (by omega) (by unfold maxLen;omega) (by omega) (A8.lit _).2.2.2.2.size (vU.heap.size+1) (by simp) ?_;intro g12 SS w12 yF uJ Et Eu;obtain⟨R12,Ar⟩:=(A8.lit (.cells #[.int .i64 (aH E.ah [[41]] l.2).1] 3)).app (news:=[(aH E.ah [[41]] l.2).1]) hBW (by simp<;>omega) yF uJ Et (by simp) Eu;have p12:=dH E aF Ar))|(go_at_call 101;refine(zB.out _ _ _ Ar.2.2.2.1 (Ar.aA HKE.out)).mono ?_;rintro e w13 ⟨rfl,QA,Ev⟩;have CZ:=Ar.call QA Ev;have p13:=dH E aF CZ))
   go_wp2;go_ret;exact⟨rfl,PR.drop CZ.2.2.2.1 CZ.2.2.1,uH.trans CZ.2.2.2.2⟩
  ·have hpos:0<l.1.length:=List.length_pos_iff.2 hl0
   obtain⟨ao,QB,rfl,hcv,hf⟩:=hiv;obtain⟨vb,vo,vcs,vfr,rfl,hh,hj⟩:=hf hpos;clear hnil hl0 hf;go_wp2_with (at_builtin;refine wpList_append_lies _ rfl _ _ 127 rfl (jr E aF w).heap.size 3 i0 (.int .i64 0) 1 8 Tryz.underlying127 hi hz0 hz1 hz2 rfl (by decide) _ (2) _ rfl K9.1 ⟨vb,vo,none⟩ l.1.length QB (l.1.map (Value.int .i64)) rfl (by simp) ?c1 ?c2 ?c3 ?c4 ?c5 ?c6 _ rfl ?_)
   case c1=>exact wT hh hj
   case c2=>intro u hu;obtain⟨y,_,rfl⟩:=List.mem_map.1 hu;rfl
   case c3=>exact hpos
   case c4=>unfold maxLen;omega
   case c5=>omega
   case c6=>exact K9.2.2.2.2.size
   intro g10 aeu mH Ew zI Nh Ni;obtain⟨R10,IC⟩:=K9.app (news:=l.1) hBW (by simp<;>omega) Ew zI Nh (by simp) Ni;clear Ew zI Nh Ni K9 hh hj;have p10:=iR E aF IC.2.2.2.2;clear p10;go_wp2;have HKE:=ay (show [(aD E.ah st).1]++[(aH E.ah [[40]] (aD E.ah st).2).1]++l.1++[(aH E.ah [[41]] l.2).1]=kk by rw[← HKK.out]<;>rfl);have Kd:=IC.call (PW.later IC.2.2.2.1 ((bI _ _).drew)) (Kp.of ((bI _ _).drew) IC.2.2.2.1.fq);have J6:=ay (eu { E with R:=R10 } hE ⟨#[41]⟩ l.2 mH.drew Kd.2.2.2.1 n5);have zB:=ay (fun R w v hq hv=>kS { E with R:=R } 13 v kk (aH E.ah [[41]] l.2).2 w hq hv HKL.out n6);have pd:=dH E aF Kd;have Ks:=IC.lit (.cells #[.string ⟨#[41]⟩] 9);have ps:=dH E aF (Ks.call (PW.later Ks.2.2.2.1 ((bI _ _).drew)) (Kp.of ((bI _ _).drew) Ks.2.2.2.1.fq));clear Ks;have HKd:=ay Kd;clear Kd
   go_region_held3 (fun w'=>w'.cell? ⟨w.heap.size,0,none⟩=some (.pointer (some ⟨E.pb,0,none⟩))∧w'.cell? ⟨E.pb,0,none⟩=some (.pointer (some ⟨E.bb,0,none⟩))) (first|go_keep|exact pd|exact ps|exact p11|exact p12|exact p13)
   (first|(go_at_call 163;refine J6.out.mono ?_;rintro e vU ⟨rfl,hq11,Es⟩;have A8:=HKd.out.call hq11 Es;have p11:=dH E aF A8)|((refine step_append_lies _ (by rfl) _ _ _ (by rfl) (jr E aF w).heap.size 3 i0 _ 1 8 Tryz.underlying127 hi hz0 hz1 hz2 rfl (by omega) _ (2+l.1.length) _ (by rfl) (jv.row (A8.lit _) (by simp<;>omega)) ⟨vU.heap.size,0,none⟩ 1 1 [.int .i64 (aH E.ah [[41]] l.2).1] (by rfl) (by rfl) (vv (cs:=#[.int .i64 (aH E.ah [[41]] l.2).1]) (t:=3) (fr:=(0,0)) (aY vU _)) (by simp[Value.oneCell']) (by omega) (by unfold maxLen;omega) (by omega) (A8.lit _).2.2.2.2.size (vU.heap.size+1) (by simp) ?_;intro g12 SS w12 yF uJ Et Eu;obtain⟨R12,Ar⟩:=(A8.lit (.cells #[.int .i64 (aH E.ah [[41]] l.2).1] 3)).app (news:=[(aH E.ah [[41]] l.2).1]) hBW (by simp<;>omega) yF uJ Et (by simp) Eu;have p12:=dH E aF Ar))|(go_at_call 101;refine(zB.out _ _ _ Ar.2.2.2.1 (Ar.aA HKE.out)).mono ?_;rintro e w13 ⟨rfl,QA,Ev⟩;have CZ:=Ar.call QA Ev;have p13:=dH E aF CZ))
   go_wp2;go_ret;exact⟨rfl,PR.drop CZ.2.2.2.1 CZ.2.2.1,uH.trans CZ.2.2.2.2⟩
theorem UR (E:bG)(hE:E.ok)(g:Nat)(ih:∀ R,CU { E with R:=R } g)(aF:Nat)(st:aJ)(r:Int × aJ)(w:World)(h:run E.ah E.depth (g+1) (.name aF) st=some r)(hp:PW E st w)(hn:r.2.aj.length+1≤1099511627776)(dG:aF≤E.depth) :
  Calls Tryz.prog 319 #[.pointer (some ⟨E.pb,0,none⟩),.int .i64 aF] w (dZ E r w):=by
 by_cases hc:(aD E.ah st).2.aC=true∨bF E.ah (aD E.ah st).2 [[46],[40]]=false
 ·exact Qz E hE g aF st r w h hp hn dG hc
 ·refine UQ E hE g ih aF st r w h hp hn dG ?_ ?_
  ·exact eq_false_of_ne_true fun q=>hc (.inl q)
  ·cases hq:bF E.ah (aD E.ah st).2 [[46],[40]] with
   | true=>rfl
   | false=>exact(hc (.inr hq)).elim
theorem IE (E:bG)(hE:E.ok):∀ (g g':Nat),g'≤g→∀ R,CU { E with R:=R } g'
 | 0,g',hg,R=>by
  obtain rfl:g'=0:=by omega
  intro t st r w h;rw[run] at h;cases h
 | g+1,g',hg,R=>by
  have ih:=IE E hE g
  by_cases h':g'≤g
  ·exact ih g' h' R
  ·obtain rfl:g'=g+1:=by omega
   intro t st r w h hp hn dG;have hE':bG.ok { E with R:=R }:=hE;have i0:=ih g (bD _) R
   cases t with
   | expr aF=>exact UK { E with R:=R } hE' g i0 aF st r w h hp hn dG
   | formula aF=>exact J3 { E with R:=R } hE' g i0 aF st r w h hp hn dG
   | part l aF=>exact UM { E with R:=R } g i0 l aF st r w h hp hn dG
   | row l aF=>exact row_step { E with R:=R } hE' g (fun g' h'=>ih g' h' R) l aF st r w h hp hn dG
   | loop l aF a=>trivial
   | neg aF=>exact XM { E with R:=R } hE' g i0 aF st r w h hp hn dG
   | factor aF=>exact Nc { E with R:=R } hE' g i0 aF st r w h hp hn dG
   | atom aF=>exact UO { E with R:=R } hE' g i0 aF st r w h hp hn dG
   | name aF=>exact UR { E with R:=R } hE' g (fun R'=>ih g (bD _) R') aF st r w h hp hn dG
theorem allT (E:bG)(hE:E.ok)(g:Nat):CU E g:=IE E hE g g (bD _) E.R
theorem PW.mark {E:bG}{st:aJ}{w:World}(h:PW E st w)(c:Bool):PW E { st with aC:=c } (w.setCell ⟨E.pb,2,none⟩ (.bool c))∧Kp E.B w (w.setCell ⟨E.pb,2,none⟩ (.bool c)):=by
 obtain⟨h1,h2,h3,h4,h5⟩:=h
 have hkeep:∀ (k:Nat) (cs:Array Value) (T:TypeId) (fr:Nat × Nat),w.heap[k]?=some (.cells cs T fr)→T≠184→(w.setCell ⟨E.pb,2,none⟩ (.bool c)).heap[k]?=some (.cells cs T fr):=fun k cs T fr h0 q=>by
  have hne:k≠E.pb:=by
   rintro rfl;rw[h1] at h0;simp only[Option.some.injEq,Obj.cells.injEq] at h0;exact q h0.2.1.symm
  rw[heap_setCell_other _ _ _ _ hne];exact h0
 have hb:Below E.B w (w.setCell ⟨E.pb,2,none⟩ (.bool c)):=(bI _ _).setCell h4 _
 have hk:Kp E.B w (w.setCell ⟨E.pb,2,none⟩ (.bool c)):=⟨hb,fun k cs T fr h0 q1 _ _=>hkeep k cs T fr h0 q1⟩
 refine⟨⟨?_,?_,h3.below hb,h4,h5.1,fun r hr=>Nat.lt_of_lt_of_le (h5.2 r hr) hb.size⟩,hk⟩
 ·rw[heap_setCell_same w E.pb 2 _ _ _ h1]
  rfl
 ·obtain⟨b1,nv,l,b2,b3,b4,b5⟩:=h2
  refine⟨b1,nv,l,hkeep _ _ _ _ b2 (by decide),b3,?_,fun p hp=>(b5 p hp).kept hk⟩;exact iP b4 (own_ne b4 h1 (by decide)) _
def acr (E:bG)(st:aJ)(w:World)(e:Ending)(w':World):Prop:=e=.returned (.tuple #[])∧PW E st w'∧Kp E.B w w'
theorem Tryz.X6:(Tryz.prog.info? 131).map (fun i=>(i.zero,i.size,i.bytes))=some (some (.agg #[.int .i64 0,.string ⟨#[]⟩,.string ⟨#[]⟩,.int .i64 0]),4,48):=by kernel_rfl
def X7 (ah:List Tok)(w:World)(e:Ending)(w':World):Prop:=∃ v',e=.returned v'∧w'.ownsRow w.heap.size 131 4 v' ah.length (ah.flatMap bV)∧Below w.heap.size w w'
theorem Ey (B:Nat)(tv:Value)(ah:List Tok)(w:World)(h:Rec B w tv 4 bV ah)(h0:0<ah.length)(hn:ah.length≤1099511627776) :
  Calls Tryz.prog 158 #[tv] w (X7 ah w):=by
 obtain⟨i0,hi,hz0,hz1,hz2⟩:=info_parts Tryz.X6;obtain⟨ao,cap,rfl,hcap,hlen,hf⟩:=h;obtain⟨b,off,rfl,hB,hcell⟩:=hf h0;have A:=ay hcell;have HLEN:=ay hlen
 have hu:∀ u∈ah.flatMap bV,u.oneCell'=true:=by
  intro u hu;obtain⟨t,_,ht⟩:=List.mem_flatMap.1 hu;simp only[bV,List.mem_cons,List.not_mem_nil,or_false] at ht
  rcases ht with rfl|rfl|rfl|rfl<;>rfl
 have HU:=ay hu;clear hcell hf hlen hu
 have q22:∀ (w:World) (a:Option Addr) (n c n' c':Nat),(binOp .eql 78 (.slice a n c) (.slice none n' c')).run Tryz.prog w=.ok (.bool a.isNone) w:=fun w a n c n' c'=>Lib.run_eql_slice_nil w _ _ a n c n' c' Tryz.underlying78
 have u22:∀ w,Sem.run Tryz.prog (underlying 78) w=.ok (TypeDesc.slice 131) w:=run_underlying Tryz.underlying78;go_enter Tryz.func158,Tryz.ntmps158;go_wp2_with (at_builtin;refine wpList_append_own _ rfl _ _ 78 rfl w.heap.size 131 i0 (.agg #[.int .i64 0,.string ⟨#[]⟩,.string ⟨#[]⟩,.int .i64 0]) 4 48 Tryz.underlying78 hi hz0 hz1 hz2 rfl (by decide) _ _ _ rfl (World.ownsRow_made w #[] 0 (bD _) (lI _) rfl) ⟨b,off,none⟩ ah.length cap (ah.flatMap bV) rfl ?qc1 ?qc2 ?qc3 ?qc4 ?qc5 ?qc6 ?_)
 case qc1=>exact HLEN.out
 case qc2 =>
  intro j u hj;obtain⟨h1,h2⟩:=pJ hj;rw[Addr.add_lit];refine Lib.cell?_alloc_some _ ?_;rw[A.out j h1,h2]
 case qc3=>exact HU.out
 case qc4=>unfold maxLen;omega
 case qc5=>omega
 case qc6=>simp
 intro v' w1 hown hgrow hnil;go_wp2;go_ret;refine⟨v',rfl,by simpa using hown,?_⟩;exact((bI _ w).alloc (bD _) _).grown hgrow (by simp) (by intro k hk;simp[Value.ownBlock] at hk;omega)
def ac4 (ah:List Tok)(w:World)(e:Ending)(w':World):Prop :=
 ∃ (bb B:Nat) (tv:Value),e=.returned (.pointer (some ⟨bb,0,none⟩))∧BW [] B bb tv 0 [] w'∧Rec B w' tv 4 bV ah∧w.heap.size≤B∧Below w.heap.size w w'
theorem X8 (B:Nat)(tv:Value)(ah:List Tok)(w:World)(h:Rec B w tv 4 bV ah)(h0:0<ah.length)(hn:ah.length≤1099511627776) :
  Calls Tryz.prog 95 #[tv] w (ac4 ah w):=by
 have HC:=ay (Ey B tv ah w h h0 hn);obtain⟨ao,cap,rfl,_,_,_⟩:=h;go_enter Tryz.func95,Tryz.ntmps95;go_wp2_with (go_at_call 158;refine HC.out.mono ?_);rintro e w1 ⟨v',rfl,hown,hb⟩;obtain⟨g,c5,rfl,hg1,hg2⟩:=hown.form h0;go_wp2;go_ret;have hb1:=aB w1 (.cells #[.slice (some ⟨g,0,none⟩) ah.length c5,.slice none 0 0,.int .i64 0] 241);refine⟨w1.heap.size,w1.heap.size,_,rfl,⟨bD _,.slice none 0 0,[],aY _ _,rfl,World.ownsRow_nil _ _ _ _,fun p hp=>by cases hp⟩,?_,hb.size,hb.trans (hb1.mono hb.size)⟩;exact(Sl.fZ hown).below hb1
theorem tq {P:Program}{ops:Array Oper}{o:Oper}{a:Act}{w:World}{K:Act→World→Prop}{Q:Exit→Act→World→Prop}{E:Prop}
  (hg:o.guard=none) (f:Nat) (xs:Array Operand) (ts:Array TypeId) (hop:o.op=Op.call { callee:=Callee.value (Operand.func f),args:=xs,argTypes:=ts })
  {args:Array Value} {R:Ending→World→Prop} (hc:Calls P f args w R) (hargs:xs.toList.map a.eval=args.toList) (henter:(callFunc f args).run P w=.ok (.enter f args) w)
  (hK:∀ e w',R e w'→∃ v,e=.returned v∧K (a.put o.dst v) w') :
  if Region.wanted o (yielded ops a.tmps)=true then Oper.wp P o a w K Q else E:=by
 have hw:Region.wanted o (yielded ops a.tmps)=true:=by simp[Region.wanted,hg]
 rw[if_pos hw]
 have hm:xs.map a.eval=args:=by
  apply Array.ext'
  rw[Array.toList_map,hargs]
 have hrun:(execOp a.eval o).run P w=.ok (.enter f args) w:=by
  simp[execOp,hop,resolve,invoke,Act.eval,hm,henter,Deferred.ofValue,go_sem]
 unfold Oper.wp;rw[hrun,Oper.upon_enter]
 refine hc.mono fun e w' hR=>?_
 obtain⟨v,rfl,h⟩:=hK e w' hR;exact h
theorem Tryz.Nj:(Tryz.prog.info? 64).map (fun i=>(i.zero,i.size,i.bytes))=some (some (.agg #[.int .i64 0,.string ⟨#[]⟩,.string ⟨#[]⟩,.bool false,.slice none 0 0,.bool false,.slice none 0 0,.int .i64 0]),8,112):=by kernel_rfl
theorem Tryz.QC:∀ args w,(callFunc 108 args).run Tryz.prog w=.ok (.enter 108 args) w:=Go.Proofs.enters_of Tryz.func108 (by kernel_rfl) rfl
def j4 (S:Shape)(C e:Nat)(w:World)(kv:Value)(es:List PE):Prop :=
 ∃ l,w.ownsRow C e S.sz kv es.length (qF S es l)∧iN S (fun b=>C≤b∧some b≠kv.ownBlock) w l es
theorem j4.nil (S:Shape)(C e:Nat)(w:World):j4 S C e w (.slice none 0 0) []:=⟨[],World.ownsRow_nil _ _ _ _,by rw[iN]⟩
theorem j4.below {S:Shape}{C e:Nat}{w w':World}{kv:Value}{es:List PE}(h:j4 S C e w kv es)(hb:Below w.heap.size w w'):j4 S C e w' kv es:=by
 obtain⟨l,h1,h2⟩:=h;exact⟨l,own_below h1 hb,h2.frame (aW.of hb)⟩
theorem j4.set {S:Shape}{C e:Nat}{w:World}{kv:Value}{es:List PE}(h:j4 S C e w kv es){a:Addr}(ha:a.block<C)(u:Value):j4 S C e (w.setCell a u) kv es:=by
 obtain⟨l,h1,h2⟩:=h;refine⟨l,iP h1 (fun q=>?_) u,h2.frame (aW.set u fun b hb=>by have:=hb.1;omega)⟩;have:=(h1.lt a.block q.symm).1;omega
theorem j4.snoc {S:Shape}{C e:Nat}{w w':World}{kv kv' m k:Value}{es:List PE}{x:PE}{g H:Nat}{l:List (Value × Value)}(h2:iN S (fun b=>C≤b∧some b≠kv.ownBlock) w l es)(hx:oZ S (fun b=>C≤b∧some b≠kv.ownBlock) w m k x)
  (hown:w'.ownsRow C e S.sz kv' (es.length+1) (qF S es l++S.cells x m k)) (hgrow:w.grownBy w' kv.ownBlock) (hv:kv'.ownBlock=some g) (hor:kv.ownBlock=some g∨g=H) (hH:w.heap.size≤H):j4 S C e w' kv' (es++[x]):=by
 have hll:=h2.len
 have hal:∀ (P:Nat→Prop),(∀ b,P b→some b≠kv.ownBlock)→aW P w w':=fun P hP=>aW.grown hgrow hP
 refine⟨l++[(m,k)],?_,?_⟩
 ·rw[D6 S es l x m k hll,bN,List.length_singleton];exact hown
 ·have himp:∀ b,(C≤b∧some b≠kv.ownBlock)→b<w.heap.size→(C≤b∧some b≠kv'.ownBlock):=fun b hb hlt=>by
   refine⟨hb.1,fun q=>?_⟩;rw[hv] at q;simp only[Option.some.injEq] at q
   rcases hor with h|h
   ·exact hb.2 (by rw[h,q])
   ·omega
  exact(((h2.imp (fun b hb hlt=>⟨himp b hb hlt,hb.2⟩)).frame (hal (fun b=>(C≤b∧some b≠kv'.ownBlock)∧some b≠kv.ownBlock) fun b hb=>hb.2)).imp fun b hb _=>hb.1).snoc
   (((hx.imp (fun b hb hlt=>⟨himp b hb hlt,hb.2⟩)).frame (hal (fun b=>(C≤b∧some b≠kv'.ownBlock)∧some b≠kv.ownBlock) fun b hb=>hb.2)).imp fun b hb _=>hb.1)
theorem aW.drew (P:Nat→Prop)(w:World):aW P w w.drew:=⟨bD _,fun _ _ _=>rfl⟩
theorem QD {S:Shape}{e be:Nat}{w1 wr W2 w5:World}{o:Obj}{kv UU m k:Value}{acc:List PE}{x:PE}{l:List (Value × Value)}{gg:Nat}(fF:aW (fun b=>b<w1.heap.size∧b≠be) w1 wr)(hbe:be<w1.heap.size)
  (hown:wr.ownsRow w1.heap.size e S.sz kv acc.length (qF S acc l)) (hes:iN S (fun b=>w1.heap.size≤b∧some b≠kv.ownBlock) wr l acc) (hx:oZ S (fun b=>wr.heap.size≤b) W2 m k x) (hb2:Below wr.heap.size wr W2)
  (gq:w5.ownsRow w1.heap.size e S.sz UU (acc.length+1) (qF S acc l++S.cells x m k)) (hgrow:(W2.alloc o).grownBy w5 kv.ownBlock) (hv5:UU.ownBlock=some gg) (hat:kv.ownBlock=some gg∨gg=W2.heap.size+1) (off:Nat) (u:Value) :
  j4 S w1.heap.size e (w5.setCell ⟨be,off,none⟩ u) UU (acc++[x])∧aW (fun b=>b<w1.heap.size∧b≠be) w1 (w5.setCell ⟨be,off,none⟩ u)∧∀ (B:Nat) (w0:World),B≤be→Below B w0 wr→Below B w0 (w5.setCell ⟨be,off,none⟩ u):=by
 have hz1:=fF.1;have hz2:=hb2.size;have hb3:Below wr.heap.size wr (W2.alloc o):=hb2.alloc hz2 _
 have hlt:∀ b,some b=kv.ownBlock→w1.heap.size≤b∧b<wr.heap.size:=fun b q=>⟨(hown.lt b q.symm).1,(hown.lt b q.symm).2⟩
 have hx2:oZ S (fun b=>w1.heap.size≤b∧some b≠kv.ownBlock) (W2.alloc o) m k x :=
  (hx.imp (Q:=fun b=>w1.heap.size≤b∧some b≠kv.ownBlock) fun b hb _=>⟨by omega,fun q=>by have:=(hlt b q).2;omega⟩).frame ⟨by simp,fun b _ hb=>gY _ _ _ hb⟩
 have hrow:=j4.snoc (hes.frame (aW.of hb3)) hx2 gq hgrow hv5 hat (by simp);refine⟨hrow.set hbe u,?_,fun B w0 hB hb0=>?_⟩
 ·refine((fF.trans (aW.ru hb3 fun b hb=>by omega)).trans (aW.grown hgrow fun b hb q=>?_)).trans (aW.set u fun b hb=>hb.2)
  have:=(hlt b q).1;omega
 ·have hsz:=hb0.size
  exact((hb0.trans (hb3.mono (by omega))).grown hgrow (by simp;omega) (fun b q=>by have:=(hlt b q.symm).1;omega)).setCell hB _
def ac5 (x:PE)(w:World)(e:Ending)(w':World):Prop :=
 ∃ am wn cm ae ce,e=.returned (.agg #[.int .i64 x.op,dJ x.name,dJ x.module,.bool (decide (x.num<0)),.slice am wn cm,.bool x.yes,.slice ae x.aA.length ce,.int .i64 x.at_]) ∧
  oZ XA (fun b=>w.heap.size≤b) w' (.slice am wn cm) (.slice ae x.aA.length ce) x∧Below w.heap.size w w'
theorem oZ.abw {P:Nat→Prop}{w:World}{m k:Value}{x:PE}(h:oZ XA P w m k x):∃ am wn cm ae ce,m=.slice am wn cm∧k=.slice ae x.aA.length ce:=by
 obtain⟨G5,ae,ce,rfl,_,_⟩:=h.form
 obtain⟨ws,hws,_⟩:=(G5:nD _ _ _ _)
 obtain⟨am,cm,rfl⟩:=hws.form;exact⟨am,_,cm,ae,ce,rfl,rfl⟩
theorem EPost.a {x:PE}{w w':World}{e:Ending}(h:EPost XA x w e w'):ac5 x w e w':=by
 obtain⟨m,k,rfl,h1,h2⟩:=h;obtain⟨am,wn,cm,ae,ce,rfl,rfl⟩:=h1.abw;exact⟨am,wn,cm,ae,ce,rfl,h1,h2⟩
def ow (op at_:Nat)(kv:Value):Array Value:=#[.int .i64 op,.string ⟨#[]⟩,.string ⟨#[]⟩,.bool false,.slice none 0 0,.bool false,kv,.int .i64 at_]
theorem Ez {w:World}{b op at_:Nat}{kv:Value}(h:w.heap[b]?=some (.cells (ow op at_ kv) 64 (0,0)))(j:Nat):w.frozen? ⟨b,j,none⟩=false:=by simp[World.frozen?,h]
theorem vV {w:World}{b op at_:Nat}{kv:Value}(h:w.heap[b]?=some (.cells (ow op at_ kv) 64 (0,0))):w.cell? ⟨b,6,none⟩=some kv:=by rw[aV h];rfl
theorem UW (B:Nat)(tv nv:Value)(ah:List Tok)(aj:List Nd)(i op at_:Nat)(w:World)(h:aZ B w (.agg #[tv,nv]) ah aj)(hB:B≤w.heap.size)(hi:i<aj.length)
  (hk:∀ k∈aj[i].aA,0≤k∧k<(aj.length:Int)) (hl:aj[i].aA.length≤1000000000) (jw:List PE) (hp:jw.length=(gJ aj aj[i].aA).length)
  (hE:∀ (j:Nat) (h1:j<jw.length) (h2:j<(gJ aj aj[i].aA).length) (W:World),aZ B W (.agg #[tv,nv]) ah aj→B≤W.heap.size→Calls Tryz.prog 108 #[.agg #[tv,nv],.int .i64 (gJ aj aj[i].aA)[j]] W (EPost XA jw[j] W)) :
  Calls Tryz.prog 175 #[.agg #[tv,nv],.int .i64 op,.int .i64 at_,.int .i64 i] w (EPost XA (.mk op [] [] 0 [] false jw at_) w):=by
 obtain⟨i0,XJ,hz0,hz1,hz2⟩:=info_parts Tryz.Nj;have hlen:(gJ aj aj[i].aA).length≤1000000000:=jc (List.length_filter_le _ _) hl;have HP:=ay (fun W hW hBW=>Qq B tv nv ah aj i W hW hBW hi hk (jc hl (by decide)));have HT:=ay h;have HE:=ay hE;obtain⟨a1,c1,a2,c2,e⟩:=h.slices
 obtain⟨rfl,rfl⟩:tv=.slice a1 ah.length c1∧nv=.slice a2 aj.length c2:=by simpa using e
 generalize gJ aj aj[i].aA=ps at hp hlen HP HE;have HLP:=ay hp;have ent:=Tryz.QC;clear hk hE h e hp hl hi;have hb3:Below w.heap.size w (((w.alloc (.cells #[.slice a1 ah.length c1,.slice a2 aj.length c2] 126)).alloc (.cells #[.int .i64 0,.string ⟨#[]⟩,.string ⟨#[]⟩,.bool false,.slice none 0 0,.bool false,.slice none 0 0,.int .i64 0] 64)).alloc (.cells (ow op at_ (.slice none 0 0)) 64)):=(((bI _ _).alloc (bD _) _).alloc (by simp) _).alloc (by simp;omega) _;have hnr:=aY w (.cells #[.slice a1 ah.length c1,.slice a2 aj.length c2] 126);have hne:=aY (w.alloc (.cells #[.slice a1 ah.length c1,.slice a2 aj.length c2] 126)) (.cells #[.int .i64 0,.string ⟨#[]⟩,.string ⟨#[]⟩,.bool false,.slice none 0 0,.bool false,.slice none 0 0,.int .i64 0] 64);have hne2:=aY ((w.alloc (.cells #[.slice a1 ah.length c1,.slice a2 aj.length c2] 126)).alloc (.cells #[.int .i64 0,.string ⟨#[]⟩,.string ⟨#[]⟩,.bool false,.slice none 0 0,.bool false,.slice none 0 0,.int .i64 0] 64)) (.cells (ow op at_ (.slice none 0 0)) 64);go_enter Tryz.func175,Tryz.ntmps175;go_wp2_with (go_at_call 236;refine(HP.out _ ?c1 ?c2).mono ?_)
 case c1=>exact HT.out.below (hb3.mono hB)
 case c2=>simp;omega
 rintro e w1 ⟨v,rfl,hints,hb1⟩;have af3:=hb1.size;simp only[oP] at af3;rw[oP] at hne;rw[oP,oP] at hne2;have hq0:w1.heap[w.heap.size]?=some (.cells #[.slice a1 ah.length c1,.slice a2 aj.length c2] 126 (0,0)):=(hb1.block w.heap.size (by simp;omega)).trans ((gY _ _ _ (by simp;omega)).trans ((gY _ _ _ (by simp)).trans hnr));have hq1:w1.heap[w.heap.size+1]?=some (.cells #[.int .i64 0,.string ⟨#[]⟩,.string ⟨#[]⟩,.bool false,.slice none 0 0,.bool false,.slice none 0 0,.int .i64 0] 64 (0,0)):=(hb1.block (w.heap.size+1) (by simp)).trans ((gY _ _ _ (by simp)).trans hne);have hq2:w1.heap[w.heap.size+1+1]?=some (.cells (ow op at_ (.slice none 0 0)) 64 (0,0)):=(hb1.block (w.heap.size+1+1) (by simp)).trans hne2;have oC:Below w.heap.size w w1:=hb3.trans (hb1.mono (by simp;omega));obtain⟨ap,cp,rfl,_,hpf⟩:=hints.ints;simp only[oP] at hpf;have HF:=ay hpf;clear hpf hints hnr hne hne2 hb1 hb3;go_wp2
 go_loopw [19] (fun q wr=>∃ (j:Nat) (kv:Value),j≤ps.length∧q=.int .i64 j∧aW (fun b=>b<w1.heap.size∧b≠w.heap.size+1+1) w1 wr∧wr.heap[w.heap.size+1+1]?=some (.cells (ow op at_ kv) 64 (0,0))∧j4 XA w1.heap.size 64 wr kv (jw.take j)∧Below w.heap.size w wr) (fun q _=>ps.length - (intOf q).toNat)
 case atStart=>exact⟨0,.slice none 0 0,lI _,rfl,aW.refl _ _,hq2,j4.nil _ _ _ _,oC⟩
 case round =>
  obtain⟨j,kv,hj,rfl,fF,hbe,hrow,hbl⟩:=hrel;have hsz:=fF.1;have hr0:=(fF.2 w.heap.size ⟨by omega,by omega⟩ (by omega)).trans hq0;have hr1:=(fF.2 (w.heap.size+1) ⟨by omega,by omega⟩ (by omega)).trans hq1
  by_cases hjl:j<ps.length
  ·have hjp:j<jw.length:=by have:=HLP.out;omega
   obtain⟨bp,op',rfl,ahq,aev,hcell⟩:=HF.out (by omega);have hx:=(World.cell?_of_block (a:=⟨bp,op'+j,none⟩) (fF.2 bp ⟨aev,by omega⟩ aev)).trans (hcell j hjl);have hC:=HE.out j hjp hjl wr.drew (HT.out.below ((hbl.mono hB).drew)) (by have:=hbl.size;show B≤wr.heap.size;omega);have hsn:jw.take (j+1)=jw.take j++[jw[j]]:=Dg hjp
   have hpl:(jw.take j).length=j:=by rw[qZ];omega
   have JZ:(j:Int)<(ps.length:Int):=by omega
   generalize ps[j]=q at hx hC;generalize jw[j]=x at hC hsn;generalize jw.take j=acc at hrow hsn hpl;obtain⟨l,hown,hes⟩:=hrow;rw[hpl] at hown;have HL:=ay hpl;have HS:=ay hsn;clear hpl hsn hcell
   obtain⟨ak,ck,rfl,_⟩:∃ ak ck,kv=.slice ak j ck∧True:=by
    rcases hown.2 with ⟨hv,hn0⟩|⟨g,cap,cur,hv,_⟩
    ·exact⟨none,0,by rw[hv,hn0],trivial⟩
    ·exact⟨_,cap,hv,trivial⟩
   have HC:=ay (hC.mono fun _ _ h=>h.a)
   have r0:wr.cell? ⟨w.heap.size,0,none⟩=some (.slice a1 ah.length c1):=by rw[aV hr0];rfl
   have r1:wr.cell? ⟨w.heap.size,1,none⟩=some (.slice a2 aj.length c2):=by rw[aV hr0];rfl
   have r6:wr.cell? ⟨w.heap.size+1+1,6,none⟩=some (.slice ak j ck):=by rw[aV hbe];rfl
   clear hC;go_wp2;have hce:=hbe;have hlt:=(bS hbe).1;have hCw:w1.heap.size≤wr.heap.size:=hsz
   have ac6:some (w.heap.size+1+1)≠(Value.slice ak j ck).ownBlock:=fun q=>by have:=(hown.lt _ q.symm).1;omega
   go_region_law ((first
    | (refine step_append_lies _ (by rfl) _ _ _ (by rfl) w1.heap.size 64 i0 _ 8 112 Tryz.underlying51 XJ hz0 hz1 hz2 rfl (by omega) (.slice ak j ck) j _ (by rfl) ((own_below (nZ hown) hb2).alloc _) ⟨W2.heap.size,0,none⟩ 1 1 [.int .i64 x.op,dJ x.name,dJ x.module,.bool (decide (x.num<0)),.slice am wn cm,.bool x.yes,.slice ae x.aA.length ce,.int .i64 x.at_] (by rfl) (by rfl) (vv (cs:=#[.int .i64 x.op,dJ x.name,dJ x.module,.bool (decide (x.num<0)),.slice am wn cm,.bool x.yes,.slice ae x.aA.length ce,.int .i64 x.at_]) (t:=64) (fr:=(0,0)) (aY W2 _)) (by simp[Value.oneCell',dJ]) (by omega) (by unfold maxLen;omega) (by omega) (by have:=hb2.size;simp at this ⊢;omega) (W2.heap.size+1) (by simp) ?_;intro gg kE w5 gq gK vL JK;have qJ:=(gK.block (w.heap.size+1+1) (by have:=hb2.size;simp at this ⊢;omega) ac6).trans ((gY W2 _ (w.heap.size+1+1) (by have:=hb2.size;simp at this;omega)).trans yG);have r65:=vV qJ;have z65:=Ez qJ 6)
    | (refine tq rfl 108 _ _ rfl HC.out (by rfl) (ent _ _) ?_;rintro e W2 ⟨am,wn,cm,ae,ce,rfl,hxe,hb2⟩;refine⟨_,rfl,?_⟩;have yG:=(hb2.block (w.heap.size+1+1) hlt).trans hce;have X9:=vV yG;have r63:=fun o=>Lib.cell?_alloc_some o X9)))
   all_goals
    have hlen:=HL.out;obtain⟨q1,q2,q3⟩:=QD (S:=XA) (wr:=wr.drew) (kv:=.slice ak j ck) (UU:=.slice (some ⟨gg,0,none⟩) (j+1) kE) (acc:=acc) (x:=x) (l:=l) (show aW _ w1 wr.drew from fF) (show w.heap.size+1+1<w1.heap.size by omega) (by rw[hlen];exact hown) (hes.frame (aW.drew _ wr)) hxe hb2 (by rw[hlen];exact gq) gK rfl vL 6 (.slice (some ⟨gg,0,none⟩) (j+1) kE)
    have zJ:(w5.setCell ⟨w.heap.size+1+1,6,none⟩ (.slice (some ⟨gg,0,none⟩) (j+1) kE)).heap[w.heap.size+1+1]?=some (.cells (ow op at_ (.slice (some ⟨gg,0,none⟩) (j+1) kE)) 64 (0,0)):=by
     rw[heap_setCell_same w5 _ 6 _ _ _ qJ];rfl
    have zK:=q3 w.heap.size w (by omega) hbl.drew;clear gK gq vL qJ r65 z65 yG X9 r63 hxe hb2 HC hes hown fF hbe hce r0 r1 r6 hx;generalize w5.setCell _ _=w6 at q1 q2 zJ zK ⊢;go_wp2
    go_roundw
    case rel=>exact⟨j+1,_,by omega,by go_num,q2,zJ,by rw[HS.out];exact q1,zK⟩
    case measure=>simp[intOf];omega
  ·have:j=ps.length:=by omega
   subst this;have JZ:decide ((ps.length:Int)<(ps.length:Int))=false:=dA (by omega);rw[← HLP.out,List.take_length] at hrow;obtain⟨l,hown,hes⟩:=hrow
   obtain⟨ak,ck,rfl,_⟩:∃ ak ck,kv=.slice ak jw.length ck∧True:=by
    rcases hown.2 with ⟨hv,hn0⟩|⟨g,cap,cur,hv,_⟩
    ·exact⟨none,0,by rw[hv,hn0],trivial⟩
    ·exact⟨_,cap,hv,trivial⟩
   have c0:wr.cell? ⟨w.heap.size+1+1,0,none⟩=some (.int .i64 op):=by rw[aV hbe];rfl
   have c1':wr.cell? ⟨w.heap.size+1+1,1,none⟩=some (.string ⟨#[]⟩):=by rw[aV hbe];rfl
   have c2':wr.cell? ⟨w.heap.size+1+1,2,none⟩=some (.string ⟨#[]⟩):=by rw[aV hbe];rfl
   have c3:wr.cell? ⟨w.heap.size+1+1,3,none⟩=some (.bool false):=by rw[aV hbe];rfl
   have c4:wr.cell? ⟨w.heap.size+1+1,4,none⟩=some (.slice none 0 0):=by rw[aV hbe];rfl
   have c5:wr.cell? ⟨w.heap.size+1+1,5,none⟩=some (.bool false):=by rw[aV hbe];rfl
   have c6:wr.cell? ⟨w.heap.size+1+1,6,none⟩=some (.slice ak jw.length ck):=by rw[aV hbe];rfl
   have c7:wr.cell? ⟨w.heap.size+1+1,7,none⟩=some (.int .i64 at_):=by rw[aV hbe];rfl
   have d0:wr.cell? ⟨w.heap.size+1,0,none⟩=some (.int .i64 0):=by rw[aV hr1];rfl
   have d1:wr.cell? ⟨w.heap.size+1,1,none⟩=some (.string ⟨#[]⟩):=by rw[aV hr1];rfl
   have d2:wr.cell? ⟨w.heap.size+1,2,none⟩=some (.string ⟨#[]⟩):=by rw[aV hr1];rfl
   have d3:wr.cell? ⟨w.heap.size+1,3,none⟩=some (.bool false):=by rw[aV hr1];rfl
   have d4:wr.cell? ⟨w.heap.size+1,4,none⟩=some (.slice none 0 0):=by rw[aV hr1];rfl
   have d5:wr.cell? ⟨w.heap.size+1,5,none⟩=some (.bool false):=by rw[aV hr1];rfl
   have d6:wr.cell? ⟨w.heap.size+1,6,none⟩=some (.slice none 0 0):=by rw[aV hr1];rfl
   have d7:wr.cell? ⟨w.heap.size+1,7,none⟩=some (.int .i64 0):=by rw[aV hr1];rfl
   have z0:∀ j,wr.frozen? ⟨w.heap.size+1,j,none⟩=false:=by intro j;simp[World.frozen?,hr1]
   have hE0:oZ XA (fun b=>w1.heap.size≤b) wr (.slice none 0 0) (.slice ak jw.length ck) (.mk op [] [] 0 [] false jw at_):=by
    rw[oZ];exact⟨nD.zero _ _,l,nV.fZ hown fun b hb=>hb,hes.imp fun b hb _=>hb.1⟩
   clear hown hes hbe hr0 hr1;go_wp2;refine bodyPost_ret (v:=.agg #[.int .i64 op,.string ⟨#[]⟩,.string ⟨#[]⟩,.bool false,.slice none 0 0,.bool false,.slice ak jw.length ck,.int .i64 at_]) (by simp[results,Tryz.results175,go_sem,d0,d1,d2,d3,d4,d5,d6,d7]) rfl ⟨.slice none 0 0,.slice ak jw.length ck,rfl,?_,?_⟩
   ·have hs:∀ (W:World) (j:Nat) (u:Value),aW (fun b=>w1.heap.size≤b) W (W.setCell ⟨w.heap.size+1,j,none⟩ u):=fun W j u=>aW.set u fun b hb=>by show b≠w.heap.size+1;omega
    refine(hE0.frame ?_).imp (fun b hb _=>by omega);exact(((((((hs _ _ _).trans (hs _ _ _)).trans (hs _ _ _)).trans (hs _ _ _)).trans (hs _ _ _)).trans (hs _ _ _)).trans (hs _ _ _)).trans (hs _ _ _)
   ·exact((((((((hbl).setCell (by simp) _).setCell (by simp) _).setCell (by simp) _).setCell (by simp) _).setCell (by simp) _).setCell (by simp) _).setCell (by simp) _).setCell (by simp) _
def Wd (P:Nat→Prop)(w:World)(m:Value)(ws:List Nat):Prop:=nV P w m 1 ws.length (ws.map fun d=>.int .u32 (d:Nat))
theorem Wd.form {P:Nat→Prop}{w:World}{m:Value}{ws:List Nat}(h:Wd P w m ws):∃ ao cap,m=.slice ao ws.length cap∧ws.length≤cap ∧
  (0<ws.length→∃ b off,ao=some ⟨b,off,none⟩∧P b∧b<w.heap.size∧∀ j,(hj:j<ws.length)→w.cell? ⟨b,off+j,none⟩=some (.int .u32 (ws[j]:Nat))):=by
 obtain⟨ao,cap,hv,hn,hl,hc⟩:=h;refine⟨ao,cap,hv,hn,fun h0=>?_⟩;obtain⟨b,off,ha,hP,hlt,hcell⟩:=hc h0;exact⟨b,off,ha,hP,hlt,fun j hj=>by rw[hcell j (by simpa using hj)];simp⟩
theorem Wd.take {P:Nat→Prop}{w:World}{ao:Option Addr}{cap k:Nat}{ws:List Nat}(h:Wd P w (.slice ao ws.length cap) ws)(hk:k≤ws.length):Wd P w (.slice ao k cap) (ws.take k):=by
 obtain⟨ao',jE,hv,hn,hl,hc⟩:=h;simp only[Value.slice.injEq] at hv;obtain⟨rfl,_,rfl⟩:=hv
 have hlen:(ws.take k).length=k:=by rw[qZ];omega
 refine⟨ao,cap,by rw[hlen],by omega,by simp,fun h0=>?_⟩;obtain⟨b,off,ha,hP,hlt,hcell⟩:=hc (by omega);refine⟨b,off,ha,hP,hlt,fun j hj=>?_⟩;simp only[List.length_map] at hj;rw[hcell j (by simp only[List.length_map];omega)]
 simp
theorem Nk (ws:List Nat)(k:Nat)(hk:k≤ws.length)(h0:∀ j,k≤j→(h:j<ws.length)→ws[j]=0)(h1:∀ j,j+1=k→(h:j<ws.length)→ws[j]≠0):(dx ws).length=k∧ws.take k=dx ws:=by
 obtain⟨n,n1,n2,n3,n4⟩:=uy ws
 have:n=k:=by
  rcases Nat.lt_trichotomy n k with h|h|h
  ·exact absurd (n3 (k - 1) (by omega) (by omega)) (h1 (k - 1) (by omega) (by omega))
  ·exact h
  ·exact absurd (h0 (n - 1) (by omega) (by omega)) (n4 (n - 1) (by omega) (by omega))
 subst this;exact⟨by rw[n2,qZ];omega,n2.symm⟩
theorem A9 (P:Nat→Prop)(ao:Option Addr)(cap:Nat)(ws:List Nat)(w:World)(h:Wd P w (.slice ao ws.length cap) ws)(hn:ws.length≤1099511627776) :
  Calls Tryz.prog 178 #[.slice ao ws.length cap] w fun e w'=>e=.returned (.slice ao (dx ws).length cap)∧w'=w:=by
 obtain⟨ao',jE,hv,hc1,hf⟩:=h.form;simp only[Value.slice.injEq] at hv;obtain⟨rfl,-,rfl⟩:=hv;have HF:=ay hf;clear hf h;go_enter Tryz.func178,Tryz.ntmps178;go_wp2
 go_loop [3] (fun q=>∃ k:Nat,k≤ws.length∧q=.int .i64 k∧∀ j,k≤j→(hj:j<ws.length)→ws[j]=0) (fun q=>(intOf q).toNat)
 case atStart=>exact⟨ws.length,bD _,rfl,fun j h1 h2=>absurd h2 (by omega)⟩
 case round =>
  obtain⟨k,hk,rfl,h0⟩:=hrel;have H0:=ay h0;clear h0
  by_cases hk0:k=0
  ·subst hk0
   obtain⟨t1,_⟩:=Nk ws 0 (lI _) H0.out (fun j hj=>by omega);have HT:=ay t1;clear t1;go_wp2;go_ret;exact⟨by rw[HT.out];rfl,rfl⟩
  ·obtain⟨k',rfl⟩:∃ k',k=k'+1:=⟨k - 1,by omega⟩
   obtain⟨b,off,rfl,_,_,hcell⟩:=HF.out (by omega);have hx:=hcell k' (by omega)
   have hw:(((k'+1:Nat):Int) - 1)=(k':Int):=by omega
   have pR:(k':Int)<(ws.length:Int):=by omega
   have hpos:(0:Int)<((k'+1:Nat):Int):=by omega
   by_cases hz:ws[k']=0
   ·have HZ:=ay hz
    rw[hz] at hx;clear hz hcell;go_wp2
    go_round
    case rel=>exact⟨k',by omega,by go_num,fun j h1 h2=>by
     rcases Nat.lt_or_ge k' j with h|h
     ·exact H0.out j h h2
     ·obtain rfl:j=k':=by omega
      exact HZ.out⟩
    case measure=>simp[intOf]
   ·have hz1:((ws[k']:Int) == 0)=false:=by simpa using hz
    have hz2:∀ j,j+1=k'+1→(h:j<ws.length)→ws[j]≠0:=fun j hj hj2=>by
     have e:j=k':=by omega
     subst e;exact hz
    obtain⟨t1,_⟩:=Nk ws (k'+1) hk H0.out hz2;clear hz2;have HT:=ay t1;clear t1 hz hcell;generalize ws[k']=d at hx hz1
    have hkc:((k'+1:Nat):Int)≤(cap:Int):=by omega
    go_wp2;go_ret;exact⟨by rw[HT.out];rfl,rfl⟩
theorem Tryz.SV:(Tryz.prog.info? 255).map (fun i=>(i.zero,i.size,i.bytes))=some (some (.int .u32 0),1,4):=by kernel_rfl
theorem J7 {α:Type}{l t:List α}{k:Nat}{r:α}(h:l=l.take k++r :: t)(hk:(l.take k).length=k):l.take (k+1)=l.take k++[r]∧l=l.take (k+1)++t:=by
 have h1:l.take (k+1)=l.take k++[r]:=by
  conv=>lhs;rw[h]
  rw[List.take_append,hk,Au (by omega),Nat.add_sub_cancel_left,List.take_succ_cons,List.take_zero]
 exact⟨h1,by rw[h1,nQ];exact h⟩
theorem II (c x b:Nat):((c:Int)+(x:Int) * (b:Int)) % 4294967296=(((c+x * b) % 4294967296:Nat):Int)∧((c:Int)+(x:Int) * (b:Int)) / 4294967296=(((c+x * b) / 4294967296:Nat):Int):=by
 rw[← Int.natCast_mul];generalize x * b=y;omega
def aew (ws:List Nat)(w:World)(e:Ending)(w':World):Prop:=∃ v,e=.returned v∧w'.ownsRow w.heap.size 255 1 v ws.length (ws.map fun d=>.int .u32 (d:Nat))∧Below w.heap.size w w'
theorem UY (P:Nat→Prop)(m:Value)(ws:List Nat)(JG more:Nat)(w:World)(h:Wd P w m ws)(hw:∀ x∈ws,x<4294967296)(hb:JG≤1000000000)(hm:more≤1000000000)(hn:ws.length≤1000) :
  Calls Tryz.prog 239 #[m,.int .u64 JG,.int .u64 more] w (aew (fM JG ws more) w):=by
 obtain⟨i0,hi,hz0,hz1,hz2⟩:=info_parts Tryz.SV;obtain⟨ao,cap,rfl,hc1,hf⟩:=h.form;have HF:=ay hf;have HW:=ay hw;clear hf h hw;obtain⟨wm,hmk,hown0,aex⟩:=run_make_own (P:=Tryz.prog) w w.heap.size 60 255 i0 (.int .u32 0) 1 Tryz.underlying60 hi hz0 hz1 .i64 .i64 (ws.length+1) (by rw[hz2];omega) (by unfold maxLen;omega) (bD _);rw[show (((ws.length+1:Nat)):Int)=(ws.length:Int)+1 by omega] at hmk;have hbm:Below w.heap.size w wm:=(bI _ _).grown aex (bD _) (fun k hk=>by cases hk);clear aex;go_enter Tryz.func239,Tryz.ntmps239;go_wp2;clear hmk
 go_loopw [2,7,16] (fun mv v q wr=>∃ k c:Nat,k≤ws.length∧q=.int .i64 k∧mv=.int .u64 c∧c≤1000000000∧wr.ownsRow w.heap.size 255 1 v k (((fM JG ws more).take k).map fun d=>.int .u32 (d:Nat))∧fM JG ws more=(fM JG ws more).take k++fM JG (ws.drop k) c∧Below w.heap.size w wr) (fun _ _ q _=>ws.length - (intOf q).toNat)
 case atStart=>exact⟨0,more,lI _,rfl,rfl,hm,hown0,by simp,hbm⟩
 case round =>
  obtain⟨k,c,hk,rfl,rfl,hc,hown,heq,hbl⟩:=hrel;have hz:=hbl.size
  by_cases hlt:k<ws.length
  ·obtain⟨b,off,rfl,_,hb',hcell⟩:=HF.out (by omega)
   have hx:=(hbl.cell (p:=⟨b,off+k,none⟩) hb').trans (hcell k hlt);have hxw:=HW.out ws[k] (mX hlt)
   have pR:(k:Int)<(ws.length:Int):=by omega
   have hdr:ws.drop k=ws[k] :: ws.drop (k+1):=List.drop_eq_getElem_cons hlt;rw[hdr,fM] at heq;generalize ws[k]=x at hx hxw heq;have hcar:=LQ hxw hb hc;have hE:=ay heq;clear heq hcell hdr
   have hlt2:((fM JG ws more).take k).length=k:=by rw[qZ,kC];omega
   have HL:=ay hlt2;clear hlt2;go_wp2_with (at_builtin;refine wpList_append_own _ rfl _ _ 60 rfl w.heap.size 255 i0 (.int .u32 0) 1 4 Tryz.underlying60 hi hz0 hz1 hz2 rfl (by decide) _ _ _ rfl (hown.alloc _) ⟨wr.heap.size,0,none⟩ 1 1 [.int .u32 (((c:Int)+(x:Int) * (JG:Int)) % 4294967296)] rfl rfl ?c1 ?c2 ?c3 ?c4 ?c5 ?_)
   case c1 =>
    intro j' u hj';exact vv (cs:=#[.int .u32 (((c:Int)+(x:Int) * (JG:Int)) % 4294967296)]) (t:=255) (fr:=(0,0)) (aY wr _) j' u (by simpa using hj')
   case c2=>simp[Value.oneCell']
   case c3=>unfold maxLen;omega
   case c4=>omega
   case c5=>simp;omega
   intro v' w2 hown2 hgrow2 _;have hb2:Below w.heap.size w w2:=(hbl.alloc hz _).grown hgrow2 (by simp;omega) (fun q hq=>by have:=(hown.lt q hq).1;omega);have H2:=ay hown2;clear hgrow2 hown2 hown;go_wp2
   go_roundw
   case rel =>
    refine⟨k+1,(c+x * JG) / 4294967296,by omega,by go_num,?_,hcar.2,?_,?_,hb2⟩
    ·rw[(II c x JG).2]
    ·rw[(J7 hE.out HL.out).1,List.map_append,List.map_singleton,← (II c x JG).1,List.map_take]
     exact H2.out
    ·exact(J7 hE.out HL.out).2
   case measure=>simp[intOf];omega
  ·have hkl:k=ws.length:=by omega
   subst hkl;rw[List.drop_length,fM] at heq
   have hlt2:((fM JG ws more).take ws.length).length=ws.length:=by rw[qZ,kC];omega
   have hfin:=(J7 heq hlt2).1;rw[Au (by rw[kC];exact bD _)] at hfin;have HE:=ay hfin;clear hfin hlt2 heq;generalize (fM JG ws more).take ws.length=acc at hown HE;go_wp2_with (at_builtin;refine wpList_append_own _ rfl _ _ 60 rfl w.heap.size 255 i0 (.int .u32 0) 1 4 Tryz.underlying60 hi hz0 hz1 hz2 rfl (by decide) _ _ _ rfl (hown.alloc _) ⟨wr.heap.size,0,none⟩ 1 1 [.int .u32 (c:Int)] rfl rfl ?e1 ?e2 ?e3 ?e4 ?e5 ?_)
   case e1 =>
    intro j' u hj';exact vv (cs:=#[.int .u32 (c:Int)]) (t:=255) (fr:=(0,0)) (aY wr _) j' u (by simpa using hj')
   case e2=>simp[Value.oneCell']
   case e3=>unfold maxLen;omega
   case e4=>omega
   case e5=>simp;omega
   intro v' w2 hown2 hgrow2 _;have hb2:Below w.heap.size w w2:=(hbl.alloc hz _).grown hgrow2 (by simp;omega) (fun q hq=>by have:=(hown.lt q hq).1;omega);have H2:=ay hown2;clear hgrow2 hown2 hown;go_wp2;go_ret;refine⟨v',rfl,?_,hb2⟩;rw[HE.out,List.map_append,List.map_singleton,Nat.mod_eq_of_lt (show c<4294967296 by omega),← Nat.mod_eq_of_lt (show c<4294967296 by omega),← HE.out,kC,Nat.mod_eq_of_lt (show c<4294967296 by omega)];exact H2.out
theorem yH {w:World}{b:Nat}{c0 c1 c2 c3:Value}{T:TypeId}(h:w.heap[b]?=some (.cells #[c0,c1,c2,c3] T (0,0)))(v0 v1 v2 v3:Value) :
  ((((w.setCell ⟨b,0,none⟩ v0).setCell ⟨b,1,none⟩ v1).setCell ⟨b,2,none⟩ v2).setCell ⟨b,3,none⟩ v3).heap[b]?=some (.cells #[v0,v1,v2,v3] T (0,0)) ∧
  (∀ k,k≠b→((((w.setCell ⟨b,0,none⟩ v0).setCell ⟨b,1,none⟩ v1).setCell ⟨b,2,none⟩ v2).setCell ⟨b,3,none⟩ v3).heap[k]?=w.heap[k]?) ∧
  ((((w.setCell ⟨b,0,none⟩ v0).setCell ⟨b,1,none⟩ v1).setCell ⟨b,2,none⟩ v2).setCell ⟨b,3,none⟩ v3).heap.size=w.heap.size:=by
 have h1:=heap_setCell_same w b 0 _ _ v0 h;have h2:=heap_setCell_same _ b 1 _ _ v1 h1;have h3:=heap_setCell_same _ b 2 _ _ v2 h2;have h4:=heap_setCell_same _ b 3 _ _ v3 h3;refine⟨h4,fun k hk=>?_,by simp⟩;rw[heap_setCell_other _ _ _ _ hk,heap_setCell_other _ _ _ _ hk,heap_setCell_other _ _ _ _ hk,heap_setCell_other _ _ _ _ hk]
def UZ (w:World)(b:Nat)(v0 v1 v2 v3 v4 v5 v6 v7:Value):World :=
 (((((((w.setCell ⟨b,0,none⟩ v0).setCell ⟨b,1,none⟩ v1).setCell ⟨b,2,none⟩ v2).setCell ⟨b,3,none⟩ v3).setCell ⟨b,4,none⟩ v4).setCell ⟨b,5,none⟩ v5).setCell ⟨b,6,none⟩ v6).setCell ⟨b,7,none⟩ v7
theorem vW (P:Nat→Prop)(w:World)(b:Nat)(v0 v1 v2 v3 v4 v5 v6 v7:Value)(hP:∀ k,P k→k≠b):aW P w (UZ w b v0 v1 v2 v3 v4 v5 v6 v7):=by
 have hs:∀ (W:World) (j:Nat) (u:Value),aW P W (W.setCell ⟨b,j,none⟩ u):=fun W j u=>aW.set u hP
 exact(((((((hs _ _ _).trans (hs _ _ _)).trans (hs _ _ _)).trans (hs _ _ _)).trans (hs _ _ _)).trans (hs _ _ _)).trans (hs _ _ _)).trans (hs _ _ _)
theorem jI {B:Nat}{w0 w:World}(h:Below B w0 w){b:Nat}(hb:B≤b)(v0 v1 v2 v3 v4 v5 v6 v7:Value):Below B w0 (UZ w b v0 v1 v2 v3 v4 v5 v6 v7) :=
 (((((((h.setCell hb _).setCell hb _).setCell hb _).setCell hb _).setCell hb _).setCell hb _).setCell hb _).setCell hb _
def ac7 (op at_:Nat)(aA:List PE)(w:World)(e:Ending)(w':World):Prop :=
 ∃ am wn cm ae ce,e=.returned (.agg #[.int .i64 op,.string ⟨#[]⟩,.string ⟨#[]⟩,.bool false,.slice am wn cm,.bool false,.slice ae aA.length ce,.int .i64 at_]) ∧
  oZ XA (fun b=>w.heap.size≤b) w' (.slice am wn cm) (.slice ae aA.length ce) (.mk op [] [] 0 [] false aA at_)∧Below w.heap.size w w'
theorem EPost.m {op at_:Nat}{aA:List PE}{w w':World}{e:Ending}(h:EPost XA (.mk op [] [] 0 [] false aA at_) w e w'):ac7 op at_ aA w e w':=by
 obtain⟨am,wn,cm,ae,ce,h1,h2,h3⟩:=h.a;exact⟨am,wn,cm,ae,ce,h1,h2,h3⟩
theorem oZ.rename {S:Shape}{P:Nat→Prop}{w:World}{m k:Value}{op op' a a':Nat}{n n' md md' t t':List UInt8}{num:Int}{y y':Bool}{aA:List PE}(h:oZ S P w m k (.mk op n md num t y aA a)):oZ S P w m k (.mk op' n' md' num t' y' aA a'):=by
 rw[oZ] at h ⊢;exact h
def Ya (x:PE)(w:World)(e:Ending)(w':World):Prop :=
 ∃ am wn cm ae ce,e=.returned (.agg #[.int .i64 x.op,.string ⟨x.name.toArray⟩,.string ⟨x.module.toArray⟩,.bool (decide (x.num<0)),.slice am wn cm,.bool x.yes,.slice ae x.aA.length ce,.int .i64 x.at_]) ∧
  oZ XA (fun b=>w.heap.size≤b) w' (.slice am wn cm) (.slice ae x.aA.length ce) x∧Below w.heap.size w w'
theorem EPost.s {x:PE}{w w':World}{e:Ending}(h:EPost XA x w e w'):Ya x w e w':=h.a
def Yb (n:Nat)(w:World)(e:Ending)(w':World):Prop :=
 ∃ am wn cm,e=.returned (.tuple #[.agg #[.bool false,.slice am wn cm],.int .i64 0])∧nD (fun b=>w.heap.size≤b) w' (n:Nat) (.slice am wn cm)∧Below w.heap.size w w'
theorem ac8 (n:Nat)(txt:List UInt8)(at_:Nat)(m k:Value):Ending.returned (.agg #[.int .i64 1,.string ⟨#[]⟩,.string ⟨#[]⟩,.bool false,m,.bool false,k,.int .i64 at_])=.returned (XA.agg (.mk 1 [] [] (n:Nat) txt false [] at_) m k):=by
 have hd:decide ((n:Int)<0)=false:=dA (by omega);show _=Ending.returned (.agg #[.int .i64 1,.string ⟨#[]⟩,.string ⟨#[]⟩,.bool (decide ((n:Int)<0)),m,.bool false,k,.int .i64 at_]);rw[hd]
theorem fB (w:World)(b i:Nat)(v:Value){k j:Nat}(h:k≠b):(w.setCell ⟨b,i,none⟩ v).cell? ⟨k,j,none⟩=w.cell? ⟨k,j,none⟩ :=
 World.cell?_of_block (a:=⟨k,j,none⟩) (heap_setCell_other _ _ _ _ h)
theorem EPost.store {x:PE}{w0 W w':World}{m k:Value}(hx:oZ XA (fun b=>W.heap.size≤b) w' m k x)(hb:Below W.heap.size W w')(h0:Below w0.heap.size w0 W){b:Nat}(h1:w0.heap.size≤b)(h2:b<W.heap.size)(v0 v1 v2 v3 v4 v5 v6 v7:Value) :
  oZ XA (fun b=>w0.heap.size≤b) (UZ w' b v0 v1 v2 v3 v4 v5 v6 v7) m k x∧Below w0.heap.size w0 (UZ w' b v0 v1 v2 v3 v4 v5 v6 v7):=by
 have hs:=h0.size;exact⟨(hx.frame (vW _ _ _ _ _ _ _ _ _ _ _ fun k hk=>by omega)).imp fun b hb _=>by omega,jI (h0.trans (hb.mono hs)) h1 _ _ _ _ _ _ _ _⟩
