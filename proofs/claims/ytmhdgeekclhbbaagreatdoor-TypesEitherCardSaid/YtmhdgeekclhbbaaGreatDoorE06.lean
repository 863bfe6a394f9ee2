/- Walks and plain laws, without a condition. -/
import Derived.Test.YtmhdgeekclhbbaaGreatDoorE05
import Derived.Laws.AppendOwnNone
import Derived.Lib.SliceRun
import Derived.Maps.AppendAt
import Derived.Maps.OwnIn
import Derived.Sort.CutIn
set_option maxHeartbeats 16000000
set_option maxRecDepth 100000
set_option linter.unusedVariables false
set_option linter.unusedSimpArgs false
namespace Go.Proofs.YtmhdgeekclhbbaaGreatDoor
open Go.RowKit Go
variable{ks:List Int}{b e op at_:Nat}{w W0 w':World}{s:aN}{v kv m k:Value}{R:List Nat}{E:bH}{S:Shape}{x:PE}
theorem yK {off:Nat}{cs:Array Value}{fr:Nat × Nat}(hh:w.heap[b]?=some (.cells cs 3 fr))(hj:∀ j,(h:j<ks.length)->cs[off+j]?=some (.int .i64 ks[j])) :
  ∀ j u,(ks.map (Value.int .i64))[j]?=some u->w.cell? ((⟨b,off,none⟩:Addr).add j)=some u:=λj u hu=>by
 obtain⟨h1,h2⟩:=qm hu;rw[vL] at h1
 have hadd:(⟨b,off,none⟩:Addr).add j=⟨b,off+j,none⟩:=by unfold Addr.add;split<;>simp_all
 rw[hadd,cell_of_row w b (off+j) cs _ fr hh,hj j h1,<- h2,List.getElem_map]
theorem jT.aA {kk:List Int}(h:jT E W0 R v ks s w)(e:ks=kk):fA w v kk:=by rw[<- e];exact h.node
theorem jT.row {n:Nat}(h:jT E W0 R v ks s w)(e:ks.length=n):w.ownsRow W0.heap.size 3 1 v n (ks.map (Value.int .i64)):=by rw[<- e];exact h.1
theorem dP (E:bH)(aF:Nat)(K:jT E (jS E aF w) R v ks s w'):w'.cell? ⟨w.heap.size,0,none⟩=some (.pointer (some ⟨E.pb,0,none⟩))/\w'.cell? ⟨E.pb,0,none⟩=some (.pointer (some ⟨E.bb,0,none⟩)) :=
 ⟨jq E aF K.2.2.2.2,(PW.cells K.2.2.2.1).1⟩
theorem WO (E:bH)(hE:E.ok)(g:Nat)(ih:∀ R,EI { E with R:=R } g)(aF:Nat)(st:aN)(r:Int × aN)(w:World)(h:run E.ah E.depth (g+1) (.name aF) st=some r)(hp:PW E st w)(hn:r.2.aj.length+1<=1099511627776)(dO:aF<=E.depth)
  (hcl:(aD E.ah st).2.aC=false) (hx:bG E.ah (aD E.ah st).2 [[46],[40]]=true) :
  Calls Tryz.prog 319 #[.pointer (some ⟨E.pb,0,none⟩),.int .i64 aF] w (eG E r w):=by
 have wV:=hE.2.2;obtain⟨i0,hi,hz0,hz1,hz2⟩:=info_parts Tryz.oC;rw[run,aP (by rw[hcl,hx];simp)] at h;have hA:PW E st (jS E aF w):=hp.later (tN E aF w);have vU:Kp E.B w (jS E aF w):=Kp.of (tN E aF w) hp.fD;have hBW:E.B<=(jS E aF w).heap.size:=hA.fD;obtain⟨l,h1,h⟩:=bS h
 injection h with h
 subst h
 have hmf:∀ (fn:Fn) (first cap:Array Value) (w:World),(Instr.makeFunc fn first cap).run Tryz.prog w=.ok (.func fn first cap) w:=λ_ _ _ _=>rfl
 have n6:=aO (aI _ _ _) hn;have n5:=aO (aK _ _ _) n6;have hlx:=kN E.ah _ (λs k hk=>aW E.ah E.depth g _ _ _ hk) _ _ h1;have n4:=aO hlx n5;have n3:=aO (aK _ _ _) n4;have n2:=aO (Cu E.ah (aD E.ah st)) n3;have n1:=aO (aQ _ _) n2;have hll:=Kw _ _ _ _ h1;have HL:=ay (λw hp=>cB E st w hp hE.1 hE.2.1 n1);have hc:=ay hcl;clear hcl
 by_cases hd:bG E.ah (aD E.ah st).2 [[46]]=true
 ·have hqm:mq E.ah (aD E.ah st)=([(aD E.ah st).1,(aD E.ah (aD E.ah st).2).1,(bC E.ah 1 (aD E.ah (aD E.ah st).2).2).1],(bC E.ah 1 (aD E.ah (aD E.ah st).2).2).2):=by rw[mq,bq hd]
  clear hn hlx h;rw[hqm] at h1 n3 |-;dsimp only at h1 n3 |-;have n2a:=aO (eu _ _ _) n3;generalize hkk:(_++[(aM E.ah [[41]] l.2).1]:List Int)=kk;have HKK:=ay hkk;have HKL:Hid (kk.length<=1099511627776):=ay (by rw[<- hkk];simp;omega);clear hkk;clear hqm;have hA':PW E st ((w.alloc (.cells #[.pointer (some ⟨E.pb,0,none⟩)] 123)).alloc (.cells #[.int .i64 aF] 3)):=hA;obtain⟨d0,_,_,_,_,_⟩:=hA'.cells;go_enter Tryz.func319,Tryz.ntmps319;go_wp2_with (go_at_call 162;refine(HL.out _ hA').mono ?_);rintro e w1 ⟨rfl,hp1,Gg⟩;have hk1:Kp E.B (jS E aF w) w1:=Gg;clear d0 Gg hA';have K1:=jT.start (aD E.ah st).1 hp1 hk1;have p1:=jq E aF K1.2.2.2.2;obtain⟨_,_,c1,_,_,_⟩:=PW.cells K1.2.2.2.1;rw[hc.out] at c1;have ZJ:=xG { E with R:=w1.heap.size :: E.R } hE ⟨#[46]⟩ ⟨#[40]⟩ (aD E.ah st).2 true hx _ K1.2.2.2.1;rw[show (w1.alloc (.cells #[.int .i64 (aD E.ah st).1] 3)).heap.size=w1.heap.size+1 by simp] at ZJ;have HXB:=ay ZJ;clear ZJ;go_wp2_with (go_at_call 160;refine HXB.out.mono ?_);rintro e w2 ⟨rfl,hq,dI⟩;have K2:=K1.call hq dI;have p2:=jq E aF K2.2.2.2.2;clear hq dI c1 p1 K1 hp1 hk1 HXB;have HC:=ay (eD { E with R:=w1.heap.size :: E.R } hE ⟨#[46]⟩ (aD E.ah st).2 true hd _ K2.2.2.2.1);go_wp2_with (go_at_call 160;refine HC.out.mono ?_);rintro e w3 ⟨rfl,hq,dI⟩;have K3:=K2.call hq dI;clear hq dI HC;have p3:=jq E aF K3.2.2.2.2;obtain⟨d0,_,_,_,_,_⟩:=PW.cells K3.2.2.2.1;clear p2 K2;have K3d:jT E (jS E aF w) (w1.heap.size :: E.R) (.slice (some ⟨w1.heap.size,0,none⟩) 1 1) [(aD E.ah st).1] (aD E.ah st).2 w3.drew:=K3.call (PW.later K3.2.2.2.1 ((bY _ _).drew)) (Kp.of ((bY _ _).drew) K3.2.2.2.1.fD);have Gh:=ay (cB { E with R:=w1.heap.size :: E.R } (aD E.ah st).2 _ K3d.2.2.2.1 hE.1 hE.2.1 n2);have CJ:=ay (λw hq=>uS { E with R:=w1.heap.size :: E.R } hE 1 (aD E.ah (aD E.ah st).2).2 w hq n2a);have agL:=ay K3d;clear K3d;go_wp2
  go_region_held3 (λw'=>w'.cell? ⟨w.heap.size,0,none⟩=some (.pointer (some ⟨E.pb,0,none⟩))/\w'.cell? ⟨E.pb,0,none⟩=some (.pointer (some ⟨E.bb,0,none⟩))) (first|go_keep|exact p4|exact p5|exact p6)
   (first|(go_at_call 162;refine Gh.out.mono ?_;rintro e w4 ⟨rfl,hq4,agM⟩;have K4:=agL.out.call hq4 agM;have p4:=dP E aF K4)|(go_at_call 102;refine(CJ.out _ hq4).mono ?_;rintro e w5 ⟨rfl,zm,agN⟩;have K5:=K4.call zm agN;have p5:=dP E aF K5)|((refine step_append_lies _ (by rfl) _ _ _ (by rfl) (jS E aF w).heap.size 3 i0 _ 1 8 Tryz.underlying127 hi hz0 hz1 hz2 rfl (by omega) _ (1) _ (by rfl) (K5.lit _).1 ⟨w5.heap.size,0,none⟩ 2 2 [.int .i64 (aD E.ah (aD E.ah st).2).1,.int .i64 (bC E.ah 1 (aD E.ah (aD E.ah st).2).2).1] (by rfl) (by rfl) (wS (cs:=#[.int .i64 (aD E.ah (aD E.ah st).2).1,.int .i64 (bC E.ah 1 (aD E.ah (aD E.ah st).2).2).1]) (t:=3) (fr:=(0,0)) (aZ w5 _)) (by simp[Value.oneCell']) (by omega) (by unfold maxLen;omega) (by omega) (K5.lit _).2.2.2.2.size (w5.heap.size+1) (by simp) ?_;intro g6 cap6 w6 hown6 oF ZL ZM;obtain⟨R6,K6⟩:=(K5.lit (.cells #[.int .i64 (aD E.ah (aD E.ah st).2).1,.int .i64 (bC E.ah 1 (aD E.ah (aD E.ah st).2).2).1] 3)).app (news:=[(aD E.ah (aD E.ah st).2).1,(bC E.ah 1 (aD E.ah (aD E.ah st).2).2).1]) hBW (by simp) hown6 oF ZL (by simp) ZM;have p6:=dP E aF K6)))
  clear hown6 oF ZL ZM p6 K5 K4 K3 p3 d0 p4 p5 Gh CJ agL hq4 agM zm agN;have p6:=jq E aF K6.2.2.2.2;have HC:=ay (eO { E with R:=R6 } hE ⟨#[40]⟩ (bC E.ah 1 (aD E.ah (aD E.ah st).2).2).2 _ K6.2.2.2.1 n3);go_wp2_with (go_at_call 163;refine HC.out.mono ?_);rintro e w7 ⟨rfl,hq,dI⟩;have K7:=K6.call hq dI;clear hq dI HC;clear p6 K6;have hL8:=K7.lit (.cells #[.int .i64 (aM E.ah [[40]] (bC E.ah 1 (aD E.ah (aD E.ah st).2).2).2).1] 3);have ZN:=aZ w7 (.cells #[.int .i64 (aM E.ah [[40]] (bC E.ah 1 (aD E.ah (aD E.ah st).2).2).2).1] 3);go_wp2_with (at_builtin;refine wpList_append_lies _ rfl _ _ 127 rfl (jS E aF w).heap.size 3 i0 (.int .i64 0) 1 8 Tryz.underlying127 hi hz0 hz1 hz2 rfl (by decide) _ (3) _ rfl hL8.1 ⟨w7.heap.size,0,none⟩ 1 1 [.int .i64 (aM E.ah [[40]] (bC E.ah 1 (aD E.ah (aD E.ah st).2).2).2).1] rfl rfl ?c1 ?c2 ?c3 ?c4 ?c5 ?c6 _ rfl ?_)
  case c1=>exact wS (cs:=#[.int .i64 (aM E.ah [[40]] (bC E.ah 1 (aD E.ah (aD E.ah st).2).2).2).1]) (t:=3) (fr:=(0,0)) ZN
  case c2=>simp[Value.oneCell']
  case c3=>omega
  case c4=>unfold maxLen;omega
  case c5=>omega
  case c6=>exact hL8.2.2.2.2.size
  intro g8 Sw w8 xI pR Gf zW;obtain⟨R8,K8⟩:=hL8.app (news:=[(aM E.ah [[40]] (bC E.ah 1 (aD E.ah (aD E.ah st).2).2).2).1]) hBW (by simp) xI pR Gf (by simp) zW;clear hL8 ZN xI pR Gf zW K7;have p8:=jq E aF K8.2.2.2.2;have HLs:=ay (Ku { E with R:=R8 } hE (λs=>run E.ah E.depth g (.expr (aF+1)) s) w.heap.size (w.heap.size+1) (aM E.ah [[40]] (bC E.ah 1 (aD E.ah (aD E.ah st).2).2).2).2 l w8 h1 K8.2.2.2.1 n5 (λs k hk=>aW E.ah E.depth g _ _ _ hk) (λR s k w' hk hR hkk hnk=>Kv { E with R:=R } g aF _ _ (ih R) s k w' hk hR hnk dO wV (jq E aF (K8.2.2.2.2.trans hkk)) (U9 E aF (K8.2.2.2.2.trans hkk))));clear h1;go_wp2_with (go_at_call 164;refine HLs.out.mono ?_);rintro e w9 ⟨v,rfl,hiv,hnil,hq,dI⟩;have K9:=K8.call hq dI;clear hq dI HLs p8 K8
  by_cases hl0:l.1=[]
  ·obtain rfl:=hnil hl0
   go_wp2_with (at_builtin;refine wpList_append_own_none rfl _ _ 127 rfl (jS E aF w).heap.size 3 i0 1 Tryz.underlying127 hi _ (4) _ rfl K9.1 rfl ?_);go_wp2;have HKE:=ay (show [(aD E.ah st).1]++[(aD E.ah (aD E.ah st).2).1,(bC E.ah 1 (aD E.ah (aD E.ah st).2).2).1]++[(aM E.ah [[40]] (bC E.ah 1 (aD E.ah (aD E.ah st).2).2).2).1]++[(aM E.ah [[41]] l.2).1]=kk by rw[<- HKK.out,hl0]<;>rfl);have Kd:=K9.call (PW.later K9.2.2.2.1 ((bY _ _).drew)) (Kp.of ((bY _ _).drew) K9.2.2.2.1.fD);have Gh:=ay (eO { E with R:=R8 } hE ⟨#[41]⟩ l.2 w9.drew Kd.2.2.2.1 n5);have CJ:=ay (λR w v hq hv=>l7 { E with R:=R } 13 v kk (aM E.ah [[41]] l.2).2 w hq hv HKL.out n6);have pd:=dP E aF Kd;have Ks:=K9.lit (.cells #[.string ⟨#[41]⟩] 9);have ps:=dP E aF (Ks.call (PW.later Ks.2.2.2.1 ((bY _ _).drew)) (Kp.of ((bY _ _).drew) Ks.2.2.2.1.fD));clear Ks;have HKd:=ay Kd;clear Kd
   go_region_held3 (λw'=>w'.cell? ⟨w.heap.size,0,none⟩=some (.pointer (some ⟨E.pb,0,none⟩))/\w'.cell? ⟨E.pb,0,none⟩=some (.pointer (some ⟨E.bb,0,none⟩))) (first|go_keep|exact pd|exact ps|exact p11|exact p12|exact p13)
   (first|(go_at_call 163;refine Gh.out.mono ?_;rintro e xJ ⟨rfl,hq11,Gi⟩;have CK:=HKd.out.call hq11 Gi;have p11:=dP E aF CK)|((refine step_append_lies _ (by rfl) _ _ _ (by rfl) (jS E aF w).heap.size 3 i0 _ 1 8 Tryz.underlying127 hi hz0 hz1 hz2 rfl (by omega) _ (4) _ (by rfl) (jT.row (CK.lit _) (by simp<;>omega)) ⟨xJ.heap.size,0,none⟩ 1 1 [.int .i64 (aM E.ah [[41]] l.2).1] (by rfl) (by rfl) (wS (cs:=#[.int .i64 (aM E.ah [[41]] l.2).1]) (t:=3) (fr:=(0,0)) (aZ xJ _)) (by simp[Value.oneCell']) (by omega) (by unfold maxLen;omega) (by omega) (CK.lit _).2.2.2.2.size (xJ.heap.size+1) (by simp) ?_;intro g12 Va w12 zX vW Gj Gl;obtain⟨R12,Ct⟩:=(CK.lit (.cells #[.int .i64 (aM E.ah [[41]] l.2).1] 3)).app (news:=[(aM E.ah [[41]] l.2).1]) hBW (by simp<;>omega) zX vW Gj (by simp) Gl;have p12:=dP E aF Ct))|(go_at_call 101;refine(CJ.out _ _ _ Ct.2.2.2.1 (Ct.aA HKE.out)).mono ?_;rintro e w13 ⟨rfl,SB,Gm⟩;have EL:=Ct.call SB Gm;have p13:=dP E aF EL))
   go_wp2;go_ret;exact⟨rfl,PR.drop EL.2.2.2.1 EL.2.2.1,vU.trans EL.2.2.2.2⟩
  ·have hpos:0<l.1.length:=List.length_pos_iff.2 hl0
   obtain⟨ao,SC,rfl,hcv,hf⟩:=hiv;obtain⟨vb,vo,vcs,vfr,rfl,hh,hj⟩:=hf hpos;clear hnil hl0 hf;go_wp2_with (at_builtin;refine wpList_append_lies _ rfl _ _ 127 rfl (jS E aF w).heap.size 3 i0 (.int .i64 0) 1 8 Tryz.underlying127 hi hz0 hz1 hz2 rfl (by decide) _ (4) _ rfl K9.1 ⟨vb,vo,none⟩ l.1.length SC (l.1.map (Value.int .i64)) rfl (by simp) ?c1 ?c2 ?c3 ?c4 ?c5 ?c6 _ rfl ?_)
   case c1=>exact yK hh hj
   case c2=>intro u hu;obtain⟨y,_,rfl⟩:=List.mem_map.1 hu;rfl
   case c3=>exact hpos
   case c4=>unfold maxLen;omega
   case c5=>omega
   case c6=>exact K9.2.2.2.2.size
   intro g10 agO nP Gn Bo OT OU;obtain⟨R10,Ky⟩:=K9.app (news:=l.1) hBW (by simp<;>omega) Gn Bo OT (by simp) OU;clear Gn Bo OT OU K9 hh hj;have p10:=jq E aF Ky.2.2.2.2;clear p10;go_wp2;have HKE:=ay (show [(aD E.ah st).1]++[(aD E.ah (aD E.ah st).2).1,(bC E.ah 1 (aD E.ah (aD E.ah st).2).2).1]++[(aM E.ah [[40]] (bC E.ah 1 (aD E.ah (aD E.ah st).2).2).2).1]++l.1++[(aM E.ah [[41]] l.2).1]=kk by rw[<- HKK.out]<;>rfl);have Kd:=Ky.call (PW.later Ky.2.2.2.1 ((bY _ _).drew)) (Kp.of ((bY _ _).drew) Ky.2.2.2.1.fD);have Gh:=ay (eO { E with R:=R10 } hE ⟨#[41]⟩ l.2 nP.drew Kd.2.2.2.1 n5);have CJ:=ay (λR w v hq hv=>l7 { E with R:=R } 13 v kk (aM E.ah [[41]] l.2).2 w hq hv HKL.out n6);have pd:=dP E aF Kd;have Ks:=Ky.lit (.cells #[.string ⟨#[41]⟩] 9);have ps:=dP E aF (Ks.call (PW.later Ks.2.2.2.1 ((bY _ _).drew)) (Kp.of ((bY _ _).drew) Ks.2.2.2.1.fD));clear Ks;have HKd:=ay Kd;clear Kd
   go_region_held3 (λw'=>w'.cell? ⟨w.heap.size,0,none⟩=some (.pointer (some ⟨E.pb,0,none⟩))/\w'.cell? ⟨E.pb,0,none⟩=some (.pointer (some ⟨E.bb,0,none⟩))) (first|go_keep|exact pd|exact ps|exact p11|exact p12|exact p13)
   (first|(go_at_call 163;refine Gh.out.mono ?_;rintro e xJ ⟨rfl,hq11,Gi⟩;have CK:=HKd.out.call hq11 Gi;have p11:=dP E aF CK)|((refine step_append_lies _ (by rfl) _ _ _ (by rfl) (jS E aF w).heap.size 3 i0 _ 1 8 Tryz.underlying127 hi hz0 hz1 hz2 rfl (by omega) _ (4+l.1.length) _ (by rfl) (jT.row (CK.lit _) (by simp<;>omega)) ⟨xJ.heap.size,0,none⟩ 1 1 [.int .i64 (aM E.ah [[41]] l.2).1] (by rfl) (by rfl) (wS (cs:=#[.int .i64 (aM E.ah [[41]] l.2).1]) (t:=3) (fr:=(0,0)) (aZ xJ _)) (by simp[Value.oneCell']) (by omega) (by unfold maxLen;omega) (by omega) (CK.lit _).2.2.2.2.size (xJ.heap.size+1) (by simp) ?_;intro g12 Va w12 zX vW Gj Gl;obtain⟨R12,Ct⟩:=(CK.lit (.cells #[.int .i64 (aM E.ah [[41]] l.2).1] 3)).app (news:=[(aM E.ah [[41]] l.2).1]) hBW (by simp<;>omega) zX vW Gj (by simp) Gl;have p12:=dP E aF Ct))|(go_at_call 101;refine(CJ.out _ _ _ Ct.2.2.2.1 (Ct.aA HKE.out)).mono ?_;rintro e w13 ⟨rfl,SB,Gm⟩;have EL:=Ct.call SB Gm;have p13:=dP E aF EL))
   go_wp2;go_ret;exact⟨rfl,PR.drop EL.2.2.2.1 EL.2.2.1,vU.trans EL.2.2.2.2⟩
 ·have hqm:mq E.ah (aD E.ah st)=([(aD E.ah st).1],(aD E.ah st).2):=by rw[mq,aP hd]
  clear hn hlx h;rw[hqm] at h1 n3 |-;dsimp only at h1 n3 |-;generalize hkk:(_++[(aM E.ah [[41]] l.2).1]:List Int)=kk;have HKK:=ay hkk;have HKL:Hid (kk.length<=1099511627776):=ay (by rw[<- hkk];simp;omega);clear hkk;clear hqm;have hA':PW E st ((w.alloc (.cells #[.pointer (some ⟨E.pb,0,none⟩)] 123)).alloc (.cells #[.int .i64 aF] 3)):=hA;obtain⟨d0,_,_,_,_,_⟩:=hA'.cells;go_enter Tryz.func319,Tryz.ntmps319;go_wp2_with (go_at_call 162;refine(HL.out _ hA').mono ?_);rintro e w1 ⟨rfl,hp1,Gg⟩;have hk1:Kp E.B (jS E aF w) w1:=Gg;clear d0 Gg hA';have K1:=jT.start (aD E.ah st).1 hp1 hk1;have p1:=jq E aF K1.2.2.2.2;obtain⟨_,_,c1,_,_,_⟩:=PW.cells K1.2.2.2.1;rw[hc.out] at c1;have ZJ:=xG { E with R:=w1.heap.size :: E.R } hE ⟨#[46]⟩ ⟨#[40]⟩ (aD E.ah st).2 true hx _ K1.2.2.2.1;rw[show (w1.alloc (.cells #[.int .i64 (aD E.ah st).1] 3)).heap.size=w1.heap.size+1 by simp] at ZJ;have HXB:=ay ZJ;clear ZJ;go_wp2_with (go_at_call 160;refine HXB.out.mono ?_);rintro e w2 ⟨rfl,hq,dI⟩;have K2:=K1.call hq dI;have p2:=jq E aF K2.2.2.2.2;clear hq dI c1 p1 K1 hp1 hk1 HXB;have HC:=ay (eD { E with R:=w1.heap.size :: E.R } hE ⟨#[46]⟩ (aD E.ah st).2 false (eq_false_of_ne_true hd) _ K2.2.2.2.1);go_wp2_with (go_at_call 160;refine HC.out.mono ?_);rintro e w3 ⟨rfl,hq,dI⟩;have K3:=K2.call hq dI;clear hq dI HC;have p3:=jq E aF K3.2.2.2.2;clear p2 K2;have HC:=ay (eO { E with R:=w1.heap.size :: E.R } hE ⟨#[40]⟩ (aD E.ah st).2 _ K3.2.2.2.1 n3);go_wp2_with (go_at_call 163;refine HC.out.mono ?_);rintro e w7 ⟨rfl,hq,dI⟩;have K7:=K3.call hq dI;clear hq dI HC;clear p3 K3;have hL8:=K7.lit (.cells #[.int .i64 (aM E.ah [[40]] (aD E.ah st).2).1] 3);have ZN:=aZ w7 (.cells #[.int .i64 (aM E.ah [[40]] (aD E.ah st).2).1] 3)
  go_wp2_with (at_builtin;refine wpList_append_lies _ rfl _ _ 127 rfl (jS E aF w).heap.size 3 i0 (.int .i64 0) 1 8 Tryz.underlying127 hi hz0 hz1 hz2 rfl (by decide) _ (1) _ rfl hL8.1 ⟨w7.heap.size,0,none⟩ 1 1 [.int .i64 (aM E.ah [[40]] (aD E.ah st).2).1] rfl rfl ?c1 ?c2 ?c3 ?c4 ?c5 ?c6 _ rfl ?_)
  case c1=>exact wS (cs:=#[.int .i64 (aM E.ah [[40]] (aD E.ah st).2).1]) (t:=3) (fr:=(0,0)) ZN
  case c2=>simp[Value.oneCell']
  case c3=>omega
  case c4=>unfold maxLen;omega
  case c5=>omega
  case c6=>exact hL8.2.2.2.2.size
  intro g8 Sw w8 xI pR Gf zW;obtain⟨R8,K8⟩:=hL8.app (news:=[(aM E.ah [[40]] (aD E.ah st).2).1]) hBW (by simp) xI pR Gf (by simp) zW;clear hL8 ZN xI pR Gf zW K7;have p8:=jq E aF K8.2.2.2.2;have HLs:=ay (Ku { E with R:=R8 } hE (λs=>run E.ah E.depth g (.expr (aF+1)) s) w.heap.size (w.heap.size+1) (aM E.ah [[40]] (aD E.ah st).2).2 l w8 h1 K8.2.2.2.1 n5 (λs k hk=>aW E.ah E.depth g _ _ _ hk) (λR s k w' hk hR hkk hnk=>Kv { E with R:=R } g aF _ _ (ih R) s k w' hk hR hnk dO wV (jq E aF (K8.2.2.2.2.trans hkk)) (U9 E aF (K8.2.2.2.2.trans hkk))));clear h1;go_wp2_with (go_at_call 164;refine HLs.out.mono ?_);rintro e w9 ⟨v,rfl,hiv,hnil,hq,dI⟩;have K9:=K8.call hq dI;clear hq dI HLs p8 K8
  by_cases hl0:l.1=[]
  ·obtain rfl:=hnil hl0
   go_wp2_with (at_builtin;refine wpList_append_own_none rfl _ _ 127 rfl (jS E aF w).heap.size 3 i0 1 Tryz.underlying127 hi _ (2) _ rfl K9.1 rfl ?_);go_wp2;have HKE:=ay (show [(aD E.ah st).1]++[(aM E.ah [[40]] (aD E.ah st).2).1]++[(aM E.ah [[41]] l.2).1]=kk by rw[<- HKK.out,hl0]<;>rfl);have Kd:=K9.call (PW.later K9.2.2.2.1 ((bY _ _).drew)) (Kp.of ((bY _ _).drew) K9.2.2.2.1.fD);have Gh:=ay (eO { E with R:=R8 } hE ⟨#[41]⟩ l.2 w9.drew Kd.2.2.2.1 n5);have CJ:=ay (λR w v hq hv=>l7 { E with R:=R } 13 v kk (aM E.ah [[41]] l.2).2 w hq hv HKL.out n6);have pd:=dP E aF Kd;have Ks:=K9.lit (.cells #[.string ⟨#[41]⟩] 9);have ps:=dP E aF (Ks.call (PW.later Ks.2.2.2.1 ((bY _ _).drew)) (Kp.of ((bY _ _).drew) Ks.2.2.2.1.fD));clear Ks;have HKd:=ay Kd;clear Kd
   go_region_held3 (λw'=>w'.cell? ⟨w.heap.size,0,none⟩=some (.pointer (some ⟨E.pb,0,none⟩))/\w'.cell? ⟨E.pb,0,none⟩=some (.pointer (some ⟨E.bb,0,none⟩))) (first|go_keep|exact pd|exact ps|exact p11|exact p12|exact p13)
   (first|(go_at_call 163;refine Gh.out.mono ?_;rintro e xJ ⟨rfl,hq11,Gi⟩;have CK:=HKd.out.call hq11 Gi;have p11:=dP E aF CK)|((refine step_append_lies _ (by rfl) _ _ _ (by rfl) (jS E aF w).heap.size 3 i0 _ 1 8 Tryz.underlying127 hi hz0 hz1 hz2 rfl (by omega) _ (2) _ (by rfl) (jT.row (CK.lit _) (by simp<;>omega)) ⟨xJ.heap.size,0,none⟩ 1 1 [.int .i64 (aM E.ah [[41]] l.2).1] (by rfl) (by rfl) (wS (cs:=#[.int .i64 (aM E.ah [[41]] l.2).1]) (t:=3) (fr:=(0,0)) (aZ xJ _)) (by simp[Value.oneCell']) (by omega) (by unfold maxLen;omega) (by omega) (CK.lit _).2.2.2.2.size (xJ.heap.size+1) (by simp) ?_;intro g12 Va w12 zX vW Gj Gl;obtain⟨R12,Ct⟩:=(CK.lit (.cells #[.int .i64 (aM E.ah [[41]] l.2).1] 3)).app (news:=[(aM E.ah [[41]] l.2).1]) hBW (by simp<;>omega) zX vW Gj (by simp) Gl;have p12:=dP E aF Ct))|(go_at_call 101;refine(CJ.out _ _ _ Ct.2.2.2.1 (Ct.aA HKE.out)).mono ?_;rintro e w13 ⟨rfl,SB,Gm⟩;have EL:=Ct.call SB Gm;have p13:=dP E aF EL))
   go_wp2;go_ret;exact⟨rfl,PR.drop EL.2.2.2.1 EL.2.2.1,vU.trans EL.2.2.2.2⟩
  ·have hpos:0<l.1.length:=List.length_pos_iff.2 hl0
   obtain⟨ao,SC,rfl,hcv,hf⟩:=hiv;obtain⟨vb,vo,vcs,vfr,rfl,hh,hj⟩:=hf hpos;clear hnil hl0 hf;go_wp2_with (at_builtin;refine wpList_append_lies _ rfl _ _ 127 rfl (jS E aF w).heap.size 3 i0 (.int .i64 0) 1 8 Tryz.underlying127 hi hz0 hz1 hz2 rfl (by decide) _ (2) _ rfl K9.1 ⟨vb,vo,none⟩ l.1.length SC (l.1.map (Value.int .i64)) rfl (by simp) ?c1 ?c2 ?c3 ?c4 ?c5 ?c6 _ rfl ?_)
   case c1=>exact yK hh hj
   case c2=>intro u hu;obtain⟨y,_,rfl⟩:=List.mem_map.1 hu;rfl
   case c3=>exact hpos
   case c4=>unfold maxLen;omega
   case c5=>omega
   case c6=>exact K9.2.2.2.2.size
   intro g10 agO nP Gn Bo OT OU;obtain⟨R10,Ky⟩:=K9.app (news:=l.1) hBW (by simp<;>omega) Gn Bo OT (by simp) OU;clear Gn Bo OT OU K9 hh hj;have p10:=jq E aF Ky.2.2.2.2;clear p10;go_wp2;have HKE:=ay (show [(aD E.ah st).1]++[(aM E.ah [[40]] (aD E.ah st).2).1]++l.1++[(aM E.ah [[41]] l.2).1]=kk by rw[<- HKK.out]<;>rfl);have Kd:=Ky.call (PW.later Ky.2.2.2.1 ((bY _ _).drew)) (Kp.of ((bY _ _).drew) Ky.2.2.2.1.fD);have Gh:=ay (eO { E with R:=R10 } hE ⟨#[41]⟩ l.2 nP.drew Kd.2.2.2.1 n5);have CJ:=ay (λR w v hq hv=>l7 { E with R:=R } 13 v kk (aM E.ah [[41]] l.2).2 w hq hv HKL.out n6);have pd:=dP E aF Kd;have Ks:=Ky.lit (.cells #[.string ⟨#[41]⟩] 9);have ps:=dP E aF (Ks.call (PW.later Ks.2.2.2.1 ((bY _ _).drew)) (Kp.of ((bY _ _).drew) Ks.2.2.2.1.fD));clear Ks;have HKd:=ay Kd;clear Kd
   go_region_held3 (λw'=>w'.cell? ⟨w.heap.size,0,none⟩=some (.pointer (some ⟨E.pb,0,none⟩))/\w'.cell? ⟨E.pb,0,none⟩=some (.pointer (some ⟨E.bb,0,none⟩))) (first|go_keep|exact pd|exact ps|exact p11|exact p12|exact p13)
   (first|(go_at_call 163;refine Gh.out.mono ?_;rintro e xJ ⟨rfl,hq11,Gi⟩;have CK:=HKd.out.call hq11 Gi;have p11:=dP E aF CK)|((refine step_append_lies _ (by rfl) _ _ _ (by rfl) (jS E aF w).heap.size 3 i0 _ 1 8 Tryz.underlying127 hi hz0 hz1 hz2 rfl (by omega) _ (2+l.1.length) _ (by rfl) (jT.row (CK.lit _) (by simp<;>omega)) ⟨xJ.heap.size,0,none⟩ 1 1 [.int .i64 (aM E.ah [[41]] l.2).1] (by rfl) (by rfl) (wS (cs:=#[.int .i64 (aM E.ah [[41]] l.2).1]) (t:=3) (fr:=(0,0)) (aZ xJ _)) (by simp[Value.oneCell']) (by omega) (by unfold maxLen;omega) (by omega) (CK.lit _).2.2.2.2.size (xJ.heap.size+1) (by simp) ?_;intro g12 Va w12 zX vW Gj Gl;obtain⟨R12,Ct⟩:=(CK.lit (.cells #[.int .i64 (aM E.ah [[41]] l.2).1] 3)).app (news:=[(aM E.ah [[41]] l.2).1]) hBW (by simp<;>omega) zX vW Gj (by simp) Gl;have p12:=dP E aF Ct))|(go_at_call 101;refine(CJ.out _ _ _ Ct.2.2.2.1 (Ct.aA HKE.out)).mono ?_;rintro e w13 ⟨rfl,SB,Gm⟩;have EL:=Ct.call SB Gm;have p13:=dP E aF EL))
   go_wp2;go_ret;exact⟨rfl,PR.drop EL.2.2.2.1 EL.2.2.1,vU.trans EL.2.2.2.2⟩
theorem WQ (E:bH)(hE:E.ok)(g:Nat)(ih:∀ R,EI { E with R:=R } g)(aF:Nat)(st:aN)(r:Int × aN)(w:World)(h:run E.ah E.depth (g+1) (.name aF) st=some r)(hp:PW E st w)(hn:r.2.aj.length+1<=1099511627776)(dO:aF<=E.depth) :
  Calls Tryz.prog 319 #[.pointer (some ⟨E.pb,0,none⟩),.int .i64 aF] w (eG E r w):=by
 by_cases hc:(aD E.ah st).2.aC=true\/bG E.ah (aD E.ah st).2 [[46],[40]]=false
 ·exact SA E hE g aF st r w h hp hn dO hc
 ·refine WO E hE g ih aF st r w h hp hn dO ?_ ?_
  ·exact eq_false_of_ne_true λq=>hc (.inl q)
  ·cases hq:bG E.ah (aD E.ah st).2 [[46],[40]] with
   | true=>rfl
   | false=>exact(hc (.inr hq)).elim
theorem Kz (E:bH)(hE:E.ok):∀ (g g':Nat),g'<=g->∀ R,EI { E with R:=R } g'
 | 0,g',hg,R=>by
  obtain rfl:g'=0:=by omega
  intro t st r w h;rw[run] at h;cases h
 | g+1,g',hg,R=>by
  have ih:=Kz E hE g
  by_cases h':g'<=g
  ·exact ih g' h' R
  ·obtain rfl:g'=g+1:=by omega
   intro t st r w h hp hn dO;have hE':bH.ok { E with R:=R }:=hE;have i0:=ih g (bI _) R
   cases t with
   | expr aF=>exact WI { E with R:=R } hE' g i0 aF st r w h hp hn dO
   | formula aF=>exact Mr { E with R:=R } hE' g i0 aF st r w h hp hn dO
   | part l aF=>exact WK { E with R:=R } g i0 l aF st r w h hp hn dO
   | row l aF=>exact row_step { E with R:=R } hE' g (λg' h'=>ih g' h' R) l aF st r w h hp hn dO
   | loop l aF a=>trivial
   | neg aF=>exact Zy { E with R:=R } hE' g i0 aF st r w h hp hn dO
   | factor aF=>exact OO { E with R:=R } hE' g i0 aF st r w h hp hn dO
   | atom aF=>exact WM { E with R:=R } hE' g i0 aF st r w h hp hn dO
   | name aF=>exact WQ { E with R:=R } hE' g (λR'=>ih g (bI _) R') aF st r w h hp hn dO
theorem allT (E:bH)(hE:E.ok)(g:Nat):EI E g:=Kz E hE g g (bI _) E.R
theorem PW.mark {st:aN}(h:PW E st w)(c:Bool):PW E { st with aC:=c } (w.setCell ⟨E.pb,2,none⟩ (.bool c))/\Kp E.B w (w.setCell ⟨E.pb,2,none⟩ (.bool c)):=by
 obtain⟨h1,h2,h3,h4,h5⟩:=h
 have hkeep:∀ (k:Nat) (cs:Array Value) (T:TypeId) (fr:Nat × Nat),w.heap[k]?=some (.cells cs T fr)->T≠184->(w.setCell ⟨E.pb,2,none⟩ (.bool c)).heap[k]?=some (.cells cs T fr):=λk cs T fr h0 q=>by
  have hne:k≠E.pb:=by
   rintro rfl;rw[h1] at h0;simp only[Option.some.injEq,Obj.cells.injEq] at h0;exact q h0.2.1.symm
  rw[qo _ _ _ _ hne];exact h0
 have hb:Below E.B w (w.setCell ⟨E.pb,2,none⟩ (.bool c)):=(bY _ _).setCell h4 _
 have hk:Kp E.B w (w.setCell ⟨E.pb,2,none⟩ (.bool c)):=⟨hb,λk cs T fr h0 q1 _ _=>hkeep k cs T fr h0 q1⟩
 refine⟨⟨?_,?_,h3.below hb,h4,h5.1,λr hr=>zI (h5.2 r hr) hb.size⟩,hk⟩
 ·rw[kG w E.pb 2 _ _ _ h1]
  rfl
 ·obtain⟨b1,nv,l,b2,b3,b4,b5⟩:=h2
  refine⟨b1,nv,l,hkeep _ _ _ _ b2 (by decide),b3,?_,λp hp=>(b5 p hp).kept hk⟩;exact iQ b4 (own_ne b4 h1 (by decide)) _
def aeB (E:bH)(st:aN)(w:World)(e:Ending)(w':World):Prop:=e=.returned (.tuple #[])/\PW E st w'/\Kp E.B w w'
theorem Tryz.ZO:(Tryz.prog.info? 131).map (λi=>(i.zero,i.size,i.bytes))=some (some (.agg #[.int .i64 0,.string ⟨#[]⟩,.string ⟨#[]⟩,.int .i64 0]),4,48):=by kernel_rfl
def ZQ (ah:List Tok)(w:World)(e:Ending)(w':World):Prop:=∃ v',e=.returned v'/\w'.ownsRow w.heap.size 131 4 v' ah.length (ah.flatMap dW)/\Below w.heap.size w w'
theorem Gp (B:Nat)(tv:Value)(ah:List Tok)(w:World)(h:Rec B w tv 4 dW ah)(h0:0<ah.length)(hn:ah.length<=1099511627776) :
  Calls Tryz.prog 158 #[tv] w (ZQ ah w):=by
 obtain⟨i0,hi,hz0,hz1,hz2⟩:=info_parts Tryz.ZO;obtain⟨ao,cap,rfl,hcap,hlen,hf⟩:=h;obtain⟨b,off,rfl,hB,hcell⟩:=hf h0;have A:=ay hcell;have HLEN:=ay hlen
 have hu:∀ u∈ah.flatMap dW,u.oneCell'=true:=by
  intro u hu;obtain⟨t,_,ht⟩:=List.mem_flatMap.1 hu;simp only[dW,oo,List.not_mem_nil,or_false] at ht
  rcases ht with rfl|rfl|rfl|rfl<;>rfl
 have HU:=ay hu;clear hcell hf hlen hu
 have q22:∀ (w:World) (a:Option Addr) (n c n' c':Nat),(binOp .eql 78 (.slice a n c) (.slice none n' c')).run Tryz.prog w=.ok (.bool a.isNone) w:=λw a n c n' c'=>Lib.run_eql_slice_nil w _ _ a n c n' c' Tryz.underlying78
 have u22:∀ w,Sem.run Tryz.prog (underlying 78) w=.ok (TypeDesc.slice 131) w:=run_underlying Tryz.underlying78;go_enter Tryz.func158,Tryz.ntmps158;go_wp2_with (at_builtin;refine wpList_append_own _ rfl _ _ 78 rfl w.heap.size 131 i0 (.agg #[.int .i64 0,.string ⟨#[]⟩,.string ⟨#[]⟩,.int .i64 0]) 4 48 Tryz.underlying78 hi hz0 hz1 hz2 rfl (by decide) _ _ _ rfl (World.ownsRow_made w #[] 0 (bI _) (mD _) rfl) ⟨b,off,none⟩ ah.length cap (ah.flatMap dW) rfl ?qc1 ?qc2 ?qc3 ?qc4 ?qc5 ?qc6 ?_)
 case qc1=>exact HLEN.out
 case qc2 =>
  intro j u hj;obtain⟨h1,h2⟩:=qm hj;rw[Addr.add_lit];refine Lib.cell?_alloc_some _ ?_;rw[A.out j h1,h2]
 case qc3=>exact HU.out
 case qc4=>unfold maxLen;omega
 case qc5=>omega
 case qc6=>simp
 intro v' w1 hown hgrow hnil;go_wp2;go_ret;refine⟨v',rfl,by simpa using hown,?_⟩;exact((bY _ w).alloc (bI _) _).grown hgrow (by simp) (by intro k hk;simp[Value.ownBlock] at hk;omega)
def afi (ah:List Tok)(w:World)(e:Ending)(w':World):Prop :=
 ∃ (bb B:Nat) (tv:Value),e=.returned (.pointer (some ⟨bb,0,none⟩))/\BW [] B bb tv 0 [] w'/\Rec B w' tv 4 dW ah/\w.heap.size<=B/\Below w.heap.size w w'
theorem ZR (B:Nat)(tv:Value)(ah:List Tok)(w:World)(h:Rec B w tv 4 dW ah)(h0:0<ah.length)(hn:ah.length<=1099511627776) :
  Calls Tryz.prog 95 #[tv] w (afi ah w):=by
 have HC:=ay (Gp B tv ah w h h0 hn);obtain⟨ao,cap,rfl,_,_,_⟩:=h;go_enter Tryz.func95,Tryz.ntmps95;go_wp2_with (go_at_call 158;refine HC.out.mono ?_);rintro e w1 ⟨v',rfl,hown,hb⟩;obtain⟨g,c5,rfl,hg1,hg2⟩:=hown.form h0;go_wp2;go_ret;have hb1:=aB w1 (.cells #[.slice (some ⟨g,0,none⟩) ah.length c5,.slice none 0 0,.int .i64 0] 241);refine⟨w1.heap.size,w1.heap.size,_,rfl,⟨bI _,.slice none 0 0,[],aZ _ _,rfl,World.ownsRow_nil _ _ _ _,λp hp=>by cases hp⟩,?_,hb.size,hb.trans (hb1.mono hb.size)⟩;exact(Sl.fZ hown).below hb1
theorem yL {P:Program}{ops:Array Oper}{o:Oper}{a:Act}{K:Act->World->Prop}{Q:Exit->Act->World->Prop}{E:Prop}
  (hg:o.guard=none) (f:Nat) (xs:Array Operand) (ts:Array TypeId) (hop:o.op=Op.call { callee:=Callee.value (Operand.func f),args:=xs,argTypes:=ts })
  {args:Array Value} {R:Ending->World->Prop} (hc:Calls P f args w R) (hargs:xs.toList.map a.eval=args.toList) (henter:(callFunc f args).run P w=.ok (.enter f args) w)
  (hK:∀ e w',R e w'->∃ v,e=.returned v/\K (a.put o.dst v) w') :
  if Region.wanted o (yielded ops a.tmps)=true then Oper.wp P o a w K Q else E:=by
 have hw:Region.wanted o (yielded ops a.tmps)=true:=by simp[Region.wanted,hg]
 rw[bq hw]
 have hm:xs.map a.eval=args:=by
  apply Array.ext'
  rw[Array.toList_map,hargs]
 have hrun:(execOp a.eval o).run P w=.ok (.enter f args) w:=by
  simp[execOp,hop,resolve,invoke,Act.eval,hm,henter,Deferred.ofValue,go_sem]
 unfold Oper.wp;rw[hrun,Oper.upon_enter]
 refine hc.mono λe w' hR=>?_
 obtain⟨v,rfl,h⟩:=hK e w' hR;exact h
theorem Tryz.ZT:(Tryz.prog.info? 64).map (λi=>(i.zero,i.size,i.bytes))=some (some (.agg #[.int .i64 0,.string ⟨#[]⟩,.string ⟨#[]⟩,.bool false,.slice none 0 0,.bool false,.slice none 0 0,.int .i64 0]),8,112):=by kernel_rfl
theorem Tryz.SF:∀ args w,(callFunc 108 args).run Tryz.prog w=.ok (.enter 108 args) w:=Go.Proofs.enters_of Tryz.func108 (by kernel_rfl) rfl
def kV (S:Shape)(C e:Nat)(w:World)(kv:Value)(es:List PE):Prop :=
 ∃ l,w.ownsRow C e S.sz kv es.length (rX S es l)/\jl S (λb=>C<=b/\some b≠kv.ownBlock) w l es
theorem kV.nil (S:Shape)(C e:Nat)(w:World):kV S C e w (.slice none 0 0) []:=⟨[],World.ownsRow_nil _ _ _ _,by rw[jl]⟩
theorem kV.below {C:Nat}{es:List PE}(h:kV S C e w kv es)(hb:Below w.heap.size w w'):kV S C e w' kv es:=by
 obtain⟨l,h1,h2⟩:=h;exact⟨l,own_below h1 hb,h2.frame (bA.of hb)⟩
theorem kV.set {S:Shape}{C e:Nat}{w:World}{kv:Value}{es:List PE}(h:kV S C e w kv es){a:Addr}(ha:a.block<C)(u:Value):kV S C e (w.setCell a u) kv es:=by
 obtain⟨l,h1,h2⟩:=h;refine⟨l,iQ h1 (λq=>?_) u,h2.frame (bA.set u λb hb=>by have:=hb.1;omega)⟩;have:=(h1.lt a.block q.symm).1;omega
theorem kV.snoc {S:Shape}{C e:Nat}{w w':World}{kv kv' m k:Value}{es:List PE}{x:PE}{g H:Nat}{l:List (Value × Value)}(h2:jl S (λb=>C<=b/\some b≠kv.ownBlock) w l es)(hx:qC S (λb=>C<=b/\some b≠kv.ownBlock) w m k x)
  (hown:w'.ownsRow C e S.sz kv' (es.length+1) (rX S es l++S.cells x m k)) (hgrow:w.grownBy w' kv.ownBlock) (hv:kv'.ownBlock=some g) (hor:kv.ownBlock=some g\/g=H) (hH:w.heap.size<=H):kV S C e w' kv' (es++[x]):=by
 have hll:=h2.len
 have hal:∀ (P:Nat->Prop),(∀ b,P b->some b≠kv.ownBlock)->bA P w w':=λP hP=>bA.grown hgrow hP
 refine⟨l++[(m,k)],?_,?_⟩
 ·rw[FY S es l x m k hll,bQ,List.length_singleton];exact hown
 ·have himp:∀ b,(C<=b/\some b≠kv.ownBlock)->b<w.heap.size->(C<=b/\some b≠kv'.ownBlock):=λb hb hlt=>by
   refine⟨hb.1,λq=>?_⟩;rw[hv] at q;simp only[Option.some.injEq] at q
   rcases hor with h|h
   ·exact hb.2 (by rw[h,q])
   ·omega
  exact(((h2.imp (λb hb hlt=>⟨himp b hb hlt,hb.2⟩)).frame (hal (λb=>(C<=b/\some b≠kv'.ownBlock)/\some b≠kv.ownBlock) λb hb=>hb.2)).imp λb hb _=>hb.1).snoc
   (((hx.imp (λb hb hlt=>⟨himp b hb hlt,hb.2⟩)).frame (hal (λb=>(C<=b/\some b≠kv'.ownBlock)/\some b≠kv.ownBlock) λb hb=>hb.2)).imp λb hb _=>hb.1)
theorem bA.drew (P:Nat->Prop)(w:World):bA P w w.drew:=⟨bI _,λ_ _ _=>rfl⟩
theorem SH {be:Nat}{w1 wr W2 w5:World}{o:Obj}{YM:Value}{acc:List PE}{l:List (Value × Value)}{gg:Nat}(fU:bA (λb=>b<w1.heap.size/\b≠be) w1 wr)(hbe:be<w1.heap.size)
  (hown:wr.ownsRow w1.heap.size e S.sz kv acc.length (rX S acc l)) (hes:jl S (λb=>w1.heap.size<=b/\some b≠kv.ownBlock) wr l acc) (hx:qC S (λb=>wr.heap.size<=b) W2 m k x) (hb2:Below wr.heap.size wr W2)
  (iW:w5.ownsRow w1.heap.size e S.sz YM (acc.length+1) (rX S acc l++S.cells x m k)) (hgrow:(W2.alloc o).grownBy w5 kv.ownBlock) (hv5:YM.ownBlock=some gg) (hat:kv.ownBlock=some gg\/gg=W2.heap.size+1) (off:Nat) (u:Value) :
  kV S w1.heap.size e (w5.setCell ⟨be,off,none⟩ u) YM (acc++[x])/\bA (λb=>b<w1.heap.size/\b≠be) w1 (w5.setCell ⟨be,off,none⟩ u)/\∀ (B:Nat) (w0:World),B<=be->Below B w0 wr->Below B w0 (w5.setCell ⟨be,off,none⟩ u):=by
 have hz1:=fU.1;have hz2:=hb2.size;have hb3:Below wr.heap.size wr (W2.alloc o):=hb2.alloc hz2 _
 have hlt:∀ b,some b=kv.ownBlock->w1.heap.size<=b/\b<wr.heap.size:=λb q=>⟨(hown.lt b q.symm).1,(hown.lt b q.symm).2⟩
 have hx2:qC S (λb=>w1.heap.size<=b/\some b≠kv.ownBlock) (W2.alloc o) m k x :=
  (hx.imp (Q:=λb=>w1.heap.size<=b/\some b≠kv.ownBlock) λb hb _=>⟨by omega,λq=>by have:=(hlt b q).2;omega⟩).frame ⟨by simp,λb _ hb=>iB _ _ _ hb⟩
 have hrow:=kV.snoc (hes.frame (bA.of hb3)) hx2 iW hgrow hv5 hat (by simp);refine⟨hrow.set hbe u,?_,λB w0 hB hb0=>?_⟩
 ·refine((fU.trans (bA.uD hb3 λb hb=>by omega)).trans (bA.grown hgrow λb hb q=>?_)).trans (bA.set u λb hb=>hb.2)
  have:=(hlt b q).1;omega
 ·have hsz:=hb0.size
  exact((hb0.trans (hb3.mono (by omega))).grown hgrow (by simp;omega) (λb q=>by have:=(hlt b q.symm).1;omega)).setCell hB _
def afj (x:PE)(w:World)(e:Ending)(w':World):Prop :=
 ∃ am wn cm ae ce,e=.returned (.agg #[.int .i64 x.op,dX x.name,dX x.module,.bool (decide (x.num<0)),.slice am wn cm,.bool x.yes,.slice ae x.aA.length ce,.int .i64 x.at_]) /\
  qC XA (λb=>w.heap.size<=b) w' (.slice am wn cm) (.slice ae x.aA.length ce) x/\Below w.heap.size w w'
theorem qC.adD {P:Nat->Prop}(h:qC XA P w m k x):∃ am wn cm ae ce,m=.slice am wn cm/\k=.slice ae x.aA.length ce:=by
 obtain⟨JR,ae,ce,rfl,_,_⟩:=h.form
 obtain⟨ws,hws,_⟩:=(JR:ow _ _ _ _)
 obtain⟨am,cm,rfl⟩:=hws.form;exact⟨am,_,cm,ae,ce,rfl,rfl⟩
theorem EPost.a {e:Ending}(h:EPost XA x w e w'):afj x w e w':=by
 obtain⟨m,k,rfl,h1,h2⟩:=h;obtain⟨am,wn,cm,ae,ce,rfl,rfl⟩:=h1.adD;exact⟨am,wn,cm,ae,ce,rfl,h1,h2⟩
def pU (op at_:Nat)(kv:Value):Array Value:=#[.int .i64 op,.string ⟨#[]⟩,.string ⟨#[]⟩,.bool false,.slice none 0 0,.bool false,kv,.int .i64 at_]
theorem Gq (h:w.heap[b]?=some (.cells (pU op at_ kv) 64 (0,0)))(j:Nat):w.frozen? ⟨b,j,none⟩=false:=by simp[World.frozen?,h]
theorem xK (h:w.heap[b]?=some (.cells (pU op at_ kv) 64 (0,0))):w.cell? ⟨b,6,none⟩=some kv:=by rw[bg h];rfl
theorem WR (B:Nat)(tv nv:Value)(ah:List Tok)(aj:List Nd)(i op at_:Nat)(w:World)(h:bE B w (.agg #[tv,nv]) ah aj)(hB:B<=w.heap.size)(hi:i<aj.length)
  (hk:∀ k∈aj[i].aA,0<=k/\k<(aj.length:Int)) (hl:aj[i].aA.length<=1000000000) (jU:List PE) (hp:jU.length=(gY aj aj[i].aA).length)
  (hE:∀ (j:Nat) (h1:j<jU.length) (h2:j<(gY aj aj[i].aA).length) (W:World),bE B W (.agg #[tv,nv]) ah aj->B<=W.heap.size->Calls Tryz.prog 108 #[.agg #[tv,nv],.int .i64 (gY aj aj[i].aA)[j]] W (EPost XA jU[j] W)) :
  Calls Tryz.prog 175 #[.agg #[tv,nv],.int .i64 op,.int .i64 at_,.int .i64 i] w (EPost XA (.mk op [] [] 0 [] false jU at_) w):=by
 obtain⟨i0,ae0,hz0,hz1,hz2⟩:=info_parts Tryz.ZT;have hlen:(gY aj aj[i].aA).length<=1000000000:=iY (List.length_filter_le _ _) hl;have HP:=ay (λW hW hBW=>RS B tv nv ah aj i W hW hBW hi hk (iY hl (by decide)));have HT:=ay h;have HE:=ay hE;obtain⟨a1,c1,a2,c2,e⟩:=h.slices
 obtain⟨rfl,rfl⟩:tv=.slice a1 ah.length c1/\nv=.slice a2 aj.length c2:=by simpa using e
 generalize gY aj aj[i].aA=ps at hp hlen HP HE;have HLP:=ay hp;have ent:=Tryz.SF;clear hk hE h e hp hl hi;have hb3:Below w.heap.size w (((w.alloc (.cells #[.slice a1 ah.length c1,.slice a2 aj.length c2] 126)).alloc (.cells #[.int .i64 0,.string ⟨#[]⟩,.string ⟨#[]⟩,.bool false,.slice none 0 0,.bool false,.slice none 0 0,.int .i64 0] 64)).alloc (.cells (pU op at_ (.slice none 0 0)) 64)):=(((bY _ _).alloc (bI _) _).alloc (by simp) _).alloc (by simp;omega) _;have hnr:=aZ w (.cells #[.slice a1 ah.length c1,.slice a2 aj.length c2] 126);have hne:=aZ (w.alloc (.cells #[.slice a1 ah.length c1,.slice a2 aj.length c2] 126)) (.cells #[.int .i64 0,.string ⟨#[]⟩,.string ⟨#[]⟩,.bool false,.slice none 0 0,.bool false,.slice none 0 0,.int .i64 0] 64);have hne2:=aZ ((w.alloc (.cells #[.slice a1 ah.length c1,.slice a2 aj.length c2] 126)).alloc (.cells #[.int .i64 0,.string ⟨#[]⟩,.string ⟨#[]⟩,.bool false,.slice none 0 0,.bool false,.slice none 0 0,.int .i64 0] 64)) (.cells (pU op at_ (.slice none 0 0)) 64);go_enter Tryz.func175,Tryz.ntmps175;go_wp2_with (go_at_call 236;refine(HP.out _ ?c1 ?c2).mono ?_)
 case c1=>exact HT.out.below (hb3.mono hB)
 case c2=>simp;omega
 rintro e w1 ⟨v,rfl,hints,hb1⟩;have aii:=hb1.size;simp only[oU] at aii;rw[oU] at hne;rw[oU,oU] at hne2;have hq0:w1.heap[w.heap.size]?=some (.cells #[.slice a1 ah.length c1,.slice a2 aj.length c2] 126 (0,0)):=(hb1.block w.heap.size (by simp;omega)).trans ((iB _ _ _ (by simp;omega)).trans ((iB _ _ _ (by simp)).trans hnr));have hq1:w1.heap[w.heap.size+1]?=some (.cells #[.int .i64 0,.string ⟨#[]⟩,.string ⟨#[]⟩,.bool false,.slice none 0 0,.bool false,.slice none 0 0,.int .i64 0] 64 (0,0)):=(hb1.block (w.heap.size+1) (by simp)).trans ((iB _ _ _ (by simp)).trans hne);have hq2:w1.heap[w.heap.size+1+1]?=some (.cells (pU op at_ (.slice none 0 0)) 64 (0,0)):=(hb1.block (w.heap.size+1+1) (by simp)).trans hne2;have pV:Below w.heap.size w w1:=hb3.trans (hb1.mono (by simp;omega));obtain⟨ap,cp,rfl,_,hpf⟩:=hints.ints;simp only[oU] at hpf;have HF:=ay hpf;clear hpf hints hnr hne hne2 hb1 hb3;go_wp2
 go_loopw [19] (λq wr=>∃ (j:Nat) (kv:Value),j<=ps.length/\q=.int .i64 j/\bA (λb=>b<w1.heap.size/\b≠w.heap.size+1+1) w1 wr/\wr.heap[w.heap.size+1+1]?=some (.cells (pU op at_ kv) 64 (0,0))/\kV XA w1.heap.size 64 wr kv (jU.take j)/\Below w.heap.size w wr) (λq _=>ps.length - (intOf q).toNat)
 case atStart=>exact⟨0,.slice none 0 0,mD _,rfl,bA.refl _ _,hq2,kV.nil _ _ _ _,pV⟩
 case round =>
  obtain⟨j,kv,hj,rfl,fU,hbe,hrow,hbl⟩:=hrel;have hsz:=fU.1;have hr0:=(fU.2 w.heap.size ⟨by omega,by omega⟩ (by omega)).trans hq0;have hr1:=(fU.2 (w.heap.size+1) ⟨by omega,by omega⟩ (by omega)).trans hq1
  by_cases hjl:j<ps.length
  ·have hjp:j<jU.length:=by have:=HLP.out;omega
   obtain⟨bp,op',rfl,ajO,agP,hcell⟩:=HF.out (by omega);have hx:=(AJ (a:=⟨bp,op'+j,none⟩) (fU.2 bp ⟨agP,by omega⟩ agP)).trans (hcell j hjl);have hC:=HE.out j hjp hjl wr.drew (HT.out.below ((hbl.mono hB).drew)) (by have:=hbl.size;show B<=wr.heap.size;omega);have hsn:jU.take (j+1)=jU.take j++[jU[j]]:=EF hjp
   have hpl:(jU.take j).length=j:=by rw[qX];omega
   have Md:(j:Int)<(ps.length:Int):=by omega
   generalize ps[j]=q at hx hC;generalize jU[j]=x at hC hsn;generalize jU.take j=acc at hrow hsn hpl;obtain⟨l,hown,hes⟩:=hrow;rw[hpl] at hown;have HL:=ay hpl;have HS:=ay hsn;clear hpl hsn hcell
   obtain⟨ak,ck,rfl,_⟩:∃ ak ck,kv=.slice ak j ck/\True:=by
    rcases hown.2 with ⟨hv,hn0⟩|⟨g,cap,cur,hv,_⟩
    ·exact⟨none,0,by rw[hv,hn0],trivial⟩
    ·exact⟨_,cap,hv,trivial⟩
   have HC:=ay (hC.mono λ_ _ h=>h.a)
   have r0:wr.cell? ⟨w.heap.size,0,none⟩=some (.slice a1 ah.length c1):=by rw[bg hr0];rfl
   have r1:wr.cell? ⟨w.heap.size,1,none⟩=some (.slice a2 aj.length c2):=by rw[bg hr0];rfl
   have r6:wr.cell? ⟨w.heap.size+1+1,6,none⟩=some (.slice ak j ck):=by rw[bg hbe];rfl
   clear hC;go_wp2;have hce:=hbe;have hlt:=(bU hbe).1;have hCw:w1.heap.size<=wr.heap.size:=hsz
   have aij:some (w.heap.size+1+1)≠(Value.slice ak j ck).ownBlock:=λq=>by have:=(hown.lt _ q.symm).1;omega
   go_region_law ((first
    | (refine step_append_lies _ (by rfl) _ _ _ (by rfl) w1.heap.size 64 i0 _ 8 112 Tryz.underlying51 ae0 hz0 hz1 hz2 rfl (by omega) (.slice ak j ck) j _ (by rfl) ((own_below (uL hown) hb2).alloc _) ⟨W2.heap.size,0,none⟩ 1 1 [.int .i64 x.op,dX x.name,dX x.module,.bool (decide (x.num<0)),.slice am wn cm,.bool x.yes,.slice ae x.aA.length ce,.int .i64 x.at_] (by rfl) (by rfl) (wS (cs:=#[.int .i64 x.op,dX x.name,dX x.module,.bool (decide (x.num<0)),.slice am wn cm,.bool x.yes,.slice ae x.aA.length ce,.int .i64 x.at_]) (t:=64) (fr:=(0,0)) (aZ W2 _)) (by simp[Value.oneCell',dX]) (by omega) (by unfold maxLen;omega) (by omega) (by have:=hb2.size;simp at this |-;omega) (W2.heap.size+1) (by simp) ?_;intro gg oV w5 iW jB CB Sj;have wW:=(jB.block (w.heap.size+1+1) (by have:=hb2.size;simp at this |-;omega) aij).trans ((iB W2 _ (w.heap.size+1+1) (by have:=hb2.size;simp at this;omega)).trans Gr);have r65:=xK wW;have z65:=Gq wW 6)
    | (refine yL rfl 108 _ _ rfl HC.out (by rfl) (ent _ _) ?_;rintro e W2 ⟨am,wn,cm,ae,ce,rfl,hxe,hb2⟩;refine⟨_,rfl,?_⟩;have Gr:=(hb2.block (w.heap.size+1+1) hlt).trans hce;have r62:=xK Gr;have r63:=λo=>Lib.cell?_alloc_some o r62)))
   all_goals
    have hlen:=HL.out;obtain⟨q1,q2,q3⟩:=SH (S:=XA) (wr:=wr.drew) (kv:=.slice ak j ck) (YM:=.slice (some ⟨gg,0,none⟩) (j+1) oV) (acc:=acc) (x:=x) (l:=l) (show bA _ w1 wr.drew from fU) (show w.heap.size+1+1<w1.heap.size by omega) (by rw[hlen];exact hown) (hes.frame (bA.drew _ wr)) hxe hb2 (by rw[hlen];exact iW) jB rfl CB 6 (.slice (some ⟨gg,0,none⟩) (j+1) oV)
    have Gs:(w5.setCell ⟨w.heap.size+1+1,6,none⟩ (.slice (some ⟨gg,0,none⟩) (j+1) oV)).heap[w.heap.size+1+1]?=some (.cells (pU op at_ (.slice (some ⟨gg,0,none⟩) (j+1) oV)) 64 (0,0)):=by
     rw[kG w5 _ 6 _ _ _ wW];rfl
    have Gt:=q3 w.heap.size w (by omega) hbl.drew;clear jB iW CB wW r65 z65 Gr r62 r63 hxe hb2 HC hes hown fU hbe hce r0 r1 r6 hx;generalize w5.setCell _ _=w6 at q1 q2 Gs Gt |-;go_wp2
    go_roundw
    case rel=>exact⟨j+1,_,by omega,by go_num,q2,Gs,by rw[HS.out];exact q1,Gt⟩
    case measure=>simp[intOf];omega
  ·have:j=ps.length:=by omega
   subst this;have Md:decide ((ps.length:Int)<(ps.length:Int))=false:=fu (by omega);rw[<- HLP.out,Fe] at hrow;obtain⟨l,hown,hes⟩:=hrow
   obtain⟨ak,ck,rfl,_⟩:∃ ak ck,kv=.slice ak jU.length ck/\True:=by
    rcases hown.2 with ⟨hv,hn0⟩|⟨g,cap,cur,hv,_⟩
    ·exact⟨none,0,by rw[hv,hn0],trivial⟩
    ·exact⟨_,cap,hv,trivial⟩
   have c0:wr.cell? ⟨w.heap.size+1+1,0,none⟩=some (.int .i64 op):=by rw[bg hbe];rfl
   have c1':wr.cell? ⟨w.heap.size+1+1,1,none⟩=some (.string ⟨#[]⟩):=by rw[bg hbe];rfl
   have c2':wr.cell? ⟨w.heap.size+1+1,2,none⟩=some (.string ⟨#[]⟩):=by rw[bg hbe];rfl
   have c3:wr.cell? ⟨w.heap.size+1+1,3,none⟩=some (.bool false):=by rw[bg hbe];rfl
   have c4:wr.cell? ⟨w.heap.size+1+1,4,none⟩=some (.slice none 0 0):=by rw[bg hbe];rfl
   have c5:wr.cell? ⟨w.heap.size+1+1,5,none⟩=some (.bool false):=by rw[bg hbe];rfl
   have c6:wr.cell? ⟨w.heap.size+1+1,6,none⟩=some (.slice ak jU.length ck):=by rw[bg hbe];rfl
   have c7:wr.cell? ⟨w.heap.size+1+1,7,none⟩=some (.int .i64 at_):=by rw[bg hbe];rfl
   have d0:wr.cell? ⟨w.heap.size+1,0,none⟩=some (.int .i64 0):=by rw[bg hr1];rfl
   have d1:wr.cell? ⟨w.heap.size+1,1,none⟩=some (.string ⟨#[]⟩):=by rw[bg hr1];rfl
   have d2:wr.cell? ⟨w.heap.size+1,2,none⟩=some (.string ⟨#[]⟩):=by rw[bg hr1];rfl
   have d3:wr.cell? ⟨w.heap.size+1,3,none⟩=some (.bool false):=by rw[bg hr1];rfl
   have d4:wr.cell? ⟨w.heap.size+1,4,none⟩=some (.slice none 0 0):=by rw[bg hr1];rfl
   have d5:wr.cell? ⟨w.heap.size+1,5,none⟩=some (.bool false):=by rw[bg hr1];rfl
   have d6:wr.cell? ⟨w.heap.size+1,6,none⟩=some (.slice none 0 0):=by rw[bg hr1];rfl
   have d7:wr.cell? ⟨w.heap.size+1,7,none⟩=some (.int .i64 0):=by rw[bg hr1];rfl
   have z0:∀ j,wr.frozen? ⟨w.heap.size+1,j,none⟩=false:=by intro j;simp[World.frozen?,hr1]
   have hE0:qC XA (λb=>w1.heap.size<=b) wr (.slice none 0 0) (.slice ak jU.length ck) (.mk op [] [] 0 [] false jU at_):=by
    rw[qC];exact⟨ow.zero _ _,l,pO.fZ hown λb hb=>hb,hes.imp λb hb _=>hb.1⟩
   clear hown hes hbe hr0 hr1;go_wp2;refine o9 (v:=.agg #[.int .i64 op,.string ⟨#[]⟩,.string ⟨#[]⟩,.bool false,.slice none 0 0,.bool false,.slice ak jU.length ck,.int .i64 at_]) (by simp[results,Tryz.results175,go_sem,d0,d1,d2,d3,d4,d5,d6,d7]) rfl ⟨.slice none 0 0,.slice ak jU.length ck,rfl,?_,?_⟩
   ·have hs:∀ (W:World) (j:Nat) (u:Value),bA (λb=>w1.heap.size<=b) W (W.setCell ⟨w.heap.size+1,j,none⟩ u):=λW j u=>bA.set u λb hb=>by show b≠w.heap.size+1;omega
    refine(hE0.frame ?_).imp (λb hb _=>by omega);exact(((((((hs _ _ _).trans (hs _ _ _)).trans (hs _ _ _)).trans (hs _ _ _)).trans (hs _ _ _)).trans (hs _ _ _)).trans (hs _ _ _)).trans (hs _ _ _)
   ·exact((((((((hbl).setCell (by simp) _).setCell (by simp) _).setCell (by simp) _).setCell (by simp) _).setCell (by simp) _).setCell (by simp) _).setCell (by simp) _).setCell (by simp) _
open Go.Shelf
variable{xs:List Value}{ao:Option Addr}{B cap n:Nat}
attribute [local go_sem] Oper.semAt_some
def afk (l:List Int)(w:World)(e:Ending)(w':World):Prop:=∃ v,e=.returned v/\Ints w'.heap.size w' v l/\Below w.heap.size w w'
theorem xL {aj:List Nd}:∀ (g:Nat) (st out l:List Int),gG aj g st out=some l->out.length<=l.length
 | 0,st,out,l,h=>by rw[gG] at h;cases h
 | g+1,[],out,l,h=>by rw[gG] at h;injection h with h;subst h;exact bI _
 | g+1,i :: rest,out,l,h=>by
  rw[gG] at h
  split at h
  ·cases h
  ·split at h
   ·cases h
   ·split at h
    ·have:=xL g _ _ _ h
     simp only[bQ,dN,iF] at this;omega
    ·split at h
     ·cases h
     ·exact xL g _ _ _ h
def ZU (r:Nat):Deferred:={ target:=.collected r,args:=#[] }
def shutAll:World->List Nat->World
 | w,[]=>w
 | w,r :: rs=>shutAll (w.putObj r (.deferred none)) rs
theorem zq {B:Nat}{w0:World}:∀ (rs:List Nat) (w:World),(∀ r∈rs,B<=r)->B<=w.heap.size->Below B w0 w->Below B w0 (shutAll w rs)
 | [],w,_,_,hb=>hb
 | r :: rs,w,h,hB,hb=>by
  rw[shutAll];refine zq rs _ (λx hx=>h x (xu _ hx)) (by simpa using hB) (hb.grown (grownBy_putObj' w r (.deferred none)) hB (λk e=>?_));cases e;exact h r xq
theorem D5 {F:Fence}{n:Nat}{P:Program}{fn:Func}{tmps:Array Value}{R:Ending->World->Prop}:∀ (rs:List Nat) (w:World),rs.Nodup->(∀ r∈rs,w.heap[r]?=some (.deferred (some []))) ->
  LeavesIn F n P fn tmps R [] .returning (shutAll w rs)->LeavesInM F n P fn tmps R (rs.map ZU) .returning w
 | [],w,_,_,h=>h
 | r :: rs,w,hnd,hm,h=>by
  rw[List.nodup_cons] at hnd;refine⟨by simp,.inl ⟨r,_,rfl,run_takeDeferred (hm r xq),D5 rs _ hnd.2 (λx hx=>?_) h⟩⟩;rw[World.putObj_heap_other (λq=>hnd.1 (by rw[<- q];exact hx))];exact hm x (xu _ hx)
theorem OV {B e sz n:Nat}{v:Value}{xs:List Value}:∀ (rs:List Nat) (w:World),rs.Nodup->(∀ r∈rs,w.heap[r]?=some (.deferred (some [])))->w.ownsRow B e sz v n xs->(shutAll w rs).ownsRow B e sz v n xs
 | [],w,_,_,h=>h
 | r :: rs,w,hnd,hm,h=>by
  rw[List.nodup_cons] at hnd;refine OV rs _ hnd.2 (λx hx=>?_) (ownsRow_putObj h _ (hm r xq) rfl);rw[World.putObj_heap_other (λq=>hnd.1 (by rw[<- q];exact hx))];exact hm x (xu _ hx)
theorem adE {m:Nat}{x:Value}(h:w.ownsRow B e 1 (.slice ao (m+1) cap) (m+1) (xs++[x])):w.ownsRow B e 1 (.slice ao m cap) m xs:=by
 obtain⟨hl,h⟩:=h
 rcases h with ⟨_,h0⟩|⟨g,c,cur,hv,hg,hh,hn,hm,hs,hx⟩
 ·omega
 ·simp only[Value.slice.injEq] at hv
  obtain⟨rfl,-,rfl⟩:=hv
  have hlx:xs.length=m * 1:=by simp at hl;omega
  refine⟨hlx,.inr ⟨g,cap,cur,rfl,hg,hh,by omega,hm,hs,?_⟩⟩;have h2:=congrArg (List.take (m * 1)) hx;rw[List.take_take,Nat.min_eq_left (by omega),List.take_left' hlx] at h2;exact h2
theorem ZV {w':World}{sz:Nat}{v:Value}(h:w.ownsRow B e sz v n xs)(hs:∀ q,v.ownBlock=some q->w'.heap[q]?=w.heap[q]?):w'.ownsRow B e sz v n xs:=by
 refine⟨h.1,?_⟩
 rcases h.2 with hn|⟨g,cap,cur,hv,hg,hh,hr⟩
 ·exact .inl hn
 ·exact .inr ⟨g,cap,cur,hv,hg,(hs g (by rw[hv];rfl)).trans hh,hr⟩
theorem adF (h:w.ownsRow B e 1 (.slice ao n cap) n xs):n<=cap:=by
 rcases h.2 with ⟨hv,h0⟩|⟨g,c,cur,hv,hg,hh,hn,_⟩
 ·omega
 ·simp only[Value.slice.injEq] at hv
  omega
theorem ZW {g off:Nat}(h:w.ownsRow B e 1 (.slice (some ⟨g,off,none⟩) n cap) n xs){j:Nat}{u:Value}(hj:xs[j]?=some u):w.cell? ⟨g,off+j,none⟩=some u:=by
 obtain⟨ao,c,hv,_,hl,hc⟩:=Sl.fZ h;obtain⟨h1,h2⟩:=qm hj;obtain⟨b,o,ha,_,hcell⟩:=hc (by omega);simp only[Value.slice.injEq] at hv;rw[ha] at hv;obtain⟨hv,_⟩:=hv;simp only[Option.some.injEq,Addr.mk.injEq] at hv;obtain⟨rfl,rfl,_⟩:=hv;rw[hcell j h1,h2]
theorem OW {β:Type}{P:Nat->Prop}{w₀:World}(hB:w₀.heap.size<=B):OwnFrom B (λ(_:β) W=>bA P w₀ W):=λ_ _ _ _ hs hg hr =>
 ⟨iY hs.1 hg.size,λb hb hl=>by
  rw[hg.block b (zI hl hs.1) (λe=>by have:=(hr b e.symm).1;omega)]
  exact hs.2 b hb hl⟩
structure aik (B b0:Nat) (w:World) (tcs:Array Value) (st out:List Int) (ov CO:Value) (rs:List Nat) (wr:World):Prop where
 box:Boxed wr (b0+1+1) 127 ov
 row:wr.ownsRow b0 3 1 ov st.length (st.reverse.map (Value.int .i64))
 form:∃ g cap,ov=.slice (some ⟨g,0,none⟩) st.length cap/\CO.ownBlock≠some g
 out:wr.ownsRow b0 3 1 CO out.length (out.map (Value.int .i64))
 tree:wr.heap[b0]?=some (.cells tcs 81 (0,0))
 below:Below b0 w wr
 nd:rs.Nodup
 few:st.length<=549755813888
 marks:∀ r∈rs,b0<=r/\wr.heap[r]?=some (.deferred (some []))
def agQ (at_ an:Option Addr)(ah:List Tok)(aj:List Nd)(ct cn:Nat)(n:Int)(b0:Nat)(CO:Value)(rs:List Nat)(a:Act):Prop :=
 ∃ u7 u8 u10 u13 u14 u15 u16 u17 u18 u19 u20 u21 u22 u23 u24 u25 u26 u27 u28 u29 u30 u31 u32 u33 u34 u35 u36 u37 u38 u39 u40 u41 u42 u43 u44 u45 u46 u47 u48:Value,a={ tmps:=#[.agg #[.slice at_ ah.length ct,.slice an aj.length cn],.int .i64 n,.pointer (some ⟨b0,0,none⟩),undef,.slice none 0 0,CO,.pointer (some ⟨b0+1+1,0,none⟩),u7,u8,undef,u10,.int .i64 n,.slice (some ⟨b0+1,0,none⟩) 1 1,u13,u14,u15,u16,u17,u18,u19,u20,u21,u22,u23,u24,u25,u26,u27,u28,u29,u30,u31,u32,u33,u34,u35,u36,u37,u38,u39,u40,u41,u42,u43,u44,u45,u46,u47,u48,undef],defers:=rs.map ZU }
def ail (at_ an:Option Addr)(ah:List Tok)(aj:List Nd)(ct cn:Nat)(n:Int)(l:List Int)(B:Nat)(w:World)(gk:Nat)(a:Act)(wr:World):Prop :=
 ∃ (st out:List Int) (ov CO:Value) (rs:List Nat),gG aj gk st out=some l/\aik B w.heap.size w #[.slice at_ ah.length ct,.slice an aj.length cn] st out ov CO rs wr/\agQ at_ an ah aj ct cn n w.heap.size CO rs a
def agR (b0 ob g m _cap:Nat)(xs:List Int)(W0:World)(pre:List (Int × Int))(W:World):Prop :=
 (∃ v,Boxed W ob 127 v/\W.ownsRow b0 3 1 v (m+pre.length) ((xs++pre.map Prod.snd).map (Value.int .i64))/\∃ gg cp,v=.slice (some ⟨gg,0,none⟩) (m+pre.length) cp/\(gg=g\/W0.heap.size<=gg))
theorem SI (B:Nat)(tv nv:Value)(ah:List Tok)(aj:List Nd)(n:Int)(l:List Int)(g:Nat)(w:World)(h:bE B w (.agg #[tv,nv]) ah aj)(hB:B<=w.heap.size)(_hn:aj.length<=1099511627776)(hl:gG aj g [n] []=some l)(hlen:l.length<=549755813888) :
  Calls Tryz.prog 277 #[.agg #[tv,nv],.int .i64 n] w (afk l w):=by
 obtain⟨i0,hi,hz0,hz1,hz2⟩:=info_parts Tryz.oC;obtain⟨at_,ct,an,cn,hv⟩:=h.slices;simp only[Value.agg.injEq,Array.mk.injEq,List.cons.injEq,and_true] at hv;obtain⟨rfl,rfl⟩:=hv;have HT:=ay h;have HL:=ay hl;clear h hl;refine(callsIn_wide (n:=8)).1 ?_;refine callsIn_of_wp_marks Tryz.func277 rfl trivial ?_ rfl;simp only[Tryz.ntmps277,List.size_toArray,dN,iF,Nat.reduceAdd,Nat.reduceSub,Array.replicate_succ,Array.replicate_zero,List.push_toArray,List.append_toArray,qW,kF]
 gi_wp2
 refine wpIn_loop_ghost (λgk a wr=>ail at_ an ah aj ct cn n l B w gk a wr) g ?start ?round
 case start =>
  have e1:=aZ w (.cells #[.slice at_ ah.length ct,.slice an aj.length cn] 81);have e2:=aZ (w.alloc (.cells #[.slice at_ ah.length ct,.slice an aj.length cn] 81)) (.cells #[.int .i64 n] 3);have hb:Below w.heap.size w (((w.alloc (.cells #[.slice at_ ah.length ct,.slice an aj.length cn] 81)).alloc (.cells #[.int .i64 n] 3)).alloc (.cells #[.slice (some ⟨w.heap.size+1,0,none⟩) 1 1] 127)):=(((bY _ w).alloc (bI _) _).alloc (by simp) _).alloc (by simp;omega) _;refine⟨[n],[],.slice (some ⟨w.heap.size+1,0,none⟩) 1 1,.slice none 0 0,[],HL.out,⟨?_,?_,⟨_,_,rfl,by simp[Value.ownBlock]⟩,World.ownsRow_nil _ _ _ _,?_,hb,List.nodup_nil,by simp,λr hr=>by cases hr⟩,?_⟩
  ·have:=aZ ((w.alloc (.cells #[.slice at_ ah.length ct,.slice an aj.length cn] 81)).alloc (.cells #[.int .i64 n] 3)) (.cells #[.slice (some ⟨w.heap.size+1,0,none⟩) 1 1] 127)
   simp only[oU] at this;exact this
  ·simp only[oU] at e2
   exact⟨rfl,.inr ⟨_,1,#[.int .i64 n],rfl,by omega,(iB _ _ _ (by simp)).trans e2,bI _,by decide,rfl,rfl⟩⟩
  ·exact(iB _ _ _ (by simp;omega)).trans ((iB _ _ _ (by simp)).trans e1)
  ·repeat apply Exists.intro
   rfl
 case round =>
  rintro gk a wr ⟨st,out,ov,CO,rs,hm,hI,hA⟩;obtain⟨u7,u8,u10,u13,u14,u15,u16,u17,u18,u19,u20,u21,u22,u23,u24,u25,u26,u27,u28,u29,u30,u31,u32,u33,u34,u35,u36,u37,u38,u39,u40,u41,u42,u43,u44,u45,u46,u47,u48,rfl⟩:=hA;dsimp only
  cases gk with
  | zero=>rw[gG] at hm;cases hm
  | succ gk =>
  obtain⟨EM,hrow,⟨gb,cap,rfl,hout⟩,hor,htr,hbl,hnd,Mv,hmk⟩:=hI;have hf0:=EM.frozen
  cases st with
  | nil =>
   have hc0:wr.cell? ⟨w.heap.size+1+1,0,none⟩=some (.slice (some ⟨gb,0,none⟩) 0 cap):=EM.cell;rw[gG] at hm
   injection hm with hm
   subst hm;clear EM hrow
   gi_wp2
   have hsz:=hbl.size;refine D5 rs wr hnd (λr hr=>(hmk r hr).2) ⟨CO,by simp[results,Tryz.results277,go_sem],CO,rfl,Sl.fZ (OV rs wr hnd (λr hr=>(hmk r hr).2) hor),zq rs wr (λr hr=>(hmk r hr).1) hsz hbl⟩
  | cons i rest =>
   rw[gG] at hm
   by_cases hi0:i<0
   ·rw[bq hi0] at hm;cases hm
   rw[aP hi0] at hm
   obtain⟨k,rfl⟩:∃ k:Nat,i=(k:Int):=⟨i.toNat,by omega⟩
   rw[Int.toNat_natCast] at hm
   by_cases hk':aj.length<=k
   ·rw[List.getElem?_eq_none (by omega)] at hm;cases hm
   have hk:k<aj.length:=by omega
   rw[AB hk] at hm;simp only at hm;obtain⟨b,off,cap2,kv,hnv,Vb,hx0,hx1,hx2,hkv⟩:=HT.out.node hk;simp only[Value.slice.injEq] at hnv;obtain⟨rfl,-,rfl⟩:=hnv
   have agS:rest.reverse.length=rest.length:=by simp
   have hrow':wr.ownsRow w.heap.size 3 1 (.slice (some ⟨gb,0,none⟩) (rest.length+1) cap) (rest.length+1) (rest.reverse.map (Value.int .i64)++[.int .i64 k]):=by
    have:=hrow;rw[List.reverse_cons,zJ] at this;exact this
   have afl:=adE hrow'
   have hxi:wr.cell? ⟨gb,rest.length,none⟩=some (.int .i64 k):=by
    have:=ZW hrow' (j:=rest.length) (u:=.int .i64 k) (by rw[abj (by simp)];simp);rw[Nat.zero_add] at this;exact this
   have hc0:wr.cell? ⟨w.heap.size+1+1,0,none⟩=some (.slice (some ⟨gb,0,none⟩) (rest.length+1) cap):=EM.cell;have T:=Boxed.set (.slice (some ⟨gb,0,none⟩) rest.length cap) EM;have hne0:some (w.heap.size+1+1)≠(Value.slice (some ⟨gb,0,none⟩) rest.length cap).ownBlock:=EM.not_row (e:=3) (by decide) afl
   have qF:(k:Int)<(aj.length:Int):=by omega
   have hrl:rest.length<=549755813888:=by simp only[dN] at Mv;omega
   have hcap:=adF hrow';have hob:=EM.lt;have R5:=iQ (a:=⟨w.heap.size+1+1,0,none⟩) afl hne0 (.slice (some ⟨gb,0,none⟩) rest.length cap);have O5:=iQ (a:=⟨w.heap.size+1+1,0,none⟩) hor (EM.not_row (by decide) hor) (.slice (some ⟨gb,0,none⟩) rest.length cap);have E5:(wr.setCell ⟨w.heap.size+1+1,0,none⟩ (.slice (some ⟨gb,0,none⟩) rest.length cap)).heap[w.heap.size]?=_:=(qo _ _ _ _ (by show w.heap.size≠w.heap.size+1+1;omega)).trans htr;have B5:=hbl.setCell (p:=⟨w.heap.size+1+1,0,none⟩) (by show w.heap.size<=w.heap.size+1+1;omega) (.slice (some ⟨gb,0,none⟩) rest.length cap)
   have M5:∀ r∈rs,w.heap.size<=r/\(wr.setCell ⟨w.heap.size+1+1,0,none⟩ (.slice (some ⟨gb,0,none⟩) rest.length cap)).heap[r]?=some (.deferred (some [])):=λr hr=>⟨(hmk r hr).1,(qo _ _ _ _ (by
    show r≠w.heap.size+1+1;rintro rfl;have:=(hmk _ hr).2;rw[show wr.heap[w.heap.size+1+1]?=_ from EM] at this
    cases this)).trans (hmk r hr).2⟩
   have X0:=(B5.cell (p:=⟨b,off+k * 3,none⟩) (by show b<_;omega)).trans hx0;have X1:=(B5.cell (p:=⟨b,off+k * 3+1,none⟩) (by show b<_;omega)).trans hx1;have X2:=(B5.cell (p:=⟨b,off+k * 3+2,none⟩) (by show b<_;omega)).trans hx2;have K5:=(hkv.mono hB).below B5;clear hkv hx0 hx1 hx2 hrow hrow' htr hbl hor hmk Mv afl agS
   gi_upto_region 6 with (fail)
   clear hc0 hf0 hxi hcap;generalize wr.setCell ⟨w.heap.size+1+1,0,none⟩ _=W5 at T R5 O5 E5 B5 M5 X0 X1 X2 K5 |-
   have q0:W5.cell? ⟨w.heap.size,1,none⟩=some (.slice (some ⟨b,off,none⟩) aj.length cn):=by rw[bg E5];rfl
   clear EM;obtain⟨wN,wO,rfl,_,_⟩:=K5.form
   gi_upto_region 7 with (fail)
   have hs5:=B5.size;have E6:=(iB W5 (.cells #[.int .i64 aj[k].kind,.int .i64 aj[k].tok,.slice wN aj[k].aA.length wO] 129) w.heap.size (bU E5).1).trans E5;have R6:=R5.alloc (.cells #[.int .i64 aj[k].kind,.int .i64 aj[k].tok,.slice wN aj[k].aA.length wO] 129);have O6:=O5.alloc (.cells #[.int .i64 aj[k].kind,.int .i64 aj[k].tok,.slice wN aj[k].aA.length wO] 129);have T6:=T.alloc (.cells #[.int .i64 aj[k].kind,.int .i64 aj[k].tok,.slice wN aj[k].aA.length wO] 129);have B6:=B5.alloc hs5 (.cells #[.int .i64 aj[k].kind,.int .i64 aj[k].tok,.slice wN aj[k].aA.length wO] 129)
   have M6:∀ r∈rs,w.heap.size<=r/\(W5.alloc (.cells #[.int .i64 aj[k].kind,.int .i64 aj[k].tok,.slice wN aj[k].aA.length wO] 129)).heap[r]?=some (.deferred (some [])):=λr hr=>⟨(M5 r hr).1,(iB W5 _ r (bU (M5 r hr).2).1).trans (M5 r hr).2⟩
   have N6:=aZ W5 (.cells #[.int .i64 aj[k].kind,.int .i64 aj[k].tok,.slice wN aj[k].aA.length wO] 129);have K6:=K5.below ((bY w.heap.size W5).alloc hs5 (.cells #[.int .i64 aj[k].kind,.int .i64 aj[k].tok,.slice wN aj[k].aA.length wO] 129));clear E5 R5 O5 T B5 M5 K5 X0 X1 X2 q0;generalize W5.heap.size=xb at N6 |-;generalize W5.alloc _=W6 at N6 E6 R6 O6 T6 B6 M6 K6 |-
   have x0:W6.cell? ⟨xb,0,none⟩=some (.int .i64 aj[k].kind):=by rw[bg N6];rfl
   have x1:W6.cell? ⟨xb,1,none⟩=some (.int .i64 aj[k].tok):=by rw[bg N6];rfl
   have x2:W6.cell? ⟨xb,2,none⟩=some (.slice wN aj[k].aA.length wO):=by rw[bg N6];rfl
   have hs6:=B6.size;clear hs5 N6
   by_cases D6:aj[k].kind=19
   ·rw[bq D6] at hm
    rw[D6] at x0;have hol:=xL _ _ _ _ hm;simp only[bQ,dN,iF] at hol;have HM:=ay hm;clear hm K6 x2;generalize aj[k].tok=tk at x1 HM
    gi_wp2_with (gi_at_builtin;refine wpListIn_append_own_at _ rfl _ _ 127 rfl w.heap.size 3 i0 (.int .i64 0) 1 8 Tryz.underlying127 hi hz0 hz1 hz2 rfl (by decide) CO _ _ rfl (O6.alloc _) ⟨W6.heap.size,0,none⟩ 1 1 [.int .i64 tk] rfl rfl (cell_one_new _ _ _) (by simp[Value.oneCell']) (by unfold maxLen;omega) (by omega) (by simp;omega) ?_;intro v' w1 hown' hgrow _ ain;obtain⟨g',jc,rfl⟩:=ownsRow_succ hown')
    have ZM:gb≠W6.heap.size:=by
     rcases R6.2 with ⟨hv,_⟩|⟨gg,c9,cur,hv,_,hgg,_⟩
     ·cases hv
     ·simp only[Value.slice.injEq,Option.some.injEq,Addr.mk.injEq] at hv
      have:=(bU hgg).1;omega
    have hg':g'≠gb:=by
     rintro rfl
     rcases ain with q|q
     ·exact hout q.symm
     ·simp only[Value.ownBlock,oU,Option.some.injEq] at q
      have:=(R6.lt g' rfl).2;omega
    have aio:∀ q,CO.ownBlock=some q->w.heap.size<=q:=λq hq=>(O6.lt q hq).1
    refine⟨gk,by omega,rest,out++[tk],.slice (some ⟨gb,0,none⟩) rest.length cap,.slice (some ⟨g',0,none⟩) (out.length+1) jc,rs,HM.out,⟨?_,?_,⟨gb,cap,rfl,λq=>hg' (kE q)⟩,?_,?_,?_,hnd,by omega,?_⟩,?_⟩
    ·exact(T6.alloc (.cells #[.int .i64 tk] 3)).kept hgrow ((T6.alloc (.cells #[.int .i64 tk] 3)).not_row (by decide) (O6.alloc (.cells #[.int .i64 tk] 3)))
    ·have:=(R6.alloc (.cells #[.int .i64 tk] 3)).kept hgrow (.inr λq=>hout q.symm)
     simpa using this
    ·simpa using hown'
    ·exact jf (O6.alloc _) hgrow ((iB W6 (.cells #[.int .i64 tk] 3) w.heap.size (bU E6).1).trans E6) (by decide)
    ·exact(B6.alloc hs6 _).grown hgrow (by simp;omega) aio
    ·intro r hr
     refine⟨(M6 r hr).1,?_⟩;have hrl:=(bU (M6 r hr).2).1;rw[hgrow.block r (by simp;omega) (λq=>?_)]
     ·exact(iB W6 _ r hrl).trans (M6 r hr).2
     ·rcases O6.2 with ⟨hv,_⟩|⟨gg,c9,cur,hv,_,hgg,_⟩
      ·rw[hv] at q;cases q
      ·rw[hv] at q
       simp only[Value.ownBlock,Option.some.injEq] at q;subst q;rw[(M6 r hr).2] at hgg;cases hgg
    ·repeat apply Exists.intro
     rfl
   ·rw[aP D6] at hm
    by_cases hbig:549755813888<(aj[k].aA++rest).length
    ·rw[bq hbig] at hm;cases hm
    rw[aP hbig] at hm;rw[bQ] at hbig
    have hkd:(aj[k].kind == 19)=false:=by simpa using D6
    have HM:=ay hm;have HB:=ay hbig;clear hm x1 D6 hbig
    gi_wp2_with (refine⟨trivial,?_⟩;gi_at_call 298;refine(adj Fence.wide _ trivial rfl _ _ _ _).mono ?_;rintro e w' ⟨rfl,rfl⟩)
    have afm:W6.heap.size<(W6.alloc (.cells #[.slice wN aj[k].aA.length wO] 127)).heap.size:=by simp
    have Bk:=Boxed.new W6 127 (.slice wN aj[k].aA.length wO);have T7:=T6.alloc (.cells #[.slice wN aj[k].aA.length wO] 127);have R7:=R6.alloc (.cells #[.slice wN aj[k].aA.length wO] 127);have O7:=O6.alloc (.cells #[.slice wN aj[k].aA.length wO] 127);have E7:=(iB W6 (.cells #[.slice wN aj[k].aA.length wO] 127) w.heap.size (bU E6).1).trans E6;have B7:=B6.alloc hs6 (.cells #[.slice wN aj[k].aA.length wO] 127);have K7:=K6.below ((bY w.heap.size W6).alloc hs6 (.cells #[.slice wN aj[k].aA.length wO] 127))
    have M7:∀ r∈rs,w.heap.size<=r/\(W6.alloc (.cells #[.slice wN aj[k].aA.length wO] 127)).heap[r]?=some (.deferred (some [])):=λr hr=>⟨(M6 r hr).1,(iB W6 _ r (bU (M6 r hr).2).1).trans (M6 r hr).2⟩
    have aip:=T6.lt;clear T6 R6 O6 E6 B6 K6 M6 x0 x2;generalize W6.heap.size=bs at Bk afm hs6 aip |-;generalize W6.alloc _=W7 at Bk T7 R7 O7 E7 B7 K7 M7 afm |-;generalize aj[k].aA=ks at Bk HM HB K7 |-;have hgb:w.heap.size<=gb/\gb<W7.heap.size:=R7.lt gb rfl
    have ajB:bs≠gb:=by
     have:=Bk.not_row (e:=3) (by decide) R7;rintro rfl;exact this rfl
    refine wpIn_rangeFunc_ownG rfl (by decide) (gf:=308) (lb:=#[.pointer (some ⟨bs,0,none⟩)]) rfl trivial (enters_of Tryz.func308 (by kernel_rfl) rfl)
     (RQ Fence.wide 7 trivial rfl (by decide) bs w.heap.size _ ks (by have:=HB.out;omega) W7 afm (by omega) Bk.cell K7) (fun {_ _ _} h1 h2=>rY.trans h1 h2) ?kb (bY _ _) (λ_=>rfl)
     (λpre W=>agR w.heap.size (w.heap.size+1+1) gb rest.length cap rest.reverse W7 pre W/\(bA (λq=>q≠w.heap.size+1+1/\q≠gb) W7 W/\Below w.heap.size w W))
     (λ_ _ _=>False)
     (OwnFrom.and (Own.from (holdsRow_own w.heap.size (w.heap.size+1+1) 127 3 1 (λpre:List (Int × Int)=>rest.length+pre.length) (λpre=>(rest.reverse++pre.map Prod.snd).map (Value.int .i64)) (λpre v=>∃ gg cp,v=.slice (some ⟨gg,0,none⟩) (rest.length+pre.length) cp/\(gg=gb\/W7.heap.size<=gg))) _) (OwnFrom.and (OW (bI _)) (ownFrom_below (bI _) (by omega))))
     (λ_ _ _ _ _ hs _ _=>hs)
     ⟨⟨_,T7,by simpa using R7,gb,cap,rfl,.inl rfl⟩,bA.refl _ _,B7⟩
     ?a1 ?assign ?body ?done ?stop
    case kb =>
     intro W lq o o' hl ho hc hw
     have hbl:bs<lq:=by omega
     exact⟨belowK_b (w:=W7) (by omega) W lq o o' hl ho hc hw,AJ (a:=⟨bs,0,none⟩) (World.putObj_heap_other (Nat.ne_of_lt hbl))⟩
    case assign =>
     intro l x W K hK
     gi_wp2
     exact hK
    case body =>
     rintro lp pre x W ⟨⟨v,hbx,hrow,gg,cp,rfl,hgg⟩,fU,hBW⟩ hlt;have hc:=hbx.cell;have hWs:=hBW.size;have hB2:=HB.out
     gi_wp2_with (gi_at_builtin;refine wpListIn_append_own_at _ rfl _ _ 127 rfl w.heap.size 3 i0 (.int .i64 0) 1 8 Tryz.underlying127 hi hz0 hz1 hz2 rfl (by decide) (.slice (some ⟨gg,0,none⟩) (rest.length+pre.length) cp) _ _ rfl (hrow.alloc _) ⟨W.heap.size,0,none⟩ 1 1 [.int .i64 x.2] rfl rfl (cell_one_new _ _ _) (by simp[Value.oneCell']) (by unfold maxLen;omega) (by omega) (by simp;omega) ?_;intro v' w1 hown' hgrow _ aiq;obtain⟨g',jc,rfl⟩:=ownsRow_succ hown';obtain⟨hv1,hv2,hr2,hk2,hb2⟩:=hbx.appended (by decide) hrow hWs (by omega) hown' hgrow;have hc1:=hv1.cell;have hf1:=hv1.frozen)
     have hfr:∀ q,q<W.heap.size->q≠w.heap.size+1+1->q≠gg->(w1.setCell ⟨w.heap.size+1+1,0,none⟩ (.slice (some ⟨g',0,none⟩) (rest.length+pre.length+1) jc)).heap[q]?=W.heap[q]?:=λq h1 h2 h3 =>
      (qo _ _ _ _ h2).trans ((hgrow.block q (by simp;omega) (λe=>h3 (kE e))).trans (iB W _ q h1))
     have agK:=fU.1;refine⟨hk2.from _,⟨hb2,AJ (a:=⟨bs,0,none⟩) (hfr bs (by omega) (by omega) (by omega))⟩,⟨_,hv2,?_,g',jc,?_,?_⟩,⟨iY fU.1 hk2.size,λq hq hl=>(hfr q (by omega) hq.1 (by omega)).trans (fU.2 q hq hl)⟩,hBW.trans hb2⟩
     ·simpa [wU] using hr2
     ·simp[wU]
     ·simp only[Value.ownBlock,oU,Option.some.injEq] at aiq
      omega
    case done =>
     rintro D ys W hD rfl ⟨⟨v,hbx,hrow,gg,cp,rfl,hgg⟩,fU,hBW⟩ hK;rw[yI,Wm _ _ (bI _),DL (by simp)] at hrow;rw[yI] at hbx;have hB2:=HB.out
     have agT:w.heap.size≠gb:=λq=>by
      have:=own_ne R7 E7 (by decide);exact this (by rw[q];rfl)
     gi_wp2
     refine⟨gk,by omega,ks++rest,out,.slice (some ⟨gg,0,none⟩) (rest.length+ks.length) cp,CO,D :: rs,HM.out,⟨hbx,?_,⟨gg,cp,?_,?_⟩,?_,?_,hBW,?_,by simp;omega,?_⟩,?_⟩
     ·rw[List.reverse_append,bQ,Nat.add_comm ks.length]
      exact hrow
     ·rw[bQ,Nat.add_comm ks.length]
     ·intro q
      rcases hgg with rfl|hgg
      ·exact hout q
      ·have:=(O7.lt gg q).2
       omega
     ·refine ZV O7 λq hq=>fU.2 q ⟨?_,?_⟩ (O7.lt q hq).2
      ·rintro rfl
       exact T7.not_row (by decide) O7 hq.symm
      ·rintro rfl
       exact hout hq
     ·exact(fU.2 w.heap.size ⟨by omega,agT⟩ (bU E7).1).trans E7
     ·rw[List.nodup_cons]
      refine⟨λq=>?_,hnd⟩;have:=(bU (M7 D q).2).1;omega
     ·intro r hr
      rcases oo.1 hr with rfl|hr
      ·exact⟨by omega,hK⟩
      ·refine⟨(M7 r hr).1,(fU.2 r ⟨?_,?_⟩ (bU (M7 r hr).2).1).trans (M7 r hr).2⟩
       ·rintro rfl
        have:=(M7 _ hr).2;rw[show W7.heap[w.heap.size+1+1]?=_ from T7] at this;cases this
       ·rintro rfl
        rcases R7.2 with ⟨hv,_⟩|⟨g9,c9,cur,hv,_,agU,_⟩
        ·cases hv
        ·simp only[Value.slice.injEq,Option.some.injEq,Addr.mk.injEq] at hv
         obtain⟨⟨rfl,-,-⟩,-,-⟩:=hv;rw[(M7 _ hr).2] at agU;cases agU
     ·repeat apply Exists.intro
      rfl
    case stop =>
     rintro D c pre W _ _ h _;exact h.elim
