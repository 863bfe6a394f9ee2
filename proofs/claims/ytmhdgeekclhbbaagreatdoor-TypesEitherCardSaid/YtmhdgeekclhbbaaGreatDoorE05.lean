/- Walks and plain laws, without a condition. -/
import Derived.Test.YtmhdgeekclhbbaaGreatDoorE04
import Derived.Deep.LoopGhost
set_option maxHeartbeats 16000000
set_option maxRecDepth 100000
set_option linter.unusedVariables false
set_option linter.unusedSimpArgs false
namespace Go.Proofs.YtmhdgeekclhbbaaGreatDoor
open Go.RowKit
theorem kU (E:bH)(st:aN)(hf:st.fE=0)(w:World)(h:PW E st w):Calls Tryz.prog 96 #[.pointer (some ⟨E.pb,0,none⟩)] w (uT E st true w) :=
 (vS E st w h).mono λe w' ⟨he,hw⟩=>by subst hw;exact⟨by rw[he,show okB st=true from kS hf],h,Kp.refl _ _⟩
theorem wM (E:bH)(st:aN)(hf:st.fE≠0)(w:World)(h:PW E st w):Calls Tryz.prog 96 #[.pointer (some ⟨E.pb,0,none⟩)] w (uT E st false w) :=
 (vS E st w h).mono λe w' ⟨he,hw⟩=>by subst hw;exact⟨by rw[he,show okB st=false from fu hf],h,Kp.refl _ _⟩
theorem Mq (E:bH)(hE:E.ok)(aF:Nat)(st:aN)(hf:(aV E.ah E.depth aF st).fE=0)(w:World)(h:PW E st w) :
  Calls Tryz.prog 229 #[.pointer (some ⟨E.pb,0,none⟩),.int .i64 aF] w (uT E (aV E.ah E.depth aF st) false w) :=
 (F8 E hE aF st w h).mono λe w' ⟨he,hp⟩=>⟨by rw[he,show okB _=true from kS hf];rfl,hp⟩
theorem Gd (E:bH)(hE:E.ok)(aF:Nat)(st:aN)(hf:(aV E.ah E.depth aF st).fE≠0)(w:World)(h:PW E st w) :
  Calls Tryz.prog 229 #[.pointer (some ⟨E.pb,0,none⟩),.int .i64 aF] w (uT E (aV E.ah E.depth aF st) true w) :=
 (F8 E hE aF st w h).mono λe w' ⟨he,hp⟩=>⟨by rw[he,show okB _=false from fu hf];rfl,hp⟩
theorem CG (E:bH)(aF:Nat)(st:aN)(hf:(aV E.ah E.depth aF st).fE=0):aF<=E.depth:=by
 unfold aV at hf
 split at hf
 ·exact(iH (by decide) _ hf).elim
 ·omega
theorem aO {a b:aN}(h1:dR a b)(h2:b.aj.length+1<=1099511627776):a.aj.length+1<=1099511627776:=by have:=h1.2.2.2;omega
theorem eD (E:bH)(hE:E.ok)(b:ByteArray)(st:aN)(x:Bool)(hx:bG E.ah st [b.data.toList]=x)(w:World)(h:PW E st w) :
  Calls Tryz.prog 160 #[.pointer (some ⟨E.pb,0,none⟩),.slice (some ⟨w.heap.size,0,none⟩) 1 1] (w.alloc (.cells #[.string b] 9)) (uT E st x w):=by
 subst hx;exact xE E hE b st w h
theorem Mr (E:bH)(hE:E.ok)(g:Nat)(ih:EI E g)(aF:Nat)(st:aN)(r:Int × aN)(w:World)(h:run E.ah E.depth (g+1) (.formula aF) st=some r)(hp:PW E st w)(hn:r.2.aj.length+1<=1099511627776)(dO:aF<=E.depth) :
  Calls Tryz.prog 230 #[.pointer (some ⟨E.pb,0,none⟩),.int .i64 aF] w (eG E r w):=by
 have wV:=hE.2.2
 have hHI:∀ (t:Task) (st:aN) (r:Int × aN),run E.ah E.depth g t st=some r->r.2.aj.length+1<=1099511627776->zS E t->∀ w,PW E st w->pQ E r w t:=λt st r h1 h2 h3 w h4=>ih t st r w h1 h4 h2 h3
 have ex:=aW E.ah E.depth g;rw[run] at h;obtain⟨a,h0,h⟩:=bS h
 by_cases hf:a.2.fE=0
 ·by_cases hx:bG E.ah a.2 [[61,62]]=true
  ·rw[bq ⟨hf,hx⟩] at h
   by_cases hd:(aV E.ah E.depth (aF+1) (aD E.ah a.2).2).fE=0
   ·rw[aP (by simp[hd])] at h
    obtain⟨b,h1,h⟩:=bS h
    injection h with h;subst h
    have n4:=aO (aI _ _ _) hn;have n3:=aO (ex _ _ _ h1) n4;have n2:=aO (fH _ _ _ _) n3;have n1:=aO (aQ _ _) n2;have HR:=ay (hHI _ _ _ h0 n1 ⟨by decide,dO⟩);have HO:=ay (kU E a.2 hf);have HX:=ay (eD E hE ⟨#[61,62]⟩ a.2 true hx);have HL:=ay (λw hp=>cB E a.2 w hp hE.1 hE.2.1 n1);have HD:=ay (Mq E hE (aF+1) _ hd);have HF:=ay (hHI _ _ _ h1 n4 (CG E _ _ hd));have HN:=ay (λw hp=>jo E 10 [a.1,(aD E.ah a.2).1,b.1] 3 _ b.2 w hp rfl rfl (by omega) n4);clear h0 h1 hf hx hd n1 n2 n3 n4 hHI ex ih hn;go_enter Tryz.func230,Tryz.ntmps230;go_wp2_with (go_at_call 273;refine(HR.out w hp).mono ?_);rintro e w1 ⟨rfl,hp1,hk1⟩;go_wp2_with (go_at_call 96;refine(HO.out w1 hp1).mono ?_);rintro e w2 ⟨rfl,hp2,hk2⟩;go_wp2_with (go_at_call 160;refine(HX.out w2 hp2).mono ?_);rintro e w3 ⟨rfl,hp3,fM⟩;obtain⟨d0,_,_,_,_,_⟩:=hp3.cells;go_wp2_with (go_at_call 162;refine(HL.out w3 hp3).mono ?_);rintro e w4 ⟨rfl,rJ,hk4⟩;clear d0;go_wp2_with (go_at_call 229;refine(HD.out w4 rJ).mono ?_);rintro e w5 ⟨rfl,vT,lu⟩;go_wp2_with (go_at_call 230;refine(HF.out w5 vT).mono ?_);rintro e w6 ⟨rfl,Gc,qY⟩;go_wp2_with (go_at_call 101;refine(HN.out w6 Gc).mono ?_);rintro e w7 ⟨rfl,JM,zk⟩;go_wp2;go_ret;exact⟨rfl,JM,(((((hk1.trans hk2).trans fM).trans hk4).trans lu).trans qY).trans zk⟩
   ·rw[bq hd] at h
    injection h with h;subst h
    have n2:=aO (fH _ _ _ _) hn;have n1:=aO (aQ _ _) n2;have HR:=ay (hHI _ _ _ h0 n1 ⟨by decide,dO⟩);have HO:=ay (kU E a.2 hf);have HX:=ay (eD E hE ⟨#[61,62]⟩ a.2 true hx);have HL:=ay (λw hp=>cB E a.2 w hp hE.1 hE.2.1 n1);have HD:=ay (Gd E hE (aF+1) _ hd);clear h0 hf hx hd n1 n2 hHI ex ih hn;go_enter Tryz.func230,Tryz.ntmps230;go_wp2_with (go_at_call 273;refine(HR.out w hp).mono ?_);rintro e w1 ⟨rfl,hp1,hk1⟩;go_wp2_with (go_at_call 96;refine(HO.out w1 hp1).mono ?_);rintro e w2 ⟨rfl,hp2,hk2⟩;go_wp2_with (go_at_call 160;refine(HX.out w2 hp2).mono ?_);rintro e w3 ⟨rfl,hp3,fM⟩;obtain⟨d0,_,_,_,_,_⟩:=hp3.cells;go_wp2_with (go_at_call 162;refine(HL.out w3 hp3).mono ?_);rintro e w4 ⟨rfl,rJ,hk4⟩;clear d0;go_wp2_with (go_at_call 229;refine(HD.out w4 rJ).mono ?_);rintro e w5 ⟨rfl,vT,lu⟩;go_wp2;go_ret;exact⟨rfl,vT,(((hk1.trans hk2).trans fM).trans hk4).trans lu⟩
  ·rw[aP (λq=>hx q.2)] at h
   injection h with h;subst h
   have HR:=ay (hHI _ _ _ h0 hn ⟨by decide,dO⟩);have HO:=ay (kU E a.2 hf);have HX:=ay (eD E hE ⟨#[61,62]⟩ a.2 false (eq_false_of_ne_true hx));clear h0 hf hx hHI ex ih hn;go_enter Tryz.func230,Tryz.ntmps230;go_wp2_with (go_at_call 273;refine(HR.out w hp).mono ?_);rintro e w1 ⟨rfl,hp1,hk1⟩;go_wp2_with (go_at_call 96;refine(HO.out w1 hp1).mono ?_);rintro e w2 ⟨rfl,hp2,hk2⟩;go_wp2_with (go_at_call 160;refine(HX.out w2 hp2).mono ?_);rintro e w3 ⟨rfl,hp3,fM⟩;go_wp2;go_ret;exact⟨rfl,hp3,(hk1.trans hk2).trans fM⟩
 ·rw[aP (λq=>hf q.1)] at h
  injection h with h;subst h
  have HR:=ay (hHI _ _ _ h0 hn ⟨by decide,dO⟩);have HO:=ay (wM E a.2 hf);clear h0 hf hHI ex ih hn;go_enter Tryz.func230,Tryz.ntmps230;go_wp2_with (go_at_call 273;refine(HR.out w hp).mono ?_);rintro e w1 ⟨rfl,hp1,hk1⟩;go_wp2_with (go_at_call 96;refine(HO.out w1 hp1).mono ?_);rintro e w2 ⟨rfl,hp2,hk2⟩;go_wp2;go_ret;exact⟨rfl,hp2,hk1.trans hk2⟩
theorem WK (E:bH)(g:Nat)(ih:EI E g)(l aF:Nat)(st:aN)(r:Int × aN)(w:World)(h:run E.ah E.depth (g+1) (.part l aF) st=some r)(hp:PW E st w)(hn:r.2.aj.length+1<=1099511627776)(dO:l<=4/\aF<=E.depth) :
  Calls Tryz.prog 294 #[.pointer (some ⟨E.pb,0,none⟩),.int .i64 l,.int .i64 aF] w (eG E r w):=by
 have hHI:∀ (t:Task) (st:aN) (r:Int × aN),run E.ah E.depth g t st=some r->r.2.aj.length+1<=1099511627776->zS E t->∀ w,PW E st w->pQ E r w t:=λt st r h1 h2 h3 w h4=>ih t st r w h1 h4 h2 h3
 rw[run] at h;obtain⟨hl,dO⟩:=dO
 by_cases h1:l=1
 ·rw[bq h1] at h
  subst h1;have HR:=ay (hHI _ _ _ h hn dO);clear h hHI ih hn;go_enter Tryz.func294,Tryz.ntmps294;go_wp2_with (go_at_call 306;refine(HR.out w hp).mono ?_);rintro e w1 ⟨rfl,hp1,hk1⟩;go_wp2;go_ret;exact⟨rfl,hp1,hk1⟩
 ·rw[aP h1] at h
  by_cases h4:l=4
  ·rw[bq h4] at h
   subst h4;have HR:=ay (hHI _ _ _ h hn dO);clear h hHI ih hn h1;go_enter Tryz.func294,Tryz.ntmps294;go_wp2_with (go_at_call 307;refine(HR.out w hp).mono ?_);rintro e w1 ⟨rfl,hp1,hk1⟩;go_wp2;go_ret;exact⟨rfl,hp1,hk1⟩
  ·rw[aP h4] at h
   have HR:=ay (hHI _ _ _ h hn ⟨by omega,dO⟩);clear h hHI ih hn
   have aif:l=0\/l=2\/l=3:=by omega
   rcases aif with rfl|rfl|rfl
   ·clear h1 h4 hl
    go_enter Tryz.func294,Tryz.ntmps294;go_wp2_with (go_at_call 273;refine(HR.out w hp).mono ?_);rintro e w1 ⟨rfl,hp1,hk1⟩;go_wp2;go_ret;exact⟨rfl,hp1,hk1⟩
   ·clear h1 h4 hl
    go_enter Tryz.func294,Tryz.ntmps294;go_wp2_with (go_at_call 273;refine(HR.out w hp).mono ?_);rintro e w1 ⟨rfl,hp1,hk1⟩;go_wp2;go_ret;exact⟨rfl,hp1,hk1⟩
   ·clear h1 h4 hl
    go_enter Tryz.func294,Tryz.ntmps294;go_wp2_with (go_at_call 273;refine(HR.out w hp).mono ?_);rintro e w1 ⟨rfl,hp1,hk1⟩;go_wp2;go_ret;exact⟨rfl,hp1,hk1⟩
theorem WL (E:bH)(hE:E.ok)(aF:Nat)(st:aN)(b:Int × aN)(w:World)(hp:PW E st w)(n1:st.aj.length+1<=1099511627776)(n4:b.2.aj.length+1<=1099511627776)(dO:aF<=E.depth)
  (hd:(aV E.ah E.depth (aF+1) (aD E.ah st).2).fE=0)
  (hb:∀ w,PW E (aV E.ah E.depth (aF+1) (aD E.ah st).2) w->Calls Tryz.prog 306 #[.pointer (some ⟨E.pb,0,none⟩),.int .i64 ((aF+1:Nat):Int)] w (eG E b w)) :
  Calls Tryz.prog 313 #[.pointer (some ⟨E.pb,0,none⟩),.int .i64 aF,.func (.func 306) #[.pointer (some ⟨E.pb,0,none⟩)] #[]] w (eG E (bM 11 [(aD E.ah st).1,b.1] b.2) w):=by
 have wV:=hE.2.2;have HL:=ay (λw hp=>cB E st w hp hE.1 hE.2.1 n1);have HD:=ay (Mq E hE (aF+1) _ hd);have HF:=ay hb;have HN:=ay (λw hp=>jo E 11 [(aD E.ah st).1,b.1] 2 _ b.2 w hp rfl rfl (by omega) n4);clear hd hb n1 n4;go_enter Tryz.func313,Tryz.ntmps313;obtain⟨d0,_,_,_,_,_⟩:=hp.cells;go_wp2_with (go_at_call 162;refine(HL.out w hp).mono ?_);rintro e w1 ⟨rfl,hp1,hk1⟩;clear d0;go_wp2_with (go_at_call 229;refine(HD.out w1 hp1).mono ?_);rintro e w2 ⟨rfl,hp2,hk2⟩;go_wp2_with (go_at_call 306;refine(HF.out w2 hp2).mono ?_);rintro e w3 ⟨rfl,hp3,fM⟩;go_wp2_with (go_at_call 101;refine(HN.out w3 hp3).mono ?_);rintro e w4 ⟨rfl,rJ,hk4⟩;go_wp2;go_ret;exact⟨rfl,rJ,((hk1.trans hk2).trans fM).trans hk4⟩
theorem Sk (E:bH)(hE:E.ok)(aF:Nat)(st:aN)(w:World)(hp:PW E st w)(n1:st.aj.length+1<=1099511627776)(dO:aF<=E.depth)
  (hd:(aV E.ah E.depth (aF+1) (aD E.ah st).2).fE≠0) :
  Calls Tryz.prog 313 #[.pointer (some ⟨E.pb,0,none⟩),.int .i64 aF,.func (.func 306) #[.pointer (some ⟨E.pb,0,none⟩)] #[]] w (eG E (0,aV E.ah E.depth (aF+1) (aD E.ah st).2) w):=by
 have wV:=hE.2.2;have HL:=ay (λw hp=>cB E st w hp hE.1 hE.2.1 n1);have HD:=ay (Gd E hE (aF+1) _ hd);clear hd n1;go_enter Tryz.func313,Tryz.ntmps313;obtain⟨d0,_,_,_,_,_⟩:=hp.cells;go_wp2_with (go_at_call 162;refine(HL.out w hp).mono ?_);rintro e w1 ⟨rfl,hp1,hk1⟩;clear d0;go_wp2_with (go_at_call 229;refine(HD.out w1 hp1).mono ?_);rintro e w2 ⟨rfl,hp2,hk2⟩;go_wp2;go_ret;exact⟨rfl,hp2,hk1.trans hk2⟩
theorem Zy (E:bH)(hE:E.ok)(g:Nat)(ih:EI E g)(aF:Nat)(st:aN)(r:Int × aN)(w:World)(h:run E.ah E.depth (g+1) (.neg aF) st=some r)(hp:PW E st w)(hn:r.2.aj.length+1<=1099511627776)(dO:aF<=E.depth) :
  Calls Tryz.prog 306 #[.pointer (some ⟨E.pb,0,none⟩),.int .i64 aF] w (eG E r w):=by
 have wV:=hE.2.2
 have hHI:∀ (t:Task) (st:aN) (r:Int × aN),run E.ah E.depth g t st=some r->r.2.aj.length+1<=1099511627776->zS E t->∀ w,PW E st w->pQ E r w t:=λt st r h1 h2 h3 w h4=>ih t st r w h1 h4 h2 h3
 have ex:=aW E.ah E.depth g;rw[run] at h
 by_cases hf:st.fE=0
 ·by_cases hx:bG E.ah st [ada]=true
  ·rw[bq ⟨hf,hx⟩] at h
   by_cases hd:(aV E.ah E.depth (aF+1) (aD E.ah st).2).fE=0
   ·rw[aP (by simp[hd])] at h
    obtain⟨b,h1,h⟩:=bS h
    injection h with h;subst h
    have n4:=aO (aI _ _ _) hn;have n3:=aO (ex _ _ _ h1) n4;have n2:=aO (fH _ _ _ _) n3;have n1:=aO (aQ _ _) n2;have HO:=ay (kU E st hf);have HX:=ay (eD E hE ⟨#[110,111,116]⟩ st true hx);have HU:=ay (λw hp=>WL E hE aF st b w hp n1 n4 dO hd (hHI _ _ _ h1 n4 (CG E _ _ hd)));clear h1 hf hx hd n1 n2 n3 n4 hHI ex ih hn;go_enter Tryz.func306,Tryz.ntmps306;go_wp2_with (go_at_call 96;refine(HO.out w hp).mono ?_);rintro e w1 ⟨rfl,hp1,hk1⟩;go_wp2_with (go_at_call 160;refine(HX.out w1 hp1).mono ?_);rintro e w2 ⟨rfl,hp2,hk2⟩;go_wp2_with (go_at_call 313;refine(HU.out w2 hp2).mono ?_);rintro e w3 ⟨rfl,hp3,fM⟩;go_wp2;go_ret;exact⟨rfl,hp3,(hk1.trans hk2).trans fM⟩
   ·rw[bq hd] at h
    injection h with h;subst h
    have n2:=aO (fH _ _ _ _) hn;have n1:=aO (aQ _ _) n2;have HO:=ay (kU E st hf);have HX:=ay (eD E hE ⟨#[110,111,116]⟩ st true hx);have HU:=ay (λw hp=>Sk E hE aF st w hp n1 dO hd);clear hf hx hd n1 n2 hHI ex ih hn;go_enter Tryz.func306,Tryz.ntmps306;go_wp2_with (go_at_call 96;refine(HO.out w hp).mono ?_);rintro e w1 ⟨rfl,hp1,hk1⟩;go_wp2_with (go_at_call 160;refine(HX.out w1 hp1).mono ?_);rintro e w2 ⟨rfl,hp2,hk2⟩;go_wp2_with (go_at_call 313;refine(HU.out w2 hp2).mono ?_);rintro e w3 ⟨rfl,hp3,fM⟩;go_wp2;go_ret;exact⟨rfl,hp3,(hk1.trans hk2).trans fM⟩
  ·rw[aP (λq=>hx q.2)] at h
   have HO:=ay (kU E st hf);have HX:=ay (eD E hE ⟨#[110,111,116]⟩ st false (eq_false_of_ne_true hx));have HR:=ay (hHI _ _ _ h hn ⟨by decide,dO⟩);clear h hf hx hHI ex ih hn;go_enter Tryz.func306,Tryz.ntmps306;go_wp2_with (go_at_call 96;refine(HO.out w hp).mono ?_);rintro e w1 ⟨rfl,hp1,hk1⟩;go_wp2_with (go_at_call 160;refine(HX.out w1 hp1).mono ?_);rintro e w2 ⟨rfl,hp2,hk2⟩;go_wp2_with (go_at_call 273;refine(HR.out w2 hp2).mono ?_);rintro e w3 ⟨rfl,hp3,fM⟩;go_wp2;go_ret;exact⟨rfl,hp3,(hk1.trans hk2).trans fM⟩
 ·rw[aP (λq=>hf q.1)] at h
  have HO:=ay (wM E st hf);have HR:=ay (hHI _ _ _ h hn ⟨by decide,dO⟩);clear h hf hHI ex ih hn;go_enter Tryz.func306,Tryz.ntmps306;go_wp2_with (go_at_call 96;refine(HO.out w hp).mono ?_);rintro e w1 ⟨rfl,hp1,hk1⟩;go_wp2_with (go_at_call 273;refine(HR.out w1 hp1).mono ?_);rintro e w2 ⟨rfl,hp2,hk2⟩;go_wp2;go_ret;exact⟨rfl,hp2,hk1.trans hk2⟩
theorem Ms (E:bH)(hE:E.ok)(aF:Nat)(st:aN)(b:Int × aN)(w:World)(hp:PW E st w)(n1:st.aj.length+1<=1099511627776)(n4:b.2.aj.length+1<=1099511627776)(dO:aF<=E.depth)
  (hd:(aV E.ah E.depth (aF+1) (aD E.ah st).2).fE=0)
  (hb:∀ w,PW E (aV E.ah E.depth (aF+1) (aD E.ah st).2) w->Calls Tryz.prog 307 #[.pointer (some ⟨E.pb,0,none⟩),.int .i64 ((aF+1:Nat):Int)] w (eG E b w)) :
  Calls Tryz.prog 313 #[.pointer (some ⟨E.pb,0,none⟩),.int .i64 aF,.func (.func 307) #[.pointer (some ⟨E.pb,0,none⟩)] #[]] w (eG E (bM 11 [(aD E.ah st).1,b.1] b.2) w):=by
 have wV:=hE.2.2;have HL:=ay (λw hp=>cB E st w hp hE.1 hE.2.1 n1);have HD:=ay (Mq E hE (aF+1) _ hd);have HF:=ay hb;have HN:=ay (λw hp=>jo E 11 [(aD E.ah st).1,b.1] 2 _ b.2 w hp rfl rfl (by omega) n4);clear hd hb n1 n4;go_enter Tryz.func313,Tryz.ntmps313;obtain⟨d0,_,_,_,_,_⟩:=hp.cells;go_wp2_with (go_at_call 162;refine(HL.out w hp).mono ?_);rintro e w1 ⟨rfl,hp1,hk1⟩;clear d0;go_wp2_with (go_at_call 229;refine(HD.out w1 hp1).mono ?_);rintro e w2 ⟨rfl,hp2,hk2⟩;go_wp2_with (go_at_call 307;refine(HF.out w2 hp2).mono ?_);rintro e w3 ⟨rfl,hp3,fM⟩;go_wp2_with (go_at_call 101;refine(HN.out w3 hp3).mono ?_);rintro e w4 ⟨rfl,rJ,hk4⟩;go_wp2;go_ret;exact⟨rfl,rJ,((hk1.trans hk2).trans fM).trans hk4⟩
theorem JN (E:bH)(hE:E.ok)(aF:Nat)(st:aN)(w:World)(hp:PW E st w)(n1:st.aj.length+1<=1099511627776)(dO:aF<=E.depth)
  (hd:(aV E.ah E.depth (aF+1) (aD E.ah st).2).fE≠0) :
  Calls Tryz.prog 313 #[.pointer (some ⟨E.pb,0,none⟩),.int .i64 aF,.func (.func 307) #[.pointer (some ⟨E.pb,0,none⟩)] #[]] w (eG E (0,aV E.ah E.depth (aF+1) (aD E.ah st).2) w):=by
 have wV:=hE.2.2;have HL:=ay (λw hp=>cB E st w hp hE.1 hE.2.1 n1);have HD:=ay (Gd E hE (aF+1) _ hd);clear hd n1;go_enter Tryz.func313,Tryz.ntmps313;obtain⟨d0,_,_,_,_,_⟩:=hp.cells;go_wp2_with (go_at_call 162;refine(HL.out w hp).mono ?_);rintro e w1 ⟨rfl,hp1,hk1⟩;clear d0;go_wp2_with (go_at_call 229;refine(HD.out w1 hp1).mono ?_);rintro e w2 ⟨rfl,hp2,hk2⟩;go_wp2;go_ret;exact⟨rfl,hp2,hk1.trans hk2⟩
theorem OO (E:bH)(hE:E.ok)(g:Nat)(ih:EI E g)(aF:Nat)(st:aN)(r:Int × aN)(w:World)(h:run E.ah E.depth (g+1) (.factor aF) st=some r)(hp:PW E st w)(hn:r.2.aj.length+1<=1099511627776)(dO:aF<=E.depth) :
  Calls Tryz.prog 307 #[.pointer (some ⟨E.pb,0,none⟩),.int .i64 aF] w (eG E r w):=by
 have wV:=hE.2.2
 have hHI:∀ (t:Task) (st:aN) (r:Int × aN),run E.ah E.depth g t st=some r->r.2.aj.length+1<=1099511627776->zS E t->∀ w,PW E st w->pQ E r w t:=λt st r h1 h2 h3 w h4=>ih t st r w h1 h4 h2 h3
 have ex:=aW E.ah E.depth g;rw[run] at h
 by_cases hf:st.fE=0
 ·by_cases hx:bG E.ah st [[45]]=true
  ·rw[bq ⟨hf,hx⟩] at h
   by_cases hd:(aV E.ah E.depth (aF+1) (aD E.ah st).2).fE=0
   ·rw[aP (by simp[hd])] at h
    obtain⟨b,h1,h⟩:=bS h
    injection h with h;subst h
    have n4:=aO (aI _ _ _) hn;have n3:=aO (ex _ _ _ h1) n4;have n2:=aO (fH _ _ _ _) n3;have n1:=aO (aQ _ _) n2;have HO:=ay (kU E st hf);have HX:=ay (eD E hE ⟨#[45]⟩ st true hx);have HU:=ay (λw hp=>Ms E hE aF st b w hp n1 n4 dO hd (hHI _ _ _ h1 n4 (CG E _ _ hd)));clear h1 hf hx hd n1 n2 n3 n4 hHI ex ih hn;go_enter Tryz.func307,Tryz.ntmps307;go_wp2_with (go_at_call 96;refine(HO.out w hp).mono ?_);rintro e w1 ⟨rfl,hp1,hk1⟩;go_wp2_with (go_at_call 160;refine(HX.out w1 hp1).mono ?_);rintro e w2 ⟨rfl,hp2,hk2⟩;go_wp2_with (go_at_call 313;refine(HU.out w2 hp2).mono ?_);rintro e w3 ⟨rfl,hp3,fM⟩;go_wp2;go_ret;exact⟨rfl,hp3,(hk1.trans hk2).trans fM⟩
   ·rw[bq hd] at h
    injection h with h;subst h
    have n2:=aO (fH _ _ _ _) hn;have n1:=aO (aQ _ _) n2;have HO:=ay (kU E st hf);have HX:=ay (eD E hE ⟨#[45]⟩ st true hx);have HU:=ay (λw hp=>JN E hE aF st w hp n1 dO hd);clear hf hx hd n1 n2 hHI ex ih hn;go_enter Tryz.func307,Tryz.ntmps307;go_wp2_with (go_at_call 96;refine(HO.out w hp).mono ?_);rintro e w1 ⟨rfl,hp1,hk1⟩;go_wp2_with (go_at_call 160;refine(HX.out w1 hp1).mono ?_);rintro e w2 ⟨rfl,hp2,hk2⟩;go_wp2_with (go_at_call 313;refine(HU.out w2 hp2).mono ?_);rintro e w3 ⟨rfl,hp3,fM⟩;go_wp2;go_ret;exact⟨rfl,hp3,(hk1.trans hk2).trans fM⟩
  ·rw[aP (λq=>hx q.2)] at h
   have HO:=ay (kU E st hf);have HX:=ay (eD E hE ⟨#[45]⟩ st false (eq_false_of_ne_true hx));have HR:=ay (hHI _ _ _ h hn dO);clear h hf hx hHI ex ih hn;go_enter Tryz.func307,Tryz.ntmps307;go_wp2_with (go_at_call 96;refine(HO.out w hp).mono ?_);rintro e w1 ⟨rfl,hp1,hk1⟩;go_wp2_with (go_at_call 160;refine(HX.out w1 hp1).mono ?_);rintro e w2 ⟨rfl,hp2,hk2⟩;go_wp2_with (go_at_call 314;refine(HR.out w2 hp2).mono ?_);rintro e w3 ⟨rfl,hp3,fM⟩;go_wp2;go_ret;exact⟨rfl,hp3,(hk1.trans hk2).trans fM⟩
 ·rw[aP (λq=>hf q.1)] at h
  have HO:=ay (wM E st hf);have HR:=ay (hHI _ _ _ h hn dO);clear h hf hHI ex ih hn;go_enter Tryz.func307,Tryz.ntmps307;go_wp2_with (go_at_call 96;refine(HO.out w hp).mono ?_);rintro e w1 ⟨rfl,hp1,hk1⟩;go_wp2_with (go_at_call 314;refine(HR.out w1 hp1).mono ?_);rintro e w2 ⟨rfl,hp2,hk2⟩;go_wp2;go_ret;exact⟨rfl,hp2,hk1.trans hk2⟩
def agI (E:bH)(st:aN)(t:Tok)(w:World)(e:Ending)(w':World):Prop:=e=.returned (.agg #[.int .i64 t.kind,.string ⟨t.lead.toArray⟩,.string ⟨t.text.toArray⟩,.int .i64 t.place])/\PW E st w'/\Kp E.B w w'
theorem adB (E:bH)(hE:E.ok)(st:aN)(w:World)(h:PW E st w) :
  Calls Tryz.prog 169 #[.pointer (some ⟨E.bb,0,none⟩)] w (agI E st (dh E.ah st.used) w) :=
 (Bh E.R E.B E.bb E.tv E.ah st.used st.aj w h.2.1 h.2.2.1 hE.1 h.2.2.2.2.1 hE.2.1).mono λ_e _w' ⟨he,hb⟩=>⟨he,h.later hb,Kp.of hb h.fD⟩
theorem xG (E:bH)(hE:E.ok)(b c:ByteArray)(st:aN)(x:Bool)(hx:bG E.ah st [b.data.toList,c.data.toList]=x)(w:World)(h:PW E st w) :
  Calls Tryz.prog 160 #[.pointer (some ⟨E.pb,0,none⟩),.slice (some ⟨w.heap.size,0,none⟩) 2 2] (w.alloc (.cells #[.string b,.string c] 9)) (uT E st x w):=by
 subst hx;exact Zv E hE b c st w h
def qD (w:World)(b:Nat)(k:Nat):Prop:=∃ x y q:Value,w.heap[b]?=some (.cells #[.int .i64 k,x,y,q] 131)
theorem qD.kp {B:Nat}{w w':World}{b k:Nat}(h:qD w b k)(hk:Kp B w w'):qD w' b k:=by
 obtain⟨x,y,q,h⟩:=h;exact⟨x,y,q,hk.2 _ _ _ _ h (by decide) (by decide) (by decide)⟩
theorem qD.cell {w:World}{b k:Nat}(h:qD w b k):w.cell? ⟨b,0,none⟩=some (.int .i64 k):=by
 obtain⟨x,y,q,h⟩:=h;rw[bg h];rfl
theorem qD.new (w:World)(k:Nat)(x y q:Value):qD (w.alloc (.cells #[.int .i64 k,x,y,q] 131)) w.heap.size k:=⟨x,y,q,aZ _ _⟩
theorem WM (E:bH)(hE:E.ok)(g:Nat)(ih:EI E g)(aF:Nat)(st:aN)(r:Int × aN)(w:World)(h:run E.ah E.depth (g+1) (.atom aF) st=some r)(hp:PW E st w)(hn:r.2.aj.length+1<=1099511627776)(dO:aF<=E.depth) :
  Calls Tryz.prog 314 #[.pointer (some ⟨E.pb,0,none⟩),.int .i64 aF] w (eG E r w):=by
 have wV:=hE.2.2
 have hHI:∀ (t:Task) (st:aN) (r:Int × aN),run E.ah E.depth g t st=some r->r.2.aj.length+1<=1099511627776->zS E t->∀ w,PW E st w->pQ E r w t:=λt st r h1 h2 h3 w h4=>ih t st r w h1 h4 h2 h3
 have ex:=aW E.ah E.depth g;rw[run] at h;have hP:=adB E hE st;generalize dh E.ah st.used=t at hP h;obtain⟨k,x,y,q⟩:=t;simp only at h;have HP:=ay hP;clear hP;have tf:=Kr
 by_cases hf:st.fE≠0
 ·rw[bq hf] at h
  injection h with h;subst h
  have HO:=ay (wM E st hf);clear hf hHI ex ih hn;go_enter Tryz.func314,Tryz.ntmps314;obtain⟨d0,_,_,_,_,_⟩:=hp.cells;go_wp2_with (go_at_call 169;refine(HP.out w hp).mono ?_);rintro e w0 ⟨rfl,hp0,hk0⟩;clear d0;have hT0:=qD.new w0 k (.string ⟨x.toArray⟩) (.string ⟨y.toArray⟩) (.int .i64 q);have zT:=hp0.later (aB w0 (.cells #[.int .i64 k,.string ⟨x.toArray⟩,.string ⟨y.toArray⟩,.int .i64 q] 131));have vU:=hk0.trans (Kp.of (aB w0 (.cells #[.int .i64 k,.string ⟨x.toArray⟩,.string ⟨y.toArray⟩,.int .i64 q] 131)) hp0.fD);go_wp2_with (go_at_call 96;refine(HO.out _ zT).mono ?_);rintro e w1 ⟨rfl,hp1,hk1⟩;go_wp2;go_ret;exact⟨rfl,hp1,vU.trans hk1⟩
 rw[aP hf] at h;have HO:=ay (kU E st (by simpa using hf));clear hf
 by_cases fM:k=3
 ·rw[bq fM] at h
  injection h with h;subst h
  have n2:=aO (aI _ _ _) hn;have n1:=aO (aQ _ _) n2
  have k3:((k:Int) == 3)=true:=by rw[beq_iff_eq];omega
  have HL:=ay (λw hp=>cB E st w hp hE.1 hE.2.1 n1);have HN:=ay (λw hp=>jo E 15 [(aD E.ah st).1] 1 _ (aD E.ah st).2 w hp rfl rfl (by omega) n2);clear n1 n2 fM hHI ex ih hn;go_enter Tryz.func314,Tryz.ntmps314;obtain⟨d0,_,_,_,_,_⟩:=hp.cells;go_wp2_with (go_at_call 169;refine(HP.out w hp).mono ?_);rintro e w0 ⟨rfl,hp0,hk0⟩;clear d0;have hT0:=qD.new w0 k (.string ⟨x.toArray⟩) (.string ⟨y.toArray⟩) (.int .i64 q);have zT:=hp0.later (aB w0 (.cells #[.int .i64 k,.string ⟨x.toArray⟩,.string ⟨y.toArray⟩,.int .i64 q] 131));have vU:=hk0.trans (Kp.of (aB w0 (.cells #[.int .i64 k,.string ⟨x.toArray⟩,.string ⟨y.toArray⟩,.int .i64 q] 131)) hp0.fD);go_wp2_with (go_at_call 96;refine(HO.out _ zT).mono ?_);rintro e w1 ⟨rfl,hp1,hk1⟩;have hT1:=hT0.kp hk1;have t1:=hT1.cell;obtain⟨d0,_,_,_,_,_⟩:=hp1.cells;go_wp2_with (go_at_call 162;refine(HL.out w1 hp1).mono ?_);rintro e w2 ⟨rfl,hp2,hk2⟩;clear d0;go_wp2_with (go_at_call 101;refine(HN.out w2 hp2).mono ?_);rintro e w3 ⟨rfl,hp3,fM⟩;go_wp2;go_ret;exact⟨rfl,hp3,((vU.trans hk1).trans hk2).trans fM⟩
 rw[aP fM] at h
 have k3:((k:Int) == 3)=false:=by rw[<- wT,beq_iff_eq];omega
 clear fM
 by_cases hx1:bG E.ah st [Oa,L9]=true
 ·rw[bq hx1] at h
  injection h with h;subst h
  have n2:=aO (aI _ _ _) hn;have n1:=aO (aQ _ _) n2;have HX:=ay (xG E hE ⟨#[116,114,117,101]⟩ ⟨#[102,97,108,115,101]⟩ st true hx1);have HL:=ay (λw hp=>cB E st w hp hE.1 hE.2.1 n1);have HN:=ay (λw hp=>jo E 16 [(aD E.ah st).1] 1 _ (aD E.ah st).2 w hp rfl rfl (by omega) n2);clear n1 n2 hx1 hHI ex ih hn;go_enter Tryz.func314,Tryz.ntmps314;obtain⟨d0,_,_,_,_,_⟩:=hp.cells;go_wp2_with (go_at_call 169;refine(HP.out w hp).mono ?_);rintro e w0 ⟨rfl,hp0,hk0⟩;clear d0;have hT0:=qD.new w0 k (.string ⟨x.toArray⟩) (.string ⟨y.toArray⟩) (.int .i64 q);have zT:=hp0.later (aB w0 (.cells #[.int .i64 k,.string ⟨x.toArray⟩,.string ⟨y.toArray⟩,.int .i64 q] 131));have vU:=hk0.trans (Kp.of (aB w0 (.cells #[.int .i64 k,.string ⟨x.toArray⟩,.string ⟨y.toArray⟩,.int .i64 q] 131)) hp0.fD);go_wp2_with (go_at_call 96;refine(HO.out _ zT).mono ?_);rintro e w1 ⟨rfl,hp1,hk1⟩;have hT1:=hT0.kp hk1;have t1:=hT1.cell;go_wp2_with (go_at_call 160;refine(HX.out w1 hp1).mono ?_);rintro e w2 ⟨rfl,hp2,hk2⟩;clear t1;obtain⟨d0,_,_,_,_,_⟩:=hp2.cells;go_wp2_with (go_at_call 162;refine(HL.out w2 hp2).mono ?_);rintro e w3 ⟨rfl,hp3,fM⟩;clear d0;go_wp2_with (go_at_call 101;refine(HN.out w3 hp3).mono ?_);rintro e w4 ⟨rfl,rJ,hk4⟩;go_wp2;go_ret;exact⟨rfl,rJ,(((vU.trans hk1).trans hk2).trans fM).trans hk4⟩
 rw[aP hx1] at h;have HX:=ay (xG E hE ⟨#[116,114,117,101]⟩ ⟨#[102,97,108,115,101]⟩ st false (eq_false_of_ne_true hx1));clear hx1
 by_cases hx2:st.aC=true/\bG E.ah st [adb]=true
 ·rw[bq hx2] at h
  injection h with h;subst h
  have n2:=aO (aI _ _ _) hn;have n1:=aO (aQ _ _) n2;have hc:=ay hx2.1;have HR:=ay (eD E hE ⟨#[114,101,115]⟩ st true hx2.2);have HL:=ay (λw hp=>cB E st w hp hE.1 hE.2.1 n1);have HN:=ay (λw hp=>jo E 17 [(aD E.ah st).1] 1 _ (aD E.ah st).2 w hp rfl rfl (by omega) n2);clear n1 n2 hx2 hHI ex ih hn;go_enter Tryz.func314,Tryz.ntmps314;obtain⟨d0,_,_,_,_,_⟩:=hp.cells;go_wp2_with (go_at_call 169;refine(HP.out w hp).mono ?_);rintro e w0 ⟨rfl,hp0,hk0⟩;clear d0;have hT0:=qD.new w0 k (.string ⟨x.toArray⟩) (.string ⟨y.toArray⟩) (.int .i64 q);have zT:=hp0.later (aB w0 (.cells #[.int .i64 k,.string ⟨x.toArray⟩,.string ⟨y.toArray⟩,.int .i64 q] 131));have vU:=hk0.trans (Kp.of (aB w0 (.cells #[.int .i64 k,.string ⟨x.toArray⟩,.string ⟨y.toArray⟩,.int .i64 q] 131)) hp0.fD);go_wp2_with (go_at_call 96;refine(HO.out _ zT).mono ?_);rintro e w1 ⟨rfl,hp1,hk1⟩;have hT1:=hT0.kp hk1;have t1:=hT1.cell;go_wp2_with (go_at_call 160;refine(HX.out w1 hp1).mono ?_);rintro e w2 ⟨rfl,hp2,hk2⟩;clear t1;obtain⟨_,_,c2,_,_,_⟩:=hp2.cells;rw[hc.out] at c2;go_wp2_with (go_at_call 160;refine(HR.out w2 hp2).mono ?_);rintro e w3 ⟨rfl,hp3,fM⟩;clear c2;obtain⟨d0,_,_,_,_,_⟩:=hp3.cells;go_wp2_with (go_at_call 162;refine(HL.out w3 hp3).mono ?_);rintro e w4 ⟨rfl,rJ,hk4⟩;clear d0;go_wp2_with (go_at_call 101;refine(HN.out w4 rJ).mono ?_);rintro e w5 ⟨rfl,vT,lu⟩;go_wp2;go_ret;exact⟨rfl,vT,((((vU.trans hk1).trans hk2).trans fM).trans hk4).trans lu⟩
 rw[aP hx2] at h
 have HR:st.aC=true->Hid (∀ w,PW E st w->Calls Tryz.prog 160 #[.pointer (some ⟨E.pb,0,none⟩),.slice (some ⟨w.heap.size,0,none⟩) 1 1] (w.alloc (.cells #[.string ⟨#[114,101,115]⟩] 9)) (uT E st false w)):=λhc=>ay (eD E hE ⟨#[114,101,115]⟩ st false (eq_false_of_ne_true λq=>hx2 ⟨hc,q⟩))
 clear hx2
 by_cases hx3:bG E.ah st [[40]]=true
 ·rw[bq hx3] at h
  obtain⟨b,h1,h⟩:=bS h
  injection h with h;subst h
  have n4:=aO (aI _ _ _) hn;have n3:=aO (aK _ _ _) n4;have n2:=aO (ex _ _ _ h1) n3;have n1:=aO (aQ _ _) n2;have HY:=ay (eD E hE ⟨#[40]⟩ st true hx3);have HL:=ay (λw hp=>cB E st w hp hE.1 hE.2.1 n1);have HE:=ay (hHI _ _ _ h1 n3 (by show aF+1<=_;omega));have HM:=ay (λw hp=>eO E hE ⟨#[41]⟩ b.2 w hp n3);have HN:=ay (λw hp=>jo E 12 [(aD E.ah st).1,b.1,(aM E.ah [[41]] b.2).1] 3 _ (aM E.ah [[41]] b.2).2 w hp rfl rfl (by omega) n4);clear n1 n2 n3 n4 h1 hx3 hHI ex ih hn
  by_cases hcl:st.aC=true
  ·have HR:=HR hcl
   have hc:=ay hcl;clear hcl;go_enter Tryz.func314,Tryz.ntmps314;obtain⟨d0,_,_,_,_,_⟩:=hp.cells;go_wp2_with (go_at_call 169;refine(HP.out w hp).mono ?_);rintro e w0 ⟨rfl,hp0,hk0⟩;clear d0;have hT0:=qD.new w0 k (.string ⟨x.toArray⟩) (.string ⟨y.toArray⟩) (.int .i64 q);have zT:=hp0.later (aB w0 (.cells #[.int .i64 k,.string ⟨x.toArray⟩,.string ⟨y.toArray⟩,.int .i64 q] 131));have vU:=hk0.trans (Kp.of (aB w0 (.cells #[.int .i64 k,.string ⟨x.toArray⟩,.string ⟨y.toArray⟩,.int .i64 q] 131)) hp0.fD);go_wp2_with (go_at_call 96;refine(HO.out _ zT).mono ?_);rintro e w1 ⟨rfl,hp1,hk1⟩;have hT1:=hT0.kp hk1;have t1:=hT1.cell;go_wp2_with (go_at_call 160;refine(HX.out w1 hp1).mono ?_);rintro e w2 ⟨rfl,hp2,hk2⟩;clear t1;obtain⟨_,_,c2,_,_,_⟩:=hp2.cells;rw[hc.out] at c2;go_wp2_with (go_at_call 160;refine(HR.out w2 hp2).mono ?_);rintro e w3 ⟨rfl,hp3,fM⟩;clear c2;go_wp2_with (go_at_call 160;refine(HY.out w3 hp3).mono ?_);rintro e w4 ⟨rfl,rJ,hk4⟩;obtain⟨d0,_,_,_,_,_⟩:=rJ.cells;go_wp2_with (go_at_call 162;refine(HL.out w4 rJ).mono ?_);rintro e w5 ⟨rfl,vT,lu⟩;clear d0;go_wp2_with (go_at_call 167;refine(HE.out w5 vT).mono ?_);rintro e w6 ⟨rfl,Gc,qY⟩;go_wp2_with (go_at_call 163;refine(HM.out w6 Gc).mono ?_);rintro e w7 ⟨rfl,JM,zk⟩;go_wp2_with (go_at_call 101;refine(HN.out w7 JM).mono ?_);rintro e w8 ⟨rfl,WJ,EJ⟩;go_wp2;go_ret;exact⟨rfl,WJ,(((((((vU.trans hk1).trans hk2).trans fM).trans hk4).trans lu).trans qY).trans zk).trans EJ⟩
  ·have hc:=ay (eq_false_of_ne_true hcl)
   clear hcl HR;go_enter Tryz.func314,Tryz.ntmps314;obtain⟨d0,_,_,_,_,_⟩:=hp.cells;go_wp2_with (go_at_call 169;refine(HP.out w hp).mono ?_);rintro e w0 ⟨rfl,hp0,hk0⟩;clear d0;have hT0:=qD.new w0 k (.string ⟨x.toArray⟩) (.string ⟨y.toArray⟩) (.int .i64 q);have zT:=hp0.later (aB w0 (.cells #[.int .i64 k,.string ⟨x.toArray⟩,.string ⟨y.toArray⟩,.int .i64 q] 131));have vU:=hk0.trans (Kp.of (aB w0 (.cells #[.int .i64 k,.string ⟨x.toArray⟩,.string ⟨y.toArray⟩,.int .i64 q] 131)) hp0.fD);go_wp2_with (go_at_call 96;refine(HO.out _ zT).mono ?_);rintro e w1 ⟨rfl,hp1,hk1⟩;have hT1:=hT0.kp hk1;have t1:=hT1.cell;go_wp2_with (go_at_call 160;refine(HX.out w1 hp1).mono ?_);rintro e w2 ⟨rfl,hp2,hk2⟩;clear t1;obtain⟨_,_,c2,_,_,_⟩:=hp2.cells;rw[hc.out] at c2;go_wp2_with (go_at_call 160;refine(HY.out w2 hp2).mono ?_);rintro e w3 ⟨rfl,hp3,fM⟩;clear c2;obtain⟨d0,_,_,_,_,_⟩:=hp3.cells;go_wp2_with (go_at_call 162;refine(HL.out w3 hp3).mono ?_);rintro e w4 ⟨rfl,rJ,hk4⟩;clear d0;go_wp2_with (go_at_call 167;refine(HE.out w4 rJ).mono ?_);rintro e w5 ⟨rfl,vT,lu⟩;go_wp2_with (go_at_call 163;refine(HM.out w5 vT).mono ?_);rintro e w6 ⟨rfl,Gc,qY⟩;go_wp2_with (go_at_call 101;refine(HN.out w6 Gc).mono ?_);rintro e w7 ⟨rfl,JM,zk⟩;go_wp2;go_ret;exact⟨rfl,JM,((((((vU.trans hk1).trans hk2).trans fM).trans hk4).trans lu).trans qY).trans zk⟩
 rw[aP hx3] at h;have HY:=ay (eD E hE ⟨#[40]⟩ st false (eq_false_of_ne_true hx3));clear hx3
 by_cases hk1:k=1
 ·rw[bq hk1] at h
  have k1:((k:Int) == 1)=true:=by rw[beq_iff_eq];omega
  have HN:=ay (hHI _ _ _ h hn dO);clear h hk1 hHI ex ih hn
  by_cases hcl:st.aC=true
  ·have HR:=HR hcl
   have hc:=ay hcl;clear hcl;go_enter Tryz.func314,Tryz.ntmps314;obtain⟨d0,_,_,_,_,_⟩:=hp.cells;go_wp2_with (go_at_call 169;refine(HP.out w hp).mono ?_);rintro e w0 ⟨rfl,hp0,hk0⟩;clear d0;have hT0:=qD.new w0 k (.string ⟨x.toArray⟩) (.string ⟨y.toArray⟩) (.int .i64 q);have zT:=hp0.later (aB w0 (.cells #[.int .i64 k,.string ⟨x.toArray⟩,.string ⟨y.toArray⟩,.int .i64 q] 131));have vU:=hk0.trans (Kp.of (aB w0 (.cells #[.int .i64 k,.string ⟨x.toArray⟩,.string ⟨y.toArray⟩,.int .i64 q] 131)) hp0.fD);go_wp2_with (go_at_call 96;refine(HO.out _ zT).mono ?_);rintro e w1 ⟨rfl,hp1,hk1⟩;have hT1:=hT0.kp hk1;have t1:=hT1.cell;go_wp2_with (go_at_call 160;refine(HX.out w1 hp1).mono ?_);rintro e w2 ⟨rfl,hp2,hk2⟩;clear t1;have Rv:=hT1.kp hk2;obtain⟨_,_,c2,_,_,_⟩:=hp2.cells;rw[hc.out] at c2;go_wp2_with (go_at_call 160;refine(HR.out w2 hp2).mono ?_);rintro e w3 ⟨rfl,hp3,fM⟩;clear c2;have Zz:=Rv.kp fM;go_wp2_with (go_at_call 160;refine(HY.out w3 hp3).mono ?_);rintro e w4 ⟨rfl,rJ,hk4⟩;have hT4:=Zz.kp hk4;have t4:=hT4.cell;go_wp2_with (go_at_call 319;refine(HN.out w4 rJ).mono ?_);rintro e w5 ⟨rfl,vT,lu⟩;go_wp2;go_ret;exact⟨rfl,vT,((((vU.trans hk1).trans hk2).trans fM).trans hk4).trans lu⟩
  ·have hc:=ay (eq_false_of_ne_true hcl)
   clear hcl HR;go_enter Tryz.func314,Tryz.ntmps314;obtain⟨d0,_,_,_,_,_⟩:=hp.cells;go_wp2_with (go_at_call 169;refine(HP.out w hp).mono ?_);rintro e w0 ⟨rfl,hp0,hk0⟩;clear d0;have hT0:=qD.new w0 k (.string ⟨x.toArray⟩) (.string ⟨y.toArray⟩) (.int .i64 q);have zT:=hp0.later (aB w0 (.cells #[.int .i64 k,.string ⟨x.toArray⟩,.string ⟨y.toArray⟩,.int .i64 q] 131));have vU:=hk0.trans (Kp.of (aB w0 (.cells #[.int .i64 k,.string ⟨x.toArray⟩,.string ⟨y.toArray⟩,.int .i64 q] 131)) hp0.fD);go_wp2_with (go_at_call 96;refine(HO.out _ zT).mono ?_);rintro e w1 ⟨rfl,hp1,hk1⟩;have hT1:=hT0.kp hk1;have t1:=hT1.cell;go_wp2_with (go_at_call 160;refine(HX.out w1 hp1).mono ?_);rintro e w2 ⟨rfl,hp2,hk2⟩;clear t1;have Rv:=hT1.kp hk2;obtain⟨_,_,c2,_,_,_⟩:=hp2.cells;rw[hc.out] at c2;go_wp2_with (go_at_call 160;refine(HY.out w2 hp2).mono ?_);rintro e w3 ⟨rfl,hp3,fM⟩;clear c2;have Zz:=Rv.kp fM;have t3:=Zz.cell;go_wp2_with (go_at_call 319;refine(HN.out w3 hp3).mono ?_);rintro e w4 ⟨rfl,rJ,hk4⟩;go_wp2;go_ret;exact⟨rfl,rJ,(((vU.trans hk1).trans hk2).trans fM).trans hk4⟩
 ·rw[aP hk1] at h
  injection h with h;subst h
  have k1:((k:Int) == 1)=false:=by rw[<- wT,beq_iff_eq];omega
  have HF:=ay (λw hp=>nO E hE 22 st w hp);clear hk1 hHI ex ih hn
  by_cases hcl:st.aC=true
  ·have HR:=HR hcl
   have hc:=ay hcl;clear hcl;go_enter Tryz.func314,Tryz.ntmps314;obtain⟨d0,_,_,_,_,_⟩:=hp.cells;go_wp2_with (go_at_call 169;refine(HP.out w hp).mono ?_);rintro e w0 ⟨rfl,hp0,hk0⟩;clear d0;have hT0:=qD.new w0 k (.string ⟨x.toArray⟩) (.string ⟨y.toArray⟩) (.int .i64 q);have zT:=hp0.later (aB w0 (.cells #[.int .i64 k,.string ⟨x.toArray⟩,.string ⟨y.toArray⟩,.int .i64 q] 131));have vU:=hk0.trans (Kp.of (aB w0 (.cells #[.int .i64 k,.string ⟨x.toArray⟩,.string ⟨y.toArray⟩,.int .i64 q] 131)) hp0.fD);go_wp2_with (go_at_call 96;refine(HO.out _ zT).mono ?_);rintro e w1 ⟨rfl,hp1,hk1⟩;have hT1:=hT0.kp hk1;have t1:=hT1.cell;go_wp2_with (go_at_call 160;refine(HX.out w1 hp1).mono ?_);rintro e w2 ⟨rfl,hp2,hk2⟩;clear t1;have Rv:=hT1.kp hk2;obtain⟨_,_,c2,_,_,_⟩:=hp2.cells;rw[hc.out] at c2;go_wp2_with (go_at_call 160;refine(HR.out w2 hp2).mono ?_);rintro e w3 ⟨rfl,hp3,fM⟩;clear c2;have Zz:=Rv.kp fM;go_wp2_with (go_at_call 160;refine(HY.out w3 hp3).mono ?_);rintro e w4 ⟨rfl,rJ,hk4⟩;have hT4:=Zz.kp hk4;have t4:=hT4.cell;go_wp2_with (go_at_call 161;refine(HF.out w4 rJ).mono ?_);rintro e w5 ⟨rfl,vT,lu⟩;go_wp2;go_ret;exact⟨rfl,vT,((((vU.trans hk1).trans hk2).trans fM).trans hk4).trans lu⟩
  ·have hc:=ay (eq_false_of_ne_true hcl)
   clear hcl HR;go_enter Tryz.func314,Tryz.ntmps314;obtain⟨d0,_,_,_,_,_⟩:=hp.cells;go_wp2_with (go_at_call 169;refine(HP.out w hp).mono ?_);rintro e w0 ⟨rfl,hp0,hk0⟩;clear d0;have hT0:=qD.new w0 k (.string ⟨x.toArray⟩) (.string ⟨y.toArray⟩) (.int .i64 q);have zT:=hp0.later (aB w0 (.cells #[.int .i64 k,.string ⟨x.toArray⟩,.string ⟨y.toArray⟩,.int .i64 q] 131));have vU:=hk0.trans (Kp.of (aB w0 (.cells #[.int .i64 k,.string ⟨x.toArray⟩,.string ⟨y.toArray⟩,.int .i64 q] 131)) hp0.fD);go_wp2_with (go_at_call 96;refine(HO.out _ zT).mono ?_);rintro e w1 ⟨rfl,hp1,hk1⟩;have hT1:=hT0.kp hk1;have t1:=hT1.cell;go_wp2_with (go_at_call 160;refine(HX.out w1 hp1).mono ?_);rintro e w2 ⟨rfl,hp2,hk2⟩;clear t1;have Rv:=hT1.kp hk2;obtain⟨_,_,c2,_,_,_⟩:=hp2.cells;rw[hc.out] at c2;go_wp2_with (go_at_call 160;refine(HY.out w2 hp2).mono ?_);rintro e w3 ⟨rfl,hp3,fM⟩;clear c2;have Zz:=Rv.kp fM;have t3:=Zz.cell;go_wp2_with (go_at_call 161;refine(HF.out w3 hp3).mono ?_);rintro e w4 ⟨rfl,rJ,hk4⟩;go_wp2;go_ret;exact⟨rfl,rJ,(((vU.trans hk1).trans hk2).trans fM).trans hk4⟩
open Go
variable{w w' wr W0:World}{st s:aN}{R:List Nat}{E:bH}{xs:List Value}{v:Value}{g base n H B:Nat}{ks:List Int}
def agJ (l:List aH)(w:World)(e:Ending)(w':World):Prop:=∃ b n,e=.returned (.slice (some ⟨b,0,none⟩) n n)/\mX w' (.slice (some ⟨b,0,none⟩) n n) l/\Below w.heap.size w w'
theorem xH (w:World)(bs:List ByteArray):mX (w.alloc (.cells (bs.map Value.string).toArray 9)) (.slice (some ⟨w.heap.size,0,none⟩) bs.length bs.length) (bs.map (·.data.toList)):=by
 refine⟨w.heap.size,0,bs.length,by simp,by simp,λj hj=>?_⟩;rw[bg (aZ _ _)];simp only[vL] at hj;simp[hj]
theorem zU (l:Nat)(hl:l<=4)(w:World) :
  Calls Tryz.prog 295 #[.int .i64 l] w (agJ (zL l) w):=by
 have hc:l=0\/l=1\/l=2\/l=3\/l=4:=by omega
 rcases hc with rfl|rfl|rfl|rfl|rfl<;>
 ·go_enter Tryz.func295,Tryz.ntmps295
  go_wp2;go_ret
  first
   | exact⟨_,_,rfl,xH w [⟨#[124,124]⟩],aB _ _⟩
   | exact⟨_,_,rfl,xH w [⟨#[38,38]⟩],aB _ _⟩
   | exact⟨_,_,rfl,xH w [⟨#[61]⟩,⟨#[60,62]⟩,⟨#[60]⟩,⟨#[60,61]⟩,⟨#[62]⟩,⟨#[62,61]⟩],aB _ _⟩
   | exact⟨_,_,rfl,xH w [⟨#[43]⟩,⟨#[45]⟩],aB _ _⟩
   | exact⟨_,_,rfl,xH w [⟨#[42]⟩,⟨#[47]⟩,⟨#[37]⟩],aB _ _⟩
def ae9 (E:bH)(l aF:Nat)(r:Int × aN)(w:World)(g k:Nat)(av:Value)(wr:World):Prop :=
 ∃ (a:Int) (s:aN),av=.int .i64 a/\k<=g/\run E.ah E.depth k (.loop l aF a) s=some r/\PW E s wr/\Kp E.B w wr
theorem Kt (l:Nat):(zL l).length<=1000:=by
 match l with
 | 0=>decide
 | 1=>decide
 | 2=>decide
 | 3=>decide
 | n+4=>simp[zL]
theorem ZA (E:bH)(hE:E.ok)(v:Value)(l:List aH)(st:aN)(x:Bool)(hx:bG E.ah st l=x)(hl:l.length<=1000)(w:World)(h:PW E st w)(hv:mX w v l) :
  Calls Tryz.prog 160 #[.pointer (some ⟨E.pb,0,none⟩),v] w (uT E st x w):=by
 subst hx;refine(xD E v l st w h hv hE.1 hE.2.1 hl).mono ?_;rintro e w' ⟨rfl,hb⟩;exact⟨rfl,h.later hb,Kp.of hb h.fD⟩
theorem row_step (E:bH)(hE:E.ok)(g:Nat)(ih:∀ g',g'<=g->EI E g')(l aF:Nat)(st:aN)(r:Int × aN)(w:World)(h:run E.ah E.depth (g+1) (.row l aF) st=some r)(hp:PW E st w)(hn:r.2.aj.length+1<=1099511627776)(dO:l<=4/\aF<=E.depth) :
  Calls Tryz.prog 273 #[.pointer (some ⟨E.pb,0,none⟩),.int .i64 l,.int .i64 aF] w (eG E r w):=by
 have wV:=hE.2.2;rw[run] at h;obtain⟨a,h0,h⟩:=bS h;have n1:=aO (aW E.ah E.depth g _ _ _ h) hn;have HP:=ay (λw hp=>ih g (bI _) _ _ _ w h0 hp n1 dO);have IH:=ay ih;have H0:=ay h;have HN0:=ay hn;clear h h0 n1 ih hn;obtain⟨hl,dO⟩:=dO;go_enter Tryz.func273,Tryz.ntmps273;go_wp2_with (go_at_call 294;refine(HP.out w hp).mono ?_);rintro e w1 ⟨rfl,hp1,hk1⟩;go_wp2
 go_loopg [7] g (λk av wr=>ae9 E l aF r w g k av wr)
 case atStart=>exact⟨_,_,rfl,bI _,H0.out,hp1,hk1⟩
 case round =>
  obtain⟨a',s,rfl,hle,hr,hps,hks⟩:=hrel
  cases gk with
  | zero=>rw[run] at hr;cases hr
  | succ k =>
   rw[run] at hr
   by_cases hf:s.fE=0
   ·have HO:=ay (kU E s hf)
    by_cases hx:bG E.ah s (zL l)=true
    ·rw[bq ⟨hf,hx⟩] at hr
     have HX:=ay (λw hp v=>ZA E hE v _ s true hx (Kt l) w hp);obtain⟨b,h1,hr⟩:=bS hr
     have nb:b.2.aj.length+1<=1099511627776:=by
      by_cases l2:l=2
      ·rw[bq l2] at hr
       injection hr with hr
       subst hr;exact aO (aI _ _ _) HN0.out
      ·rw[aP l2] at hr
       exact aO ((aI _ _ _).trans (aW E.ah E.depth k _ _ _ hr)) HN0.out
     have n2:=aO (aW E.ah E.depth k _ _ _ h1) nb;have n1:=aO (aQ _ _) n2;have HL:=ay (λw hp=>cB E s w hp hE.1 hE.2.1 n1);have HQ:=ay (λw hp=>IH.out k (by omega) _ _ _ w h1 hp nb ⟨hl,dO⟩);have HN:=ay (λw hp=>jo E 10 [a',(aD E.ah s).1,b.1] 3 _ b.2 w hp rfl rfl (by omega) nb);clear h1 nb n1 n2 hf hx
     by_cases l2:l=2
     ·rw[bq l2] at hr
      injection hr with hr
      have HR:=ay hr
      have k2:((l:Int) == 2)=true:=by rw[beq_iff_eq];omega
      clear hr l2;go_wp2_with (go_at_call 96;refine(HO.out _ hps).mono ?_);rintro e v1 ⟨rfl,JO,Sm⟩;go_wp2_with (go_at_call 295;refine(zU l hl _).mono ?_);rintro e v2 ⟨sb,sn,rfl,hsv,mJ⟩;have ZB:=JO.later mJ;go_wp2_with (go_at_call 160;refine(HX.out _ ZB _ hsv).mono ?_);rintro e v3 ⟨rfl,Sn,ZC⟩;clear hsv;obtain⟨d0,_,_,_,_,_⟩:=Sn.cells;go_wp2_with (go_at_call 162;refine(HL.out _ Sn).mono ?_);rintro e v4 ⟨rfl,afa,afb⟩;clear d0;go_wp2_with (go_at_call 294;refine(HQ.out _ afa).mono ?_);rintro e v5 ⟨rfl,afc,OP⟩;go_wp2_with (go_at_call 101;refine(HN.out _ afc).mono ?_);rintro e v6 ⟨rfl,afd,afe⟩;go_wp2;go_ret;refine⟨?_,?_,((((((hks.trans Sm).trans (Kp.of mJ JO.fD)).trans ZC).trans afb).trans OP).trans afe)⟩
      ·rw[<- HR.out];rfl
      ·rw[<- HR.out];exact afd
     ·rw[aP l2] at hr
      have HR:=ay hr
      have k2:((l:Int) == 2)=false:=by rw[<- wT,beq_iff_eq];omega
      clear hr l2;go_wp2_with (go_at_call 96;refine(HO.out _ hps).mono ?_);rintro e v1 ⟨rfl,JO,Sm⟩;go_wp2_with (go_at_call 295;refine(zU l hl _).mono ?_);rintro e v2 ⟨sb,sn,rfl,hsv,mJ⟩;have ZB:=JO.later mJ;go_wp2_with (go_at_call 160;refine(HX.out _ ZB _ hsv).mono ?_);rintro e v3 ⟨rfl,Sn,ZC⟩;clear hsv;obtain⟨d0,_,_,_,_,_⟩:=Sn.cells;go_wp2_with (go_at_call 162;refine(HL.out _ Sn).mono ?_);rintro e v4 ⟨rfl,afa,afb⟩;clear d0;go_wp2_with (go_at_call 294;refine(HQ.out _ afa).mono ?_);rintro e v5 ⟨rfl,afc,OP⟩;go_wp2_with (go_at_call 101;refine(HN.out _ afc).mono ?_);rintro e v6 ⟨rfl,afd,afe⟩;go_wp2
      go_roundg k
      case measure=>omega
      case rel=>exact⟨_,_,rfl,by omega,HR.out,afd,((((((hks.trans Sm).trans (Kp.of mJ JO.fD)).trans ZC).trans afb).trans OP).trans afe)⟩
    ·rw[aP (λq=>hx q.2)] at hr
     injection hr with hr
     have HX:=ay (λw hp v=>ZA E hE v _ s false (eq_false_of_ne_true hx) (Kt l) w hp);have HR:=ay hr;clear hr hf hx;go_wp2_with (go_at_call 96;refine(HO.out _ hps).mono ?_);rintro e v1 ⟨rfl,JO,Sm⟩;go_wp2_with (go_at_call 295;refine(zU l hl _).mono ?_);rintro e v2 ⟨sb,sn,rfl,hsv,mJ⟩;have ZB:=JO.later mJ;go_wp2_with (go_at_call 160;refine(HX.out _ ZB _ hsv).mono ?_);rintro e v3 ⟨rfl,Sn,ZC⟩;clear hsv;go_wp2;go_ret;refine⟨?_,?_,(((hks.trans Sm).trans (Kp.of mJ JO.fD)).trans ZC)⟩
     ·rw[<- HR.out];rfl
     ·rw[<- HR.out];exact Sn
   ·rw[aP (λq=>hf q.1)] at hr
    injection hr with hr
    have HO:=ay (wM E s hf);have HR:=ay hr;clear hr hf;go_wp2_with (go_at_call 96;refine(HO.out _ hps).mono ?_);rintro e v1 ⟨rfl,JO,Sm⟩;go_wp2;go_ret;refine⟨?_,?_,hks.trans Sm⟩
    ·rw[<- HR.out];rfl
    ·rw[<- HR.out];exact JO
def PR (E:bH)(R:List Nat)(st:aN)(w:World):Prop:=PW { E with R:=R } st w
theorem PR.drop (h:PR E R st w)(hR:∀ r∈E.R,r∈R):PW E st w:=by
 obtain⟨h1,⟨b1,nv,l,b2,b3,b4,b5⟩,h3,h4,h5,h6⟩:=h;exact⟨h1,⟨b1,nv,l,b2,b3,b4,λp hp=>⟨(b5 p hp).1,λb off n cap hv hn hb=>(b5 p hp).2 b off n cap hv hn (hR b hb)⟩⟩,h3,h4,h5,λr hr=>h6 r (hR r hr)⟩
theorem PW.pr (h:PW E st w):PR E E.R st w:=h
def PR0 (E:bH)(R:List Nat)(st:aN)(w:World):Prop :=
 w.heap[E.pb]?=some (.cells #[.pointer (some ⟨E.bb,0,none⟩),.int .i64 E.depth,.bool st.aC,.int .i64 st.fE,.int .i64 st.fAt] 184 (0,0)) /\
  BW R E.B E.bb E.tv st.used st.aj w/\Rec E.B w E.tv 4 dW E.ah/\E.B<=E.pb/\st.used<=E.ah.length
theorem PR.less (h:PR E R st w):PR0 E R st w:=⟨h.1,h.2.1,h.2.2.1,h.2.2.2.1,h.2.2.2.2.1⟩
theorem PR0.full (h:PR0 E R st w)(hR:∀ r∈R,r<w.heap.size):PR E R st w:=⟨h.1,h.2.1,h.2.2.1,h.2.2.2.1,h.2.2.2.2,hR⟩
theorem PR0.more (h:PR0 E R st w)(g:Nat)(hg:w.heap.size<=g):PR0 E (g :: R) st w:=by
 obtain⟨h1,⟨b1,nv,l,b2,b3,b4,b5⟩,h3,h4,h5⟩:=h;refine⟨h1,⟨b1,nv,l,b2,b3,b4,λp hp=>⟨(b5 p hp).1,λb off n cap hv hn q=>?_⟩⟩,h3,h4,h5⟩
 rcases oo.1 q with q|q
 ·obtain⟨ao,jc,hv',_,hf⟩:=(b5 p hp).1
  rw[hv] at hv';simp only[Value.slice.injEq] at hv';obtain⟨ha,hl,_⟩:=hv';obtain⟨b',off',cs,fr,he,hh,_⟩:=hf (by omega);rw[<- ha] at he;simp only[Option.some.injEq,Addr.mk.injEq] at he;have:=(bU hh).1;omega
 ·exact(b5 p hp).2 b off n cap hv hn q
theorem PR.take (h:PR E R st w)(hb:Below w.heap.size w w')(g:Nat)(hg:w.heap.size<=g)(hg':g<w'.heap.size):PR E (g :: R) st w':=by
 obtain⟨h1,h2,h3,h4,h5⟩:=h.less.more g hg;have hB:=PW.fD (E:={ E with R:=R }) h;have hlt:=(bU h1).1;refine⟨?_,h2.later hb,h3.below (hb.mono hB),h4,h5,λr hr=>?_⟩
 ·rw[hb.block E.pb hlt];exact h1
 ·rcases oo.1 hr with rfl|hr
  ·exact hg'
  ·exact zI (h.2.2.2.2.2 r hr) hb.size
theorem PR0.grown {E:bH}{R:List Nat}{st:aN}{w w':World}(h:PR0 E R st w){base n:Nat}{v:Value}{xs:List Value}(ho:w.ownsRow base 3 1 v n xs)(hB:E.B<=base)(hv:∀ b,v.ownBlock=some b->b∈R)(hg:w.grownBy w' v.ownBlock):PR0 E R st w':=by
 obtain⟨h1,⟨b1,nv,l,b2,b3,b4,b5⟩,h3,h4,h5⟩:=h;have hlt:=(bU h1).1;have hbel:Below E.B w w':=(bY _ _).grown hg (by omega) (λk hk=>by have:=(ho.lt k hk).1;omega);refine⟨jf ho hg h1 (by decide),⟨b1,nv,l,jf ho hg b2 (by decide),b3,⟨b4.1,?_⟩,λp hp=>?_⟩,h3.below hbel,h4,h5⟩
 ·rcases b4.2 with hn|⟨g,cap,cur,hv',hg',hh,hr⟩
  ·exact .inl hn
  ·exact .inr ⟨g,cap,cur,hv',hg',jf ho hg hh (by decide),hr⟩
 ·refine⟨?_,(b5 p hp).2⟩
  obtain⟨ao,cap,hv',hc,hf⟩:=(b5 p hp).1;refine⟨ao,cap,hv',hc,λh0=>?_⟩;obtain⟨b,off,cs,fr,ha,hh,hj⟩:=hf h0;refine⟨b,off,cs,fr,ha,?_,hj⟩;subst ha;rw[hg.block b (bU hh).1]
  ·exact hh
  ·intro q
   have hout:=(b5 p hp).2;rw[hv'] at hout;exact hout b off _ cap rfl h0 (hv b q.symm)
theorem PR.append (h:PR E R st w)(ho:w.ownsRow base 3 1 v n xs)(hB:E.B<=base)(hv:∀ b,v.ownBlock=some b->b∈R)
  (hg:w.grownBy w' v.ownBlock) (hor:v.ownBlock=some g\/g=H) (hH:w.heap.size=H) (hlt:g<w'.heap.size) :
  ∃ R',(∀ r∈R,r∈R')/\g∈R'/\PR E R' st w':=by
 have hsz:w.heap.size<=w'.heap.size:=((bY 0 w).grown hg (mD _) (λk _=>mD _)).size;have hb6:=h.2.2.2.2.2
 rcases hor with hor|rfl
 ·exact⟨R,λr hr=>hr,hv _ hor,(h.less.grown ho hB hv hg).full λr hr=>zI (hb6 r hr) hsz⟩
 ·refine⟨g :: R,λr hr=>xu _ hr,xq,((h.less.more g (by omega)).grown ho hB (λb hb=>xu _ (hv b hb)) hg).full λr hr=>?_⟩
  rcases oo.1 hr with rfl|hr
  ·exact hlt
  ·exact zI (hb6 r hr) hsz
theorem iK (h:w.ownsRow base 3 1 v n xs)(hk:Kp B w w'):w'.ownsRow base 3 1 v n xs:=by
 refine⟨h.1,?_⟩
 rcases h.2 with hn|⟨g,cap,cur,hv,hg,hh,hr⟩
 ·exact .inl hn
 ·exact .inr ⟨g,cap,cur,hv,hg,hk.2 _ _ _ _ hh (by decide) (by decide) (by decide),hr⟩
theorem Kp.grown {B base n:Nat}{w0 w w':World}{v:Value}{xs:List Value}(hk:Kp B w0 w)(ho:w.ownsRow base 3 1 v n xs)(hb:w0.heap.size<=base)(hB:B<=w0.heap.size)(hg:w.grownBy w' v.ownBlock):Kp B w0 w':=by
 refine⟨hk.1.grown hg (by have:=hk.size;omega) (λk hkk=>by have:=(ho.lt k hkk).1;omega),λk cs T fr h0 h1 h2 h3=>?_⟩;have hkk:=(bU h0).1;rw[hg.block k (by have:=hk.size;omega) (λq=>by have:=(ho.lt k q.symm).1;omega)];exact hk.2 k cs T fr h0 h1 h2 h3
def ZE (E:bH)(l:List Int × aN)(w:World)(e:Ending)(w':World):Prop:=∃ v,e=.returned v/\fA w' v l.1/\(l.1=[]->v=.slice none 0 0)/\PW E l.2 w'/\Kp E.B w w'
def aff (E:bH)(one:aN->Option (Int × aN))(res:List Int × aN)(w0:World)(kv nv:Value)(wr:World):Prop :=
 ∃ (r m:Nat) (aA:List Int) (s:aN) (R:List Nat),nv=.int .i64 (m:Nat)/\m+r=9/\aA.length+2 * r<=16/\bD E.ah one r aA s=some res /\
  wr.ownsRow w0.heap.size 3 1 kv aA.length (aA.map (Value.int .i64))/\(∀ b,kv.ownBlock=some b->b∈R)/\(∀ r∈E.R,r∈R)/\(aA=[]->kv=.slice none 0 0)/\PR E R s wr/\Kp E.B w0 wr
theorem PR.fD {E:bH}{R:List Nat}{st:aN}{w:World}(h:PR E R st w):E.B<=w.heap.size:=PW.fD (E:={ E with R:=R }) h
theorem nQ {w0:World}{kv:Value}{aA:List Int}{res:List Int × aN}(ho:w.ownsRow w0.heap.size 3 1 kv n (aA.map (Value.int .i64)))(hR:∀ r∈E.R,r∈R)(hp:PR E R s w)(hk:Kp E.B w0 w)(h:(aA,s)=res)(h0:aA=[]->kv=.slice none 0 0):ZE E res w0 (.returned kv) w:=by
 subst h;exact⟨kv,rfl,fA.fZ ho,h0,hp.drop hR,hk⟩
theorem qE (h:w.ownsRow base 3 1 v n xs):∃ ao cap,v=.slice ao n cap:=by
 rcases h.2 with ⟨hv,hn0⟩|⟨g,cap,cur,hv,_⟩
 ·exact⟨none,0,by rw[hv,hn0]⟩
 ·exact⟨_,cap,hv⟩
theorem Ku (E:bH)(hE:E.ok)(one:aN->Option (Int × aN))(cp cn:Nat)(st:aN)(res:List Int × aN)(w:World)(h:jH E.ah one st=some res)(hp:PW E st w)(hn:res.2.aj.length+1<=1099511627776)
  (hext:∀ s k,one s=some k->dR s k.2)
  (hone:∀ (R:List Nat) (s:aN) (k:Int × aN) (w':World),one s=some k->PR E R s w'->Kp E.B w w'->k.2.aj.length+1<=1099511627776 ->
   Calls Tryz.prog 322 #[.pointer (some ⟨cp,0,none⟩),.pointer (some ⟨cn,0,none⟩)] w' (eG { E with R:=R } k w')) :
  Calls Tryz.prog 164 #[.pointer (some ⟨E.pb,0,none⟩),.func (.func 322) #[] #[.pointer (some ⟨cp,0,none⟩),.pointer (some ⟨cn,0,none⟩)]] w (ZE E res w):=by
 have wV:=hE.2.2;obtain⟨i0,hi,hz0,hz1,hz2⟩:=info_parts Tryz.oC;unfold jH at h
 by_cases hx:bG E.ah st [[41]]=true
 ·rw[bq hx] at h
  injection h with h;subst h
  have HX:=ay (eD E hE ⟨#[41]⟩ st true hx);clear hx hone hext;go_enter Tryz.func164,Tryz.ntmps164;go_wp2_with (go_at_call 160;refine(HX.out w hp).mono ?_);rintro e w1 ⟨rfl,hp1,hk1⟩;go_wp2;go_ret;exact⟨_,rfl,⟨none,0,rfl,bI _,λq=>absurd q (by simp)⟩,λ_=>rfl,hp1,hk1⟩
 ·rw[aP hx] at h
  have HX:=ay (eD E hE ⟨#[41]⟩ st false (eq_false_of_ne_true hx));have H0:=ay h;have F6:=ay hone;have JQ:=ay hext;have HN:=ay hn;have HE:=ay hE;clear hx hone hext h hn;go_enter Tryz.func164,Tryz.ntmps164;go_wp2_with (go_at_call 160;refine(HX.out w hp).mono ?_);rintro e w1 ⟨rfl,hp1,hk1⟩;go_wp2
  go_loopw [5,6] (λkv nv wr=>aff E one res w kv nv wr) (λ_ nv _=>10 - (intOf nv).toNat)
  case atStart=>exact⟨8,1,[],st,E.R,rfl,rfl,by simp,H0.out,World.ownsRow_nil _ _ _ _,λ_ q=>by simp[Value.ownBlock] at q,λ_ q=>q,λ_=>rfl,hp1,hk1⟩
  case round =>
   obtain⟨r,m,aA,s,R,rfl,hm,hkl,hl,hown,hR,hER,hnil,hps,hks⟩:=hrel;obtain⟨ao,cap,rfl⟩:=qE hown;have zl:=ay hnil;clear hnil;have hBw:E.B<=w.heap.size:=hp.fD
   by_cases hf:s.fE=0
   ·have HO:=ay (kU { E with R:=R } s hf)
    cases r with
    | zero =>
     obtain rfl:m=9:=by omega
     rw[bD,bq hf] at hl
     injection hl with hl
     have HF:=ay (λw hp=>nO { E with R:=R } HE.out 15 s w hp);have HL:=ay hl;clear hl hf;go_wp2_with (go_at_call 96;refine(HO.out _ hps).mono ?_);rintro e w2 ⟨rfl,hp2,hk2⟩;go_wp2_with (go_at_call 161;refine(HF.out _ hp2).mono ?_);rintro e w3 ⟨rfl,hp3,fM⟩;have lM:=iK (iK hown hk2) fM;go_wp2;go_ret;exact nQ lM hER hp3 ((hks.trans hk2).trans fM) HL.out zl.out
    | succ r =>
     rw[bD,aP (by simp[hf])] at hl;obtain⟨k,h1,hl⟩:=bS hl;have d8:decide (8<(m:Int))=false:=fu (by omega);have d8':decide (8<m)=false:=fu (by omega)
     have hnk:k.2.aj.length+1<=1099511627776:=by
      split at hl
      ·exact aO ((aQ _ _).trans (lZ _ one JQ.out _ _ _ _ hl)) HN.out
      ·injection hl with hl;rw[<- hl] at HN;exact HN.out
     have HK:=ay (λw' hp hk=>F6.out R s k w' h1 hp hk hnk);have HL:=ay hl;clear hl h1 hf;go_wp2_with (go_at_call 96;refine(HO.out _ hps).mono ?_);rintro e w2 ⟨rfl,hp2,hk2⟩;go_wp2_with (go_at_call 322;refine(HK.out _ hp2 (hks.trans hk2)).mono ?_);rintro e w3 ⟨rfl,hp3,fM⟩;have Sq:PR E R k.2 w3:=hp3;clear hp3;have lM:=iK (iK hown hk2) fM;have zT:PR E R k.2 (w3.alloc (.cells #[.int .i64 k.1] 3)):=PW.later Sq (aB w3 _);have hnw:=aZ w3 (.cells #[.int .i64 k.1] 3);have vU:Kp E.B w (w3.alloc (.cells #[.int .i64 k.1] 3)):=((hks.trans hk2).trans fM).trans (Kp.of (aB w3 _) Sq.fD);have oD:=lM.alloc (.cells #[.int .i64 k.1] 3);have afg:w.heap.size<=w3.heap.size:=((hks.trans hk2).trans fM).size;go_wp2_with (at_builtin;refine wpList_append_lies _ rfl _ _ 127 rfl w.heap.size 3 i0 (.int .i64 0) 1 8 Tryz.underlying127 hi hz0 hz1 hz2 rfl (by decide) _ _ _ rfl oD ⟨w3.heap.size,0,none⟩ 1 1 [.int .i64 k.1] rfl rfl ?c1 ?c2 ?c3 ?c4 ?c5 ?c6 _ rfl ?_)
     case c1=>exact wS (cs:=#[.int .i64 k.1]) (t:=3) (fr:=(0,0)) hnw
     case c2=>simp[Value.oneCell']
     case c3=>omega
     case c4=>unfold maxLen;omega
     case c5=>omega
     case c6=>simp;omega
     intro g cap4 w4 Bg zV ZG ZH;obtain⟨R4,hR4,hg4,rJ⟩:=zT.append oD hBw hR zV ZG (by simp) ZH;have hk4:=vU.grown oD (bI _) hBw zV
     have vV:w4.ownsRow w.heap.size 3 1 (.slice (some ⟨g,0,none⟩) (aA.length+1) cap4) (aA.length+1) ((aA++[k.1]).map (Value.int .i64)):=by rw[zJ];exact Bg
     have Mt:∀ r∈E.R,r∈R4:=λr hr=>hR4 r (hER r hr)
     clear zT hnw vU oD zV ZG ZH lM Bg hk2 fM hp2 Sq hown hps hks HO HK HX H0 F6 afg hR4
     by_cases Mh:k.2.fE=0
     ·have ZI:=ay (kU { E with R:=R4 } k.2 Mh)
      by_cases hx4:bG E.ah k.2 [[44]]=true
      ·have hl:=HL.out
       rw[bq ⟨Mh,hx4⟩] at hl;have HX4:=ay (eD { E with R:=R4 } HE.out ⟨#[44]⟩ k.2 true hx4);have HLF:=ay (λw hp=>cB { E with R:=R4 } k.2 w hp HE.out.1 HE.out.2.1 hnk);have HL2:=ay hl;clear hl HL Mh hx4;go_wp2_with (go_at_call 96;refine(ZI.out _ rJ).mono ?_);rintro e w5 ⟨rfl,vT,lu⟩;go_wp2_with (go_at_call 160;refine(HX4.out _ vT).mono ?_);rintro e w6 ⟨rfl,Gc,qY⟩;obtain⟨d0,_,_,_,_,_⟩:=Gc.cells;go_wp2_with (go_at_call 162;refine(HLF.out _ Gc).mono ?_);rintro e w7 ⟨rfl,JM,zk⟩;clear d0;have Sr:PR E R4 (aD E.ah k.2).2 w7:=JM;clear JM;have OQ:=iK (iK (iK vV lu) qY) zk;have Sv:=((hk4.trans lu).trans qY).trans zk;have zT:PR E R4 (aD E.ah k.2).2 (w7.alloc (.cells #[.int .i64 (aD E.ah k.2).1] 3)):=PW.later Sr (aB w7 _);have hnw:=aZ w7 (.cells #[.int .i64 (aD E.ah k.2).1] 3);have vU:Kp E.B w (w7.alloc (.cells #[.int .i64 (aD E.ah k.2).1] 3)):=Sv.trans (Kp.of (aB w7 _) Sr.fD);have oD:=OQ.alloc (.cells #[.int .i64 (aD E.ah k.2).1] 3);have agK:w.heap.size<=w7.heap.size:=Sv.size
       have hv4:∀ b,(Value.slice (some ⟨g,0,none⟩) (aA.length+1) cap4).ownBlock=some b->b∈R4:=λb hb=>by
        simp only[Value.ownBlock,Option.some.injEq] at hb;subst hb;exact hg4
       go_wp2_with (at_builtin;refine wpList_append_lies _ rfl _ _ 127 rfl w.heap.size 3 i0 (.int .i64 0) 1 8 Tryz.underlying127 hi hz0 hz1 hz2 rfl (by decide) _ _ _ rfl oD ⟨w7.heap.size,0,none⟩ 1 1 [.int .i64 (aD E.ah k.2).1] rfl rfl ?c1 ?c2 ?c3 ?c4 ?c5 ?c6 _ rfl ?_)
       case c1=>exact wS (cs:=#[.int .i64 (aD E.ah k.2).1]) (t:=3) (fr:=(0,0)) hnw
       case c2=>simp[Value.oneCell']
       case c3=>omega
       case c4=>unfold maxLen;omega
       case c5=>omega
       case c6=>simp;omega
       intro g8 Sw w8 xI pR Gf zW;obtain⟨R8,hR8,hg8,WJ⟩:=zT.append oD hBw hv4 pR Gf (by simp) zW;have EJ:=vU.grown oD (bI _) hBw pR
       have Sy:w8.ownsRow w.heap.size 3 1 (.slice (some ⟨g8,0,none⟩) (aA.length+1+1) Sw) (aA++[k.1,(aD E.ah k.2).1]).length ((aA++[k.1,(aD E.ah k.2).1]).map (Value.int .i64)):=by
        rw[zJ,bQ];exact xI
       have hv8:∀ b,(Value.slice (some ⟨g8,0,none⟩) (aA.length+1+1) Sw).ownBlock=some b->b∈R8:=λb hb=>by
        simp only[Value.ownBlock,Option.some.injEq] at hb;subst hb;exact hg8
       have afh:∀ r∈E.R,r∈R8:=λr hr=>hR8 r (Mt r hr)
       clear zT hnw vU oD pR Gf zW OQ xI Sv vV hk4 lu qY zk rJ vT Gc Sr ZI HX4 HLF hR8 hv4 Mt hg4;go_wp2
       go_roundw
       case rel=>exact⟨r,m+1,_,_,R8,by go_num,by omega,by simp;omega,HL2.out,Sy,hv8,afh,(λq=>by simp at q),WJ,EJ⟩
       case measure=>simp[intOf];omega
      ·have hl:=HL.out
       rw[aP (λq=>hx4 q.2)] at hl
       injection hl with hl
       have HX4:=ay (eD { E with R:=R4 } HE.out ⟨#[44]⟩ k.2 false (eq_false_of_ne_true hx4));have HL2:=ay hl;clear hl HL Mh hx4;go_wp2_with (go_at_call 96;refine(ZI.out _ rJ).mono ?_);rintro e w5 ⟨rfl,vT,lu⟩;go_wp2_with (go_at_call 160;refine(HX4.out _ vT).mono ?_);rintro e w6 ⟨rfl,Gc,qY⟩;have hown6:=iK (iK vV lu) qY;go_wp2;go_ret;exact nQ hown6 Mt Gc ((hk4.trans lu).trans qY) HL2.out (λq=>by simp at q)
     ·have hl:=HL.out
      rw[aP (λq=>Mh q.1)] at hl
      injection hl with hl
      have ZI:=ay (wM { E with R:=R4 } k.2 Mh);have HL2:=ay hl;clear hl HL Mh;go_wp2_with (go_at_call 96;refine(ZI.out _ rJ).mono ?_);rintro e w5 ⟨rfl,vT,lu⟩;have iW:=iK vV lu;go_wp2;go_ret;exact nQ iW Mt vT (hk4.trans lu) HL2.out (λq=>by simp at q)
   ·have HO:=ay (wM { E with R:=R } s hf)
    have hl':(aA,s)=res:=by
     cases r with
     | zero=>rw[bD,aP hf] at hl;injection hl
     | succ r=>rw[bD,bq hf] at hl;injection hl
    have HL:=ay hl';clear hl hl' hf;go_wp2_with (go_at_call 96;refine(HO.out _ hps).mono ?_);rintro e w2 ⟨rfl,hp2,hk2⟩;have hown2:=iK hown hk2;go_wp2;go_ret;exact nQ hown2 hER hp2 (hks.trans hk2) HL.out zl.out
theorem Kv (E:bH)(g aF cp cn:Nat)(ih:EI E g)(st:aN)(r:Int × aN)(w:World)(h:run E.ah E.depth g (.expr (aF+1)) st=some r)(hp:PW E st w)(hn:r.2.aj.length+1<=1099511627776)(dO:aF<=E.depth)(wV:E.depth<=1000)
  (c1:w.cell? ⟨cp,0,none⟩=some (.pointer (some ⟨E.pb,0,none⟩))) (c2:w.cell? ⟨cn,0,none⟩=some (.int .i64 aF)) :
  Calls Tryz.prog 322 #[.pointer (some ⟨cp,0,none⟩),.pointer (some ⟨cn,0,none⟩)] w (eG E r w):=by
 have HE:=ay (ih _ _ _ w h hp hn (by show aF+1<=_;omega));clear h hp hn ih;go_enter Tryz.func322,Tryz.ntmps322;go_wp2_with (go_at_call 167;refine HE.out.mono ?_);rintro e w1 ⟨rfl,hp1,hk1⟩;go_wp2;go_ret;exact⟨rfl,hp1,hk1⟩
theorem adC (w:World)(base:Nat)(x:Int)(hb:base<=w.heap.size):(w.alloc (.cells #[.int .i64 x] 3)).ownsRow base 3 1 (.slice (some ⟨w.heap.size,0,none⟩) 1 1) 1 ([x].map (Value.int .i64)) :=
 ⟨rfl,.inr ⟨w.heap.size,1,_,rfl,hb,aZ _ _,bI _,by unfold maxLen;omega,rfl,rfl⟩⟩
def jS (E:bH)(aF:Nat)(w:World):World:=(w.alloc (.cells #[.pointer (some ⟨E.pb,0,none⟩)] 123)).alloc (.cells #[.int .i64 aF] 3)
theorem tN (E:bH)(aF:Nat)(w:World):Below w.heap.size w (jS E aF w):=((bY _ _).alloc (bI _) _).alloc (by simp) _
theorem jq (E:bH)(aF:Nat)(hk:Kp B (jS E aF w) wr):wr.cell? ⟨w.heap.size,0,none⟩=some (.pointer (some ⟨E.pb,0,none⟩)):=by
 have h1:(jS E aF w).heap[w.heap.size]?=some (.cells #[.pointer (some ⟨E.pb,0,none⟩)] 123 (0,0)):=(iB _ _ _ (by simp)).trans (aZ _ _);rw[bg (hk.2 _ _ _ _ h1 (by decide) (by decide) (by decide))];rfl
theorem U9 (E:bH)(aF:Nat)(hk:Kp B (jS E aF w) wr):wr.cell? ⟨w.heap.size+1,0,none⟩=some (.int .i64 aF):=by
 have h1:(jS E aF w).heap[w.heap.size+1]?=some (.cells #[.int .i64 aF] 3 (0,0)):=by
  have:=aZ (w.alloc (.cells #[.pointer (some ⟨E.pb,0,none⟩)] 123)) (.cells #[.int .i64 aF] 3);rw[show (w.alloc (.cells #[.pointer (some ⟨E.pb,0,none⟩)] 123)).heap.size=w.heap.size+1 by simp] at this;exact this
 rw[bg (hk.2 _ _ _ _ h1 (by decide) (by decide) (by decide))];rfl
def jT (E:bH)(W0:World)(R:List Nat)(v:Value)(ks:List Int)(s:aN)(w:World):Prop :=
 w.ownsRow W0.heap.size 3 1 v ks.length (ks.map (Value.int .i64))/\(∀ b,v.ownBlock=some b->b∈R)/\(∀ r∈E.R,r∈R)/\PR E R s w/\Kp E.B W0 w
theorem jT.call {s':aN}(h:jT E W0 R v ks s w)(hp:PW { E with R:=R } s' w')(hk:Kp E.B w w'):jT E W0 R v ks s' w' :=
 ⟨iK h.1 hk,h.2.1,h.2.2.1,hp,h.2.2.2.2.trans hk⟩
theorem jT.lit (h:jT E W0 R v ks s w)(o:Obj):jT E W0 R v ks s (w.alloc o) :=
 ⟨h.1.alloc o,h.2.1,h.2.2.1,PW.later h.2.2.2.1 (aB w o),h.2.2.2.2.trans (Kp.of (aB w o) h.2.2.2.1.fD)⟩
theorem jT.app {news:List Int}{wA:World}{n' cap:Nat}(h:jT E W0 R v ks s wA)(hB:E.B<=W0.heap.size)(hn:(ks++news).length=n)
  (ho:w'.ownsRow W0.heap.size 3 1 (.slice (some ⟨g,0,none⟩) n' cap) n (ks.map (Value.int .i64)++news.map (Value.int .i64))) (hg:wA.grownBy w' v.ownBlock) (hat:v.ownBlock=some g\/g=H) (hH:wA.heap.size=H) (hlt:g<w'.heap.size) :
  ∃ R',jT E W0 R' (.slice (some ⟨g,0,none⟩) n' cap) (ks++news) s w':=by
 obtain⟨h1,h2,h3,h4,h5⟩:=h;obtain⟨R',r1,r2,r3⟩:=h4.append h1 hB h2 hg hat hH hlt;refine⟨R',?_,λb hb=>?_,λr hr=>r1 r (h3 r hr),r3,h5.grown h1 (bI _) hB hg⟩
 ·rw[zJ,hn];exact ho
 ·simp only[Value.ownBlock,Option.some.injEq] at hb;subst hb;exact r2
theorem jT.start (x:Int)(hp:PW E s w)(hk:Kp E.B W0 w):jT E W0 (w.heap.size :: E.R) (.slice (some ⟨w.heap.size,0,none⟩) 1 1) [x] s (w.alloc (.cells #[.int .i64 x] 3)) :=
 ⟨adC w _ x hk.size,λb hb=>by simp only[Value.ownBlock,Option.some.injEq] at hb;subst hb;exact xq,λr hr=>xu _ hr,PR.take hp.pr (aB w _) _ (bI _) (by simp),hk.trans (Kp.of (aB w _) hp.fD)⟩
theorem jT.node (h:jT E W0 R v ks s w):fA w v ks:=fA.fZ h.1
theorem Bn (ah:List Tok)(one:aN->Option (Int × aN)):∀ (r:Nat) (aA:List Int) (st:aN) (l:List Int × aN),bD ah one r aA st=some l->l.1.length<=aA.length+2 * r
 | 0,aA,st,l,h=>by rw[bD] at h;injection h with h;subst h;simp
 | r+1,aA,st,l,h=>by
  rw[bD] at h
  split at h
  ·injection h with h;subst h;simp
  ·obtain⟨k,h1,h⟩:=bS h
   split at h
   ·have:=Bn ah one r _ _ _ h
    simp only[bQ,dN,iF] at this;omega
   ·injection h with h;subst h;simp;omega
theorem Kw (ah:List Tok)(one:aN->Option (Int × aN))(st:aN)(l:List Int × aN)(h:jH ah one st=some l):l.1.length<=16:=by
 unfold jH at h
 split at h
 ·injection h with h;subst h;simp
 ·simpa using Bn ah one 8 [] st l h
theorem SA (E:bH)(hE:E.ok)(g:Nat)(aF:Nat)(st:aN)(r:Int × aN)(w:World)(h:run E.ah E.depth (g+1) (.name aF) st=some r)(hp:PW E st w)(hn:r.2.aj.length+1<=1099511627776)(ae8:aF<=E.depth)
  (hcase:(aD E.ah st).2.aC=true\/bG E.ah (aD E.ah st).2 [[46],[40]]=false) :
  Calls Tryz.prog 319 #[.pointer (some ⟨E.pb,0,none⟩),.int .i64 aF] w (eG E r w):=by
 have wV:=hE.2.2;obtain⟨i0,hi,hz0,hz1,hz2⟩:=info_parts Tryz.oC;rw[run] at h;have hA:PW E st (jS E aF w):=hp.later (tN E aF w);have vU:Kp E.B w (jS E aF w):=Kp.of (tN E aF w) hp.fD
 ·rw[bq hcase] at h
  injection h with h;subst h
  have n2:=aO (aI _ _ _) hn;have n1:=aO (aQ _ _) n2;have HL:=ay (λw hp=>cB E st w hp hE.1 hE.2.1 n1);have HN:=ay (λw hp v hv=>l7 E 14 v [(aD E.ah st).1] (aD E.ah st).2 w hp hv (by simp) n2);clear n1 n2 hn
  by_cases hcl:(aD E.ah st).2.aC=true
  ·have hc:=ay hcl
   clear hcase hcl;have hA':PW E st ((w.alloc (.cells #[.pointer (some ⟨E.pb,0,none⟩)] 123)).alloc (.cells #[.int .i64 aF] 3)):=hA;obtain⟨d0,_,_,_,_,_⟩:=hA'.cells;go_enter Tryz.func319,Tryz.ntmps319;go_wp2_with (go_at_call 162;refine(HL.out _ hA').mono ?_);rintro e w1 ⟨rfl,hp1,Gg⟩;have hk1:Kp E.B (jS E aF w) w1:=Gg;clear d0 Gg hA';have hpB:=hp1.later (aB w1 (.cells #[.int .i64 (aD E.ah st).1] 3));have hkB:=hk1.trans (Kp.of (aB w1 (.cells #[.int .i64 (aD E.ah st).1] 3)) hp1.fD);have p1:=jq E aF hkB;obtain⟨_,_,c1,_,_,_⟩:=hpB.cells;rw[hc.out] at c1;have hiB:=Ga w1 [(aD E.ah st).1];go_wp2_with (go_at_call 101;refine(HN.out _ hpB _ hiB).mono ?_);rintro e w2 ⟨rfl,hp2,hk2⟩;go_wp2;go_ret;exact⟨rfl,hp2,(vU.trans hkB).trans hk2⟩
  ·have hc:=ay (eq_false_of_ne_true hcl)
   have HX:=ay (λw hp=>xG E hE ⟨#[46]⟩ ⟨#[40]⟩ (aD E.ah st).2 false (hcase.resolve_left hcl) w hp);clear hcase hcl;have hA':PW E st ((w.alloc (.cells #[.pointer (some ⟨E.pb,0,none⟩)] 123)).alloc (.cells #[.int .i64 aF] 3)):=hA;obtain⟨d0,_,_,_,_,_⟩:=hA'.cells;go_enter Tryz.func319,Tryz.ntmps319;go_wp2_with (go_at_call 162;refine(HL.out _ hA').mono ?_);rintro e w1 ⟨rfl,hp1,Gg⟩;have hk1:Kp E.B (jS E aF w) w1:=Gg;clear d0 Gg hA';have hpB:=hp1.later (aB w1 (.cells #[.int .i64 (aD E.ah st).1] 3));have hkB:=hk1.trans (Kp.of (aB w1 (.cells #[.int .i64 (aD E.ah st).1] 3)) hp1.fD);have p1:=jq E aF hkB;obtain⟨_,_,c1,_,_,_⟩:=hpB.cells;rw[hc.out] at c1;have hiB:=Ga w1 [(aD E.ah st).1];have ZJ:=HX.out _ hpB;rw[show (w1.alloc (.cells #[.int .i64 (aD E.ah st).1] 3)).heap.size=w1.heap.size+1 by simp] at ZJ;have HXB:=ay ZJ;clear ZJ;go_wp2_with (go_at_call 160;refine HXB.out.mono ?_);rintro e w2 ⟨rfl,hp2,hk2⟩;have p2:=jq E aF (hkB.trans hk2);clear p1 c1;go_wp2_with (go_at_call 101;refine(HN.out _ hp2 _ (hiB.kept hk2)).mono ?_);rintro e w3 ⟨rfl,hp3,fM⟩;go_wp2;go_ret;exact⟨rfl,hp3,((vU.trans hkB).trans hk2).trans fM⟩
