/- Walks and plain laws: ParseW7, ParseW8, ParseW9. -/
import Derived.Test.YtknicmmigbhpcaaGreatDoorB08
set_option maxHeartbeats 16000000
set_option maxRecDepth 100000
set_option linter.unusedVariables false
set_option linter.unusedSimpArgs false
namespace Go.Proofs.YtknicmmigbhpcaaGreatDoor
open Go.RowKit
theorem QV (E:aT)(hE:E.ok)(g:Nat)(ih:Au E g)(nest:Nat)(st:aB)(r:Int × aB)(w:World)(h:run E.toks E.depth (g+1) (.expr nest) st=some r)(hw:PW E st w)(hn:r.2.nodes.length+1≤1099511627776)(aaG:nest≤E.depth+1) :
  Calls Tryz.prog 172 #[.pointer (some ⟨E.pb,0,none⟩),.int .i64 nest] w (dx E r w):=by
 have rX:=hE.2.2;have HD:=ah (BG E hE nest st w hw)
 have hnd:(aM E.toks E.depth nest st).fE=0→nest≤E.depth:=fun q=>by
  unfold aM at q
  split at q
  ·exact(kM (by decide) _ q).elim
  ·omega
 rw[run] at h;generalize aM E.toks E.depth nest st=s at HD h hnd
 by_cases hf:s.fE=0
 ·rw[if_neg (by simp[hf])] at h
  have Ur:=hnd hf;have hok:okB s=true:=decide_eq_true hf;have HD':Hid (Calls Tryz.prog 233 #[.pointer (some ⟨E.pb,0,none⟩),.int .i64 nest] w (qh E s false w)):=ah (HD.out.mono fun e w' ⟨he,hp⟩=>⟨by rw[he,hok];rfl,hp⟩);clear HD hnd hok
  by_cases hcl:s.clause=true
  ·rw[if_pos hcl] at h
   have HI:=ah (fun w' hp=>ih _ _ _ w' h hp hn Ur);clear h;go_enter Tryz.func172,Tryz.ntmps172;go_wp2_with (go_at_call 233;refine HD'.out.mono ?_);rintro e w1 ⟨rfl,hp1,hk1⟩;obtain⟨_,_,c2,_,_,_⟩:=hp1.cells;rw[hcl] at c2;clear hcl;go_wp2_with (go_at_call 234;refine(HI.out _ hp1).mono ?_);rintro e w2 ⟨rfl,hp2,hk2⟩;go_wp2;go_ret;exact⟨rfl,hp2,hk1.trans hk2⟩
  ·rw[if_neg hcl] at h
   have hcl':s.clause=false:=by simpa using hcl
   clear hcl
   have hHI:∀ (t:Task) (st:aB) (r:Int × aB),run E.toks E.depth g t st=some r→r.2.nodes.length+1≤1099511627776→vF E t→∀ w,PW E st w→lT E r w t:=fun t st r h1 h2 h3 w h4=>ih t st r w h1 h4 h2 h3
   have ex:=aO E.toks E.depth g
   have fin:∀ a b:aB,bZ a b→b.nodes.length+1≤1099511627776→a.nodes.length+1≤1099511627776:=fun a b h1 h2=>by have:=h1.2.2.2;omega
   have N1:=ah (fun w hp=>sP E hE ⟨#[108,101,116]⟩ s w hp);have N2:=ah (fun w hp=>sP E hE ⟨#[105,102]⟩ s w hp);have N3:=ah (fun w hp=>sP E hE ⟨#[97,115,115,101,114,116]⟩ s w hp)
   by_cases hl:aS E.toks s [abQ]=true
   ·rw[if_pos hl] at h
    have e1:aS E.toks s [(⟨#[108,101,116]⟩:ByteArray).data.toList]=true:=hl;obtain⟨d,h1,h⟩:=bH h;obtain⟨f,h2,h⟩:=bH h
    injection h with h;subst h
    have n6:=fin _ _ (aD _ _ _) hn;have n5:=fin _ _ (ex _ _ _ h2) n6;have n4:=fin _ _ (aF _ _ _) n5;have n3:=fin _ _ (ex _ _ _ h1) n4;have n2:=fin _ _ (aF _ _ _) n3;have n1:=fin _ _ (dO _ _ _) n2;have n0:=fin _ _ (aJ _ _) n1;have C1:=ah (fun w hp=>bA E s w hp hE.1 hE.2.1 n0);have C2:=ah (fun w hp=>qg E hE 1 (ay E.toks s).2 w hp n1);have C3:=ah (fun w hp=>dA E hE ⟨#[61]⟩ (aP E.toks 1 (ay E.toks s).2).2 w hp n2);have C4:=ah (hHI _ _ _ h1 n4 (by show nest+1≤_;omega));have C5:=ah (fun w hp=>dA E hE ⟨#[105,110]⟩ d.2 w hp n4);have C6:=ah (hHI _ _ _ h2 n6 (by show nest+1≤_;omega));have C7:=ah (fun w hp=>gV E 7 [(ay E.toks s).1,(aP E.toks 1 (ay E.toks s).2).1,(aA E.toks [[61]] (aP E.toks 1 (ay E.toks s).2).2).1,d.1,(aA E.toks [Tq] d.2).1,f.1] 6 _ f.2 w hp rfl rfl (by omega) n6);have E1:=ah e1;clear h1 h2 hl e1 n0 n1 n2 n3 n4 n5 n6 hHI ex fin ih hn;go_enter Tryz.func172,Tryz.ntmps172;go_wp2_with (go_at_call 233;refine HD'.out.mono ?_);rintro e w1 ⟨rfl,hp1,hk1⟩;obtain⟨_,_,c2,_,_,_⟩:=hp1.cells;rw[hcl'] at c2;go_wp2_with (go_at_call 165;refine(N1.out w1 hp1).mono ?_);rintro e w2 ⟨rfl,hp2,hk2⟩;rw[E1.out];obtain⟨d0,_,_,_,_,_⟩:=hp2.cells;clear c2;go_wp2_with (go_at_call 167;refine(C1.out w2 hp2).mono ?_);rintro e w3 ⟨rfl,hp3,hk3⟩;go_wp2_with (go_at_call 107;refine(C2.out w3 hp3).mono ?_);rintro e w4 ⟨rfl,nA,hk4⟩;go_wp2_with (go_at_call 168;refine(C3.out w4 nA).mono ?_);rintro e w5 ⟨rfl,qY,hk5⟩;go_wp2_with (go_at_call 172;refine(C4.out w5 qY).mono ?_);rintro e w6 ⟨rfl,BL,yG⟩;go_wp2_with (go_at_call 168;refine(C5.out w6 BL).mono ?_);rintro e w7 ⟨rfl,Ew,AQ⟩;go_wp2_with (go_at_call 172;refine(C6.out w7 Ew).mono ?_);rintro e w8 ⟨rfl,QW,Us⟩;go_wp2_with (go_at_call 106;refine(C7.out w8 QW).mono ?_);rintro e w9 ⟨rfl,Yz,YB⟩;go_wp2;go_ret;exact⟨rfl,Yz,((((((hk1.trans hk2).trans hk3).trans hk4).trans hk5).trans yG).trans AQ).trans (Us.trans YB)⟩
   ·rw[if_neg hl] at h
    have e1:aS E.toks s [(⟨#[108,101,116]⟩:ByteArray).data.toList]=false:=eq_false_of_ne_true hl;clear hl
    by_cases hi:aS E.toks s [tIf]=true
    ·rw[if_pos hi] at h
     have e2:aS E.toks s [(⟨#[105,102]⟩:ByteArray).data.toList]=true:=hi;obtain⟨b,h0,h⟩:=bH h;obtain⟨d,h1,h⟩:=bH h;obtain⟨f,h2,h⟩:=bH h
     injection h with h;subst h
     have n6:=fin _ _ (aD _ _ _) hn;have n5:=fin _ _ (ex _ _ _ h2) n6;have n4:=fin _ _ (aF _ _ _) n5;have n3:=fin _ _ (ex _ _ _ h1) n4;have n2:=fin _ _ (aF _ _ _) n3;have n1:=fin _ _ (ex _ _ _ h0) n2;have n0:=fin _ _ (aJ _ _) n1;have C1:=ah (fun w hp=>bA E s w hp hE.1 hE.2.1 n0);have C2:=ah (hHI _ _ _ h0 n2 (by show nest+1≤_;omega));have C3:=ah (fun w hp=>dA E hE ⟨#[116,104,101,110]⟩ b.2 w hp n2);have C4:=ah (hHI _ _ _ h1 n4 (by show nest+1≤_;omega));have C5:=ah (fun w hp=>dA E hE ⟨#[101,108,115,101]⟩ d.2 w hp n4);have C6:=ah (hHI _ _ _ h2 n6 (by show nest+1≤_;omega));have C7:=ah (fun w hp=>gV E 8 [(ay E.toks s).1,b.1,(aA E.toks [EP] b.2).1,d.1,(aA E.toks [ER] d.2).1,f.1] 6 _ f.2 w hp rfl rfl (by omega) n6);have E1:=ah e1;have E2:=ah e2;clear h0 h1 h2 hi e1 e2 n0 n1 n2 n3 n4 n5 n6 hHI ex fin ih hn;go_enter Tryz.func172,Tryz.ntmps172;go_wp2_with (go_at_call 233;refine HD'.out.mono ?_);rintro e w1 ⟨rfl,hp1,hk1⟩;obtain⟨_,_,c2,_,_,_⟩:=hp1.cells;rw[hcl'] at c2;go_wp2_with (go_at_call 165;refine(N1.out w1 hp1).mono ?_);rintro e w2 ⟨rfl,hp2,hk2⟩;rw[E1.out];obtain⟨_,_,d2,_,_,_⟩:=hp2.cells;rw[hcl'] at d2;clear c2;go_wp2_with (go_at_call 165;refine(N2.out w2 hp2).mono ?_);rintro e w3 ⟨rfl,hp3,hk3⟩;rw[E2.out];obtain⟨d0,_,_,_,_,_⟩:=hp3.cells;clear d2;go_wp2_with (go_at_call 167;refine(C1.out w3 hp3).mono ?_);rintro e w4 ⟨rfl,nA,hk4⟩;go_wp2_with (go_at_call 172;refine(C2.out w4 nA).mono ?_);rintro e w5 ⟨rfl,qY,hk5⟩;go_wp2_with (go_at_call 168;refine(C3.out w5 qY).mono ?_);rintro e w6 ⟨rfl,BL,yG⟩;go_wp2_with (go_at_call 172;refine(C4.out w6 BL).mono ?_);rintro e w7 ⟨rfl,Ew,AQ⟩;go_wp2_with (go_at_call 168;refine(C5.out w7 Ew).mono ?_);rintro e w8 ⟨rfl,QW,Us⟩;go_wp2_with (go_at_call 172;refine(C6.out w8 QW).mono ?_);rintro e w9 ⟨rfl,Yz,YB⟩;go_wp2_with (go_at_call 106;refine(C7.out w9 Yz).mono ?_);rintro e jT ⟨rfl,YC,hk10⟩;go_wp2;go_ret
     exact⟨rfl,YC,((((((((hk1.trans hk2).trans hk3).trans hk4).trans hk5).trans yG).trans AQ).trans Us).trans YB).trans hk10⟩
    ·rw[if_neg hi] at h
     have e2:aS E.toks s [(⟨#[105,102]⟩:ByteArray).data.toList]=false:=eq_false_of_ne_true hi;clear hi
     by_cases ha:aS E.toks s [O8]=true
     ·rw[if_pos ha] at h
      have e3:aS E.toks s [(⟨#[97,115,115,101,114,116]⟩:ByteArray).data.toList]=true:=ha;obtain⟨b,h0,h⟩:=bH h;obtain⟨d,h1,h⟩:=bH h
      injection h with h;subst h
      have n4:=fin _ _ (aD _ _ _) hn;have n3:=fin _ _ (ex _ _ _ h1) n4;have n2:=fin _ _ (aF _ _ _) n3;have n1:=fin _ _ (ex _ _ _ h0) n2;have n0:=fin _ _ (aJ _ _) n1;have C1:=ah (fun w hp=>bA E s w hp hE.1 hE.2.1 n0);have C2:=ah (hHI _ _ _ h0 n2 (by show nest+1≤_;omega));have C3:=ah (fun w hp=>dA E hE ⟨#[105,110]⟩ b.2 w hp n2);have C4:=ah (hHI _ _ _ h1 n4 (by show nest+1≤_;omega));have C5:=ah (fun w hp=>gV E 9 [(ay E.toks s).1,b.1,(aA E.toks [Tq] b.2).1,d.1] 4 _ d.2 w hp rfl rfl (by omega) n4);have E1:=ah e1;have E2:=ah e2;have E3:=ah e3;clear h0 h1 ha e1 e2 e3 n0 n1 n2 n3 n4 hHI ex fin ih hn;go_enter Tryz.func172,Tryz.ntmps172;go_wp2_with (go_at_call 233;refine HD'.out.mono ?_);rintro e w1 ⟨rfl,hp1,hk1⟩;obtain⟨_,_,c2,_,_,_⟩:=hp1.cells;rw[hcl'] at c2;go_wp2_with (go_at_call 165;refine(N1.out w1 hp1).mono ?_);rintro e w2 ⟨rfl,hp2,hk2⟩;rw[E1.out];go_wp2_with (go_at_call 165;refine(N2.out w2 hp2).mono ?_);rintro e w3 ⟨rfl,hp3,hk3⟩;rw[E2.out];go_wp2_with (go_at_call 165;refine(N3.out w3 hp3).mono ?_);rintro e w4 ⟨rfl,nA,hk4⟩;rw[E3.out];obtain⟨d0,_,_,_,_,_⟩:=nA.cells;clear c2;go_wp2_with (go_at_call 167;refine(C1.out w4 nA).mono ?_);rintro e w5 ⟨rfl,qY,hk5⟩;go_wp2_with (go_at_call 172;refine(C2.out w5 qY).mono ?_);rintro e w6 ⟨rfl,BL,yG⟩;go_wp2_with (go_at_call 168;refine(C3.out w6 BL).mono ?_);rintro e w7 ⟨rfl,Ew,AQ⟩;go_wp2_with (go_at_call 172;refine(C4.out w7 Ew).mono ?_);rintro e w8 ⟨rfl,QW,Us⟩;go_wp2_with (go_at_call 106;refine(C5.out w8 QW).mono ?_);rintro e w9 ⟨rfl,Yz,YB⟩;go_wp2;go_ret;exact⟨rfl,Yz,(((((((hk1.trans hk2).trans hk3).trans hk4).trans hk5).trans yG).trans AQ).trans Us).trans YB⟩
     ·rw[if_neg ha] at h
      have e3:aS E.toks s [(⟨#[97,115,115,101,114,116]⟩:ByteArray).data.toList]=false:=eq_false_of_ne_true ha;have HI:=ah (hHI _ _ _ h hn Ur);have E1:=ah e1;have E2:=ah e2;have E3:=ah e3;clear h ha e1 e2 e3 hHI ex fin ih hn;go_enter Tryz.func172,Tryz.ntmps172;go_wp2_with (go_at_call 233;refine HD'.out.mono ?_);rintro e w1 ⟨rfl,hp1,hk1⟩;obtain⟨_,_,c2,_,_,_⟩:=hp1.cells;rw[hcl'] at c2;go_wp2_with (go_at_call 165;refine(N1.out w1 hp1).mono ?_);rintro e w2 ⟨rfl,hp2,hk2⟩;rw[E1.out];go_wp2_with (go_at_call 165;refine(N2.out w2 hp2).mono ?_);rintro e w3 ⟨rfl,hp3,hk3⟩;rw[E2.out];go_wp2_with (go_at_call 165;refine(N3.out w3 hp3).mono ?_);rintro e w4 ⟨rfl,nA,hk4⟩;rw[E3.out];go_wp2_with (go_at_call 234;refine(HI.out w4 nA).mono ?_);rintro e w5 ⟨rfl,qY,hk5⟩;go_wp2;go_ret;exact⟨rfl,qY,(((hk1.trans hk2).trans hk3).trans hk4).trans hk5⟩
 ·rw[if_pos hf] at h
  injection h with h
  subst h;have hok:okB s=false:=decide_eq_false hf;have HD':Hid (Calls Tryz.prog 233 #[.pointer (some ⟨E.pb,0,none⟩),.int .i64 nest] w (qh E s true w)):=ah (HD.out.mono fun e w' ⟨he,hp⟩=>⟨by rw[he,hok];rfl,hp⟩);clear HD hnd hok hf;go_enter Tryz.func172,Tryz.ntmps172;go_wp2_with (go_at_call 233;refine HD'.out.mono ?_);rintro e w1 ⟨rfl,hp1,hk1⟩;go_wp2;go_ret;exact⟨rfl,hp1,hk1⟩
theorem jr (E:aT)(st:aB)(hf:st.fE=0)(w:World)(h:PW E st w):Calls Tryz.prog 101 #[.pointer (some ⟨E.pb,0,none⟩)] w (qh E st true w) :=
 (qW E st w h).mono fun e w' ⟨he,hw⟩=>by subst hw;exact⟨by rw[he,show okB st=true from decide_eq_true hf],h,Kp.refl _ _⟩
theorem rP (E:aT)(st:aB)(hf:st.fE≠0)(w:World)(h:PW E st w):Calls Tryz.prog 101 #[.pointer (some ⟨E.pb,0,none⟩)] w (qh E st false w) :=
 (qW E st w h).mono fun e w' ⟨he,hw⟩=>by subst hw;exact⟨by rw[he,show okB st=false from decide_eq_false hf],h,Kp.refl _ _⟩
theorem Hg (E:aT)(hE:E.ok)(nest:Nat)(st:aB)(hf:(aM E.toks E.depth nest st).fE=0)(w:World)(h:PW E st w) :
  Calls Tryz.prog 233 #[.pointer (some ⟨E.pb,0,none⟩),.int .i64 nest] w (qh E (aM E.toks E.depth nest st) false w) :=
 (BG E hE nest st w h).mono fun e w' ⟨he,hp⟩=>⟨by rw[he,show okB _=true from decide_eq_true hf];rfl,hp⟩
theorem BM (E:aT)(hE:E.ok)(nest:Nat)(st:aB)(hf:(aM E.toks E.depth nest st).fE≠0)(w:World)(h:PW E st w) :
  Calls Tryz.prog 233 #[.pointer (some ⟨E.pb,0,none⟩),.int .i64 nest] w (qh E (aM E.toks E.depth nest st) true w) :=
 (BG E hE nest st w h).mono fun e w' ⟨he,hp⟩=>⟨by rw[he,show okB _=false from decide_eq_false hf];rfl,hp⟩
theorem yQ (E:aT)(nest:Nat)(st:aB)(hf:(aM E.toks E.depth nest st).fE=0):nest≤E.depth:=by
 unfold aM at hf
 split at hf
 ·exact(kM (by decide) _ hf).elim
 ·omega
theorem aC {a b:aB}(h1:bZ a b)(h2:b.nodes.length+1≤1099511627776):a.nodes.length+1≤1099511627776:=by have:=h1.2.2.2;omega
theorem dn (E:aT)(hE:E.ok)(b:ByteArray)(st:aB)(x:Bool)(hx:aS E.toks st [b.data.toList]=x)(w:World)(h:PW E st w) :
  Calls Tryz.prog 165 #[.pointer (some ⟨E.pb,0,none⟩),.slice (some ⟨w.heap.size,0,none⟩) 1 1] (w.alloc (.cells #[.string b] 9)) (qh E st x w):=by
 subst hx;exact sP E hE b st w h
theorem Hl (E:aT)(hE:E.ok)(g:Nat)(ih:Au E g)(nest:Nat)(st:aB)(r:Int × aB)(w:World)(h:run E.toks E.depth (g+1) (.formula nest) st=some r)(hp:PW E st w)(hn:r.2.nodes.length+1≤1099511627776)(bT:nest≤E.depth) :
  Calls Tryz.prog 234 #[.pointer (some ⟨E.pb,0,none⟩),.int .i64 nest] w (dx E r w):=by
 have rX:=hE.2.2
 have hHI:∀ (t:Task) (st:aB) (r:Int × aB),run E.toks E.depth g t st=some r→r.2.nodes.length+1≤1099511627776→vF E t→∀ w,PW E st w→lT E r w t:=fun t st r h1 h2 h3 w h4=>ih t st r w h1 h4 h2 h3
 have ex:=aO E.toks E.depth g;rw[run] at h;obtain⟨a,h0,h⟩:=bH h
 by_cases hf:a.2.fE=0
 ·by_cases hx:aS E.toks a.2 [[61,62]]=true
  ·rw[if_pos ⟨hf,hx⟩] at h
   by_cases hd:(aM E.toks E.depth (nest+1) (ay E.toks a.2).2).fE=0
   ·rw[if_neg (by simp[hd])] at h
    obtain⟨b,h1,h⟩:=bH h
    injection h with h;subst h
    have n4:=aC (aD _ _ _) hn;have n3:=aC (ex _ _ _ h1) n4;have n2:=aC (dZ _ _ _ _) n3;have n1:=aC (aJ _ _) n2;have HR:=ah (hHI _ _ _ h0 n1 ⟨by decide,bT⟩);have HO:=ah (jr E a.2 hf);have HX:=ah (dn E hE ⟨#[61,62]⟩ a.2 true hx);have HL:=ah (fun w hp=>bA E a.2 w hp hE.1 hE.2.1 n1);have HD:=ah (Hg E hE (nest+1) _ hd);have HF:=ah (hHI _ _ _ h1 n4 (yQ E _ _ hd));have HN:=ah (fun w hp=>gV E 10 [a.1,(ay E.toks a.2).1,b.1] 3 _ b.2 w hp rfl rfl (by omega) n4);clear h0 h1 hf hx hd n1 n2 n3 n4 hHI ex ih hn;go_enter Tryz.func234,Tryz.ntmps234;go_wp2_with (go_at_call 277;refine(HR.out w hp).mono ?_);rintro e w1 ⟨rfl,hp1,hk1⟩;go_wp2_with (go_at_call 101;refine(HO.out w1 hp1).mono ?_);rintro e w2 ⟨rfl,hp2,hk2⟩;go_wp2_with (go_at_call 165;refine(HX.out w2 hp2).mono ?_);rintro e w3 ⟨rfl,hp3,hk3⟩;obtain⟨d0,_,_,_,_,_⟩:=hp3.cells;go_wp2_with (go_at_call 167;refine(HL.out w3 hp3).mono ?_);rintro e w4 ⟨rfl,nA,hk4⟩;clear d0;go_wp2_with (go_at_call 233;refine(HD.out w4 nA).mono ?_);rintro e w5 ⟨rfl,qY,hk5⟩;go_wp2_with (go_at_call 234;refine(HF.out w5 qY).mono ?_);rintro e w6 ⟨rfl,BL,yG⟩;go_wp2_with (go_at_call 106;refine(HN.out w6 BL).mono ?_);rintro e w7 ⟨rfl,Ew,AQ⟩;go_wp2;go_ret;exact⟨rfl,Ew,(((((hk1.trans hk2).trans hk3).trans hk4).trans hk5).trans yG).trans AQ⟩
   ·rw[if_pos hd] at h
    injection h with h;subst h
    have n2:=aC (dZ _ _ _ _) hn;have n1:=aC (aJ _ _) n2;have HR:=ah (hHI _ _ _ h0 n1 ⟨by decide,bT⟩);have HO:=ah (jr E a.2 hf);have HX:=ah (dn E hE ⟨#[61,62]⟩ a.2 true hx);have HL:=ah (fun w hp=>bA E a.2 w hp hE.1 hE.2.1 n1);have HD:=ah (BM E hE (nest+1) _ hd);clear h0 hf hx hd n1 n2 hHI ex ih hn;go_enter Tryz.func234,Tryz.ntmps234;go_wp2_with (go_at_call 277;refine(HR.out w hp).mono ?_);rintro e w1 ⟨rfl,hp1,hk1⟩;go_wp2_with (go_at_call 101;refine(HO.out w1 hp1).mono ?_);rintro e w2 ⟨rfl,hp2,hk2⟩;go_wp2_with (go_at_call 165;refine(HX.out w2 hp2).mono ?_);rintro e w3 ⟨rfl,hp3,hk3⟩;obtain⟨d0,_,_,_,_,_⟩:=hp3.cells;go_wp2_with (go_at_call 167;refine(HL.out w3 hp3).mono ?_);rintro e w4 ⟨rfl,nA,hk4⟩;clear d0;go_wp2_with (go_at_call 233;refine(HD.out w4 nA).mono ?_);rintro e w5 ⟨rfl,qY,hk5⟩;go_wp2;go_ret;exact⟨rfl,qY,(((hk1.trans hk2).trans hk3).trans hk4).trans hk5⟩
  ·rw[if_neg (fun q=>hx q.2)] at h
   injection h with h;subst h
   have HR:=ah (hHI _ _ _ h0 hn ⟨by decide,bT⟩);have HO:=ah (jr E a.2 hf);have HX:=ah (dn E hE ⟨#[61,62]⟩ a.2 false (eq_false_of_ne_true hx));clear h0 hf hx hHI ex ih hn;go_enter Tryz.func234,Tryz.ntmps234;go_wp2_with (go_at_call 277;refine(HR.out w hp).mono ?_);rintro e w1 ⟨rfl,hp1,hk1⟩;go_wp2_with (go_at_call 101;refine(HO.out w1 hp1).mono ?_);rintro e w2 ⟨rfl,hp2,hk2⟩;go_wp2_with (go_at_call 165;refine(HX.out w2 hp2).mono ?_);rintro e w3 ⟨rfl,hp3,hk3⟩;go_wp2;go_ret;exact⟨rfl,hp3,(hk1.trans hk2).trans hk3⟩
 ·rw[if_neg (fun q=>hf q.1)] at h
  injection h with h;subst h
  have HR:=ah (hHI _ _ _ h0 hn ⟨by decide,bT⟩);have HO:=ah (rP E a.2 hf);clear h0 hf hHI ex ih hn;go_enter Tryz.func234,Tryz.ntmps234;go_wp2_with (go_at_call 277;refine(HR.out w hp).mono ?_);rintro e w1 ⟨rfl,hp1,hk1⟩;go_wp2_with (go_at_call 101;refine(HO.out w1 hp1).mono ?_);rintro e w2 ⟨rfl,hp2,hk2⟩;go_wp2;go_ret;exact⟨rfl,hp2,hk1.trans hk2⟩
theorem QX (E:aT)(g:Nat)(ih:Au E g)(l nest:Nat)(st:aB)(r:Int × aB)(w:World)(h:run E.toks E.depth (g+1) (.part l nest) st=some r)(hp:PW E st w)(hn:r.2.nodes.length+1≤1099511627776)(bT:l≤4∧nest≤E.depth) :
  Calls Tryz.prog 298 #[.pointer (some ⟨E.pb,0,none⟩),.int .i64 l,.int .i64 nest] w (dx E r w):=by
 have hHI:∀ (t:Task) (st:aB) (r:Int × aB),run E.toks E.depth g t st=some r→r.2.nodes.length+1≤1099511627776→vF E t→∀ w,PW E st w→lT E r w t:=fun t st r h1 h2 h3 w h4=>ih t st r w h1 h4 h2 h3
 rw[run] at h;obtain⟨hl,bT⟩:=bT
 by_cases h1:l=1
 ·rw[if_pos h1] at h
  subst h1;have HR:=ah (hHI _ _ _ h hn bT);clear h hHI ih hn;go_enter Tryz.func298,Tryz.ntmps298;go_wp2_with (go_at_call 310;refine(HR.out w hp).mono ?_);rintro e w1 ⟨rfl,hp1,hk1⟩;go_wp2;go_ret;exact⟨rfl,hp1,hk1⟩
 ·rw[if_neg h1] at h
  by_cases h4:l=4
  ·rw[if_pos h4] at h
   subst h4;have HR:=ah (hHI _ _ _ h hn bT);clear h hHI ih hn h1;go_enter Tryz.func298,Tryz.ntmps298;go_wp2_with (go_at_call 311;refine(HR.out w hp).mono ?_);rintro e w1 ⟨rfl,hp1,hk1⟩;go_wp2;go_ret;exact⟨rfl,hp1,hk1⟩
  ·rw[if_neg h4] at h
   have HR:=ah (hHI _ _ _ h hn ⟨by omega,bT⟩);clear h hHI ih hn
   have adK:l=0∨l=2∨l=3:=by omega
   rcases adK with rfl|rfl|rfl
   ·clear h1 h4 hl
    go_enter Tryz.func298,Tryz.ntmps298;go_wp2_with (go_at_call 277;refine(HR.out w hp).mono ?_);rintro e w1 ⟨rfl,hp1,hk1⟩;go_wp2;go_ret;exact⟨rfl,hp1,hk1⟩
   ·clear h1 h4 hl
    go_enter Tryz.func298,Tryz.ntmps298;go_wp2_with (go_at_call 277;refine(HR.out w hp).mono ?_);rintro e w1 ⟨rfl,hp1,hk1⟩;go_wp2;go_ret;exact⟨rfl,hp1,hk1⟩
   ·clear h1 h4 hl
    go_enter Tryz.func298,Tryz.ntmps298;go_wp2_with (go_at_call 277;refine(HR.out w hp).mono ?_);rintro e w1 ⟨rfl,hp1,hk1⟩;go_wp2;go_ret;exact⟨rfl,hp1,hk1⟩
theorem QY (E:aT)(hE:E.ok)(nest:Nat)(st:aB)(b:Int × aB)(w:World)(hp:PW E st w)(n1:st.nodes.length+1≤1099511627776)(n4:b.2.nodes.length+1≤1099511627776)(bT:nest≤E.depth)
  (hd:(aM E.toks E.depth (nest+1) (ay E.toks st).2).fE=0)
  (hb:∀ w,PW E (aM E.toks E.depth (nest+1) (ay E.toks st).2) w→Calls Tryz.prog 310 #[.pointer (some ⟨E.pb,0,none⟩),.int .i64 ((nest+1:Nat):Int)] w (dx E b w)) :
  Calls Tryz.prog 317 #[.pointer (some ⟨E.pb,0,none⟩),.int .i64 nest,.func (.func 310) #[.pointer (some ⟨E.pb,0,none⟩)] #[]] w (dx E (aY 11 [(ay E.toks st).1,b.1] b.2) w):=by
 have rX:=hE.2.2;have HL:=ah (fun w hp=>bA E st w hp hE.1 hE.2.1 n1);have HD:=ah (Hg E hE (nest+1) _ hd);have HF:=ah hb;have HN:=ah (fun w hp=>gV E 11 [(ay E.toks st).1,b.1] 2 _ b.2 w hp rfl rfl (by omega) n4);clear hd hb n1 n4;go_enter Tryz.func317,Tryz.ntmps317;obtain⟨d0,_,_,_,_,_⟩:=hp.cells;go_wp2_with (go_at_call 167;refine(HL.out w hp).mono ?_);rintro e w1 ⟨rfl,hp1,hk1⟩;clear d0;go_wp2_with (go_at_call 233;refine(HD.out w1 hp1).mono ?_);rintro e w2 ⟨rfl,hp2,hk2⟩;go_wp2_with (go_at_call 310;refine(HF.out w2 hp2).mono ?_);rintro e w3 ⟨rfl,hp3,hk3⟩;go_wp2_with (go_at_call 106;refine(HN.out w3 hp3).mono ?_);rintro e w4 ⟨rfl,nA,hk4⟩;go_wp2;go_ret;exact⟨rfl,nA,((hk1.trans hk2).trans hk3).trans hk4⟩
theorem MO (E:aT)(hE:E.ok)(nest:Nat)(st:aB)(w:World)(hp:PW E st w)(n1:st.nodes.length+1≤1099511627776)(bT:nest≤E.depth)
  (hd:(aM E.toks E.depth (nest+1) (ay E.toks st).2).fE≠0) :
  Calls Tryz.prog 317 #[.pointer (some ⟨E.pb,0,none⟩),.int .i64 nest,.func (.func 310) #[.pointer (some ⟨E.pb,0,none⟩)] #[]] w (dx E (0,aM E.toks E.depth (nest+1) (ay E.toks st).2) w):=by
 have rX:=hE.2.2;have HL:=ah (fun w hp=>bA E st w hp hE.1 hE.2.1 n1);have HD:=ah (BM E hE (nest+1) _ hd);clear hd n1;go_enter Tryz.func317,Tryz.ntmps317;obtain⟨d0,_,_,_,_,_⟩:=hp.cells;go_wp2_with (go_at_call 167;refine(HL.out w hp).mono ?_);rintro e w1 ⟨rfl,hp1,hk1⟩;clear d0;go_wp2_with (go_at_call 233;refine(HD.out w1 hp1).mono ?_);rintro e w2 ⟨rfl,hp2,hk2⟩;go_wp2;go_ret;exact⟨rfl,hp2,hk1.trans hk2⟩
theorem Ut (E:aT)(hE:E.ok)(g:Nat)(ih:Au E g)(nest:Nat)(st:aB)(r:Int × aB)(w:World)(h:run E.toks E.depth (g+1) (.neg nest) st=some r)(hp:PW E st w)(hn:r.2.nodes.length+1≤1099511627776)(bT:nest≤E.depth) :
  Calls Tryz.prog 310 #[.pointer (some ⟨E.pb,0,none⟩),.int .i64 nest] w (dx E r w):=by
 have rX:=hE.2.2
 have hHI:∀ (t:Task) (st:aB) (r:Int × aB),run E.toks E.depth g t st=some r→r.2.nodes.length+1≤1099511627776→vF E t→∀ w,PW E st w→lT E r w t:=fun t st r h1 h2 h3 w h4=>ih t st r w h1 h4 h2 h3
 have ex:=aO E.toks E.depth g;rw[run] at h
 by_cases hf:st.fE=0
 ·by_cases hx:aS E.toks st [Yb]=true
  ·rw[if_pos ⟨hf,hx⟩] at h
   by_cases hd:(aM E.toks E.depth (nest+1) (ay E.toks st).2).fE=0
   ·rw[if_neg (by simp[hd])] at h
    obtain⟨b,h1,h⟩:=bH h
    injection h with h;subst h
    have n4:=aC (aD _ _ _) hn;have n3:=aC (ex _ _ _ h1) n4;have n2:=aC (dZ _ _ _ _) n3;have n1:=aC (aJ _ _) n2;have HO:=ah (jr E st hf);have HX:=ah (dn E hE ⟨#[110,111,116]⟩ st true hx);have HU:=ah (fun w hp=>QY E hE nest st b w hp n1 n4 bT hd (hHI _ _ _ h1 n4 (yQ E _ _ hd)));clear h1 hf hx hd n1 n2 n3 n4 hHI ex ih hn;go_enter Tryz.func310,Tryz.ntmps310;go_wp2_with (go_at_call 101;refine(HO.out w hp).mono ?_);rintro e w1 ⟨rfl,hp1,hk1⟩;go_wp2_with (go_at_call 165;refine(HX.out w1 hp1).mono ?_);rintro e w2 ⟨rfl,hp2,hk2⟩;go_wp2_with (go_at_call 317;refine(HU.out w2 hp2).mono ?_);rintro e w3 ⟨rfl,hp3,hk3⟩;go_wp2;go_ret;exact⟨rfl,hp3,(hk1.trans hk2).trans hk3⟩
   ·rw[if_pos hd] at h
    injection h with h;subst h
    have n2:=aC (dZ _ _ _ _) hn;have n1:=aC (aJ _ _) n2;have HO:=ah (jr E st hf);have HX:=ah (dn E hE ⟨#[110,111,116]⟩ st true hx);have HU:=ah (fun w hp=>MO E hE nest st w hp n1 bT hd);clear hf hx hd n1 n2 hHI ex ih hn;go_enter Tryz.func310,Tryz.ntmps310;go_wp2_with (go_at_call 101;refine(HO.out w hp).mono ?_);rintro e w1 ⟨rfl,hp1,hk1⟩;go_wp2_with (go_at_call 165;refine(HX.out w1 hp1).mono ?_);rintro e w2 ⟨rfl,hp2,hk2⟩;go_wp2_with (go_at_call 317;refine(HU.out w2 hp2).mono ?_);rintro e w3 ⟨rfl,hp3,hk3⟩;go_wp2;go_ret;exact⟨rfl,hp3,(hk1.trans hk2).trans hk3⟩
  ·rw[if_neg (fun q=>hx q.2)] at h
   have HO:=ah (jr E st hf);have HX:=ah (dn E hE ⟨#[110,111,116]⟩ st false (eq_false_of_ne_true hx));have HR:=ah (hHI _ _ _ h hn ⟨by decide,bT⟩);clear h hf hx hHI ex ih hn;go_enter Tryz.func310,Tryz.ntmps310;go_wp2_with (go_at_call 101;refine(HO.out w hp).mono ?_);rintro e w1 ⟨rfl,hp1,hk1⟩;go_wp2_with (go_at_call 165;refine(HX.out w1 hp1).mono ?_);rintro e w2 ⟨rfl,hp2,hk2⟩;go_wp2_with (go_at_call 277;refine(HR.out w2 hp2).mono ?_);rintro e w3 ⟨rfl,hp3,hk3⟩;go_wp2;go_ret;exact⟨rfl,hp3,(hk1.trans hk2).trans hk3⟩
 ·rw[if_neg (fun q=>hf q.1)] at h
  have HO:=ah (rP E st hf);have HR:=ah (hHI _ _ _ h hn ⟨by decide,bT⟩);clear h hf hHI ex ih hn;go_enter Tryz.func310,Tryz.ntmps310;go_wp2_with (go_at_call 101;refine(HO.out w hp).mono ?_);rintro e w1 ⟨rfl,hp1,hk1⟩;go_wp2_with (go_at_call 277;refine(HR.out w1 hp1).mono ?_);rintro e w2 ⟨rfl,hp2,hk2⟩;go_wp2;go_ret;exact⟨rfl,hp2,hk1.trans hk2⟩
theorem Ho (E:aT)(hE:E.ok)(nest:Nat)(st:aB)(b:Int × aB)(w:World)(hp:PW E st w)(n1:st.nodes.length+1≤1099511627776)(n4:b.2.nodes.length+1≤1099511627776)(bT:nest≤E.depth)
  (hd:(aM E.toks E.depth (nest+1) (ay E.toks st).2).fE=0)
  (hb:∀ w,PW E (aM E.toks E.depth (nest+1) (ay E.toks st).2) w→Calls Tryz.prog 311 #[.pointer (some ⟨E.pb,0,none⟩),.int .i64 ((nest+1:Nat):Int)] w (dx E b w)) :
  Calls Tryz.prog 317 #[.pointer (some ⟨E.pb,0,none⟩),.int .i64 nest,.func (.func 311) #[.pointer (some ⟨E.pb,0,none⟩)] #[]] w (dx E (aY 11 [(ay E.toks st).1,b.1] b.2) w):=by
 have rX:=hE.2.2;have HL:=ah (fun w hp=>bA E st w hp hE.1 hE.2.1 n1);have HD:=ah (Hg E hE (nest+1) _ hd);have HF:=ah hb;have HN:=ah (fun w hp=>gV E 11 [(ay E.toks st).1,b.1] 2 _ b.2 w hp rfl rfl (by omega) n4);clear hd hb n1 n4;go_enter Tryz.func317,Tryz.ntmps317;obtain⟨d0,_,_,_,_,_⟩:=hp.cells;go_wp2_with (go_at_call 167;refine(HL.out w hp).mono ?_);rintro e w1 ⟨rfl,hp1,hk1⟩;clear d0;go_wp2_with (go_at_call 233;refine(HD.out w1 hp1).mono ?_);rintro e w2 ⟨rfl,hp2,hk2⟩;go_wp2_with (go_at_call 311;refine(HF.out w2 hp2).mono ?_);rintro e w3 ⟨rfl,hp3,hk3⟩;go_wp2_with (go_at_call 106;refine(HN.out w3 hp3).mono ?_);rintro e w4 ⟨rfl,nA,hk4⟩;go_wp2;go_ret;exact⟨rfl,nA,((hk1.trans hk2).trans hk3).trans hk4⟩
theorem Ey (E:aT)(hE:E.ok)(nest:Nat)(st:aB)(w:World)(hp:PW E st w)(n1:st.nodes.length+1≤1099511627776)(bT:nest≤E.depth)
  (hd:(aM E.toks E.depth (nest+1) (ay E.toks st).2).fE≠0) :
  Calls Tryz.prog 317 #[.pointer (some ⟨E.pb,0,none⟩),.int .i64 nest,.func (.func 311) #[.pointer (some ⟨E.pb,0,none⟩)] #[]] w (dx E (0,aM E.toks E.depth (nest+1) (ay E.toks st).2) w):=by
 have rX:=hE.2.2;have HL:=ah (fun w hp=>bA E st w hp hE.1 hE.2.1 n1);have HD:=ah (BM E hE (nest+1) _ hd);clear hd n1;go_enter Tryz.func317,Tryz.ntmps317;obtain⟨d0,_,_,_,_,_⟩:=hp.cells;go_wp2_with (go_at_call 167;refine(HL.out w hp).mono ?_);rintro e w1 ⟨rfl,hp1,hk1⟩;clear d0;go_wp2_with (go_at_call 233;refine(HD.out w1 hp1).mono ?_);rintro e w2 ⟨rfl,hp2,hk2⟩;go_wp2;go_ret;exact⟨rfl,hp2,hk1.trans hk2⟩
theorem JU (E:aT)(hE:E.ok)(g:Nat)(ih:Au E g)(nest:Nat)(st:aB)(r:Int × aB)(w:World)(h:run E.toks E.depth (g+1) (.factor nest) st=some r)(hp:PW E st w)(hn:r.2.nodes.length+1≤1099511627776)(bT:nest≤E.depth) :
  Calls Tryz.prog 311 #[.pointer (some ⟨E.pb,0,none⟩),.int .i64 nest] w (dx E r w):=by
 have rX:=hE.2.2
 have hHI:∀ (t:Task) (st:aB) (r:Int × aB),run E.toks E.depth g t st=some r→r.2.nodes.length+1≤1099511627776→vF E t→∀ w,PW E st w→lT E r w t:=fun t st r h1 h2 h3 w h4=>ih t st r w h1 h4 h2 h3
 have ex:=aO E.toks E.depth g;rw[run] at h
 by_cases hf:st.fE=0
 ·by_cases hx:aS E.toks st [[45]]=true
  ·rw[if_pos ⟨hf,hx⟩] at h
   by_cases hd:(aM E.toks E.depth (nest+1) (ay E.toks st).2).fE=0
   ·rw[if_neg (by simp[hd])] at h
    obtain⟨b,h1,h⟩:=bH h
    injection h with h;subst h
    have n4:=aC (aD _ _ _) hn;have n3:=aC (ex _ _ _ h1) n4;have n2:=aC (dZ _ _ _ _) n3;have n1:=aC (aJ _ _) n2;have HO:=ah (jr E st hf);have HX:=ah (dn E hE ⟨#[45]⟩ st true hx);have HU:=ah (fun w hp=>Ho E hE nest st b w hp n1 n4 bT hd (hHI _ _ _ h1 n4 (yQ E _ _ hd)));clear h1 hf hx hd n1 n2 n3 n4 hHI ex ih hn;go_enter Tryz.func311,Tryz.ntmps311;go_wp2_with (go_at_call 101;refine(HO.out w hp).mono ?_);rintro e w1 ⟨rfl,hp1,hk1⟩;go_wp2_with (go_at_call 165;refine(HX.out w1 hp1).mono ?_);rintro e w2 ⟨rfl,hp2,hk2⟩;go_wp2_with (go_at_call 317;refine(HU.out w2 hp2).mono ?_);rintro e w3 ⟨rfl,hp3,hk3⟩;go_wp2;go_ret;exact⟨rfl,hp3,(hk1.trans hk2).trans hk3⟩
   ·rw[if_pos hd] at h
    injection h with h;subst h
    have n2:=aC (dZ _ _ _ _) hn;have n1:=aC (aJ _ _) n2;have HO:=ah (jr E st hf);have HX:=ah (dn E hE ⟨#[45]⟩ st true hx);have HU:=ah (fun w hp=>Ey E hE nest st w hp n1 bT hd);clear hf hx hd n1 n2 hHI ex ih hn;go_enter Tryz.func311,Tryz.ntmps311;go_wp2_with (go_at_call 101;refine(HO.out w hp).mono ?_);rintro e w1 ⟨rfl,hp1,hk1⟩;go_wp2_with (go_at_call 165;refine(HX.out w1 hp1).mono ?_);rintro e w2 ⟨rfl,hp2,hk2⟩;go_wp2_with (go_at_call 317;refine(HU.out w2 hp2).mono ?_);rintro e w3 ⟨rfl,hp3,hk3⟩;go_wp2;go_ret;exact⟨rfl,hp3,(hk1.trans hk2).trans hk3⟩
  ·rw[if_neg (fun q=>hx q.2)] at h
   have HO:=ah (jr E st hf);have HX:=ah (dn E hE ⟨#[45]⟩ st false (eq_false_of_ne_true hx));have HR:=ah (hHI _ _ _ h hn bT);clear h hf hx hHI ex ih hn;go_enter Tryz.func311,Tryz.ntmps311;go_wp2_with (go_at_call 101;refine(HO.out w hp).mono ?_);rintro e w1 ⟨rfl,hp1,hk1⟩;go_wp2_with (go_at_call 165;refine(HX.out w1 hp1).mono ?_);rintro e w2 ⟨rfl,hp2,hk2⟩;go_wp2_with (go_at_call 318;refine(HR.out w2 hp2).mono ?_);rintro e w3 ⟨rfl,hp3,hk3⟩;go_wp2;go_ret;exact⟨rfl,hp3,(hk1.trans hk2).trans hk3⟩
 ·rw[if_neg (fun q=>hf q.1)] at h
  have HO:=ah (rP E st hf);have HR:=ah (hHI _ _ _ h hn bT);clear h hf hHI ex ih hn;go_enter Tryz.func311,Tryz.ntmps311;go_wp2_with (go_at_call 101;refine(HO.out w hp).mono ?_);rintro e w1 ⟨rfl,hp1,hk1⟩;go_wp2_with (go_at_call 318;refine(HR.out w1 hp1).mono ?_);rintro e w2 ⟨rfl,hp2,hk2⟩;go_wp2;go_ret;exact⟨rfl,hp2,hk1.trans hk2⟩
end Go.Proofs.YtknicmmigbhpcaaGreatDoor
