/- Walks and plain laws: ParseW8, ParseW9, ParseW10, ParseW11, ParseW12. -/
import Derived.Test.YtknicmmigbhpcaaGreatDoorF08
import Derived.Deep.LoopGhost
set_option maxHeartbeats 16000000
set_option maxRecDepth 100000
set_option linter.unusedVariables false
set_option linter.unusedSimpArgs false
namespace Go.Proofs.YtknicmmigbhpcaaGreatDoor
open Go.RowKit
theorem jm (E:aT)(st:aB)(hf:st.fE=0)(w:World)(h:PW E st w):Calls Tryz.prog 101 #[.pointer (some ⟨E.pb,0,none⟩)] w (ql E st true w) :=
 (qU E st w h).mono fun e w' ⟨he,hw⟩=>by subst hw;exact⟨by rw[he,show okB st=true from decide_eq_true hf],h,Kp.refl _ _⟩
theorem rJ (E:aT)(st:aB)(hf:st.fE≠0)(w:World)(h:PW E st w):Calls Tryz.prog 101 #[.pointer (some ⟨E.pb,0,none⟩)] w (ql E st false w) :=
 (qU E st w h).mono fun e w' ⟨he,hw⟩=>by subst hw;exact⟨by rw[he,show okB st=false from decide_eq_false hf],h,Kp.refl _ _⟩
theorem GQ (E:aT)(hE:E.ok)(nest:Nat)(st:aB)(hf:(aM E.toks E.depth nest st).fE=0)(w:World)(h:PW E st w) :
  Calls Tryz.prog 233 #[.pointer (some ⟨E.pb,0,none⟩),.int .i64 nest] w (ql E (aM E.toks E.depth nest st) false w) :=
 (Bv E hE nest st w h).mono fun e w' ⟨he,hp⟩=>⟨by rw[he,show okB _=true from decide_eq_true hf];rfl,hp⟩
theorem BG (E:aT)(hE:E.ok)(nest:Nat)(st:aB)(hf:(aM E.toks E.depth nest st).fE≠0)(w:World)(h:PW E st w) :
  Calls Tryz.prog 233 #[.pointer (some ⟨E.pb,0,none⟩),.int .i64 nest] w (ql E (aM E.toks E.depth nest st) true w) :=
 (Bv E hE nest st w h).mono fun e w' ⟨he,hp⟩=>⟨by rw[he,show okB _=false from decide_eq_false hf];rfl,hp⟩
theorem yN (E:aT)(nest:Nat)(st:aB)(hf:(aM E.toks E.depth nest st).fE=0):nest≤E.depth:=by
 unfold aM at hf
 split at hf
 ·exact(kK (by decide) _ hf).elim
 ·omega
theorem aC {a b:aB}(h1:bX a b)(h2:b.nodes.length+1≤1099511627776):a.nodes.length+1≤1099511627776:=by have:=h1.2.2.2;omega
theorem cZ (E:aT)(hE:E.ok)(b:ByteArray)(st:aB)(x:Bool)(hx:aS E.toks st [b.data.toList]=x)(w:World)(h:PW E st w) :
  Calls Tryz.prog 165 #[.pointer (some ⟨E.pb,0,none⟩),.slice (some ⟨w.heap.size,0,none⟩) 1 1] (w.alloc (.cells #[.string b] 9)) (ql E st x w):=by
 subst hx;exact sH E hE b st w h
theorem GR (E:aT)(hE:E.ok)(g:Nat)(ih:Al E g)(nest:Nat)(st:aB)(r:Int × aB)(w:World)(h:run E.toks E.depth (g+1) (.formula nest) st=some r)(hp:PW E st w)(hn:r.2.nodes.length+1≤1099511627776)(bQ:nest≤E.depth) :
  Calls Tryz.prog 234 #[.pointer (some ⟨E.pb,0,none⟩),.int .i64 nest] w (dh E r w):=by
 have rT:=hE.2.2
 have hHI:∀ (t:Task) (st:aB) (r:Int × aB),run E.toks E.depth g t st=some r→r.2.nodes.length+1≤1099511627776→vD E t→∀ w,PW E st w→lQ E r w t:=fun t st r h1 h2 h3 w h4=>ih t st r w h1 h4 h2 h3
 have ex:=aN E.toks E.depth g;rw[run] at h;obtain⟨a,h0,h⟩:=bH h
 by_cases hf:a.2.fE=0
 ·by_cases hx:aS E.toks a.2 [[61,62]]=true
  ·rw[if_pos ⟨hf,hx⟩] at h
   by_cases hd:(aM E.toks E.depth (nest+1) (ay E.toks a.2).2).fE=0
   ·rw[if_neg (by simp[hd])] at h
    obtain⟨b,h1,h⟩:=bH h
    injection h with h;subst h
    have n4:=aC (aD _ _ _) hn;have n3:=aC (ex _ _ _ h1) n4;have n2:=aC (dZ _ _ _ _) n3;have n1:=aC (aJ _ _) n2;have HR:=ah (hHI _ _ _ h0 n1 ⟨by decide,bQ⟩);have HO:=ah (jm E a.2 hf);have HX:=ah (cZ E hE ⟨#[61,62]⟩ a.2 true hx);have HL:=ah (fun w hp=>bA E a.2 w hp hE.1 hE.2.1 n1);have HD:=ah (GQ E hE (nest+1) _ hd);have HF:=ah (hHI _ _ _ h1 n4 (yN E _ _ hd));have HN:=ah (fun w hp=>gP E 10 [a.1,(ay E.toks a.2).1,b.1] 3 _ b.2 w hp rfl rfl (by omega) n4);clear h0 h1 hf hx hd n1 n2 n3 n4 hHI ex ih hn;go_enter Tryz.func234,Tryz.ntmps234;go_wp2_with (go_at_call 277;refine(HR.out w hp).mono ?_);rintro e w1 ⟨rfl,hp1,hk1⟩;go_wp2_with (go_at_call 101;refine(HO.out w1 hp1).mono ?_);rintro e w2 ⟨rfl,hp2,hk2⟩;go_wp2_with (go_at_call 165;refine(HX.out w2 hp2).mono ?_);rintro e w3 ⟨rfl,hp3,hk3⟩;obtain⟨d0,_,_,_,_,_⟩:=hp3.cells;go_wp2_with (go_at_call 167;refine(HL.out w3 hp3).mono ?_);rintro e w4 ⟨rfl,nW,hk4⟩;clear d0;go_wp2_with (go_at_call 233;refine(HD.out w4 nW).mono ?_);rintro e w5 ⟨rfl,rX,hk5⟩;go_wp2_with (go_at_call 234;refine(HF.out w5 rX).mono ?_);rintro e w6 ⟨rfl,BF,yB⟩;go_wp2_with (go_at_call 106;refine(HN.out w6 BF).mono ?_);rintro e w7 ⟨rfl,En,AA⟩;go_wp2;go_ret;exact⟨rfl,En,(((((hk1.trans hk2).trans hk3).trans hk4).trans hk5).trans yB).trans AA⟩
   ·rw[if_pos hd] at h
    injection h with h;subst h
    have n2:=aC (dZ _ _ _ _) hn;have n1:=aC (aJ _ _) n2;have HR:=ah (hHI _ _ _ h0 n1 ⟨by decide,bQ⟩);have HO:=ah (jm E a.2 hf);have HX:=ah (cZ E hE ⟨#[61,62]⟩ a.2 true hx);have HL:=ah (fun w hp=>bA E a.2 w hp hE.1 hE.2.1 n1);have HD:=ah (BG E hE (nest+1) _ hd);clear h0 hf hx hd n1 n2 hHI ex ih hn;go_enter Tryz.func234,Tryz.ntmps234;go_wp2_with (go_at_call 277;refine(HR.out w hp).mono ?_);rintro e w1 ⟨rfl,hp1,hk1⟩;go_wp2_with (go_at_call 101;refine(HO.out w1 hp1).mono ?_);rintro e w2 ⟨rfl,hp2,hk2⟩;go_wp2_with (go_at_call 165;refine(HX.out w2 hp2).mono ?_);rintro e w3 ⟨rfl,hp3,hk3⟩;obtain⟨d0,_,_,_,_,_⟩:=hp3.cells;go_wp2_with (go_at_call 167;refine(HL.out w3 hp3).mono ?_);rintro e w4 ⟨rfl,nW,hk4⟩;clear d0;go_wp2_with (go_at_call 233;refine(HD.out w4 nW).mono ?_);rintro e w5 ⟨rfl,rX,hk5⟩;go_wp2;go_ret;exact⟨rfl,rX,(((hk1.trans hk2).trans hk3).trans hk4).trans hk5⟩
  ·rw[if_neg (fun q=>hx q.2)] at h
   injection h with h;subst h
   have HR:=ah (hHI _ _ _ h0 hn ⟨by decide,bQ⟩);have HO:=ah (jm E a.2 hf);have HX:=ah (cZ E hE ⟨#[61,62]⟩ a.2 false (eq_false_of_ne_true hx));clear h0 hf hx hHI ex ih hn;go_enter Tryz.func234,Tryz.ntmps234;go_wp2_with (go_at_call 277;refine(HR.out w hp).mono ?_);rintro e w1 ⟨rfl,hp1,hk1⟩;go_wp2_with (go_at_call 101;refine(HO.out w1 hp1).mono ?_);rintro e w2 ⟨rfl,hp2,hk2⟩;go_wp2_with (go_at_call 165;refine(HX.out w2 hp2).mono ?_);rintro e w3 ⟨rfl,hp3,hk3⟩;go_wp2;go_ret;exact⟨rfl,hp3,(hk1.trans hk2).trans hk3⟩
 ·rw[if_neg (fun q=>hf q.1)] at h
  injection h with h;subst h
  have HR:=ah (hHI _ _ _ h0 hn ⟨by decide,bQ⟩);have HO:=ah (rJ E a.2 hf);clear h0 hf hHI ex ih hn;go_enter Tryz.func234,Tryz.ntmps234;go_wp2_with (go_at_call 277;refine(HR.out w hp).mono ?_);rintro e w1 ⟨rfl,hp1,hk1⟩;go_wp2_with (go_at_call 101;refine(HO.out w1 hp1).mono ?_);rintro e w2 ⟨rfl,hp2,hk2⟩;go_wp2;go_ret;exact⟨rfl,hp2,hk1.trans hk2⟩
theorem QF (E:aT)(g:Nat)(ih:Al E g)(l nest:Nat)(st:aB)(r:Int × aB)(w:World)(h:run E.toks E.depth (g+1) (.part l nest) st=some r)(hp:PW E st w)(hn:r.2.nodes.length+1≤1099511627776)(bQ:l≤4∧nest≤E.depth) :
  Calls Tryz.prog 298 #[.pointer (some ⟨E.pb,0,none⟩),.int .i64 l,.int .i64 nest] w (dh E r w):=by
 have hHI:∀ (t:Task) (st:aB) (r:Int × aB),run E.toks E.depth g t st=some r→r.2.nodes.length+1≤1099511627776→vD E t→∀ w,PW E st w→lQ E r w t:=fun t st r h1 h2 h3 w h4=>ih t st r w h1 h4 h2 h3
 rw[run] at h;obtain⟨hl,bQ⟩:=bQ
 by_cases h1:l=1
 ·rw[if_pos h1] at h
  subst h1;have HR:=ah (hHI _ _ _ h hn bQ);clear h hHI ih hn;go_enter Tryz.func298,Tryz.ntmps298;go_wp2_with (go_at_call 310;refine(HR.out w hp).mono ?_);rintro e w1 ⟨rfl,hp1,hk1⟩;go_wp2;go_ret;exact⟨rfl,hp1,hk1⟩
 ·rw[if_neg h1] at h
  by_cases h4:l=4
  ·rw[if_pos h4] at h
   subst h4;have HR:=ah (hHI _ _ _ h hn bQ);clear h hHI ih hn h1;go_enter Tryz.func298,Tryz.ntmps298;go_wp2_with (go_at_call 311;refine(HR.out w hp).mono ?_);rintro e w1 ⟨rfl,hp1,hk1⟩;go_wp2;go_ret;exact⟨rfl,hp1,hk1⟩
  ·rw[if_neg h4] at h
   have HR:=ah (hHI _ _ _ h hn ⟨by omega,bQ⟩);clear h hHI ih hn
   have adE:l=0∨l=2∨l=3:=by omega
   rcases adE with rfl|rfl|rfl
   ·clear h1 h4 hl
    go_enter Tryz.func298,Tryz.ntmps298;go_wp2_with (go_at_call 277;refine(HR.out w hp).mono ?_);rintro e w1 ⟨rfl,hp1,hk1⟩;go_wp2;go_ret;exact⟨rfl,hp1,hk1⟩
   ·clear h1 h4 hl
    go_enter Tryz.func298,Tryz.ntmps298;go_wp2_with (go_at_call 277;refine(HR.out w hp).mono ?_);rintro e w1 ⟨rfl,hp1,hk1⟩;go_wp2;go_ret;exact⟨rfl,hp1,hk1⟩
   ·clear h1 h4 hl
    go_enter Tryz.func298,Tryz.ntmps298;go_wp2_with (go_at_call 277;refine(HR.out w hp).mono ?_);rintro e w1 ⟨rfl,hp1,hk1⟩;go_wp2;go_ret;exact⟨rfl,hp1,hk1⟩
theorem QG (E:aT)(hE:E.ok)(nest:Nat)(st:aB)(b:Int × aB)(w:World)(hp:PW E st w)(n1:st.nodes.length+1≤1099511627776)(n4:b.2.nodes.length+1≤1099511627776)(bQ:nest≤E.depth)
  (hd:(aM E.toks E.depth (nest+1) (ay E.toks st).2).fE=0)
  (hb:∀ w,PW E (aM E.toks E.depth (nest+1) (ay E.toks st).2) w→Calls Tryz.prog 310 #[.pointer (some ⟨E.pb,0,none⟩),.int .i64 ((nest+1:Nat):Int)] w (dh E b w)) :
  Calls Tryz.prog 317 #[.pointer (some ⟨E.pb,0,none⟩),.int .i64 nest,.func (.func 310) #[.pointer (some ⟨E.pb,0,none⟩)] #[]] w (dh E (aY 11 [(ay E.toks st).1,b.1] b.2) w):=by
 have rT:=hE.2.2;have HL:=ah (fun w hp=>bA E st w hp hE.1 hE.2.1 n1);have HD:=ah (GQ E hE (nest+1) _ hd);have HF:=ah hb;have HN:=ah (fun w hp=>gP E 11 [(ay E.toks st).1,b.1] 2 _ b.2 w hp rfl rfl (by omega) n4);clear hd hb n1 n4;go_enter Tryz.func317,Tryz.ntmps317;obtain⟨d0,_,_,_,_,_⟩:=hp.cells;go_wp2_with (go_at_call 167;refine(HL.out w hp).mono ?_);rintro e w1 ⟨rfl,hp1,hk1⟩;clear d0;go_wp2_with (go_at_call 233;refine(HD.out w1 hp1).mono ?_);rintro e w2 ⟨rfl,hp2,hk2⟩;go_wp2_with (go_at_call 310;refine(HF.out w2 hp2).mono ?_);rintro e w3 ⟨rfl,hp3,hk3⟩;go_wp2_with (go_at_call 106;refine(HN.out w3 hp3).mono ?_);rintro e w4 ⟨rfl,nW,hk4⟩;go_wp2;go_ret;exact⟨rfl,nW,((hk1.trans hk2).trans hk3).trans hk4⟩
theorem Mx (E:aT)(hE:E.ok)(nest:Nat)(st:aB)(w:World)(hp:PW E st w)(n1:st.nodes.length+1≤1099511627776)(bQ:nest≤E.depth)
  (hd:(aM E.toks E.depth (nest+1) (ay E.toks st).2).fE≠0) :
  Calls Tryz.prog 317 #[.pointer (some ⟨E.pb,0,none⟩),.int .i64 nest,.func (.func 310) #[.pointer (some ⟨E.pb,0,none⟩)] #[]] w (dh E (0,aM E.toks E.depth (nest+1) (ay E.toks st).2) w):=by
 have rT:=hE.2.2;have HL:=ah (fun w hp=>bA E st w hp hE.1 hE.2.1 n1);have HD:=ah (BG E hE (nest+1) _ hd);clear hd n1;go_enter Tryz.func317,Tryz.ntmps317;obtain⟨d0,_,_,_,_,_⟩:=hp.cells;go_wp2_with (go_at_call 167;refine(HL.out w hp).mono ?_);rintro e w1 ⟨rfl,hp1,hk1⟩;clear d0;go_wp2_with (go_at_call 233;refine(HD.out w1 hp1).mono ?_);rintro e w2 ⟨rfl,hp2,hk2⟩;go_wp2;go_ret;exact⟨rfl,hp2,hk1.trans hk2⟩
theorem Uf (E:aT)(hE:E.ok)(g:Nat)(ih:Al E g)(nest:Nat)(st:aB)(r:Int × aB)(w:World)(h:run E.toks E.depth (g+1) (.neg nest) st=some r)(hp:PW E st w)(hn:r.2.nodes.length+1≤1099511627776)(bQ:nest≤E.depth) :
  Calls Tryz.prog 310 #[.pointer (some ⟨E.pb,0,none⟩),.int .i64 nest] w (dh E r w):=by
 have rT:=hE.2.2
 have hHI:∀ (t:Task) (st:aB) (r:Int × aB),run E.toks E.depth g t st=some r→r.2.nodes.length+1≤1099511627776→vD E t→∀ w,PW E st w→lQ E r w t:=fun t st r h1 h2 h3 w h4=>ih t st r w h1 h4 h2 h3
 have ex:=aN E.toks E.depth g;rw[run] at h
 by_cases hf:st.fE=0
 ·by_cases hx:aS E.toks st [Yb]=true
  ·rw[if_pos ⟨hf,hx⟩] at h
   by_cases hd:(aM E.toks E.depth (nest+1) (ay E.toks st).2).fE=0
   ·rw[if_neg (by simp[hd])] at h
    obtain⟨b,h1,h⟩:=bH h
    injection h with h;subst h
    have n4:=aC (aD _ _ _) hn;have n3:=aC (ex _ _ _ h1) n4;have n2:=aC (dZ _ _ _ _) n3;have n1:=aC (aJ _ _) n2;have HO:=ah (jm E st hf);have HX:=ah (cZ E hE ⟨#[110,111,116]⟩ st true hx);have HU:=ah (fun w hp=>QG E hE nest st b w hp n1 n4 bQ hd (hHI _ _ _ h1 n4 (yN E _ _ hd)));clear h1 hf hx hd n1 n2 n3 n4 hHI ex ih hn;go_enter Tryz.func310,Tryz.ntmps310;go_wp2_with (go_at_call 101;refine(HO.out w hp).mono ?_);rintro e w1 ⟨rfl,hp1,hk1⟩;go_wp2_with (go_at_call 165;refine(HX.out w1 hp1).mono ?_);rintro e w2 ⟨rfl,hp2,hk2⟩;go_wp2_with (go_at_call 317;refine(HU.out w2 hp2).mono ?_);rintro e w3 ⟨rfl,hp3,hk3⟩;go_wp2;go_ret;exact⟨rfl,hp3,(hk1.trans hk2).trans hk3⟩
   ·rw[if_pos hd] at h
    injection h with h;subst h
    have n2:=aC (dZ _ _ _ _) hn;have n1:=aC (aJ _ _) n2;have HO:=ah (jm E st hf);have HX:=ah (cZ E hE ⟨#[110,111,116]⟩ st true hx);have HU:=ah (fun w hp=>Mx E hE nest st w hp n1 bQ hd);clear hf hx hd n1 n2 hHI ex ih hn;go_enter Tryz.func310,Tryz.ntmps310;go_wp2_with (go_at_call 101;refine(HO.out w hp).mono ?_);rintro e w1 ⟨rfl,hp1,hk1⟩;go_wp2_with (go_at_call 165;refine(HX.out w1 hp1).mono ?_);rintro e w2 ⟨rfl,hp2,hk2⟩;go_wp2_with (go_at_call 317;refine(HU.out w2 hp2).mono ?_);rintro e w3 ⟨rfl,hp3,hk3⟩;go_wp2;go_ret;exact⟨rfl,hp3,(hk1.trans hk2).trans hk3⟩
  ·rw[if_neg (fun q=>hx q.2)] at h
   have HO:=ah (jm E st hf);have HX:=ah (cZ E hE ⟨#[110,111,116]⟩ st false (eq_false_of_ne_true hx));have HR:=ah (hHI _ _ _ h hn ⟨by decide,bQ⟩);clear h hf hx hHI ex ih hn;go_enter Tryz.func310,Tryz.ntmps310;go_wp2_with (go_at_call 101;refine(HO.out w hp).mono ?_);rintro e w1 ⟨rfl,hp1,hk1⟩;go_wp2_with (go_at_call 165;refine(HX.out w1 hp1).mono ?_);rintro e w2 ⟨rfl,hp2,hk2⟩;go_wp2_with (go_at_call 277;refine(HR.out w2 hp2).mono ?_);rintro e w3 ⟨rfl,hp3,hk3⟩;go_wp2;go_ret;exact⟨rfl,hp3,(hk1.trans hk2).trans hk3⟩
 ·rw[if_neg (fun q=>hf q.1)] at h
  have HO:=ah (rJ E st hf);have HR:=ah (hHI _ _ _ h hn ⟨by decide,bQ⟩);clear h hf hHI ex ih hn;go_enter Tryz.func310,Tryz.ntmps310;go_wp2_with (go_at_call 101;refine(HO.out w hp).mono ?_);rintro e w1 ⟨rfl,hp1,hk1⟩;go_wp2_with (go_at_call 277;refine(HR.out w1 hp1).mono ?_);rintro e w2 ⟨rfl,hp2,hk2⟩;go_wp2;go_ret;exact⟨rfl,hp2,hk1.trans hk2⟩
theorem GU (E:aT)(hE:E.ok)(nest:Nat)(st:aB)(b:Int × aB)(w:World)(hp:PW E st w)(n1:st.nodes.length+1≤1099511627776)(n4:b.2.nodes.length+1≤1099511627776)(bQ:nest≤E.depth)
  (hd:(aM E.toks E.depth (nest+1) (ay E.toks st).2).fE=0)
  (hb:∀ w,PW E (aM E.toks E.depth (nest+1) (ay E.toks st).2) w→Calls Tryz.prog 311 #[.pointer (some ⟨E.pb,0,none⟩),.int .i64 ((nest+1:Nat):Int)] w (dh E b w)) :
  Calls Tryz.prog 317 #[.pointer (some ⟨E.pb,0,none⟩),.int .i64 nest,.func (.func 311) #[.pointer (some ⟨E.pb,0,none⟩)] #[]] w (dh E (aY 11 [(ay E.toks st).1,b.1] b.2) w):=by
 have rT:=hE.2.2;have HL:=ah (fun w hp=>bA E st w hp hE.1 hE.2.1 n1);have HD:=ah (GQ E hE (nest+1) _ hd);have HF:=ah hb;have HN:=ah (fun w hp=>gP E 11 [(ay E.toks st).1,b.1] 2 _ b.2 w hp rfl rfl (by omega) n4);clear hd hb n1 n4;go_enter Tryz.func317,Tryz.ntmps317;obtain⟨d0,_,_,_,_,_⟩:=hp.cells;go_wp2_with (go_at_call 167;refine(HL.out w hp).mono ?_);rintro e w1 ⟨rfl,hp1,hk1⟩;clear d0;go_wp2_with (go_at_call 233;refine(HD.out w1 hp1).mono ?_);rintro e w2 ⟨rfl,hp2,hk2⟩;go_wp2_with (go_at_call 311;refine(HF.out w2 hp2).mono ?_);rintro e w3 ⟨rfl,hp3,hk3⟩;go_wp2_with (go_at_call 106;refine(HN.out w3 hp3).mono ?_);rintro e w4 ⟨rfl,nW,hk4⟩;go_wp2;go_ret;exact⟨rfl,nW,((hk1.trans hk2).trans hk3).trans hk4⟩
theorem Eo (E:aT)(hE:E.ok)(nest:Nat)(st:aB)(w:World)(hp:PW E st w)(n1:st.nodes.length+1≤1099511627776)(bQ:nest≤E.depth)
  (hd:(aM E.toks E.depth (nest+1) (ay E.toks st).2).fE≠0) :
  Calls Tryz.prog 317 #[.pointer (some ⟨E.pb,0,none⟩),.int .i64 nest,.func (.func 311) #[.pointer (some ⟨E.pb,0,none⟩)] #[]] w (dh E (0,aM E.toks E.depth (nest+1) (ay E.toks st).2) w):=by
 have rT:=hE.2.2;have HL:=ah (fun w hp=>bA E st w hp hE.1 hE.2.1 n1);have HD:=ah (BG E hE (nest+1) _ hd);clear hd n1;go_enter Tryz.func317,Tryz.ntmps317;obtain⟨d0,_,_,_,_,_⟩:=hp.cells;go_wp2_with (go_at_call 167;refine(HL.out w hp).mono ?_);rintro e w1 ⟨rfl,hp1,hk1⟩;clear d0;go_wp2_with (go_at_call 233;refine(HD.out w1 hp1).mono ?_);rintro e w2 ⟨rfl,hp2,hk2⟩;go_wp2;go_ret;exact⟨rfl,hp2,hk1.trans hk2⟩
theorem JD (E:aT)(hE:E.ok)(g:Nat)(ih:Al E g)(nest:Nat)(st:aB)(r:Int × aB)(w:World)(h:run E.toks E.depth (g+1) (.factor nest) st=some r)(hp:PW E st w)(hn:r.2.nodes.length+1≤1099511627776)(bQ:nest≤E.depth) :
  Calls Tryz.prog 311 #[.pointer (some ⟨E.pb,0,none⟩),.int .i64 nest] w (dh E r w):=by
 have rT:=hE.2.2
 have hHI:∀ (t:Task) (st:aB) (r:Int × aB),run E.toks E.depth g t st=some r→r.2.nodes.length+1≤1099511627776→vD E t→∀ w,PW E st w→lQ E r w t:=fun t st r h1 h2 h3 w h4=>ih t st r w h1 h4 h2 h3
 have ex:=aN E.toks E.depth g;rw[run] at h
 by_cases hf:st.fE=0
 ·by_cases hx:aS E.toks st [[45]]=true
  ·rw[if_pos ⟨hf,hx⟩] at h
   by_cases hd:(aM E.toks E.depth (nest+1) (ay E.toks st).2).fE=0
   ·rw[if_neg (by simp[hd])] at h
    obtain⟨b,h1,h⟩:=bH h
    injection h with h;subst h
    have n4:=aC (aD _ _ _) hn;have n3:=aC (ex _ _ _ h1) n4;have n2:=aC (dZ _ _ _ _) n3;have n1:=aC (aJ _ _) n2;have HO:=ah (jm E st hf);have HX:=ah (cZ E hE ⟨#[45]⟩ st true hx);have HU:=ah (fun w hp=>GU E hE nest st b w hp n1 n4 bQ hd (hHI _ _ _ h1 n4 (yN E _ _ hd)));clear h1 hf hx hd n1 n2 n3 n4 hHI ex ih hn;go_enter Tryz.func311,Tryz.ntmps311;go_wp2_with (go_at_call 101;refine(HO.out w hp).mono ?_);rintro e w1 ⟨rfl,hp1,hk1⟩;go_wp2_with (go_at_call 165;refine(HX.out w1 hp1).mono ?_);rintro e w2 ⟨rfl,hp2,hk2⟩;go_wp2_with (go_at_call 317;refine(HU.out w2 hp2).mono ?_);rintro e w3 ⟨rfl,hp3,hk3⟩;go_wp2;go_ret;exact⟨rfl,hp3,(hk1.trans hk2).trans hk3⟩
   ·rw[if_pos hd] at h
    injection h with h;subst h
    have n2:=aC (dZ _ _ _ _) hn;have n1:=aC (aJ _ _) n2;have HO:=ah (jm E st hf);have HX:=ah (cZ E hE ⟨#[45]⟩ st true hx);have HU:=ah (fun w hp=>Eo E hE nest st w hp n1 bQ hd);clear hf hx hd n1 n2 hHI ex ih hn;go_enter Tryz.func311,Tryz.ntmps311;go_wp2_with (go_at_call 101;refine(HO.out w hp).mono ?_);rintro e w1 ⟨rfl,hp1,hk1⟩;go_wp2_with (go_at_call 165;refine(HX.out w1 hp1).mono ?_);rintro e w2 ⟨rfl,hp2,hk2⟩;go_wp2_with (go_at_call 317;refine(HU.out w2 hp2).mono ?_);rintro e w3 ⟨rfl,hp3,hk3⟩;go_wp2;go_ret;exact⟨rfl,hp3,(hk1.trans hk2).trans hk3⟩
  ·rw[if_neg (fun q=>hx q.2)] at h
   have HO:=ah (jm E st hf);have HX:=ah (cZ E hE ⟨#[45]⟩ st false (eq_false_of_ne_true hx));have HR:=ah (hHI _ _ _ h hn bQ);clear h hf hx hHI ex ih hn;go_enter Tryz.func311,Tryz.ntmps311;go_wp2_with (go_at_call 101;refine(HO.out w hp).mono ?_);rintro e w1 ⟨rfl,hp1,hk1⟩;go_wp2_with (go_at_call 165;refine(HX.out w1 hp1).mono ?_);rintro e w2 ⟨rfl,hp2,hk2⟩;go_wp2_with (go_at_call 318;refine(HR.out w2 hp2).mono ?_);rintro e w3 ⟨rfl,hp3,hk3⟩;go_wp2;go_ret;exact⟨rfl,hp3,(hk1.trans hk2).trans hk3⟩
 ·rw[if_neg (fun q=>hf q.1)] at h
  have HO:=ah (rJ E st hf);have HR:=ah (hHI _ _ _ h hn bQ);clear h hf hHI ex ih hn;go_enter Tryz.func311,Tryz.ntmps311;go_wp2_with (go_at_call 101;refine(HO.out w hp).mono ?_);rintro e w1 ⟨rfl,hp1,hk1⟩;go_wp2_with (go_at_call 318;refine(HR.out w1 hp1).mono ?_);rintro e w2 ⟨rfl,hp2,hk2⟩;go_wp2;go_ret;exact⟨rfl,hp2,hk1.trans hk2⟩
def abY (E:aT)(st:aB)(t:Tok)(w:World)(e:Ending)(w':World):Prop:=e=.returned (.agg #[.int .i64 t.kind,.string ⟨t.lead.toArray⟩,.string ⟨t.text.toArray⟩,.int .i64 t.place])∧PW E st w'∧Kp E.B w w'
theorem Yq (E:aT)(hE:E.ok)(st:aB)(w:World)(h:PW E st w) :
  Calls Tryz.prog 174 #[.pointer (some ⟨E.bb,0,none⟩)] w (abY E st (bL E.toks st.used) w) :=
 (wY E.R E.B E.bb E.tv E.toks st.used st.nodes w h.2.1 h.2.2.1 hE.1 h.2.2.2.2.1 hE.2.1).mono fun _e _w' ⟨he,hb⟩=>⟨he,h.later hb,Kp.of hb h.dL⟩
theorem sJ (E:aT)(hE:E.ok)(b c:ByteArray)(st:aB)(x:Bool)(hx:aS E.toks st [b.data.toList,c.data.toList]=x)(w:World)(h:PW E st w) :
  Calls Tryz.prog 165 #[.pointer (some ⟨E.pb,0,none⟩),.slice (some ⟨w.heap.size,0,none⟩) 2 2] (w.alloc (.cells #[.string b,.string c] 9)) (ql E st x w):=by
 subst hx;exact Ub E hE b c st w h
def mK (w:World)(b:Nat)(k:Nat):Prop:=∃ x y q:Value,w.heap[b]?=some (.cells #[.int .i64 k,x,y,q] 136)
theorem mK.kp {B:Nat}{w w':World}{b k:Nat}(h:mK w b k)(hk:Kp B w w'):mK w' b k:=by
 obtain⟨x,y,q,h⟩:=h;exact⟨x,y,q,hk.2 _ _ _ _ h (by decide) (by decide) (by decide)⟩
theorem mK.cell {w:World}{b k:Nat}(h:mK w b k):w.cell? ⟨b,0,none⟩=some (.int .i64 k):=by
 obtain⟨x,y,q,h⟩:=h;rw[Lib.cell_of_heap h];rfl
theorem mK.new (w:World)(k:Nat)(x y q:Value):mK (w.alloc (.cells #[.int .i64 k,x,y,q] 136)) w.heap.size k:=⟨x,y,q,heap_alloc_new _ _⟩
theorem QH (E:aT)(hE:E.ok)(g:Nat)(ih:Al E g)(nest:Nat)(st:aB)(r:Int × aB)(w:World)(h:run E.toks E.depth (g+1) (.atom nest) st=some r)(hp:PW E st w)(hn:r.2.nodes.length+1≤1099511627776)(bQ:nest≤E.depth) :
  Calls Tryz.prog 318 #[.pointer (some ⟨E.pb,0,none⟩),.int .i64 nest] w (dh E r w):=by
 have rT:=hE.2.2
 have hHI:∀ (t:Task) (st:aB) (r:Int × aB),run E.toks E.depth g t st=some r→r.2.nodes.length+1≤1099511627776→vD E t→∀ w,PW E st w→lQ E r w t:=fun t st r h1 h2 h3 w h4=>ih t st r w h1 h4 h2 h3
 have ex:=aN E.toks E.depth g;rw[run] at h;have hP:=Yq E hE st;generalize bL E.toks st.used=t at hP h;obtain⟨k,x,y,q⟩:=t;simp only at h;have HP:=ah hP;clear hP;have tf:=EY
 by_cases hf:st.fE≠0
 ·rw[if_pos hf] at h
  injection h with h;subst h
  have HO:=ah (rJ E st hf);clear hf hHI ex ih hn;go_enter Tryz.func318,Tryz.ntmps318;obtain⟨d0,_,_,_,_,_⟩:=hp.cells;go_wp2_with (go_at_call 174;refine(HP.out w hp).mono ?_);rintro e w0 ⟨rfl,hp0,hk0⟩;clear d0;have hT0:=mK.new w0 k (.string ⟨x.toArray⟩) (.string ⟨y.toArray⟩) (.int .i64 q);have vF:=hp0.later (aj w0 (.cells #[.int .i64 k,.string ⟨x.toArray⟩,.string ⟨y.toArray⟩,.int .i64 q] 136));have qW:=hk0.trans (Kp.of (aj w0 (.cells #[.int .i64 k,.string ⟨x.toArray⟩,.string ⟨y.toArray⟩,.int .i64 q] 136)) hp0.dL);go_wp2_with (go_at_call 101;refine(HO.out _ vF).mono ?_);rintro e w1 ⟨rfl,hp1,hk1⟩;go_wp2;go_ret;exact⟨rfl,hp1,qW.trans hk1⟩
 rw[if_neg hf] at h;have HO:=ah (jm E st (by simpa using hf));clear hf
 by_cases hk3:k=3
 ·rw[if_pos hk3] at h
  injection h with h;subst h
  have n2:=aC (aD _ _ _) hn;have n1:=aC (aJ _ _) n2
  have k3:((k:Int) == 3)=true:=by rw[beq_iff_eq];omega
  have HL:=ah (fun w hp=>bA E st w hp hE.1 hE.2.1 n1);have HN:=ah (fun w hp=>gP E 15 [(ay E.toks st).1] 1 _ (ay E.toks st).2 w hp rfl rfl (by omega) n2);clear n1 n2 hk3 hHI ex ih hn;go_enter Tryz.func318,Tryz.ntmps318;obtain⟨d0,_,_,_,_,_⟩:=hp.cells;go_wp2_with (go_at_call 174;refine(HP.out w hp).mono ?_);rintro e w0 ⟨rfl,hp0,hk0⟩;clear d0;have hT0:=mK.new w0 k (.string ⟨x.toArray⟩) (.string ⟨y.toArray⟩) (.int .i64 q);have vF:=hp0.later (aj w0 (.cells #[.int .i64 k,.string ⟨x.toArray⟩,.string ⟨y.toArray⟩,.int .i64 q] 136));have qW:=hk0.trans (Kp.of (aj w0 (.cells #[.int .i64 k,.string ⟨x.toArray⟩,.string ⟨y.toArray⟩,.int .i64 q] 136)) hp0.dL);go_wp2_with (go_at_call 101;refine(HO.out _ vF).mono ?_);rintro e w1 ⟨rfl,hp1,hk1⟩;have hT1:=hT0.kp hk1;have t1:=hT1.cell;obtain⟨d0,_,_,_,_,_⟩:=hp1.cells;go_wp2_with (go_at_call 167;refine(HL.out w1 hp1).mono ?_);rintro e w2 ⟨rfl,hp2,hk2⟩;clear d0;go_wp2_with (go_at_call 106;refine(HN.out w2 hp2).mono ?_);rintro e w3 ⟨rfl,hp3,hk3⟩;go_wp2;go_ret;exact⟨rfl,hp3,((qW.trans hk1).trans hk2).trans hk3⟩
 rw[if_neg hk3] at h
 have k3:((k:Int) == 3)=false:=by rw[← Bool.not_eq_true,beq_iff_eq];omega
 clear hk3
 by_cases hx1:aS E.toks st [OX,Mg]=true
 ·rw[if_pos hx1] at h
  injection h with h;subst h
  have n2:=aC (aD _ _ _) hn;have n1:=aC (aJ _ _) n2;have HX:=ah (sJ E hE ⟨#[116,114,117,101]⟩ ⟨#[102,97,108,115,101]⟩ st true hx1);have HL:=ah (fun w hp=>bA E st w hp hE.1 hE.2.1 n1);have HN:=ah (fun w hp=>gP E 16 [(ay E.toks st).1] 1 _ (ay E.toks st).2 w hp rfl rfl (by omega) n2);clear n1 n2 hx1 hHI ex ih hn;go_enter Tryz.func318,Tryz.ntmps318;obtain⟨d0,_,_,_,_,_⟩:=hp.cells;go_wp2_with (go_at_call 174;refine(HP.out w hp).mono ?_);rintro e w0 ⟨rfl,hp0,hk0⟩;clear d0;have hT0:=mK.new w0 k (.string ⟨x.toArray⟩) (.string ⟨y.toArray⟩) (.int .i64 q);have vF:=hp0.later (aj w0 (.cells #[.int .i64 k,.string ⟨x.toArray⟩,.string ⟨y.toArray⟩,.int .i64 q] 136));have qW:=hk0.trans (Kp.of (aj w0 (.cells #[.int .i64 k,.string ⟨x.toArray⟩,.string ⟨y.toArray⟩,.int .i64 q] 136)) hp0.dL);go_wp2_with (go_at_call 101;refine(HO.out _ vF).mono ?_);rintro e w1 ⟨rfl,hp1,hk1⟩;have hT1:=hT0.kp hk1;have t1:=hT1.cell;go_wp2_with (go_at_call 165;refine(HX.out w1 hp1).mono ?_);rintro e w2 ⟨rfl,hp2,hk2⟩;clear t1;obtain⟨d0,_,_,_,_,_⟩:=hp2.cells;go_wp2_with (go_at_call 167;refine(HL.out w2 hp2).mono ?_);rintro e w3 ⟨rfl,hp3,hk3⟩;clear d0;go_wp2_with (go_at_call 106;refine(HN.out w3 hp3).mono ?_);rintro e w4 ⟨rfl,nW,hk4⟩;go_wp2;go_ret;exact⟨rfl,nW,(((qW.trans hk1).trans hk2).trans hk3).trans hk4⟩
 rw[if_neg hx1] at h;have HX:=ah (sJ E hE ⟨#[116,114,117,101]⟩ ⟨#[102,97,108,115,101]⟩ st false (eq_false_of_ne_true hx1));clear hx1
 by_cases hx2:st.clause=true∧aS E.toks st [aaw]=true
 ·rw[if_pos hx2] at h
  injection h with h;subst h
  have n2:=aC (aD _ _ _) hn;have n1:=aC (aJ _ _) n2;have hc:=ah hx2.1;have HR:=ah (cZ E hE ⟨#[114,101,115]⟩ st true hx2.2);have HL:=ah (fun w hp=>bA E st w hp hE.1 hE.2.1 n1);have HN:=ah (fun w hp=>gP E 17 [(ay E.toks st).1] 1 _ (ay E.toks st).2 w hp rfl rfl (by omega) n2);clear n1 n2 hx2 hHI ex ih hn;go_enter Tryz.func318,Tryz.ntmps318;obtain⟨d0,_,_,_,_,_⟩:=hp.cells;go_wp2_with (go_at_call 174;refine(HP.out w hp).mono ?_);rintro e w0 ⟨rfl,hp0,hk0⟩;clear d0;have hT0:=mK.new w0 k (.string ⟨x.toArray⟩) (.string ⟨y.toArray⟩) (.int .i64 q);have vF:=hp0.later (aj w0 (.cells #[.int .i64 k,.string ⟨x.toArray⟩,.string ⟨y.toArray⟩,.int .i64 q] 136));have qW:=hk0.trans (Kp.of (aj w0 (.cells #[.int .i64 k,.string ⟨x.toArray⟩,.string ⟨y.toArray⟩,.int .i64 q] 136)) hp0.dL);go_wp2_with (go_at_call 101;refine(HO.out _ vF).mono ?_);rintro e w1 ⟨rfl,hp1,hk1⟩;have hT1:=hT0.kp hk1;have t1:=hT1.cell;go_wp2_with (go_at_call 165;refine(HX.out w1 hp1).mono ?_);rintro e w2 ⟨rfl,hp2,hk2⟩;clear t1;obtain⟨_,_,c2,_,_,_⟩:=hp2.cells;rw[hc.out] at c2;go_wp2_with (go_at_call 165;refine(HR.out w2 hp2).mono ?_);rintro e w3 ⟨rfl,hp3,hk3⟩;clear c2;obtain⟨d0,_,_,_,_,_⟩:=hp3.cells;go_wp2_with (go_at_call 167;refine(HL.out w3 hp3).mono ?_);rintro e w4 ⟨rfl,nW,hk4⟩;clear d0;go_wp2_with (go_at_call 106;refine(HN.out w4 nW).mono ?_);rintro e w5 ⟨rfl,rX,hk5⟩;go_wp2;go_ret;exact⟨rfl,rX,((((qW.trans hk1).trans hk2).trans hk3).trans hk4).trans hk5⟩
 rw[if_neg hx2] at h
 have HR:st.clause=true→Hid (∀ w,PW E st w→Calls Tryz.prog 165 #[.pointer (some ⟨E.pb,0,none⟩),.slice (some ⟨w.heap.size,0,none⟩) 1 1] (w.alloc (.cells #[.string ⟨#[114,101,115]⟩] 9)) (ql E st false w)):=fun hc=>ah (cZ E hE ⟨#[114,101,115]⟩ st false (eq_false_of_ne_true fun q=>hx2 ⟨hc,q⟩))
 clear hx2
 by_cases hx3:aS E.toks st [[40]]=true
 ·rw[if_pos hx3] at h
  obtain⟨b,h1,h⟩:=bH h
  injection h with h;subst h
  have n4:=aC (aD _ _ _) hn;have n3:=aC (aF _ _ _) n4;have n2:=aC (ex _ _ _ h1) n3;have n1:=aC (aJ _ _) n2;have HY:=ah (cZ E hE ⟨#[40]⟩ st true hx3);have HL:=ah (fun w hp=>bA E st w hp hE.1 hE.2.1 n1);have HE:=ah (hHI _ _ _ h1 n3 (by show nest+1≤_;omega));have HM:=ah (fun w hp=>dx E hE ⟨#[41]⟩ b.2 w hp n3);have HN:=ah (fun w hp=>gP E 12 [(ay E.toks st).1,b.1,(aA E.toks [[41]] b.2).1] 3 _ (aA E.toks [[41]] b.2).2 w hp rfl rfl (by omega) n4);clear n1 n2 n3 n4 h1 hx3 hHI ex ih hn
  by_cases hcl:st.clause=true
  ·have HR:=HR hcl
   have hc:=ah hcl;clear hcl;go_enter Tryz.func318,Tryz.ntmps318;obtain⟨d0,_,_,_,_,_⟩:=hp.cells;go_wp2_with (go_at_call 174;refine(HP.out w hp).mono ?_);rintro e w0 ⟨rfl,hp0,hk0⟩;clear d0;have hT0:=mK.new w0 k (.string ⟨x.toArray⟩) (.string ⟨y.toArray⟩) (.int .i64 q);have vF:=hp0.later (aj w0 (.cells #[.int .i64 k,.string ⟨x.toArray⟩,.string ⟨y.toArray⟩,.int .i64 q] 136));have qW:=hk0.trans (Kp.of (aj w0 (.cells #[.int .i64 k,.string ⟨x.toArray⟩,.string ⟨y.toArray⟩,.int .i64 q] 136)) hp0.dL);go_wp2_with (go_at_call 101;refine(HO.out _ vF).mono ?_);rintro e w1 ⟨rfl,hp1,hk1⟩;have hT1:=hT0.kp hk1;have t1:=hT1.cell;go_wp2_with (go_at_call 165;refine(HX.out w1 hp1).mono ?_);rintro e w2 ⟨rfl,hp2,hk2⟩;clear t1;obtain⟨_,_,c2,_,_,_⟩:=hp2.cells;rw[hc.out] at c2;go_wp2_with (go_at_call 165;refine(HR.out w2 hp2).mono ?_);rintro e w3 ⟨rfl,hp3,hk3⟩;clear c2;go_wp2_with (go_at_call 165;refine(HY.out w3 hp3).mono ?_);rintro e w4 ⟨rfl,nW,hk4⟩;obtain⟨d0,_,_,_,_,_⟩:=nW.cells;go_wp2_with (go_at_call 167;refine(HL.out w4 nW).mono ?_);rintro e w5 ⟨rfl,rX,hk5⟩;clear d0;go_wp2_with (go_at_call 172;refine(HE.out w5 rX).mono ?_);rintro e w6 ⟨rfl,BF,yB⟩;go_wp2_with (go_at_call 168;refine(HM.out w6 BF).mono ?_);rintro e w7 ⟨rfl,En,AA⟩;go_wp2_with (go_at_call 106;refine(HN.out w7 En).mono ?_);rintro e w8 ⟨rfl,QE,Ue⟩;go_wp2;go_ret;exact⟨rfl,QE,(((((((qW.trans hk1).trans hk2).trans hk3).trans hk4).trans hk5).trans yB).trans AA).trans Ue⟩
  ·have hc:=ah (eq_false_of_ne_true hcl)
   clear hcl HR;go_enter Tryz.func318,Tryz.ntmps318;obtain⟨d0,_,_,_,_,_⟩:=hp.cells;go_wp2_with (go_at_call 174;refine(HP.out w hp).mono ?_);rintro e w0 ⟨rfl,hp0,hk0⟩;clear d0;have hT0:=mK.new w0 k (.string ⟨x.toArray⟩) (.string ⟨y.toArray⟩) (.int .i64 q);have vF:=hp0.later (aj w0 (.cells #[.int .i64 k,.string ⟨x.toArray⟩,.string ⟨y.toArray⟩,.int .i64 q] 136));have qW:=hk0.trans (Kp.of (aj w0 (.cells #[.int .i64 k,.string ⟨x.toArray⟩,.string ⟨y.toArray⟩,.int .i64 q] 136)) hp0.dL);go_wp2_with (go_at_call 101;refine(HO.out _ vF).mono ?_);rintro e w1 ⟨rfl,hp1,hk1⟩;have hT1:=hT0.kp hk1;have t1:=hT1.cell;go_wp2_with (go_at_call 165;refine(HX.out w1 hp1).mono ?_);rintro e w2 ⟨rfl,hp2,hk2⟩;clear t1;obtain⟨_,_,c2,_,_,_⟩:=hp2.cells;rw[hc.out] at c2;go_wp2_with (go_at_call 165;refine(HY.out w2 hp2).mono ?_);rintro e w3 ⟨rfl,hp3,hk3⟩;clear c2;obtain⟨d0,_,_,_,_,_⟩:=hp3.cells;go_wp2_with (go_at_call 167;refine(HL.out w3 hp3).mono ?_);rintro e w4 ⟨rfl,nW,hk4⟩;clear d0;go_wp2_with (go_at_call 172;refine(HE.out w4 nW).mono ?_);rintro e w5 ⟨rfl,rX,hk5⟩;go_wp2_with (go_at_call 168;refine(HM.out w5 rX).mono ?_);rintro e w6 ⟨rfl,BF,yB⟩;go_wp2_with (go_at_call 106;refine(HN.out w6 BF).mono ?_);rintro e w7 ⟨rfl,En,AA⟩;go_wp2;go_ret;exact⟨rfl,En,((((((qW.trans hk1).trans hk2).trans hk3).trans hk4).trans hk5).trans yB).trans AA⟩
 rw[if_neg hx3] at h;have HY:=ah (cZ E hE ⟨#[40]⟩ st false (eq_false_of_ne_true hx3));clear hx3
 by_cases hk1:k=1
 ·rw[if_pos hk1] at h
  have k1:((k:Int) == 1)=true:=by rw[beq_iff_eq];omega
  have HN:=ah (hHI _ _ _ h hn bQ);clear h hk1 hHI ex ih hn
  by_cases hcl:st.clause=true
  ·have HR:=HR hcl
   have hc:=ah hcl;clear hcl;go_enter Tryz.func318,Tryz.ntmps318;obtain⟨d0,_,_,_,_,_⟩:=hp.cells;go_wp2_with (go_at_call 174;refine(HP.out w hp).mono ?_);rintro e w0 ⟨rfl,hp0,hk0⟩;clear d0;have hT0:=mK.new w0 k (.string ⟨x.toArray⟩) (.string ⟨y.toArray⟩) (.int .i64 q);have vF:=hp0.later (aj w0 (.cells #[.int .i64 k,.string ⟨x.toArray⟩,.string ⟨y.toArray⟩,.int .i64 q] 136));have qW:=hk0.trans (Kp.of (aj w0 (.cells #[.int .i64 k,.string ⟨x.toArray⟩,.string ⟨y.toArray⟩,.int .i64 q] 136)) hp0.dL);go_wp2_with (go_at_call 101;refine(HO.out _ vF).mono ?_);rintro e w1 ⟨rfl,hp1,hk1⟩;have hT1:=hT0.kp hk1;have t1:=hT1.cell;go_wp2_with (go_at_call 165;refine(HX.out w1 hp1).mono ?_);rintro e w2 ⟨rfl,hp2,hk2⟩;clear t1;have O1:=hT1.kp hk2;obtain⟨_,_,c2,_,_,_⟩:=hp2.cells;rw[hc.out] at c2;go_wp2_with (go_at_call 165;refine(HR.out w2 hp2).mono ?_);rintro e w3 ⟨rfl,hp3,hk3⟩;clear c2;have hT3:=O1.kp hk3;go_wp2_with (go_at_call 165;refine(HY.out w3 hp3).mono ?_);rintro e w4 ⟨rfl,nW,hk4⟩;have hT4:=hT3.kp hk4;have t4:=hT4.cell;go_wp2_with (go_at_call 323;refine(HN.out w4 nW).mono ?_);rintro e w5 ⟨rfl,rX,hk5⟩;go_wp2;go_ret;exact⟨rfl,rX,((((qW.trans hk1).trans hk2).trans hk3).trans hk4).trans hk5⟩
  ·have hc:=ah (eq_false_of_ne_true hcl)
   clear hcl HR;go_enter Tryz.func318,Tryz.ntmps318;obtain⟨d0,_,_,_,_,_⟩:=hp.cells;go_wp2_with (go_at_call 174;refine(HP.out w hp).mono ?_);rintro e w0 ⟨rfl,hp0,hk0⟩;clear d0;have hT0:=mK.new w0 k (.string ⟨x.toArray⟩) (.string ⟨y.toArray⟩) (.int .i64 q);have vF:=hp0.later (aj w0 (.cells #[.int .i64 k,.string ⟨x.toArray⟩,.string ⟨y.toArray⟩,.int .i64 q] 136));have qW:=hk0.trans (Kp.of (aj w0 (.cells #[.int .i64 k,.string ⟨x.toArray⟩,.string ⟨y.toArray⟩,.int .i64 q] 136)) hp0.dL);go_wp2_with (go_at_call 101;refine(HO.out _ vF).mono ?_);rintro e w1 ⟨rfl,hp1,hk1⟩;have hT1:=hT0.kp hk1;have t1:=hT1.cell;go_wp2_with (go_at_call 165;refine(HX.out w1 hp1).mono ?_);rintro e w2 ⟨rfl,hp2,hk2⟩;clear t1;have O1:=hT1.kp hk2;obtain⟨_,_,c2,_,_,_⟩:=hp2.cells;rw[hc.out] at c2;go_wp2_with (go_at_call 165;refine(HY.out w2 hp2).mono ?_);rintro e w3 ⟨rfl,hp3,hk3⟩;clear c2;have hT3:=O1.kp hk3;have t3:=hT3.cell;go_wp2_with (go_at_call 323;refine(HN.out w3 hp3).mono ?_);rintro e w4 ⟨rfl,nW,hk4⟩;go_wp2;go_ret;exact⟨rfl,nW,(((qW.trans hk1).trans hk2).trans hk3).trans hk4⟩
 ·rw[if_neg hk1] at h
  injection h with h;subst h
  have k1:((k:Int) == 1)=false:=by rw[← Bool.not_eq_true,beq_iff_eq];omega
  have HF:=ah (fun w hp=>ko E hE 22 st w hp);clear hk1 hHI ex ih hn
  by_cases hcl:st.clause=true
  ·have HR:=HR hcl
   have hc:=ah hcl;clear hcl;go_enter Tryz.func318,Tryz.ntmps318;obtain⟨d0,_,_,_,_,_⟩:=hp.cells;go_wp2_with (go_at_call 174;refine(HP.out w hp).mono ?_);rintro e w0 ⟨rfl,hp0,hk0⟩;clear d0;have hT0:=mK.new w0 k (.string ⟨x.toArray⟩) (.string ⟨y.toArray⟩) (.int .i64 q);have vF:=hp0.later (aj w0 (.cells #[.int .i64 k,.string ⟨x.toArray⟩,.string ⟨y.toArray⟩,.int .i64 q] 136));have qW:=hk0.trans (Kp.of (aj w0 (.cells #[.int .i64 k,.string ⟨x.toArray⟩,.string ⟨y.toArray⟩,.int .i64 q] 136)) hp0.dL);go_wp2_with (go_at_call 101;refine(HO.out _ vF).mono ?_);rintro e w1 ⟨rfl,hp1,hk1⟩;have hT1:=hT0.kp hk1;have t1:=hT1.cell;go_wp2_with (go_at_call 165;refine(HX.out w1 hp1).mono ?_);rintro e w2 ⟨rfl,hp2,hk2⟩;clear t1;have O1:=hT1.kp hk2;obtain⟨_,_,c2,_,_,_⟩:=hp2.cells;rw[hc.out] at c2;go_wp2_with (go_at_call 165;refine(HR.out w2 hp2).mono ?_);rintro e w3 ⟨rfl,hp3,hk3⟩;clear c2;have hT3:=O1.kp hk3;go_wp2_with (go_at_call 165;refine(HY.out w3 hp3).mono ?_);rintro e w4 ⟨rfl,nW,hk4⟩;have hT4:=hT3.kp hk4;have t4:=hT4.cell;go_wp2_with (go_at_call 166;refine(HF.out w4 nW).mono ?_);rintro e w5 ⟨rfl,rX,hk5⟩;go_wp2;go_ret;exact⟨rfl,rX,((((qW.trans hk1).trans hk2).trans hk3).trans hk4).trans hk5⟩
  ·have hc:=ah (eq_false_of_ne_true hcl)
   clear hcl HR;go_enter Tryz.func318,Tryz.ntmps318;obtain⟨d0,_,_,_,_,_⟩:=hp.cells;go_wp2_with (go_at_call 174;refine(HP.out w hp).mono ?_);rintro e w0 ⟨rfl,hp0,hk0⟩;clear d0;have hT0:=mK.new w0 k (.string ⟨x.toArray⟩) (.string ⟨y.toArray⟩) (.int .i64 q);have vF:=hp0.later (aj w0 (.cells #[.int .i64 k,.string ⟨x.toArray⟩,.string ⟨y.toArray⟩,.int .i64 q] 136));have qW:=hk0.trans (Kp.of (aj w0 (.cells #[.int .i64 k,.string ⟨x.toArray⟩,.string ⟨y.toArray⟩,.int .i64 q] 136)) hp0.dL);go_wp2_with (go_at_call 101;refine(HO.out _ vF).mono ?_);rintro e w1 ⟨rfl,hp1,hk1⟩;have hT1:=hT0.kp hk1;have t1:=hT1.cell;go_wp2_with (go_at_call 165;refine(HX.out w1 hp1).mono ?_);rintro e w2 ⟨rfl,hp2,hk2⟩;clear t1;have O1:=hT1.kp hk2;obtain⟨_,_,c2,_,_,_⟩:=hp2.cells;rw[hc.out] at c2;go_wp2_with (go_at_call 165;refine(HY.out w2 hp2).mono ?_);rintro e w3 ⟨rfl,hp3,hk3⟩;clear c2;have hT3:=O1.kp hk3;have t3:=hT3.cell;go_wp2_with (go_at_call 166;refine(HF.out w3 hp3).mono ?_);rintro e w4 ⟨rfl,nW,hk4⟩;go_wp2;go_ret;exact⟨rfl,nW,(((qW.trans hk1).trans hk2).trans hk3).trans hk4⟩
end Go.Proofs.YtknicmmigbhpcaaGreatDoor

namespace Go.Proofs.YtknicmmigbhpcaaGreatDoor
open Go.RowKit Go
def abZ (l:List (List UInt8))(w:World)(e:Ending)(w':World):Prop:=∃ b n,e=.returned (.slice (some ⟨b,0,none⟩) n n)∧jZ w' (.slice (some ⟨b,0,none⟩) n n) l∧Below w.heap.size w w'
theorem sK (w:World)(bs:List ByteArray):jZ (w.alloc (.cells (bs.map Value.string).toArray 9)) (.slice (some ⟨w.heap.size,0,none⟩) bs.length bs.length) (bs.map (·.data.toList)):=by
 refine⟨w.heap.size,0,bs.length,by simp,by simp,fun j hj=>?_⟩;rw[Lib.cell_of_heap (heap_alloc_new _ _)];simp only[List.length_map] at hj;simp[hj]
theorem vG (l:Nat)(hl:l≤4)(w:World) :
  Calls Tryz.prog 299 #[.int .i64 l] w (abZ (yI l) w):=by
 have hc:l=0∨l=1∨l=2∨l=3∨l=4:=by omega
 rcases hc with rfl|rfl|rfl|rfl|rfl<;>
 ·go_enter Tryz.func299,Tryz.ntmps299
  go_wp2;go_ret
  first
   | exact⟨_,_,rfl,sK w [⟨#[124,124]⟩],aj _ _⟩
   | exact⟨_,_,rfl,sK w [⟨#[38,38]⟩],aj _ _⟩
   | exact⟨_,_,rfl,sK w [⟨#[61]⟩,⟨#[60,62]⟩,⟨#[60]⟩,⟨#[60,61]⟩,⟨#[62]⟩,⟨#[62,61]⟩],aj _ _⟩
   | exact⟨_,_,rfl,sK w [⟨#[43]⟩,⟨#[45]⟩],aj _ _⟩
   | exact⟨_,_,rfl,sK w [⟨#[42]⟩,⟨#[47]⟩,⟨#[37]⟩],aj _ _⟩
def aaD (E:aT)(l nest:Nat)(r:Int × aB)(w:World)(g k:Nat)(av:Value)(wr:World):Prop :=
 ∃ (a:Int) (s:aB),av=.int .i64 a∧k≤g∧run E.toks E.depth k (.loop l nest a) s=some r∧PW E s wr∧Kp E.B w wr
theorem EZ (l:Nat):(yI l).length≤1000:=by
 match l with
 | 0=>decide
 | 1=>decide
 | 2=>decide
 | 3=>decide
 | n+4=>simp[yI]
theorem Ug (E:aT)(hE:E.ok)(v:Value)(l:List (List UInt8))(st:aB)(x:Bool)(hx:aS E.toks st l=x)(hl:l.length≤1000)(w:World)(h:PW E st w)(hv:jZ w v l) :
  Calls Tryz.prog 165 #[.pointer (some ⟨E.pb,0,none⟩),v] w (ql E st x w):=by
 subst hx;refine(sG E v l st w h hv hE.1 hE.2.1 hl).mono ?_;rintro e w' ⟨rfl,hb⟩;exact⟨rfl,h.later hb,Kp.of hb h.dL⟩
theorem row_step (E:aT)(hE:E.ok)(g:Nat)(ih:∀ g',g'≤g→Al E g')(l nest:Nat)(st:aB)(r:Int × aB)(w:World)(h:run E.toks E.depth (g+1) (.row l nest) st=some r)(hp:PW E st w)(hn:r.2.nodes.length+1≤1099511627776)(bQ:l≤4∧nest≤E.depth) :
  Calls Tryz.prog 277 #[.pointer (some ⟨E.pb,0,none⟩),.int .i64 l,.int .i64 nest] w (dh E r w):=by
 have rT:=hE.2.2;rw[run] at h;obtain⟨a,h0,h⟩:=bH h;have n1:=aC (aN E.toks E.depth g _ _ _ h) hn;have HP:=ah (fun w hp=>ih g (Nat.le_refl _) _ _ _ w h0 hp n1 bQ);have IH:=ah ih;have H0:=ah h;have HN0:=ah hn;clear h h0 n1 ih hn;obtain⟨hl,bQ⟩:=bQ;go_enter Tryz.func277,Tryz.ntmps277;go_wp2_with (go_at_call 298;refine(HP.out w hp).mono ?_);rintro e w1 ⟨rfl,hp1,hk1⟩;go_wp2
 go_loopg [7] g (fun k av wr=>aaD E l nest r w g k av wr)
 case atStart=>exact⟨_,_,rfl,Nat.le_refl _,H0.out,hp1,hk1⟩
 case round =>
  obtain⟨a',s,rfl,hle,hr,hps,hks⟩:=hrel
  cases gk with
  | zero=>rw[run] at hr;cases hr
  | succ k =>
   rw[run] at hr
   by_cases hf:s.fE=0
   ·have HO:=ah (jm E s hf)
    by_cases hx:aS E.toks s (yI l)=true
    ·rw[if_pos ⟨hf,hx⟩] at hr
     have HX:=ah (fun w hp v=>Ug E hE v _ s true hx (EZ l) w hp);obtain⟨b,h1,hr⟩:=bH hr
     have nb:b.2.nodes.length+1≤1099511627776:=by
      by_cases l2:l=2
      ·rw[if_pos l2] at hr
       injection hr with hr
       subst hr;exact aC (aD _ _ _) HN0.out
      ·rw[if_neg l2] at hr
       exact aC ((aD _ _ _).trans (aN E.toks E.depth k _ _ _ hr)) HN0.out
     have n2:=aC (aN E.toks E.depth k _ _ _ h1) nb;have n1:=aC (aJ _ _) n2;have HL:=ah (fun w hp=>bA E s w hp hE.1 hE.2.1 n1);have HQ:=ah (fun w hp=>IH.out k (by omega) _ _ _ w h1 hp nb ⟨hl,bQ⟩);have HN:=ah (fun w hp=>gP E 10 [a',(ay E.toks s).1,b.1] 3 _ b.2 w hp rfl rfl (by omega) nb);clear h1 nb n1 n2 hf hx
     by_cases l2:l=2
     ·rw[if_pos l2] at hr
      injection hr with hr
      have HR:=ah hr
      have k2:((l:Int) == 2)=true:=by rw[beq_iff_eq];omega
      clear hr l2;go_wp2_with (go_at_call 101;refine(HO.out _ hps).mono ?_);rintro e v1 ⟨rfl,Ep,MB⟩;go_wp2_with (go_at_call 299;refine(vG l hl _).mono ?_);rintro e v2 ⟨sb,sn,rfl,hsv,hbw2⟩;have Uh:=Ep.later hbw2;go_wp2_with (go_at_call 165;refine(HX.out _ Uh _ hsv).mono ?_);rintro e v3 ⟨rfl,MC,Ui⟩;clear hsv;obtain⟨d0,_,_,_,_,_⟩:=MC.cells;go_wp2_with (go_at_call 167;refine(HL.out _ MC).mono ?_);rintro e v4 ⟨rfl,aaE,aaF⟩;clear d0;go_wp2_with (go_at_call 298;refine(HQ.out _ aaE).mono ?_);rintro e v5 ⟨rfl,aaG,QI⟩;go_wp2_with (go_at_call 106;refine(HN.out _ aaG).mono ?_);rintro e v6 ⟨rfl,aaH,aaI⟩;go_wp2;go_ret;refine⟨?_,?_,((((((hks.trans MB).trans (Kp.of hbw2 Ep.dL)).trans Ui).trans aaF).trans QI).trans aaI)⟩
      ·rw[← HR.out];rfl
      ·rw[← HR.out];exact aaH
     ·rw[if_neg l2] at hr
      have HR:=ah hr
      have k2:((l:Int) == 2)=false:=by rw[← Bool.not_eq_true,beq_iff_eq];omega
      clear hr l2;go_wp2_with (go_at_call 101;refine(HO.out _ hps).mono ?_);rintro e v1 ⟨rfl,Ep,MB⟩;go_wp2_with (go_at_call 299;refine(vG l hl _).mono ?_);rintro e v2 ⟨sb,sn,rfl,hsv,hbw2⟩;have Uh:=Ep.later hbw2;go_wp2_with (go_at_call 165;refine(HX.out _ Uh _ hsv).mono ?_);rintro e v3 ⟨rfl,MC,Ui⟩;clear hsv;obtain⟨d0,_,_,_,_,_⟩:=MC.cells;go_wp2_with (go_at_call 167;refine(HL.out _ MC).mono ?_);rintro e v4 ⟨rfl,aaE,aaF⟩;clear d0;go_wp2_with (go_at_call 298;refine(HQ.out _ aaE).mono ?_);rintro e v5 ⟨rfl,aaG,QI⟩;go_wp2_with (go_at_call 106;refine(HN.out _ aaG).mono ?_);rintro e v6 ⟨rfl,aaH,aaI⟩;go_wp2
      go_roundg k
      case measure=>omega
      case rel=>exact⟨_,_,rfl,by omega,HR.out,aaH,((((((hks.trans MB).trans (Kp.of hbw2 Ep.dL)).trans Ui).trans aaF).trans QI).trans aaI)⟩
    ·rw[if_neg (fun q=>hx q.2)] at hr
     injection hr with hr
     have HX:=ah (fun w hp v=>Ug E hE v _ s false (eq_false_of_ne_true hx) (EZ l) w hp);have HR:=ah hr;clear hr hf hx;go_wp2_with (go_at_call 101;refine(HO.out _ hps).mono ?_);rintro e v1 ⟨rfl,Ep,MB⟩;go_wp2_with (go_at_call 299;refine(vG l hl _).mono ?_);rintro e v2 ⟨sb,sn,rfl,hsv,hbw2⟩;have Uh:=Ep.later hbw2;go_wp2_with (go_at_call 165;refine(HX.out _ Uh _ hsv).mono ?_);rintro e v3 ⟨rfl,MC,Ui⟩;clear hsv;go_wp2;go_ret;refine⟨?_,?_,(((hks.trans MB).trans (Kp.of hbw2 Ep.dL)).trans Ui)⟩
     ·rw[← HR.out];rfl
     ·rw[← HR.out];exact MC
   ·rw[if_neg (fun q=>hf q.1)] at hr
    injection hr with hr
    have HO:=ah (rJ E s hf);have HR:=ah hr;clear hr hf;go_wp2_with (go_at_call 101;refine(HO.out _ hps).mono ?_);rintro e v1 ⟨rfl,Ep,MB⟩;go_wp2;go_ret;refine⟨?_,?_,hks.trans MB⟩
    ·rw[← HR.out];rfl
    ·rw[← HR.out];exact Ep
end Go.Proofs.YtknicmmigbhpcaaGreatDoor
