/- Walks and plain laws: ParseW9, ParseW10, ParseW11, ParseW12, ParseW13, ParseW14, ParseW15. -/
import Derived.Test.YtmhdgeekclhbbaaGreatDoorR06
import Derived.Deep.LoopGhost
set_option maxHeartbeats 16000000
set_option maxRecDepth 100000
set_option linter.unusedVariables false
set_option linter.unusedSimpArgs false
namespace Go.Proofs.YtmhdgeekclhbbaaGreatDoor
open Go.RowKit
theorem UN (E:bG)(hE:E.ok)(aF:Nat)(st:aJ)(b:Int × aJ)(w:World)(hp:PW E st w)(n1:st.aj.length+1≤1099511627776)(n4:b.2.aj.length+1≤1099511627776)(dG:aF≤E.depth)
  (hd:(aX E.ah E.depth (aF+1) (aD E.ah st).2).fE=0)
  (hb:∀ w,PW E (aX E.ah E.depth (aF+1) (aD E.ah st).2) w→Calls Tryz.prog 306 #[.pointer (some ⟨E.pb,0,none⟩),.int .i64 ((aF+1:Nat):Int)] w (dZ E b w)) :
  Calls Tryz.prog 313 #[.pointer (some ⟨E.pb,0,none⟩),.int .i64 aF,.func (.func 306) #[.pointer (some ⟨E.pb,0,none⟩)] #[]] w (dZ E (bJ 11 [(aD E.ah st).1,b.1] b.2) w):=by
 have vg:=hE.2.2;have HL:=ay (fun w hp=>bT E st w hp hE.1 hE.2.1 n1);have HD:=ay (J2 E hE (aF+1) _ hd);have HF:=ay hb;have HN:=ay (fun w hp=>iQ E 11 [(aD E.ah st).1,b.1] 2 _ b.2 w hp rfl rfl (by omega) n4);clear hd hb n1 n4;go_enter Tryz.func313,Tryz.ntmps313;obtain⟨d0,_,_,_,_,_⟩:=hp.cells;go_wp2_with (go_at_call 162;refine(HL.out w hp).mono ?_);rintro e w1 ⟨rfl,hp1,hk1⟩;clear d0;go_wp2_with (go_at_call 229;refine(HD.out w1 hp1).mono ?_);rintro e w2 ⟨rfl,hp2,hk2⟩;go_wp2_with (go_at_call 306;refine(HF.out w2 hp2).mono ?_);rintro e w3 ⟨rfl,hp3,gM⟩;go_wp2_with (go_at_call 101;refine(HN.out w3 hp3).mono ?_);rintro e w4 ⟨rfl,qo,hk4⟩;go_wp2;go_ret;exact⟨rfl,qo,((hk1.trans hk2).trans gM).trans hk4⟩
theorem Qr (E:bG)(hE:E.ok)(aF:Nat)(st:aJ)(w:World)(hp:PW E st w)(n1:st.aj.length+1≤1099511627776)(dG:aF≤E.depth)
  (hd:(aX E.ah E.depth (aF+1) (aD E.ah st).2).fE≠0) :
  Calls Tryz.prog 313 #[.pointer (some ⟨E.pb,0,none⟩),.int .i64 aF,.func (.func 306) #[.pointer (some ⟨E.pb,0,none⟩)] #[]] w (dZ E (0,aX E.ah E.depth (aF+1) (aD E.ah st).2) w):=by
 have vg:=hE.2.2;have HL:=ay (fun w hp=>bT E st w hp hE.1 hE.2.1 n1);have HD:=ay (Eo E hE (aF+1) _ hd);clear hd n1;go_enter Tryz.func313,Tryz.ntmps313;obtain⟨d0,_,_,_,_,_⟩:=hp.cells;go_wp2_with (go_at_call 162;refine(HL.out w hp).mono ?_);rintro e w1 ⟨rfl,hp1,hk1⟩;clear d0;go_wp2_with (go_at_call 229;refine(HD.out w1 hp1).mono ?_);rintro e w2 ⟨rfl,hp2,hk2⟩;go_wp2;go_ret;exact⟨rfl,hp2,hk1.trans hk2⟩
theorem XM (E:bG)(hE:E.ok)(g:Nat)(ih:CU E g)(aF:Nat)(st:aJ)(r:Int × aJ)(w:World)(h:run E.ah E.depth (g+1) (.neg aF) st=some r)(hp:PW E st w)(hn:r.2.aj.length+1≤1099511627776)(dG:aF≤E.depth) :
  Calls Tryz.prog 306 #[.pointer (some ⟨E.pb,0,none⟩),.int .i64 aF] w (dZ E r w):=by
 have vg:=hE.2.2
 have hHI:∀ (t:Task) (st:aJ) (r:Int × aJ),run E.ah E.depth g t st=some r→r.2.aj.length+1≤1099511627776→yw E t→∀ w,PW E st w→oq E r w t:=fun t st r h1 h2 h3 w h4=>ih t st r w h1 h4 h2 h3
 have ex:=bg E.ah E.depth g;rw[run] at h
 by_cases hf:st.fE=0
 ·by_cases hx:bF E.ah st [aaW]=true
  ·rw[if_pos ⟨hf,hx⟩] at h
   by_cases hd:(aX E.ah E.depth (aF+1) (aD E.ah st).2).fE=0
   ·rw[if_neg (by simp[hd])] at h
    obtain⟨b,h1,h⟩:=cK h
    injection h with h;subst h
    have n4:=aK (aL _ _ _) hn;have n3:=aK (ex _ _ _ h1) n4;have n2:=aK (fK _ _ _ _) n3;have n1:=aK (aO _ _) n2;have HO:=ay (jW E st hf);have HX:=ay (dW E hE ⟨#[110,111,116]⟩ st true hx);have HU:=ay (fun w hp=>UN E hE aF st b w hp n1 n4 dG hd (hHI _ _ _ h1 n4 (AZ E _ _ hd)));clear h1 hf hx hd n1 n2 n3 n4 hHI ex ih hn;go_enter Tryz.func306,Tryz.ntmps306;go_wp2_with (go_at_call 96;refine(HO.out w hp).mono ?_);rintro e w1 ⟨rfl,hp1,hk1⟩;go_wp2_with (go_at_call 160;refine(HX.out w1 hp1).mono ?_);rintro e w2 ⟨rfl,hp2,hk2⟩;go_wp2_with (go_at_call 313;refine(HU.out w2 hp2).mono ?_);rintro e w3 ⟨rfl,hp3,gM⟩;go_wp2;go_ret;exact⟨rfl,hp3,(hk1.trans hk2).trans gM⟩
   ·rw[if_pos hd] at h
    injection h with h;subst h
    have n2:=aK (fK _ _ _ _) hn;have n1:=aK (aO _ _) n2;have HO:=ay (jW E st hf);have HX:=ay (dW E hE ⟨#[110,111,116]⟩ st true hx);have HU:=ay (fun w hp=>Qr E hE aF st w hp n1 dG hd);clear hf hx hd n1 n2 hHI ex ih hn;go_enter Tryz.func306,Tryz.ntmps306;go_wp2_with (go_at_call 96;refine(HO.out w hp).mono ?_);rintro e w1 ⟨rfl,hp1,hk1⟩;go_wp2_with (go_at_call 160;refine(HX.out w1 hp1).mono ?_);rintro e w2 ⟨rfl,hp2,hk2⟩;go_wp2_with (go_at_call 313;refine(HU.out w2 hp2).mono ?_);rintro e w3 ⟨rfl,hp3,gM⟩;go_wp2;go_ret;exact⟨rfl,hp3,(hk1.trans hk2).trans gM⟩
  ·rw[if_neg (fun q=>hx q.2)] at h
   have HO:=ay (jW E st hf);have HX:=ay (dW E hE ⟨#[110,111,116]⟩ st false (eq_false_of_ne_true hx));have HR:=ay (hHI _ _ _ h hn ⟨by decide,dG⟩);clear h hf hx hHI ex ih hn;go_enter Tryz.func306,Tryz.ntmps306;go_wp2_with (go_at_call 96;refine(HO.out w hp).mono ?_);rintro e w1 ⟨rfl,hp1,hk1⟩;go_wp2_with (go_at_call 160;refine(HX.out w1 hp1).mono ?_);rintro e w2 ⟨rfl,hp2,hk2⟩;go_wp2_with (go_at_call 273;refine(HR.out w2 hp2).mono ?_);rintro e w3 ⟨rfl,hp3,gM⟩;go_wp2;go_ret;exact⟨rfl,hp3,(hk1.trans hk2).trans gM⟩
 ·rw[if_neg (fun q=>hf q.1)] at h
  have HO:=ay (uT E st hf);have HR:=ay (hHI _ _ _ h hn ⟨by decide,dG⟩);clear h hf hHI ex ih hn;go_enter Tryz.func306,Tryz.ntmps306;go_wp2_with (go_at_call 96;refine(HO.out w hp).mono ?_);rintro e w1 ⟨rfl,hp1,hk1⟩;go_wp2_with (go_at_call 273;refine(HR.out w1 hp1).mono ?_);rintro e w2 ⟨rfl,hp2,hk2⟩;go_wp2;go_ret;exact⟨rfl,hp2,hk1.trans hk2⟩
theorem J4 (E:bG)(hE:E.ok)(aF:Nat)(st:aJ)(b:Int × aJ)(w:World)(hp:PW E st w)(n1:st.aj.length+1≤1099511627776)(n4:b.2.aj.length+1≤1099511627776)(dG:aF≤E.depth)
  (hd:(aX E.ah E.depth (aF+1) (aD E.ah st).2).fE=0)
  (hb:∀ w,PW E (aX E.ah E.depth (aF+1) (aD E.ah st).2) w→Calls Tryz.prog 307 #[.pointer (some ⟨E.pb,0,none⟩),.int .i64 ((aF+1:Nat):Int)] w (dZ E b w)) :
  Calls Tryz.prog 313 #[.pointer (some ⟨E.pb,0,none⟩),.int .i64 aF,.func (.func 307) #[.pointer (some ⟨E.pb,0,none⟩)] #[]] w (dZ E (bJ 11 [(aD E.ah st).1,b.1] b.2) w):=by
 have vg:=hE.2.2;have HL:=ay (fun w hp=>bT E st w hp hE.1 hE.2.1 n1);have HD:=ay (J2 E hE (aF+1) _ hd);have HF:=ay hb;have HN:=ay (fun w hp=>iQ E 11 [(aD E.ah st).1,b.1] 2 _ b.2 w hp rfl rfl (by omega) n4);clear hd hb n1 n4;go_enter Tryz.func313,Tryz.ntmps313;obtain⟨d0,_,_,_,_,_⟩:=hp.cells;go_wp2_with (go_at_call 162;refine(HL.out w hp).mono ?_);rintro e w1 ⟨rfl,hp1,hk1⟩;clear d0;go_wp2_with (go_at_call 229;refine(HD.out w1 hp1).mono ?_);rintro e w2 ⟨rfl,hp2,hk2⟩;go_wp2_with (go_at_call 307;refine(HF.out w2 hp2).mono ?_);rintro e w3 ⟨rfl,hp3,gM⟩;go_wp2_with (go_at_call 101;refine(HN.out w3 hp3).mono ?_);rintro e w4 ⟨rfl,qo,hk4⟩;go_wp2;go_ret;exact⟨rfl,qo,((hk1.trans hk2).trans gM).trans hk4⟩
theorem GX (E:bG)(hE:E.ok)(aF:Nat)(st:aJ)(w:World)(hp:PW E st w)(n1:st.aj.length+1≤1099511627776)(dG:aF≤E.depth)
  (hd:(aX E.ah E.depth (aF+1) (aD E.ah st).2).fE≠0) :
  Calls Tryz.prog 313 #[.pointer (some ⟨E.pb,0,none⟩),.int .i64 aF,.func (.func 307) #[.pointer (some ⟨E.pb,0,none⟩)] #[]] w (dZ E (0,aX E.ah E.depth (aF+1) (aD E.ah st).2) w):=by
 have vg:=hE.2.2;have HL:=ay (fun w hp=>bT E st w hp hE.1 hE.2.1 n1);have HD:=ay (Eo E hE (aF+1) _ hd);clear hd n1;go_enter Tryz.func313,Tryz.ntmps313;obtain⟨d0,_,_,_,_,_⟩:=hp.cells;go_wp2_with (go_at_call 162;refine(HL.out w hp).mono ?_);rintro e w1 ⟨rfl,hp1,hk1⟩;clear d0;go_wp2_with (go_at_call 229;refine(HD.out w1 hp1).mono ?_);rintro e w2 ⟨rfl,hp2,hk2⟩;go_wp2;go_ret;exact⟨rfl,hp2,hk1.trans hk2⟩
theorem Nc (E:bG)(hE:E.ok)(g:Nat)(ih:CU E g)(aF:Nat)(st:aJ)(r:Int × aJ)(w:World)(h:run E.ah E.depth (g+1) (.factor aF) st=some r)(hp:PW E st w)(hn:r.2.aj.length+1≤1099511627776)(dG:aF≤E.depth) :
  Calls Tryz.prog 307 #[.pointer (some ⟨E.pb,0,none⟩),.int .i64 aF] w (dZ E r w):=by
 have vg:=hE.2.2
 have hHI:∀ (t:Task) (st:aJ) (r:Int × aJ),run E.ah E.depth g t st=some r→r.2.aj.length+1≤1099511627776→yw E t→∀ w,PW E st w→oq E r w t:=fun t st r h1 h2 h3 w h4=>ih t st r w h1 h4 h2 h3
 have ex:=bg E.ah E.depth g;rw[run] at h
 by_cases hf:st.fE=0
 ·by_cases hx:bF E.ah st [[45]]=true
  ·rw[if_pos ⟨hf,hx⟩] at h
   by_cases hd:(aX E.ah E.depth (aF+1) (aD E.ah st).2).fE=0
   ·rw[if_neg (by simp[hd])] at h
    obtain⟨b,h1,h⟩:=cK h
    injection h with h;subst h
    have n4:=aK (aL _ _ _) hn;have n3:=aK (ex _ _ _ h1) n4;have n2:=aK (fK _ _ _ _) n3;have n1:=aK (aO _ _) n2;have HO:=ay (jW E st hf);have HX:=ay (dW E hE ⟨#[45]⟩ st true hx);have HU:=ay (fun w hp=>J4 E hE aF st b w hp n1 n4 dG hd (hHI _ _ _ h1 n4 (AZ E _ _ hd)));clear h1 hf hx hd n1 n2 n3 n4 hHI ex ih hn;go_enter Tryz.func307,Tryz.ntmps307;go_wp2_with (go_at_call 96;refine(HO.out w hp).mono ?_);rintro e w1 ⟨rfl,hp1,hk1⟩;go_wp2_with (go_at_call 160;refine(HX.out w1 hp1).mono ?_);rintro e w2 ⟨rfl,hp2,hk2⟩;go_wp2_with (go_at_call 313;refine(HU.out w2 hp2).mono ?_);rintro e w3 ⟨rfl,hp3,gM⟩;go_wp2;go_ret;exact⟨rfl,hp3,(hk1.trans hk2).trans gM⟩
   ·rw[if_pos hd] at h
    injection h with h;subst h
    have n2:=aK (fK _ _ _ _) hn;have n1:=aK (aO _ _) n2;have HO:=ay (jW E st hf);have HX:=ay (dW E hE ⟨#[45]⟩ st true hx);have HU:=ay (fun w hp=>GX E hE aF st w hp n1 dG hd);clear hf hx hd n1 n2 hHI ex ih hn;go_enter Tryz.func307,Tryz.ntmps307;go_wp2_with (go_at_call 96;refine(HO.out w hp).mono ?_);rintro e w1 ⟨rfl,hp1,hk1⟩;go_wp2_with (go_at_call 160;refine(HX.out w1 hp1).mono ?_);rintro e w2 ⟨rfl,hp2,hk2⟩;go_wp2_with (go_at_call 313;refine(HU.out w2 hp2).mono ?_);rintro e w3 ⟨rfl,hp3,gM⟩;go_wp2;go_ret;exact⟨rfl,hp3,(hk1.trans hk2).trans gM⟩
  ·rw[if_neg (fun q=>hx q.2)] at h
   have HO:=ay (jW E st hf);have HX:=ay (dW E hE ⟨#[45]⟩ st false (eq_false_of_ne_true hx));have HR:=ay (hHI _ _ _ h hn dG);clear h hf hx hHI ex ih hn;go_enter Tryz.func307,Tryz.ntmps307;go_wp2_with (go_at_call 96;refine(HO.out w hp).mono ?_);rintro e w1 ⟨rfl,hp1,hk1⟩;go_wp2_with (go_at_call 160;refine(HX.out w1 hp1).mono ?_);rintro e w2 ⟨rfl,hp2,hk2⟩;go_wp2_with (go_at_call 314;refine(HR.out w2 hp2).mono ?_);rintro e w3 ⟨rfl,hp3,gM⟩;go_wp2;go_ret;exact⟨rfl,hp3,(hk1.trans hk2).trans gM⟩
 ·rw[if_neg (fun q=>hf q.1)] at h
  have HO:=ay (uT E st hf);have HR:=ay (hHI _ _ _ h hn dG);clear h hf hHI ex ih hn;go_enter Tryz.func307,Tryz.ntmps307;go_wp2_with (go_at_call 96;refine(HO.out w hp).mono ?_);rintro e w1 ⟨rfl,hp1,hk1⟩;go_wp2_with (go_at_call 314;refine(HR.out w1 hp1).mono ?_);rintro e w2 ⟨rfl,hp2,hk2⟩;go_wp2;go_ret;exact⟨rfl,hp2,hk1.trans hk2⟩
def aem (E:bG)(st:aJ)(t:Tok)(w:World)(e:Ending)(w':World):Prop:=e=.returned (.agg #[.int .i64 t.kind,.string ⟨t.lead.toArray⟩,.string ⟨t.text.toArray⟩,.int .i64 t.place])∧PW E st w'∧Kp E.B w w'
theorem abu (E:bG)(hE:E.ok)(st:aJ)(w:World)(h:PW E st w) :
  Calls Tryz.prog 169 #[.pointer (some ⟨E.bb,0,none⟩)] w (aem E st (dh E.ah st.used) w) :=
 (zx E.R E.B E.bb E.tv E.ah st.used st.aj w h.2.1 h.2.2.1 hE.1 h.2.2.2.2.1 hE.2.1).mono fun _e _w' ⟨he,hb⟩=>⟨he,h.later hb,Kp.of hb h.fq⟩
theorem vR (E:bG)(hE:E.ok)(b c:ByteArray)(st:aJ)(x:Bool)(hx:bF E.ah st [b.data.toList,c.data.toList]=x)(w:World)(h:PW E st w) :
  Calls Tryz.prog 160 #[.pointer (some ⟨E.pb,0,none⟩),.slice (some ⟨w.heap.size,0,none⟩) 2 2] (w.alloc (.cells #[.string b,.string c] 9)) (sW E st x w):=by
 subst hx;exact Xz E hE b c st w h
def o9 (w:World)(b:Nat)(k:Nat):Prop:=∃ x y q:Value,w.heap[b]?=some (.cells #[.int .i64 k,x,y,q] 131)
theorem o9.kp {B:Nat}{w w':World}{b k:Nat}(h:o9 w b k)(hk:Kp B w w'):o9 w' b k:=by
 obtain⟨x,y,q,h⟩:=h;exact⟨x,y,q,hk.2 _ _ _ _ h (by decide) (by decide) (by decide)⟩
theorem o9.cell {w:World}{b k:Nat}(h:o9 w b k):w.cell? ⟨b,0,none⟩=some (.int .i64 k):=by
 obtain⟨x,y,q,h⟩:=h;rw[aV h];rfl
theorem o9.new (w:World)(k:Nat)(x y q:Value):o9 (w.alloc (.cells #[.int .i64 k,x,y,q] 131)) w.heap.size k:=⟨x,y,q,aY _ _⟩
theorem UO (E:bG)(hE:E.ok)(g:Nat)(ih:CU E g)(aF:Nat)(st:aJ)(r:Int × aJ)(w:World)(h:run E.ah E.depth (g+1) (.atom aF) st=some r)(hp:PW E st w)(hn:r.2.aj.length+1≤1099511627776)(dG:aF≤E.depth) :
  Calls Tryz.prog 314 #[.pointer (some ⟨E.pb,0,none⟩),.int .i64 aF] w (dZ E r w):=by
 have vg:=hE.2.2
 have hHI:∀ (t:Task) (st:aJ) (r:Int × aJ),run E.ah E.depth g t st=some r→r.2.aj.length+1≤1099511627776→yw E t→∀ w,PW E st w→oq E r w t:=fun t st r h1 h2 h3 w h4=>ih t st r w h1 h4 h2 h3
 have ex:=bg E.ah E.depth g;rw[run] at h;have hP:=abu E hE st;generalize dh E.ah st.used=t at hP h;obtain⟨k,x,y,q⟩:=t;simp only at h;have HP:=ay hP;clear hP;have tf:=Ik
 by_cases hf:st.fE≠0
 ·rw[if_pos hf] at h
  injection h with h;subst h
  have HO:=ay (uT E st hf);clear hf hHI ex ih hn;go_enter Tryz.func314,Tryz.ntmps314;obtain⟨d0,_,_,_,_,_⟩:=hp.cells;go_wp2_with (go_at_call 169;refine(HP.out w hp).mono ?_);rintro e w0 ⟨rfl,hp0,hk0⟩;clear d0;have hT0:=o9.new w0 k (.string ⟨x.toArray⟩) (.string ⟨y.toArray⟩) (.int .i64 q);have yB:=hp0.later (aB w0 (.cells #[.int .i64 k,.string ⟨x.toArray⟩,.string ⟨y.toArray⟩,.int .i64 q] 131));have uH:=hk0.trans (Kp.of (aB w0 (.cells #[.int .i64 k,.string ⟨x.toArray⟩,.string ⟨y.toArray⟩,.int .i64 q] 131)) hp0.fq);go_wp2_with (go_at_call 96;refine(HO.out _ yB).mono ?_);rintro e w1 ⟨rfl,hp1,hk1⟩;go_wp2;go_ret;exact⟨rfl,hp1,uH.trans hk1⟩
 rw[if_neg hf] at h;have HO:=ay (jW E st (by simpa using hf));clear hf
 by_cases gM:k=3
 ·rw[if_pos gM] at h
  injection h with h;subst h
  have n2:=aK (aL _ _ _) hn;have n1:=aK (aO _ _) n2
  have k3:((k:Int) == 3)=true:=by rw[beq_iff_eq];omega
  have HL:=ay (fun w hp=>bT E st w hp hE.1 hE.2.1 n1);have HN:=ay (fun w hp=>iQ E 15 [(aD E.ah st).1] 1 _ (aD E.ah st).2 w hp rfl rfl (by omega) n2);clear n1 n2 gM hHI ex ih hn;go_enter Tryz.func314,Tryz.ntmps314;obtain⟨d0,_,_,_,_,_⟩:=hp.cells;go_wp2_with (go_at_call 169;refine(HP.out w hp).mono ?_);rintro e w0 ⟨rfl,hp0,hk0⟩;clear d0;have hT0:=o9.new w0 k (.string ⟨x.toArray⟩) (.string ⟨y.toArray⟩) (.int .i64 q);have yB:=hp0.later (aB w0 (.cells #[.int .i64 k,.string ⟨x.toArray⟩,.string ⟨y.toArray⟩,.int .i64 q] 131));have uH:=hk0.trans (Kp.of (aB w0 (.cells #[.int .i64 k,.string ⟨x.toArray⟩,.string ⟨y.toArray⟩,.int .i64 q] 131)) hp0.fq);go_wp2_with (go_at_call 96;refine(HO.out _ yB).mono ?_);rintro e w1 ⟨rfl,hp1,hk1⟩;have hT1:=hT0.kp hk1;have t1:=hT1.cell;obtain⟨d0,_,_,_,_,_⟩:=hp1.cells;go_wp2_with (go_at_call 162;refine(HL.out w1 hp1).mono ?_);rintro e w2 ⟨rfl,hp2,hk2⟩;clear d0;go_wp2_with (go_at_call 101;refine(HN.out w2 hp2).mono ?_);rintro e w3 ⟨rfl,hp3,gM⟩;go_wp2;go_ret;exact⟨rfl,hp3,((uH.trans hk1).trans hk2).trans gM⟩
 rw[if_neg gM] at h
 have k3:((k:Int) == 3)=false:=by rw[← Bool.not_eq_true,beq_iff_eq];omega
 clear gM
 by_cases hx1:bF E.ah st [Sw,PL]=true
 ·rw[if_pos hx1] at h
  injection h with h;subst h
  have n2:=aK (aL _ _ _) hn;have n1:=aK (aO _ _) n2;have HX:=ay (vR E hE ⟨#[116,114,117,101]⟩ ⟨#[102,97,108,115,101]⟩ st true hx1);have HL:=ay (fun w hp=>bT E st w hp hE.1 hE.2.1 n1);have HN:=ay (fun w hp=>iQ E 16 [(aD E.ah st).1] 1 _ (aD E.ah st).2 w hp rfl rfl (by omega) n2);clear n1 n2 hx1 hHI ex ih hn;go_enter Tryz.func314,Tryz.ntmps314;obtain⟨d0,_,_,_,_,_⟩:=hp.cells;go_wp2_with (go_at_call 169;refine(HP.out w hp).mono ?_);rintro e w0 ⟨rfl,hp0,hk0⟩;clear d0;have hT0:=o9.new w0 k (.string ⟨x.toArray⟩) (.string ⟨y.toArray⟩) (.int .i64 q);have yB:=hp0.later (aB w0 (.cells #[.int .i64 k,.string ⟨x.toArray⟩,.string ⟨y.toArray⟩,.int .i64 q] 131));have uH:=hk0.trans (Kp.of (aB w0 (.cells #[.int .i64 k,.string ⟨x.toArray⟩,.string ⟨y.toArray⟩,.int .i64 q] 131)) hp0.fq);go_wp2_with (go_at_call 96;refine(HO.out _ yB).mono ?_);rintro e w1 ⟨rfl,hp1,hk1⟩;have hT1:=hT0.kp hk1;have t1:=hT1.cell;go_wp2_with (go_at_call 160;refine(HX.out w1 hp1).mono ?_);rintro e w2 ⟨rfl,hp2,hk2⟩;clear t1;obtain⟨d0,_,_,_,_,_⟩:=hp2.cells;go_wp2_with (go_at_call 162;refine(HL.out w2 hp2).mono ?_);rintro e w3 ⟨rfl,hp3,gM⟩;clear d0;go_wp2_with (go_at_call 101;refine(HN.out w3 hp3).mono ?_);rintro e w4 ⟨rfl,qo,hk4⟩;go_wp2;go_ret;exact⟨rfl,qo,(((uH.trans hk1).trans hk2).trans gM).trans hk4⟩
 rw[if_neg hx1] at h;have HX:=ay (vR E hE ⟨#[116,114,117,101]⟩ ⟨#[102,97,108,115,101]⟩ st false (eq_false_of_ne_true hx1));clear hx1
 by_cases hx2:st.aC=true∧bF E.ah st [acL]=true
 ·rw[if_pos hx2] at h
  injection h with h;subst h
  have n2:=aK (aL _ _ _) hn;have n1:=aK (aO _ _) n2;have hc:=ay hx2.1;have HR:=ay (dW E hE ⟨#[114,101,115]⟩ st true hx2.2);have HL:=ay (fun w hp=>bT E st w hp hE.1 hE.2.1 n1);have HN:=ay (fun w hp=>iQ E 17 [(aD E.ah st).1] 1 _ (aD E.ah st).2 w hp rfl rfl (by omega) n2);clear n1 n2 hx2 hHI ex ih hn;go_enter Tryz.func314,Tryz.ntmps314;obtain⟨d0,_,_,_,_,_⟩:=hp.cells;go_wp2_with (go_at_call 169;refine(HP.out w hp).mono ?_);rintro e w0 ⟨rfl,hp0,hk0⟩;clear d0;have hT0:=o9.new w0 k (.string ⟨x.toArray⟩) (.string ⟨y.toArray⟩) (.int .i64 q);have yB:=hp0.later (aB w0 (.cells #[.int .i64 k,.string ⟨x.toArray⟩,.string ⟨y.toArray⟩,.int .i64 q] 131));have uH:=hk0.trans (Kp.of (aB w0 (.cells #[.int .i64 k,.string ⟨x.toArray⟩,.string ⟨y.toArray⟩,.int .i64 q] 131)) hp0.fq);go_wp2_with (go_at_call 96;refine(HO.out _ yB).mono ?_);rintro e w1 ⟨rfl,hp1,hk1⟩;have hT1:=hT0.kp hk1;have t1:=hT1.cell;go_wp2_with (go_at_call 160;refine(HX.out w1 hp1).mono ?_);rintro e w2 ⟨rfl,hp2,hk2⟩;clear t1;obtain⟨_,_,c2,_,_,_⟩:=hp2.cells;rw[hc.out] at c2;go_wp2_with (go_at_call 160;refine(HR.out w2 hp2).mono ?_);rintro e w3 ⟨rfl,hp3,gM⟩;clear c2;obtain⟨d0,_,_,_,_,_⟩:=hp3.cells;go_wp2_with (go_at_call 162;refine(HL.out w3 hp3).mono ?_);rintro e w4 ⟨rfl,qo,hk4⟩;clear d0;go_wp2_with (go_at_call 101;refine(HN.out w4 qo).mono ?_);rintro e w5 ⟨rfl,uG,lM⟩;go_wp2;go_ret;exact⟨rfl,uG,((((uH.trans hk1).trans hk2).trans gM).trans hk4).trans lM⟩
 rw[if_neg hx2] at h
 have HR:st.aC=true→Hid (∀ w,PW E st w→Calls Tryz.prog 160 #[.pointer (some ⟨E.pb,0,none⟩),.slice (some ⟨w.heap.size,0,none⟩) 1 1] (w.alloc (.cells #[.string ⟨#[114,101,115]⟩] 9)) (sW E st false w)):=fun hc=>ay (dW E hE ⟨#[114,101,115]⟩ st false (eq_false_of_ne_true fun q=>hx2 ⟨hc,q⟩))
 clear hx2
 by_cases hx3:bF E.ah st [[40]]=true
 ·rw[if_pos hx3] at h
  obtain⟨b,h1,h⟩:=cK h
  injection h with h;subst h
  have n4:=aK (aL _ _ _) hn;have n3:=aK (aM _ _ _) n4;have n2:=aK (ex _ _ _ h1) n3;have n1:=aK (aO _ _) n2;have HY:=ay (dW E hE ⟨#[40]⟩ st true hx3);have HL:=ay (fun w hp=>bT E st w hp hE.1 hE.2.1 n1);have HE:=ay (hHI _ _ _ h1 n3 (by show aF+1≤_;omega));have HM:=ay (fun w hp=>eu E hE ⟨#[41]⟩ b.2 w hp n3);have HN:=ay (fun w hp=>iQ E 12 [(aD E.ah st).1,b.1,(aH E.ah [[41]] b.2).1] 3 _ (aH E.ah [[41]] b.2).2 w hp rfl rfl (by omega) n4);clear n1 n2 n3 n4 h1 hx3 hHI ex ih hn
  by_cases hcl:st.aC=true
  ·have HR:=HR hcl
   have hc:=ay hcl;clear hcl;go_enter Tryz.func314,Tryz.ntmps314;obtain⟨d0,_,_,_,_,_⟩:=hp.cells;go_wp2_with (go_at_call 169;refine(HP.out w hp).mono ?_);rintro e w0 ⟨rfl,hp0,hk0⟩;clear d0;have hT0:=o9.new w0 k (.string ⟨x.toArray⟩) (.string ⟨y.toArray⟩) (.int .i64 q);have yB:=hp0.later (aB w0 (.cells #[.int .i64 k,.string ⟨x.toArray⟩,.string ⟨y.toArray⟩,.int .i64 q] 131));have uH:=hk0.trans (Kp.of (aB w0 (.cells #[.int .i64 k,.string ⟨x.toArray⟩,.string ⟨y.toArray⟩,.int .i64 q] 131)) hp0.fq);go_wp2_with (go_at_call 96;refine(HO.out _ yB).mono ?_);rintro e w1 ⟨rfl,hp1,hk1⟩;have hT1:=hT0.kp hk1;have t1:=hT1.cell;go_wp2_with (go_at_call 160;refine(HX.out w1 hp1).mono ?_);rintro e w2 ⟨rfl,hp2,hk2⟩;clear t1;obtain⟨_,_,c2,_,_,_⟩:=hp2.cells;rw[hc.out] at c2;go_wp2_with (go_at_call 160;refine(HR.out w2 hp2).mono ?_);rintro e w3 ⟨rfl,hp3,gM⟩;clear c2;go_wp2_with (go_at_call 160;refine(HY.out w3 hp3).mono ?_);rintro e w4 ⟨rfl,qo,hk4⟩;obtain⟨d0,_,_,_,_,_⟩:=qo.cells;go_wp2_with (go_at_call 162;refine(HL.out w4 qo).mono ?_);rintro e w5 ⟨rfl,uG,lM⟩;clear d0;go_wp2_with (go_at_call 167;refine(HE.out w5 uG).mono ?_);rintro e w6 ⟨rfl,En,vw⟩;go_wp2_with (go_at_call 163;refine(HM.out w6 En).mono ?_);rintro e w7 ⟨rfl,GV,Dk⟩;go_wp2_with (go_at_call 101;refine(HN.out w7 GV).mono ?_);rintro e w8 ⟨rfl,UL,CY⟩;go_wp2;go_ret;exact⟨rfl,UL,(((((((uH.trans hk1).trans hk2).trans gM).trans hk4).trans lM).trans vw).trans Dk).trans CY⟩
  ·have hc:=ay (eq_false_of_ne_true hcl)
   clear hcl HR;go_enter Tryz.func314,Tryz.ntmps314;obtain⟨d0,_,_,_,_,_⟩:=hp.cells;go_wp2_with (go_at_call 169;refine(HP.out w hp).mono ?_);rintro e w0 ⟨rfl,hp0,hk0⟩;clear d0;have hT0:=o9.new w0 k (.string ⟨x.toArray⟩) (.string ⟨y.toArray⟩) (.int .i64 q);have yB:=hp0.later (aB w0 (.cells #[.int .i64 k,.string ⟨x.toArray⟩,.string ⟨y.toArray⟩,.int .i64 q] 131));have uH:=hk0.trans (Kp.of (aB w0 (.cells #[.int .i64 k,.string ⟨x.toArray⟩,.string ⟨y.toArray⟩,.int .i64 q] 131)) hp0.fq);go_wp2_with (go_at_call 96;refine(HO.out _ yB).mono ?_);rintro e w1 ⟨rfl,hp1,hk1⟩;have hT1:=hT0.kp hk1;have t1:=hT1.cell;go_wp2_with (go_at_call 160;refine(HX.out w1 hp1).mono ?_);rintro e w2 ⟨rfl,hp2,hk2⟩;clear t1;obtain⟨_,_,c2,_,_,_⟩:=hp2.cells;rw[hc.out] at c2;go_wp2_with (go_at_call 160;refine(HY.out w2 hp2).mono ?_);rintro e w3 ⟨rfl,hp3,gM⟩;clear c2;obtain⟨d0,_,_,_,_,_⟩:=hp3.cells;go_wp2_with (go_at_call 162;refine(HL.out w3 hp3).mono ?_);rintro e w4 ⟨rfl,qo,hk4⟩;clear d0;go_wp2_with (go_at_call 167;refine(HE.out w4 qo).mono ?_);rintro e w5 ⟨rfl,uG,lM⟩;go_wp2_with (go_at_call 163;refine(HM.out w5 uG).mono ?_);rintro e w6 ⟨rfl,En,vw⟩;go_wp2_with (go_at_call 101;refine(HN.out w6 En).mono ?_);rintro e w7 ⟨rfl,GV,Dk⟩;go_wp2;go_ret;exact⟨rfl,GV,((((((uH.trans hk1).trans hk2).trans gM).trans hk4).trans lM).trans vw).trans Dk⟩
 rw[if_neg hx3] at h;have HY:=ay (dW E hE ⟨#[40]⟩ st false (eq_false_of_ne_true hx3));clear hx3
 by_cases hk1:k=1
 ·rw[if_pos hk1] at h
  have k1:((k:Int) == 1)=true:=by rw[beq_iff_eq];omega
  have HN:=ay (hHI _ _ _ h hn dG);clear h hk1 hHI ex ih hn
  by_cases hcl:st.aC=true
  ·have HR:=HR hcl
   have hc:=ay hcl;clear hcl;go_enter Tryz.func314,Tryz.ntmps314;obtain⟨d0,_,_,_,_,_⟩:=hp.cells;go_wp2_with (go_at_call 169;refine(HP.out w hp).mono ?_);rintro e w0 ⟨rfl,hp0,hk0⟩;clear d0;have hT0:=o9.new w0 k (.string ⟨x.toArray⟩) (.string ⟨y.toArray⟩) (.int .i64 q);have yB:=hp0.later (aB w0 (.cells #[.int .i64 k,.string ⟨x.toArray⟩,.string ⟨y.toArray⟩,.int .i64 q] 131));have uH:=hk0.trans (Kp.of (aB w0 (.cells #[.int .i64 k,.string ⟨x.toArray⟩,.string ⟨y.toArray⟩,.int .i64 q] 131)) hp0.fq);go_wp2_with (go_at_call 96;refine(HO.out _ yB).mono ?_);rintro e w1 ⟨rfl,hp1,hk1⟩;have hT1:=hT0.kp hk1;have t1:=hT1.cell;go_wp2_with (go_at_call 160;refine(HX.out w1 hp1).mono ?_);rintro e w2 ⟨rfl,hp2,hk2⟩;clear t1;have SN:=hT1.kp hk2;obtain⟨_,_,c2,_,_,_⟩:=hp2.cells;rw[hc.out] at c2;go_wp2_with (go_at_call 160;refine(HR.out w2 hp2).mono ?_);rintro e w3 ⟨rfl,hp3,gM⟩;clear c2;have XO:=SN.kp gM;go_wp2_with (go_at_call 160;refine(HY.out w3 hp3).mono ?_);rintro e w4 ⟨rfl,qo,hk4⟩;have hT4:=XO.kp hk4;have t4:=hT4.cell;go_wp2_with (go_at_call 319;refine(HN.out w4 qo).mono ?_);rintro e w5 ⟨rfl,uG,lM⟩;go_wp2;go_ret;exact⟨rfl,uG,((((uH.trans hk1).trans hk2).trans gM).trans hk4).trans lM⟩
  ·have hc:=ay (eq_false_of_ne_true hcl)
   clear hcl HR;go_enter Tryz.func314,Tryz.ntmps314;obtain⟨d0,_,_,_,_,_⟩:=hp.cells;go_wp2_with (go_at_call 169;refine(HP.out w hp).mono ?_);rintro e w0 ⟨rfl,hp0,hk0⟩;clear d0;have hT0:=o9.new w0 k (.string ⟨x.toArray⟩) (.string ⟨y.toArray⟩) (.int .i64 q);have yB:=hp0.later (aB w0 (.cells #[.int .i64 k,.string ⟨x.toArray⟩,.string ⟨y.toArray⟩,.int .i64 q] 131));have uH:=hk0.trans (Kp.of (aB w0 (.cells #[.int .i64 k,.string ⟨x.toArray⟩,.string ⟨y.toArray⟩,.int .i64 q] 131)) hp0.fq);go_wp2_with (go_at_call 96;refine(HO.out _ yB).mono ?_);rintro e w1 ⟨rfl,hp1,hk1⟩;have hT1:=hT0.kp hk1;have t1:=hT1.cell;go_wp2_with (go_at_call 160;refine(HX.out w1 hp1).mono ?_);rintro e w2 ⟨rfl,hp2,hk2⟩;clear t1;have SN:=hT1.kp hk2;obtain⟨_,_,c2,_,_,_⟩:=hp2.cells;rw[hc.out] at c2;go_wp2_with (go_at_call 160;refine(HY.out w2 hp2).mono ?_);rintro e w3 ⟨rfl,hp3,gM⟩;clear c2;have XO:=SN.kp gM;have t3:=XO.cell;go_wp2_with (go_at_call 319;refine(HN.out w3 hp3).mono ?_);rintro e w4 ⟨rfl,qo,hk4⟩;go_wp2;go_ret;exact⟨rfl,qo,(((uH.trans hk1).trans hk2).trans gM).trans hk4⟩
 ·rw[if_neg hk1] at h
  injection h with h;subst h
  have k1:((k:Int) == 1)=false:=by rw[← Bool.not_eq_true,beq_iff_eq];omega
  have HF:=ay (fun w hp=>mF E hE 22 st w hp);clear hk1 hHI ex ih hn
  by_cases hcl:st.aC=true
  ·have HR:=HR hcl
   have hc:=ay hcl;clear hcl;go_enter Tryz.func314,Tryz.ntmps314;obtain⟨d0,_,_,_,_,_⟩:=hp.cells;go_wp2_with (go_at_call 169;refine(HP.out w hp).mono ?_);rintro e w0 ⟨rfl,hp0,hk0⟩;clear d0;have hT0:=o9.new w0 k (.string ⟨x.toArray⟩) (.string ⟨y.toArray⟩) (.int .i64 q);have yB:=hp0.later (aB w0 (.cells #[.int .i64 k,.string ⟨x.toArray⟩,.string ⟨y.toArray⟩,.int .i64 q] 131));have uH:=hk0.trans (Kp.of (aB w0 (.cells #[.int .i64 k,.string ⟨x.toArray⟩,.string ⟨y.toArray⟩,.int .i64 q] 131)) hp0.fq);go_wp2_with (go_at_call 96;refine(HO.out _ yB).mono ?_);rintro e w1 ⟨rfl,hp1,hk1⟩;have hT1:=hT0.kp hk1;have t1:=hT1.cell;go_wp2_with (go_at_call 160;refine(HX.out w1 hp1).mono ?_);rintro e w2 ⟨rfl,hp2,hk2⟩;clear t1;have SN:=hT1.kp hk2;obtain⟨_,_,c2,_,_,_⟩:=hp2.cells;rw[hc.out] at c2;go_wp2_with (go_at_call 160;refine(HR.out w2 hp2).mono ?_);rintro e w3 ⟨rfl,hp3,gM⟩;clear c2;have XO:=SN.kp gM;go_wp2_with (go_at_call 160;refine(HY.out w3 hp3).mono ?_);rintro e w4 ⟨rfl,qo,hk4⟩;have hT4:=XO.kp hk4;have t4:=hT4.cell;go_wp2_with (go_at_call 161;refine(HF.out w4 qo).mono ?_);rintro e w5 ⟨rfl,uG,lM⟩;go_wp2;go_ret;exact⟨rfl,uG,((((uH.trans hk1).trans hk2).trans gM).trans hk4).trans lM⟩
  ·have hc:=ay (eq_false_of_ne_true hcl)
   clear hcl HR;go_enter Tryz.func314,Tryz.ntmps314;obtain⟨d0,_,_,_,_,_⟩:=hp.cells;go_wp2_with (go_at_call 169;refine(HP.out w hp).mono ?_);rintro e w0 ⟨rfl,hp0,hk0⟩;clear d0;have hT0:=o9.new w0 k (.string ⟨x.toArray⟩) (.string ⟨y.toArray⟩) (.int .i64 q);have yB:=hp0.later (aB w0 (.cells #[.int .i64 k,.string ⟨x.toArray⟩,.string ⟨y.toArray⟩,.int .i64 q] 131));have uH:=hk0.trans (Kp.of (aB w0 (.cells #[.int .i64 k,.string ⟨x.toArray⟩,.string ⟨y.toArray⟩,.int .i64 q] 131)) hp0.fq);go_wp2_with (go_at_call 96;refine(HO.out _ yB).mono ?_);rintro e w1 ⟨rfl,hp1,hk1⟩;have hT1:=hT0.kp hk1;have t1:=hT1.cell;go_wp2_with (go_at_call 160;refine(HX.out w1 hp1).mono ?_);rintro e w2 ⟨rfl,hp2,hk2⟩;clear t1;have SN:=hT1.kp hk2;obtain⟨_,_,c2,_,_,_⟩:=hp2.cells;rw[hc.out] at c2;go_wp2_with (go_at_call 160;refine(HY.out w2 hp2).mono ?_);rintro e w3 ⟨rfl,hp3,gM⟩;clear c2;have XO:=SN.kp gM;have t3:=XO.cell;go_wp2_with (go_at_call 161;refine(HF.out w3 hp3).mono ?_);rintro e w4 ⟨rfl,qo,hk4⟩;go_wp2;go_ret;exact⟨rfl,qo,(((uH.trans hk1).trans hk2).trans gM).trans hk4⟩
end Go.Proofs.YtmhdgeekclhbbaaGreatDoor

namespace Go.Proofs.YtmhdgeekclhbbaaGreatDoor
open Go.RowKit Go
def aen (l:List (List UInt8))(w:World)(e:Ending)(w':World):Prop:=∃ b n,e=.returned (.slice (some ⟨b,0,none⟩) n n)∧lV w' (.slice (some ⟨b,0,none⟩) n n) l∧Below w.heap.size w w'
theorem vS (w:World)(bs:List ByteArray):lV (w.alloc (.cells (bs.map Value.string).toArray 9)) (.slice (some ⟨w.heap.size,0,none⟩) bs.length bs.length) (bs.map (·.data.toList)):=by
 refine⟨w.heap.size,0,bs.length,by simp,by simp,fun j hj=>?_⟩;rw[aV (aY _ _)];simp only[List.length_map] at hj;simp[hj]
theorem yC (l:Nat)(hl:l≤4)(w:World) :
  Calls Tryz.prog 295 #[.int .i64 l] w (aen (Az l) w):=by
 have hc:l=0∨l=1∨l=2∨l=3∨l=4:=by omega
 rcases hc with rfl|rfl|rfl|rfl|rfl<;>
 ·go_enter Tryz.func295,Tryz.ntmps295
  go_wp2;go_ret
  first
   | exact⟨_,_,rfl,vS w [⟨#[124,124]⟩],aB _ _⟩
   | exact⟨_,_,rfl,vS w [⟨#[38,38]⟩],aB _ _⟩
   | exact⟨_,_,rfl,vS w [⟨#[61]⟩,⟨#[60,62]⟩,⟨#[60]⟩,⟨#[60,61]⟩,⟨#[62]⟩,⟨#[62,61]⟩],aB _ _⟩
   | exact⟨_,_,rfl,vS w [⟨#[43]⟩,⟨#[45]⟩],aB _ _⟩
   | exact⟨_,_,rfl,vS w [⟨#[42]⟩,⟨#[47]⟩,⟨#[37]⟩],aB _ _⟩
def acV (E:bG)(l aF:Nat)(r:Int × aJ)(w:World)(g k:Nat)(av:Value)(wr:World):Prop :=
 ∃ (a:Int) (s:aJ),av=.int .i64 a∧k≤g∧run E.ah E.depth k (.loop l aF a) s=some r∧PW E s wr∧Kp E.B w wr
theorem Iw (l:Nat):(Az l).length≤1000:=by
 match l with
 | 0=>decide
 | 1=>decide
 | 2=>decide
 | 3=>decide
 | n+4=>simp[Az]
theorem XP (E:bG)(hE:E.ok)(v:Value)(l:List (List UInt8))(st:aJ)(x:Bool)(hx:bF E.ah st l=x)(hl:l.length≤1000)(w:World)(h:PW E st w)(hv:lV w v l) :
  Calls Tryz.prog 160 #[.pointer (some ⟨E.pb,0,none⟩),v] w (sW E st x w):=by
 subst hx;refine(vM E v l st w h hv hE.1 hE.2.1 hl).mono ?_;rintro e w' ⟨rfl,hb⟩;exact⟨rfl,h.later hb,Kp.of hb h.fq⟩
theorem row_step (E:bG)(hE:E.ok)(g:Nat)(ih:∀ g',g'≤g→CU E g')(l aF:Nat)(st:aJ)(r:Int × aJ)(w:World)(h:run E.ah E.depth (g+1) (.row l aF) st=some r)(hp:PW E st w)(hn:r.2.aj.length+1≤1099511627776)(dG:l≤4∧aF≤E.depth) :
  Calls Tryz.prog 273 #[.pointer (some ⟨E.pb,0,none⟩),.int .i64 l,.int .i64 aF] w (dZ E r w):=by
 have vg:=hE.2.2;rw[run] at h;obtain⟨a,h0,h⟩:=cK h;have n1:=aK (bg E.ah E.depth g _ _ _ h) hn;have HP:=ay (fun w hp=>ih g (bD _) _ _ _ w h0 hp n1 dG);have IH:=ay ih;have H0:=ay h;have HN0:=ay hn;clear h h0 n1 ih hn;obtain⟨hl,dG⟩:=dG;go_enter Tryz.func273,Tryz.ntmps273;go_wp2_with (go_at_call 294;refine(HP.out w hp).mono ?_);rintro e w1 ⟨rfl,hp1,hk1⟩;go_wp2
 go_loopg [7] g (fun k av wr=>acV E l aF r w g k av wr)
 case atStart=>exact⟨_,_,rfl,bD _,H0.out,hp1,hk1⟩
 case round =>
  obtain⟨a',s,rfl,hle,hr,hps,hks⟩:=hrel
  cases gk with
  | zero=>rw[run] at hr;cases hr
  | succ k =>
   rw[run] at hr
   by_cases hf:s.fE=0
   ·have HO:=ay (jW E s hf)
    by_cases hx:bF E.ah s (Az l)=true
    ·rw[if_pos ⟨hf,hx⟩] at hr
     have HX:=ay (fun w hp v=>XP E hE v _ s true hx (Iw l) w hp);obtain⟨b,h1,hr⟩:=cK hr
     have nb:b.2.aj.length+1≤1099511627776:=by
      by_cases l2:l=2
      ·rw[if_pos l2] at hr
       injection hr with hr
       subst hr;exact aK (aL _ _ _) HN0.out
      ·rw[if_neg l2] at hr
       exact aK ((aL _ _ _).trans (bg E.ah E.depth k _ _ _ hr)) HN0.out
     have n2:=aK (bg E.ah E.depth k _ _ _ h1) nb;have n1:=aK (aO _ _) n2;have HL:=ay (fun w hp=>bT E s w hp hE.1 hE.2.1 n1);have HQ:=ay (fun w hp=>IH.out k (by omega) _ _ _ w h1 hp nb ⟨hl,dG⟩);have HN:=ay (fun w hp=>iQ E 10 [a',(aD E.ah s).1,b.1] 3 _ b.2 w hp rfl rfl (by omega) nb);clear h1 nb n1 n2 hf hx
     by_cases l2:l=2
     ·rw[if_pos l2] at hr
      injection hr with hr
      have HR:=ay hr
      have k2:((l:Int) == 2)=true:=by rw[beq_iff_eq];omega
      clear hr l2;go_wp2_with (go_at_call 96;refine(HO.out _ hps).mono ?_);rintro e v1 ⟨rfl,GY,Qs⟩;go_wp2_with (go_at_call 295;refine(yC l hl _).mono ?_);rintro e v2 ⟨sb,sn,rfl,hsv,lF⟩;have XQ:=GY.later lF;go_wp2_with (go_at_call 160;refine(HX.out _ XQ _ hsv).mono ?_);rintro e v3 ⟨rfl,Qt,XT⟩;clear hsv;obtain⟨d0,_,_,_,_,_⟩:=Qt.cells;go_wp2_with (go_at_call 162;refine(HL.out _ Qt).mono ?_);rintro e v4 ⟨rfl,acW,acX⟩;clear d0;go_wp2_with (go_at_call 294;refine(HQ.out _ acW).mono ?_);rintro e v5 ⟨rfl,acY,Nf⟩;go_wp2_with (go_at_call 101;refine(HN.out _ acY).mono ?_);rintro e v6 ⟨rfl,acZ,ac0⟩;go_wp2;go_ret;refine⟨?_,?_,((((((hks.trans Qs).trans (Kp.of lF GY.fq)).trans XT).trans acX).trans Nf).trans ac0)⟩
      ·rw[← HR.out];rfl
      ·rw[← HR.out];exact acZ
     ·rw[if_neg l2] at hr
      have HR:=ay hr
      have k2:((l:Int) == 2)=false:=by rw[← Bool.not_eq_true,beq_iff_eq];omega
      clear hr l2;go_wp2_with (go_at_call 96;refine(HO.out _ hps).mono ?_);rintro e v1 ⟨rfl,GY,Qs⟩;go_wp2_with (go_at_call 295;refine(yC l hl _).mono ?_);rintro e v2 ⟨sb,sn,rfl,hsv,lF⟩;have XQ:=GY.later lF;go_wp2_with (go_at_call 160;refine(HX.out _ XQ _ hsv).mono ?_);rintro e v3 ⟨rfl,Qt,XT⟩;clear hsv;obtain⟨d0,_,_,_,_,_⟩:=Qt.cells;go_wp2_with (go_at_call 162;refine(HL.out _ Qt).mono ?_);rintro e v4 ⟨rfl,acW,acX⟩;clear d0;go_wp2_with (go_at_call 294;refine(HQ.out _ acW).mono ?_);rintro e v5 ⟨rfl,acY,Nf⟩;go_wp2_with (go_at_call 101;refine(HN.out _ acY).mono ?_);rintro e v6 ⟨rfl,acZ,ac0⟩;go_wp2
      go_roundg k
      case measure=>omega
      case rel=>exact⟨_,_,rfl,by omega,HR.out,acZ,((((((hks.trans Qs).trans (Kp.of lF GY.fq)).trans XT).trans acX).trans Nf).trans ac0)⟩
    ·rw[if_neg (fun q=>hx q.2)] at hr
     injection hr with hr
     have HX:=ay (fun w hp v=>XP E hE v _ s false (eq_false_of_ne_true hx) (Iw l) w hp);have HR:=ay hr;clear hr hf hx;go_wp2_with (go_at_call 96;refine(HO.out _ hps).mono ?_);rintro e v1 ⟨rfl,GY,Qs⟩;go_wp2_with (go_at_call 295;refine(yC l hl _).mono ?_);rintro e v2 ⟨sb,sn,rfl,hsv,lF⟩;have XQ:=GY.later lF;go_wp2_with (go_at_call 160;refine(HX.out _ XQ _ hsv).mono ?_);rintro e v3 ⟨rfl,Qt,XT⟩;clear hsv;go_wp2;go_ret;refine⟨?_,?_,(((hks.trans Qs).trans (Kp.of lF GY.fq)).trans XT)⟩
     ·rw[← HR.out];rfl
     ·rw[← HR.out];exact Qt
   ·rw[if_neg (fun q=>hf q.1)] at hr
    injection hr with hr
    have HO:=ay (uT E s hf);have HR:=ay hr;clear hr hf;go_wp2_with (go_at_call 96;refine(HO.out _ hps).mono ?_);rintro e v1 ⟨rfl,GY,Qs⟩;go_wp2;go_ret;refine⟨?_,?_,hks.trans Qs⟩
    ·rw[← HR.out];rfl
    ·rw[← HR.out];exact GY
def PR (E:bG)(R:List Nat)(st:aJ)(w:World):Prop:=PW { E with R:=R } st w
theorem PR.drop {E:bG}{R:List Nat}{st:aJ}{w:World}(h:PR E R st w)(hR:∀ r∈E.R,r∈R):PW E st w:=by
 obtain⟨h1,⟨b1,nv,l,b2,b3,b4,b5⟩,h3,h4,h5,h6⟩:=h;exact⟨h1,⟨b1,nv,l,b2,b3,b4,fun p hp=>⟨(b5 p hp).1,fun b off n cap hv hn hb=>(b5 p hp).2 b off n cap hv hn (hR b hb)⟩⟩,h3,h4,h5,fun r hr=>h6 r (hR r hr)⟩
theorem PW.pr {E:bG}{st:aJ}{w:World}(h:PW E st w):PR E E.R st w:=h
def PR0 (E:bG)(R:List Nat)(st:aJ)(w:World):Prop :=
 w.heap[E.pb]?=some (.cells #[.pointer (some ⟨E.bb,0,none⟩),.int .i64 E.depth,.bool st.aC,.int .i64 st.fE,.int .i64 st.fAt] 184 (0,0)) ∧
  BW R E.B E.bb E.tv st.used st.aj w∧Rec E.B w E.tv 4 bV E.ah∧E.B≤E.pb∧st.used≤E.ah.length
theorem PR.less {E:bG}{R:List Nat}{st:aJ}{w:World}(h:PR E R st w):PR0 E R st w:=⟨h.1,h.2.1,h.2.2.1,h.2.2.2.1,h.2.2.2.2.1⟩
theorem PR0.full {E:bG}{R:List Nat}{st:aJ}{w:World}(h:PR0 E R st w)(hR:∀ r∈R,r<w.heap.size):PR E R st w:=⟨h.1,h.2.1,h.2.2.1,h.2.2.2.1,h.2.2.2.2,hR⟩
theorem PR0.more {E:bG}{R:List Nat}{st:aJ}{w:World}(h:PR0 E R st w)(g:Nat)(hg:w.heap.size≤g):PR0 E (g :: R) st w:=by
 obtain⟨h1,⟨b1,nv,l,b2,b3,b4,b5⟩,h3,h4,h5⟩:=h;refine⟨h1,⟨b1,nv,l,b2,b3,b4,fun p hp=>⟨(b5 p hp).1,fun b off n cap hv hn q=>?_⟩⟩,h3,h4,h5⟩
 rcases List.mem_cons.1 q with q|q
 ·obtain⟨ao,jE,hv',_,hf⟩:=(b5 p hp).1
  rw[hv] at hv';simp only[Value.slice.injEq] at hv';obtain⟨ha,hl,_⟩:=hv';obtain⟨b',off',cs,fr,he,hh,_⟩:=hf (by omega);rw[← ha] at he;simp only[Option.some.injEq,Addr.mk.injEq] at he;have:=(bS hh).1;omega
 ·exact(b5 p hp).2 b off n cap hv hn q
theorem PR.take {E:bG}{R:List Nat}{st:aJ}{w w':World}(h:PR E R st w)(hb:Below w.heap.size w w')(g:Nat)(hg:w.heap.size≤g)(hg':g<w'.heap.size):PR E (g :: R) st w':=by
 obtain⟨h1,h2,h3,h4,h5⟩:=h.less.more g hg;have hB:=PW.fq (E:={ E with R:=R }) h;have hlt:=(bS h1).1;refine⟨?_,h2.later hb,h3.below (hb.mono hB),h4,h5,fun r hr=>?_⟩
 ·rw[hb.block E.pb hlt];exact h1
 ·rcases List.mem_cons.1 hr with rfl|hr
  ·exact hg'
  ·exact Nat.lt_of_lt_of_le (h.2.2.2.2.2 r hr) hb.size
theorem PR0.grown {E:bG}{R:List Nat}{st:aJ}{w w':World}(h:PR0 E R st w){base n:Nat}{v:Value}{xs:List Value}(ho:w.ownsRow base 3 1 v n xs)(hB:E.B≤base)(hv:∀ b,v.ownBlock=some b→b∈R)(hg:w.grownBy w' v.ownBlock):PR0 E R st w':=by
 obtain⟨h1,⟨b1,nv,l,b2,b3,b4,b5⟩,h3,h4,h5⟩:=h;have hlt:=(bS h1).1;have hbel:Below E.B w w':=(bI _ _).grown hg (by omega) (fun k hk=>by have:=(ho.lt k hk).1;omega);refine⟨iI ho hg h1 (by decide),⟨b1,nv,l,iI ho hg b2 (by decide),b3,⟨b4.1,?_⟩,fun p hp=>?_⟩,h3.below hbel,h4,h5⟩
 ·rcases b4.2 with hn|⟨g,cap,cur,hv',hg',hh,hr⟩
  ·exact .inl hn
  ·exact .inr ⟨g,cap,cur,hv',hg',iI ho hg hh (by decide),hr⟩
 ·refine⟨?_,(b5 p hp).2⟩
  obtain⟨ao,cap,hv',hc,hf⟩:=(b5 p hp).1;refine⟨ao,cap,hv',hc,fun h0=>?_⟩;obtain⟨b,off,cs,fr,ha,hh,hj⟩:=hf h0;refine⟨b,off,cs,fr,ha,?_,hj⟩;subst ha;rw[hg.block b (bS hh).1]
  ·exact hh
  ·intro q
   have hout:=(b5 p hp).2;rw[hv'] at hout;exact hout b off _ cap rfl h0 (hv b q.symm)
theorem PR.append {E:bG}{R:List Nat}{st:aJ}{w w':World}(h:PR E R st w){base n H:Nat}{g:Nat}{v:Value}{xs:List Value}(ho:w.ownsRow base 3 1 v n xs)(hB:E.B≤base)(hv:∀ b,v.ownBlock=some b→b∈R)
  (hg:w.grownBy w' v.ownBlock) (hor:v.ownBlock=some g∨g=H) (hH:w.heap.size=H) (hlt:g<w'.heap.size) :
  ∃ R',(∀ r∈R,r∈R')∧g∈R'∧PR E R' st w':=by
 have hsz:w.heap.size≤w'.heap.size:=((bI 0 w).grown hg (lI _) (fun k _=>lI _)).size;have hb6:=h.2.2.2.2.2
 rcases hor with hor|rfl
 ·exact⟨R,fun r hr=>hr,hv _ hor,(h.less.grown ho hB hv hg).full fun r hr=>Nat.lt_of_lt_of_le (hb6 r hr) hsz⟩
 ·refine⟨g :: R,fun r hr=>wM _ hr,vB,((h.less.more g (by omega)).grown ho hB (fun b hb=>wM _ (hv b hb)) hg).full fun r hr=>?_⟩
  rcases List.mem_cons.1 hr with rfl|hr
  ·exact hlt
  ·exact Nat.lt_of_lt_of_le (hb6 r hr) hsz
theorem iA {B base n:Nat}{w w':World}{v:Value}{xs:List Value}(h:w.ownsRow base 3 1 v n xs)(hk:Kp B w w'):w'.ownsRow base 3 1 v n xs:=by
 refine⟨h.1,?_⟩
 rcases h.2 with hn|⟨g,cap,cur,hv,hg,hh,hr⟩
 ·exact .inl hn
 ·exact .inr ⟨g,cap,cur,hv,hg,hk.2 _ _ _ _ hh (by decide) (by decide) (by decide),hr⟩
theorem Kp.grown {B base n:Nat}{w0 w w':World}{v:Value}{xs:List Value}(hk:Kp B w0 w)(ho:w.ownsRow base 3 1 v n xs)(hb:w0.heap.size≤base)(hB:B≤w0.heap.size)(hg:w.grownBy w' v.ownBlock):Kp B w0 w':=by
 refine⟨hk.1.grown hg (by have:=hk.size;omega) (fun k hkk=>by have:=(ho.lt k hkk).1;omega),fun k cs T fr h0 h1 h2 h3=>?_⟩;have hkk:=(bS h0).1;rw[hg.block k (by have:=hk.size;omega) (fun q=>by have:=(ho.lt k q.symm).1;omega)];exact hk.2 k cs T fr h0 h1 h2 h3
def XU (E:bG)(l:List Int × aJ)(w:World)(e:Ending)(w':World):Prop:=∃ v,e=.returned v∧eH w' v l.1∧(l.1=[]→v=.slice none 0 0)∧PW E l.2 w'∧Kp E.B w w'
def ac1 (E:bG)(one:aJ→Option (Int × aJ))(res:List Int × aJ)(w0:World)(kv nv:Value)(wr:World):Prop :=
 ∃ (r m:Nat) (aA:List Int) (s:aJ) (R:List Nat),nv=.int .i64 (m:Nat)∧m+r=9∧aA.length+2 * r≤16∧bC E.ah one r aA s=some res ∧
  wr.ownsRow w0.heap.size 3 1 kv aA.length (aA.map (Value.int .i64))∧(∀ b,kv.ownBlock=some b→b∈R)∧(∀ r∈E.R,r∈R)∧(aA=[]→kv=.slice none 0 0)∧PR E R s wr∧Kp E.B w0 wr
theorem PR.fq {E:bG}{R:List Nat}{st:aJ}{w:World}(h:PR E R st w):E.B≤w.heap.size:=PW.fq (E:={ E with R:=R }) h
theorem mI {E:bG}{R:List Nat}{w0 w:World}{kv:Value}{n:Nat}{aA:List Int}{s:aJ}{res:List Int × aJ}(ho:w.ownsRow w0.heap.size 3 1 kv n (aA.map (Value.int .i64)))(hR:∀ r∈E.R,r∈R)(hp:PR E R s w)(hk:Kp E.B w0 w)(h:(aA,s)=res)(h0:aA=[]→kv=.slice none 0 0):XU E res w0 (.returned kv) w:=by
 subst h;exact⟨kv,rfl,eH.fZ ho,h0,hp.drop hR,hk⟩
theorem pq {w:World}{base n:Nat}{v:Value}{xs:List Value}(h:w.ownsRow base 3 1 v n xs):∃ ao cap,v=.slice ao n cap:=by
 rcases h.2 with ⟨hv,hn0⟩|⟨g,cap,cur,hv,_⟩
 ·exact⟨none,0,by rw[hv,hn0]⟩
 ·exact⟨_,cap,hv⟩
theorem Iy (E:bG)(hE:E.ok)(one:aJ→Option (Int × aJ))(cp cn:Nat)(st:aJ)(res:List Int × aJ)(w:World)(h:jP E.ah one st=some res)(hp:PW E st w)(hn:res.2.aj.length+1≤1099511627776)
  (hext:∀ s k,one s=some k→dP s k.2)
  (hone:∀ (R:List Nat) (s:aJ) (k:Int × aJ) (w':World),one s=some k→PR E R s w'→Kp E.B w w'→k.2.aj.length+1≤1099511627776 →
   Calls Tryz.prog 322 #[.pointer (some ⟨cp,0,none⟩),.pointer (some ⟨cn,0,none⟩)] w' (dZ { E with R:=R } k w')) :
  Calls Tryz.prog 164 #[.pointer (some ⟨E.pb,0,none⟩),.func (.func 322) #[] #[.pointer (some ⟨cp,0,none⟩),.pointer (some ⟨cn,0,none⟩)]] w (XU E res w):=by
 have vg:=hE.2.2;obtain⟨i0,hi,hz0,hz1,hz2⟩:=info_parts Tryz.nG;unfold jP at h
 by_cases hx:bF E.ah st [[41]]=true
 ·rw[if_pos hx] at h
  injection h with h;subst h
  have HX:=ay (dW E hE ⟨#[41]⟩ st true hx);clear hx hone hext;go_enter Tryz.func164,Tryz.ntmps164;go_wp2_with (go_at_call 160;refine(HX.out w hp).mono ?_);rintro e w1 ⟨rfl,hp1,hk1⟩;go_wp2;go_ret;exact⟨_,rfl,⟨none,0,rfl,bD _,fun q=>absurd q (by simp)⟩,fun _=>rfl,hp1,hk1⟩
 ·rw[if_neg hx] at h
  have HX:=ay (dW E hE ⟨#[41]⟩ st false (eq_false_of_ne_true hx));have H0:=ay h;have Ea:=ay hone;have GZ:=ay hext;have HN:=ay hn;have HE:=ay hE;clear hx hone hext h hn;go_enter Tryz.func164,Tryz.ntmps164;go_wp2_with (go_at_call 160;refine(HX.out w hp).mono ?_);rintro e w1 ⟨rfl,hp1,hk1⟩;go_wp2
  go_loopw [5,6] (fun kv nv wr=>ac1 E one res w kv nv wr) (fun _ nv _=>10 - (intOf nv).toNat)
  case atStart=>exact⟨8,1,[],st,E.R,rfl,rfl,by simp,H0.out,World.ownsRow_nil _ _ _ _,fun _ q=>by simp[Value.ownBlock] at q,fun _ q=>q,fun _=>rfl,hp1,hk1⟩
  case round =>
   obtain⟨r,m,aA,s,R,rfl,hm,hkl,hl,hown,hR,hER,hnil,hps,hks⟩:=hrel;obtain⟨ao,cap,rfl⟩:=pq hown;have xD:=ay hnil;clear hnil;have hBw:E.B≤w.heap.size:=hp.fq
   by_cases hf:s.fE=0
   ·have HO:=ay (jW { E with R:=R } s hf)
    cases r with
    | zero =>
     obtain rfl:m=9:=by omega
     rw[bC,if_pos hf] at hl
     injection hl with hl
     have HF:=ay (fun w hp=>mF { E with R:=R } HE.out 15 s w hp);have HL:=ay hl;clear hl hf;go_wp2_with (go_at_call 96;refine(HO.out _ hps).mono ?_);rintro e w2 ⟨rfl,hp2,hk2⟩;go_wp2_with (go_at_call 161;refine(HF.out _ hp2).mono ?_);rintro e w3 ⟨rfl,hp3,gM⟩;have jX:=iA (iA hown hk2) gM;go_wp2;go_ret;exact mI jX hER hp3 ((hks.trans hk2).trans gM) HL.out xD.out
    | succ r =>
     rw[bC,if_neg (by simp[hf])] at hl;obtain⟨k,h1,hl⟩:=cK hl;have d8:decide (8<(m:Int))=false:=dA (by omega);have d8':decide (8<m)=false:=dA (by omega)
     have hnk:k.2.aj.length+1≤1099511627776:=by
      split at hl
      ·exact aK ((aO _ _).trans (mZ _ one GZ.out _ _ _ _ hl)) HN.out
      ·injection hl with hl;rw[← hl] at HN;exact HN.out
     have HK:=ay (fun w' hp hk=>Ea.out R s k w' h1 hp hk hnk);have HL:=ay hl;clear hl h1 hf;go_wp2_with (go_at_call 96;refine(HO.out _ hps).mono ?_);rintro e w2 ⟨rfl,hp2,hk2⟩;go_wp2_with (go_at_call 322;refine(HK.out _ hp2 (hks.trans hk2)).mono ?_);rintro e w3 ⟨rfl,hp3,gM⟩;have Qu:PR E R k.2 w3:=hp3;clear hp3;have jX:=iA (iA hown hk2) gM;have yB:PR E R k.2 (w3.alloc (.cells #[.int .i64 k.1] 3)):=PW.later Qu (aB w3 _);have hnw:=aY w3 (.cells #[.int .i64 k.1] 3);have uH:Kp E.B w (w3.alloc (.cells #[.int .i64 k.1] 3)):=((hks.trans hk2).trans gM).trans (Kp.of (aB w3 _) Qu.fq);have nH:=jX.alloc (.cells #[.int .i64 k.1] 3);have ac2:w.heap.size≤w3.heap.size:=((hks.trans hk2).trans gM).size;go_wp2_with (at_builtin;refine wpList_append_lies _ rfl _ _ 127 rfl w.heap.size 3 i0 (.int .i64 0) 1 8 Tryz.underlying127 hi hz0 hz1 hz2 rfl (by decide) _ _ _ rfl nH ⟨w3.heap.size,0,none⟩ 1 1 [.int .i64 k.1] rfl rfl ?c1 ?c2 ?c3 ?c4 ?c5 ?c6 _ rfl ?_)
     case c1=>exact vv (cs:=#[.int .i64 k.1]) (t:=3) (fr:=(0,0)) hnw
     case c2=>simp[Value.oneCell']
     case c3=>omega
     case c4=>unfold maxLen;omega
     case c5=>omega
     case c6=>simp;omega
     intro g cap4 w4 vJ yD XV XW;obtain⟨R4,hR4,hg4,qo⟩:=yB.append nH hBw hR yD XV (by simp) XW;have hk4:=uH.grown nH (bD _) hBw yD
     have uI:w4.ownsRow w.heap.size 3 1 (.slice (some ⟨g,0,none⟩) (aA.length+1) cap4) (aA.length+1) ((aA++[k.1]).map (Value.int .i64)):=by rw[List.map_append];exact vJ
     have J5:∀ r∈E.R,r∈R4:=fun r hr=>hR4 r (hER r hr)
     clear yB hnw uH nH yD XV XW jX vJ hk2 gM hp2 Qu hown hps hks HO HK HX H0 Ea ac2 hR4
     by_cases JJ:k.2.fE=0
     ·have XY:=ay (jW { E with R:=R4 } k.2 JJ)
      by_cases hx4:bF E.ah k.2 [[44]]=true
      ·have hl:=HL.out
       rw[if_pos ⟨JJ,hx4⟩] at hl;have HX4:=ay (dW { E with R:=R4 } HE.out ⟨#[44]⟩ k.2 true hx4);have HLF:=ay (fun w hp=>bT { E with R:=R4 } k.2 w hp HE.out.1 HE.out.2.1 hnk);have HL2:=ay hl;clear hl HL JJ hx4;go_wp2_with (go_at_call 96;refine(XY.out _ qo).mono ?_);rintro e w5 ⟨rfl,uG,lM⟩;go_wp2_with (go_at_call 160;refine(HX4.out _ uG).mono ?_);rintro e w6 ⟨rfl,En,vw⟩;obtain⟨d0,_,_,_,_,_⟩:=En.cells;go_wp2_with (go_at_call 162;refine(HLF.out _ En).mono ?_);rintro e w7 ⟨rfl,GV,Dk⟩;clear d0;have Qv:PR E R4 (aD E.ah k.2).2 w7:=GV;clear GV;have Ng:=iA (iA (iA uI lM) vw) Dk;have Qw:=((hk4.trans lM).trans vw).trans Dk;have yB:PR E R4 (aD E.ah k.2).2 (w7.alloc (.cells #[.int .i64 (aD E.ah k.2).1] 3)):=PW.later Qv (aB w7 _);have hnw:=aY w7 (.cells #[.int .i64 (aD E.ah k.2).1] 3);have uH:Kp E.B w (w7.alloc (.cells #[.int .i64 (aD E.ah k.2).1] 3)):=Qw.trans (Kp.of (aB w7 _) Qv.fq);have nH:=Ng.alloc (.cells #[.int .i64 (aD E.ah k.2).1] 3);have aeo:w.heap.size≤w7.heap.size:=Qw.size
       have hv4:∀ b,(Value.slice (some ⟨g,0,none⟩) (aA.length+1) cap4).ownBlock=some b→b∈R4:=fun b hb=>by
        simp only[Value.ownBlock,Option.some.injEq] at hb;subst hb;exact hg4
       go_wp2_with (at_builtin;refine wpList_append_lies _ rfl _ _ 127 rfl w.heap.size 3 i0 (.int .i64 0) 1 8 Tryz.underlying127 hi hz0 hz1 hz2 rfl (by decide) _ _ _ rfl nH ⟨w7.heap.size,0,none⟩ 1 1 [.int .i64 (aD E.ah k.2).1] rfl rfl ?c1 ?c2 ?c3 ?c4 ?c5 ?c6 _ rfl ?_)
       case c1=>exact vv (cs:=#[.int .i64 (aD E.ah k.2).1]) (t:=3) (fr:=(0,0)) hnw
       case c2=>simp[Value.oneCell']
       case c3=>omega
       case c4=>unfold maxLen;omega
       case c5=>omega
       case c6=>simp;omega
       intro g8 Qx w8 vT ou Ep yE;obtain⟨R8,hR8,hg8,UL⟩:=yB.append nH hBw hv4 ou Ep (by simp) yE;have CY:=uH.grown nH (bD _) hBw ou
       have Qy:w8.ownsRow w.heap.size 3 1 (.slice (some ⟨g8,0,none⟩) (aA.length+1+1) Qx) (aA++[k.1,(aD E.ah k.2).1]).length ((aA++[k.1,(aD E.ah k.2).1]).map (Value.int .i64)):=by
        rw[List.map_append,bN];exact vT
       have hv8:∀ b,(Value.slice (some ⟨g8,0,none⟩) (aA.length+1+1) Qx).ownBlock=some b→b∈R8:=fun b hb=>by
        simp only[Value.ownBlock,Option.some.injEq] at hb;subst hb;exact hg8
       have ac3:∀ r∈E.R,r∈R8:=fun r hr=>hR8 r (J5 r hr)
       clear yB hnw uH nH ou Ep yE Ng vT Qw uI hk4 lM vw Dk qo uG En Qv XY HX4 HLF hR8 hv4 J5 hg4;go_wp2
       go_roundw
       case rel=>exact⟨r,m+1,_,_,R8,by go_num,by omega,by simp;omega,HL2.out,Qy,hv8,ac3,(fun q=>by simp at q),UL,CY⟩
       case measure=>simp[intOf];omega
      ·have hl:=HL.out
       rw[if_neg (fun q=>hx4 q.2)] at hl
       injection hl with hl
       have HX4:=ay (dW { E with R:=R4 } HE.out ⟨#[44]⟩ k.2 false (eq_false_of_ne_true hx4));have HL2:=ay hl;clear hl HL JJ hx4;go_wp2_with (go_at_call 96;refine(XY.out _ qo).mono ?_);rintro e w5 ⟨rfl,uG,lM⟩;go_wp2_with (go_at_call 160;refine(HX4.out _ uG).mono ?_);rintro e w6 ⟨rfl,En,vw⟩;have hown6:=iA (iA uI lM) vw;go_wp2;go_ret;exact mI hown6 J5 En ((hk4.trans lM).trans vw) HL2.out (fun q=>by simp at q)
     ·have hl:=HL.out
      rw[if_neg (fun q=>JJ q.1)] at hl
      injection hl with hl
      have XY:=ay (uT { E with R:=R4 } k.2 JJ);have HL2:=ay hl;clear hl HL JJ;go_wp2_with (go_at_call 96;refine(XY.out _ qo).mono ?_);rintro e w5 ⟨rfl,uG,lM⟩;have gq:=iA uI lM;go_wp2;go_ret;exact mI gq J5 uG (hk4.trans lM) HL2.out (fun q=>by simp at q)
   ·have HO:=ay (uT { E with R:=R } s hf)
    have hl':(aA,s)=res:=by
     cases r with
     | zero=>rw[bC,if_neg hf] at hl;injection hl
     | succ r=>rw[bC,if_pos hf] at hl;injection hl
    have HL:=ay hl';clear hl hl' hf;go_wp2_with (go_at_call 96;refine(HO.out _ hps).mono ?_);rintro e w2 ⟨rfl,hp2,hk2⟩;have hown2:=iA hown hk2;go_wp2;go_ret;exact mI hown2 hER hp2 (hks.trans hk2) HL.out xD.out
theorem Iz (E:bG)(g aF cp cn:Nat)(ih:CU E g)(st:aJ)(r:Int × aJ)(w:World)(h:run E.ah E.depth g (.expr (aF+1)) st=some r)(hp:PW E st w)(hn:r.2.aj.length+1≤1099511627776)(dG:aF≤E.depth)(vg:E.depth≤1000)
  (c1:w.cell? ⟨cp,0,none⟩=some (.pointer (some ⟨E.pb,0,none⟩))) (c2:w.cell? ⟨cn,0,none⟩=some (.int .i64 aF)) :
  Calls Tryz.prog 322 #[.pointer (some ⟨cp,0,none⟩),.pointer (some ⟨cn,0,none⟩)] w (dZ E r w):=by
 have HE:=ay (ih _ _ _ w h hp hn (by show aF+1≤_;omega));clear h hp hn ih;go_enter Tryz.func322,Tryz.ntmps322;go_wp2_with (go_at_call 167;refine HE.out.mono ?_);rintro e w1 ⟨rfl,hp1,hk1⟩;go_wp2;go_ret;exact⟨rfl,hp1,hk1⟩
theorem abv (w:World)(base:Nat)(x:Int)(hb:base≤w.heap.size):(w.alloc (.cells #[.int .i64 x] 3)).ownsRow base 3 1 (.slice (some ⟨w.heap.size,0,none⟩) 1 1) 1 ([x].map (Value.int .i64)) :=
 ⟨rfl,.inr ⟨w.heap.size,1,_,rfl,hb,aY _ _,bD _,by unfold maxLen;omega,rfl,rfl⟩⟩
def jr (E:bG)(aF:Nat)(w:World):World:=(w.alloc (.cells #[.pointer (some ⟨E.pb,0,none⟩)] 123)).alloc (.cells #[.int .i64 aF] 3)
theorem rW (E:bG)(aF:Nat)(w:World):Below w.heap.size w (jr E aF w):=((bI _ _).alloc (bD _) _).alloc (by simp) _
theorem iR (E:bG)(aF:Nat){w wr:World}{B:Nat}(hk:Kp B (jr E aF w) wr):wr.cell? ⟨w.heap.size,0,none⟩=some (.pointer (some ⟨E.pb,0,none⟩)):=by
 have h1:(jr E aF w).heap[w.heap.size]?=some (.cells #[.pointer (some ⟨E.pb,0,none⟩)] 123 (0,0)):=(gY _ _ _ (by simp)).trans (aY _ _);rw[aV (hk.2 _ _ _ _ h1 (by decide) (by decide) (by decide))];rfl
theorem SQ (E:bG)(aF:Nat){w wr:World}{B:Nat}(hk:Kp B (jr E aF w) wr):wr.cell? ⟨w.heap.size+1,0,none⟩=some (.int .i64 aF):=by
 have h1:(jr E aF w).heap[w.heap.size+1]?=some (.cells #[.int .i64 aF] 3 (0,0)):=by
  have:=aY (w.alloc (.cells #[.pointer (some ⟨E.pb,0,none⟩)] 123)) (.cells #[.int .i64 aF] 3);rw[show (w.alloc (.cells #[.pointer (some ⟨E.pb,0,none⟩)] 123)).heap.size=w.heap.size+1 by simp] at this;exact this
 rw[aV (hk.2 _ _ _ _ h1 (by decide) (by decide) (by decide))];rfl
def jv (E:bG)(W0:World)(R:List Nat)(v:Value)(ks:List Int)(s:aJ)(w:World):Prop :=
 w.ownsRow W0.heap.size 3 1 v ks.length (ks.map (Value.int .i64))∧(∀ b,v.ownBlock=some b→b∈R)∧(∀ r∈E.R,r∈R)∧PR E R s w∧Kp E.B W0 w
theorem jv.call {E:bG}{W0:World}{R:List Nat}{v:Value}{ks:List Int}{s s':aJ}{w w':World}(h:jv E W0 R v ks s w)(hp:PW { E with R:=R } s' w')(hk:Kp E.B w w'):jv E W0 R v ks s' w' :=
 ⟨iA h.1 hk,h.2.1,h.2.2.1,hp,h.2.2.2.2.trans hk⟩
theorem jv.lit {E:bG}{W0:World}{R:List Nat}{v:Value}{ks:List Int}{s:aJ}{w:World}(h:jv E W0 R v ks s w)(o:Obj):jv E W0 R v ks s (w.alloc o) :=
 ⟨h.1.alloc o,h.2.1,h.2.2.1,PW.later h.2.2.2.1 (aB w o),h.2.2.2.2.trans (Kp.of (aB w o) h.2.2.2.1.fq)⟩
theorem jv.app {E:bG}{W0:World}{R:List Nat}{v:Value}{ks news:List Int}{s:aJ}{wA w':World}{g n n' cap H:Nat}(h:jv E W0 R v ks s wA)(hB:E.B≤W0.heap.size)(hn:(ks++news).length=n)
  (ho:w'.ownsRow W0.heap.size 3 1 (.slice (some ⟨g,0,none⟩) n' cap) n (ks.map (Value.int .i64)++news.map (Value.int .i64))) (hg:wA.grownBy w' v.ownBlock) (hat:v.ownBlock=some g∨g=H) (hH:wA.heap.size=H) (hlt:g<w'.heap.size) :
  ∃ R',jv E W0 R' (.slice (some ⟨g,0,none⟩) n' cap) (ks++news) s w':=by
 obtain⟨h1,h2,h3,h4,h5⟩:=h;obtain⟨R',r1,r2,r3⟩:=h4.append h1 hB h2 hg hat hH hlt;refine⟨R',?_,fun b hb=>?_,fun r hr=>r1 r (h3 r hr),r3,h5.grown h1 (bD _) hB hg⟩
 ·rw[List.map_append,hn];exact ho
 ·simp only[Value.ownBlock,Option.some.injEq] at hb;subst hb;exact r2
theorem jv.start {E:bG}{W0 w:World}{s:aJ}(x:Int)(hp:PW E s w)(hk:Kp E.B W0 w):jv E W0 (w.heap.size :: E.R) (.slice (some ⟨w.heap.size,0,none⟩) 1 1) [x] s (w.alloc (.cells #[.int .i64 x] 3)) :=
 ⟨abv w _ x hk.size,fun b hb=>by simp only[Value.ownBlock,Option.some.injEq] at hb;subst hb;exact vB,fun r hr=>wM _ hr,PR.take hp.pr (aB w _) _ (bD _) (by simp),hk.trans (Kp.of (aB w _) hp.fq)⟩
theorem jv.node {E:bG}{W0:World}{R:List Nat}{v:Value}{ks:List Int}{s:aJ}{w:World}(h:jv E W0 R v ks s w):eH w v ks:=eH.fZ h.1
theorem zH (ah:List Tok)(one:aJ→Option (Int × aJ)):∀ (r:Nat) (aA:List Int) (st:aJ) (l:List Int × aJ),bC ah one r aA st=some l→l.1.length≤aA.length+2 * r
 | 0,aA,st,l,h=>by rw[bC] at h;injection h with h;subst h;simp
 | r+1,aA,st,l,h=>by
  rw[bC] at h
  split at h
  ·injection h with h;subst h;simp
  ·obtain⟨k,h1,h⟩:=cK h
   split at h
   ·have:=zH ah one r _ _ _ h
    simp only[bN,dR,gX] at this;omega
   ·injection h with h;subst h;simp;omega
theorem IB (ah:List Tok)(one:aJ→Option (Int × aJ))(st:aJ)(l:List Int × aJ)(h:jP ah one st=some l):l.1.length≤16:=by
 unfold jP at h
 split at h
 ·injection h with h;subst h;simp
 ·simpa using zH ah one 8 [] st l h
theorem Qz (E:bG)(hE:E.ok)(g:Nat)(aF:Nat)(st:aJ)(r:Int × aJ)(w:World)(h:run E.ah E.depth (g+1) (.name aF) st=some r)(hp:PW E st w)(hn:r.2.aj.length+1≤1099511627776)(acU:aF≤E.depth)
  (hcase:(aD E.ah st).2.aC=true∨bF E.ah (aD E.ah st).2 [[46],[40]]=false) :
  Calls Tryz.prog 319 #[.pointer (some ⟨E.pb,0,none⟩),.int .i64 aF] w (dZ E r w):=by
 have vg:=hE.2.2;obtain⟨i0,hi,hz0,hz1,hz2⟩:=info_parts Tryz.nG;rw[run] at h;have hA:PW E st (jr E aF w):=hp.later (rW E aF w);have uH:Kp E.B w (jr E aF w):=Kp.of (rW E aF w) hp.fq
 ·rw[if_pos hcase] at h
  injection h with h;subst h
  have n2:=aK (aL _ _ _) hn;have n1:=aK (aO _ _) n2;have HL:=ay (fun w hp=>bT E st w hp hE.1 hE.2.1 n1);have HN:=ay (fun w hp v hv=>kS E 14 v [(aD E.ah st).1] (aD E.ah st).2 w hp hv (by simp) n2);clear n1 n2 hn
  by_cases hcl:(aD E.ah st).2.aC=true
  ·have hc:=ay hcl
   clear hcase hcl;have hA':PW E st ((w.alloc (.cells #[.pointer (some ⟨E.pb,0,none⟩)] 123)).alloc (.cells #[.int .i64 aF] 3)):=hA;obtain⟨d0,_,_,_,_,_⟩:=hA'.cells;go_enter Tryz.func319,Tryz.ntmps319;go_wp2_with (go_at_call 162;refine(HL.out _ hA').mono ?_);rintro e w1 ⟨rfl,hp1,Er⟩;have hk1:Kp E.B (jr E aF w) w1:=Er;clear d0 Er hA';have hpB:=hp1.later (aB w1 (.cells #[.int .i64 (aD E.ah st).1] 3));have hkB:=hk1.trans (Kp.of (aB w1 (.cells #[.int .i64 (aD E.ah st).1] 3)) hp1.fq);have p1:=iR E aF hkB;obtain⟨_,_,c1,_,_,_⟩:=hpB.cells;rw[hc.out] at c1;have hiB:=Ed w1 [(aD E.ah st).1];go_wp2_with (go_at_call 101;refine(HN.out _ hpB _ hiB).mono ?_);rintro e w2 ⟨rfl,hp2,hk2⟩;go_wp2;go_ret;exact⟨rfl,hp2,(uH.trans hkB).trans hk2⟩
  ·have hc:=ay (eq_false_of_ne_true hcl)
   have HX:=ay (fun w hp=>vR E hE ⟨#[46]⟩ ⟨#[40]⟩ (aD E.ah st).2 false (hcase.resolve_left hcl) w hp);clear hcase hcl;have hA':PW E st ((w.alloc (.cells #[.pointer (some ⟨E.pb,0,none⟩)] 123)).alloc (.cells #[.int .i64 aF] 3)):=hA;obtain⟨d0,_,_,_,_,_⟩:=hA'.cells;go_enter Tryz.func319,Tryz.ntmps319;go_wp2_with (go_at_call 162;refine(HL.out _ hA').mono ?_);rintro e w1 ⟨rfl,hp1,Er⟩;have hk1:Kp E.B (jr E aF w) w1:=Er;clear d0 Er hA';have hpB:=hp1.later (aB w1 (.cells #[.int .i64 (aD E.ah st).1] 3));have hkB:=hk1.trans (Kp.of (aB w1 (.cells #[.int .i64 (aD E.ah st).1] 3)) hp1.fq);have p1:=iR E aF hkB;obtain⟨_,_,c1,_,_,_⟩:=hpB.cells;rw[hc.out] at c1;have hiB:=Ed w1 [(aD E.ah st).1];have XZ:=HX.out _ hpB;rw[show (w1.alloc (.cells #[.int .i64 (aD E.ah st).1] 3)).heap.size=w1.heap.size+1 by simp] at XZ;have HXB:=ay XZ;clear XZ;go_wp2_with (go_at_call 160;refine HXB.out.mono ?_);rintro e w2 ⟨rfl,hp2,hk2⟩;have p2:=iR E aF (hkB.trans hk2);clear p1 c1;go_wp2_with (go_at_call 101;refine(HN.out _ hp2 _ (hiB.kept hk2)).mono ?_);rintro e w3 ⟨rfl,hp3,gM⟩;go_wp2;go_ret;exact⟨rfl,hp3,((uH.trans hkB).trans hk2).trans gM⟩
