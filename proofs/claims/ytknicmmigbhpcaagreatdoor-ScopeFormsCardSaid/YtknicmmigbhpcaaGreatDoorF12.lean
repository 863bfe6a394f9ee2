/- Walks and plain laws: ParseW9, ParseW10, ParseW11, ParseW12, ParseW13. -/
import Derived.Test.YtknicmmigbhpcaaGreatDoorF11
import Derived.Deep.LoopGhost
set_option maxHeartbeats 16000000
set_option maxRecDepth 100000
set_option linter.unusedVariables false
set_option linter.unusedSimpArgs false
namespace Go.Proofs.YtknicmmigbhpcaaGreatDoor
open Go.RowKit
theorem Sr (E:aW)(hE:E.ok)(nest:Nat)(st:aB)(b:Int × aB)(w:World)(hp:PW E st w)(n1:st.nodes.length+1≤1099511627776)(n4:b.2.nodes.length+1≤1099511627776)(bZ:nest≤E.depth)
  (hd:(aN E.toks E.depth (nest+1) (ay E.toks st).2).fE=0)
  (hb:∀ w,PW E (aN E.toks E.depth (nest+1) (ay E.toks st).2) w→Calls Tryz.prog 310 #[.pointer (some ⟨E.pb,0,none⟩),.int .i64 ((nest+1:Nat):Int)] w (dL E b w)) :
  Calls Tryz.prog 317 #[.pointer (some ⟨E.pb,0,none⟩),.int .i64 nest,.func (.func 310) #[.pointer (some ⟨E.pb,0,none⟩)] #[]] w (dL E (bg 11 [(ay E.toks st).1,b.1] b.2) w):=by
 have sW:=hE.2.2;have HL:=ah (fun w hp=>bI E st w hp hE.1 hE.2.1 n1);have HD:=ah (Ib E hE (nest+1) _ hd);have HF:=ah hb;have HN:=ah (fun w hp=>iE E 11 [(ay E.toks st).1,b.1] 2 _ b.2 w hp rfl rfl (by omega) n4);clear hd hb n1 n4;go_enter Tryz.func317,Tryz.ntmps317;obtain⟨d0,_,_,_,_,_⟩:=hp.cells;go_wp2_with (go_at_call 167;refine(HL.out w hp).mono ?_);rintro e w1 ⟨rfl,hp1,hk1⟩;clear d0;go_wp2_with (go_at_call 233;refine(HD.out w1 hp1).mono ?_);rintro e w2 ⟨rfl,hp2,hk2⟩;go_wp2_with (go_at_call 310;refine(HF.out w2 hp2).mono ?_);rintro e w3 ⟨rfl,hp3,hk3⟩;go_wp2_with (go_at_call 106;refine(HN.out w3 hp3).mono ?_);rintro e w4 ⟨rfl,oC,hk4⟩;go_wp2;go_ret;exact⟨rfl,oC,((hk1.trans hk2).trans hk3).trans hk4⟩
theorem Og (E:aW)(hE:E.ok)(nest:Nat)(st:aB)(w:World)(hp:PW E st w)(n1:st.nodes.length+1≤1099511627776)(bZ:nest≤E.depth)
  (hd:(aN E.toks E.depth (nest+1) (ay E.toks st).2).fE≠0) :
  Calls Tryz.prog 317 #[.pointer (some ⟨E.pb,0,none⟩),.int .i64 nest,.func (.func 310) #[.pointer (some ⟨E.pb,0,none⟩)] #[]] w (dL E (0,aN E.toks E.depth (nest+1) (ay E.toks st).2) w):=by
 have sW:=hE.2.2;have HL:=ah (fun w hp=>bI E st w hp hE.1 hE.2.1 n1);have HD:=ah (Ct E hE (nest+1) _ hd);clear hd n1;go_enter Tryz.func317,Tryz.ntmps317;obtain⟨d0,_,_,_,_,_⟩:=hp.cells;go_wp2_with (go_at_call 167;refine(HL.out w hp).mono ?_);rintro e w1 ⟨rfl,hp1,hk1⟩;clear d0;go_wp2_with (go_at_call 233;refine(HD.out w1 hp1).mono ?_);rintro e w2 ⟨rfl,hp2,hk2⟩;go_wp2;go_ret;exact⟨rfl,hp2,hk1.trans hk2⟩
theorem VD (E:aW)(hE:E.ok)(g:Nat)(ih:AX E g)(nest:Nat)(st:aB)(r:Int × aB)(w:World)(h:run E.toks E.depth (g+1) (.neg nest) st=some r)(hp:PW E st w)(hn:r.2.nodes.length+1≤1099511627776)(bZ:nest≤E.depth) :
  Calls Tryz.prog 310 #[.pointer (some ⟨E.pb,0,none⟩),.int .i64 nest] w (dL E r w):=by
 have sW:=hE.2.2
 have hHI:∀ (t:Task) (st:aB) (r:Int × aB),run E.toks E.depth g t st=some r→r.2.nodes.length+1≤1099511627776→wF E t→∀ w,PW E st w→mI E r w t:=fun t st r h1 h2 h3 w h4=>ih t st r w h1 h4 h2 h3
 have ex:=aP E.toks E.depth g;rw[run] at h
 by_cases hf:st.fE=0
 ·by_cases hx:aV E.toks st [YM]=true
  ·rw[if_pos ⟨hf,hx⟩] at h
   by_cases hd:(aN E.toks E.depth (nest+1) (ay E.toks st).2).fE=0
   ·rw[if_neg (by simp[hd])] at h
    obtain⟨b,h1,h⟩:=bP h
    injection h with h;subst h
    have n4:=aC (aD _ _ _) hn;have n3:=aC (ex _ _ _ h1) n4;have n2:=aC (eU _ _ _ _) n3;have n1:=aC (aI _ _) n2;have HO:=ah (jD E st hf);have HX:=ah (dJ E hE ⟨#[110,111,116]⟩ st true hx);have HU:=ah (fun w hp=>Sr E hE nest st b w hp n1 n4 bZ hd (hHI _ _ _ h1 n4 (zo E _ _ hd)));clear h1 hf hx hd n1 n2 n3 n4 hHI ex ih hn;go_enter Tryz.func310,Tryz.ntmps310;go_wp2_with (go_at_call 101;refine(HO.out w hp).mono ?_);rintro e w1 ⟨rfl,hp1,hk1⟩;go_wp2_with (go_at_call 165;refine(HX.out w1 hp1).mono ?_);rintro e w2 ⟨rfl,hp2,hk2⟩;go_wp2_with (go_at_call 317;refine(HU.out w2 hp2).mono ?_);rintro e w3 ⟨rfl,hp3,hk3⟩;go_wp2;go_ret;exact⟨rfl,hp3,(hk1.trans hk2).trans hk3⟩
   ·rw[if_pos hd] at h
    injection h with h;subst h
    have n2:=aC (eU _ _ _ _) hn;have n1:=aC (aI _ _) n2;have HO:=ah (jD E st hf);have HX:=ah (dJ E hE ⟨#[110,111,116]⟩ st true hx);have HU:=ah (fun w hp=>Og E hE nest st w hp n1 bZ hd);clear hf hx hd n1 n2 hHI ex ih hn;go_enter Tryz.func310,Tryz.ntmps310;go_wp2_with (go_at_call 101;refine(HO.out w hp).mono ?_);rintro e w1 ⟨rfl,hp1,hk1⟩;go_wp2_with (go_at_call 165;refine(HX.out w1 hp1).mono ?_);rintro e w2 ⟨rfl,hp2,hk2⟩;go_wp2_with (go_at_call 317;refine(HU.out w2 hp2).mono ?_);rintro e w3 ⟨rfl,hp3,hk3⟩;go_wp2;go_ret;exact⟨rfl,hp3,(hk1.trans hk2).trans hk3⟩
  ·rw[if_neg (fun q=>hx q.2)] at h
   have HO:=ah (jD E st hf);have HX:=ah (dJ E hE ⟨#[110,111,116]⟩ st false (eq_false_of_ne_true hx));have HR:=ah (hHI _ _ _ h hn ⟨by decide,bZ⟩);clear h hf hx hHI ex ih hn;go_enter Tryz.func310,Tryz.ntmps310;go_wp2_with (go_at_call 101;refine(HO.out w hp).mono ?_);rintro e w1 ⟨rfl,hp1,hk1⟩;go_wp2_with (go_at_call 165;refine(HX.out w1 hp1).mono ?_);rintro e w2 ⟨rfl,hp2,hk2⟩;go_wp2_with (go_at_call 277;refine(HR.out w2 hp2).mono ?_);rintro e w3 ⟨rfl,hp3,hk3⟩;go_wp2;go_ret;exact⟨rfl,hp3,(hk1.trans hk2).trans hk3⟩
 ·rw[if_neg (fun q=>hf q.1)] at h
  have HO:=ah (sK E st hf);have HR:=ah (hHI _ _ _ h hn ⟨by decide,bZ⟩);clear h hf hHI ex ih hn;go_enter Tryz.func310,Tryz.ntmps310;go_wp2_with (go_at_call 101;refine(HO.out w hp).mono ?_);rintro e w1 ⟨rfl,hp1,hk1⟩;go_wp2_with (go_at_call 277;refine(HR.out w1 hp1).mono ?_);rintro e w2 ⟨rfl,hp2,hk2⟩;go_wp2;go_ret;exact⟨rfl,hp2,hk1.trans hk2⟩
theorem Ie (E:aW)(hE:E.ok)(nest:Nat)(st:aB)(b:Int × aB)(w:World)(hp:PW E st w)(n1:st.nodes.length+1≤1099511627776)(n4:b.2.nodes.length+1≤1099511627776)(bZ:nest≤E.depth)
  (hd:(aN E.toks E.depth (nest+1) (ay E.toks st).2).fE=0)
  (hb:∀ w,PW E (aN E.toks E.depth (nest+1) (ay E.toks st).2) w→Calls Tryz.prog 311 #[.pointer (some ⟨E.pb,0,none⟩),.int .i64 ((nest+1:Nat):Int)] w (dL E b w)) :
  Calls Tryz.prog 317 #[.pointer (some ⟨E.pb,0,none⟩),.int .i64 nest,.func (.func 311) #[.pointer (some ⟨E.pb,0,none⟩)] #[]] w (dL E (bg 11 [(ay E.toks st).1,b.1] b.2) w):=by
 have sW:=hE.2.2;have HL:=ah (fun w hp=>bI E st w hp hE.1 hE.2.1 n1);have HD:=ah (Ib E hE (nest+1) _ hd);have HF:=ah hb;have HN:=ah (fun w hp=>iE E 11 [(ay E.toks st).1,b.1] 2 _ b.2 w hp rfl rfl (by omega) n4);clear hd hb n1 n4;go_enter Tryz.func317,Tryz.ntmps317;obtain⟨d0,_,_,_,_,_⟩:=hp.cells;go_wp2_with (go_at_call 167;refine(HL.out w hp).mono ?_);rintro e w1 ⟨rfl,hp1,hk1⟩;clear d0;go_wp2_with (go_at_call 233;refine(HD.out w1 hp1).mono ?_);rintro e w2 ⟨rfl,hp2,hk2⟩;go_wp2_with (go_at_call 311;refine(HF.out w2 hp2).mono ?_);rintro e w3 ⟨rfl,hp3,hk3⟩;go_wp2_with (go_at_call 106;refine(HN.out w3 hp3).mono ?_);rintro e w4 ⟨rfl,oC,hk4⟩;go_wp2;go_ret;exact⟨rfl,oC,((hk1.trans hk2).trans hk3).trans hk4⟩
theorem ER (E:aW)(hE:E.ok)(nest:Nat)(st:aB)(w:World)(hp:PW E st w)(n1:st.nodes.length+1≤1099511627776)(bZ:nest≤E.depth)
  (hd:(aN E.toks E.depth (nest+1) (ay E.toks st).2).fE≠0) :
  Calls Tryz.prog 317 #[.pointer (some ⟨E.pb,0,none⟩),.int .i64 nest,.func (.func 311) #[.pointer (some ⟨E.pb,0,none⟩)] #[]] w (dL E (0,aN E.toks E.depth (nest+1) (ay E.toks st).2) w):=by
 have sW:=hE.2.2;have HL:=ah (fun w hp=>bI E st w hp hE.1 hE.2.1 n1);have HD:=ah (Ct E hE (nest+1) _ hd);clear hd n1;go_enter Tryz.func317,Tryz.ntmps317;obtain⟨d0,_,_,_,_,_⟩:=hp.cells;go_wp2_with (go_at_call 167;refine(HL.out w hp).mono ?_);rintro e w1 ⟨rfl,hp1,hk1⟩;clear d0;go_wp2_with (go_at_call 233;refine(HD.out w1 hp1).mono ?_);rintro e w2 ⟨rfl,hp2,hk2⟩;go_wp2;go_ret;exact⟨rfl,hp2,hk1.trans hk2⟩
theorem KV (E:aW)(hE:E.ok)(g:Nat)(ih:AX E g)(nest:Nat)(st:aB)(r:Int × aB)(w:World)(h:run E.toks E.depth (g+1) (.factor nest) st=some r)(hp:PW E st w)(hn:r.2.nodes.length+1≤1099511627776)(bZ:nest≤E.depth) :
  Calls Tryz.prog 311 #[.pointer (some ⟨E.pb,0,none⟩),.int .i64 nest] w (dL E r w):=by
 have sW:=hE.2.2
 have hHI:∀ (t:Task) (st:aB) (r:Int × aB),run E.toks E.depth g t st=some r→r.2.nodes.length+1≤1099511627776→wF E t→∀ w,PW E st w→mI E r w t:=fun t st r h1 h2 h3 w h4=>ih t st r w h1 h4 h2 h3
 have ex:=aP E.toks E.depth g;rw[run] at h
 by_cases hf:st.fE=0
 ·by_cases hx:aV E.toks st [[45]]=true
  ·rw[if_pos ⟨hf,hx⟩] at h
   by_cases hd:(aN E.toks E.depth (nest+1) (ay E.toks st).2).fE=0
   ·rw[if_neg (by simp[hd])] at h
    obtain⟨b,h1,h⟩:=bP h
    injection h with h;subst h
    have n4:=aC (aD _ _ _) hn;have n3:=aC (ex _ _ _ h1) n4;have n2:=aC (eU _ _ _ _) n3;have n1:=aC (aI _ _) n2;have HO:=ah (jD E st hf);have HX:=ah (dJ E hE ⟨#[45]⟩ st true hx);have HU:=ah (fun w hp=>Ie E hE nest st b w hp n1 n4 bZ hd (hHI _ _ _ h1 n4 (zo E _ _ hd)));clear h1 hf hx hd n1 n2 n3 n4 hHI ex ih hn;go_enter Tryz.func311,Tryz.ntmps311;go_wp2_with (go_at_call 101;refine(HO.out w hp).mono ?_);rintro e w1 ⟨rfl,hp1,hk1⟩;go_wp2_with (go_at_call 165;refine(HX.out w1 hp1).mono ?_);rintro e w2 ⟨rfl,hp2,hk2⟩;go_wp2_with (go_at_call 317;refine(HU.out w2 hp2).mono ?_);rintro e w3 ⟨rfl,hp3,hk3⟩;go_wp2;go_ret;exact⟨rfl,hp3,(hk1.trans hk2).trans hk3⟩
   ·rw[if_pos hd] at h
    injection h with h;subst h
    have n2:=aC (eU _ _ _ _) hn;have n1:=aC (aI _ _) n2;have HO:=ah (jD E st hf);have HX:=ah (dJ E hE ⟨#[45]⟩ st true hx);have HU:=ah (fun w hp=>ER E hE nest st w hp n1 bZ hd);clear hf hx hd n1 n2 hHI ex ih hn;go_enter Tryz.func311,Tryz.ntmps311;go_wp2_with (go_at_call 101;refine(HO.out w hp).mono ?_);rintro e w1 ⟨rfl,hp1,hk1⟩;go_wp2_with (go_at_call 165;refine(HX.out w1 hp1).mono ?_);rintro e w2 ⟨rfl,hp2,hk2⟩;go_wp2_with (go_at_call 317;refine(HU.out w2 hp2).mono ?_);rintro e w3 ⟨rfl,hp3,hk3⟩;go_wp2;go_ret;exact⟨rfl,hp3,(hk1.trans hk2).trans hk3⟩
  ·rw[if_neg (fun q=>hx q.2)] at h
   have HO:=ah (jD E st hf);have HX:=ah (dJ E hE ⟨#[45]⟩ st false (eq_false_of_ne_true hx));have HR:=ah (hHI _ _ _ h hn bZ);clear h hf hx hHI ex ih hn;go_enter Tryz.func311,Tryz.ntmps311;go_wp2_with (go_at_call 101;refine(HO.out w hp).mono ?_);rintro e w1 ⟨rfl,hp1,hk1⟩;go_wp2_with (go_at_call 165;refine(HX.out w1 hp1).mono ?_);rintro e w2 ⟨rfl,hp2,hk2⟩;go_wp2_with (go_at_call 318;refine(HR.out w2 hp2).mono ?_);rintro e w3 ⟨rfl,hp3,hk3⟩;go_wp2;go_ret;exact⟨rfl,hp3,(hk1.trans hk2).trans hk3⟩
 ·rw[if_neg (fun q=>hf q.1)] at h
  have HO:=ah (sK E st hf);have HR:=ah (hHI _ _ _ h hn bZ);clear h hf hHI ex ih hn;go_enter Tryz.func311,Tryz.ntmps311;go_wp2_with (go_at_call 101;refine(HO.out w hp).mono ?_);rintro e w1 ⟨rfl,hp1,hk1⟩;go_wp2_with (go_at_call 318;refine(HR.out w1 hp1).mono ?_);rintro e w2 ⟨rfl,hp2,hk2⟩;go_wp2;go_ret;exact⟨rfl,hp2,hk1.trans hk2⟩
def acz (E:aW)(st:aB)(t:Tok)(w:World)(e:Ending)(w':World):Prop:=e=.returned (.agg #[.int .i64 t.kind,.string ⟨t.lead.toArray⟩,.string ⟨t.text.toArray⟩,.int .i64 t.place])∧PW E st w'∧Kp E.B w w'
theorem Zo (E:aW)(hE:E.ok)(st:aB)(w:World)(h:PW E st w) :
  Calls Tryz.prog 174 #[.pointer (some ⟨E.bb,0,none⟩)] w (acz E st (bU E.toks st.used) w) :=
 (xO E.R E.B E.bb E.tv E.toks st.used st.nodes w h.2.1 h.2.2.1 hE.1 h.2.2.2.2.1 hE.2.1).mono fun _e _w' ⟨he,hb⟩=>⟨he,h.later hb,Kp.of hb h.dX⟩
theorem uf (E:aW)(hE:E.ok)(b c:ByteArray)(st:aB)(x:Bool)(hx:aV E.toks st [b.data.toList,c.data.toList]=x)(w:World)(h:PW E st w) :
  Calls Tryz.prog 165 #[.pointer (some ⟨E.pb,0,none⟩),.slice (some ⟨w.heap.size,0,none⟩) 2 2] (w.alloc (.cells #[.string b,.string c] 9)) (qO E st x w):=by
 subst hx;exact Vs E hE b c st w h
def nJ (w:World)(b:Nat)(k:Nat):Prop:=∃ x y q:Value,w.heap[b]?=some (.cells #[.int .i64 k,x,y,q] 136)
theorem nJ.kp {B:Nat}{w w':World}{b k:Nat}(h:nJ w b k)(hk:Kp B w w'):nJ w' b k:=by
 obtain⟨x,y,q,h⟩:=h;exact⟨x,y,q,hk.2 _ _ _ _ h (by decide) (by decide) (by decide)⟩
theorem nJ.cell {w:World}{b k:Nat}(h:nJ w b k):w.cell? ⟨b,0,none⟩=some (.int .i64 k):=by
 obtain⟨x,y,q,h⟩:=h;rw[Lib.cell_of_heap h];rfl
theorem nJ.new (w:World)(k:Nat)(x y q:Value):nJ (w.alloc (.cells #[.int .i64 k,x,y,q] 136)) w.heap.size k:=⟨x,y,q,heap_alloc_new _ _⟩
theorem Sv (E:aW)(hE:E.ok)(g:Nat)(ih:AX E g)(nest:Nat)(st:aB)(r:Int × aB)(w:World)(h:run E.toks E.depth (g+1) (.atom nest) st=some r)(hp:PW E st w)(hn:r.2.nodes.length+1≤1099511627776)(bZ:nest≤E.depth) :
  Calls Tryz.prog 318 #[.pointer (some ⟨E.pb,0,none⟩),.int .i64 nest] w (dL E r w):=by
 have sW:=hE.2.2
 have hHI:∀ (t:Task) (st:aB) (r:Int × aB),run E.toks E.depth g t st=some r→r.2.nodes.length+1≤1099511627776→wF E t→∀ w,PW E st w→mI E r w t:=fun t st r h1 h2 h3 w h4=>ih t st r w h1 h4 h2 h3
 have ex:=aP E.toks E.depth g;rw[run] at h;have hP:=Zo E hE st;generalize bU E.toks st.used=t at hP h;obtain⟨k,x,y,q⟩:=t;simp only at h;have HP:=ah hP;clear hP;have tf:=FM
 by_cases hf:st.fE≠0
 ·rw[if_pos hf] at h
  injection h with h;subst h
  have HO:=ah (sK E st hf);clear hf hHI ex ih hn;go_enter Tryz.func318,Tryz.ntmps318;obtain⟨d0,_,_,_,_,_⟩:=hp.cells;go_wp2_with (go_at_call 174;refine(HP.out w hp).mono ?_);rintro e w0 ⟨rfl,hp0,hk0⟩;clear d0;have hT0:=nJ.new w0 k (.string ⟨x.toArray⟩) (.string ⟨y.toArray⟩) (.int .i64 q);have wI:=hp0.later (aj w0 (.cells #[.int .i64 k,.string ⟨x.toArray⟩,.string ⟨y.toArray⟩,.int .i64 q] 136));have rW:=hk0.trans (Kp.of (aj w0 (.cells #[.int .i64 k,.string ⟨x.toArray⟩,.string ⟨y.toArray⟩,.int .i64 q] 136)) hp0.dX);go_wp2_with (go_at_call 101;refine(HO.out _ wI).mono ?_);rintro e w1 ⟨rfl,hp1,hk1⟩;go_wp2;go_ret;exact⟨rfl,hp1,rW.trans hk1⟩
 rw[if_neg hf] at h;have HO:=ah (jD E st (by simpa using hf));clear hf
 by_cases hk3:k=3
 ·rw[if_pos hk3] at h
  injection h with h;subst h
  have n2:=aC (aD _ _ _) hn;have n1:=aC (aI _ _) n2
  have k3:((k:Int) == 3)=true:=by rw[beq_iff_eq];omega
  have HL:=ah (fun w hp=>bI E st w hp hE.1 hE.2.1 n1);have HN:=ah (fun w hp=>iE E 15 [(ay E.toks st).1] 1 _ (ay E.toks st).2 w hp rfl rfl (by omega) n2);clear n1 n2 hk3 hHI ex ih hn;go_enter Tryz.func318,Tryz.ntmps318;obtain⟨d0,_,_,_,_,_⟩:=hp.cells;go_wp2_with (go_at_call 174;refine(HP.out w hp).mono ?_);rintro e w0 ⟨rfl,hp0,hk0⟩;clear d0;have hT0:=nJ.new w0 k (.string ⟨x.toArray⟩) (.string ⟨y.toArray⟩) (.int .i64 q);have wI:=hp0.later (aj w0 (.cells #[.int .i64 k,.string ⟨x.toArray⟩,.string ⟨y.toArray⟩,.int .i64 q] 136));have rW:=hk0.trans (Kp.of (aj w0 (.cells #[.int .i64 k,.string ⟨x.toArray⟩,.string ⟨y.toArray⟩,.int .i64 q] 136)) hp0.dX);go_wp2_with (go_at_call 101;refine(HO.out _ wI).mono ?_);rintro e w1 ⟨rfl,hp1,hk1⟩;have hT1:=hT0.kp hk1;have t1:=hT1.cell;obtain⟨d0,_,_,_,_,_⟩:=hp1.cells;go_wp2_with (go_at_call 167;refine(HL.out w1 hp1).mono ?_);rintro e w2 ⟨rfl,hp2,hk2⟩;clear d0;go_wp2_with (go_at_call 106;refine(HN.out w2 hp2).mono ?_);rintro e w3 ⟨rfl,hp3,hk3⟩;go_wp2;go_ret;exact⟨rfl,hp3,((rW.trans hk1).trans hk2).trans hk3⟩
 rw[if_neg hk3] at h
 have k3:((k:Int) == 3)=false:=by rw[← Bool.not_eq_true,beq_iff_eq];omega
 clear hk3
 by_cases hx1:aV E.toks st [Qt,Nu]=true
 ·rw[if_pos hx1] at h
  injection h with h;subst h
  have n2:=aC (aD _ _ _) hn;have n1:=aC (aI _ _) n2;have HX:=ah (uf E hE ⟨#[116,114,117,101]⟩ ⟨#[102,97,108,115,101]⟩ st true hx1);have HL:=ah (fun w hp=>bI E st w hp hE.1 hE.2.1 n1);have HN:=ah (fun w hp=>iE E 16 [(ay E.toks st).1] 1 _ (ay E.toks st).2 w hp rfl rfl (by omega) n2);clear n1 n2 hx1 hHI ex ih hn;go_enter Tryz.func318,Tryz.ntmps318;obtain⟨d0,_,_,_,_,_⟩:=hp.cells;go_wp2_with (go_at_call 174;refine(HP.out w hp).mono ?_);rintro e w0 ⟨rfl,hp0,hk0⟩;clear d0;have hT0:=nJ.new w0 k (.string ⟨x.toArray⟩) (.string ⟨y.toArray⟩) (.int .i64 q);have wI:=hp0.later (aj w0 (.cells #[.int .i64 k,.string ⟨x.toArray⟩,.string ⟨y.toArray⟩,.int .i64 q] 136));have rW:=hk0.trans (Kp.of (aj w0 (.cells #[.int .i64 k,.string ⟨x.toArray⟩,.string ⟨y.toArray⟩,.int .i64 q] 136)) hp0.dX);go_wp2_with (go_at_call 101;refine(HO.out _ wI).mono ?_);rintro e w1 ⟨rfl,hp1,hk1⟩;have hT1:=hT0.kp hk1;have t1:=hT1.cell;go_wp2_with (go_at_call 165;refine(HX.out w1 hp1).mono ?_);rintro e w2 ⟨rfl,hp2,hk2⟩;clear t1;obtain⟨d0,_,_,_,_,_⟩:=hp2.cells;go_wp2_with (go_at_call 167;refine(HL.out w2 hp2).mono ?_);rintro e w3 ⟨rfl,hp3,hk3⟩;clear d0;go_wp2_with (go_at_call 106;refine(HN.out w3 hp3).mono ?_);rintro e w4 ⟨rfl,oC,hk4⟩;go_wp2;go_ret;exact⟨rfl,oC,(((rW.trans hk1).trans hk2).trans hk3).trans hk4⟩
 rw[if_neg hx1] at h;have HX:=ah (uf E hE ⟨#[116,114,117,101]⟩ ⟨#[102,97,108,115,101]⟩ st false (eq_false_of_ne_true hx1));clear hx1
 by_cases hx2:st.clause=true∧aV E.toks st [aaW]=true
 ·rw[if_pos hx2] at h
  injection h with h;subst h
  have n2:=aC (aD _ _ _) hn;have n1:=aC (aI _ _) n2;have hc:=ah hx2.1;have HR:=ah (dJ E hE ⟨#[114,101,115]⟩ st true hx2.2);have HL:=ah (fun w hp=>bI E st w hp hE.1 hE.2.1 n1);have HN:=ah (fun w hp=>iE E 17 [(ay E.toks st).1] 1 _ (ay E.toks st).2 w hp rfl rfl (by omega) n2);clear n1 n2 hx2 hHI ex ih hn;go_enter Tryz.func318,Tryz.ntmps318;obtain⟨d0,_,_,_,_,_⟩:=hp.cells;go_wp2_with (go_at_call 174;refine(HP.out w hp).mono ?_);rintro e w0 ⟨rfl,hp0,hk0⟩;clear d0;have hT0:=nJ.new w0 k (.string ⟨x.toArray⟩) (.string ⟨y.toArray⟩) (.int .i64 q);have wI:=hp0.later (aj w0 (.cells #[.int .i64 k,.string ⟨x.toArray⟩,.string ⟨y.toArray⟩,.int .i64 q] 136));have rW:=hk0.trans (Kp.of (aj w0 (.cells #[.int .i64 k,.string ⟨x.toArray⟩,.string ⟨y.toArray⟩,.int .i64 q] 136)) hp0.dX);go_wp2_with (go_at_call 101;refine(HO.out _ wI).mono ?_);rintro e w1 ⟨rfl,hp1,hk1⟩;have hT1:=hT0.kp hk1;have t1:=hT1.cell;go_wp2_with (go_at_call 165;refine(HX.out w1 hp1).mono ?_);rintro e w2 ⟨rfl,hp2,hk2⟩;clear t1;obtain⟨_,_,c2,_,_,_⟩:=hp2.cells;rw[hc.out] at c2;go_wp2_with (go_at_call 165;refine(HR.out w2 hp2).mono ?_);rintro e w3 ⟨rfl,hp3,hk3⟩;clear c2;obtain⟨d0,_,_,_,_,_⟩:=hp3.cells;go_wp2_with (go_at_call 167;refine(HL.out w3 hp3).mono ?_);rintro e w4 ⟨rfl,oC,hk4⟩;clear d0;go_wp2_with (go_at_call 106;refine(HN.out w4 oC).mono ?_);rintro e w5 ⟨rfl,rV,hk5⟩;go_wp2;go_ret;exact⟨rfl,rV,((((rW.trans hk1).trans hk2).trans hk3).trans hk4).trans hk5⟩
 rw[if_neg hx2] at h
 have HR:st.clause=true→Hid (∀ w,PW E st w→Calls Tryz.prog 165 #[.pointer (some ⟨E.pb,0,none⟩),.slice (some ⟨w.heap.size,0,none⟩) 1 1] (w.alloc (.cells #[.string ⟨#[114,101,115]⟩] 9)) (qO E st false w)):=fun hc=>ah (dJ E hE ⟨#[114,101,115]⟩ st false (eq_false_of_ne_true fun q=>hx2 ⟨hc,q⟩))
 clear hx2
 by_cases hx3:aV E.toks st [[40]]=true
 ·rw[if_pos hx3] at h
  obtain⟨b,h1,h⟩:=bP h
  injection h with h;subst h
  have n4:=aC (aD _ _ _) hn;have n3:=aC (aF _ _ _) n4;have n2:=aC (ex _ _ _ h1) n3;have n1:=aC (aI _ _) n2;have HY:=ah (dJ E hE ⟨#[40]⟩ st true hx3);have HL:=ah (fun w hp=>bI E st w hp hE.1 hE.2.1 n1);have HE:=ah (hHI _ _ _ h1 n3 (by show nest+1≤_;omega));have HM:=ah (fun w hp=>dN E hE ⟨#[41]⟩ b.2 w hp n3);have HN:=ah (fun w hp=>iE E 12 [(ay E.toks st).1,b.1,(aA E.toks [[41]] b.2).1] 3 _ (aA E.toks [[41]] b.2).2 w hp rfl rfl (by omega) n4);clear n1 n2 n3 n4 h1 hx3 hHI ex ih hn
  by_cases hcl:st.clause=true
  ·have HR:=HR hcl
   have hc:=ah hcl;clear hcl;go_enter Tryz.func318,Tryz.ntmps318;obtain⟨d0,_,_,_,_,_⟩:=hp.cells;go_wp2_with (go_at_call 174;refine(HP.out w hp).mono ?_);rintro e w0 ⟨rfl,hp0,hk0⟩;clear d0;have hT0:=nJ.new w0 k (.string ⟨x.toArray⟩) (.string ⟨y.toArray⟩) (.int .i64 q);have wI:=hp0.later (aj w0 (.cells #[.int .i64 k,.string ⟨x.toArray⟩,.string ⟨y.toArray⟩,.int .i64 q] 136));have rW:=hk0.trans (Kp.of (aj w0 (.cells #[.int .i64 k,.string ⟨x.toArray⟩,.string ⟨y.toArray⟩,.int .i64 q] 136)) hp0.dX);go_wp2_with (go_at_call 101;refine(HO.out _ wI).mono ?_);rintro e w1 ⟨rfl,hp1,hk1⟩;have hT1:=hT0.kp hk1;have t1:=hT1.cell;go_wp2_with (go_at_call 165;refine(HX.out w1 hp1).mono ?_);rintro e w2 ⟨rfl,hp2,hk2⟩;clear t1;obtain⟨_,_,c2,_,_,_⟩:=hp2.cells;rw[hc.out] at c2;go_wp2_with (go_at_call 165;refine(HR.out w2 hp2).mono ?_);rintro e w3 ⟨rfl,hp3,hk3⟩;clear c2;go_wp2_with (go_at_call 165;refine(HY.out w3 hp3).mono ?_);rintro e w4 ⟨rfl,oC,hk4⟩;obtain⟨d0,_,_,_,_,_⟩:=oC.cells;go_wp2_with (go_at_call 167;refine(HL.out w4 oC).mono ?_);rintro e w5 ⟨rfl,rV,hk5⟩;clear d0;go_wp2_with (go_at_call 172;refine(HE.out w5 rV).mono ?_);rintro e w6 ⟨rfl,Cr,tC⟩;go_wp2_with (go_at_call 168;refine(HM.out w6 Cr).mono ?_);rintro e w7 ⟨rfl,EP,Bo⟩;go_wp2_with (go_at_call 106;refine(HN.out w7 EP).mono ?_);rintro e w8 ⟨rfl,Sn,A9⟩;go_wp2;go_ret;exact⟨rfl,Sn,(((((((rW.trans hk1).trans hk2).trans hk3).trans hk4).trans hk5).trans tC).trans Bo).trans A9⟩
  ·have hc:=ah (eq_false_of_ne_true hcl)
   clear hcl HR;go_enter Tryz.func318,Tryz.ntmps318;obtain⟨d0,_,_,_,_,_⟩:=hp.cells;go_wp2_with (go_at_call 174;refine(HP.out w hp).mono ?_);rintro e w0 ⟨rfl,hp0,hk0⟩;clear d0;have hT0:=nJ.new w0 k (.string ⟨x.toArray⟩) (.string ⟨y.toArray⟩) (.int .i64 q);have wI:=hp0.later (aj w0 (.cells #[.int .i64 k,.string ⟨x.toArray⟩,.string ⟨y.toArray⟩,.int .i64 q] 136));have rW:=hk0.trans (Kp.of (aj w0 (.cells #[.int .i64 k,.string ⟨x.toArray⟩,.string ⟨y.toArray⟩,.int .i64 q] 136)) hp0.dX);go_wp2_with (go_at_call 101;refine(HO.out _ wI).mono ?_);rintro e w1 ⟨rfl,hp1,hk1⟩;have hT1:=hT0.kp hk1;have t1:=hT1.cell;go_wp2_with (go_at_call 165;refine(HX.out w1 hp1).mono ?_);rintro e w2 ⟨rfl,hp2,hk2⟩;clear t1;obtain⟨_,_,c2,_,_,_⟩:=hp2.cells;rw[hc.out] at c2;go_wp2_with (go_at_call 165;refine(HY.out w2 hp2).mono ?_);rintro e w3 ⟨rfl,hp3,hk3⟩;clear c2;obtain⟨d0,_,_,_,_,_⟩:=hp3.cells;go_wp2_with (go_at_call 167;refine(HL.out w3 hp3).mono ?_);rintro e w4 ⟨rfl,oC,hk4⟩;clear d0;go_wp2_with (go_at_call 172;refine(HE.out w4 oC).mono ?_);rintro e w5 ⟨rfl,rV,hk5⟩;go_wp2_with (go_at_call 168;refine(HM.out w5 rV).mono ?_);rintro e w6 ⟨rfl,Cr,tC⟩;go_wp2_with (go_at_call 106;refine(HN.out w6 Cr).mono ?_);rintro e w7 ⟨rfl,EP,Bo⟩;go_wp2;go_ret;exact⟨rfl,EP,((((((rW.trans hk1).trans hk2).trans hk3).trans hk4).trans hk5).trans tC).trans Bo⟩
 rw[if_neg hx3] at h;have HY:=ah (dJ E hE ⟨#[40]⟩ st false (eq_false_of_ne_true hx3));clear hx3
 by_cases hk1:k=1
 ·rw[if_pos hk1] at h
  have k1:((k:Int) == 1)=true:=by rw[beq_iff_eq];omega
  have HN:=ah (hHI _ _ _ h hn bZ);clear h hk1 hHI ex ih hn
  by_cases hcl:st.clause=true
  ·have HR:=HR hcl
   have hc:=ah hcl;clear hcl;go_enter Tryz.func318,Tryz.ntmps318;obtain⟨d0,_,_,_,_,_⟩:=hp.cells;go_wp2_with (go_at_call 174;refine(HP.out w hp).mono ?_);rintro e w0 ⟨rfl,hp0,hk0⟩;clear d0;have hT0:=nJ.new w0 k (.string ⟨x.toArray⟩) (.string ⟨y.toArray⟩) (.int .i64 q);have wI:=hp0.later (aj w0 (.cells #[.int .i64 k,.string ⟨x.toArray⟩,.string ⟨y.toArray⟩,.int .i64 q] 136));have rW:=hk0.trans (Kp.of (aj w0 (.cells #[.int .i64 k,.string ⟨x.toArray⟩,.string ⟨y.toArray⟩,.int .i64 q] 136)) hp0.dX);go_wp2_with (go_at_call 101;refine(HO.out _ wI).mono ?_);rintro e w1 ⟨rfl,hp1,hk1⟩;have hT1:=hT0.kp hk1;have t1:=hT1.cell;go_wp2_with (go_at_call 165;refine(HX.out w1 hp1).mono ?_);rintro e w2 ⟨rfl,hp2,hk2⟩;clear t1;have QE:=hT1.kp hk2;obtain⟨_,_,c2,_,_,_⟩:=hp2.cells;rw[hc.out] at c2;go_wp2_with (go_at_call 165;refine(HR.out w2 hp2).mono ?_);rintro e w3 ⟨rfl,hp3,hk3⟩;clear c2;have VE:=QE.kp hk3;go_wp2_with (go_at_call 165;refine(HY.out w3 hp3).mono ?_);rintro e w4 ⟨rfl,oC,hk4⟩;have hT4:=VE.kp hk4;have t4:=hT4.cell;go_wp2_with (go_at_call 323;refine(HN.out w4 oC).mono ?_);rintro e w5 ⟨rfl,rV,hk5⟩;go_wp2;go_ret;exact⟨rfl,rV,((((rW.trans hk1).trans hk2).trans hk3).trans hk4).trans hk5⟩
  ·have hc:=ah (eq_false_of_ne_true hcl)
   clear hcl HR;go_enter Tryz.func318,Tryz.ntmps318;obtain⟨d0,_,_,_,_,_⟩:=hp.cells;go_wp2_with (go_at_call 174;refine(HP.out w hp).mono ?_);rintro e w0 ⟨rfl,hp0,hk0⟩;clear d0;have hT0:=nJ.new w0 k (.string ⟨x.toArray⟩) (.string ⟨y.toArray⟩) (.int .i64 q);have wI:=hp0.later (aj w0 (.cells #[.int .i64 k,.string ⟨x.toArray⟩,.string ⟨y.toArray⟩,.int .i64 q] 136));have rW:=hk0.trans (Kp.of (aj w0 (.cells #[.int .i64 k,.string ⟨x.toArray⟩,.string ⟨y.toArray⟩,.int .i64 q] 136)) hp0.dX);go_wp2_with (go_at_call 101;refine(HO.out _ wI).mono ?_);rintro e w1 ⟨rfl,hp1,hk1⟩;have hT1:=hT0.kp hk1;have t1:=hT1.cell;go_wp2_with (go_at_call 165;refine(HX.out w1 hp1).mono ?_);rintro e w2 ⟨rfl,hp2,hk2⟩;clear t1;have QE:=hT1.kp hk2;obtain⟨_,_,c2,_,_,_⟩:=hp2.cells;rw[hc.out] at c2;go_wp2_with (go_at_call 165;refine(HY.out w2 hp2).mono ?_);rintro e w3 ⟨rfl,hp3,hk3⟩;clear c2;have VE:=QE.kp hk3;have t3:=VE.cell;go_wp2_with (go_at_call 323;refine(HN.out w3 hp3).mono ?_);rintro e w4 ⟨rfl,oC,hk4⟩;go_wp2;go_ret;exact⟨rfl,oC,(((rW.trans hk1).trans hk2).trans hk3).trans hk4⟩
 ·rw[if_neg hk1] at h
  injection h with h;subst h
  have k1:((k:Int) == 1)=false:=by rw[← Bool.not_eq_true,beq_iff_eq];omega
  have HF:=ah (fun w hp=>kU E hE 22 st w hp);clear hk1 hHI ex ih hn
  by_cases hcl:st.clause=true
  ·have HR:=HR hcl
   have hc:=ah hcl;clear hcl;go_enter Tryz.func318,Tryz.ntmps318;obtain⟨d0,_,_,_,_,_⟩:=hp.cells;go_wp2_with (go_at_call 174;refine(HP.out w hp).mono ?_);rintro e w0 ⟨rfl,hp0,hk0⟩;clear d0;have hT0:=nJ.new w0 k (.string ⟨x.toArray⟩) (.string ⟨y.toArray⟩) (.int .i64 q);have wI:=hp0.later (aj w0 (.cells #[.int .i64 k,.string ⟨x.toArray⟩,.string ⟨y.toArray⟩,.int .i64 q] 136));have rW:=hk0.trans (Kp.of (aj w0 (.cells #[.int .i64 k,.string ⟨x.toArray⟩,.string ⟨y.toArray⟩,.int .i64 q] 136)) hp0.dX);go_wp2_with (go_at_call 101;refine(HO.out _ wI).mono ?_);rintro e w1 ⟨rfl,hp1,hk1⟩;have hT1:=hT0.kp hk1;have t1:=hT1.cell;go_wp2_with (go_at_call 165;refine(HX.out w1 hp1).mono ?_);rintro e w2 ⟨rfl,hp2,hk2⟩;clear t1;have QE:=hT1.kp hk2;obtain⟨_,_,c2,_,_,_⟩:=hp2.cells;rw[hc.out] at c2;go_wp2_with (go_at_call 165;refine(HR.out w2 hp2).mono ?_);rintro e w3 ⟨rfl,hp3,hk3⟩;clear c2;have VE:=QE.kp hk3;go_wp2_with (go_at_call 165;refine(HY.out w3 hp3).mono ?_);rintro e w4 ⟨rfl,oC,hk4⟩;have hT4:=VE.kp hk4;have t4:=hT4.cell;go_wp2_with (go_at_call 166;refine(HF.out w4 oC).mono ?_);rintro e w5 ⟨rfl,rV,hk5⟩;go_wp2;go_ret;exact⟨rfl,rV,((((rW.trans hk1).trans hk2).trans hk3).trans hk4).trans hk5⟩
  ·have hc:=ah (eq_false_of_ne_true hcl)
   clear hcl HR;go_enter Tryz.func318,Tryz.ntmps318;obtain⟨d0,_,_,_,_,_⟩:=hp.cells;go_wp2_with (go_at_call 174;refine(HP.out w hp).mono ?_);rintro e w0 ⟨rfl,hp0,hk0⟩;clear d0;have hT0:=nJ.new w0 k (.string ⟨x.toArray⟩) (.string ⟨y.toArray⟩) (.int .i64 q);have wI:=hp0.later (aj w0 (.cells #[.int .i64 k,.string ⟨x.toArray⟩,.string ⟨y.toArray⟩,.int .i64 q] 136));have rW:=hk0.trans (Kp.of (aj w0 (.cells #[.int .i64 k,.string ⟨x.toArray⟩,.string ⟨y.toArray⟩,.int .i64 q] 136)) hp0.dX);go_wp2_with (go_at_call 101;refine(HO.out _ wI).mono ?_);rintro e w1 ⟨rfl,hp1,hk1⟩;have hT1:=hT0.kp hk1;have t1:=hT1.cell;go_wp2_with (go_at_call 165;refine(HX.out w1 hp1).mono ?_);rintro e w2 ⟨rfl,hp2,hk2⟩;clear t1;have QE:=hT1.kp hk2;obtain⟨_,_,c2,_,_,_⟩:=hp2.cells;rw[hc.out] at c2;go_wp2_with (go_at_call 165;refine(HY.out w2 hp2).mono ?_);rintro e w3 ⟨rfl,hp3,hk3⟩;clear c2;have VE:=QE.kp hk3;have t3:=VE.cell;go_wp2_with (go_at_call 166;refine(HF.out w3 hp3).mono ?_);rintro e w4 ⟨rfl,oC,hk4⟩;go_wp2;go_ret;exact⟨rfl,oC,(((rW.trans hk1).trans hk2).trans hk3).trans hk4⟩
end Go.Proofs.YtknicmmigbhpcaaGreatDoor

namespace Go.Proofs.YtknicmmigbhpcaaGreatDoor
open Go.RowKit Go
def acA (l:List (List UInt8))(w:World)(e:Ending)(w':World):Prop:=∃ b n,e=.returned (.slice (some ⟨b,0,none⟩) n n)∧kF w' (.slice (some ⟨b,0,none⟩) n n) l∧Below w.heap.size w w'
theorem ug (w:World)(bs:List ByteArray):kF (w.alloc (.cells (bs.map Value.string).toArray 9)) (.slice (some ⟨w.heap.size,0,none⟩) bs.length bs.length) (bs.map (·.data.toList)):=by
 refine⟨w.heap.size,0,bs.length,by simp,by simp,fun j hj=>?_⟩;rw[Lib.cell_of_heap (heap_alloc_new _ _)];simp only[List.length_map] at hj;simp[hj]
theorem wJ (l:Nat)(hl:l≤4)(w:World) :
  Calls Tryz.prog 299 #[.int .i64 l] w (acA (yV l) w):=by
 have hc:l=0∨l=1∨l=2∨l=3∨l=4:=by omega
 rcases hc with rfl|rfl|rfl|rfl|rfl<;>
 ·go_enter Tryz.func299,Tryz.ntmps299
  go_wp2;go_ret
  first
   | exact⟨_,_,rfl,ug w [⟨#[124,124]⟩],aj _ _⟩
   | exact⟨_,_,rfl,ug w [⟨#[38,38]⟩],aj _ _⟩
   | exact⟨_,_,rfl,ug w [⟨#[61]⟩,⟨#[60,62]⟩,⟨#[60]⟩,⟨#[60,61]⟩,⟨#[62]⟩,⟨#[62,61]⟩],aj _ _⟩
   | exact⟨_,_,rfl,ug w [⟨#[43]⟩,⟨#[45]⟩],aj _ _⟩
   | exact⟨_,_,rfl,ug w [⟨#[42]⟩,⟨#[47]⟩,⟨#[37]⟩],aj _ _⟩
def aa7 (E:aW)(l nest:Nat)(r:Int × aB)(w:World)(g k:Nat)(av:Value)(wr:World):Prop :=
 ∃ (a:Int) (s:aB),av=.int .i64 a∧k≤g∧run E.toks E.depth k (.loop l nest a) s=some r∧PW E s wr∧Kp E.B w wr
theorem FU (l:Nat):(yV l).length≤1000:=by
 match l with
 | 0=>decide
 | 1=>decide
 | 2=>decide
 | 3=>decide
 | n+4=>simp[yV]
theorem VF (E:aW)(hE:E.ok)(v:Value)(l:List (List UInt8))(st:aB)(x:Bool)(hx:aV E.toks st l=x)(hl:l.length≤1000)(w:World)(h:PW E st w)(hv:kF w v l) :
  Calls Tryz.prog 165 #[.pointer (some ⟨E.pb,0,none⟩),v] w (qO E st x w):=by
 subst hx;refine(tT E v l st w h hv hE.1 hE.2.1 hl).mono ?_;rintro e w' ⟨rfl,hb⟩;exact⟨rfl,h.later hb,Kp.of hb h.dX⟩
theorem row_step (E:aW)(hE:E.ok)(g:Nat)(ih:∀ g',g'≤g→AX E g')(l nest:Nat)(st:aB)(r:Int × aB)(w:World)(h:run E.toks E.depth (g+1) (.row l nest) st=some r)(hp:PW E st w)(hn:r.2.nodes.length+1≤1099511627776)(bZ:l≤4∧nest≤E.depth) :
  Calls Tryz.prog 277 #[.pointer (some ⟨E.pb,0,none⟩),.int .i64 l,.int .i64 nest] w (dL E r w):=by
 have sW:=hE.2.2;rw[run] at h;obtain⟨a,h0,h⟩:=bP h;have n1:=aC (aP E.toks E.depth g _ _ _ h) hn;have HP:=ah (fun w hp=>ih g (Nat.le_refl _) _ _ _ w h0 hp n1 bZ);have IH:=ah ih;have H0:=ah h;have HN0:=ah hn;clear h h0 n1 ih hn;obtain⟨hl,bZ⟩:=bZ;go_enter Tryz.func277,Tryz.ntmps277;go_wp2_with (go_at_call 298;refine(HP.out w hp).mono ?_);rintro e w1 ⟨rfl,hp1,hk1⟩;go_wp2
 go_loopg [7] g (fun k av wr=>aa7 E l nest r w g k av wr)
 case atStart=>exact⟨_,_,rfl,Nat.le_refl _,H0.out,hp1,hk1⟩
 case round =>
  obtain⟨a',s,rfl,hle,hr,hps,hks⟩:=hrel
  cases gk with
  | zero=>rw[run] at hr;cases hr
  | succ k =>
   rw[run] at hr
   by_cases hf:s.fE=0
   ·have HO:=ah (jD E s hf)
    by_cases hx:aV E.toks s (yV l)=true
    ·rw[if_pos ⟨hf,hx⟩] at hr
     have HX:=ah (fun w hp v=>VF E hE v _ s true hx (FU l) w hp);obtain⟨b,h1,hr⟩:=bP hr
     have nb:b.2.nodes.length+1≤1099511627776:=by
      by_cases l2:l=2
      ·rw[if_pos l2] at hr
       injection hr with hr
       subst hr;exact aC (aD _ _ _) HN0.out
      ·rw[if_neg l2] at hr
       exact aC ((aD _ _ _).trans (aP E.toks E.depth k _ _ _ hr)) HN0.out
     have n2:=aC (aP E.toks E.depth k _ _ _ h1) nb;have n1:=aC (aI _ _) n2;have HL:=ah (fun w hp=>bI E s w hp hE.1 hE.2.1 n1);have HQ:=ah (fun w hp=>IH.out k (by omega) _ _ _ w h1 hp nb ⟨hl,bZ⟩);have HN:=ah (fun w hp=>iE E 10 [a',(ay E.toks s).1,b.1] 3 _ b.2 w hp rfl rfl (by omega) nb);clear h1 nb n1 n2 hf hx
     by_cases l2:l=2
     ·rw[if_pos l2] at hr
      injection hr with hr
      have HR:=ah hr
      have k2:((l:Int) == 2)=true:=by rw[beq_iff_eq];omega
      clear hr l2;go_wp2_with (go_at_call 101;refine(HO.out _ hps).mono ?_);rintro e v1 ⟨rfl,ES,Oh⟩;go_wp2_with (go_at_call 299;refine(wJ l hl _).mono ?_);rintro e v2 ⟨sb,sn,rfl,hsv,hbw2⟩;have VG:=ES.later hbw2;go_wp2_with (go_at_call 165;refine(HX.out _ VG _ hsv).mono ?_);rintro e v3 ⟨rfl,Oi,VH⟩;clear hsv;obtain⟨d0,_,_,_,_,_⟩:=Oi.cells;go_wp2_with (go_at_call 167;refine(HL.out _ Oi).mono ?_);rintro e v4 ⟨rfl,aa8,aa9⟩;clear d0;go_wp2_with (go_at_call 298;refine(HQ.out _ aa8).mono ?_);rintro e v5 ⟨rfl,abb,KW⟩;go_wp2_with (go_at_call 106;refine(HN.out _ abb).mono ?_);rintro e v6 ⟨rfl,abd,abe⟩;go_wp2;go_ret;refine⟨?_,?_,((((((hks.trans Oh).trans (Kp.of hbw2 ES.dX)).trans VH).trans aa9).trans KW).trans abe)⟩
      ·rw[← HR.out];rfl
      ·rw[← HR.out];exact abd
     ·rw[if_neg l2] at hr
      have HR:=ah hr
      have k2:((l:Int) == 2)=false:=by rw[← Bool.not_eq_true,beq_iff_eq];omega
      clear hr l2;go_wp2_with (go_at_call 101;refine(HO.out _ hps).mono ?_);rintro e v1 ⟨rfl,ES,Oh⟩;go_wp2_with (go_at_call 299;refine(wJ l hl _).mono ?_);rintro e v2 ⟨sb,sn,rfl,hsv,hbw2⟩;have VG:=ES.later hbw2;go_wp2_with (go_at_call 165;refine(HX.out _ VG _ hsv).mono ?_);rintro e v3 ⟨rfl,Oi,VH⟩;clear hsv;obtain⟨d0,_,_,_,_,_⟩:=Oi.cells;go_wp2_with (go_at_call 167;refine(HL.out _ Oi).mono ?_);rintro e v4 ⟨rfl,aa8,aa9⟩;clear d0;go_wp2_with (go_at_call 298;refine(HQ.out _ aa8).mono ?_);rintro e v5 ⟨rfl,abb,KW⟩;go_wp2_with (go_at_call 106;refine(HN.out _ abb).mono ?_);rintro e v6 ⟨rfl,abd,abe⟩;go_wp2
      go_roundg k
      case measure=>omega
      case rel=>exact⟨_,_,rfl,by omega,HR.out,abd,((((((hks.trans Oh).trans (Kp.of hbw2 ES.dX)).trans VH).trans aa9).trans KW).trans abe)⟩
    ·rw[if_neg (fun q=>hx q.2)] at hr
     injection hr with hr
     have HX:=ah (fun w hp v=>VF E hE v _ s false (eq_false_of_ne_true hx) (FU l) w hp);have HR:=ah hr;clear hr hf hx;go_wp2_with (go_at_call 101;refine(HO.out _ hps).mono ?_);rintro e v1 ⟨rfl,ES,Oh⟩;go_wp2_with (go_at_call 299;refine(wJ l hl _).mono ?_);rintro e v2 ⟨sb,sn,rfl,hsv,hbw2⟩;have VG:=ES.later hbw2;go_wp2_with (go_at_call 165;refine(HX.out _ VG _ hsv).mono ?_);rintro e v3 ⟨rfl,Oi,VH⟩;clear hsv;go_wp2;go_ret;refine⟨?_,?_,(((hks.trans Oh).trans (Kp.of hbw2 ES.dX)).trans VH)⟩
     ·rw[← HR.out];rfl
     ·rw[← HR.out];exact Oi
   ·rw[if_neg (fun q=>hf q.1)] at hr
    injection hr with hr
    have HO:=ah (sK E s hf);have HR:=ah hr;clear hr hf;go_wp2_with (go_at_call 101;refine(HO.out _ hps).mono ?_);rintro e v1 ⟨rfl,ES,Oh⟩;go_wp2;go_ret;refine⟨?_,?_,hks.trans Oh⟩
    ·rw[← HR.out];rfl
    ·rw[← HR.out];exact ES
def PR (E:aW)(R:List Nat)(st:aB)(w:World):Prop:=PW { E with R:=R } st w
theorem PR.drop {E:aW}{R:List Nat}{st:aB}{w:World}(h:PR E R st w)(hR:∀ r∈E.R,r∈R):PW E st w:=by
 obtain⟨h1,⟨b1,nv,l,b2,b3,b4,b5⟩,h3,h4,h5,h6⟩:=h;exact⟨h1,⟨b1,nv,l,b2,b3,b4,fun p hp=>⟨(b5 p hp).1,fun b off n cap hv hn hb=>(b5 p hp).2 b off n cap hv hn (hR b hb)⟩⟩,h3,h4,h5,fun r hr=>h6 r (hR r hr)⟩
theorem PW.pr {E:aW}{st:aB}{w:World}(h:PW E st w):PR E E.R st w:=h
def Zp (E:aW)(R:List Nat)(st:aB)(w:World):Prop :=
 w.heap[E.pb]?=some (.cells #[.pointer (some ⟨E.bb,0,none⟩),.int .i64 E.depth,.bool st.clause,.int .i64 st.fE,.int .i64 st.YL] 188 (0,0)) ∧
  BW R E.B E.bb E.tv st.used st.nodes w∧Rec E.B w E.tv 4 bK E.toks∧E.B≤E.pb∧st.used≤E.toks.length
theorem PR.less {E:aW}{R:List Nat}{st:aB}{w:World}(h:PR E R st w):Zp E R st w:=⟨h.1,h.2.1,h.2.2.1,h.2.2.2.1,h.2.2.2.2.1⟩
theorem Zp.full {E:aW}{R:List Nat}{st:aB}{w:World}(h:Zp E R st w)(hR:∀ r∈R,r<w.heap.size):PR E R st w:=⟨h.1,h.2.1,h.2.2.1,h.2.2.2.1,h.2.2.2.2,hR⟩
theorem Zp.more {E:aW}{R:List Nat}{st:aB}{w:World}(h:Zp E R st w)(g:Nat)(hg:w.heap.size≤g):Zp E (g :: R) st w:=by
 obtain⟨h1,⟨b1,nv,l,b2,b3,b4,b5⟩,h3,h4,h5⟩:=h;refine⟨h1,⟨b1,nv,l,b2,b3,b4,fun p hp=>⟨(b5 p hp).1,fun b off n cap hv hn q=>?_⟩⟩,h3,h4,h5⟩
 rcases List.mem_cons.1 q with q|q
 ·obtain⟨ao,cap',hv',_,hf⟩:=(b5 p hp).1
  rw[hv] at hv';simp only[Value.slice.injEq] at hv';obtain⟨ha,hl,_⟩:=hv';obtain⟨b',off',cs,fr,he,hh,_⟩:=hf (by omega);rw[← ha] at he;simp only[Option.some.injEq,Addr.mk.injEq] at he;have:=(bQ hh).1;omega
 ·exact(b5 p hp).2 b off n cap hv hn q
theorem PR.take {E:aW}{R:List Nat}{st:aB}{w w':World}(h:PR E R st w)(hb:Below w.heap.size w w')(g:Nat)(hg:w.heap.size≤g)(hg':g<w'.heap.size):PR E (g :: R) st w':=by
 obtain⟨h1,h2,h3,h4,h5⟩:=h.less.more g hg;have hB:=PW.dX (E:={ E with R:=R }) h;have hlt:=(bQ h1).1;refine⟨?_,h2.later hb,h3.below (hb.mono hB),h4,h5,fun r hr=>?_⟩
 ·rw[hb.block E.pb hlt];exact h1
 ·rcases List.mem_cons.1 hr with rfl|hr
  ·exact hg'
  ·exact Nat.lt_of_lt_of_le (h.2.2.2.2.2 r hr) hb.size
theorem Zp.grown {E:aW}{R:List Nat}{st:aB}{w w':World}(h:Zp E R st w){base n:Nat}{v:Value}{xs:List Value}(ho:w.ownsRow base 3 1 v n xs)(hB:E.B≤base)(hv:∀ b,v.ownBlock=some b→b∈R)(hg:w.grownBy w' v.ownBlock):Zp E R st w':=by
 obtain⟨h1,⟨b1,nv,l,b2,b3,b4,b5⟩,h3,h4,h5⟩:=h;have hlt:=(bQ h1).1;have hbel:Below E.B w w':=(Below.refl _ _).grown hg (by omega) (fun k hk=>by have:=(ho.lt k hk).1;omega);refine⟨gZ ho hg h1 (by decide),⟨b1,nv,l,gZ ho hg b2 (by decide),b3,⟨b4.1,?_⟩,fun p hp=>?_⟩,h3.below hbel,h4,h5⟩
 ·rcases b4.2 with hn|⟨g,cap,cur,hv',hg',hh,hr⟩
  ·exact .inl hn
  ·exact .inr ⟨g,cap,cur,hv',hg',gZ ho hg hh (by decide),hr⟩
 ·refine⟨?_,(b5 p hp).2⟩
  obtain⟨ao,cap,hv',hc,hf⟩:=(b5 p hp).1;refine⟨ao,cap,hv',hc,fun h0=>?_⟩;obtain⟨b,off,cs,fr,ha,hh,hj⟩:=hf h0;refine⟨b,off,cs,fr,ha,?_,hj⟩;subst ha;rw[hg.block b (bQ hh).1]
  ·exact hh
  ·intro q
   have hout:=(b5 p hp).2;rw[hv'] at hout;exact hout b off _ cap rfl h0 (hv b q.symm)
theorem PR.append {E:aW}{R:List Nat}{st:aB}{w w':World}(h:PR E R st w){base n H:Nat}{g:Nat}{v:Value}{xs:List Value}(ho:w.ownsRow base 3 1 v n xs)(hB:E.B≤base)(hv:∀ b,v.ownBlock=some b→b∈R)
  (hg:w.grownBy w' v.ownBlock) (hor:v.ownBlock=some g∨g=H) (hH:w.heap.size=H) (hlt:g<w'.heap.size) :
  ∃ R',(∀ r∈R,r∈R')∧g∈R'∧PR E R' st w':=by
 have hsz:w.heap.size≤w'.heap.size:=((Below.refl 0 w).grown hg (Nat.zero_le _) (fun k _=>Nat.zero_le _)).size;have hb6:=h.2.2.2.2.2
 rcases hor with hor|rfl
 ·exact⟨R,fun r hr=>hr,hv _ hor,(h.less.grown ho hB hv hg).full fun r hr=>Nat.lt_of_lt_of_le (hb6 r hr) hsz⟩
 ·refine⟨g :: R,fun r hr=>List.mem_cons_of_mem _ hr,List.mem_cons_self,((h.less.more g (by omega)).grown ho hB (fun b hb=>List.mem_cons_of_mem _ (hv b hb)) hg).full fun r hr=>?_⟩
  rcases List.mem_cons.1 hr with rfl|hr
  ·exact hlt
  ·exact Nat.lt_of_lt_of_le (hb6 r hr) hsz
theorem gP {B base n:Nat}{w w':World}{v:Value}{xs:List Value}(h:w.ownsRow base 3 1 v n xs)(hk:Kp B w w'):w'.ownsRow base 3 1 v n xs:=by
 refine⟨h.1,?_⟩
 rcases h.2 with hn|⟨g,cap,cur,hv,hg,hh,hr⟩
 ·exact .inl hn
 ·exact .inr ⟨g,cap,cur,hv,hg,hk.2 _ _ _ _ hh (by decide) (by decide) (by decide),hr⟩
theorem Kp.grown {B base n:Nat}{w0 w w':World}{v:Value}{xs:List Value}(hk:Kp B w0 w)(ho:w.ownsRow base 3 1 v n xs)(hb:w0.heap.size≤base)(hB:B≤w0.heap.size)(hg:w.grownBy w' v.ownBlock):Kp B w0 w':=by
 refine⟨hk.1.grown hg (by have:=hk.size;omega) (fun k hkk=>by have:=(ho.lt k hkk).1;omega),fun k cs T fr h0 h1 h2 h3=>?_⟩;have hkk:=(bQ h0).1;rw[hg.block k (by have:=hk.size;omega) (fun q=>by have:=(ho.lt k q.symm).1;omega)];exact hk.2 k cs T fr h0 h1 h2 h3
end Go.Proofs.YtknicmmigbhpcaaGreatDoor
