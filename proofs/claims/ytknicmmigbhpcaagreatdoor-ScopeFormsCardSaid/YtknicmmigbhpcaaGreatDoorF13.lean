/- Walks and plain laws: ParseW14, ParseW15, ParseW16, ParseW17. -/
import Derived.Test.YtknicmmigbhpcaaGreatDoorF12
import Derived.Laws.AppendOwnNone
set_option maxHeartbeats 16000000
set_option maxRecDepth 100000
set_option linter.unusedVariables false
set_option linter.unusedSimpArgs false
namespace Go.Proofs.YtknicmmigbhpcaaGreatDoor
open Go.RowKit Go
def VI (E:aW)(l:List Int × aB)(w:World)(e:Ending)(w':World):Prop:=∃ v,e=.returned v∧dS w' v l.1∧(l.1=[]→v=.slice none 0 0)∧PW E l.2 w'∧Kp E.B w w'
def abf (E:aW)(one:aB→Option (Int × aB))(res:List Int × aB)(w0:World)(kv nv:Value)(wr:World):Prop :=
 ∃ (r m:Nat) (kids:List Int) (s:aB) (R:List Nat),nv=.int .i64 (m:Nat)∧m+r=9∧kids.length+2 * r≤16∧aU E.toks one r kids s=some res ∧
  wr.ownsRow w0.heap.size 3 1 kv kids.length (kids.map (Value.int .i64))∧(∀ b,kv.ownBlock=some b→b∈R)∧(∀ r∈E.R,r∈R)∧(kids=[]→kv=.slice none 0 0)∧PR E R s wr∧Kp E.B w0 wr
theorem PR.dX {E:aW}{R:List Nat}{st:aB}{w:World}(h:PR E R st w):E.B≤w.heap.size:=PW.dX (E:={ E with R:=R }) h
theorem kX {E:aW}{R:List Nat}{w0 w:World}{kv:Value}{n:Nat}{kids:List Int}{s:aB}{res:List Int × aB}(ho:w.ownsRow w0.heap.size 3 1 kv n (kids.map (Value.int .i64)))(hR:∀ r∈E.R,r∈R)(hp:PR E R s w)(hk:Kp E.B w0 w)(h:(kids,s)=res)(h0:kids=[]→kv=.slice none 0 0):VI E res w0 (.returned kv) w:=by
 subst h;exact⟨kv,rfl,dS.eP ho,h0,hp.drop hR,hk⟩
theorem nK {w:World}{base n:Nat}{v:Value}{xs:List Value}(h:w.ownsRow base 3 1 v n xs):∃ ao cap,v=.slice ao n cap:=by
 rcases h.2 with ⟨hv,hn0⟩|⟨g,cap,cur,hv,_⟩
 ·exact⟨none,0,by rw[hv,hn0]⟩
 ·exact⟨_,cap,hv⟩
theorem FV (E:aW)(hE:E.ok)(one:aB→Option (Int × aB))(cp cn:Nat)(st:aB)(res:List Int × aB)(w:World)(h:jq E.toks one st=some res)(hp:PW E st w)(hn:res.2.nodes.length+1≤1099511627776)
  (hext:∀ s k,one s=some k→dB s k.2)
  (hone:∀ (R:List Nat) (s:aB) (k:Int × aB) (w':World),one s=some k→PR E R s w'→Kp E.B w w'→k.2.nodes.length+1≤1099511627776 →
   Calls Tryz.prog 326 #[.pointer (some ⟨cp,0,none⟩),.pointer (some ⟨cn,0,none⟩)] w' (dL { E with R:=R } k w')) :
  Calls Tryz.prog 169 #[.pointer (some ⟨E.pb,0,none⟩),.func (.func 326) #[] #[.pointer (some ⟨cp,0,none⟩),.pointer (some ⟨cn,0,none⟩)]] w (VI E res w):=by
 have sW:=hE.2.2;obtain⟨i0,hi,hz0,hz1,hz2⟩:=info_parts Tryz.lQ;unfold jq at h
 by_cases hx:aV E.toks st [[41]]=true
 ·rw[if_pos hx] at h
  injection h with h;subst h
  have HX:=ah (dJ E hE ⟨#[41]⟩ st true hx);clear hx hone hext;go_enter Tryz.func169,Tryz.ntmps169;go_wp2_with (go_at_call 165;refine(HX.out w hp).mono ?_);rintro e w1 ⟨rfl,hp1,hk1⟩;go_wp2;go_ret;exact⟨_,rfl,⟨none,0,rfl,Nat.le_refl _,fun q=>absurd q (by simp)⟩,fun _=>rfl,hp1,hk1⟩
 ·rw[if_neg hx] at h
  have HX:=ah (dJ E hE ⟨#[41]⟩ st false (eq_false_of_ne_true hx));have H0:=ah h;have Cc:=ah hone;have ET:=ah hext;have HN:=ah hn;have HE:=ah hE;clear hx hone hext h hn;go_enter Tryz.func169,Tryz.ntmps169;go_wp2_with (go_at_call 165;refine(HX.out w hp).mono ?_);rintro e w1 ⟨rfl,hp1,hk1⟩;go_wp2
  go_loopw [5,6] (fun kv nv wr=>abf E one res w kv nv wr) (fun _ nv _=>10 - (intOf nv).toNat)
  case atStart=>exact⟨8,1,[],st,E.R,rfl,rfl,by simp,H0.out,World.ownsRow_nil _ _ _ _,fun _ q=>by simp[Value.ownBlock] at q,fun _ q=>q,fun _=>rfl,hp1,hk1⟩
  case round =>
   obtain⟨r,m,kids,s,R,rfl,hm,hkl,hl,hown,hR,hER,hnil,hps,hks⟩:=hrel;obtain⟨ao,cap,rfl⟩:=nK hown;have vI:=ah hnil;clear hnil;have hBw:E.B≤w.heap.size:=hp.dX
   by_cases hf:s.fE=0
   ·have HO:=ah (jD { E with R:=R } s hf)
    cases r with
    | zero =>
     obtain rfl:m=9:=by omega
     rw[aU,if_pos hf] at hl
     injection hl with hl
     have HF:=ah (fun w hp=>kU { E with R:=R } HE.out 15 s w hp);have HL:=ah hl;clear hl hf;go_wp2_with (go_at_call 101;refine(HO.out _ hps).mono ?_);rintro e w2 ⟨rfl,hp2,hk2⟩;go_wp2_with (go_at_call 166;refine(HF.out _ hp2).mono ?_);rintro e w3 ⟨rfl,hp3,hk3⟩;have hown3:=gP (gP hown hk2) hk3;go_wp2;go_ret;exact kX hown3 hER hp3 ((hks.trans hk2).trans hk3) HL.out vI.out
    | succ r =>
     rw[aU,if_neg (by simp[hf])] at hl;obtain⟨k,h1,hl⟩:=bP hl;have d8:decide (8<(m:Int))=false:=decide_eq_false (by omega);have d8':decide (8<m)=false:=decide_eq_false (by omega)
     have hnk:k.2.nodes.length+1≤1099511627776:=by
      split at hl
      ·exact aC ((aI _ _).trans (lH _ one ET.out _ _ _ _ hl)) HN.out
      ·injection hl with hl;rw[← hl] at HN;exact HN.out
     have HK:=ah (fun w' hp hk=>Cc.out R s k w' h1 hp hk hnk);have HL:=ah hl;clear hl h1 hf;go_wp2_with (go_at_call 101;refine(HO.out _ hps).mono ?_);rintro e w2 ⟨rfl,hp2,hk2⟩;go_wp2_with (go_at_call 326;refine(HK.out _ hp2 (hks.trans hk2)).mono ?_);rintro e w3 ⟨rfl,hp3,hk3⟩;have Oj:PR E R k.2 w3:=hp3;clear hp3;have hown3:=gP (gP hown hk2) hk3;have wI:PR E R k.2 (w3.alloc (.cells #[.int .i64 k.1] 3)):=PW.later Oj (aj w3 _);have hnw:=heap_alloc_new w3 (.cells #[.int .i64 k.1] 3);have rW:Kp E.B w (w3.alloc (.cells #[.int .i64 k.1] 3)):=((hks.trans hk2).trans hk3).trans (Kp.of (aj w3 _) Oj.dX);have lS:=hown3.alloc (.cells #[.int .i64 k.1] 3);have abg:w.heap.size≤w3.heap.size:=((hks.trans hk2).trans hk3).size;go_wp2_with (at_builtin;refine wpList_append_lies _ rfl _ _ 51 rfl w.heap.size 3 i0 (.int .i64 0) 1 8 Tryz.underlying51 hi hz0 hz1 hz2 rfl (by decide) _ _ _ rfl lS ⟨w3.heap.size,0,none⟩ 1 1 [.int .i64 k.1] rfl rfl ?c1 ?c2 ?c3 ?c4 ?c5 ?c6 _ rfl ?_)
     case c1=>exact World.news_of_block (cs:=#[.int .i64 k.1]) (t:=3) (fr:=(0,0)) hnw
     case c2=>simp[Value.oneCell']
     case c3=>omega
     case c4=>unfold maxLen;omega
     case c5=>omega
     case c6=>simp;omega
     intro g cap4 w4 tQ wK VJ VK;obtain⟨R4,hR4,hg4,oC⟩:=wI.append lS hBw hR wK VJ (by simp) VK;have hk4:=rW.grown lS (Nat.le_refl _) hBw wK
     have rX:w4.ownsRow w.heap.size 3 1 (.slice (some ⟨g,0,none⟩) (kids.length+1) cap4) (kids.length+1) ((kids++[k.1]).map (Value.int .i64)):=by rw[List.map_append];exact tQ
     have Ig:∀ r∈E.R,r∈R4:=fun r hr=>hR4 r (hER r hr)
     clear wI hnw rW lS wK VJ VK hown3 tQ hk2 hk3 hp2 Oj hown hps hks HO HK HX H0 Cc abg hR4
     by_cases Hl:k.2.fE=0
     ·have VL:=ah (jD { E with R:=R4 } k.2 Hl)
      by_cases hx4:aV E.toks k.2 [[44]]=true
      ·have hl:=HL.out
       rw[if_pos ⟨Hl,hx4⟩] at hl;have Zq:=ah (dJ { E with R:=R4 } HE.out ⟨#[44]⟩ k.2 true hx4);have HLF:=ah (fun w hp=>bI { E with R:=R4 } k.2 w hp HE.out.1 HE.out.2.1 hnk);have HL2:=ah hl;clear hl HL Hl hx4;go_wp2_with (go_at_call 101;refine(VL.out _ oC).mono ?_);rintro e w5 ⟨rfl,rV,hk5⟩;go_wp2_with (go_at_call 165;refine(Zq.out _ rV).mono ?_);rintro e w6 ⟨rfl,Cr,tC⟩;obtain⟨d0,_,_,_,_,_⟩:=Cr.cells;go_wp2_with (go_at_call 167;refine(HLF.out _ Cr).mono ?_);rintro e w7 ⟨rfl,EP,Bo⟩;clear d0;have Ol:PR E R4 (ay E.toks k.2).2 w7:=EP;clear EP;have KX:=gP (gP (gP rX hk5) tC) Bo;have Om:=((hk4.trans hk5).trans tC).trans Bo;have wI:PR E R4 (ay E.toks k.2).2 (w7.alloc (.cells #[.int .i64 (ay E.toks k.2).1] 3)):=PW.later Ol (aj w7 _);have hnw:=heap_alloc_new w7 (.cells #[.int .i64 (ay E.toks k.2).1] 3);have rW:Kp E.B w (w7.alloc (.cells #[.int .i64 (ay E.toks k.2).1] 3)):=Om.trans (Kp.of (aj w7 _) Ol.dX);have lS:=KX.alloc (.cells #[.int .i64 (ay E.toks k.2).1] 3);have acB:w.heap.size≤w7.heap.size:=Om.size
       have hv4:∀ b,(Value.slice (some ⟨g,0,none⟩) (kids.length+1) cap4).ownBlock=some b→b∈R4:=fun b hb=>by
        simp only[Value.ownBlock,Option.some.injEq] at hb;subst hb;exact hg4
       go_wp2_with (at_builtin;refine wpList_append_lies _ rfl _ _ 51 rfl w.heap.size 3 i0 (.int .i64 0) 1 8 Tryz.underlying51 hi hz0 hz1 hz2 rfl (by decide) _ _ _ rfl lS ⟨w7.heap.size,0,none⟩ 1 1 [.int .i64 (ay E.toks k.2).1] rfl rfl ?c1 ?c2 ?c3 ?c4 ?c5 ?c6 _ rfl ?_)
       case c1=>exact World.news_of_block (cs:=#[.int .i64 (ay E.toks k.2).1]) (t:=3) (fr:=(0,0)) hnw
       case c2=>simp[Value.oneCell']
       case c3=>omega
       case c4=>unfold maxLen;omega
       case c5=>omega
       case c6=>simp;omega
       intro g8 Oo w8 uh mK Cu uj;obtain⟨R8,hR8,hg8,Sn⟩:=wI.append lS hBw hv4 mK Cu (by simp) uj;have A9:=rW.grown lS (Nat.le_refl _) hBw mK
       have Oq:w8.ownsRow w.heap.size 3 1 (.slice (some ⟨g8,0,none⟩) (kids.length+1+1) Oo) (kids++[k.1,(ay E.toks k.2).1]).length ((kids++[k.1,(ay E.toks k.2).1]).map (Value.int .i64)):=by
        rw[List.map_append,bC];exact uh
       have hv8:∀ b,(Value.slice (some ⟨g8,0,none⟩) (kids.length+1+1) Oo).ownBlock=some b→b∈R8:=fun b hb=>by
        simp only[Value.ownBlock,Option.some.injEq] at hb;subst hb;exact hg8
       have abh:∀ r∈E.R,r∈R8:=fun r hr=>hR8 r (Ig r hr)
       clear wI hnw rW lS mK Cu uj KX uh Om rX hk4 hk5 tC Bo oC rV Cr Ol VL Zq HLF hR8 hv4 Ig hg4;go_wp2
       go_roundw
       case rel=>exact⟨r,m+1,_,_,R8,by go_num,by omega,by simp;omega,HL2.out,Oq,hv8,abh,(fun q=>by simp at q),Sn,A9⟩
       case measure=>simp[intOf];omega
      ·have hl:=HL.out
       rw[if_neg (fun q=>hx4 q.2)] at hl
       injection hl with hl
       have Zq:=ah (dJ { E with R:=R4 } HE.out ⟨#[44]⟩ k.2 false (eq_false_of_ne_true hx4));have HL2:=ah hl;clear hl HL Hl hx4;go_wp2_with (go_at_call 101;refine(VL.out _ oC).mono ?_);rintro e w5 ⟨rfl,rV,hk5⟩;go_wp2_with (go_at_call 165;refine(Zq.out _ rV).mono ?_);rintro e w6 ⟨rfl,Cr,tC⟩;have hown6:=gP (gP rX hk5) tC;go_wp2;go_ret;exact kX hown6 Ig Cr ((hk4.trans hk5).trans tC) HL2.out (fun q=>by simp at q)
     ·have hl:=HL.out
      rw[if_neg (fun q=>Hl q.1)] at hl
      injection hl with hl
      have VL:=ah (sK { E with R:=R4 } k.2 Hl);have HL2:=ah hl;clear hl HL Hl;go_wp2_with (go_at_call 101;refine(VL.out _ oC).mono ?_);rintro e w5 ⟨rfl,rV,hk5⟩;have hown5:=gP rX hk5;go_wp2;go_ret;exact kX hown5 Ig rV (hk4.trans hk5) HL2.out (fun q=>by simp at q)
   ·have HO:=ah (sK { E with R:=R } s hf)
    have hl':(kids,s)=res:=by
     cases r with
     | zero=>rw[aU,if_neg hf] at hl;injection hl
     | succ r=>rw[aU,if_pos hf] at hl;injection hl
    have HL:=ah hl';clear hl hl' hf;go_wp2_with (go_at_call 101;refine(HO.out _ hps).mono ?_);rintro e w2 ⟨rfl,hp2,hk2⟩;have hown2:=gP hown hk2;go_wp2;go_ret;exact kX hown2 hER hp2 (hks.trans hk2) HL.out vI.out
theorem FW (E:aW)(g nest cp cn:Nat)(ih:AX E g)(st:aB)(r:Int × aB)(w:World)(h:run E.toks E.depth g (.expr (nest+1)) st=some r)(hp:PW E st w)(hn:r.2.nodes.length+1≤1099511627776)(bZ:nest≤E.depth)(sW:E.depth≤1000)
  (c1:w.cell? ⟨cp,0,none⟩=some (.pointer (some ⟨E.pb,0,none⟩))) (c2:w.cell? ⟨cn,0,none⟩=some (.int .i64 nest)) :
  Calls Tryz.prog 326 #[.pointer (some ⟨cp,0,none⟩),.pointer (some ⟨cn,0,none⟩)] w (dL E r w):=by
 have HE:=ah (ih _ _ _ w h hp hn (by show nest+1≤_;omega));clear h hp hn ih;go_enter Tryz.func326,Tryz.ntmps326;go_wp2_with (go_at_call 172;refine HE.out.mono ?_);rintro e w1 ⟨rfl,hp1,hk1⟩;go_wp2;go_ret;exact⟨rfl,hp1,hk1⟩
theorem Zr (w:World)(base:Nat)(x:Int)(hb:base≤w.heap.size):(w.alloc (.cells #[.int .i64 x] 3)).ownsRow base 3 1 (.slice (some ⟨w.heap.size,0,none⟩) 1 1) 1 ([x].map (Value.int .i64)) :=
 ⟨rfl,.inr ⟨w.heap.size,1,_,rfl,hb,heap_alloc_new _ _,Nat.le_refl _,by unfold maxLen;omega,rfl,rfl⟩⟩
def iT (E:aW)(nest:Nat)(w:World):World:=(w.alloc (.cells #[.pointer (some ⟨E.pb,0,none⟩)] 129)).alloc (.cells #[.int .i64 nest] 3)
theorem qg (E:aW)(nest:Nat)(w:World):Below w.heap.size w (iT E nest w):=((Below.refl _ _).alloc (Nat.le_refl _) _).alloc (by simp) _
theorem iF (E:aW)(nest:Nat){w wr:World}{B:Nat}(hk:Kp B (iT E nest w) wr):wr.cell? ⟨w.heap.size,0,none⟩=some (.pointer (some ⟨E.pb,0,none⟩)):=by
 have h1:(iT E nest w).heap[w.heap.size]?=some (.cells #[.pointer (some ⟨E.pb,0,none⟩)] 129 (0,0)):=(Lib.alloc_old _ _ _ (by simp)).trans (heap_alloc_new _ _);rw[Lib.cell_of_heap (hk.2 _ _ _ _ h1 (by decide) (by decide) (by decide))];rfl
theorem QF (E:aW)(nest:Nat){w wr:World}{B:Nat}(hk:Kp B (iT E nest w) wr):wr.cell? ⟨w.heap.size+1,0,none⟩=some (.int .i64 nest):=by
 have h1:(iT E nest w).heap[w.heap.size+1]?=some (.cells #[.int .i64 nest] 3 (0,0)):=by
  have:=heap_alloc_new (w.alloc (.cells #[.pointer (some ⟨E.pb,0,none⟩)] 129)) (.cells #[.int .i64 nest] 3);rw[show (w.alloc (.cells #[.pointer (some ⟨E.pb,0,none⟩)] 129)).heap.size=w.heap.size+1 by simp] at this;exact this
 rw[Lib.cell_of_heap (hk.2 _ _ _ _ h1 (by decide) (by decide) (by decide))];rfl
def iU (E:aW)(W0:World)(R:List Nat)(v:Value)(ks:List Int)(s:aB)(w:World):Prop :=
 w.ownsRow W0.heap.size 3 1 v ks.length (ks.map (Value.int .i64))∧(∀ b,v.ownBlock=some b→b∈R)∧(∀ r∈E.R,r∈R)∧PR E R s w∧Kp E.B W0 w
theorem iU.call {E:aW}{W0:World}{R:List Nat}{v:Value}{ks:List Int}{s s':aB}{w w':World}(h:iU E W0 R v ks s w)(hp:PW { E with R:=R } s' w')(hk:Kp E.B w w'):iU E W0 R v ks s' w' :=
 ⟨gP h.1 hk,h.2.1,h.2.2.1,hp,h.2.2.2.2.trans hk⟩
theorem iU.lit {E:aW}{W0:World}{R:List Nat}{v:Value}{ks:List Int}{s:aB}{w:World}(h:iU E W0 R v ks s w)(o:Obj):iU E W0 R v ks s (w.alloc o) :=
 ⟨h.1.alloc o,h.2.1,h.2.2.1,PW.later h.2.2.2.1 (aj w o),h.2.2.2.2.trans (Kp.of (aj w o) h.2.2.2.1.dX)⟩
theorem iU.app {E:aW}{W0:World}{R:List Nat}{v:Value}{ks news:List Int}{s:aB}{wA w':World}{g n n' cap H:Nat}(h:iU E W0 R v ks s wA)(hB:E.B≤W0.heap.size)(hn:(ks++news).length=n)
  (ho:w'.ownsRow W0.heap.size 3 1 (.slice (some ⟨g,0,none⟩) n' cap) n (ks.map (Value.int .i64)++news.map (Value.int .i64))) (hg:wA.grownBy w' v.ownBlock) (hat:v.ownBlock=some g∨g=H) (hH:wA.heap.size=H) (hlt:g<w'.heap.size) :
  ∃ R',iU E W0 R' (.slice (some ⟨g,0,none⟩) n' cap) (ks++news) s w':=by
 obtain⟨h1,h2,h3,h4,h5⟩:=h;obtain⟨R',r1,r2,r3⟩:=h4.append h1 hB h2 hg hat hH hlt;refine⟨R',?_,fun b hb=>?_,fun r hr=>r1 r (h3 r hr),r3,h5.grown h1 (Nat.le_refl _) hB hg⟩
 ·rw[List.map_append,hn];exact ho
 ·simp only[Value.ownBlock,Option.some.injEq] at hb;subst hb;exact r2
theorem iU.start {E:aW}{W0 w:World}{s:aB}(x:Int)(hp:PW E s w)(hk:Kp E.B W0 w):iU E W0 (w.heap.size :: E.R) (.slice (some ⟨w.heap.size,0,none⟩) 1 1) [x] s (w.alloc (.cells #[.int .i64 x] 3)) :=
 ⟨Zr w _ x hk.size,fun b hb=>by simp only[Value.ownBlock,Option.some.injEq] at hb;subst hb;exact List.mem_cons_self,fun r hr=>List.mem_cons_of_mem _ hr,PR.take hp.pr (aj w _) _ (Nat.le_refl _) (by simp),hk.trans (Kp.of (aj w _) hp.dX)⟩
theorem iU.node {E:aW}{W0:World}{R:List Nat}{v:Value}{ks:List Int}{s:aB}{w:World}(h:iU E W0 R v ks s w):dS w v ks:=dS.eP h.1
theorem xV (toks:List Tok)(one:aB→Option (Int × aB)):∀ (r:Nat) (kids:List Int) (st:aB) (l:List Int × aB),aU toks one r kids st=some l→l.1.length≤kids.length+2 * r
 | 0,kids,st,l,h=>by rw[aU] at h;injection h with h;subst h;simp
 | r+1,kids,st,l,h=>by
  rw[aU] at h
  split at h
  ·injection h with h;subst h;simp
  ·obtain⟨k,h1,h⟩:=bP h
   split at h
   ·have:=xV toks one r _ _ _ h
    simp only[bC,dI,List.length_nil] at this;omega
   ·injection h with h;subst h;simp;omega
theorem FX (toks:List Tok)(one:aB→Option (Int × aB))(st:aB)(l:List Int × aB)(h:jq toks one st=some l):l.1.length≤16:=by
 unfold jq at h
 split at h
 ·injection h with h;subst h;simp
 ·simpa using xV toks one 8 [] st l h
theorem Ot (E:aW)(hE:E.ok)(g:Nat)(nest:Nat)(st:aB)(r:Int × aB)(w:World)(h:run E.toks E.depth (g+1) (.name nest) st=some r)(hp:PW E st w)(hn:r.2.nodes.length+1≤1099511627776)(aa6:nest≤E.depth)
  (hcase:(ay E.toks st).2.clause=true∨aV E.toks (ay E.toks st).2 [[46],[40]]=false) :
  Calls Tryz.prog 323 #[.pointer (some ⟨E.pb,0,none⟩),.int .i64 nest] w (dL E r w):=by
 have sW:=hE.2.2;obtain⟨i0,hi,hz0,hz1,hz2⟩:=info_parts Tryz.lQ;rw[run] at h;have hA:PW E st (iT E nest w):=hp.later (qg E nest w);have rW:Kp E.B w (iT E nest w):=Kp.of (qg E nest w) hp.dX
 ·rw[if_pos hcase] at h
  injection h with h;subst h
  have n2:=aC (aD _ _ _) hn;have n1:=aC (aI _ _) n2;have HL:=ah (fun w hp=>bI E st w hp hE.1 hE.2.1 n1);have HN:=ah (fun w hp v hv=>jW E 14 v [(ay E.toks st).1] (ay E.toks st).2 w hp hv (by simp) n2);clear n1 n2 hn
  by_cases hcl:(ay E.toks st).2.clause=true
  ·have hc:=ah hcl
   clear hcase hcl;have hA':PW E st ((w.alloc (.cells #[.pointer (some ⟨E.pb,0,none⟩)] 129)).alloc (.cells #[.int .i64 nest] 3)):=hA;obtain⟨d0,_,_,_,_,_⟩:=hA'.cells;go_enter Tryz.func323,Tryz.ntmps323;go_wp2_with (go_at_call 167;refine(HL.out _ hA').mono ?_);rintro e w1 ⟨rfl,hp1,Cv⟩;have hk1:Kp E.B (iT E nest w) w1:=Cv;clear d0 Cv hA';have hpB:=hp1.later (aj w1 (.cells #[.int .i64 (ay E.toks st).1] 3));have hkB:=hk1.trans (Kp.of (aj w1 (.cells #[.int .i64 (ay E.toks st).1] 3)) hp1.dX);have p1:=iF E nest hkB;obtain⟨_,_,c1,_,_,_⟩:=hpB.cells;rw[hc.out] at c1;have hiB:=Ch w1 [(ay E.toks st).1];go_wp2_with (go_at_call 106;refine(HN.out _ hpB _ hiB).mono ?_);rintro e w2 ⟨rfl,hp2,hk2⟩;go_wp2;go_ret;exact⟨rfl,hp2,(rW.trans hkB).trans hk2⟩
  ·have hc:=ah (eq_false_of_ne_true hcl)
   have HX:=ah (fun w hp=>uf E hE ⟨#[46]⟩ ⟨#[40]⟩ (ay E.toks st).2 false (hcase.resolve_left hcl) w hp);clear hcase hcl;have hA':PW E st ((w.alloc (.cells #[.pointer (some ⟨E.pb,0,none⟩)] 129)).alloc (.cells #[.int .i64 nest] 3)):=hA;obtain⟨d0,_,_,_,_,_⟩:=hA'.cells;go_enter Tryz.func323,Tryz.ntmps323;go_wp2_with (go_at_call 167;refine(HL.out _ hA').mono ?_);rintro e w1 ⟨rfl,hp1,Cv⟩;have hk1:Kp E.B (iT E nest w) w1:=Cv;clear d0 Cv hA';have hpB:=hp1.later (aj w1 (.cells #[.int .i64 (ay E.toks st).1] 3));have hkB:=hk1.trans (Kp.of (aj w1 (.cells #[.int .i64 (ay E.toks st).1] 3)) hp1.dX);have p1:=iF E nest hkB;obtain⟨_,_,c1,_,_,_⟩:=hpB.cells;rw[hc.out] at c1;have hiB:=Ch w1 [(ay E.toks st).1];have VN:=HX.out _ hpB;rw[show (w1.alloc (.cells #[.int .i64 (ay E.toks st).1] 3)).heap.size=w1.heap.size+1 by simp] at VN;have HXB:=ah VN;clear VN;go_wp2_with (go_at_call 165;refine HXB.out.mono ?_);rintro e w2 ⟨rfl,hp2,hk2⟩;have p2:=iF E nest (hkB.trans hk2);clear p1 c1;go_wp2_with (go_at_call 106;refine(HN.out _ hp2 _ (hiB.kept hk2)).mono ?_);rintro e w3 ⟨rfl,hp3,hk3⟩;go_wp2;go_ret;exact⟨rfl,hp3,((rW.trans hkB).trans hk2).trans hk3⟩
theorem uW {w:World}{b off:Nat}{cs:Array Value}{fr:Nat × Nat}{ks:List Int}(hh:w.heap[b]?=some (.cells cs 3 fr))(hj:∀ j,(h:j<ks.length)→cs[off+j]?=some (.int .i64 ks[j])) :
  ∀ j u,(ks.map (Value.int .i64))[j]?=some u→w.cell? ((⟨b,off,none⟩:Addr).add j)=some u:=fun j u hu=>by
 obtain⟨h1,h2⟩:=nY hu;rw[List.length_map] at h1
 have hadd:(⟨b,off,none⟩:Addr).add j=⟨b,off+j,none⟩:=by unfold Addr.add;split<;>simp_all
 rw[hadd,cell_of_row w b (off+j) cs _ fr hh,hj j h1,← h2,List.getElem_map]
theorem iU.kids {E:aW}{W0:World}{R:List Nat}{v:Value}{ks kk:List Int}{s:aB}{w:World}(h:iU E W0 R v ks s w)(e:ks=kk):dS w v kk:=by rw[← e];exact h.node
theorem iU.row {E:aW}{W0:World}{R:List Nat}{v:Value}{ks:List Int}{s:aB}{w:World}{n:Nat}(h:iU E W0 R v ks s w)(e:ks.length=n):w.ownsRow W0.heap.size 3 1 v n (ks.map (Value.int .i64)):=by rw[← e];exact h.1
theorem cB (E:aW)(nest:Nat){w w':World}{R:List Nat}{v:Value}{ks:List Int}{s:aB}(K:iU E (iT E nest w) R v ks s w'):w'.cell? ⟨w.heap.size,0,none⟩=some (.pointer (some ⟨E.pb,0,none⟩))∧w'.cell? ⟨E.pb,0,none⟩=some (.pointer (some ⟨E.bb,0,none⟩)) :=
 ⟨iF E nest K.2.2.2.2,(PW.cells K.2.2.2.1).1⟩
theorem Sw (E:aW)(hE:E.ok)(g:Nat)(ih:∀ R,AX { E with R:=R } g)(nest:Nat)(st:aB)(r:Int × aB)(w:World)(h:run E.toks E.depth (g+1) (.name nest) st=some r)(hp:PW E st w)(hn:r.2.nodes.length+1≤1099511627776)(bZ:nest≤E.depth)
  (hcl:(ay E.toks st).2.clause=false) (hx:aV E.toks (ay E.toks st).2 [[46],[40]]=true) :
  Calls Tryz.prog 323 #[.pointer (some ⟨E.pb,0,none⟩),.int .i64 nest] w (dL E r w):=by
 have sW:=hE.2.2;obtain⟨i0,hi,hz0,hz1,hz2⟩:=info_parts Tryz.lQ;rw[run,if_neg (by rw[hcl,hx];simp)] at h;have hA:PW E st (iT E nest w):=hp.later (qg E nest w);have rW:Kp E.B w (iT E nest w):=Kp.of (qg E nest w) hp.dX;have hBW:E.B≤(iT E nest w).heap.size:=hA.dX;obtain⟨l,h1,h⟩:=bP h
 injection h with h
 subst h
 have hmf:∀ (fn:Fn) (first cap:Array Value) (w:World),(Instr.makeFunc fn first cap).run Tryz.prog w=.ok (.func fn first cap) w:=fun _ _ _ _=>rfl
 have n6:=aC (aD _ _ _) hn;have n5:=aC (aF _ _ _) n6;have hlx:=kT E.toks _ (fun s k hk=>aP E.toks E.depth g _ _ _ hk) _ _ h1;have n4:=aC hlx n5;have n3:=aC (aF _ _ _) n4;have n2:=aC (yX E.toks (ay E.toks st)) n3;have n1:=aC (aI _ _) n2;have hll:=FX _ _ _ _ h1;have HL:=ah (fun w hp=>bI E st w hp hE.1 hE.2.1 n1);have hc:=ah hcl;clear hcl
 by_cases hd:aV E.toks (ay E.toks st).2 [[46]]=true
 ·have hqm:mh E.toks (ay E.toks st)=([(ay E.toks st).1,(ay E.toks (ay E.toks st).2).1,(aQ E.toks 1 (ay E.toks (ay E.toks st).2).2).1],(aQ E.toks 1 (ay E.toks (ay E.toks st).2).2).2):=by rw[mh,if_pos hd]
  clear hn hlx h;rw[hqm] at h1 n3 ⊢;dsimp only at h1 n3 ⊢;have n2a:=aC (dZ _ _ _) n3;generalize hkk:(_++[(aA E.toks [[41]] l.2).1]:List Int)=kk;have HKK:=ah hkk;have Yt:Hid (kk.length≤1099511627776):=ah (by rw[← hkk];simp;omega);clear hkk;clear hqm;have hA':PW E st ((w.alloc (.cells #[.pointer (some ⟨E.pb,0,none⟩)] 129)).alloc (.cells #[.int .i64 nest] 3)):=hA;obtain⟨d0,_,_,_,_,_⟩:=hA'.cells;go_enter Tryz.func323,Tryz.ntmps323;go_wp2_with (go_at_call 167;refine(HL.out _ hA').mono ?_);rintro e w1 ⟨rfl,hp1,Cv⟩;have hk1:Kp E.B (iT E nest w) w1:=Cv;clear d0 Cv hA';have K1:=iU.start (ay E.toks st).1 hp1 hk1;have p1:=iF E nest K1.2.2.2.2;obtain⟨_,_,c1,_,_,_⟩:=PW.cells K1.2.2.2.1;rw[hc.out] at c1;have VN:=uf { E with R:=w1.heap.size :: E.R } hE ⟨#[46]⟩ ⟨#[40]⟩ (ay E.toks st).2 true hx _ K1.2.2.2.1;rw[show (w1.alloc (.cells #[.int .i64 (ay E.toks st).1] 3)).heap.size=w1.heap.size+1 by simp] at VN;have HXB:=ah VN;clear VN;go_wp2_with (go_at_call 165;refine HXB.out.mono ?_);rintro e w2 ⟨rfl,hq,hkq⟩;have K2:=K1.call hq hkq;have p2:=iF E nest K2.2.2.2.2;clear hq hkq c1 p1 K1 hp1 hk1 HXB;have HC:=ah (dJ { E with R:=w1.heap.size :: E.R } hE ⟨#[46]⟩ (ay E.toks st).2 true hd _ K2.2.2.2.1);go_wp2_with (go_at_call 165;refine HC.out.mono ?_);rintro e w3 ⟨rfl,hq,hkq⟩;have K3:=K2.call hq hkq;clear hq hkq HC;have p3:=iF E nest K3.2.2.2.2;obtain⟨d0,_,_,_,_,_⟩:=PW.cells K3.2.2.2.1;clear p2 K2;have K3d:iU E (iT E nest w) (w1.heap.size :: E.R) (.slice (some ⟨w1.heap.size,0,none⟩) 1 1) [(ay E.toks st).1] (ay E.toks st).2 w3.drew:=K3.call (PW.later K3.2.2.2.1 ((Below.refl _ _).drew)) (Kp.of ((Below.refl _ _).drew) K3.2.2.2.1.dX);have EU:=ah (bI { E with R:=w1.heap.size :: E.R } (ay E.toks st).2 _ K3d.2.2.2.1 hE.1 hE.2.1 n2);have zi:=ah (fun w hq=>qN { E with R:=w1.heap.size :: E.R } hE 1 (ay E.toks (ay E.toks st).2).2 w hq n2a);have acC:=ah K3d;clear K3d;go_wp2
  go_region_held3 (fun w'=>w'.cell? ⟨w.heap.size,0,none⟩=some (.pointer (some ⟨E.pb,0,none⟩))∧w'.cell? ⟨E.pb,0,none⟩=some (.pointer (some ⟨E.bb,0,none⟩))) (first|go_keep|exact p4|exact p5|exact p6)
   (first|(go_at_call 167;refine EU.out.mono ?_;rintro e w4 ⟨rfl,hq4,acD⟩;have K4:=acC.out.call hq4 acD;have p4:=cB E nest K4)|(go_at_call 107;refine(zi.out _ hq4).mono ?_;rintro e w5 ⟨rfl,vJ,acE⟩;have K5:=K4.call vJ acE;have p5:=cB E nest K5)|((refine step_append_lies _ (by rfl) _ _ _ (by rfl) (iT E nest w).heap.size 3 i0 _ 1 8 Tryz.underlying51 hi hz0 hz1 hz2 rfl (by omega) _ (1) _ (by rfl) (K5.lit _).1 ⟨w5.heap.size,0,none⟩ 2 2 [.int .i64 (ay E.toks (ay E.toks st).2).1,.int .i64 (aQ E.toks 1 (ay E.toks (ay E.toks st).2).2).1] (by rfl) (by rfl) (World.news_of_block (cs:=#[.int .i64 (ay E.toks (ay E.toks st).2).1,.int .i64 (aQ E.toks 1 (ay E.toks (ay E.toks st).2).2).1]) (t:=3) (fr:=(0,0)) (heap_alloc_new w5 _)) (by simp[Value.oneCell']) (by omega) (by unfold maxLen;omega) (by omega) (K5.lit _).2.2.2.2.size (w5.heap.size+1) (by simp) ?_;intro g6 cap6 w6 hown6 lT VO VP;obtain⟨R6,K6⟩:=(K5.lit (.cells #[.int .i64 (ay E.toks (ay E.toks st).2).1,.int .i64 (aQ E.toks 1 (ay E.toks (ay E.toks st).2).2).1] 3)).app (news:=[(ay E.toks (ay E.toks st).2).1,(aQ E.toks 1 (ay E.toks (ay E.toks st).2).2).1]) hBW (by simp) hown6 lT VO (by simp) VP;have p6:=cB E nest K6)))
  clear hown6 lT VO VP p6 K5 K4 K3 p3 d0 p4 p5 EU zi acC hq4 acD vJ acE;have p6:=iF E nest K6.2.2.2.2;have HC:=ah (dN { E with R:=R6 } hE ⟨#[40]⟩ (aQ E.toks 1 (ay E.toks (ay E.toks st).2).2).2 _ K6.2.2.2.1 n3);go_wp2_with (go_at_call 168;refine HC.out.mono ?_);rintro e w7 ⟨rfl,hq,hkq⟩;have K7:=K6.call hq hkq;clear hq hkq HC;clear p6 K6;have Zt:=K7.lit (.cells #[.int .i64 (aA E.toks [[40]] (aQ E.toks 1 (ay E.toks (ay E.toks st).2).2).2).1] 3);have VQ:=heap_alloc_new w7 (.cells #[.int .i64 (aA E.toks [[40]] (aQ E.toks 1 (ay E.toks (ay E.toks st).2).2).2).1] 3);go_wp2_with (at_builtin;refine wpList_append_lies _ rfl _ _ 51 rfl (iT E nest w).heap.size 3 i0 (.int .i64 0) 1 8 Tryz.underlying51 hi hz0 hz1 hz2 rfl (by decide) _ (3) _ rfl Zt.1 ⟨w7.heap.size,0,none⟩ 1 1 [.int .i64 (aA E.toks [[40]] (aQ E.toks 1 (ay E.toks (ay E.toks st).2).2).2).1] rfl rfl ?c1 ?c2 ?c3 ?c4 ?c5 ?c6 _ rfl ?_)
  case c1=>exact World.news_of_block (cs:=#[.int .i64 (aA E.toks [[40]] (aQ E.toks 1 (ay E.toks (ay E.toks st).2).2).2).1]) (t:=3) (fr:=(0,0)) VQ
  case c2=>simp[Value.oneCell']
  case c3=>omega
  case c4=>unfold maxLen;omega
  case c5=>omega
  case c6=>exact Zt.2.2.2.2.size
  intro g8 Oo w8 uh mK Cu uj;obtain⟨R8,K8⟩:=Zt.app (news:=[(aA E.toks [[40]] (aQ E.toks 1 (ay E.toks (ay E.toks st).2).2).2).1]) hBW (by simp) uh mK Cu (by simp) uj;clear Zt VQ uh mK Cu uj K7;have p8:=iF E nest K8.2.2.2.2;have HLs:=ah (FV { E with R:=R8 } hE (fun s=>run E.toks E.depth g (.expr (nest+1)) s) w.heap.size (w.heap.size+1) (aA E.toks [[40]] (aQ E.toks 1 (ay E.toks (ay E.toks st).2).2).2).2 l w8 h1 K8.2.2.2.1 n5 (fun s k hk=>aP E.toks E.depth g _ _ _ hk) (fun R s k w' hk hR hkk hnk=>FW { E with R:=R } g nest _ _ (ih R) s k w' hk hR hnk bZ sW (iF E nest (K8.2.2.2.2.trans hkk)) (QF E nest (K8.2.2.2.2.trans hkk))));clear h1;go_wp2_with (go_at_call 169;refine HLs.out.mono ?_);rintro e w9 ⟨v,rfl,hiv,hnil,hq,hkq⟩;have K9:=K8.call hq hkq;clear hq hkq HLs p8 K8
  by_cases hl0:l.1=[]
  ·obtain rfl:=hnil hl0
   go_wp2_with (at_builtin;refine wpList_append_own_none rfl _ _ 51 rfl (iT E nest w).heap.size 3 i0 1 Tryz.underlying51 hi _ (4) _ rfl K9.1 rfl ?_);go_wp2;have HKE:=ah (show [(ay E.toks st).1]++[(ay E.toks (ay E.toks st).2).1,(aQ E.toks 1 (ay E.toks (ay E.toks st).2).2).1]++[(aA E.toks [[40]] (aQ E.toks 1 (ay E.toks (ay E.toks st).2).2).2).1]++[(aA E.toks [[41]] l.2).1]=kk by rw[← HKK.out,hl0]<;>rfl);have Kd:=K9.call (PW.later K9.2.2.2.1 ((Below.refl _ _).drew)) (Kp.of ((Below.refl _ _).drew) K9.2.2.2.1.dX);have EU:=ah (dN { E with R:=R8 } hE ⟨#[41]⟩ l.2 w9.drew Kd.2.2.2.1 n5);have zi:=ah (fun R w v hq hv=>jW { E with R:=R } 13 v kk (aA E.toks [[41]] l.2).2 w hq hv Yt.out n6);have pd:=cB E nest Kd;have Ks:=K9.lit (.cells #[.string ⟨#[41]⟩] 9);have ps:=cB E nest (Ks.call (PW.later Ks.2.2.2.1 ((Below.refl _ _).drew)) (Kp.of ((Below.refl _ _).drew) Ks.2.2.2.1.dX));clear Ks;have HKd:=ah Kd;clear Kd
   go_region_held3 (fun w'=>w'.cell? ⟨w.heap.size,0,none⟩=some (.pointer (some ⟨E.pb,0,none⟩))∧w'.cell? ⟨E.pb,0,none⟩=some (.pointer (some ⟨E.bb,0,none⟩))) (first|go_keep|exact pd|exact ps|exact p11|exact p12|exact p13)
   (first|(go_at_call 168;refine EU.out.mono ?_;rintro e um ⟨rfl,hq11,Cw⟩;have zq:=HKd.out.call hq11 Cw;have p11:=cB E nest zq)|((refine step_append_lies _ (by rfl) _ _ _ (by rfl) (iT E nest w).heap.size 3 i0 _ 1 8 Tryz.underlying51 hi hz0 hz1 hz2 rfl (by omega) _ (4) _ (by rfl) (iU.row (zq.lit _) (by simp<;>omega)) ⟨um.heap.size,0,none⟩ 1 1 [.int .i64 (aA E.toks [[41]] l.2).1] (by rfl) (by rfl) (World.news_of_block (cs:=#[.int .i64 (aA E.toks [[41]] l.2).1]) (t:=3) (fr:=(0,0)) (heap_alloc_new um _)) (by simp[Value.oneCell']) (by omega) (by unfold maxLen;omega) (by omega) (zq.lit _).2.2.2.2.size (um.heap.size+1) (by simp) ?_;intro g12 QG w12 wL rY Cx Cy;obtain⟨R12,yQ⟩:=(zq.lit (.cells #[.int .i64 (aA E.toks [[41]] l.2).1] 3)).app (news:=[(aA E.toks [[41]] l.2).1]) hBW (by simp<;>omega) wL rY Cx (by simp) Cy;have p12:=cB E nest yQ))|(go_at_call 106;refine(zi.out _ _ _ yQ.2.2.2.1 (yQ.kids HKE.out)).mono ?_;rintro e w13 ⟨rfl,Ou,Cz⟩;have Ba:=yQ.call Ou Cz;have p13:=cB E nest Ba))
   go_wp2;go_ret;exact⟨rfl,PR.drop Ba.2.2.2.1 Ba.2.2.1,rW.trans Ba.2.2.2.2⟩
  ·have hpos:0<l.1.length:=List.length_pos_iff.2 hl0
   obtain⟨ao,Ov,rfl,hcv,hf⟩:=hiv;obtain⟨vb,vo,vcs,vfr,rfl,hh,hj⟩:=hf hpos;clear hnil hl0 hf;go_wp2_with (at_builtin;refine wpList_append_lies _ rfl _ _ 51 rfl (iT E nest w).heap.size 3 i0 (.int .i64 0) 1 8 Tryz.underlying51 hi hz0 hz1 hz2 rfl (by decide) _ (4) _ rfl K9.1 ⟨vb,vo,none⟩ l.1.length Ov (l.1.map (Value.int .i64)) rfl (by simp) ?c1 ?c2 ?c3 ?c4 ?c5 ?c6 _ rfl ?_)
   case c1=>exact uW hh hj
   case c2=>intro u hu;obtain⟨y,_,rfl⟩:=List.mem_map.1 hu;rfl
   case c3=>exact hpos
   case c4=>unfold maxLen;omega
   case c5=>omega
   case c6=>exact K9.2.2.2.2.size
   intro g10 acF kW CB xW KY KZ;obtain⟨R10,FY⟩:=K9.app (news:=l.1) hBW (by simp<;>omega) CB xW KY (by simp) KZ;clear CB xW KY KZ K9 hh hj;have p10:=iF E nest FY.2.2.2.2;clear p10;go_wp2;have HKE:=ah (show [(ay E.toks st).1]++[(ay E.toks (ay E.toks st).2).1,(aQ E.toks 1 (ay E.toks (ay E.toks st).2).2).1]++[(aA E.toks [[40]] (aQ E.toks 1 (ay E.toks (ay E.toks st).2).2).2).1]++l.1++[(aA E.toks [[41]] l.2).1]=kk by rw[← HKK.out]<;>rfl);have Kd:=FY.call (PW.later FY.2.2.2.1 ((Below.refl _ _).drew)) (Kp.of ((Below.refl _ _).drew) FY.2.2.2.1.dX);have EU:=ah (dN { E with R:=R10 } hE ⟨#[41]⟩ l.2 kW.drew Kd.2.2.2.1 n5);have zi:=ah (fun R w v hq hv=>jW { E with R:=R } 13 v kk (aA E.toks [[41]] l.2).2 w hq hv Yt.out n6);have pd:=cB E nest Kd;have Ks:=FY.lit (.cells #[.string ⟨#[41]⟩] 9);have ps:=cB E nest (Ks.call (PW.later Ks.2.2.2.1 ((Below.refl _ _).drew)) (Kp.of ((Below.refl _ _).drew) Ks.2.2.2.1.dX));clear Ks;have HKd:=ah Kd;clear Kd
   go_region_held3 (fun w'=>w'.cell? ⟨w.heap.size,0,none⟩=some (.pointer (some ⟨E.pb,0,none⟩))∧w'.cell? ⟨E.pb,0,none⟩=some (.pointer (some ⟨E.bb,0,none⟩))) (first|go_keep|exact pd|exact ps|exact p11|exact p12|exact p13)
   (first|(go_at_call 168;refine EU.out.mono ?_;rintro e um ⟨rfl,hq11,Cw⟩;have zq:=HKd.out.call hq11 Cw;have p11:=cB E nest zq)|((refine step_append_lies _ (by rfl) _ _ _ (by rfl) (iT E nest w).heap.size 3 i0 _ 1 8 Tryz.underlying51 hi hz0 hz1 hz2 rfl (by omega) _ (4+l.1.length) _ (by rfl) (iU.row (zq.lit _) (by simp<;>omega)) ⟨um.heap.size,0,none⟩ 1 1 [.int .i64 (aA E.toks [[41]] l.2).1] (by rfl) (by rfl) (World.news_of_block (cs:=#[.int .i64 (aA E.toks [[41]] l.2).1]) (t:=3) (fr:=(0,0)) (heap_alloc_new um _)) (by simp[Value.oneCell']) (by omega) (by unfold maxLen;omega) (by omega) (zq.lit _).2.2.2.2.size (um.heap.size+1) (by simp) ?_;intro g12 QG w12 wL rY Cx Cy;obtain⟨R12,yQ⟩:=(zq.lit (.cells #[.int .i64 (aA E.toks [[41]] l.2).1] 3)).app (news:=[(aA E.toks [[41]] l.2).1]) hBW (by simp<;>omega) wL rY Cx (by simp) Cy;have p12:=cB E nest yQ))|(go_at_call 106;refine(zi.out _ _ _ yQ.2.2.2.1 (yQ.kids HKE.out)).mono ?_;rintro e w13 ⟨rfl,Ou,Cz⟩;have Ba:=yQ.call Ou Cz;have p13:=cB E nest Ba))
   go_wp2;go_ret;exact⟨rfl,PR.drop Ba.2.2.2.1 Ba.2.2.1,rW.trans Ba.2.2.2.2⟩
 ·have hqm:mh E.toks (ay E.toks st)=([(ay E.toks st).1],(ay E.toks st).2):=by rw[mh,if_neg hd]
  clear hn hlx h;rw[hqm] at h1 n3 ⊢;dsimp only at h1 n3 ⊢;generalize hkk:(_++[(aA E.toks [[41]] l.2).1]:List Int)=kk;have HKK:=ah hkk;have Yt:Hid (kk.length≤1099511627776):=ah (by rw[← hkk];simp;omega);clear hkk;clear hqm;have hA':PW E st ((w.alloc (.cells #[.pointer (some ⟨E.pb,0,none⟩)] 129)).alloc (.cells #[.int .i64 nest] 3)):=hA;obtain⟨d0,_,_,_,_,_⟩:=hA'.cells;go_enter Tryz.func323,Tryz.ntmps323;go_wp2_with (go_at_call 167;refine(HL.out _ hA').mono ?_);rintro e w1 ⟨rfl,hp1,Cv⟩;have hk1:Kp E.B (iT E nest w) w1:=Cv;clear d0 Cv hA';have K1:=iU.start (ay E.toks st).1 hp1 hk1;have p1:=iF E nest K1.2.2.2.2;obtain⟨_,_,c1,_,_,_⟩:=PW.cells K1.2.2.2.1;rw[hc.out] at c1;have VN:=uf { E with R:=w1.heap.size :: E.R } hE ⟨#[46]⟩ ⟨#[40]⟩ (ay E.toks st).2 true hx _ K1.2.2.2.1;rw[show (w1.alloc (.cells #[.int .i64 (ay E.toks st).1] 3)).heap.size=w1.heap.size+1 by simp] at VN;have HXB:=ah VN;clear VN;go_wp2_with (go_at_call 165;refine HXB.out.mono ?_);rintro e w2 ⟨rfl,hq,hkq⟩;have K2:=K1.call hq hkq;have p2:=iF E nest K2.2.2.2.2;clear hq hkq c1 p1 K1 hp1 hk1 HXB;have HC:=ah (dJ { E with R:=w1.heap.size :: E.R } hE ⟨#[46]⟩ (ay E.toks st).2 false (eq_false_of_ne_true hd) _ K2.2.2.2.1);go_wp2_with (go_at_call 165;refine HC.out.mono ?_);rintro e w3 ⟨rfl,hq,hkq⟩;have K3:=K2.call hq hkq;clear hq hkq HC;have p3:=iF E nest K3.2.2.2.2;clear p2 K2;have HC:=ah (dN { E with R:=w1.heap.size :: E.R } hE ⟨#[40]⟩ (ay E.toks st).2 _ K3.2.2.2.1 n3);go_wp2_with (go_at_call 168;refine HC.out.mono ?_);rintro e w7 ⟨rfl,hq,hkq⟩;have K7:=K3.call hq hkq;clear hq hkq HC;clear p3 K3;have Zt:=K7.lit (.cells #[.int .i64 (aA E.toks [[40]] (ay E.toks st).2).1] 3);have VQ:=heap_alloc_new w7 (.cells #[.int .i64 (aA E.toks [[40]] (ay E.toks st).2).1] 3)
  go_wp2_with (at_builtin;refine wpList_append_lies _ rfl _ _ 51 rfl (iT E nest w).heap.size 3 i0 (.int .i64 0) 1 8 Tryz.underlying51 hi hz0 hz1 hz2 rfl (by decide) _ (1) _ rfl Zt.1 ⟨w7.heap.size,0,none⟩ 1 1 [.int .i64 (aA E.toks [[40]] (ay E.toks st).2).1] rfl rfl ?c1 ?c2 ?c3 ?c4 ?c5 ?c6 _ rfl ?_)
  case c1=>exact World.news_of_block (cs:=#[.int .i64 (aA E.toks [[40]] (ay E.toks st).2).1]) (t:=3) (fr:=(0,0)) VQ
  case c2=>simp[Value.oneCell']
  case c3=>omega
  case c4=>unfold maxLen;omega
  case c5=>omega
  case c6=>exact Zt.2.2.2.2.size
  intro g8 Oo w8 uh mK Cu uj;obtain⟨R8,K8⟩:=Zt.app (news:=[(aA E.toks [[40]] (ay E.toks st).2).1]) hBW (by simp) uh mK Cu (by simp) uj;clear Zt VQ uh mK Cu uj K7;have p8:=iF E nest K8.2.2.2.2;have HLs:=ah (FV { E with R:=R8 } hE (fun s=>run E.toks E.depth g (.expr (nest+1)) s) w.heap.size (w.heap.size+1) (aA E.toks [[40]] (ay E.toks st).2).2 l w8 h1 K8.2.2.2.1 n5 (fun s k hk=>aP E.toks E.depth g _ _ _ hk) (fun R s k w' hk hR hkk hnk=>FW { E with R:=R } g nest _ _ (ih R) s k w' hk hR hnk bZ sW (iF E nest (K8.2.2.2.2.trans hkk)) (QF E nest (K8.2.2.2.2.trans hkk))));clear h1;go_wp2_with (go_at_call 169;refine HLs.out.mono ?_);rintro e w9 ⟨v,rfl,hiv,hnil,hq,hkq⟩;have K9:=K8.call hq hkq;clear hq hkq HLs p8 K8
  by_cases hl0:l.1=[]
  ·obtain rfl:=hnil hl0
   go_wp2_with (at_builtin;refine wpList_append_own_none rfl _ _ 51 rfl (iT E nest w).heap.size 3 i0 1 Tryz.underlying51 hi _ (2) _ rfl K9.1 rfl ?_);go_wp2;have HKE:=ah (show [(ay E.toks st).1]++[(aA E.toks [[40]] (ay E.toks st).2).1]++[(aA E.toks [[41]] l.2).1]=kk by rw[← HKK.out,hl0]<;>rfl);have Kd:=K9.call (PW.later K9.2.2.2.1 ((Below.refl _ _).drew)) (Kp.of ((Below.refl _ _).drew) K9.2.2.2.1.dX);have EU:=ah (dN { E with R:=R8 } hE ⟨#[41]⟩ l.2 w9.drew Kd.2.2.2.1 n5);have zi:=ah (fun R w v hq hv=>jW { E with R:=R } 13 v kk (aA E.toks [[41]] l.2).2 w hq hv Yt.out n6);have pd:=cB E nest Kd;have Ks:=K9.lit (.cells #[.string ⟨#[41]⟩] 9);have ps:=cB E nest (Ks.call (PW.later Ks.2.2.2.1 ((Below.refl _ _).drew)) (Kp.of ((Below.refl _ _).drew) Ks.2.2.2.1.dX));clear Ks;have HKd:=ah Kd;clear Kd
   go_region_held3 (fun w'=>w'.cell? ⟨w.heap.size,0,none⟩=some (.pointer (some ⟨E.pb,0,none⟩))∧w'.cell? ⟨E.pb,0,none⟩=some (.pointer (some ⟨E.bb,0,none⟩))) (first|go_keep|exact pd|exact ps|exact p11|exact p12|exact p13)
   (first|(go_at_call 168;refine EU.out.mono ?_;rintro e um ⟨rfl,hq11,Cw⟩;have zq:=HKd.out.call hq11 Cw;have p11:=cB E nest zq)|((refine step_append_lies _ (by rfl) _ _ _ (by rfl) (iT E nest w).heap.size 3 i0 _ 1 8 Tryz.underlying51 hi hz0 hz1 hz2 rfl (by omega) _ (2) _ (by rfl) (iU.row (zq.lit _) (by simp<;>omega)) ⟨um.heap.size,0,none⟩ 1 1 [.int .i64 (aA E.toks [[41]] l.2).1] (by rfl) (by rfl) (World.news_of_block (cs:=#[.int .i64 (aA E.toks [[41]] l.2).1]) (t:=3) (fr:=(0,0)) (heap_alloc_new um _)) (by simp[Value.oneCell']) (by omega) (by unfold maxLen;omega) (by omega) (zq.lit _).2.2.2.2.size (um.heap.size+1) (by simp) ?_;intro g12 QG w12 wL rY Cx Cy;obtain⟨R12,yQ⟩:=(zq.lit (.cells #[.int .i64 (aA E.toks [[41]] l.2).1] 3)).app (news:=[(aA E.toks [[41]] l.2).1]) hBW (by simp<;>omega) wL rY Cx (by simp) Cy;have p12:=cB E nest yQ))|(go_at_call 106;refine(zi.out _ _ _ yQ.2.2.2.1 (yQ.kids HKE.out)).mono ?_;rintro e w13 ⟨rfl,Ou,Cz⟩;have Ba:=yQ.call Ou Cz;have p13:=cB E nest Ba))
   go_wp2;go_ret;exact⟨rfl,PR.drop Ba.2.2.2.1 Ba.2.2.1,rW.trans Ba.2.2.2.2⟩
  ·have hpos:0<l.1.length:=List.length_pos_iff.2 hl0
   obtain⟨ao,Ov,rfl,hcv,hf⟩:=hiv;obtain⟨vb,vo,vcs,vfr,rfl,hh,hj⟩:=hf hpos;clear hnil hl0 hf;go_wp2_with (at_builtin;refine wpList_append_lies _ rfl _ _ 51 rfl (iT E nest w).heap.size 3 i0 (.int .i64 0) 1 8 Tryz.underlying51 hi hz0 hz1 hz2 rfl (by decide) _ (2) _ rfl K9.1 ⟨vb,vo,none⟩ l.1.length Ov (l.1.map (Value.int .i64)) rfl (by simp) ?c1 ?c2 ?c3 ?c4 ?c5 ?c6 _ rfl ?_)
   case c1=>exact uW hh hj
   case c2=>intro u hu;obtain⟨y,_,rfl⟩:=List.mem_map.1 hu;rfl
   case c3=>exact hpos
   case c4=>unfold maxLen;omega
   case c5=>omega
   case c6=>exact K9.2.2.2.2.size
   intro g10 acF kW CB xW KY KZ;obtain⟨R10,FY⟩:=K9.app (news:=l.1) hBW (by simp<;>omega) CB xW KY (by simp) KZ;clear CB xW KY KZ K9 hh hj;have p10:=iF E nest FY.2.2.2.2;clear p10;go_wp2;have HKE:=ah (show [(ay E.toks st).1]++[(aA E.toks [[40]] (ay E.toks st).2).1]++l.1++[(aA E.toks [[41]] l.2).1]=kk by rw[← HKK.out]<;>rfl);have Kd:=FY.call (PW.later FY.2.2.2.1 ((Below.refl _ _).drew)) (Kp.of ((Below.refl _ _).drew) FY.2.2.2.1.dX);have EU:=ah (dN { E with R:=R10 } hE ⟨#[41]⟩ l.2 kW.drew Kd.2.2.2.1 n5);have zi:=ah (fun R w v hq hv=>jW { E with R:=R } 13 v kk (aA E.toks [[41]] l.2).2 w hq hv Yt.out n6);have pd:=cB E nest Kd;have Ks:=FY.lit (.cells #[.string ⟨#[41]⟩] 9);have ps:=cB E nest (Ks.call (PW.later Ks.2.2.2.1 ((Below.refl _ _).drew)) (Kp.of ((Below.refl _ _).drew) Ks.2.2.2.1.dX));clear Ks;have HKd:=ah Kd;clear Kd
   go_region_held3 (fun w'=>w'.cell? ⟨w.heap.size,0,none⟩=some (.pointer (some ⟨E.pb,0,none⟩))∧w'.cell? ⟨E.pb,0,none⟩=some (.pointer (some ⟨E.bb,0,none⟩))) (first|go_keep|exact pd|exact ps|exact p11|exact p12|exact p13)
   (first|(go_at_call 168;refine EU.out.mono ?_;rintro e um ⟨rfl,hq11,Cw⟩;have zq:=HKd.out.call hq11 Cw;have p11:=cB E nest zq)|((refine step_append_lies _ (by rfl) _ _ _ (by rfl) (iT E nest w).heap.size 3 i0 _ 1 8 Tryz.underlying51 hi hz0 hz1 hz2 rfl (by omega) _ (2+l.1.length) _ (by rfl) (iU.row (zq.lit _) (by simp<;>omega)) ⟨um.heap.size,0,none⟩ 1 1 [.int .i64 (aA E.toks [[41]] l.2).1] (by rfl) (by rfl) (World.news_of_block (cs:=#[.int .i64 (aA E.toks [[41]] l.2).1]) (t:=3) (fr:=(0,0)) (heap_alloc_new um _)) (by simp[Value.oneCell']) (by omega) (by unfold maxLen;omega) (by omega) (zq.lit _).2.2.2.2.size (um.heap.size+1) (by simp) ?_;intro g12 QG w12 wL rY Cx Cy;obtain⟨R12,yQ⟩:=(zq.lit (.cells #[.int .i64 (aA E.toks [[41]] l.2).1] 3)).app (news:=[(aA E.toks [[41]] l.2).1]) hBW (by simp<;>omega) wL rY Cx (by simp) Cy;have p12:=cB E nest yQ))|(go_at_call 106;refine(zi.out _ _ _ yQ.2.2.2.1 (yQ.kids HKE.out)).mono ?_;rintro e w13 ⟨rfl,Ou,Cz⟩;have Ba:=yQ.call Ou Cz;have p13:=cB E nest Ba))
   go_wp2;go_ret;exact⟨rfl,PR.drop Ba.2.2.2.1 Ba.2.2.1,rW.trans Ba.2.2.2.2⟩
theorem Sy (E:aW)(hE:E.ok)(g:Nat)(ih:∀ R,AX { E with R:=R } g)(nest:Nat)(st:aB)(r:Int × aB)(w:World)(h:run E.toks E.depth (g+1) (.name nest) st=some r)(hp:PW E st w)(hn:r.2.nodes.length+1≤1099511627776)(bZ:nest≤E.depth) :
  Calls Tryz.prog 323 #[.pointer (some ⟨E.pb,0,none⟩),.int .i64 nest] w (dL E r w):=by
 by_cases hc:(ay E.toks st).2.clause=true∨aV E.toks (ay E.toks st).2 [[46],[40]]=false
 ·exact Ot E hE g nest st r w h hp hn bZ hc
 ·refine Sw E hE g ih nest st r w h hp hn bZ ?_ ?_
  ·exact eq_false_of_ne_true fun q=>hc (.inl q)
  ·cases hq:aV E.toks (ay E.toks st).2 [[46],[40]] with
   | true=>rfl
   | false=>exact(hc (.inr hq)).elim
theorem FZ (E:aW)(hE:E.ok):∀ (g g':Nat),g'≤g→∀ R,AX { E with R:=R } g'
 | 0,g',hg,R=>by
  obtain rfl:g'=0:=by omega
  intro t st r w h;rw[run] at h;cases h
 | g+1,g',hg,R=>by
  have ih:=FZ E hE g
  by_cases h':g'≤g
  ·exact ih g' h' R
  ·obtain rfl:g'=g+1:=by omega
   intro t st r w h hp hn bZ;have hE':aW.ok { E with R:=R }:=hE;have i0:=ih g (Nat.le_refl _) R
   cases t with
   | expr nest=>exact Sm { E with R:=R } hE' g i0 nest st r w h hp hn bZ
   | formula nest=>exact Ic { E with R:=R } hE' g i0 nest st r w h hp hn bZ
   | part l nest=>exact Sq { E with R:=R } g i0 l nest st r w h hp hn bZ
   | row l nest=>exact row_step { E with R:=R } hE' g (fun g' h'=>ih g' h' R) l nest st r w h hp hn bZ
   | loop l nest a=>trivial
   | neg nest=>exact VD { E with R:=R } hE' g i0 nest st r w h hp hn bZ
   | factor nest=>exact KV { E with R:=R } hE' g i0 nest st r w h hp hn bZ
   | atom nest=>exact Sv { E with R:=R } hE' g i0 nest st r w h hp hn bZ
   | name nest=>exact Sy { E with R:=R } hE' g (fun R'=>ih g (Nat.le_refl _) R') nest st r w h hp hn bZ
theorem allT (E:aW)(hE:E.ok)(g:Nat):AX E g:=FZ E hE g g (Nat.le_refl _) E.R
end Go.Proofs.YtknicmmigbhpcaaGreatDoor
