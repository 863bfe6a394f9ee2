/- Walks and plain laws: ParseW13, ParseW14, ParseW15. -/
import Derived.Test.YtknicmmigbhpcaaGreatDoorF09
set_option maxHeartbeats 16000000
set_option maxRecDepth 100000
set_option linter.unusedVariables false
set_option linter.unusedSimpArgs false
namespace Go.Proofs.YtknicmmigbhpcaaGreatDoor
open Go.RowKit Go
def PR (E:aT)(R:List Nat)(st:aB)(w:World):Prop:=PW { E with R:=R } st w
theorem PR.drop {E:aT}{R:List Nat}{st:aB}{w:World}(h:PR E R st w)(hR:∀ r∈E.R,r∈R):PW E st w:=by
 obtain⟨h1,⟨b1,nv,l,b2,b3,b4,b5⟩,h3,h4,h5,h6⟩:=h;exact⟨h1,⟨b1,nv,l,b2,b3,b4,fun p hp=>⟨(b5 p hp).1,fun b off n cap hv hn hb=>(b5 p hp).2 b off n cap hv hn (hR b hb)⟩⟩,h3,h4,h5,fun r hr=>h6 r (hR r hr)⟩
theorem PW.pr {E:aT}{st:aB}{w:World}(h:PW E st w):PR E E.R st w:=h
def Yr (E:aT)(R:List Nat)(st:aB)(w:World):Prop :=
 w.heap[E.pb]?=some (.cells #[.pointer (some ⟨E.bb,0,none⟩),.int .i64 E.depth,.bool st.clause,.int .i64 st.fE,.int .i64 st.Ya] 188 (0,0)) ∧
  BW R E.B E.bb E.tv st.used st.nodes w∧Rec E.B w E.tv 4 bV E.toks∧E.B≤E.pb∧st.used≤E.toks.length
theorem PR.less {E:aT}{R:List Nat}{st:aB}{w:World}(h:PR E R st w):Yr E R st w:=⟨h.1,h.2.1,h.2.2.1,h.2.2.2.1,h.2.2.2.2.1⟩
theorem Yr.full {E:aT}{R:List Nat}{st:aB}{w:World}(h:Yr E R st w)(hR:∀ r∈R,r<w.heap.size):PR E R st w:=⟨h.1,h.2.1,h.2.2.1,h.2.2.2.1,h.2.2.2.2,hR⟩
theorem Yr.more {E:aT}{R:List Nat}{st:aB}{w:World}(h:Yr E R st w)(g:Nat)(hg:w.heap.size≤g):Yr E (g :: R) st w:=by
 obtain⟨h1,⟨b1,nv,l,b2,b3,b4,b5⟩,h3,h4,h5⟩:=h;refine⟨h1,⟨b1,nv,l,b2,b3,b4,fun p hp=>⟨(b5 p hp).1,fun b off n cap hv hn q=>?_⟩⟩,h3,h4,h5⟩
 rcases List.mem_cons.1 q with q|q
 ·obtain⟨ao,cap',hv',_,hf⟩:=(b5 p hp).1
  rw[hv] at hv';simp only[Value.slice.injEq] at hv';obtain⟨ha,hl,_⟩:=hv';obtain⟨b',off',cs,fr,he,hh,_⟩:=hf (by omega);rw[← ha] at he;simp only[Option.some.injEq,Addr.mk.injEq] at he;have:=(bG hh).1;omega
 ·exact(b5 p hp).2 b off n cap hv hn q
theorem PR.take {E:aT}{R:List Nat}{st:aB}{w w':World}(h:PR E R st w)(hb:Below w.heap.size w w')(g:Nat)(hg:w.heap.size≤g)(hg':g<w'.heap.size):PR E (g :: R) st w':=by
 obtain⟨h1,h2,h3,h4,h5⟩:=h.less.more g hg;have hB:=PW.dL (E:={ E with R:=R }) h;have hlt:=(bG h1).1;refine⟨?_,h2.later hb,h3.below (hb.mono hB),h4,h5,fun r hr=>?_⟩
 ·rw[hb.block E.pb hlt];exact h1
 ·rcases List.mem_cons.1 hr with rfl|hr
  ·exact hg'
  ·exact Nat.lt_of_lt_of_le (h.2.2.2.2.2 r hr) hb.size
theorem Yr.grown {E:aT}{R:List Nat}{st:aB}{w w':World}(h:Yr E R st w){base n:Nat}{v:Value}{xs:List Value}(ho:w.ownsRow base 3 1 v n xs)(hB:E.B≤base)(hv:∀ b,v.ownBlock=some b→b∈R)(hg:w.grownBy w' v.ownBlock):Yr E R st w':=by
 obtain⟨h1,⟨b1,nv,l,b2,b3,b4,b5⟩,h3,h4,h5⟩:=h;have hlt:=(bG h1).1;have hbel:Below E.B w w':=(Below.refl _ _).grown hg (by omega) (fun k hk=>by have:=(ho.lt k hk).1;omega);refine⟨fU ho hg h1 (by decide),⟨b1,nv,l,fU ho hg b2 (by decide),b3,⟨b4.1,?_⟩,fun p hp=>?_⟩,h3.below hbel,h4,h5⟩
 ·rcases b4.2 with hn|⟨g,cap,cur,hv',hg',hh,hr⟩
  ·exact .inl hn
  ·exact .inr ⟨g,cap,cur,hv',hg',fU ho hg hh (by decide),hr⟩
 ·refine⟨?_,(b5 p hp).2⟩
  obtain⟨ao,cap,hv',hc,hf⟩:=(b5 p hp).1;refine⟨ao,cap,hv',hc,fun h0=>?_⟩;obtain⟨b,off,cs,fr,ha,hh,hj⟩:=hf h0;refine⟨b,off,cs,fr,ha,?_,hj⟩;subst ha;rw[hg.block b (bG hh).1]
  ·exact hh
  ·intro q
   have hout:=(b5 p hp).2;rw[hv'] at hout;exact hout b off _ cap rfl h0 (hv b q.symm)
theorem PR.append {E:aT}{R:List Nat}{st:aB}{w w':World}(h:PR E R st w){base n H:Nat}{g:Nat}{v:Value}{xs:List Value}(ho:w.ownsRow base 3 1 v n xs)(hB:E.B≤base)(hv:∀ b,v.ownBlock=some b→b∈R)
  (hg:w.grownBy w' v.ownBlock) (hor:v.ownBlock=some g∨g=H) (hH:w.heap.size=H) (hlt:g<w'.heap.size) :
  ∃ R',(∀ r∈R,r∈R')∧g∈R'∧PR E R' st w':=by
 have hsz:w.heap.size≤w'.heap.size:=((Below.refl 0 w).grown hg (Nat.zero_le _) (fun k _=>Nat.zero_le _)).size;have hb6:=h.2.2.2.2.2
 rcases hor with hor|rfl
 ·exact⟨R,fun r hr=>hr,hv _ hor,(h.less.grown ho hB hv hg).full fun r hr=>Nat.lt_of_lt_of_le (hb6 r hr) hsz⟩
 ·refine⟨g :: R,fun r hr=>List.mem_cons_of_mem _ hr,List.mem_cons_self,((h.less.more g (by omega)).grown ho hB (fun b hb=>List.mem_cons_of_mem _ (hv b hb)) hg).full fun r hr=>?_⟩
  rcases List.mem_cons.1 hr with rfl|hr
  ·exact hlt
  ·exact Nat.lt_of_lt_of_le (hb6 r hr) hsz
theorem gB {B base n:Nat}{w w':World}{v:Value}{xs:List Value}(h:w.ownsRow base 3 1 v n xs)(hk:Kp B w w'):w'.ownsRow base 3 1 v n xs:=by
 refine⟨h.1,?_⟩
 rcases h.2 with hn|⟨g,cap,cur,hv,hg,hh,hr⟩
 ·exact .inl hn
 ·exact .inr ⟨g,cap,cur,hv,hg,hk.2 _ _ _ _ hh (by decide) (by decide) (by decide),hr⟩
theorem Kp.grown {B base n:Nat}{w0 w w':World}{v:Value}{xs:List Value}(hk:Kp B w0 w)(ho:w.ownsRow base 3 1 v n xs)(hb:w0.heap.size≤base)(hB:B≤w0.heap.size)(hg:w.grownBy w' v.ownBlock):Kp B w0 w':=by
 refine⟨hk.1.grown hg (by have:=hk.size;omega) (fun k hkk=>by have:=(ho.lt k hkk).1;omega),fun k cs T fr h0 h1 h2 h3=>?_⟩;have hkk:=(bG h0).1;rw[hg.block k (by have:=hk.size;omega) (fun q=>by have:=(ho.lt k q.symm).1;omega)];exact hk.2 k cs T fr h0 h1 h2 h3
def Uj (E:aT)(l:List Int × aB)(w:World)(e:Ending)(w':World):Prop:=∃ v,e=.returned v∧dH w' v l.1∧(l.1=[]→v=.slice none 0 0)∧PW E l.2 w'∧Kp E.B w w'
def aaJ (E:aT)(one:aB→Option (Int × aB))(res:List Int × aB)(w0:World)(kv nv:Value)(wr:World):Prop :=
 ∃ (r m:Nat) (kids:List Int) (s:aB) (R:List Nat),nv=.int .i64 (m:Nat)∧m+r=9∧kids.length+2 * r≤16∧aR E.toks one r kids s=some res ∧
  wr.ownsRow w0.heap.size 3 1 kv kids.length (kids.map (Value.int .i64))∧(∀ b,kv.ownBlock=some b→b∈R)∧(∀ r∈E.R,r∈R)∧(kids=[]→kv=.slice none 0 0)∧PR E R s wr∧Kp E.B w0 wr
theorem PR.dL {E:aT}{R:List Nat}{st:aB}{w:World}(h:PR E R st w):E.B≤w.heap.size:=PW.dL (E:={ E with R:=R }) h
theorem kr {E:aT}{R:List Nat}{w0 w:World}{kv:Value}{n:Nat}{kids:List Int}{s:aB}{res:List Int × aB}(ho:w.ownsRow w0.heap.size 3 1 kv n (kids.map (Value.int .i64)))(hR:∀ r∈E.R,r∈R)(hp:PR E R s w)(hk:Kp E.B w0 w)(h:(kids,s)=res)(h0:kids=[]→kv=.slice none 0 0):Uj E res w0 (.returned kv) w:=by
 subst h;exact⟨kv,rfl,dH.fF ho,h0,hp.drop hR,hk⟩
theorem mM {w:World}{base n:Nat}{v:Value}{xs:List Value}(h:w.ownsRow base 3 1 v n xs):∃ ao cap,v=.slice ao n cap:=by
 rcases h.2 with ⟨hv,hn0⟩|⟨g,cap,cur,hv,_⟩
 ·exact⟨none,0,by rw[hv,hn0]⟩
 ·exact⟨_,cap,hv⟩
theorem E8 (E:aT)(hE:E.ok)(one:aB→Option (Int × aB))(cp cn:Nat)(st:aB)(res:List Int × aB)(w:World)(h:jf E.toks one st=some res)(hp:PW E st w)(hn:res.2.nodes.length+1≤1099511627776)
  (hext:∀ s k,one s=some k→bX s k.2)
  (hone:∀ (R:List Nat) (s:aB) (k:Int × aB) (w':World),one s=some k→PR E R s w'→Kp E.B w w'→k.2.nodes.length+1≤1099511627776 →
   Calls Tryz.prog 326 #[.pointer (some ⟨cp,0,none⟩),.pointer (some ⟨cn,0,none⟩)] w' (dh { E with R:=R } k w')) :
  Calls Tryz.prog 169 #[.pointer (some ⟨E.pb,0,none⟩),.func (.func 326) #[] #[.pointer (some ⟨cp,0,none⟩),.pointer (some ⟨cn,0,none⟩)]] w (Uj E res w):=by
 have rT:=hE.2.2;obtain⟨i0,hi,hz0,hz1,hz2⟩:=info_parts Tryz.kP;unfold jf at h
 by_cases hx:aS E.toks st [[41]]=true
 ·rw[if_pos hx] at h
  injection h with h;subst h
  have HX:=ah (cZ E hE ⟨#[41]⟩ st true hx);clear hx hone hext;go_enter Tryz.func169,Tryz.ntmps169;go_wp2_with (go_at_call 165;refine(HX.out w hp).mono ?_);rintro e w1 ⟨rfl,hp1,hk1⟩;go_wp2;go_ret;exact⟨_,rfl,⟨none,0,rfl,Nat.le_refl _,fun q=>absurd q (by simp)⟩,fun _=>rfl,hp1,hk1⟩
 ·rw[if_neg hx] at h
  have HX:=ah (cZ E hE ⟨#[41]⟩ st false (eq_false_of_ne_true hx));have H0:=ah h;have Bt:=ah hone;have Er:=ah hext;have HN:=ah hn;have HE:=ah hE;clear hx hone hext h hn;go_enter Tryz.func169,Tryz.ntmps169;go_wp2_with (go_at_call 165;refine(HX.out w hp).mono ?_);rintro e w1 ⟨rfl,hp1,hk1⟩;go_wp2
  go_loopw [5,6] (fun kv nv wr=>aaJ E one res w kv nv wr) (fun _ nv _=>10 - (intOf nv).toNat)
  case atStart=>exact⟨8,1,[],st,E.R,rfl,rfl,by simp,H0.out,World.ownsRow_nil _ _ _ _,fun _ q=>by simp[Value.ownBlock] at q,fun _ q=>q,fun _=>rfl,hp1,hk1⟩
  case round =>
   obtain⟨r,m,kids,s,R,rfl,hm,hkl,hl,hown,hR,hER,hnil,hps,hks⟩:=hrel;obtain⟨ao,cap,rfl⟩:=mM hown;have uM:=ah hnil;clear hnil;have hBw:E.B≤w.heap.size:=hp.dL
   by_cases hf:s.fE=0
   ·have HO:=ah (jm { E with R:=R } s hf)
    cases r with
    | zero =>
     obtain rfl:m=9:=by omega
     rw[aR,if_pos hf] at hl
     injection hl with hl
     have HF:=ah (fun w hp=>ko { E with R:=R } HE.out 15 s w hp);have HL:=ah hl;clear hl hf;go_wp2_with (go_at_call 101;refine(HO.out _ hps).mono ?_);rintro e w2 ⟨rfl,hp2,hk2⟩;go_wp2_with (go_at_call 166;refine(HF.out _ hp2).mono ?_);rintro e w3 ⟨rfl,hp3,hk3⟩;have hown3:=gB (gB hown hk2) hk3;go_wp2;go_ret;exact kr hown3 hER hp3 ((hks.trans hk2).trans hk3) HL.out uM.out
    | succ r =>
     rw[aR,if_neg (by simp[hf])] at hl;obtain⟨k,h1,hl⟩:=bH hl;have d8:decide (8<(m:Int))=false:=decide_eq_false (by omega);have d8':decide (8<m)=false:=decide_eq_false (by omega)
     have hnk:k.2.nodes.length+1≤1099511627776:=by
      split at hl
      ·exact aC ((aJ _ _).trans (kJ _ one Er.out _ _ _ _ hl)) HN.out
      ·injection hl with hl;rw[← hl] at HN;exact HN.out
     have HK:=ah (fun w' hp hk=>Bt.out R s k w' h1 hp hk hnk);have HL:=ah hl;clear hl h1 hf;go_wp2_with (go_at_call 101;refine(HO.out _ hps).mono ?_);rintro e w2 ⟨rfl,hp2,hk2⟩;go_wp2_with (go_at_call 326;refine(HK.out _ hp2 (hks.trans hk2)).mono ?_);rintro e w3 ⟨rfl,hp3,hk3⟩;have ME:PR E R k.2 w3:=hp3;clear hp3;have hown3:=gB (gB hown hk2) hk3;have vF:PR E R k.2 (w3.alloc (.cells #[.int .i64 k.1] 3)):=PW.later ME (aj w3 _);have hnw:=heap_alloc_new w3 (.cells #[.int .i64 k.1] 3);have qW:Kp E.B w (w3.alloc (.cells #[.int .i64 k.1] 3)):=((hks.trans hk2).trans hk3).trans (Kp.of (aj w3 _) ME.dL);have kQ:=hown3.alloc (.cells #[.int .i64 k.1] 3);have aaK:w.heap.size≤w3.heap.size:=((hks.trans hk2).trans hk3).size;go_wp2_with (at_builtin;refine wpList_append_lies _ rfl _ _ 51 rfl w.heap.size 3 i0 (.int .i64 0) 1 8 Tryz.underlying51 hi hz0 hz1 hz2 rfl (by decide) _ _ _ rfl kQ ⟨w3.heap.size,0,none⟩ 1 1 [.int .i64 k.1] rfl rfl ?c1 ?c2 ?c3 ?c4 ?c5 ?c6 _ rfl ?_)
     case c1=>exact World.news_of_block (cs:=#[.int .i64 k.1]) (t:=3) (fr:=(0,0)) hnw
     case c2=>simp[Value.oneCell']
     case c3=>omega
     case c4=>unfold maxLen;omega
     case c5=>omega
     case c6=>simp;omega
     intro g cap4 w4 wJ vH Uk QJ;obtain⟨R4,hR4,hg4,nW⟩:=vF.append kQ hBw hR vH Uk (by simp) QJ;have hk4:=qW.grown kQ (Nat.le_refl _) hBw vH
     have qX:w4.ownsRow w.heap.size 3 1 (.slice (some ⟨g,0,none⟩) (kids.length+1) cap4) (kids.length+1) ((kids++[k.1]).map (Value.int .i64)):=by rw[List.map_append];exact wJ
     have GV:∀ r∈E.R,r∈R4:=fun r hr=>hR4 r (hER r hr)
     clear vF hnw qW kQ vH Uk QJ hown3 wJ hk2 hk3 hp2 ME hown hps hks HO HK HX H0 Bt aaK hR4
     by_cases GH:k.2.fE=0
     ·have Ul:=ah (jm { E with R:=R4 } k.2 GH)
      by_cases hx4:aS E.toks k.2 [[44]]=true
      ·have hl:=HL.out
       rw[if_pos ⟨GH,hx4⟩] at hl;have Yt:=ah (cZ { E with R:=R4 } HE.out ⟨#[44]⟩ k.2 true hx4);have HLF:=ah (fun w hp=>bA { E with R:=R4 } k.2 w hp HE.out.1 HE.out.2.1 hnk);have HL2:=ah hl;clear hl HL GH hx4;go_wp2_with (go_at_call 101;refine(Ul.out _ nW).mono ?_);rintro e w5 ⟨rfl,rX,hk5⟩;go_wp2_with (go_at_call 165;refine(Yt.out _ rX).mono ?_);rintro e w6 ⟨rfl,BF,yB⟩;obtain⟨d0,_,_,_,_,_⟩:=BF.cells;go_wp2_with (go_at_call 167;refine(HLF.out _ BF).mono ?_);rintro e w7 ⟨rfl,En,AA⟩;clear d0;have MF:PR E R4 (ay E.toks k.2).2 w7:=En;clear En;have JE:=gB (gB (gB qX hk5) yB) AA;have MG:=((hk4.trans hk5).trans yB).trans AA;have vF:PR E R4 (ay E.toks k.2).2 (w7.alloc (.cells #[.int .i64 (ay E.toks k.2).1] 3)):=PW.later MF (aj w7 _);have hnw:=heap_alloc_new w7 (.cells #[.int .i64 (ay E.toks k.2).1] 3);have qW:Kp E.B w (w7.alloc (.cells #[.int .i64 (ay E.toks k.2).1] 3)):=MG.trans (Kp.of (aj w7 _) MF.dL);have kQ:=JE.alloc (.cells #[.int .i64 (ay E.toks k.2).1] 3);have ab0:w.heap.size≤w7.heap.size:=MG.size
       have hv4:∀ b,(Value.slice (some ⟨g,0,none⟩) (kids.length+1) cap4).ownBlock=some b→b∈R4:=fun b hb=>by
        simp only[Value.ownBlock,Option.some.injEq] at hb;subst hb;exact hg4
       go_wp2_with (at_builtin;refine wpList_append_lies _ rfl _ _ 51 rfl w.heap.size 3 i0 (.int .i64 0) 1 8 Tryz.underlying51 hi hz0 hz1 hz2 rfl (by decide) _ _ _ rfl kQ ⟨w7.heap.size,0,none⟩ 1 1 [.int .i64 (ay E.toks k.2).1] rfl rfl ?c1 ?c2 ?c3 ?c4 ?c5 ?c6 _ rfl ?_)
       case c1=>exact World.news_of_block (cs:=#[.int .i64 (ay E.toks k.2).1]) (t:=3) (fr:=(0,0)) hnw
       case c2=>simp[Value.oneCell']
       case c3=>omega
       case c4=>unfold maxLen;omega
       case c5=>omega
       case c6=>simp;omega
       intro g8 MH w8 sM lT BH vI;obtain⟨R8,JF,hg8,QE⟩:=vF.append kQ hBw hv4 lT BH (by simp) vI;have Ue:=qW.grown kQ (Nat.le_refl _) hBw lT
       have MI:w8.ownsRow w.heap.size 3 1 (.slice (some ⟨g8,0,none⟩) (kids.length+1+1) MH) (kids++[k.1,(ay E.toks k.2).1]).length ((kids++[k.1,(ay E.toks k.2).1]).map (Value.int .i64)):=by
        rw[List.map_append,bP];exact sM
       have hv8:∀ b,(Value.slice (some ⟨g8,0,none⟩) (kids.length+1+1) MH).ownBlock=some b→b∈R8:=fun b hb=>by
        simp only[Value.ownBlock,Option.some.injEq] at hb;subst hb;exact hg8
       have aaL:∀ r∈E.R,r∈R8:=fun r hr=>JF r (GV r hr)
       clear vF hnw qW kQ lT BH vI JE sM MG qX hk4 hk5 yB AA nW rX BF MF Ul Yt HLF JF hv4 GV hg4;go_wp2
       go_roundw
       case rel=>exact⟨r,m+1,_,_,R8,by go_num,by omega,by simp;omega,HL2.out,MI,hv8,aaL,(fun q=>by simp at q),QE,Ue⟩
       case measure=>simp[intOf];omega
      ·have hl:=HL.out
       rw[if_neg (fun q=>hx4 q.2)] at hl
       injection hl with hl
       have Yt:=ah (cZ { E with R:=R4 } HE.out ⟨#[44]⟩ k.2 false (eq_false_of_ne_true hx4));have HL2:=ah hl;clear hl HL GH hx4;go_wp2_with (go_at_call 101;refine(Ul.out _ nW).mono ?_);rintro e w5 ⟨rfl,rX,hk5⟩;go_wp2_with (go_at_call 165;refine(Yt.out _ rX).mono ?_);rintro e w6 ⟨rfl,BF,yB⟩;have hown6:=gB (gB qX hk5) yB;go_wp2;go_ret;exact kr hown6 GV BF ((hk4.trans hk5).trans yB) HL2.out (fun q=>by simp at q)
     ·have hl:=HL.out
      rw[if_neg (fun q=>GH q.1)] at hl
      injection hl with hl
      have Ul:=ah (rJ { E with R:=R4 } k.2 GH);have HL2:=ah hl;clear hl HL GH;go_wp2_with (go_at_call 101;refine(Ul.out _ nW).mono ?_);rintro e w5 ⟨rfl,rX,hk5⟩;have hown5:=gB qX hk5;go_wp2;go_ret;exact kr hown5 GV rX (hk4.trans hk5) HL2.out (fun q=>by simp at q)
   ·have HO:=ah (rJ { E with R:=R } s hf)
    have hl':(kids,s)=res:=by
     cases r with
     | zero=>rw[aR,if_neg hf] at hl;injection hl
     | succ r=>rw[aR,if_pos hf] at hl;injection hl
    have HL:=ah hl';clear hl hl' hf;go_wp2_with (go_at_call 101;refine(HO.out _ hps).mono ?_);rintro e w2 ⟨rfl,hp2,hk2⟩;have hown2:=gB hown hk2;go_wp2;go_ret;exact kr hown2 hER hp2 (hks.trans hk2) HL.out uM.out
theorem Fa (E:aT)(g nest cp cn:Nat)(ih:Al E g)(st:aB)(r:Int × aB)(w:World)(h:run E.toks E.depth g (.expr (nest+1)) st=some r)(hp:PW E st w)(hn:r.2.nodes.length+1≤1099511627776)(bQ:nest≤E.depth)(rT:E.depth≤1000)
  (c1:w.cell? ⟨cp,0,none⟩=some (.pointer (some ⟨E.pb,0,none⟩))) (c2:w.cell? ⟨cn,0,none⟩=some (.int .i64 nest)) :
  Calls Tryz.prog 326 #[.pointer (some ⟨cp,0,none⟩),.pointer (some ⟨cn,0,none⟩)] w (dh E r w):=by
 have HE:=ah (ih _ _ _ w h hp hn (by show nest+1≤_;omega));clear h hp hn ih;go_enter Tryz.func326,Tryz.ntmps326;go_wp2_with (go_at_call 172;refine HE.out.mono ?_);rintro e w1 ⟨rfl,hp1,hk1⟩;go_wp2;go_ret;exact⟨rfl,hp1,hk1⟩
theorem Yu (w:World)(base:Nat)(x:Int)(hb:base≤w.heap.size):(w.alloc (.cells #[.int .i64 x] 3)).ownsRow base 3 1 (.slice (some ⟨w.heap.size,0,none⟩) 1 1) 1 ([x].map (Value.int .i64)) :=
 ⟨rfl,.inr ⟨w.heap.size,1,_,rfl,hb,heap_alloc_new _ _,Nat.le_refl _,by unfold maxLen;omega,rfl,rfl⟩⟩
def iH (E:aT)(nest:Nat)(w:World):World:=(w.alloc (.cells #[.pointer (some ⟨E.pb,0,none⟩)] 129)).alloc (.cells #[.int .i64 nest] 3)
theorem oW (E:aT)(nest:Nat)(w:World):Below w.heap.size w (iH E nest w):=((Below.refl _ _).alloc (Nat.le_refl _) _).alloc (by simp) _
theorem gQ (E:aT)(nest:Nat){w wr:World}{B:Nat}(hk:Kp B (iH E nest w) wr):wr.cell? ⟨w.heap.size,0,none⟩=some (.pointer (some ⟨E.pb,0,none⟩)):=by
 have h1:(iH E nest w).heap[w.heap.size]?=some (.cells #[.pointer (some ⟨E.pb,0,none⟩)] 129 (0,0)):=(Lib.alloc_old _ _ _ (by simp)).trans (heap_alloc_new _ _);rw[Lib.cell_of_heap (hk.2 _ _ _ _ h1 (by decide) (by decide) (by decide))];rfl
theorem O4 (E:aT)(nest:Nat){w wr:World}{B:Nat}(hk:Kp B (iH E nest w) wr):wr.cell? ⟨w.heap.size+1,0,none⟩=some (.int .i64 nest):=by
 have h1:(iH E nest w).heap[w.heap.size+1]?=some (.cells #[.int .i64 nest] 3 (0,0)):=by
  have:=heap_alloc_new (w.alloc (.cells #[.pointer (some ⟨E.pb,0,none⟩)] 129)) (.cells #[.int .i64 nest] 3);rw[show (w.alloc (.cells #[.pointer (some ⟨E.pb,0,none⟩)] 129)).heap.size=w.heap.size+1 by simp] at this;exact this
 rw[Lib.cell_of_heap (hk.2 _ _ _ _ h1 (by decide) (by decide) (by decide))];rfl
def iI (E:aT)(W0:World)(R:List Nat)(v:Value)(ks:List Int)(s:aB)(w:World):Prop :=
 w.ownsRow W0.heap.size 3 1 v ks.length (ks.map (Value.int .i64))∧(∀ b,v.ownBlock=some b→b∈R)∧(∀ r∈E.R,r∈R)∧PR E R s w∧Kp E.B W0 w
theorem iI.call {E:aT}{W0:World}{R:List Nat}{v:Value}{ks:List Int}{s s':aB}{w w':World}(h:iI E W0 R v ks s w)(hp:PW { E with R:=R } s' w')(hk:Kp E.B w w'):iI E W0 R v ks s' w' :=
 ⟨gB h.1 hk,h.2.1,h.2.2.1,hp,h.2.2.2.2.trans hk⟩
theorem iI.lit {E:aT}{W0:World}{R:List Nat}{v:Value}{ks:List Int}{s:aB}{w:World}(h:iI E W0 R v ks s w)(o:Obj):iI E W0 R v ks s (w.alloc o) :=
 ⟨h.1.alloc o,h.2.1,h.2.2.1,PW.later h.2.2.2.1 (aj w o),h.2.2.2.2.trans (Kp.of (aj w o) h.2.2.2.1.dL)⟩
theorem iI.app {E:aT}{W0:World}{R:List Nat}{v:Value}{ks news:List Int}{s:aB}{wA w':World}{g n n' cap H:Nat}(h:iI E W0 R v ks s wA)(hB:E.B≤W0.heap.size)(hn:(ks++news).length=n)
  (ho:w'.ownsRow W0.heap.size 3 1 (.slice (some ⟨g,0,none⟩) n' cap) n (ks.map (Value.int .i64)++news.map (Value.int .i64))) (hg:wA.grownBy w' v.ownBlock) (hat:v.ownBlock=some g∨g=H) (hH:wA.heap.size=H) (hlt:g<w'.heap.size) :
  ∃ R',iI E W0 R' (.slice (some ⟨g,0,none⟩) n' cap) (ks++news) s w':=by
 obtain⟨h1,h2,h3,h4,h5⟩:=h;obtain⟨R',r1,r2,r3⟩:=h4.append h1 hB h2 hg hat hH hlt;refine⟨R',?_,fun b hb=>?_,fun r hr=>r1 r (h3 r hr),r3,h5.grown h1 (Nat.le_refl _) hB hg⟩
 ·rw[List.map_append,hn];exact ho
 ·simp only[Value.ownBlock,Option.some.injEq] at hb;subst hb;exact r2
theorem iI.start {E:aT}{W0 w:World}{s:aB}(x:Int)(hp:PW E s w)(hk:Kp E.B W0 w):iI E W0 (w.heap.size :: E.R) (.slice (some ⟨w.heap.size,0,none⟩) 1 1) [x] s (w.alloc (.cells #[.int .i64 x] 3)) :=
 ⟨Yu w _ x hk.size,fun b hb=>by simp only[Value.ownBlock,Option.some.injEq] at hb;subst hb;exact List.mem_cons_self,fun r hr=>List.mem_cons_of_mem _ hr,PR.take hp.pr (aj w _) _ (Nat.le_refl _) (by simp),hk.trans (Kp.of (aj w _) hp.dL)⟩
theorem iI.node {E:aT}{W0:World}{R:List Nat}{v:Value}{ks:List Int}{s:aB}{w:World}(h:iI E W0 R v ks s w):dH w v ks:=dH.fF h.1
theorem xk (toks:List Tok)(one:aB→Option (Int × aB)):∀ (r:Nat) (kids:List Int) (st:aB) (l:List Int × aB),aR toks one r kids st=some l→l.1.length≤kids.length+2 * r
 | 0,kids,st,l,h=>by rw[aR] at h;injection h with h;subst h;simp
 | r+1,kids,st,l,h=>by
  rw[aR] at h
  split at h
  ·injection h with h;subst h;simp
  ·obtain⟨k,h1,h⟩:=bH h
   split at h
   ·have:=xk toks one r _ _ _ h
    simp only[bP,dX,List.length_nil] at this;omega
   ·injection h with h;subst h;simp;omega
theorem Fb (toks:List Tok)(one:aB→Option (Int × aB))(st:aB)(l:List Int × aB)(h:jf toks one st=some l):l.1.length≤16:=by
 unfold jf at h
 split at h
 ·injection h with h;subst h;simp
 ·simpa using xk toks one 8 [] st l h
theorem MJ (E:aT)(hE:E.ok)(g:Nat)(nest:Nat)(st:aB)(r:Int × aB)(w:World)(h:run E.toks E.depth (g+1) (.name nest) st=some r)(hp:PW E st w)(hn:r.2.nodes.length+1≤1099511627776)(aaC:nest≤E.depth)
  (hcase:(ay E.toks st).2.clause=true∨aS E.toks (ay E.toks st).2 [[46],[40]]=false) :
  Calls Tryz.prog 323 #[.pointer (some ⟨E.pb,0,none⟩),.int .i64 nest] w (dh E r w):=by
 have rT:=hE.2.2;obtain⟨i0,hi,hz0,hz1,hz2⟩:=info_parts Tryz.kP;rw[run] at h;have hA:PW E st (iH E nest w):=hp.later (oW E nest w);have qW:Kp E.B w (iH E nest w):=Kp.of (oW E nest w) hp.dL
 ·rw[if_pos hcase] at h
  injection h with h;subst h
  have n2:=aC (aD _ _ _) hn;have n1:=aC (aJ _ _) n2;have HL:=ah (fun w hp=>bA E st w hp hE.1 hE.2.1 n1);have HN:=ah (fun w hp v hv=>jM E 14 v [(ay E.toks st).1] (ay E.toks st).2 w hp hv (by simp) n2);clear n1 n2 hn
  by_cases hcl:(ay E.toks st).2.clause=true
  ·have hc:=ah hcl
   clear hcase hcl;have hA':PW E st ((w.alloc (.cells #[.pointer (some ⟨E.pb,0,none⟩)] 129)).alloc (.cells #[.int .i64 nest] 3)):=hA;obtain⟨d0,_,_,_,_,_⟩:=hA'.cells;go_enter Tryz.func323,Tryz.ntmps323;go_wp2_with (go_at_call 167;refine(HL.out _ hA').mono ?_);rintro e w1 ⟨rfl,hp1,BI⟩;have hk1:Kp E.B (iH E nest w) w1:=BI;clear d0 BI hA';have hpB:=hp1.later (aj w1 (.cells #[.int .i64 (ay E.toks st).1] 3));have hkB:=hk1.trans (Kp.of (aj w1 (.cells #[.int .i64 (ay E.toks st).1] 3)) hp1.dL);have p1:=gQ E nest hkB;obtain⟨_,_,c1,_,_,_⟩:=hpB.cells;rw[hc.out] at c1;have hiB:=Bw w1 [(ay E.toks st).1];go_wp2_with (go_at_call 106;refine(HN.out _ hpB _ hiB).mono ?_);rintro e w2 ⟨rfl,hp2,hk2⟩;go_wp2;go_ret;exact⟨rfl,hp2,(qW.trans hkB).trans hk2⟩
  ·have hc:=ah (eq_false_of_ne_true hcl)
   have HX:=ah (fun w hp=>sJ E hE ⟨#[46]⟩ ⟨#[40]⟩ (ay E.toks st).2 false (hcase.resolve_left hcl) w hp);clear hcase hcl;have hA':PW E st ((w.alloc (.cells #[.pointer (some ⟨E.pb,0,none⟩)] 129)).alloc (.cells #[.int .i64 nest] 3)):=hA;obtain⟨d0,_,_,_,_,_⟩:=hA'.cells;go_enter Tryz.func323,Tryz.ntmps323;go_wp2_with (go_at_call 167;refine(HL.out _ hA').mono ?_);rintro e w1 ⟨rfl,hp1,BI⟩;have hk1:Kp E.B (iH E nest w) w1:=BI;clear d0 BI hA';have hpB:=hp1.later (aj w1 (.cells #[.int .i64 (ay E.toks st).1] 3));have hkB:=hk1.trans (Kp.of (aj w1 (.cells #[.int .i64 (ay E.toks st).1] 3)) hp1.dL);have p1:=gQ E nest hkB;obtain⟨_,_,c1,_,_,_⟩:=hpB.cells;rw[hc.out] at c1;have hiB:=Bw w1 [(ay E.toks st).1];have Um:=HX.out _ hpB;rw[show (w1.alloc (.cells #[.int .i64 (ay E.toks st).1] 3)).heap.size=w1.heap.size+1 by simp] at Um;have HXB:=ah Um;clear Um;go_wp2_with (go_at_call 165;refine HXB.out.mono ?_);rintro e w2 ⟨rfl,hp2,hk2⟩;have p2:=gQ E nest (hkB.trans hk2);clear p1 c1;go_wp2_with (go_at_call 106;refine(HN.out _ hp2 _ (hiB.kept hk2)).mono ?_);rintro e w3 ⟨rfl,hp3,hk3⟩;go_wp2;go_ret;exact⟨rfl,hp3,((qW.trans hkB).trans hk2).trans hk3⟩
end Go.Proofs.YtknicmmigbhpcaaGreatDoor
