/- Walks and plain laws: FormW, ListW, ProgramW1, ProgramW3. -/
import Derived.Test.YtknicmmigbhpcaaGreatDoorF34
set_option maxHeartbeats 16000000
set_option maxRecDepth 100000
set_option linter.unusedVariables false
set_option linter.unusedSimpArgs false
namespace Go.Proofs.YtknicmmigbhpcaaGreatDoor
open Go.RowKit Go
def IV (r:Yz)(w:World)(e:Ending)(w':World):Prop :=
 Below w.heap.size w w'∧match r with
 | .bad c a=>e=.returned (.tuple #[.agg #[.slice none 0 0,.slice none 0 0],.agg #[.int .i64 c,.int .i64 a]])
 | .good toks nodes=>∃ at_ ct an cn,e=.returned (.tuple #[.agg #[.slice at_ toks.length ct,.slice an nodes.length cn],.agg #[.int .i64 0,.int .i64 0]])∧pO w' (.agg #[.slice at_ toks.length ct,.slice an nodes.length cn]) toks nodes
theorem iV {w:World}{b:Nat}{x y:Value}(h:w.heap[b]?=some (.cells #[x,y] 75 (0,0))):w.cell? ⟨b,0,none⟩=some x∧w.cell? ⟨b,1,none⟩=some y∧∀ j,w.frozen? ⟨b,j,none⟩=false:=by
 refine⟨?_,?_,fun j=>?_⟩
 ·rw[Lib.cell_of_heap h];rfl
 ·rw[Lib.cell_of_heap h];rfl
 ·simp[World.frozen?,h]
theorem mQ {w:World}{b:Nat}{x y:Value}(h:w.heap[b]?=some (.cells #[x,y] 89 (0,0))):w.cell? ⟨b,0,none⟩=some x∧w.cell? ⟨b,1,none⟩=some y∧∀ j,w.frozen? ⟨b,j,none⟩=false:=by
 refine⟨?_,?_,fun j=>?_⟩
 ·rw[Lib.cell_of_heap h];rfl
 ·rw[Lib.cell_of_heap h];rfl
 ·simp[World.frozen?,h]
theorem Ls (s:ByteArray)(d:Nat)(fv:Value)(w:World)(hd1:1≤d)(hd2:d≤200)(hs:s.size≤1099511627776)(c a:Nat)(hl:bW s.data.toList=.error (c,a))(hc:c≠0) :
  Calls Tryz.prog 63 #[.string s,.int .i64 d,fv] w (IV (.bad c a) w):=by
 have HL:Hid (∀ W,Calls Tryz.prog 74 #[.string s] W fun e w'=>e=.returned (.tuple #[.slice none 0 0,.agg #[.int .i64 c,.int .i64 a]])∧Below W.heap.size W w'):=ah fun W=>(GD s W hs).mono fun e w' h=>by
  unfold OV at h;rw[hl] at h;exact⟨h.2,h.1⟩
 have hc0:((c:Int) == 0)=false:=by simp;omega
 have hal:=(aj w (.cells #[.slice none 0 0,.slice none 0 0] 89)).alloc (by simp) (.cells #[.int .i64 0,.int .i64 0] 75);have e1:=(Lib.alloc_old (w.alloc (.cells #[.slice none 0 0,.slice none 0 0] 89)) (.cells #[.int .i64 0,.int .i64 0] 75) w.heap.size (by simp)).trans (heap_alloc_new w (.cells #[.slice none 0 0,.slice none 0 0] 89));have e2:=heap_alloc_new (w.alloc (.cells #[.slice none 0 0,.slice none 0 0] 89)) (.cells #[.int .i64 0,.int .i64 0] 75);rw[World.size_alloc] at e2
 have ade:¬ ((d:Int)<1):=by omega
 have adf:¬ ((200:Int)<(d:Int)):=by omega
 clear hl;go_enter Tryz.func63,Tryz.ntmps63
 go_upto_region 5 with (go_at_call 74;refine(HL.out _).mono ?_;rintro e w3 ⟨rfl,hb3⟩;have hz3:=hb3.size)
 rw[World.size_alloc,World.size_alloc] at hz3;have G6:=(Lib.alloc_old w3 (.cells #[.int .i64 c,.int .i64 a] 75) w.heap.size (by omega)).trans ((hb3.block w.heap.size (by simp;omega)).trans e1);have G7:=(Lib.alloc_old w3 (.cells #[.int .i64 c,.int .i64 a] 75) (w.heap.size+1) (by omega)).trans ((hb3.block (w.heap.size+1) (by simp)).trans e2);have hb4:=(hal.trans (hb3.mono (by simp;omega))).alloc (by omega) (.cells #[.int .i64 c,.int .i64 a] 75);have N9:=heap_alloc_new w3 (.cells #[.int .i64 c,.int .i64 a] 75);clear hb3 e1 e2 hal HL;generalize hx:w3.heap.size=xb at N9 ⊢;generalize w3.alloc _=w4 at G6 G7 hb4 N9 ⊢;obtain⟨q0,q1,qz⟩:=mQ G6;obtain⟨p0,p1,pz⟩:=iV G7;obtain⟨f0,f1,fz⟩:=iV N9
 go_region
 go_wp2;refine bodyPost_ret (v:=.tuple #[.agg #[.slice none 0 0,.slice none 0 0],.agg #[.int .i64 c,.int .i64 a]]) (by simp[results,Tryz.results63,go_sem,q0,q1,p0,p1]) rfl ⟨?_,rfl⟩;exact((((hb4.setCell (by simp) _).setCell (by simp) _).setCell (by simp) _).setCell (by simp) _).drew
def Zw (E:aT)(one:aB→Option (Int × aB))(res:List Int × aB)(w0:World)(kv nv:Value)(wr:World):Prop :=
 ∃ (r m:Nat) (kids:List Int) (s:aB) (R:List Nat),nv=.int .i64 (m:Nat)∧m+r=9∧kids.length+2 * r≤16∧aR E.toks one r kids s=some res ∧
  wr.ownsRow w0.heap.size 3 1 kv kids.length (kids.map (Value.int .i64))∧(∀ b,kv.ownBlock=some b→b∈R)∧(∀ r∈E.R,r∈R)∧(kids=[]→kv=.slice none 0 0)∧PR E R s wr∧Kp E.B w0 wr∧s.clause=false
theorem OC (E:aT)(hE:E.ok)(one:aB→Option (Int × aB))(st:aB)(res:List Int × aB)(w:World)(h:jf E.toks one st=some res)(hp:PW E st w)(hn:res.2.nodes.length+1≤1099511627776)
  (hcl:st.clause=false) (hext:∀ s k,one s=some k→bX s k.2)
  (hone:∀ (R:List Nat) (s:aB) (k:Int × aB) (w':World),s.clause=false→one s=some k→PR E R s w'→Kp E.B w w'→k.2.nodes.length+1≤1099511627776 →
   Calls Tryz.prog 170 #[.pointer (some ⟨E.pb,0,none⟩)] w' (dh { E with R:=R } k w')) :
  Calls Tryz.prog 169 #[.pointer (some ⟨E.pb,0,none⟩),.func (.func 170) #[.pointer (some ⟨E.pb,0,none⟩)] #[]] w (Uj E res w):=by
 have rT:=hE.2.2;obtain⟨i0,hi,hz0,hz1,hz2⟩:=info_parts Tryz.kP;unfold jf at h
 by_cases hx:aS E.toks st [[41]]=true
 ·rw[if_pos hx] at h
  injection h with h;subst h
  have HX:=ah (cZ E hE ⟨#[41]⟩ st true hx);clear hx hone hext;go_enter Tryz.func169,Tryz.ntmps169;go_wp2_with (go_at_call 165;refine(HX.out w hp).mono ?_);rintro e w1 ⟨rfl,hp1,hk1⟩;go_wp2;go_ret;exact⟨_,rfl,⟨none,0,rfl,Nat.le_refl _,fun q=>absurd q (by simp)⟩,fun _=>rfl,hp1,hk1⟩
 ·rw[if_neg hx] at h
  have HX:=ah (cZ E hE ⟨#[41]⟩ st false (eq_false_of_ne_true hx));have H0:=ah h;have Bt:=ah hone;have Er:=ah hext;have HN:=ah hn;have HE:=ah hE;clear hx hone hext h hn;go_enter Tryz.func169,Tryz.ntmps169;go_wp2_with (go_at_call 165;refine(HX.out w hp).mono ?_);rintro e w1 ⟨rfl,hp1,hk1⟩;go_wp2
  go_loopw [5,6] (fun kv nv wr=>Zw E one res w kv nv wr) (fun _ nv _=>10 - (intOf nv).toNat)
  case atStart=>exact⟨8,1,[],st,E.R,rfl,rfl,by simp,H0.out,World.ownsRow_nil _ _ _ _,fun _ q=>by simp[Value.ownBlock] at q,fun _ q=>q,fun _=>rfl,hp1,hk1,hcl⟩
  case round =>
   obtain⟨r,m,kids,s,R,rfl,hm,hkl,hl,hown,hR,hER,hnil,hps,hks,hsc⟩:=hrel;obtain⟨ao,cap,rfl⟩:=mM hown;have uM:=ah hnil;clear hnil;have hBw:E.B≤w.heap.size:=hp.dL
   by_cases hf:s.fE=0
   ·have HO:=ah (jm { E with R:=R } s hf)
    cases r with
    | zero =>
     obtain rfl:m=9:=by omega
     rw[aR,if_pos hf] at hl
     injection hl with hl
     have HF:=ah (fun w hp=>ko { E with R:=R } HE.out 15 s w hp);have HL:=ah hl;clear hl hf;go_wp2_with (go_at_call 101;refine(HO.out _ hps).mono ?_);rintro e w2 ⟨rfl,hp2,hk2⟩;go_wp2_with (go_at_call 166;refine(HF.out _ hp2).mono ?_);rintro e w3 ⟨rfl,hp3,hk3⟩;have hown3:=gB (gB hown hk2) hk3;go_wp2;go_ret;exact kr hown3 hER hp3 ((hks.trans hk2).trans hk3) HL.out uM.out
    | succ r =>
     rw[aR,if_neg (by simp[hf])] at hl;obtain⟨k,h1,hl⟩:=bH hl;have d8:decide (8<(m:Int))=false:=decide_eq_false (by omega);have d8':decide (8<m)=false:=decide_eq_false (by omega)
     have hnk:k.2.nodes.length+1≤1099511627776:=by
      split at hl
      ·exact aC ((aJ _ _).trans (kJ _ one Er.out _ _ _ _ hl)) HN.out
      ·injection hl with hl;rw[← hl] at HN;exact HN.out
     have HCK:Hid (k.2.clause=false):=ah (by rw[(Er.out s k h1).2.2.1];exact hsc);have HK:=ah (fun w' hp hk=>Bt.out R s k w' hsc h1 hp hk hnk);have HL:=ah hl;clear hl h1 hf;go_wp2_with (go_at_call 101;refine(HO.out _ hps).mono ?_);rintro e w2 ⟨rfl,hp2,hk2⟩;go_wp2_with (go_at_call 170;refine(HK.out _ hp2 (hks.trans hk2)).mono ?_);rintro e w3 ⟨rfl,hp3,hk3⟩;have ME:PR E R k.2 w3:=hp3;clear hp3;have hown3:=gB (gB hown hk2) hk3;have vF:PR E R k.2 (w3.alloc (.cells #[.int .i64 k.1] 3)):=PW.later ME (aj w3 _);have hnw:=heap_alloc_new w3 (.cells #[.int .i64 k.1] 3);have qW:Kp E.B w (w3.alloc (.cells #[.int .i64 k.1] 3)):=((hks.trans hk2).trans hk3).trans (Kp.of (aj w3 _) ME.dL);have kQ:=hown3.alloc (.cells #[.int .i64 k.1] 3);have aaK:w.heap.size≤w3.heap.size:=((hks.trans hk2).trans hk3).size;go_wp2_with (at_builtin;refine wpList_append_lies _ rfl _ _ 51 rfl w.heap.size 3 i0 (.int .i64 0) 1 8 Tryz.underlying51 hi hz0 hz1 hz2 rfl (by decide) _ _ _ rfl kQ ⟨w3.heap.size,0,none⟩ 1 1 [.int .i64 k.1] rfl rfl ?c1 ?c2 ?c3 ?c4 ?c5 ?c6 _ rfl ?_)
     case c1=>exact World.news_of_block (cs:=#[.int .i64 k.1]) (t:=3) (fr:=(0,0)) hnw
     case c2=>simp[Value.oneCell']
     case c3=>omega
     case c4=>unfold maxLen;omega
     case c5=>omega
     case c6=>simp;omega
     intro g cap4 w4 wJ vH Uk QJ;obtain⟨R4,hR4,hg4,nW⟩:=vF.append kQ hBw hR vH Uk (by simp) QJ;have hk4:=qW.grown kQ (Nat.le_refl _) hBw vH
     have qX:w4.ownsRow w.heap.size 3 1 (.slice (some ⟨g,0,none⟩) (kids.length+1) cap4) (kids.length+1) ((kids++[k.1]).map (Value.int .i64)):=by rw[List.map_append];exact wJ
     have GV:∀ r∈E.R,r∈R4:=fun r hr=>hR4 r (hER r hr)
     clear vF hnw qW kQ vH Uk QJ hown3 wJ hk2 hk3 hp2 ME hown hps hks HO HK HX H0 Bt aaK hR4
     by_cases GH:k.2.fE=0
     ·have Ul:=ah (jm { E with R:=R4 } k.2 GH)
      by_cases hx4:aS E.toks k.2 [[44]]=true
      ·have hl:=HL.out
       rw[if_pos ⟨GH,hx4⟩] at hl;have Yt:=ah (cZ { E with R:=R4 } HE.out ⟨#[44]⟩ k.2 true hx4);have HLF:=ah (fun w hp=>bA { E with R:=R4 } k.2 w hp HE.out.1 HE.out.2.1 hnk);have HL2:=ah hl;clear hl HL GH hx4;go_wp2_with (go_at_call 101;refine(Ul.out _ nW).mono ?_);rintro e w5 ⟨rfl,rX,hk5⟩;go_wp2_with (go_at_call 165;refine(Yt.out _ rX).mono ?_);rintro e w6 ⟨rfl,BF,yB⟩;obtain⟨d0,_,_,_,_,_⟩:=BF.cells;go_wp2_with (go_at_call 167;refine(HLF.out _ BF).mono ?_);rintro e w7 ⟨rfl,En,AA⟩;clear d0;have MF:PR E R4 (ay E.toks k.2).2 w7:=En;clear En;have JE:=gB (gB (gB qX hk5) yB) AA;have MG:=((hk4.trans hk5).trans yB).trans AA;have vF:PR E R4 (ay E.toks k.2).2 (w7.alloc (.cells #[.int .i64 (ay E.toks k.2).1] 3)):=PW.later MF (aj w7 _);have hnw:=heap_alloc_new w7 (.cells #[.int .i64 (ay E.toks k.2).1] 3);have qW:Kp E.B w (w7.alloc (.cells #[.int .i64 (ay E.toks k.2).1] 3)):=MG.trans (Kp.of (aj w7 _) MF.dL);have kQ:=JE.alloc (.cells #[.int .i64 (ay E.toks k.2).1] 3);have ab0:w.heap.size≤w7.heap.size:=MG.size
       have hv4:∀ b,(Value.slice (some ⟨g,0,none⟩) (kids.length+1) cap4).ownBlock=some b→b∈R4:=fun b hb=>by
        simp only[Value.ownBlock,Option.some.injEq] at hb;subst hb;exact hg4
       go_wp2_with (at_builtin;refine wpList_append_lies _ rfl _ _ 51 rfl w.heap.size 3 i0 (.int .i64 0) 1 8 Tryz.underlying51 hi hz0 hz1 hz2 rfl (by decide) _ _ _ rfl kQ ⟨w7.heap.size,0,none⟩ 1 1 [.int .i64 (ay E.toks k.2).1] rfl rfl ?c1 ?c2 ?c3 ?c4 ?c5 ?c6 _ rfl ?_)
       case c1=>exact World.news_of_block (cs:=#[.int .i64 (ay E.toks k.2).1]) (t:=3) (fr:=(0,0)) hnw
       case c2=>simp[Value.oneCell']
       case c3=>omega
       case c4=>unfold maxLen;omega
       case c5=>omega
       case c6=>simp;omega
       intro g8 MH w8 sM lT BH vI;obtain⟨R8,JF,hg8,QE⟩:=vF.append kQ hBw hv4 lT BH (by simp) vI;have Ue:=qW.grown kQ (Nat.le_refl _) hBw lT
       have MI:w8.ownsRow w.heap.size 3 1 (.slice (some ⟨g8,0,none⟩) (kids.length+1+1) MH) (kids++[k.1,(ay E.toks k.2).1]).length ((kids++[k.1,(ay E.toks k.2).1]).map (Value.int .i64)):=by
        rw[List.map_append,bP];exact sM
       have hv8:∀ b,(Value.slice (some ⟨g8,0,none⟩) (kids.length+1+1) MH).ownBlock=some b→b∈R8:=fun b hb=>by
        simp only[Value.ownBlock,Option.some.injEq] at hb;subst hb;exact hg8
       have aaL:∀ r∈E.R,r∈R8:=fun r hr=>JF r (GV r hr)
       clear vF hnw qW kQ lT BH vI JE sM MG qX hk4 hk5 yB AA nW rX BF MF Ul Yt HLF JF hv4 GV hg4;go_wp2
       go_roundw
       case rel=>exact⟨r,m+1,_,_,R8,by go_num,by omega,by simp;omega,HL2.out,MI,hv8,aaL,(fun q=>by simp at q),QE,Ue,by rw[(aJ E.toks k.2).2.2.1];exact HCK.out⟩
       case measure=>simp[intOf];omega
      ·have hl:=HL.out
       rw[if_neg (fun q=>hx4 q.2)] at hl
       injection hl with hl
       have Yt:=ah (cZ { E with R:=R4 } HE.out ⟨#[44]⟩ k.2 false (eq_false_of_ne_true hx4));have HL2:=ah hl;clear hl HL GH hx4;go_wp2_with (go_at_call 101;refine(Ul.out _ nW).mono ?_);rintro e w5 ⟨rfl,rX,hk5⟩;go_wp2_with (go_at_call 165;refine(Yt.out _ rX).mono ?_);rintro e w6 ⟨rfl,BF,yB⟩;have hown6:=gB (gB qX hk5) yB;go_wp2;go_ret;exact kr hown6 GV BF ((hk4.trans hk5).trans yB) HL2.out (fun q=>by simp at q)
     ·have hl:=HL.out
      rw[if_neg (fun q=>GH q.1)] at hl
      injection hl with hl
      have Ul:=ah (rJ { E with R:=R4 } k.2 GH);have HL2:=ah hl;clear hl HL GH;go_wp2_with (go_at_call 101;refine(Ul.out _ nW).mono ?_);rintro e w5 ⟨rfl,rX,hk5⟩;have hown5:=gB qX hk5;go_wp2;go_ret;exact kr hown5 GV rX (hk4.trans hk5) HL2.out (fun q=>by simp at q)
   ·have HO:=ah (rJ { E with R:=R } s hf)
    have hl':(kids,s)=res:=by
     cases r with
     | zero=>rw[aR,if_neg hf] at hl;injection hl
     | succ r=>rw[aR,if_pos hf] at hl;injection hl
    have HL:=ah hl';clear hl hl' hf;go_wp2_with (go_at_call 101;refine(HO.out _ hps).mono ?_);rintro e w2 ⟨rfl,hp2,hk2⟩;have hown2:=gB hown hk2;go_wp2;go_ret;exact kr hown2 hER hp2 (hks.trans hk2) HL.out uM.out
theorem Xg (E:aT)(hE:E.ok)(b c:ByteArray)(st:aB)(w:World)(h:PW E st w)(hn:st.nodes.length+1≤1099511627776) :
  Calls Tryz.prog 168 #[.pointer (some ⟨E.pb,0,none⟩),.slice (some ⟨w.heap.size,0,none⟩) 2 2] (w.alloc (.cells #[.string b,.string c] 9)) (dh E (aA E.toks [b.data.toList,c.data.toList] st) w):=by
 have hA:=h.later (aj w (.cells #[.string b,.string c] 9));refine(Jw E hE _ _ st _ hA (Jz w b c) (by simp) hn).mono ?_;rintro e w' ⟨rfl,hp,hk⟩;exact⟨rfl,hp,(Kp.of (aj w _) h.dL).trans hk⟩
theorem IW (E:aT)(hE:E.ok)(st:aB)(w:World)(hp:PW E st w)(hn:(mq E.toks st).2.nodes.length+1≤1099511627776) :
  Calls Tryz.prog 104 #[.pointer (some ⟨E.pb,0,none⟩)] w (dh E (mq E.toks st) w):=by
 unfold mq at hn ⊢;have n3:=aC (aD _ _ _) hn;have n2:=aC (aF _ _ _) n3;have n1:=aC (dO _ _ _) n2;have n0:=aC (aJ _ _) n1;have HL:=ah (bA E st w hp hE.1 hE.2.1 n0);have HK:=ah (fun w hp=>qj E hE 1 (ay E.toks st).2 w hp n1);have HM:=ah (fun w hp=>dx E hE ⟨#[59]⟩ (aO E.toks 1 (ay E.toks st).2).2 w hp n2);have HN:=ah (fun w hp=>gP E 2 [(ay E.toks st).1,(aO E.toks 1 (ay E.toks st).2).1,(aA E.toks [[59]] (aO E.toks 1 (ay E.toks st).2).2).1] 3 _ (aA E.toks [[59]] (aO E.toks 1 (ay E.toks st).2).2).2 w hp rfl rfl (by omega) n3);clear n0 n1 n2 n3 hn;obtain⟨d0,_,_,_,_,_⟩:=hp.cells;go_enter Tryz.func104,Tryz.ntmps104;go_wp2_with (go_at_call 167;refine HL.out.mono ?_);rintro e w1 ⟨rfl,hp1,hk1⟩;clear d0;go_wp2_with (go_at_call 107;refine(HK.out _ hp1).mono ?_);rintro e w2 ⟨rfl,hp2,hk2⟩;go_wp2_with (go_at_call 168;refine(HM.out _ hp2).mono ?_);rintro e w3 ⟨rfl,hp3,hk3⟩;go_wp2_with (go_at_call 106;refine(HN.out _ hp3).mono ?_);rintro e w4 ⟨rfl,nW,hk4⟩;go_wp2;go_ret;exact⟨rfl,nW,((hk1.trans hk2).trans hk3).trans hk4⟩
def aby (E:aT)(W0:World)(r:List Int × aB)(e:Ending)(w':World):Prop:=∃ v R,e=.returned v∧iI E W0 R v r.1 r.2 w'
theorem Gr (E:aT)(hE:E.ok)(g:Nat)(W0:World)(R:List Nat)(v:Value)(ks:List Int)(st:aB)(r:List Int × aB)(w:World)(h:gD E.toks E.depth g ks st=some r)(K0:iI E W0 R v ks st w)(hB:E.B≤W0.heap.size)(hn:r.2.nodes.length+1≤1099511627776)(hcl:st.clause=false)(hks:ks.length≤1000000) :
  Calls Tryz.prog 171 #[.pointer (some ⟨E.pb,0,none⟩),v] w (aby E W0 r):=by
 have rT:=hE.2.2;obtain⟨i0,hi,hz0,hz1,hz2⟩:=info_parts Tryz.kP
 have n3:(dB E.toks st).2.nodes.length+1≤1099511627776:=by
  unfold gD at h
  split at h
  ·obtain⟨n,h1,h⟩:=bH h
   obtain rfl:=Option.some.inj h;exact aC (zQ h1) hn
  ·obtain rfl:=Option.some.inj h
   exact hn
 have n2:(vL E.toks st).2.nodes.length+1≤1099511627776:=aC (aD _ _ _) n3;have n1:(jD E.toks st).2.nodes.length+1≤1099511627776:=aC (aF _ _ _) n2;have n0:=aC (aF E.toks [[58]] st) n1
 have hc3:(dB E.toks st).2.clause=false:=by rw[(yT E.toks st).2.2.1];exact hcl
 obtain⟨ao,cap,rfl⟩:=mM K0.1;have Zl:=ah (dx { E with R:=R } hE ⟨#[58]⟩ st w K0.2.2.2.1 n0);have Tn:=ah (fun R w hp=>Xg { E with R:=R } hE ⟨#[105,110,116]⟩ ⟨#[98,111,111,108]⟩ (jD E.toks st).2 w hp n1);have HM3:=ah (fun R w hp=>gP { E with R:=R } 5 [(vL E.toks st).1] 1 _ (vL E.toks st).2 w hp rfl rfl (by omega) n2);have H0:=ah h;have HN:=ah hn;clear n0 n1 n2 h hn;go_enter Tryz.func171,Tryz.ntmps171;go_wp2_with (go_at_call 168;refine Zl.out.mono ?_);rintro e w1 ⟨rfl,hq,hkq⟩;have K1:=K0.call hq hkq;clear hq hkq Zl;have hL:=K1.lit (.cells #[.int .i64 (jD E.toks st).1] 3);have hnw:=heap_alloc_new w1 (.cells #[.int .i64 (jD E.toks st).1] 3);go_wp2_with (at_builtin;refine wpList_append_lies _ rfl _ _ 51 rfl W0.heap.size 3 i0 (.int .i64 0) 1 8 Tryz.underlying51 hi hz0 hz1 hz2 rfl (by decide) _ (ks.length) _ rfl (hL.row (rfl:ks.length=ks.length)) ⟨w1.heap.size,0,none⟩ 1 1 [.int .i64 (jD E.toks st).1] rfl rfl ?c1 ?c2 ?c3 ?c4 ?c5 ?c6 _ rfl ?_)
 case c1=>exact World.news_of_block (cs:=#[.int .i64 (jD E.toks st).1]) (t:=3) (fr:=(0,0)) hnw
 case c2=>simp[Value.oneCell']
 case c3=>omega
 case c4=>unfold maxLen;omega
 case c5=>omega
 case c6=>exact hL.2.2.2.2.size
 intro g2 cap2 w2 hown hgrow hat hlt;obtain⟨R2,K2⟩:=hL.app (news:=[(jD E.toks st).1]) (n:=ks.length+1) hB (by rw[bP,(rfl:ks.length=ks.length)];rfl) hown hgrow hat (by simp) hlt;clear hL hnw hown hgrow hat hlt;generalize hkk:ks++[(jD E.toks st).1]=kk2 at K2;have HL2:Hid (kk2.length=ks.length+1):=ah (by rw[← hkk,bP,(rfl:ks.length=ks.length)];rfl);have HK2:=ah hkk;clear hkk;have HM:=ah (Tn.out R2 _ K2.2.2.2.1);clear Tn K1 K0;go_wp2_with (go_at_call 168;refine HM.out.mono ?_);rintro e w3 ⟨rfl,hq,hkq⟩;have K3:=K2.call hq hkq;clear hq hkq HM;have HM:=ah (HM3.out R2 _ K3.2.2.2.1);clear HM3 K2;go_wp2_with (go_at_call 106;refine HM.out.mono ?_);rintro e w4 ⟨rfl,hq,hkq⟩;have K4:=K3.call hq hkq;clear hq hkq HM;clear K3;have hL:=K4.lit (.cells #[.int .i64 (dB E.toks st).1] 3);have hnw:=heap_alloc_new w4 (.cells #[.int .i64 (dB E.toks st).1] 3);go_wp2_with (at_builtin;refine wpList_append_lies _ rfl _ _ 51 rfl W0.heap.size 3 i0 (.int .i64 0) 1 8 Tryz.underlying51 hi hz0 hz1 hz2 rfl (by decide) _ (ks.length+1) _ rfl (hL.row HL2.out) ⟨w4.heap.size,0,none⟩ 1 1 [.int .i64 (dB E.toks st).1] rfl rfl ?c1 ?c2 ?c3 ?c4 ?c5 ?c6 _ rfl ?_)
 case c1=>exact World.news_of_block (cs:=#[.int .i64 (dB E.toks st).1]) (t:=3) (fr:=(0,0)) hnw
 case c2=>simp[Value.oneCell']
 case c3=>omega
 case c4=>unfold maxLen;omega
 case c5=>omega
 case c6=>exact hL.2.2.2.2.size
 intro g5 cap5 w5 hown hgrow hat hlt;obtain⟨R5,K5⟩:=hL.app (news:=[(dB E.toks st).1]) (n:=ks.length+1+1) hB (by rw[bP,HL2.out];rfl) hown hgrow hat (by simp) hlt;clear hL hnw hown hgrow hat hlt;generalize hkk:kk2++[(dB E.toks st).1]=kk5 at K5;have HL5:Hid (kk5.length=ks.length+1+1):=ah (by rw[← hkk,bP,HL2.out];rfl);have HK5:=ah hkk;clear hkk;clear K4;have H5:Hid (kk5=ks++[(jD E.toks st).1,(dB E.toks st).1]):=ah (by rw[← HK5.out,← HK2.out];simp)
 by_cases hf:(dB E.toks st).2.fE=0
 ·have HO:=ah (jm { E with R:=R5 } (dB E.toks st).2 hf _ K5.2.2.2.1)
  by_cases hx:aS E.toks (dB E.toks st).2 [[123]]=true
  ·have h:=H0.out
   unfold gD at h;rw[if_pos ⟨hf,hx⟩] at h;obtain⟨n,h1,h⟩:=bH h;obtain rfl:=Option.some.inj h;have hn:=HN.out;unfold iY at h1;obtain⟨f,h2,h1⟩:=bH h1;obtain rfl:=Option.some.inj h1;rw[hc3] at hn;have m3:=aC (aD _ _ _) hn;have m2':(jE f.2 false).nodes.length+1≤1099511627776:=aC (aF E.toks [[125]] (jE f.2 false)) m3;have m2:f.2.nodes.length+1≤1099511627776:=m2';have m1':(jE (ay E.toks (dB E.toks st).2).2 true).nodes.length+1≤1099511627776:=aC (aN _ _ _ _ _ _ h2) m2;have m1:(ay E.toks (dB E.toks st).2).2.nodes.length+1≤1099511627776:=m1';have HX:=ah (fun w hp=>cZ { E with R:=R5 } hE ⟨#[123]⟩ (dB E.toks st).2 true hx w hp);have HLf:=ah (fun w hp=>bA { E with R:=R5 } (dB E.toks st).2 w hp hE.1 hE.2.1 n3);have HEx:=ah (fun w hp=>allT { E with R:=R5 } hE g (.expr 1) (jE (ay E.toks (dB E.toks st).2).2 true) f w h2 hp m2 (by show 1≤_;omega));have HMu:=ah (fun w hp=>dx { E with R:=R5 } hE ⟨#[125]⟩ (jE f.2 false) w hp m2);have Tt:=ah (fun w hp=>gP { E with R:=R5 } 6 [(ay E.toks (dB E.toks st).2).1,f.1,(aA E.toks [[125]] (jE f.2 false)).1] 3 _ (aA E.toks [[125]] (jE f.2 false)).2 w hp rfl rfl (by omega) m3);clear h2 hn m1 m2 m1' m2' m3 n3 hf hx H0 HN;go_wp2_with (go_at_call 101;refine HO.out.mono ?_);rintro e w6 ⟨rfl,hq,hkq⟩;have K6:=K5.call hq hkq;clear hq hkq HO K5;go_wp2_with (go_at_call 165;refine(HX.out _ K6.2.2.2.1).mono ?_);rintro e w7 ⟨rfl,hq,hkq⟩;have K7:=K6.call hq hkq;clear hq hkq HX K6;obtain⟨d0,_,_,_,_,_⟩:=PW.cells K7.2.2.2.1;go_wp2_with (go_at_call 167;refine(HLf.out _ K7.2.2.2.1).mono ?_);rintro e w8 ⟨rfl,hq,hkq⟩;have K8:=K7.call hq hkq;clear hq hkq HLf K7 d0;obtain⟨hm8,adg⟩:=PW.mark K8.2.2.2.1 true;have hz8:w8.frozen? ⟨E.pb,2,none⟩=false:=(PW.cells K8.2.2.2.1).2.2.2.2.2 2;have c8:=(PW.cells K8.2.2.2.1).2.2.1;have K9:=K8.call hm8 adg;have HEY:=ah (HEx.out _ K9.2.2.2.1);clear hm8 adg HEx K8
   go_wp2_with (go_at_call 172;refine HEY.out.mono ?_);rintro e jR ⟨rfl,hq,hkq⟩;have Fe:=K9.call hq hkq;clear hq hkq HEY K9 hz8 c8;obtain⟨adh,aap⟩:=PW.mark Fe.2.2.2.1 false;have aa6:jR.frozen? ⟨E.pb,2,none⟩=false:=(PW.cells Fe.2.2.2.1).2.2.2.2.2 2;have c10:=(PW.cells Fe.2.2.2.1).2.2.1;have yO:=Fe.call adh aap;have hMV:=HMu.out _ yO.2.2.2.1;rw[show (jR.setCell ⟨E.pb,2,none⟩ (.bool false)).heap.size=jR.heap.size by simp] at hMV;have HMV:=ah hMV;clear hMV;clear adh aap HMu Fe;go_wp2_with (go_at_call 168;refine HMV.out.mono ?_);rintro e w12 ⟨rfl,hq,hkq⟩;have yC:=yO.call hq hkq;clear hq hkq HMV yO aa6 c10;have HNV:=ah (Tt.out _ yC.2.2.2.1);clear Tt;go_wp2_with (go_at_call 106;refine HNV.out.mono ?_);rintro e w13 ⟨rfl,hq,hkq⟩;have Ao:=yC.call hq hkq;clear hq hkq HNV yC;have hL:=Ao.lit (.cells #[.int .i64 (aY 6 [(ay E.toks (dB E.toks st).2).1,f.1,(aA E.toks [[125]] (jE f.2 false)).1] (aA E.toks [[125]] (jE f.2 false)).2).1] 3);have hnw:=heap_alloc_new w13 (.cells #[.int .i64 (aY 6 [(ay E.toks (dB E.toks st).2).1,f.1,(aA E.toks [[125]] (jE f.2 false)).1] (aA E.toks [[125]] (jE f.2 false)).2).1] 3);go_wp2_with (at_builtin;refine wpList_append_lies _ rfl _ _ 51 rfl W0.heap.size 3 i0 (.int .i64 0) 1 8 Tryz.underlying51 hi hz0 hz1 hz2 rfl (by decide) _ (ks.length+1+1) _ rfl (hL.row HL5.out) ⟨w13.heap.size,0,none⟩ 1 1 [.int .i64 (aY 6 [(ay E.toks (dB E.toks st).2).1,f.1,(aA E.toks [[125]] (jE f.2 false)).1] (aA E.toks [[125]] (jE f.2 false)).2).1] rfl rfl ?c1 ?c2 ?c3 ?c4 ?c5 ?c6 _ rfl ?_)
   case c1=>exact World.news_of_block (cs:=#[.int .i64 (aY 6 [(ay E.toks (dB E.toks st).2).1,f.1,(aA E.toks [[125]] (jE f.2 false)).1] (aA E.toks [[125]] (jE f.2 false)).2).1]) (t:=3) (fr:=(0,0)) hnw
   case c2=>simp[Value.oneCell']
   case c3=>omega
   case c4=>unfold maxLen;omega
   case c5=>omega
   case c6=>exact hL.2.2.2.2.size
   intro g14 adi w14 hown hgrow hat hlt;obtain⟨R14,K14⟩:=hL.app (news:=[(aY 6 [(ay E.toks (dB E.toks st).2).1,f.1,(aA E.toks [[125]] (jE f.2 false)).1] (aA E.toks [[125]] (jE f.2 false)).2).1]) (n:=ks.length+1+1+1) hB (by rw[bP,HL5.out];rfl) hown hgrow hat (by simp) hlt;clear hL hnw hown hgrow hat hlt;generalize hkk:kk5++[(aY 6 [(ay E.toks (dB E.toks st).2).1,f.1,(aA E.toks [[125]] (jE f.2 false)).1] (aA E.toks [[125]] (jE f.2 false)).2).1]=aeH at K14;have afG:Hid (aeH.length=ks.length+1+1+1):=ah (by rw[← hkk,bP,HL5.out];rfl);have aeI:=ah hkk;clear hkk;go_wp2;go_ret;have e14:=K14;rw[← aeI.out,H5.out] at e14;simp only[List.append_assoc,List.cons_append,List.nil_append] at e14;refine⟨.slice (some ⟨g14,0,none⟩) (ks.length+1+1+1) adi,R14,rfl,?_⟩;rw[hc3];exact e14
  ·have h:=H0.out
   unfold gD at h;rw[if_neg (fun q=>hx q.2)] at h;obtain rfl:=Option.some.inj h;have HX:=ah (fun w hp=>cZ { E with R:=R5 } hE ⟨#[123]⟩ (dB E.toks st).2 false (eq_false_of_ne_true hx) w hp);clear n3 hf hx H0 HN;go_wp2_with (go_at_call 101;refine HO.out.mono ?_);rintro e w6 ⟨rfl,hq,hkq⟩;have K6:=K5.call hq hkq;clear hq hkq HO K5;go_wp2_with (go_at_call 165;refine(HX.out _ K6.2.2.2.1).mono ?_);rintro e w7 ⟨rfl,hq,hkq⟩;have K7:=K6.call hq hkq;clear hq hkq HX K6;go_wp2;go_ret;rw[H5.out] at K7;exact⟨_,R5,rfl,K7⟩
 ·have h:=H0.out
  unfold gD at h;rw[if_neg (fun q=>hf q.1)] at h;obtain rfl:=Option.some.inj h;have HO:=ah (rJ { E with R:=R5 } (dB E.toks st).2 hf _ K5.2.2.2.1);clear n3 hf H0 HN;go_wp2_with (go_at_call 101;refine HO.out.mono ?_);rintro e w6 ⟨rfl,hq,hkq⟩;have K6:=K5.call hq hkq;clear hq hkq HO K5;go_wp2;go_ret;rw[H5.out] at K6;exact⟨_,R5,rfl,K6⟩
theorem SQ (E:aT)(hE:E.ok)(g:Nat)(st:aB)(r:Int × aB)(w:World)(h:iK E.toks E.depth g st=some r)(hp:PW E st w)(hn:r.2.nodes.length+1≤1099511627776)(hcl:st.clause=false) :
  Calls Tryz.prog 170 #[.pointer (some ⟨E.pb,0,none⟩)] w (dh E r w):=by
 unfold iK at h;obtain⟨l,h1,h⟩:=bH h;obtain rfl:=Option.some.inj h;have n2:=aC (aD _ _ _) hn;have n1:=aC (jc h1) n2;have n0:=aC (dO _ _ _) n1
 have hll:l.1.length≤4:=by
  unfold gD at h1
  split at h1
  ·obtain⟨n,h2,h1⟩:=bH h1
   obtain rfl:=Option.some.inj h1
   simp
  ·obtain rfl:=Option.some.inj h1
   simp
 have HK:=ah (qj E hE 1 st w hp n0)
 have hc1:(aO E.toks 1 st).2.clause=false:=by rw[(dO E.toks 1 st).2.2.1];exact hcl
 have HB:E.B≤w.heap.size:=hp.dL;have HT:=ah (fun W R v K=>Gr E hE g w R v _ _ l W h1 K HB n2 hc1 (by simp));have HN:=ah (fun R w v hq hv=>jM { E with R:=R } 4 v l.1 l.2 w hq hv (by omega) n2);clear n0 n1 n2 hn h1 h hc1;go_enter Tryz.func170,Tryz.ntmps170;go_wp2_with (go_at_call 107;refine HK.out.mono ?_);rintro e w1 ⟨rfl,hp1,hk1⟩;have K1:=iI.start (W0:=w) (aO E.toks 1 st).1 hp1 hk1;have HTy:=ah (HT.out _ _ _ K1);clear HT hp1 hk1 K1 HK;go_wp2_with (go_at_call 171;refine HTy.out.mono ?_);rintro e w2 ⟨v,R2,rfl,K2⟩;have Tt:=ah (HN.out R2 _ v K2.2.2.2.1 K2.node);clear HN HTy;obtain⟨ao,cap,rfl⟩:=mM K2.1;go_wp2_with (go_at_call 106;refine Tt.out.mono ?_);rintro e w3 ⟨rfl,hq,hkq⟩;have K3:=K2.call hq hkq;go_wp2;go_ret;exact⟨rfl,PR.drop K3.2.2.2.1 K3.2.2.1,K3.2.2.2.2⟩
def slN:Value→Nat | .slice _ n _=>n|_=>0
theorem iI.lift {E:aT}{W0 W1:World}{R:List Nat}{v:Value}{ks:List Int}{s:aB}{w:World}(h:iI E W1 R v ks s w)(hk:Kp E.B W0 W1):iI E W0 R v ks s w:=by
 obtain⟨h1,h2,h3,h4,h5⟩:=h;refine⟨⟨h1.1,?_⟩,h2,h3,h4,hk.trans h5⟩
 rcases h1.2 with hn|⟨g,cap,cur,hv,hg,hr⟩
 ·exact .inl hn
 ·exact .inr ⟨g,cap,cur,hv,Nat.le_trans hk.size hg,hr⟩
theorem iI.none {E:aT}{w:World}{s:aB}(hp:PW E s w):iI E w E.R (.slice none 0 0) [] s w:=⟨World.ownsRow_nil _ _ _ _,fun b q=>by simp[Value.ownBlock] at q,fun _ q=>q,hp,Kp.refl _ _⟩
theorem AV (E:aT)(hE:E.ok)(v:Value)(l:List (List UInt8))(st:aB)(x:Bool)(hx:aS E.toks st l=x)(w:World)(hp:PW E st w)(hv:jZ w v l)(hl:l.length≤1000) :
  Calls Tryz.prog 165 #[.pointer (some ⟨E.pb,0,none⟩),v] w (ql E st x w):=by
 subst hx
 exact(sG E v l st w hp hv hE.1 hE.2.1 hl).mono fun e w' ⟨he,hb⟩=>⟨he,hp.later hb,Kp.of hb hp.dL⟩
def aaq (E:aT)(one:aB→Option (Int × aB))(first:List (List UInt8))(most:Nat)(res:List Int × aB)(w0:World)(kv:Value)(wr:World):Prop :=
 ∃ (r:Nat) (kids:List Int) (s:aB) (R:List Nat),kids.length+r=most∧iZ E.toks one first r kids s=some res∧iI E w0 R kv kids s wr∧s.clause=false∧(kids=[]→kv=.slice none 0 0)
def Xh (E:aT)(W0:World)(r:List Int × aB)(e:Ending)(w':World):Prop:=∃ v R,e=.returned v∧(r.1=[]→v=.slice none 0 0)∧iI E W0 R v r.1 r.2 w'
theorem Av (E:aT)(hE:E.ok)(one:aB→Option (Int × aB))(first:List (List UInt8))(fa:Option Addr)(fc:Nat)(most:Nat)(hm:most≤1000)(st:aB)(res:List Int × aB)(w:World)(h:iZ E.toks one first most [] st=some res)(hp:PW E st w)(hn:res.2.nodes.length+1≤1099511627776)(hcl:st.clause=false)
  (hF:∀ wr,Kp E.B w wr→jZ wr (.slice fa first.length fc) first) (hfl:first.length≤1000) (hext:∀ s k,one s=some k→bX s k.2)
  (hone:∀ (R:List Nat) (s:aB) (k:Int × aB) (w':World),s.clause=false→one s=some k→PR E R s w'→k.2.nodes.length+1≤1099511627776 →
   Calls Tryz.prog 104 #[.pointer (some ⟨E.pb,0,none⟩)] w' (dh { E with R:=R } k w')) :
  Calls Tryz.prog 103 #[.pointer (some ⟨E.pb,0,none⟩),.int .i64 most,.func (.func 104) #[.pointer (some ⟨E.pb,0,none⟩)] #[],.slice fa first.length fc] w (Xh E w res):=by
 obtain⟨i0,hi,hz0,hz1,hz2⟩:=info_parts Tryz.kP;have H0:=ah h;have Bt:=ah hone;have Er:=ah hext;have HN:=ah hn;have HE:=ah hE;have HF:=ah hF;have HFL:=ah hfl;have HM:=ah hm;clear hone hext h hn hF hE hfl hm;go_enter Tryz.func103,Tryz.ntmps103;go_wp2
 go_loopw [9] (fun kv wr=>aaq E one first most res w kv wr) (fun kv _=>most - slN kv)
 case atStart=>exact⟨most,[],st,E.R,by simp,H0.out,iI.none hp,hcl,fun _=>rfl⟩
 case round =>
  obtain⟨r,kids,s,R,hlen,hl,K0,hsc,hnil⟩:=hrel;have uM:=ah hnil;clear hnil;obtain⟨ao,cap,rfl⟩:=mM K0.1;have hBw:E.B≤w.heap.size:=hp.dL;have hm:=HM.out
  by_cases hf:s.fE=0
  ·have HO:=ah (jm { E with R:=R } s hf _ K0.2.2.2.1)
   by_cases hx:aS E.toks s first=true
   ·have HX:=ah (fun w hp hv=>AV { E with R:=R } HE.out (.slice fa first.length fc) first s true hx w hp hv HFL.out)
    cases r with
    | zero =>
     rw[iZ,if_pos ⟨hf,hx⟩] at hl
     injection hl with hl
     have XP:=ah (fun w hp=>ko { E with R:=R } HE.out 15 s w hp);have HL:=ah hl
     have hkb:((kids.length:Int) == (most:Int))=true:=by rw[beq_iff_eq];omega
     have hkn:(kids.length == most)=true:=by rw[beq_iff_eq];omega
     clear hl hf hx hlen;go_wp2_with (go_at_call 101;refine HO.out.mono ?_);rintro e w2 ⟨rfl,hq,hkq⟩;have K2:=K0.call hq hkq;clear hq hkq;go_wp2_with (go_at_call 165;refine(HX.out _ K2.2.2.2.1 (HF.out _ K2.2.2.2.2)).mono ?_);rintro e w3 ⟨rfl,hq,hkq⟩;have K3:=K2.call hq hkq;clear hq hkq;go_wp2_with (go_at_call 166;refine(XP.out _ K3.2.2.2.1).mono ?_);rintro e w4 ⟨rfl,hq,hkq⟩;have K4:=K3.call hq hkq;clear hq hkq;go_wp2;go_ret;have e4:=HL.out;subst e4;exact⟨_,R,rfl,uM.out,K4⟩
    | succ r =>
     rw[iZ,if_pos ⟨hf,hx⟩] at hl;obtain⟨k,h1,hl⟩:=bH hl;have hnk:k.2.nodes.length+1≤1099511627776:=aC (mO Er.out _ _ _ _ hl) HN.out;have HCK:Hid (k.2.clause=false):=ah (by rw[(Er.out s k h1).2.2.1];exact hsc);have HK:=ah (fun w' hp=>Bt.out R s k w' hsc h1 hp hnk);have HL:=ah hl
     have hkb:((kids.length:Int) == (most:Int))=false:=by rw[← Bool.not_eq_true,beq_iff_eq];omega
     have hkn:(kids.length == most)=false:=by rw[← Bool.not_eq_true,beq_iff_eq];omega
     have HLEN:=ah hlen
     have hkl:kids.length≤1000:=by omega
     clear hl h1 hf hx hlen hnk;go_wp2_with (go_at_call 101;refine HO.out.mono ?_);rintro e w2 ⟨rfl,hq,hkq⟩;have K2:=K0.call hq hkq;clear hq hkq;go_wp2_with (go_at_call 165;refine(HX.out _ K2.2.2.2.1 (HF.out _ K2.2.2.2.2)).mono ?_);rintro e w3 ⟨rfl,hq,hkq⟩;have K3:=K2.call hq hkq;clear hq hkq K2 K0;go_wp2_with (go_at_call 104;refine(HK.out _ K3.2.2.2.1).mono ?_);rintro e w4 ⟨rfl,hq,hkq⟩;have K4:=K3.call hq hkq;clear hq hkq K3;have hL:=K4.lit (.cells #[.int .i64 k.1] 3);have hnw:=heap_alloc_new w4 (.cells #[.int .i64 k.1] 3);go_wp2_with (at_builtin;refine wpList_append_lies _ rfl _ _ 51 rfl w.heap.size 3 i0 (.int .i64 0) 1 8 Tryz.underlying51 hi hz0 hz1 hz2 rfl (by decide) _ (kids.length) _ rfl hL.1 ⟨w4.heap.size,0,none⟩ 1 1 [.int .i64 k.1] rfl rfl ?c1 ?c2 ?c3 ?c4 ?c5 ?c6 _ rfl ?_)
     case c1=>exact World.news_of_block (cs:=#[.int .i64 k.1]) (t:=3) (fr:=(0,0)) hnw
     case c2=>simp[Value.oneCell']
     case c3=>omega
     case c4=>unfold maxLen;omega
     case c5=>omega
     case c6=>exact hL.2.2.2.2.size
     intro g5 cap5 w5 hown hgrow hat hlt;obtain⟨R5,K5⟩:=hL.app (news:=[k.1]) hBw (by simp) hown hgrow hat (by simp) hlt;clear hL hnw hown hgrow hat hlt K4;go_wp2
     go_roundw
     case rel=>exact⟨r,kids++[k.1],k.2,R5,by have:=HLEN.out;simp;omega,HL.out,K5,HCK.out,fun q=>by simp at q⟩
     case measure=>have:=HLEN.out;simp[slN];omega
   ·have hl':(kids,s)=res:=by
     cases r with
     | zero=>rw[iZ,if_neg (fun q=>hx q.2)] at hl;injection hl
     | succ r=>rw[iZ,if_neg (fun q=>hx q.2)] at hl;injection hl
    have HX:=ah (fun w hp hv=>AV { E with R:=R } HE.out (.slice fa first.length fc) first s false (eq_false_of_ne_true hx) w hp hv HFL.out);have HL:=ah hl';clear hl hl' hf hx hlen;go_wp2_with (go_at_call 101;refine HO.out.mono ?_);rintro e w2 ⟨rfl,hq,hkq⟩;have K2:=K0.call hq hkq;clear hq hkq;go_wp2_with (go_at_call 165;refine(HX.out _ K2.2.2.2.1 (HF.out _ K2.2.2.2.2)).mono ?_);rintro e w3 ⟨rfl,hq,hkq⟩;have K3:=K2.call hq hkq;clear hq hkq;go_wp2;go_ret;have e4:=HL.out;subst e4;exact⟨_,R,rfl,uM.out,K3⟩
  ·have HO:=ah (rJ { E with R:=R } s hf _ K0.2.2.2.1)
   have hl':(kids,s)=res:=by
    cases r with
    | zero=>rw[iZ,if_neg (fun q=>hf q.1)] at hl;injection hl
    | succ r=>rw[iZ,if_neg (fun q=>hf q.1)] at hl;injection hl
   have HL:=ah hl';clear hl hl' hf hlen;go_wp2_with (go_at_call 101;refine HO.out.mono ?_);rintro e w2 ⟨rfl,hq,hkq⟩;have K2:=K0.call hq hkq;clear hq hkq;go_wp2;go_ret;have e4:=HL.out;subst e4;exact⟨_,R,rfl,uM.out,K2⟩
theorem IX (E:aT)(hE:E.ok)(one:aB→Option (Int × aB))(first:List (List UInt8))(fa:Option Addr)(fc:Nat)(most:Nat)(hm:most≤1000)(st:aB)(res:List Int × aB)(w:World)(h:iZ E.toks one first most [] st=some res)(hp:PW E st w)(hn:res.2.nodes.length+1≤1099511627776)(hcl:st.clause=false)
  (hF:∀ wr,Kp E.B w wr→jZ wr (.slice fa first.length fc) first) (hfl:first.length≤1000) (hext:∀ s k,one s=some k→bX s k.2)
  (hone:∀ (R:List Nat) (s:aB) (k:Int × aB) (w':World),s.clause=false→one s=some k→PR E R s w'→k.2.nodes.length+1≤1099511627776 →
   Calls Tryz.prog 105 #[.pointer (some ⟨E.pb,0,none⟩)] w' (dh { E with R:=R } k w')) :
  Calls Tryz.prog 103 #[.pointer (some ⟨E.pb,0,none⟩),.int .i64 most,.func (.func 105) #[.pointer (some ⟨E.pb,0,none⟩)] #[],.slice fa first.length fc] w (Xh E w res):=by
 obtain⟨i0,hi,hz0,hz1,hz2⟩:=info_parts Tryz.kP;have H0:=ah h;have Bt:=ah hone;have Er:=ah hext;have HN:=ah hn;have HE:=ah hE;have HF:=ah hF;have HFL:=ah hfl;have HM:=ah hm;clear hone hext h hn hF hE hfl hm;go_enter Tryz.func103,Tryz.ntmps103;go_wp2
 go_loopw [9] (fun kv wr=>aaq E one first most res w kv wr) (fun kv _=>most - slN kv)
 case atStart=>exact⟨most,[],st,E.R,by simp,H0.out,iI.none hp,hcl,fun _=>rfl⟩
 case round =>
  obtain⟨r,kids,s,R,hlen,hl,K0,hsc,hnil⟩:=hrel;have uM:=ah hnil;clear hnil;obtain⟨ao,cap,rfl⟩:=mM K0.1;have hBw:E.B≤w.heap.size:=hp.dL;have hm:=HM.out
  by_cases hf:s.fE=0
  ·have HO:=ah (jm { E with R:=R } s hf _ K0.2.2.2.1)
   by_cases hx:aS E.toks s first=true
   ·have HX:=ah (fun w hp hv=>AV { E with R:=R } HE.out (.slice fa first.length fc) first s true hx w hp hv HFL.out)
    cases r with
    | zero =>
     rw[iZ,if_pos ⟨hf,hx⟩] at hl
     injection hl with hl
     have XP:=ah (fun w hp=>ko { E with R:=R } HE.out 15 s w hp);have HL:=ah hl
     have hkb:((kids.length:Int) == (most:Int))=true:=by rw[beq_iff_eq];omega
     have hkn:(kids.length == most)=true:=by rw[beq_iff_eq];omega
     clear hl hf hx hlen;go_wp2_with (go_at_call 101;refine HO.out.mono ?_);rintro e w2 ⟨rfl,hq,hkq⟩;have K2:=K0.call hq hkq;clear hq hkq;go_wp2_with (go_at_call 165;refine(HX.out _ K2.2.2.2.1 (HF.out _ K2.2.2.2.2)).mono ?_);rintro e w3 ⟨rfl,hq,hkq⟩;have K3:=K2.call hq hkq;clear hq hkq;go_wp2_with (go_at_call 166;refine(XP.out _ K3.2.2.2.1).mono ?_);rintro e w4 ⟨rfl,hq,hkq⟩;have K4:=K3.call hq hkq;clear hq hkq;go_wp2;go_ret;have e4:=HL.out;subst e4;exact⟨_,R,rfl,uM.out,K4⟩
    | succ r =>
     rw[iZ,if_pos ⟨hf,hx⟩] at hl;obtain⟨k,h1,hl⟩:=bH hl;have hnk:k.2.nodes.length+1≤1099511627776:=aC (mO Er.out _ _ _ _ hl) HN.out;have HCK:Hid (k.2.clause=false):=ah (by rw[(Er.out s k h1).2.2.1];exact hsc);have HK:=ah (fun w' hp=>Bt.out R s k w' hsc h1 hp hnk);have HL:=ah hl
     have hkb:((kids.length:Int) == (most:Int))=false:=by rw[← Bool.not_eq_true,beq_iff_eq];omega
     have hkn:(kids.length == most)=false:=by rw[← Bool.not_eq_true,beq_iff_eq];omega
     have HLEN:=ah hlen
     have hkl:kids.length≤1000:=by omega
     clear hl h1 hf hx hlen hnk;go_wp2_with (go_at_call 101;refine HO.out.mono ?_);rintro e w2 ⟨rfl,hq,hkq⟩;have K2:=K0.call hq hkq;clear hq hkq;go_wp2_with (go_at_call 165;refine(HX.out _ K2.2.2.2.1 (HF.out _ K2.2.2.2.2)).mono ?_);rintro e w3 ⟨rfl,hq,hkq⟩;have K3:=K2.call hq hkq;clear hq hkq K2 K0;go_wp2_with (go_at_call 105;refine(HK.out _ K3.2.2.2.1).mono ?_);rintro e w4 ⟨rfl,hq,hkq⟩;have K4:=K3.call hq hkq;clear hq hkq K3;have hL:=K4.lit (.cells #[.int .i64 k.1] 3);have hnw:=heap_alloc_new w4 (.cells #[.int .i64 k.1] 3);go_wp2_with (at_builtin;refine wpList_append_lies _ rfl _ _ 51 rfl w.heap.size 3 i0 (.int .i64 0) 1 8 Tryz.underlying51 hi hz0 hz1 hz2 rfl (by decide) _ (kids.length) _ rfl hL.1 ⟨w4.heap.size,0,none⟩ 1 1 [.int .i64 k.1] rfl rfl ?c1 ?c2 ?c3 ?c4 ?c5 ?c6 _ rfl ?_)
     case c1=>exact World.news_of_block (cs:=#[.int .i64 k.1]) (t:=3) (fr:=(0,0)) hnw
     case c2=>simp[Value.oneCell']
     case c3=>omega
     case c4=>unfold maxLen;omega
     case c5=>omega
     case c6=>exact hL.2.2.2.2.size
     intro g5 cap5 w5 hown hgrow hat hlt;obtain⟨R5,K5⟩:=hL.app (news:=[k.1]) hBw (by simp) hown hgrow hat (by simp) hlt;clear hL hnw hown hgrow hat hlt K4;go_wp2
     go_roundw
     case rel=>exact⟨r,kids++[k.1],k.2,R5,by have:=HLEN.out;simp;omega,HL.out,K5,HCK.out,fun q=>by simp at q⟩
     case measure=>have:=HLEN.out;simp[slN];omega
   ·have hl':(kids,s)=res:=by
     cases r with
     | zero=>rw[iZ,if_neg (fun q=>hx q.2)] at hl;injection hl
     | succ r=>rw[iZ,if_neg (fun q=>hx q.2)] at hl;injection hl
    have HX:=ah (fun w hp hv=>AV { E with R:=R } HE.out (.slice fa first.length fc) first s false (eq_false_of_ne_true hx) w hp hv HFL.out);have HL:=ah hl';clear hl hl' hf hx hlen;go_wp2_with (go_at_call 101;refine HO.out.mono ?_);rintro e w2 ⟨rfl,hq,hkq⟩;have K2:=K0.call hq hkq;clear hq hkq;go_wp2_with (go_at_call 165;refine(HX.out _ K2.2.2.2.1 (HF.out _ K2.2.2.2.2)).mono ?_);rintro e w3 ⟨rfl,hq,hkq⟩;have K3:=K2.call hq hkq;clear hq hkq;go_wp2;go_ret;have e4:=HL.out;subst e4;exact⟨_,R,rfl,uM.out,K3⟩
  ·have HO:=ah (rJ { E with R:=R } s hf _ K0.2.2.2.1)
   have hl':(kids,s)=res:=by
    cases r with
    | zero=>rw[iZ,if_neg (fun q=>hf q.1)] at hl;injection hl
    | succ r=>rw[iZ,if_neg (fun q=>hf q.1)] at hl;injection hl
   have HL:=ah hl';clear hl hl' hf hlen;go_wp2_with (go_at_call 101;refine HO.out.mono ?_);rintro e w2 ⟨rfl,hq,hkq⟩;have K2:=K0.call hq hkq;clear hq hkq;go_wp2;go_ret;have e4:=HL.out;subst e4;exact⟨_,R,rfl,uM.out,K2⟩
end Go.Proofs.YtknicmmigbhpcaaGreatDoor
