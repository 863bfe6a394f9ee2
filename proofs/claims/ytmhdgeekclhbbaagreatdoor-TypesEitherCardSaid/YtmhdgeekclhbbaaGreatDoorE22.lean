/- Walks and plain laws, without a condition. -/
import Derived.Test.YtmhdgeekclhbbaaGreatDoorE21
set_option maxHeartbeats 16000000
set_option maxRecDepth 100000
set_option linter.unusedVariables false
set_option linter.unusedSimpArgs false
namespace Go.Proofs.YtmhdgeekclhbbaaGreatDoor
open Go.RowKit Go
variable{w:World}{ah:List Tok}{D:aH}{aj:List Nd}
def aeo (E:bH)(one:aN->Option (Int × aN))(res:List Int × aN)(w0:World)(kv nv:Value)(wr:World):Prop :=
 ∃ (r m:Nat) (aA:List Int) (s:aN) (R:List Nat),nv=.int .i64 (m:Nat)/\m+r=9/\aA.length+2 * r<=16/\bD E.ah one r aA s=some res /\
  wr.ownsRow w0.heap.size 3 1 kv aA.length (aA.map (Value.int .i64))/\(∀ b,kv.ownBlock=some b->b∈R)/\(∀ r∈E.R,r∈R)/\(aA=[]->kv=.slice none 0 0)/\PR E R s wr/\Kp E.B w0 wr/\s.aC=false
theorem UN (E:bH)(hE:E.ok)(one:aN->Option (Int × aN))(st:aN)(res:List Int × aN)(w:World)(h:jH E.ah one st=some res)(hp:PW E st w)(hn:res.2.aj.length+1<=1099511627776)
  (hcl:st.aC=false) (hext:∀ s k,one s=some k->dR s k.2)
  (hone:∀ (R:List Nat) (s:aN) (k:Int × aN) (w':World),s.aC=false->one s=some k->PR E R s w'->Kp E.B w w'->k.2.aj.length+1<=1099511627776 ->
   Calls Tryz.prog 165 #[.pointer (some ⟨E.pb,0,none⟩)] w' (eG { E with R:=R } k w')) :
  Calls Tryz.prog 164 #[.pointer (some ⟨E.pb,0,none⟩),.func (.func 165) #[.pointer (some ⟨E.pb,0,none⟩)] #[]] w (ZE E res w):=by
 have wV:=hE.2.2;obtain⟨i0,hi,hz0,hz1,hz2⟩:=info_parts Tryz.oC;unfold jH at h
 by_cases hx:bG E.ah st [[41]]=true
 ·rw[bq hx] at h
  injection h with h;subst h
  have HX:=ay (eD E hE ⟨#[41]⟩ st true hx);clear hx hone hext;go_enter Tryz.func164,Tryz.ntmps164;go_wp2_with (go_at_call 160;refine(HX.out w hp).mono ?_);rintro e w1 ⟨rfl,hp1,hk1⟩;go_wp2;go_ret;exact⟨_,rfl,⟨none,0,rfl,bI _,λq=>absurd q (by simp)⟩,λ_=>rfl,hp1,hk1⟩
 ·rw[aP hx] at h
  have HX:=ay (eD E hE ⟨#[41]⟩ st false (eq_false_of_ne_true hx));have H0:=ay h;have F6:=ay hone;have JQ:=ay hext;have HN:=ay hn;have HE:=ay hE;clear hx hone hext h hn;go_enter Tryz.func164,Tryz.ntmps164;go_wp2_with (go_at_call 160;refine(HX.out w hp).mono ?_);rintro e w1 ⟨rfl,hp1,hk1⟩;go_wp2
  go_loopw [5,6] (λkv nv wr=>aeo E one res w kv nv wr) (λ_ nv _=>10 - (intOf nv).toNat)
  case atStart=>exact⟨8,1,[],st,E.R,rfl,rfl,by simp,H0.out,World.ownsRow_nil _ _ _ _,λ_ q=>by simp[Value.ownBlock] at q,λ_ q=>q,λ_=>rfl,hp1,hk1,hcl⟩
  case round =>
   obtain⟨r,m,aA,s,R,rfl,hm,hkl,hl,hown,hR,hER,hnil,hps,hks,hsc⟩:=hrel;obtain⟨ao,cap,rfl⟩:=qE hown;have zl:=ay hnil;clear hnil;have hBw:E.B<=w.heap.size:=hp.fD
   by_cases hf:s.fE=0
   ·have HO:=ay (kU { E with R:=R } s hf)
    cases r with
    | zero =>
     obtain rfl:m=9:=by omega
     rw[bD,bq hf] at hl
     injection hl with hl
     have HF:=ay (λw hp=>nO { E with R:=R } HE.out 15 s w hp);have HL:=ay hl;clear hl hf;go_wp2_with (go_at_call 96;refine(HO.out _ hps).mono ?_);rintro e w2 ⟨rfl,hp2,hk2⟩;go_wp2_with (go_at_call 161;refine(HF.out _ hp2).mono ?_);rintro e w3 ⟨rfl,hp3,fM⟩;have lM:=iK (iK hown hk2) fM;go_wp2;go_ret;exact nQ lM hER hp3 ((hks.trans hk2).trans fM) HL.out zl.out
    | succ r =>
     rw[bD,aP (by simp[hf])] at hl;obtain⟨k,h1,hl⟩:=bS hl;have d8:decide (8<(m:Int))=false:=fu (by omega);have d8':decide (8<m)=false:=fu (by omega)
     have hnk:k.2.aj.length+1<=1099511627776:=by
      split at hl
      ·exact aO ((aQ _ _).trans (lZ _ one JQ.out _ _ _ _ hl)) HN.out
      ·injection hl with hl;rw[<- hl] at HN;exact HN.out
     have HCK:Hid (k.2.aC=false):=ay (by rw[(JQ.out s k h1).2.2.1];exact hsc);have HK:=ay (λw' hp hk=>F6.out R s k w' hsc h1 hp hk hnk);have HL:=ay hl;clear hl h1 hf;go_wp2_with (go_at_call 96;refine(HO.out _ hps).mono ?_);rintro e w2 ⟨rfl,hp2,hk2⟩;go_wp2_with (go_at_call 165;refine(HK.out _ hp2 (hks.trans hk2)).mono ?_);rintro e w3 ⟨rfl,hp3,fM⟩;have Sq:PR E R k.2 w3:=hp3;clear hp3;have lM:=iK (iK hown hk2) fM;have zT:PR E R k.2 (w3.alloc (.cells #[.int .i64 k.1] 3)):=PW.later Sq (aB w3 _);have hnw:=aZ w3 (.cells #[.int .i64 k.1] 3);have vU:Kp E.B w (w3.alloc (.cells #[.int .i64 k.1] 3)):=((hks.trans hk2).trans fM).trans (Kp.of (aB w3 _) Sq.fD);have oD:=lM.alloc (.cells #[.int .i64 k.1] 3);have afg:w.heap.size<=w3.heap.size:=((hks.trans hk2).trans fM).size;go_wp2_with (at_builtin;refine wpList_append_lies _ rfl _ _ 127 rfl w.heap.size 3 i0 (.int .i64 0) 1 8 Tryz.underlying127 hi hz0 hz1 hz2 rfl (by decide) _ _ _ rfl oD ⟨w3.heap.size,0,none⟩ 1 1 [.int .i64 k.1] rfl rfl ?c1 ?c2 ?c3 ?c4 ?c5 ?c6 _ rfl ?_)
     case c1=>exact wS (cs:=#[.int .i64 k.1]) (t:=3) (fr:=(0,0)) hnw
     case c2=>simp[Value.oneCell']
     case c3=>omega
     case c4=>unfold maxLen;omega
     case c5=>omega
     case c6=>simp;omega
     intro g cap4 w4 Bg zV ZG ZH;obtain⟨R4,hR4,hg4,rJ⟩:=zT.append oD hBw hR zV ZG (by simp) ZH;have hk4:=vU.grown oD (bI _) hBw zV
     have vV:w4.ownsRow w.heap.size 3 1 (.slice (some ⟨g,0,none⟩) (aA.length+1) cap4) (aA.length+1) ((aA++[k.1]).map (Value.int .i64)):=by rw[zJ];exact Bg
     have Mt:∀ r∈E.R,r∈R4:=λr hr=>hR4 r (hER r hr)
     clear zT hnw vU oD zV ZG ZH lM Bg hk2 fM hp2 Sq hown hps hks HO HK HX H0 F6 afg hR4
     by_cases Mh:k.2.fE=0
     ·have ZI:=ay (kU { E with R:=R4 } k.2 Mh)
      by_cases hx4:bG E.ah k.2 [[44]]=true
      ·have hl:=HL.out
       rw[bq ⟨Mh,hx4⟩] at hl;have HX4:=ay (eD { E with R:=R4 } HE.out ⟨#[44]⟩ k.2 true hx4);have HLF:=ay (λw hp=>cB { E with R:=R4 } k.2 w hp HE.out.1 HE.out.2.1 hnk);have HL2:=ay hl;clear hl HL Mh hx4;go_wp2_with (go_at_call 96;refine(ZI.out _ rJ).mono ?_);rintro e w5 ⟨rfl,vT,lu⟩;go_wp2_with (go_at_call 160;refine(HX4.out _ vT).mono ?_);rintro e w6 ⟨rfl,Gc,qY⟩;obtain⟨d0,_,_,_,_,_⟩:=Gc.cells;go_wp2_with (go_at_call 162;refine(HLF.out _ Gc).mono ?_);rintro e w7 ⟨rfl,JM,zk⟩;clear d0;have Sr:PR E R4 (aD E.ah k.2).2 w7:=JM;clear JM;have OQ:=iK (iK (iK vV lu) qY) zk;have Sv:=((hk4.trans lu).trans qY).trans zk;have zT:PR E R4 (aD E.ah k.2).2 (w7.alloc (.cells #[.int .i64 (aD E.ah k.2).1] 3)):=PW.later Sr (aB w7 _);have hnw:=aZ w7 (.cells #[.int .i64 (aD E.ah k.2).1] 3);have vU:Kp E.B w (w7.alloc (.cells #[.int .i64 (aD E.ah k.2).1] 3)):=Sv.trans (Kp.of (aB w7 _) Sr.fD);have oD:=OQ.alloc (.cells #[.int .i64 (aD E.ah k.2).1] 3);have agK:w.heap.size<=w7.heap.size:=Sv.size
       have hv4:∀ b,(Value.slice (some ⟨g,0,none⟩) (aA.length+1) cap4).ownBlock=some b->b∈R4:=λb hb=>by
        simp only[Value.ownBlock,Option.some.injEq] at hb;subst hb;exact hg4
       go_wp2_with (at_builtin;refine wpList_append_lies _ rfl _ _ 127 rfl w.heap.size 3 i0 (.int .i64 0) 1 8 Tryz.underlying127 hi hz0 hz1 hz2 rfl (by decide) _ _ _ rfl oD ⟨w7.heap.size,0,none⟩ 1 1 [.int .i64 (aD E.ah k.2).1] rfl rfl ?c1 ?c2 ?c3 ?c4 ?c5 ?c6 _ rfl ?_)
       case c1=>exact wS (cs:=#[.int .i64 (aD E.ah k.2).1]) (t:=3) (fr:=(0,0)) hnw
       case c2=>simp[Value.oneCell']
       case c3=>omega
       case c4=>unfold maxLen;omega
       case c5=>omega
       case c6=>simp;omega
       intro g8 Sw w8 xI pR Gf zW;obtain⟨R8,hR8,hg8,WJ⟩:=zT.append oD hBw hv4 pR Gf (by simp) zW;have EJ:=vU.grown oD (bI _) hBw pR
       have Sy:w8.ownsRow w.heap.size 3 1 (.slice (some ⟨g8,0,none⟩) (aA.length+1+1) Sw) (aA++[k.1,(aD E.ah k.2).1]).length ((aA++[k.1,(aD E.ah k.2).1]).map (Value.int .i64)):=by
        rw[zJ,bQ];exact xI
       have hv8:∀ b,(Value.slice (some ⟨g8,0,none⟩) (aA.length+1+1) Sw).ownBlock=some b->b∈R8:=λb hb=>by
        simp only[Value.ownBlock,Option.some.injEq] at hb;subst hb;exact hg8
       have afh:∀ r∈E.R,r∈R8:=λr hr=>hR8 r (Mt r hr)
       clear zT hnw vU oD pR Gf zW OQ xI Sv vV hk4 lu qY zk rJ vT Gc Sr ZI HX4 HLF hR8 hv4 Mt hg4;go_wp2
       go_roundw
       case rel=>exact⟨r,m+1,_,_,R8,by go_num,by omega,by simp;omega,HL2.out,Sy,hv8,afh,(λq=>by simp at q),WJ,EJ,by rw[(aQ E.ah k.2).2.2.1];exact HCK.out⟩
       case measure=>simp[intOf];omega
      ·have hl:=HL.out
       rw[aP (λq=>hx4 q.2)] at hl
       injection hl with hl
       have HX4:=ay (eD { E with R:=R4 } HE.out ⟨#[44]⟩ k.2 false (eq_false_of_ne_true hx4));have HL2:=ay hl;clear hl HL Mh hx4;go_wp2_with (go_at_call 96;refine(ZI.out _ rJ).mono ?_);rintro e w5 ⟨rfl,vT,lu⟩;go_wp2_with (go_at_call 160;refine(HX4.out _ vT).mono ?_);rintro e w6 ⟨rfl,Gc,qY⟩;have hown6:=iK (iK vV lu) qY;go_wp2;go_ret;exact nQ hown6 Mt Gc ((hk4.trans lu).trans qY) HL2.out (λq=>by simp at q)
     ·have hl:=HL.out
      rw[aP (λq=>Mh q.1)] at hl
      injection hl with hl
      have ZI:=ay (wM { E with R:=R4 } k.2 Mh);have HL2:=ay hl;clear hl HL Mh;go_wp2_with (go_at_call 96;refine(ZI.out _ rJ).mono ?_);rintro e w5 ⟨rfl,vT,lu⟩;have iW:=iK vV lu;go_wp2;go_ret;exact nQ iW Mt vT (hk4.trans lu) HL2.out (λq=>by simp at q)
   ·have HO:=ay (wM { E with R:=R } s hf)
    have hl':(aA,s)=res:=by
     cases r with
     | zero=>rw[bD,aP hf] at hl;injection hl
     | succ r=>rw[bD,bq hf] at hl;injection hl
    have HL:=ay hl';clear hl hl' hf;go_wp2_with (go_at_call 96;refine(HO.out _ hps).mono ?_);rintro e w2 ⟨rfl,hp2,hk2⟩;have hown2:=iK hown hk2;go_wp2;go_ret;exact nQ hown2 hER hp2 (hks.trans hk2) HL.out zl.out
theorem acX (E:bH)(hE:E.ok)(b c:ByteArray)(st:aN)(w:World)(h:PW E st w)(hn:st.aj.length+1<=1099511627776) :
  Calls Tryz.prog 163 #[.pointer (some ⟨E.pb,0,none⟩),.slice (some ⟨w.heap.size,0,none⟩) 2 2] (w.alloc (.cells #[.string b,.string c] 9)) (eG E (aM E.ah [b.data.toList,c.data.toList] st) w):=by
 have hA:=h.later (aB w (.cells #[.string b,.string c] 9));refine(OJ E hE _ _ st _ hA (OM w b c) (by simp) hn).mono ?_;rintro e w' ⟨rfl,hp,hk⟩;exact⟨rfl,hp,(Kp.of (aB w _) h.fD).trans hk⟩
theorem NS (E:bH)(hE:E.ok)(st:aN)(w:World)(hp:PW E st w)(hn:(jN E.ah st).2.aj.length+1<=1099511627776) :
  Calls Tryz.prog 99 #[.pointer (some ⟨E.pb,0,none⟩)] w (eG E (jN E.ah st) w):=by
 unfold jN at hn |-;have n3:=aO (aI _ _ _) hn;have n2:=aO (aK _ _ _) n3;have n1:=aO (eu _ _ _) n2;have n0:=aO (aQ _ _) n1;have HL:=ay (cB E st w hp hE.1 hE.2.1 n0);have HK:=ay (λw hp=>uS E hE 1 (aD E.ah st).2 w hp n1);have HM:=ay (λw hp=>eO E hE ⟨#[59]⟩ (bC E.ah 1 (aD E.ah st).2).2 w hp n2);have HN:=ay (λw hp=>jo E 2 [(aD E.ah st).1,(bC E.ah 1 (aD E.ah st).2).1,(aM E.ah [[59]] (bC E.ah 1 (aD E.ah st).2).2).1] 3 _ (aM E.ah [[59]] (bC E.ah 1 (aD E.ah st).2).2).2 w hp rfl rfl (by omega) n3);clear n0 n1 n2 n3 hn;obtain⟨d0,_,_,_,_,_⟩:=hp.cells;go_enter Tryz.func99,Tryz.ntmps99;go_wp2_with (go_at_call 162;refine HL.out.mono ?_);rintro e w1 ⟨rfl,hp1,hk1⟩;clear d0;go_wp2_with (go_at_call 102;refine(HK.out _ hp1).mono ?_);rintro e w2 ⟨rfl,hp2,hk2⟩;go_wp2_with (go_at_call 163;refine(HM.out _ hp2).mono ?_);rintro e w3 ⟨rfl,hp3,fM⟩;go_wp2_with (go_at_call 101;refine(HN.out _ hp3).mono ?_);rintro e w4 ⟨rfl,rJ,hk4⟩;go_wp2;go_ret;exact⟨rfl,rJ,((hk1.trans hk2).trans fM).trans hk4⟩
def agm (E:bH)(W0:World)(r:List Int × aN)(e:Ending)(w':World):Prop:=∃ v R,e=.returned v/\jT E W0 R v r.1 r.2 w'
theorem LU (E:bH)(hE:E.ok)(g:Nat)(W0:World)(R:List Nat)(v:Value)(ks:List Int)(st:aN)(r:List Int × aN)(w:World)(h:gL E.ah E.depth g ks st=some r)(K0:jT E W0 R v ks st w)(hB:E.B<=W0.heap.size)(hn:r.2.aj.length+1<=1099511627776)(hcl:st.aC=false)(hks:ks.length<=1000000) :
  Calls Tryz.prog 166 #[.pointer (some ⟨E.pb,0,none⟩),v] w (agm E W0 r):=by
 have wV:=hE.2.2;obtain⟨i0,hi,hz0,hz1,hz2⟩:=info_parts Tryz.oC
 have n3:(dS E.ah st).2.aj.length+1<=1099511627776:=by
  unfold gL at h
  split at h
  ·obtain⟨n,h1,h⟩:=bS h
   obtain rfl:=kE h;exact aO (Ea h1) hn
  ·obtain rfl:=kE h
   exact hn
 have n2:(pX E.ah st).2.aj.length+1<=1099511627776:=aO (aI _ _ _) n3;have n1:(jC E.ah st).2.aj.length+1<=1099511627776:=aO (aK _ _ _) n2;have n0:=aO (aK E.ah [[58]] st) n1
 have hc3:(dS E.ah st).2.aC=false:=by rw[(CS E.ah st).2.2.1];exact hcl
 obtain⟨ao,cap,rfl⟩:=qE K0.1;have HM1:=ay (eO { E with R:=R } hE ⟨#[58]⟩ st w K0.2.2.2.1 n0);have TJ:=ay (λR w hp=>acX { E with R:=R } hE ⟨#[105,110,116]⟩ ⟨#[98,111,111,108]⟩ (jC E.ah st).2 w hp n1);have HM3:=ay (λR w hp=>jo { E with R:=R } 5 [(pX E.ah st).1] 1 _ (pX E.ah st).2 w hp rfl rfl (by omega) n2);have H0:=ay h;have HN:=ay hn;clear n0 n1 n2 h hn;go_enter Tryz.func166,Tryz.ntmps166;go_wp2_with (go_at_call 163;refine HM1.out.mono ?_);rintro e w1 ⟨rfl,hq,dI⟩;have K1:=K0.call hq dI;clear hq dI HM1;have hL:=K1.lit (.cells #[.int .i64 (jC E.ah st).1] 3);have hnw:=aZ w1 (.cells #[.int .i64 (jC E.ah st).1] 3);go_wp2_with (at_builtin;refine wpList_append_lies _ rfl _ _ 127 rfl W0.heap.size 3 i0 (.int .i64 0) 1 8 Tryz.underlying127 hi hz0 hz1 hz2 rfl (by decide) _ (ks.length) _ rfl (hL.row (rfl:ks.length=ks.length)) ⟨w1.heap.size,0,none⟩ 1 1 [.int .i64 (jC E.ah st).1] rfl rfl ?c1 ?c2 ?c3 ?c4 ?c5 ?c6 _ rfl ?_)
 case c1=>exact wS (cs:=#[.int .i64 (jC E.ah st).1]) (t:=3) (fr:=(0,0)) hnw
 case c2=>simp[Value.oneCell']
 case c3=>omega
 case c4=>unfold maxLen;omega
 case c5=>omega
 case c6=>exact hL.2.2.2.2.size
 intro g2 cap2 w2 hown hgrow hat hlt;obtain⟨R2,K2⟩:=hL.app (news:=[(jC E.ah st).1]) (n:=ks.length+1) hB (by rw[bQ,(rfl:ks.length=ks.length)];rfl) hown hgrow hat (by simp) hlt;clear hL hnw hown hgrow hat hlt;generalize hkk:ks++[(jC E.ah st).1]=kk2 at K2;have HL2:Hid (kk2.length=ks.length+1):=ay (by rw[<- hkk,bQ,(rfl:ks.length=ks.length)];rfl);have HK2:=ay hkk;clear hkk;have HM:=ay (TJ.out R2 _ K2.2.2.2.1);clear TJ K1 K0;go_wp2_with (go_at_call 163;refine HM.out.mono ?_);rintro e w3 ⟨rfl,hq,dI⟩;have K3:=K2.call hq dI;clear hq dI HM;have HM:=ay (HM3.out R2 _ K3.2.2.2.1);clear HM3 K2;go_wp2_with (go_at_call 101;refine HM.out.mono ?_);rintro e w4 ⟨rfl,hq,dI⟩;have K4:=K3.call hq dI;clear hq dI HM;clear K3;have hL:=K4.lit (.cells #[.int .i64 (dS E.ah st).1] 3);have hnw:=aZ w4 (.cells #[.int .i64 (dS E.ah st).1] 3);go_wp2_with (at_builtin;refine wpList_append_lies _ rfl _ _ 127 rfl W0.heap.size 3 i0 (.int .i64 0) 1 8 Tryz.underlying127 hi hz0 hz1 hz2 rfl (by decide) _ (ks.length+1) _ rfl (hL.row HL2.out) ⟨w4.heap.size,0,none⟩ 1 1 [.int .i64 (dS E.ah st).1] rfl rfl ?c1 ?c2 ?c3 ?c4 ?c5 ?c6 _ rfl ?_)
 case c1=>exact wS (cs:=#[.int .i64 (dS E.ah st).1]) (t:=3) (fr:=(0,0)) hnw
 case c2=>simp[Value.oneCell']
 case c3=>omega
 case c4=>unfold maxLen;omega
 case c5=>omega
 case c6=>exact hL.2.2.2.2.size
 intro g5 oV w5 hown hgrow hat hlt;obtain⟨R5,K5⟩:=hL.app (news:=[(dS E.ah st).1]) (n:=ks.length+1+1) hB (by rw[bQ,HL2.out];rfl) hown hgrow hat (by simp) hlt;clear hL hnw hown hgrow hat hlt;generalize hkk:kk2++[(dS E.ah st).1]=kk5 at K5;have Yl:Hid (kk5.length=ks.length+1+1):=ay (by rw[<- hkk,bQ,HL2.out];rfl);have HK5:=ay hkk;clear hkk;clear K4;have H5:Hid (kk5=ks++[(jC E.ah st).1,(dS E.ah st).1]):=ay (by rw[<- HK5.out,<- HK2.out];simp)
 by_cases hf:(dS E.ah st).2.fE=0
 ·have HO:=ay (kU { E with R:=R5 } (dS E.ah st).2 hf _ K5.2.2.2.1)
  by_cases hx:bG E.ah (dS E.ah st).2 [[123]]=true
  ·have h:=H0.out
   unfold gL at h;rw[bq ⟨hf,hx⟩] at h;obtain⟨n,h1,h⟩:=bS h;obtain rfl:=kE h;have hn:=HN.out;unfold iR at h1;obtain⟨f,h2,h1⟩:=bS h1;obtain rfl:=kE h1;rw[hc3] at hn;have m3:=aO (aI _ _ _) hn;have m2':(lC f.2 false).aj.length+1<=1099511627776:=aO (aK E.ah [[125]] (lC f.2 false)) m3;have m2:f.2.aj.length+1<=1099511627776:=m2';have m1':(lC (aD E.ah (dS E.ah st).2).2 true).aj.length+1<=1099511627776:=aO (aW _ _ _ _ _ _ h2) m2;have m1:(aD E.ah (dS E.ah st).2).2.aj.length+1<=1099511627776:=m1';have HX:=ay (λw hp=>eD { E with R:=R5 } hE ⟨#[123]⟩ (dS E.ah st).2 true hx w hp);have HLf:=ay (λw hp=>cB { E with R:=R5 } (dS E.ah st).2 w hp hE.1 hE.2.1 n3);have HEx:=ay (λw hp=>allT { E with R:=R5 } hE g (.expr 1) (lC (aD E.ah (dS E.ah st).2).2 true) f w h2 hp m2 (by show 1<=_;omega));have HMu:=ay (λw hp=>eO { E with R:=R5 } hE ⟨#[125]⟩ (lC f.2 false) w hp m2);have YX:=ay (λw hp=>jo { E with R:=R5 } 6 [(aD E.ah (dS E.ah st).2).1,f.1,(aM E.ah [[125]] (lC f.2 false)).1] 3 _ (aM E.ah [[125]] (lC f.2 false)).2 w hp rfl rfl (by omega) m3);clear h2 hn m1 m2 m1' m2' m3 n3 hf hx H0 HN;go_wp2_with (go_at_call 96;refine HO.out.mono ?_);rintro e w6 ⟨rfl,hq,dI⟩;have K6:=K5.call hq dI;clear hq dI HO K5;go_wp2_with (go_at_call 160;refine(HX.out _ K6.2.2.2.1).mono ?_);rintro e w7 ⟨rfl,hq,dI⟩;have K7:=K6.call hq dI;clear hq dI HX K6;obtain⟨d0,_,_,_,_,_⟩:=PW.cells K7.2.2.2.1;go_wp2_with (go_at_call 162;refine(HLf.out _ K7.2.2.2.1).mono ?_);rintro e w8 ⟨rfl,hq,dI⟩;have K8:=K7.call hq dI;clear hq dI HLf K7 d0;obtain⟨hm8,ahW⟩:=PW.mark K8.2.2.2.1 true;have hz8:w8.frozen? ⟨E.pb,2,none⟩=false:=(PW.cells K8.2.2.2.1).2.2.2.2.2 2;have c8:=(PW.cells K8.2.2.2.1).2.2.1;have K9:=K8.call hm8 ahW;have HEY:=ay (HEx.out _ K9.2.2.2.1);clear hm8 ahW HEx K8;go_wp2_with (go_at_call 167;refine HEY.out.mono ?_)
   rintro e nP ⟨rfl,hq,dI⟩;have Ky:=K9.call hq dI;clear hq dI HEY K9 hz8 c8;obtain⟨ahX,aeR⟩:=PW.mark Ky.2.2.2.1 false;have afD:nP.frozen? ⟨E.pb,2,none⟩=false:=(PW.cells Ky.2.2.2.1).2.2.2.2.2 2;have c10:=(PW.cells Ky.2.2.2.1).2.2.1;have CK:=Ky.call ahX aeR;have hMV:=HMu.out _ CK.2.2.2.1;rw[show (nP.setCell ⟨E.pb,2,none⟩ (.bool false)).heap.size=nP.heap.size by simp] at hMV;have HMV:=ay hMV;clear hMV;clear ahX aeR HMu Ky;go_wp2_with (go_at_call 163;refine HMV.out.mono ?_);rintro e w12 ⟨rfl,hq,dI⟩;have Ct:=CK.call hq dI;clear hq dI HMV CK afD c10;have HNV:=ay (YX.out _ Ct.2.2.2.1);clear YX;go_wp2_with (go_at_call 101;refine HNV.out.mono ?_);rintro e w13 ⟨rfl,hq,dI⟩;have EL:=Ct.call hq dI;clear hq dI HNV Ct;have hL:=EL.lit (.cells #[.int .i64 (bM 6 [(aD E.ah (dS E.ah st).2).1,f.1,(aM E.ah [[125]] (lC f.2 false)).1] (aM E.ah [[125]] (lC f.2 false)).2).1] 3);have hnw:=aZ w13 (.cells #[.int .i64 (bM 6 [(aD E.ah (dS E.ah st).2).1,f.1,(aM E.ah [[125]] (lC f.2 false)).1] (aM E.ah [[125]] (lC f.2 false)).2).1] 3);go_wp2_with (at_builtin;refine wpList_append_lies _ rfl _ _ 127 rfl W0.heap.size 3 i0 (.int .i64 0) 1 8 Tryz.underlying127 hi hz0 hz1 hz2 rfl (by decide) _ (ks.length+1+1) _ rfl (hL.row Yl.out) ⟨w13.heap.size,0,none⟩ 1 1 [.int .i64 (bM 6 [(aD E.ah (dS E.ah st).2).1,f.1,(aM E.ah [[125]] (lC f.2 false)).1] (aM E.ah [[125]] (lC f.2 false)).2).1] rfl rfl ?c1 ?c2 ?c3 ?c4 ?c5 ?c6 _ rfl ?_)
   case c1=>exact wS (cs:=#[.int .i64 (bM 6 [(aD E.ah (dS E.ah st).2).1,f.1,(aM E.ah [[125]] (lC f.2 false)).1] (aM E.ah [[125]] (lC f.2 false)).2).1]) (t:=3) (fr:=(0,0)) hnw
   case c2=>simp[Value.oneCell']
   case c3=>omega
   case c4=>unfold maxLen;omega
   case c5=>omega
   case c6=>exact hL.2.2.2.2.size
   intro g14 ahY w14 hown hgrow hat hlt;obtain⟨R14,K14⟩:=hL.app (news:=[(bM 6 [(aD E.ah (dS E.ah st).2).1,f.1,(aM E.ah [[125]] (lC f.2 false)).1] (aM E.ah [[125]] (lC f.2 false)).2).1]) (n:=ks.length+1+1+1) hB (by rw[bQ,Yl.out];rfl) hown hgrow hat (by simp) hlt;clear hL hnw hown hgrow hat hlt;generalize hkk:kk5++[(bM 6 [(aD E.ah (dS E.ah st).2).1,f.1,(aM E.ah [[125]] (lC f.2 false)).1] (aM E.ah [[125]] (lC f.2 false)).2).1]=ajm at K14;have akl:Hid (ajm.length=ks.length+1+1+1):=ay (by rw[<- hkk,bQ,Yl.out];rfl);have ajn:=ay hkk;clear hkk;go_wp2;go_ret;have e14:=K14;rw[<- ajn.out,H5.out] at e14;simp only[om,kF,qW] at e14;refine⟨.slice (some ⟨g14,0,none⟩) (ks.length+1+1+1) ahY,R14,rfl,?_⟩;rw[hc3];exact e14
  ·have h:=H0.out
   unfold gL at h;rw[aP (λq=>hx q.2)] at h;obtain rfl:=kE h;have HX:=ay (λw hp=>eD { E with R:=R5 } hE ⟨#[123]⟩ (dS E.ah st).2 false (eq_false_of_ne_true hx) w hp);clear n3 hf hx H0 HN;go_wp2_with (go_at_call 96;refine HO.out.mono ?_);rintro e w6 ⟨rfl,hq,dI⟩;have K6:=K5.call hq dI;clear hq dI HO K5;go_wp2_with (go_at_call 160;refine(HX.out _ K6.2.2.2.1).mono ?_);rintro e w7 ⟨rfl,hq,dI⟩;have K7:=K6.call hq dI;clear hq dI HX K6;go_wp2;go_ret;rw[H5.out] at K7;exact⟨_,R5,rfl,K7⟩
 ·have h:=H0.out
  unfold gL at h;rw[aP (λq=>hf q.1)] at h;obtain rfl:=kE h;have HO:=ay (wM { E with R:=R5 } (dS E.ah st).2 hf _ K5.2.2.2.1);clear n3 hf H0 HN;go_wp2_with (go_at_call 96;refine HO.out.mono ?_);rintro e w6 ⟨rfl,hq,dI⟩;have K6:=K5.call hq dI;clear hq dI HO K5;go_wp2;go_ret;rw[H5.out] at K6;exact⟨_,R5,rfl,K6⟩
theorem YF (E:bH)(hE:E.ok)(g:Nat)(st:aN)(r:Int × aN)(w:World)(h:iN E.ah E.depth g st=some r)(hp:PW E st w)(hn:r.2.aj.length+1<=1099511627776)(hcl:st.aC=false) :
  Calls Tryz.prog 165 #[.pointer (some ⟨E.pb,0,none⟩)] w (eG E r w):=by
 unfold iN at h;obtain⟨l,h1,h⟩:=bS h;obtain rfl:=kE h;have n2:=aO (aI _ _ _) hn;have n1:=aO (iO h1) n2;have n0:=aO (eu _ _ _) n1
 have hll:l.1.length<=4:=by
  unfold gL at h1
  split at h1
  ·obtain⟨n,h2,h1⟩:=bS h1
   obtain rfl:=kE h1
   simp
  ·obtain rfl:=kE h1
   simp
 have HK:=ay (uS E hE 1 st w hp n0)
 have hc1:(bC E.ah 1 st).2.aC=false:=by rw[(eu E.ah 1 st).2.2.1];exact hcl
 have HB:E.B<=w.heap.size:=hp.fD;have HT:=ay (λW R v K=>LU E hE g w R v _ _ l W h1 K HB n2 hc1 (by simp));have HN:=ay (λR w v hq hv=>l7 { E with R:=R } 4 v l.1 l.2 w hq hv (by omega) n2);clear n0 n1 n2 hn h1 h hc1;go_enter Tryz.func165,Tryz.ntmps165;go_wp2_with (go_at_call 102;refine HK.out.mono ?_);rintro e w1 ⟨rfl,hp1,hk1⟩;have K1:=jT.start (W0:=w) (bC E.ah 1 st).1 hp1 hk1;have HTy:=ay (HT.out _ _ _ K1);clear HT hp1 hk1 K1 HK;go_wp2_with (go_at_call 166;refine HTy.out.mono ?_);rintro e w2 ⟨v,R2,rfl,K2⟩;have YX:=ay (HN.out R2 _ v K2.2.2.2.1 K2.node);clear HN HTy;obtain⟨ao,cap,rfl⟩:=qE K2.1;go_wp2_with (go_at_call 101;refine YX.out.mono ?_);rintro e w3 ⟨rfl,hq,dI⟩;have K3:=K2.call hq dI;go_wp2;go_ret;exact⟨rfl,PR.drop K3.2.2.2.1 K3.2.2.1,K3.2.2.2.2⟩
def slN:Value->Nat | .slice _ n _=>n|_=>0
theorem jT.lift {E:bH}{W0 W1:World}{R:List Nat}{v:Value}{ks:List Int}{s:aN}(h:jT E W1 R v ks s w)(hk:Kp E.B W0 W1):jT E W0 R v ks s w:=by
 obtain⟨h1,h2,h3,h4,h5⟩:=h;refine⟨⟨h1.1,?_⟩,h2,h3,h4,hk.trans h5⟩
 rcases h1.2 with hn|⟨g,cap,cur,hv,hg,hr⟩
 ·exact .inl hn
 ·exact .inr ⟨g,cap,cur,hv,iY hk.size hg,hr⟩
theorem jT.none {E:bH}{w:World}{s:aN}(hp:PW E s w):jT E w E.R (.slice none 0 0) [] s w:=⟨World.ownsRow_nil _ _ _ _,λb q=>by simp[Value.ownBlock] at q,λ_ q=>q,hp,Kp.refl _ _⟩
theorem FB (E:bH)(hE:E.ok)(v:Value)(l:List aH)(st:aN)(x:Bool)(hx:bG E.ah st l=x)(w:World)(hp:PW E st w)(hv:mX w v l)(hl:l.length<=1000) :
  Calls Tryz.prog 160 #[.pointer (some ⟨E.pb,0,none⟩),v] w (uT E st x w):=by
 subst hx
 exact(xD E v l st w hp hv hE.1 hE.2.1 hl).mono λe w' ⟨he,hb⟩=>⟨he,hp.later hb,Kp.of hb hp.fD⟩
def aeS (E:bH)(one:aN->Option (Int × aN))(first:List aH)(most:Nat)(res:List Int × aN)(w0:World)(kv:Value)(wr:World):Prop :=
 ∃ (r:Nat) (aA:List Int) (s:aN) (R:List Nat),aA.length+r=most/\jD E.ah one first r aA s=some res/\jT E w0 R kv aA s wr/\s.aC=false/\(aA=[]->kv=.slice none 0 0)
def acY (E:bH)(W0:World)(r:List Int × aN)(e:Ending)(w':World):Prop:=∃ v R,e=.returned v/\(r.1=[]->v=.slice none 0 0)/\jT E W0 R v r.1 r.2 w'
theorem E8 (E:bH)(hE:E.ok)(one:aN->Option (Int × aN))(first:List aH)(fa:Option Addr)(fc:Nat)(most:Nat)(hm:most<=1000)(st:aN)(res:List Int × aN)(w:World)(h:jD E.ah one first most [] st=some res)(hp:PW E st w)(hn:res.2.aj.length+1<=1099511627776)(hcl:st.aC=false)
  (hF:∀ wr,Kp E.B w wr->mX wr (.slice fa first.length fc) first) (hfl:first.length<=1000) (hext:∀ s k,one s=some k->dR s k.2)
  (hone:∀ (R:List Nat) (s:aN) (k:Int × aN) (w':World),s.aC=false->one s=some k->PR E R s w'->k.2.aj.length+1<=1099511627776 ->
   Calls Tryz.prog 99 #[.pointer (some ⟨E.pb,0,none⟩)] w' (eG { E with R:=R } k w')) :
  Calls Tryz.prog 98 #[.pointer (some ⟨E.pb,0,none⟩),.int .i64 most,.func (.func 99) #[.pointer (some ⟨E.pb,0,none⟩)] #[],.slice fa first.length fc] w (acY E w res):=by
 obtain⟨i0,hi,hz0,hz1,hz2⟩:=info_parts Tryz.oC;have H0:=ay h;have F6:=ay hone;have JQ:=ay hext;have HN:=ay hn;have HE:=ay hE;have HF:=ay hF;have HFL:=ay hfl;have HM:=ay hm;clear hone hext h hn hF hE hfl hm;go_enter Tryz.func98,Tryz.ntmps98;go_wp2
 go_loopw [9] (λkv wr=>aeS E one first most res w kv wr) (λkv _=>most - slN kv)
 case atStart=>exact⟨most,[],st,E.R,by simp,H0.out,jT.none hp,hcl,λ_=>rfl⟩
 case round =>
  obtain⟨r,aA,s,R,hlen,hl,K0,hsc,hnil⟩:=hrel;have zl:=ay hnil;clear hnil;obtain⟨ao,cap,rfl⟩:=qE K0.1;have hBw:E.B<=w.heap.size:=hp.fD;have hm:=HM.out
  by_cases hf:s.fE=0
  ·have HO:=ay (kU { E with R:=R } s hf _ K0.2.2.2.1)
   by_cases hx:bG E.ah s first=true
   ·have HX:=ay (λw hp hv=>FB { E with R:=R } HE.out (.slice fa first.length fc) first s true hx w hp hv HFL.out)
    cases r with
    | zero =>
     rw[jD,bq ⟨hf,hx⟩] at hl
     injection hl with hl
     have VP:=ay (λw hp=>nO { E with R:=R } HE.out 15 s w hp);have HL:=ay hl
     have hkb:((aA.length:Int) == (most:Int))=true:=by rw[beq_iff_eq];omega
     have hkn:(aA.length == most)=true:=by rw[beq_iff_eq];omega
     clear hl hf hx hlen;go_wp2_with (go_at_call 96;refine HO.out.mono ?_);rintro e w2 ⟨rfl,hq,dI⟩;have K2:=K0.call hq dI;clear hq dI;go_wp2_with (go_at_call 160;refine(HX.out _ K2.2.2.2.1 (HF.out _ K2.2.2.2.2)).mono ?_);rintro e w3 ⟨rfl,hq,dI⟩;have K3:=K2.call hq dI;clear hq dI;go_wp2_with (go_at_call 161;refine(VP.out _ K3.2.2.2.1).mono ?_);rintro e w4 ⟨rfl,hq,dI⟩;have K4:=K3.call hq dI;clear hq dI;go_wp2;go_ret;have e4:=HL.out;subst e4;exact⟨_,R,rfl,zl.out,K4⟩
    | succ r =>
     rw[jD,bq ⟨hf,hx⟩] at hl;obtain⟨k,h1,hl⟩:=bS hl;have hnk:k.2.aj.length+1<=1099511627776:=aO (mK JQ.out _ _ _ _ hl) HN.out;have HCK:Hid (k.2.aC=false):=ay (by rw[(JQ.out s k h1).2.2.1];exact hsc);have HK:=ay (λw' hp=>F6.out R s k w' hsc h1 hp hnk);have HL:=ay hl
     have hkb:((aA.length:Int) == (most:Int))=false:=by rw[<- wT,beq_iff_eq];omega
     have hkn:(aA.length == most)=false:=by rw[<- wT,beq_iff_eq];omega
     have HLEN:=ay hlen
     have hkl:aA.length<=1000:=by omega
     clear hl h1 hf hx hlen hnk;go_wp2_with (go_at_call 96;refine HO.out.mono ?_);rintro e w2 ⟨rfl,hq,dI⟩;have K2:=K0.call hq dI;clear hq dI;go_wp2_with (go_at_call 160;refine(HX.out _ K2.2.2.2.1 (HF.out _ K2.2.2.2.2)).mono ?_);rintro e w3 ⟨rfl,hq,dI⟩;have K3:=K2.call hq dI;clear hq dI K2 K0;go_wp2_with (go_at_call 99;refine(HK.out _ K3.2.2.2.1).mono ?_);rintro e w4 ⟨rfl,hq,dI⟩;have K4:=K3.call hq dI;clear hq dI K3;have hL:=K4.lit (.cells #[.int .i64 k.1] 3);have hnw:=aZ w4 (.cells #[.int .i64 k.1] 3);go_wp2_with (at_builtin;refine wpList_append_lies _ rfl _ _ 127 rfl w.heap.size 3 i0 (.int .i64 0) 1 8 Tryz.underlying127 hi hz0 hz1 hz2 rfl (by decide) _ (aA.length) _ rfl hL.1 ⟨w4.heap.size,0,none⟩ 1 1 [.int .i64 k.1] rfl rfl ?c1 ?c2 ?c3 ?c4 ?c5 ?c6 _ rfl ?_)
     case c1=>exact wS (cs:=#[.int .i64 k.1]) (t:=3) (fr:=(0,0)) hnw
     case c2=>simp[Value.oneCell']
     case c3=>omega
     case c4=>unfold maxLen;omega
     case c5=>omega
     case c6=>exact hL.2.2.2.2.size
     intro g5 oV w5 hown hgrow hat hlt;obtain⟨R5,K5⟩:=hL.app (news:=[k.1]) hBw (by simp) hown hgrow hat (by simp) hlt;clear hL hnw hown hgrow hat hlt K4;go_wp2
     go_roundw
     case rel=>exact⟨r,aA++[k.1],k.2,R5,by have:=HLEN.out;simp;omega,HL.out,K5,HCK.out,λq=>by simp at q⟩
     case measure=>have:=HLEN.out;simp[slN];omega
   ·have hl':(aA,s)=res:=by
     cases r with
     | zero=>rw[jD,aP (λq=>hx q.2)] at hl;injection hl
     | succ r=>rw[jD,aP (λq=>hx q.2)] at hl;injection hl
    have HX:=ay (λw hp hv=>FB { E with R:=R } HE.out (.slice fa first.length fc) first s false (eq_false_of_ne_true hx) w hp hv HFL.out);have HL:=ay hl';clear hl hl' hf hx hlen;go_wp2_with (go_at_call 96;refine HO.out.mono ?_);rintro e w2 ⟨rfl,hq,dI⟩;have K2:=K0.call hq dI;clear hq dI;go_wp2_with (go_at_call 160;refine(HX.out _ K2.2.2.2.1 (HF.out _ K2.2.2.2.2)).mono ?_);rintro e w3 ⟨rfl,hq,dI⟩;have K3:=K2.call hq dI;clear hq dI;go_wp2;go_ret;have e4:=HL.out;subst e4;exact⟨_,R,rfl,zl.out,K3⟩
  ·have HO:=ay (wM { E with R:=R } s hf _ K0.2.2.2.1)
   have hl':(aA,s)=res:=by
    cases r with
    | zero=>rw[jD,aP (λq=>hf q.1)] at hl;injection hl
    | succ r=>rw[jD,aP (λq=>hf q.1)] at hl;injection hl
   have HL:=ay hl';clear hl hl' hf hlen;go_wp2_with (go_at_call 96;refine HO.out.mono ?_);rintro e w2 ⟨rfl,hq,dI⟩;have K2:=K0.call hq dI;clear hq dI;go_wp2;go_ret;have e4:=HL.out;subst e4;exact⟨_,R,rfl,zl.out,K2⟩
theorem NT (E:bH)(hE:E.ok)(one:aN->Option (Int × aN))(first:List aH)(fa:Option Addr)(fc:Nat)(most:Nat)(hm:most<=1000)(st:aN)(res:List Int × aN)(w:World)(h:jD E.ah one first most [] st=some res)(hp:PW E st w)(hn:res.2.aj.length+1<=1099511627776)(hcl:st.aC=false)
  (hF:∀ wr,Kp E.B w wr->mX wr (.slice fa first.length fc) first) (hfl:first.length<=1000) (hext:∀ s k,one s=some k->dR s k.2)
  (hone:∀ (R:List Nat) (s:aN) (k:Int × aN) (w':World),s.aC=false->one s=some k->PR E R s w'->k.2.aj.length+1<=1099511627776 ->
   Calls Tryz.prog 100 #[.pointer (some ⟨E.pb,0,none⟩)] w' (eG { E with R:=R } k w')) :
  Calls Tryz.prog 98 #[.pointer (some ⟨E.pb,0,none⟩),.int .i64 most,.func (.func 100) #[.pointer (some ⟨E.pb,0,none⟩)] #[],.slice fa first.length fc] w (acY E w res):=by
 obtain⟨i0,hi,hz0,hz1,hz2⟩:=info_parts Tryz.oC;have H0:=ay h;have F6:=ay hone;have JQ:=ay hext;have HN:=ay hn;have HE:=ay hE;have HF:=ay hF;have HFL:=ay hfl;have HM:=ay hm;clear hone hext h hn hF hE hfl hm;go_enter Tryz.func98,Tryz.ntmps98;go_wp2
 go_loopw [9] (λkv wr=>aeS E one first most res w kv wr) (λkv _=>most - slN kv)
 case atStart=>exact⟨most,[],st,E.R,by simp,H0.out,jT.none hp,hcl,λ_=>rfl⟩
 case round =>
  obtain⟨r,aA,s,R,hlen,hl,K0,hsc,hnil⟩:=hrel;have zl:=ay hnil;clear hnil;obtain⟨ao,cap,rfl⟩:=qE K0.1;have hBw:E.B<=w.heap.size:=hp.fD;have hm:=HM.out
  by_cases hf:s.fE=0
  ·have HO:=ay (kU { E with R:=R } s hf _ K0.2.2.2.1)
   by_cases hx:bG E.ah s first=true
   ·have HX:=ay (λw hp hv=>FB { E with R:=R } HE.out (.slice fa first.length fc) first s true hx w hp hv HFL.out)
    cases r with
    | zero =>
     rw[jD,bq ⟨hf,hx⟩] at hl
     injection hl with hl
     have VP:=ay (λw hp=>nO { E with R:=R } HE.out 15 s w hp);have HL:=ay hl
     have hkb:((aA.length:Int) == (most:Int))=true:=by rw[beq_iff_eq];omega
     have hkn:(aA.length == most)=true:=by rw[beq_iff_eq];omega
     clear hl hf hx hlen;go_wp2_with (go_at_call 96;refine HO.out.mono ?_);rintro e w2 ⟨rfl,hq,dI⟩;have K2:=K0.call hq dI;clear hq dI;go_wp2_with (go_at_call 160;refine(HX.out _ K2.2.2.2.1 (HF.out _ K2.2.2.2.2)).mono ?_);rintro e w3 ⟨rfl,hq,dI⟩;have K3:=K2.call hq dI;clear hq dI;go_wp2_with (go_at_call 161;refine(VP.out _ K3.2.2.2.1).mono ?_);rintro e w4 ⟨rfl,hq,dI⟩;have K4:=K3.call hq dI;clear hq dI;go_wp2;go_ret;have e4:=HL.out;subst e4;exact⟨_,R,rfl,zl.out,K4⟩
    | succ r =>
     rw[jD,bq ⟨hf,hx⟩] at hl;obtain⟨k,h1,hl⟩:=bS hl;have hnk:k.2.aj.length+1<=1099511627776:=aO (mK JQ.out _ _ _ _ hl) HN.out;have HCK:Hid (k.2.aC=false):=ay (by rw[(JQ.out s k h1).2.2.1];exact hsc);have HK:=ay (λw' hp=>F6.out R s k w' hsc h1 hp hnk);have HL:=ay hl
     have hkb:((aA.length:Int) == (most:Int))=false:=by rw[<- wT,beq_iff_eq];omega
     have hkn:(aA.length == most)=false:=by rw[<- wT,beq_iff_eq];omega
     have HLEN:=ay hlen
     have hkl:aA.length<=1000:=by omega
     clear hl h1 hf hx hlen hnk;go_wp2_with (go_at_call 96;refine HO.out.mono ?_);rintro e w2 ⟨rfl,hq,dI⟩;have K2:=K0.call hq dI;clear hq dI;go_wp2_with (go_at_call 160;refine(HX.out _ K2.2.2.2.1 (HF.out _ K2.2.2.2.2)).mono ?_);rintro e w3 ⟨rfl,hq,dI⟩;have K3:=K2.call hq dI;clear hq dI K2 K0;go_wp2_with (go_at_call 100;refine(HK.out _ K3.2.2.2.1).mono ?_);rintro e w4 ⟨rfl,hq,dI⟩;have K4:=K3.call hq dI;clear hq dI K3;have hL:=K4.lit (.cells #[.int .i64 k.1] 3);have hnw:=aZ w4 (.cells #[.int .i64 k.1] 3);go_wp2_with (at_builtin;refine wpList_append_lies _ rfl _ _ 127 rfl w.heap.size 3 i0 (.int .i64 0) 1 8 Tryz.underlying127 hi hz0 hz1 hz2 rfl (by decide) _ (aA.length) _ rfl hL.1 ⟨w4.heap.size,0,none⟩ 1 1 [.int .i64 k.1] rfl rfl ?c1 ?c2 ?c3 ?c4 ?c5 ?c6 _ rfl ?_)
     case c1=>exact wS (cs:=#[.int .i64 k.1]) (t:=3) (fr:=(0,0)) hnw
     case c2=>simp[Value.oneCell']
     case c3=>omega
     case c4=>unfold maxLen;omega
     case c5=>omega
     case c6=>exact hL.2.2.2.2.size
     intro g5 oV w5 hown hgrow hat hlt;obtain⟨R5,K5⟩:=hL.app (news:=[k.1]) hBw (by simp) hown hgrow hat (by simp) hlt;clear hL hnw hown hgrow hat hlt K4;go_wp2
     go_roundw
     case rel=>exact⟨r,aA++[k.1],k.2,R5,by have:=HLEN.out;simp;omega,HL.out,K5,HCK.out,λq=>by simp at q⟩
     case measure=>have:=HLEN.out;simp[slN];omega
   ·have hl':(aA,s)=res:=by
     cases r with
     | zero=>rw[jD,aP (λq=>hx q.2)] at hl;injection hl
     | succ r=>rw[jD,aP (λq=>hx q.2)] at hl;injection hl
    have HX:=ay (λw hp hv=>FB { E with R:=R } HE.out (.slice fa first.length fc) first s false (eq_false_of_ne_true hx) w hp hv HFL.out);have HL:=ay hl';clear hl hl' hf hx hlen;go_wp2_with (go_at_call 96;refine HO.out.mono ?_);rintro e w2 ⟨rfl,hq,dI⟩;have K2:=K0.call hq dI;clear hq dI;go_wp2_with (go_at_call 160;refine(HX.out _ K2.2.2.2.1 (HF.out _ K2.2.2.2.2)).mono ?_);rintro e w3 ⟨rfl,hq,dI⟩;have K3:=K2.call hq dI;clear hq dI;go_wp2;go_ret;have e4:=HL.out;subst e4;exact⟨_,R,rfl,zl.out,K3⟩
  ·have HO:=ay (wM { E with R:=R } s hf _ K0.2.2.2.1)
   have hl':(aA,s)=res:=by
    cases r with
    | zero=>rw[jD,aP (λq=>hf q.1)] at hl;injection hl
    | succ r=>rw[jD,aP (λq=>hf q.1)] at hl;injection hl
   have HL:=ay hl';clear hl hl' hf hlen;go_wp2_with (go_at_call 96;refine HO.out.mono ?_);rintro e w2 ⟨rfl,hq,dI⟩;have K2:=K0.call hq dI;clear hq dI;go_wp2;go_ret;have e4:=HL.out;subst e4;exact⟨_,R,rfl,zl.out,K2⟩
theorem UO {d g:Nat}{aA:List Int}{st:aN}{r:List Int × aN}(h:gL ah d g aA st=some r):r.1.length<=aA.length+3:=by
 unfold gL at h
 split at h
 ·obtain⟨n,h2,h⟩:=bS h
  obtain rfl:=kE h
  simp
 ·obtain rfl:=kE h
  simp
theorem acZ (ah:List Tok)(st:aN):(mY ah st).1.length<=1:=by
 unfold mY
 split<;>simp
theorem Js (E:bH)(hE:E.ok)(g:Nat)(st:aN)(r:Int × aN)(w:World)(h:vZ E.ah E.depth g st=some r)(hp:PW E st w)(hn:r.2.aj.length+1<=1099511627776)(hcl:st.aC=false) :
  Calls Tryz.prog 100 #[.pointer (some ⟨E.pb,0,none⟩)] w (eG E r w):=by
 have wV:=hE.2.2;obtain⟨i0,hi,hz0,hz1,hz2⟩:=info_parts Tryz.oC;have hB:E.B<=w.heap.size:=hp.fD;unfold vZ at h;obtain⟨l,h1,h⟩:=bS h;obtain⟨t,h2,h⟩:=bS h;obtain⟨f,h3,h⟩:=bS h;obtain rfl:=kE h;have n9:=aO (aI _ _ _) hn;have n8:=aO (aK _ _ _) n9;have n7:=aO (aW _ _ _ _ _ _ h3) n8;have n6:=aO (aK _ _ _) n7;have n5:=aO (iO h2) n6;have n4:=aO (aK _ _ _) n5;have n3:(iA E.ah st).2.aj.length+1<=1099511627776:=aO (kN E.ah _ jE _ _ h1) n4;have n2:(jW E.ah st).2.aj.length+1<=1099511627776:=aO (aK _ _ _) n3;have n1:(qO E.ah st).2.aj.length+1<=1099511627776:=aO (eu _ _ _) n2;have n0:(mY E.ah st).2.aj.length+1<=1099511627776:=aO (aK _ _ _) n1;have nl:st.aj.length+1<=1099511627776:=aO (O8 E.ah st) n0
 have hc3:(iA E.ah st).2.aC=false:=by rw[(GN E.ah st).2.2.1];exact hcl
 have hc4:l.2.aC=false:=by rw[(kN E.ah _ jE _ _ h1).2.2.1];exact hc3
 have hc5:(aM E.ah [[41]] l.2).2.aC=false:=by rw[(aK E.ah [[41]] l.2).2.2.1];exact hc4
 have hll:=Kw _ _ _ _ h1;have hpl:=acZ E.ah st;have htl:=UO h2;simp only[bQ,dN,iF] at htl;have HX:=ay (xE E hE ⟨#[112,117,98]⟩ st w hp);have HLf:=ay (λR w hp=>cB { E with R:=R } st w hp hE.1 hE.2.1 nl);have HM1:=ay (λR w hp=>eO { E with R:=R } hE ⟨#[102,117,110]⟩ (mY E.ah st).2 w hp n0);have TJ:=ay (λR w hp=>uS { E with R:=R } hE 1 (qO E.ah st).2 w hp n1);have HM3:=ay (λR w hp=>eO { E with R:=R } hE ⟨#[40]⟩ (jW E.ah st).2 w hp n2);have HLi:=ay (λR w hp=>UN { E with R:=R } hE (iN E.ah E.depth g) (iA E.ah st).2 l w h1 hp n4 hc3 jE (λR2 s k w' hsc hk hq _ hnk=>YF { E with R:=R2 } hE g s k w' hk hq hnk hsc));have HM4:=ay (λR w hp=>eO { E with R:=R } hE ⟨#[41]⟩ l.2 w hp n4);have HTy:=ay (λW0 R v W K hB hl=>LU E hE g W0 R v _ _ t W h2 K hB n6 hc5 hl);have HM5:=ay (λR w hp=>eO { E with R:=R } hE ⟨#[61]⟩ t.2 w hp n6);have HM6:=ay (λR w hp=>allT { E with R:=R } hE g (.expr 1) (aM E.ah [[61]] t.2).2 f w h3 hp n8 (by show 1<=_;omega));have HM7:=ay (λR w hp=>eO { E with R:=R } hE ⟨#[59]⟩ f.2 w hp n8);have YX:=ay (λR v w hp hv=>l7 { E with R:=R } 3 v (t.1++[(aM E.ah [[61]] t.2).1,f.1,(aM E.ah [[59]] f.2).1]) (aM E.ah [[59]] f.2).2 w hp hv (by simp;omega) n9);clear n0 n1 n2 n3 n4 n5 n6 n7 n8 n9 nl hn h1 h2 h3 h hc3 hc4 hc5;have hx0:bG E.ah st [(⟨#[112,117,98]⟩:ByteArray).data.toList]=bG E.ah st [CQ]:=rfl;rw[hx0] at HX;clear hx0;have HPU:Hid ((bG E.ah st [CQ]=true->mY E.ah st=([(aD E.ah st).1],(aD E.ah st).2))/\(bG E.ah st [CQ]=false->mY E.ah st=([],st))):=ay ⟨λq=>by rw[mY,bq q],λq=>by rw[mY,aP (by rw[q];decide)]⟩;generalize bG E.ah st [CQ]=x at HX HPU;go_enter Tryz.func100,Tryz.ntmps100
 go_upto_if 6 with (go_at_call 160;refine HX.out.mono ?_;rintro e w1 ⟨rfl,hq,dI⟩)
 have K1:=(jT.none hp).call hq dI;clear hq dI HX
 go_cut [3] (λv wc=>∃ R ao cap,v=.slice ao (mY E.ah st).1.length cap/\jT E w R (.slice ao (mY E.ah st).1.length cap) (mY E.ah st).1 (mY E.ah st).2 wc)
 case first =>
  cases x with
  | true =>
   have HPV:=ay (HPU.out.1 rfl);obtain⟨d0,_,_,_,_,_⟩:=PW.cells K1.2.2.2.1;have HLG:=ay (HLf.out E.R w1 K1.2.2.2.1);clear hpl htl;go_wp2_with (go_at_call 162;refine HLG.out.mono ?_);rintro e w2 ⟨rfl,hq,dI⟩;have K2:=K1.call hq dI;clear hq dI HLG d0;have hL:=K2.lit (.cells #[.int .i64 (aD E.ah st).1] 3);have hnw:=aZ w2 (.cells #[.int .i64 (aD E.ah st).1] 3);go_wp2_with (at_builtin;refine wpList_append_lies _ rfl _ _ 127 rfl w.heap.size 3 i0 (.int .i64 0) 1 8 Tryz.underlying127 hi hz0 hz1 hz2 rfl (by decide) _ (0) _ rfl (hL.row (rfl:([]:List Int).length=0)) ⟨w2.heap.size,0,none⟩ 1 1 [.int .i64 (aD E.ah st).1] rfl rfl ?c1 ?c2 ?c3 ?c4 ?c5 ?c6 _ rfl ?_)
   case c1=>exact wS (cs:=#[.int .i64 (aD E.ah st).1]) (t:=3) (fr:=(0,0)) hnw
   case c2=>simp[Value.oneCell']
   case c3=>omega
   case c4=>unfold maxLen;omega
   case c5=>omega
   case c6=>exact hL.2.2.2.2.size
   intro g3 ac0 w3 hown hgrow hat hlt;obtain⟨R3,K3⟩:=hL.app (news:=[(aD E.ah st).1]) (n:=0+1) hB (by rw[bQ,(rfl:([]:List Int).length=0)];rfl) hown hgrow hat (by simp) hlt;clear hL hnw hown hgrow hat hlt;generalize hkk:([]:List Int)++[(aD E.ah st).1]=kk3 at K3;have RA:Hid (kk3.length=0+1):=ay (by rw[<- hkk,bQ,(rfl:([]:List Int).length=0)];rfl);have HK3:=ay hkk;clear hkk;go_wp2
   go_meet
   rw[HPV.out];refine⟨R3,some ⟨g3,0,none⟩,ac0,rfl,?_⟩;have e3:=K3;rw[<- HK3.out] at e3;exact e3
  | false =>
   have HPV:=ay (HPU.out.2 rfl);clear hpl htl;go_wp2
   go_meet
   rw[HPV.out];exact⟨E.R,none,0,rfl,K1⟩
 case rest =>
  obtain⟨R3,ao3,ac0,rfl,K3⟩:=hcut;clear K1 HLf HPU
  obtain⟨w3,rfl⟩:∃ w3:World,w3=wc:=⟨_,rfl⟩
  generalize hk0:(mY E.ah st).1=k0 at hpl htl HTy K3;have Vs:=ay hk0;clear hk0;have yB:=ay (HM1.out R3 _ K3.2.2.2.1);go_wp2_with (go_at_call 163;refine yB.out.mono ?_);rintro e w4 ⟨rfl,hq,dI⟩;have K4:=K3.call hq dI;clear hq dI yB;have yB:=ay (TJ.out R3 _ K4.2.2.2.1);go_wp2_with (go_at_call 102;refine yB.out.mono ?_);rintro e w5 ⟨rfl,hq,dI⟩;have K5:=K4.call hq dI;clear hq dI yB;have yB:=ay (HM3.out R3 _ K5.2.2.2.1);go_wp2_with (go_at_call 163;refine yB.out.mono ?_);rintro e w6 ⟨rfl,hq,dI⟩;have K6:=K5.call hq dI;clear hq dI yB;clear K3 K4 K5 HM1 TJ HM3;have hL:=K6.lit (.cells #[.int .i64 (qO E.ah st).1,.int .i64 (jW E.ah st).1,.int .i64 (iA E.ah st).1] 3);have hnw:=aZ w6 (.cells #[.int .i64 (qO E.ah st).1,.int .i64 (jW E.ah st).1,.int .i64 (iA E.ah st).1] 3);go_wp2_with (at_builtin;refine wpList_append_lies _ rfl _ _ 127 rfl w.heap.size 3 i0 (.int .i64 0) 1 8 Tryz.underlying127 hi hz0 hz1 hz2 rfl (by decide) _ (k0.length) _ rfl (hL.row (rfl:k0.length=k0.length)) ⟨w6.heap.size,0,none⟩ 3 3 [.int .i64 (qO E.ah st).1,.int .i64 (jW E.ah st).1,.int .i64 (iA E.ah st).1] rfl rfl ?c1 ?c2 ?c3 ?c4 ?c5 ?c6 _ rfl ?_)
  case c1=>exact wS (cs:=#[.int .i64 (qO E.ah st).1,.int .i64 (jW E.ah st).1,.int .i64 (iA E.ah st).1]) (t:=3) (fr:=(0,0)) hnw
  case c2=>simp[Value.oneCell']
  case c3=>omega
  case c4=>unfold maxLen;omega
  case c5=>omega
  case c6=>exact hL.2.2.2.2.size
  intro g7 ajo w7 hown hgrow hat hlt;obtain⟨R7,K7⟩:=hL.app (news:=[(qO E.ah st).1,(jW E.ah st).1,(iA E.ah st).1]) (n:=k0.length+3) hB (by rw[bQ,(rfl:k0.length=k0.length)];rfl) hown hgrow hat (by simp) hlt;clear hL hnw hown hgrow hat hlt;generalize hkk:k0++[(qO E.ah st).1,(jW E.ah st).1,(iA E.ah st).1]=kk7 at K7;have HL7:Hid (kk7.length=k0.length+3):=ay (by rw[<- hkk,bQ,(rfl:k0.length=k0.length)];rfl);have HK7:=ay hkk;clear hkk;clear K6
  go_upto_region 5 with fail
  go_cut [3] (λv wc=>∃ R ao cap,v=.slice ao (k0.length+3+l.1.length) cap/\jT E w R (.slice ao (k0.length+3+l.1.length) cap) (kk7++l.1) l.2 wc)
  case first =>
   have HLJ:=ay (HLi.out R7 _ K7.2.2.2.1)
   have hmf:∀ (fn:Fn) (first cap:Array Value) (w:World),(Instr.makeFunc fn first cap).run Tryz.prog w=.ok (.func fn first cap) w:=λ_ _ _ _=>rfl
   clear HLi;go_wp2_with (go_at_call 164;refine HLJ.out.mono ?_);rintro e w8 ⟨v,rfl,hiv,hnil,hq,dI⟩;have K8:=K7.call hq dI;clear hq dI HLJ K7
   by_cases hl0:l.1=[]
   ·obtain rfl:=hnil hl0
    have hlz:l.1.length=0:=by rw[hl0];rfl
    go_wp2_with (at_builtin;refine wpList_append_own_none rfl _ _ 127 rfl w.heap.size 3 i0 1 Tryz.underlying127 hi _ (k0.length+3) _ rfl (K8.row HL7.out) rfl ?_);go_wp2
    go_meet
    refine⟨R7,some ⟨g7,0,none⟩,ajo,by rw[hlz],?_⟩;rw[hl0,List.append_nil];exact K8
   ·have hpos:0<l.1.length:=List.length_pos_iff.2 hl0
    obtain⟨aov,SC,rfl,hcv,hf⟩:=hiv;obtain⟨vb,vo,vcs,vfr,rfl,hh,hj⟩:=hf hpos;clear hnil hl0 hf;go_wp2_with (at_builtin;refine wpList_append_lies _ rfl _ _ 127 rfl w.heap.size 3 i0 (.int .i64 0) 1 8 Tryz.underlying127 hi hz0 hz1 hz2 rfl (by decide) _ (k0.length+3) _ rfl (K8.row HL7.out) ⟨vb,vo,none⟩ l.1.length SC (l.1.map (Value.int .i64)) rfl (by simp) ?c1 ?c2 ?c3 ?c4 ?c5 ?c6 _ rfl ?_)
    case c1=>exact yK hh hj
    case c2=>intro u hu;obtain⟨y,_,rfl⟩:=List.mem_map.1 hu;rfl
    case c3=>exact hpos
    case c4=>unfold maxLen;omega
    case c5=>omega
    case c6=>exact K8.2.2.2.2.size
    intro g9 ahZ w9 hown hgrow hat hlt;obtain⟨R9,K9⟩:=K8.app (news:=l.1) (n:=k0.length+3+l.1.length) hB (by rw[bQ,HL7.out]) hown hgrow hat (by simp) hlt;clear hown hgrow hat hlt K8 hh hj;go_wp2
    go_meet
    exact⟨R9,some ⟨g9,0,none⟩,ahZ,rfl,K9⟩
  case rest =>
   obtain⟨R9,ao9,ahZ,rfl,K9⟩:=hcut;clear K7 HLi
   obtain⟨w9,rfl⟩:∃ w9:World,w9=wc:=⟨_,rfl⟩
   generalize Zx:kk7++l.1=kk9 at K9;have HL9:Hid (kk9.length=k0.length+3+l.1.length):=ay (by rw[<- Zx,bQ,HL7.out]);have HK9:=ay Zx;clear Zx;generalize hm9:k0.length+3+l.1.length=m9 at K9 HL9 htl
   have akm:m9<=1000:=by omega
   clear hm9;have yB:=ay (HM4.out R9 _ K9.2.2.2.1);go_wp2_with (go_at_call 163;refine yB.out.mono ?_);rintro e nP ⟨rfl,hq,dI⟩;have Ky:=K9.call hq dI;clear hq dI yB;have hL:=Ky.lit (.cells #[.int .i64 (aM E.ah [[41]] l.2).1] 3);have hnw:=aZ nP (.cells #[.int .i64 (aM E.ah [[41]] l.2).1] 3);go_wp2_with (at_builtin;refine wpList_append_lies _ rfl _ _ 127 rfl w.heap.size 3 i0 (.int .i64 0) 1 8 Tryz.underlying127 hi hz0 hz1 hz2 rfl (by decide) _ (m9) _ rfl (hL.row HL9.out) ⟨nP.heap.size,0,none⟩ 1 1 [.int .i64 (aM E.ah [[41]] l.2).1] rfl rfl ?c1 ?c2 ?c3 ?c4 ?c5 ?c6 _ rfl ?_)
   case c1=>exact wS (cs:=#[.int .i64 (aM E.ah [[41]] l.2).1]) (t:=3) (fr:=(0,0)) hnw
   case c2=>simp[Value.oneCell']
   case c3=>omega
   case c4=>unfold maxLen;omega
   case c5=>omega
   case c6=>exact hL.2.2.2.2.size
   intro g11 ajG xJ hown hgrow hat hlt;obtain⟨R11,CK⟩:=hL.app (news:=[(aM E.ah [[41]] l.2).1]) (n:=m9+1) hB (by rw[bQ,HL9.out];rfl) hown hgrow hat (by simp) hlt;clear hL hnw hown hgrow hat hlt;generalize hkk:kk9++[(aM E.ah [[41]] l.2).1]=ah0 at CK;have akn:Hid (ah0.length=m9+1):=ay (by rw[<- hkk,bQ,HL9.out];rfl);have ajp:=ay hkk;clear hkk
   have ah1:ah0=k0++[(qO E.ah st).1,(jW E.ah st).1,(iA E.ah st).1]++l.1++[(aM E.ah [[41]] l.2).1]:=by rw[<- ajp.out,<- HK9.out,<- HK7.out]
   have agn:=CK;rw[ah1] at agn;have HTz:=ay (HTy.out w R11 _ xJ agn hB (by simp;omega));clear ah1 agn HTy K9 Ky HM4;go_wp2_with (go_at_call 166;refine HTz.out.mono ?_);rintro e w12 ⟨v12,R12,rfl,Ct⟩;clear HTz CK;obtain⟨ako,Va,rfl⟩:=qE Ct.1
   have akp:t.1.length<=1000000:=by omega
   clear htl;have yB:=ay (HM5.out R12 _ Ct.2.2.2.1);go_wp2_with (go_at_call 163;refine yB.out.mono ?_);rintro e w13 ⟨rfl,hq,dI⟩;have EL:=Ct.call hq dI;clear hq dI yB;have yB:=ay (HM6.out R12 _ EL.2.2.2.1);go_wp2_with (go_at_call 167;refine yB.out.mono ?_);rintro e w14 ⟨rfl,hq,dI⟩;have K14:=EL.call hq dI;clear hq dI yB;have yB:=ay (HM7.out R12 _ K14.2.2.2.1);go_wp2_with (go_at_call 163;refine yB.out.mono ?_);rintro e w15 ⟨rfl,hq,dI⟩;have K15:=K14.call hq dI;clear hq dI yB;clear Ct EL K14 HM5 HM6 HM7;have hL:=K15.lit (.cells #[.int .i64 (aM E.ah [[61]] t.2).1,.int .i64 f.1,.int .i64 (aM E.ah [[59]] f.2).1] 3);have hnw:=aZ w15 (.cells #[.int .i64 (aM E.ah [[61]] t.2).1,.int .i64 f.1,.int .i64 (aM E.ah [[59]] f.2).1] 3);go_wp2_with (at_builtin;refine wpList_append_lies _ rfl _ _ 127 rfl w.heap.size 3 i0 (.int .i64 0) 1 8 Tryz.underlying127 hi hz0 hz1 hz2 rfl (by decide) _ (t.1.length) _ rfl (hL.row (rfl:t.1.length=t.1.length)) ⟨w15.heap.size,0,none⟩ 3 3 [.int .i64 (aM E.ah [[61]] t.2).1,.int .i64 f.1,.int .i64 (aM E.ah [[59]] f.2).1] rfl rfl ?c1 ?c2 ?c3 ?c4 ?c5 ?c6 _ rfl ?_)
   case c1=>exact wS (cs:=#[.int .i64 (aM E.ah [[61]] t.2).1,.int .i64 f.1,.int .i64 (aM E.ah [[59]] f.2).1]) (t:=3) (fr:=(0,0)) hnw
   case c2=>simp[Value.oneCell']
   case c3=>omega
   case c4=>unfold maxLen;omega
   case c5=>omega
   case c6=>exact hL.2.2.2.2.size
   intro g16 ajH w16 hown hgrow hat hlt;obtain⟨R16,K16⟩:=hL.app (news:=[(aM E.ah [[61]] t.2).1,f.1,(aM E.ah [[59]] f.2).1]) (n:=t.1.length+3) hB (by rw[bQ,(rfl:t.1.length=t.1.length)];rfl) hown hgrow hat (by simp) hlt;clear hL hnw hown hgrow hat hlt;generalize hkk:t.1++[(aM E.ah [[61]] t.2).1,f.1,(aM E.ah [[59]] f.2).1]=ajq at K16;have akq:Hid (ajq.length=t.1.length+3):=ay (by rw[<- hkk,bQ,(rfl:t.1.length=t.1.length)];rfl);have ajr:=ay hkk;clear hkk;clear K15;have e16:=K16;rw[<- ajr.out] at e16;have HNp:=ay (YX.out R16 _ _ e16.2.2.2.1 e16.node);clear e16 YX;go_wp2_with (go_at_call 101;refine HNp.out.mono ?_);rintro e w17 ⟨rfl,hq,dI⟩;have K17:=K16.call hq dI;go_wp2;go_ret;exact⟨rfl,PR.drop K17.2.2.2.1 K17.2.2.1,K17.2.2.2.2⟩
theorem LV {B:Nat}{wr:World}{cs:Array Value}{fr:Nat × Nat}{b n cap:Nat}{l:List aH}(h:w.heap[b]?=some (.cells cs 9 fr))(hk:Kp B w wr)(hn:l.length=n)(hc:∀ j,(hj:j<l.length)->cs[j]?=some (.string ⟨l[j].toArray⟩)):mX wr (.slice (some ⟨b,0,none⟩) n cap) l:=by
 subst hn;have h2:=hk.2 _ _ _ _ h (by decide) (by decide) (by decide);refine⟨b,0,cap,rfl,(bU h2).1,λj hj=>?_⟩;rw[Nat.zero_add];rw[bg h2]
 simpa using hc j hj
theorem Rn (E:bH)(hE:E.ok)(g:Nat)(st:aN)(r:Int × aN)(w:World)(h:nV E.ah E.depth g st=some r)(hp:PW E st w)(hcl:st.aC=false)(hn:r.2.aj.length+1<=1099511627776) :
  Calls Tryz.prog 58 #[.pointer (some ⟨E.pb,0,none⟩)] w (aeB E r.2 w):=by
 obtain⟨i0,hi,hz0,hz1,hz2⟩:=info_parts Tryz.oC;have hB:E.B<=w.heap.size:=hp.fD;unfold nV at h;obtain⟨a,h1,h⟩:=bS h;obtain⟨b,h2,h⟩:=bS h;obtain rfl:=kE h;have n3:=aO (aI _ _ _) hn;have n2:=aO (eu _ _ _) n3;have n1:=aO (mK r9 _ _ _ _ h2) n2;have hla:=GZ _ _ _ _ h1;have hlb:=GZ _ _ _ _ h2;simp only[iF] at hla hlb
 have hca:a.2.aC=false:=by rw[(mK (tT E.ah) _ _ _ _ h1).2.2.1];exact hcl
 have Jz:=ay (λw hp hF=>E8 E hE _ [tQ] (some ⟨w.heap.size - 1,0,none⟩) 1 16 (by omega) st a w h1 hp n1 hcl hF (by decide) (tT E.ah) (λR s k w' hsc hk hq hnk=>by
  obtain rfl:=kE hk
  exact NS { E with R:=R } hE s w' hq hnk))
 have HS2:=ay (λR w hp hF=>NT { E with R:=R } hE _ [CQ,JW] (some ⟨w.heap.size - 1,0,none⟩) 2 64 (by omega) a.2 b w h2 hp n2 hca hF (by decide) r9 (λR2 s k w' hsc hk hq hnk=>Js { E with R:=R2 } hE g s k w' hk hq hnk hsc));have HKi:=ay (λR w hp=>uS { E with R:=R } hE 5 b.2 w hp n2);have YX:=ay (λR v w hp hv=>l7 { E with R:=R } 1 v (a.1++b.1++[(bC E.ah 5 b.2).1]) (bC E.ah 5 b.2).2 w hp hv (by simp;omega) n3)
 have hmf:∀ (fn:Fn) (first cap:Array Value) (w:World),(Instr.makeFunc fn first cap).run Tryz.prog w=.ok (.func fn first cap) w:=λ_ _ _ _=>rfl
 clear n1 n2 n3 hn h1 h2 h hca;have hs1:=Jz.out (w.alloc (.cells #[.string ⟨#[105,109,112,111,114,116]⟩] 9)) (hp.later (aB w _)) (λwr hk=>LV (by rw[oU,Nat.add_sub_cancel];exact aZ w _) hk rfl (λj hj=>by obtain rfl:j=0:=(by simpa using hj);rfl));rw[show (w.alloc (.cells #[.string ⟨#[105,109,112,111,114,116]⟩] 9)).heap.size - 1=w.heap.size by simp] at hs1;have HS:=ay hs1;clear hs1 Jz;go_enter Tryz.func58,Tryz.ntmps58
 go_upto_region 1 with (go_at_call 98;refine HS.out.mono ?_;rintro e w1 ⟨v1,R1,rfl,ah2,K1'⟩)
 have K1:=K1'.lift (W0:=w) (Kp.of (aB w _) hB);clear K1' HS ah2;obtain⟨ao1,ah3,rfl⟩:=qE K1.1
 go_cut [2] (λv wc=>∃ R ao cap,v=.slice ao (a.1.length+b.1.length) cap/\jT E w R (.slice ao (a.1.length+b.1.length) cap) (a.1++b.1) b.2 wc)
 case first =>
  have hs2:=HS2.out R1 (w1.alloc (.cells #[.string ⟨#[112,117,98]⟩,.string ⟨#[102,117,110]⟩] 9)) (PW.later K1.2.2.2.1 (aB w1 _)) (λwr hk=>LV (by rw[oU,Nat.add_sub_cancel];exact aZ w1 _) hk rfl (λj hj=>by
   match j,hj with
   | 0,_=>rfl
   | 1,_=>rfl))
  rw[show (w1.alloc (.cells #[.string ⟨#[112,117,98]⟩,.string ⟨#[102,117,110]⟩] 9)).heap.size - 1=w1.heap.size by simp] at hs2;have HS:=ay hs2;clear hs2 HS2 HKi YX;go_wp2_with (go_at_call 98;refine HS.out.mono ?_);rintro e w2 ⟨v2,R2,rfl,hnil,K2'⟩;have K2:=K1.call (w':=w2) (s':=b.2) (PR.drop K2'.2.2.2.1 K2'.2.2.1) ((Kp.of (aB w1 _) K1.2.2.2.1.fD).trans K2'.2.2.2.2);have hiv:fA w2 v2 b.1:=K2'.node;clear HS K1 K2'
  by_cases hl0:b.1=[]
  ·obtain rfl:=hnil hl0
   have hlz:b.1.length=0:=by rw[hl0];rfl
   go_wp2_with (at_builtin;refine wpList_append_own_none rfl _ _ 127 rfl w.heap.size 3 i0 1 Tryz.underlying127 hi _ (a.1.length) _ rfl (K2.row rfl) rfl ?_);go_wp2
   go_meet
   refine⟨R1,ao1,ah3,by rw[hlz];rfl,?_⟩;rw[hl0,List.append_nil];exact K2
  ·have hpos:0<b.1.length:=List.length_pos_iff.2 hl0
   obtain⟨aov,SC,rfl,hcv,hf⟩:=hiv;obtain⟨vb,vo,vcs,vfr,rfl,hh,hj⟩:=hf hpos;clear hnil hl0 hf;go_wp2_with (at_builtin;refine wpList_append_lies _ rfl _ _ 127 rfl w.heap.size 3 i0 (.int .i64 0) 1 8 Tryz.underlying127 hi hz0 hz1 hz2 rfl (by decide) _ (a.1.length) _ rfl (K2.row rfl) ⟨vb,vo,none⟩ b.1.length SC (b.1.map (Value.int .i64)) rfl (by simp) ?c1 ?c2 ?c3 ?c4 ?c5 ?c6 _ rfl ?_)
   case c1=>exact yK hh hj
   case c2=>intro u hu;obtain⟨y,_,rfl⟩:=List.mem_map.1 hu;rfl
   case c3=>exact hpos
   case c4=>unfold maxLen;omega
   case c5=>omega
   case c6=>exact K2.2.2.2.2.size
   intro g3 ac0 w3 hown hgrow hat hlt;obtain⟨R3,K3⟩:=K2.app (news:=b.1) (n:=a.1.length+b.1.length) hB (by rw[bQ]) hown hgrow hat (by simp) hlt;clear hown hgrow hat hlt K2 hh hj;go_wp2
   go_meet
   exact⟨R3,some ⟨g3,0,none⟩,ac0,rfl,K3⟩
 case rest =>
  obtain⟨R3,ao3,ac0,rfl,K3⟩:=hcut;clear K1 HS2
  obtain⟨w3,rfl⟩:∃ w3:World,w3=wc:=⟨_,rfl⟩
  generalize fM:a.1++b.1=kk3 at K3 YX;have RA:Hid (kk3.length=a.1.length+b.1.length):=ay (by rw[<- fM,bQ]);have HK3:=ay fM;clear fM;generalize hm3:a.1.length+b.1.length=m3 at K3 RA
  have akr:m3<=80:=by omega
  clear hm3 hla hlb;have yB:=ay (HKi.out R3 _ K3.2.2.2.1);go_wp2_with (go_at_call 102;refine yB.out.mono ?_);rintro e w4 ⟨rfl,hq,dI⟩;have K4:=K3.call hq dI;clear hq dI yB;have hL:=K4.lit (.cells #[.int .i64 (bC E.ah 5 b.2).1] 3);have hnw:=aZ w4 (.cells #[.int .i64 (bC E.ah 5 b.2).1] 3);go_wp2_with (at_builtin;refine wpList_append_lies _ rfl _ _ 127 rfl w.heap.size 3 i0 (.int .i64 0) 1 8 Tryz.underlying127 hi hz0 hz1 hz2 rfl (by decide) _ (m3) _ rfl (hL.row RA.out) ⟨w4.heap.size,0,none⟩ 1 1 [.int .i64 (bC E.ah 5 b.2).1] rfl rfl ?c1 ?c2 ?c3 ?c4 ?c5 ?c6 _ rfl ?_)
  case c1=>exact wS (cs:=#[.int .i64 (bC E.ah 5 b.2).1]) (t:=3) (fr:=(0,0)) hnw
  case c2=>simp[Value.oneCell']
  case c3=>omega
  case c4=>unfold maxLen;omega
  case c5=>omega
  case c6=>exact hL.2.2.2.2.size
  intro g5 oV w5 hown hgrow hat hlt;obtain⟨R5,K5⟩:=hL.app (news:=[(bC E.ah 5 b.2).1]) (n:=m3+1) hB (by rw[bQ,RA.out];rfl) hown hgrow hat (by simp) hlt;clear hL hnw hown hgrow hat hlt;generalize hkk:kk3++[(bC E.ah 5 b.2).1]=kk5 at K5;have Yl:Hid (kk5.length=m3+1):=ay (by rw[<- hkk,bQ,RA.out];rfl);have HK5:=ay hkk;clear hkk;clear K3 K4;have e5:=K5;rw[<- HK5.out] at e5;have HNp:=ay (YX.out R5 _ _ e5.2.2.2.1 e5.node);clear e5 YX;go_wp2_with (go_at_call 101;refine HNp.out.mono ?_);rintro e w6 ⟨rfl,hq,dI⟩;have K6:=K5.call hq dI;go_wp2
  go_end0
  have e6:=PR.drop K6.2.2.2.1 K6.2.2.1;rw[<- HK3.out] at e6;simp only[om] at e6 |-;exact⟨rfl,e6,K6.2.2.2.2⟩
theorem Ro (s:ByteArray)(d:Nat)(w:World)(hd1:1<=d)(hd2:d<=200)(hs:s.size<=1099511627776)(ah:List Tok)(hl:bV s.data.toList=.ok ah)(hn:ah.length<=100000)
  (a:Int × aN) (ha:nV ah d (vX ah) kT=some a) (han:a.2.aj.length<=2 * ah.length) (hkl:a.2.fE=0->∀ n∈a.2.aj,n.aA.length<=1000000) :
  Calls Tryz.prog 57 #[.string s,.int .i64 d,.func (.func 58) #[] #[]] w (NR (CP ah a.2) w):=by
 have hpos:=(ji hl).some
 have HA:Hid (∀ (E:bH) (w:World),E.ah=ah->E.depth=d->E.ok->PW E kT w->Calls Tryz.prog 58 #[.pointer (some ⟨E.pb,0,none⟩)] w (aeB E a.2 w)):=ay (λE w h1 h2 hE hp=>by
  subst h1 h2
  exact Rn E hE (vX E.ah) kT a w ha hp rfl (by omega))
 clear ha;generalize a.2=st at han hkl HA |-
 have hnl:st.aj.length<=1000000:=by omega
 clear han
 have HL:Hid (∀ W,Calls Tryz.prog 69 #[.string s] W λe w'=>(∃ at_ ct,e=.returned (.tuple #[.slice at_ ah.length ct,.agg #[.int .i64 0,.int .i64 0]])/\Rec w'.heap.size w' (.slice at_ ah.length ct) 4 dW ah)/\Below W.heap.size W w'):=ay λW=>(Mg s W hs).mono λe w' h=>by
  unfold U6 at h;rw[hl] at h;obtain⟨h1,v,h2,h3⟩:=h;obtain⟨at_,ct,rfl,_,_⟩:=h3.form (λ_=>rfl);exact⟨⟨at_,ct,h2,h3⟩,h1⟩
 have hal:=(aB w (.cells #[.slice none 0 0,.slice none 0 0] 81)).alloc (by simp) (.cells #[.int .i64 0,.int .i64 0] 71);have e1:=(iB (w.alloc (.cells #[.slice none 0 0,.slice none 0 0] 81)) (.cells #[.int .i64 0,.int .i64 0] 71) w.heap.size (by simp)).trans (aZ w (.cells #[.slice none 0 0,.slice none 0 0] 81));have e2:=aZ (w.alloc (.cells #[.slice none 0 0,.slice none 0 0] 81)) (.cells #[.int .i64 0,.int .i64 0] 71);rw[oU] at e2
 have ahU:¬ ((d:Int)<1):=by omega
 have ahV:¬ ((200:Int)<(d:Int)):=by omega
 clear hl;go_enter Tryz.func57,Tryz.ntmps57
 go_upto_region 6 with (go_at_call 69;refine(HL.out _).mono ?_;rintro e w3 ⟨⟨at_,ct,rfl,hrec⟩,hb3⟩;have hz3:=hb3.size)
 rw[oU,oU] at hz3;have G6:=(iB w3 (.cells #[.int .i64 0,.int .i64 0] 71) w.heap.size (by omega)).trans ((hb3.block w.heap.size (by simp;omega)).trans e1);have G7:=(iB w3 (.cells #[.int .i64 0,.int .i64 0] 71) (w.heap.size+1) (by omega)).trans ((hb3.block (w.heap.size+1) (by simp)).trans e2);have hb4:=(hal.trans (hb3.mono (by simp;omega))).alloc (by omega) (.cells #[.int .i64 0,.int .i64 0] 71);have V3:=hrec.below (aB w3 (.cells #[.int .i64 0,.int .i64 0] 71))
 have D7:w3.heap.size<=(w3.alloc (.cells #[.int .i64 0,.int .i64 0] 71)).heap.size:=by simp
 clear hb3 e1 e2 hal HL hrec ahU ahV;generalize w3.heap.size=B3 at V3 D7 hz3 |-;generalize w3.alloc _=w4 at G6 G7 hb4 V3 D7 |-;have HN:=ay (ZR w4.heap.size _ ah w4 (V3.mono D7) hpos (by omega))
 go_upto_region 7 with (go_at_call 95;refine HN.out.mono ?_;rintro e w5 ⟨bb,B,tv,rfl,hbw,aeT,nS,hb5⟩)
 have ajs:=hbw;obtain⟨hBb,nv0,l0,hbk,_⟩:=ajs;have hblt:=(bU hbk).1;have G65:=(iB w5 (.cells #[.pointer (some ⟨bb,0,none⟩),.int .i64 d,.bool false,.int .i64 0,.int .i64 0] 184) w.heap.size (by have:=hb5.size;have:=(bU G6).1;omega)).trans ((hb5.block w.heap.size (bU G6).1).trans G6);have G75:=(iB w5 (.cells #[.pointer (some ⟨bb,0,none⟩),.int .i64 d,.bool false,.int .i64 0,.int .i64 0] 184) (w.heap.size+1) (by have:=hb5.size;have:=(bU G7).1;omega)).trans ((hb5.block (w.heap.size+1) (bU G7).1).trans G7);have hb6:=(hb4.trans (hb5.mono hb4.size)).alloc (by have:=hb4.size;have:=hb5.size;omega) (.cells #[.pointer (some ⟨bb,0,none⟩),.int .i64 d,.bool false,.int .i64 0,.int .i64 0] 184)
 have hPW:PW ⟨[],B,w5.heap.size,bb,tv,ah,d⟩ kT (w5.alloc (.cells #[.pointer (some ⟨bb,0,none⟩),.int .i64 d,.bool false,.int .i64 0,.int .i64 0] 184)) :=
  ⟨aZ _ _,hbw.later (aB _ _),aeT.below ((aB w5 _).mono (by omega)),by show B<=w5.heap.size;omega,mD _,λr hr=>by cases hr⟩
 have hBw:w.heap.size<=B:=iY hb4.size nS;have HAL:=ay (HA.out ⟨[],B,w5.heap.size,bb,tv,ah,d⟩ _ rfl rfl ⟨hpos,by show ah.length<=_;omega,by show d<=1000;omega⟩ hPW);clear HN HA hbw aeT hb5 hb4 G6 G7 V3 hPW hbk;generalize w5.heap.size=pb at HAL |-;generalize w5.alloc _=w6 at G65 G75 hb6 HAL |-
 go_upto_region 8 with (go_at_call 58;refine HAL.out.mono ?_;rintro e w7 ⟨rfl,JM,zk⟩)
 have G67:=zk.2 _ _ _ _ G65 (by decide) (by decide) (by decide);have G77:=zk.2 _ _ _ _ G75 (by decide) (by decide) (by decide);have BI:Below w.heap.size w w7:=hb6.trans (zk.1.mono hBw);have HOK:=ay (vS _ st w7 JM);obtain⟨c0,c1,c2,c3,c4,cz⟩:=JM.cells;obtain⟨h1,Nl,V4,_⟩:=JM;obtain⟨q0,q1,qz⟩:=qL G67;obtain⟨p0,p1,pz⟩:=jw G77;clear zk HAL h1 G65 G75 hb6;simp only at c0 c1 c2 c3 c4 Nl V4
 by_cases hf:st.fE=0
 ·have hok:okB st=true:=by unfold okB;simp[hf]
  rw[hok] at HOK;have HD:=ay (acV _ B bb tv ah st.aj st.used w7 Nl V4 hpos (by omega) hnl (hkl hf));have HOF:Hid (CP ah st=.good ah st.aj):=ay (by rw[CP,bq hf]);clear hok hf Nl V4 c1 c2 c3 c4 q0 q1 qz p0 p1 pz;rw[HOF.out]
  go_upto_region 10 with (go_at_call 96;refine HOK.out.mono ?_;rintro e w8 ⟨rfl,rfl⟩)
  go_wp2_with (go_at_call 97;refine HD.out.mono ?_;rintro e w9 ⟨v9,rfl,ht9,EO⟩;obtain⟨at9,ct9,an9,cn9,rfl⟩:=ht9.at.slices;have G69:=(EO.block w.heap.size (bU G67).1).trans G67;have G79:=(EO.block (w.heap.size+1) (bU G77).1).trans G77;obtain⟨q0,q1,qz⟩:=qL G69;obtain⟨p0,p1,pz⟩:=jw G79);have T1:=ht9.set G69 (by decide) (by decide) (by decide) 0 (.slice at9 ah.length ct9);have G1:=kG w9 w.heap.size 0 _ _ (.slice at9 ah.length ct9) G69;have T2:=T1.set G1 (by decide) (by decide) (by decide) 1 (.slice an9 st.aj.length cn9)
  have F1:((w9.setCell ⟨w.heap.size,0,none⟩ (.slice at9 ah.length ct9)).setCell ⟨w.heap.size,1,none⟩ (.slice an9 st.aj.length cn9)).heap[w.heap.size+1]?=some (.cells #[.int .i64 0,.int .i64 0] 71 (0,0)):=by
   rw[qo _ _ _ _ (by show w.heap.size+1≠w.heap.size;omega),qo _ _ _ _ (by show w.heap.size+1≠w.heap.size;omega)];exact G79
  have T3:=T2.set F1 (by decide) (by decide) (by decide) 0 (.int .i64 0);have F2:=kG _ (w.heap.size+1) 0 _ _ (.int .i64 0) F1;have T4:=T3.set F2 (by decide) (by decide) (by decide) 1 (.int .i64 0);have af2:=BI.trans (EO.mono BI.size);refine o9 (v:=.tuple #[.agg #[.slice at9 ah.length ct9,.slice an9 st.aj.length cn9],.agg #[.int .i64 0,.int .i64 0]]) (by simp[results,Tryz.results57,go_sem,q0,q1,p0,p1]) rfl ?_;rw[HOF.out];exact⟨(((af2.setCell (by simp) _).setCell (by simp) _).setCell (by simp) _).setCell (by simp) _,at9,ct9,an9,cn9,rfl,T4⟩
 ·have hok:okB st=false:=by unfold okB;simp[hf]
  rw[hok] at HOK;have HOF:Hid (CP ah st=.bad st.fE st.fAt):=ay (by rw[CP,aP hf]);clear hok hf Nl V4 c1 c2 hkl hnl
  go_upto_region 9 with (go_at_call 96;refine HOK.out.mono ?_;rintro e w8 ⟨rfl,rfl⟩)
  go_region
  go_wp2;refine o9 (v:=.tuple #[.agg #[.slice none 0 0,.slice none 0 0],.agg #[.int .i64 st.fE,.int .i64 st.fAt]]) (by simp[results,Tryz.results57,go_sem,q0,q1,p0,p1]) rfl ?_;rw[HOF.out];exact⟨((((BI.setCell (by simp) _).setCell (by simp) _).setCell (by simp) _).setCell (by simp) _).drew,rfl⟩
theorem YG (s:ByteArray)(d:Nat)(w:World)(hd1:1<=d)(hd2:d<=200)(hs:s.size<=1099511627776) :
  Calls Tryz.prog 57 #[.string s,.int .i64 d,.func (.func 58) #[] #[]] w (NR (gF s.data.toList d) w):=by
 cases hl:bV s.data.toList with
 | error x =>
  have hf:=(vN hl).2
  have e:gF s.data.toList d=.bad x.1 x.2:=by rw[gF,hl]
  rw[e];exact Rm s d _ w hd1 hd2 hs x.1 x.2 hl (by omega)
 | ok ah =>
  have hL:=ji hl
  have hlen:ah.length<=65537:=by
   have h1:=hL.count;unfold bV at hl
   split at hl
   ·cases hl
   ·omega
  obtain⟨a,ha⟩:=Ec hL.Z8 d kT;have h3:=KO ha;have h4:=KJ ha (mD _);unfold og at h3;simp only[kT,iF] at h3
  have e:gF s.data.toList d=CP ah a.2:=by
   rw[gF,hl];simp only;rw[ha]
  rw[e]
  refine Ro s d w hd1 hd2 hs ah hl (by omega) a ha (by omega) λhf n hm=>?_
  obtain⟨q,he,_⟩:=Vi hL ha hf
  have g1:a.2.aj.length=q.pt.nd:=by rw[he,PT.vO]
  rw[he] at hm;have:=Mx _ _ _ n hm;omega
theorem za (s:ByteArray)(d:Nat)(w:World)(hd1:1<=d)(hd2:d<=200)(hs:s.size<=1099511627776) :
  Calls Tryz.prog 30 #[.string s,.int .i64 d] w (NR (gF s.data.toList d) w):=by
 have HR:=ay (λW=>YG s d W hd1 hd2 hs);have hal:=(aB w (.cells #[.slice none 0 0,.slice none 0 0] 81)).alloc (by simp) (.cells #[.int .i64 0,.int .i64 0] 71);have e1:=(iB (w.alloc (.cells #[.slice none 0 0,.slice none 0 0] 81)) (.cells #[.int .i64 0,.int .i64 0] 71) w.heap.size (by simp)).trans (aZ w (.cells #[.slice none 0 0,.slice none 0 0] 81));have e2:=aZ (w.alloc (.cells #[.slice none 0 0,.slice none 0 0] 81)) (.cells #[.int .i64 0,.int .i64 0] 71);rw[oU] at e2
 have HB:Hid (∀ w9,Below ((w.alloc (.cells #[.slice none 0 0,.slice none 0 0] 81)).alloc (.cells #[.int .i64 0,.int .i64 0] 71)).heap.size ((w.alloc (.cells #[.slice none 0 0,.slice none 0 0] 81)).alloc (.cells #[.int .i64 0,.int .i64 0] 71)) w9->Below w.heap.size w w9/\w9.heap[w.heap.size]?=some (.cells #[.slice none 0 0,.slice none 0 0] 81 (0,0))/\w9.heap[w.heap.size+1]?=some (.cells #[.int .i64 0,.int .i64 0] 71 (0,0))):=ay λw9 hb=>⟨hal.trans (hb.mono (by simp;omega)),(hb.block w.heap.size (by simp;omega)).trans e1,(hb.block (w.heap.size+1) (by simp)).trans e2⟩
 clear hal e1 e2;generalize gF s.data.toList d=r at HR |-;go_enter Tryz.func30,Tryz.ntmps30
 cases r with
 | bad c a =>
  go_wp2_with (go_at_call 57;refine(HR.out _).mono ?_;rintro e w9 ⟨EO,rfl⟩;obtain⟨hb,G6,G7⟩:=HB.out w9 EO;obtain⟨q0,q1,qz⟩:=qL G6;obtain⟨p0,p1,pz⟩:=jw G7);refine o9 (v:=.tuple #[.agg #[.slice none 0 0,.slice none 0 0],.agg #[.int .i64 c,.int .i64 a]]) (by simp[results,Tryz.results30,go_sem,q0,q1,p0,p1]) rfl ?_;exact⟨(((hb.setCell (by simp) _).setCell (by simp) _).setCell (by simp) _).setCell (by simp) _,rfl⟩
 | good ah aj =>
  go_wp2_with (go_at_call 57;refine(HR.out _).mono ?_;rintro e w9 ⟨EO,at9,ct9,an9,cn9,rfl,ht9⟩;obtain⟨hb,G69,G79⟩:=HB.out w9 EO;obtain⟨q0,q1,qz⟩:=qL G69;obtain⟨p0,p1,pz⟩:=jw G79);have T1:=ht9.set G69 (by decide) (by decide) (by decide) 0 (.slice at9 ah.length ct9);have G1:=kG w9 w.heap.size 0 _ _ (.slice at9 ah.length ct9) G69;have T2:=T1.set G1 (by decide) (by decide) (by decide) 1 (.slice an9 aj.length cn9)
  have F1:((w9.setCell ⟨w.heap.size,0,none⟩ (.slice at9 ah.length ct9)).setCell ⟨w.heap.size,1,none⟩ (.slice an9 aj.length cn9)).heap[w.heap.size+1]?=some (.cells #[.int .i64 0,.int .i64 0] 71 (0,0)):=by
   rw[qo _ _ _ _ (by show w.heap.size+1≠w.heap.size;omega),qo _ _ _ _ (by show w.heap.size+1≠w.heap.size;omega)];exact G79
  have T3:=T2.set F1 (by decide) (by decide) (by decide) 0 (.int .i64 0);have F2:=kG _ (w.heap.size+1) 0 _ _ (.int .i64 0) F1;have T4:=T3.set F2 (by decide) (by decide) (by decide) 1 (.int .i64 0);refine o9 (v:=.tuple #[.agg #[.slice at9 ah.length ct9,.slice an9 aj.length cn9],.agg #[.int .i64 0,.int .i64 0]]) (by simp[results,Tryz.results30,go_sem,q0,q1,p0,p1]) rfl ?_;exact⟨(((hb.setCell (by simp) _).setCell (by simp) _).setCell (by simp) _).setCell (by simp) _,at9,ct9,an9,cn9,rfl,T4⟩
theorem ac1 (B:Nat)(w:World)(sz:Nat):Sl B w (.slice none 0 0) sz 0 []:=⟨none,0,rfl,bI _,by simp,λh=>absurd h (by omega)⟩
theorem aep (w:World):bE 0 w (.agg #[.slice none 0 0,.slice none 0 0]) [] []:=⟨_,_,[],rfl,ac1 _ _ _,rfl,ac1 _ _ _,λp hp=>by cases hp⟩
theorem YH (G:D9 ah aj D)(B:Nat)(tv nv:Value)(w:World)(h:bE B w (.agg #[tv,nv]) ah aj)(hB:B<=w.heap.size) :
  Calls Tryz.prog 170 #[.agg #[tv,nv],.int .i64 ((aj.length:Int) - 1)] w λe w'=>e=.returned (.int .i64 0)/\Below w.heap.size w w':=by
 have hR:=λW (hW:Below w.heap.size w W)=>KA B tv nv ah aj (xw 0 ah.length) (aj.length+1) W (h.below (hW.mono hB)) (iY hB hW.size) G.few G.aA (λ_ _ _ _=>G.leaves) (by simp[xw];have:=G.WY;omega) (by have:=G.WY;omega)
 rw[G.right] at hR;have hp:=G.pos;have hf:=G.few;obtain⟨at_,ct,an,cn,hv⟩:=h.slices;simp only[Value.agg.injEq,Array.mk.injEq,List.cons.injEq,and_true] at hv;obtain⟨rfl,rfl⟩:=hv
 have hI1:((aj.length:Int) - 1)<(aj.length:Int):=by omega
 have hI0:0<=((aj.length:Int) - 1):=by omega
 have HR:=ay hR;have hbb:=(bY w.heap.size w).alloc (bI _) (.cells #[.slice at_ ah.length ct,.slice an aj.length cn] 81);have e1:=aZ w (.cells #[.slice at_ ah.length ct,.slice an aj.length cn] 81);clear h G hR;go_enter Tryz.func170,Tryz.ntmps170
 go_upto_region 3 with (go_at_call 233;refine(HR.out _ hbb).mono ?_;rintro e w3 ⟨rfl,hb3⟩)
 have T3:=(hb3.block w.heap.size (by simp)).trans e1;obtain⟨c0,c1⟩:=dn T3;have hb4:=hbb.trans (hb3.mono (by simp));clear hb3 e1 T3 HR hbb;go_wp2;go_ret;exact⟨rfl,hb4⟩
theorem ac2 (n:Int)(w:World) :
  Calls Tryz.prog 170 #[.agg #[.slice none 0 0,.slice none 0 0],.int .i64 n] w λe w'=>e=.returned (.int .i64 10)/\Below w.heap.size w w':=by
 have hT:∀ W:World,bE 0 W (.agg #[.slice none 0 0,.slice none 0 0]) [] []:=aep
 have hR:=λW=>KA 0 (.slice none 0 0) (.slice none 0 0) [] [] [] 0 W (hT W) (mD _) (by decide) (λn hn=>by cases hn) (λl6 hk h0 _=>absurd (by
  rw[rW,oq] at hk
  injection hk with hk
  rw[<- hk]
  rfl) h0) (by decide) (by decide)
 have e:mW ([]:List Tok).length [] []=false:=by decide
 rw[e] at hR;have HR:=ay hR;have hbb:=(bY w.heap.size w).alloc (bI _) (.cells #[.slice none 0 0,.slice none 0 0] 81);clear hT hR e;go_enter Tryz.func170,Tryz.ntmps170;go_wp2_with (go_at_call 233;refine(HR.out _).mono ?_;rintro e w3 ⟨rfl,hb3⟩);go_ret;exact⟨rfl,hbb.trans (hb3.mono (by simp))⟩
theorem aer (n:Int)(w:World) :
  Calls Tryz.prog 103 #[.agg #[.slice none 0 0,.slice none 0 0],.int .i64 n] w λe w'=>e=.returned (.tuple #[.string ⟨#[]⟩,.int .i64 10])/\Below w.heap.size w w':=by
 have HR:=ay (λW=>ac2 n W);have hbb:=(bY w.heap.size w).alloc (bI _) (.cells #[.slice none 0 0,.slice none 0 0] 81);go_enter Tryz.func103,Tryz.ntmps103;go_wp2_with (go_at_call 170;refine(HR.out _).mono ?_;rintro e w3 ⟨rfl,hb3⟩);go_ret2;exact⟨rfl,hbb.trans (hb3.mono (by simp))⟩
theorem Rp (G:D9 ah aj D)(B:Nat)(tv nv:Value)(w:World)(h:bE B w (.agg #[tv,nv]) ah aj)(hB:B<=w.heap.size) :
  Calls Tryz.prog 103 #[.agg #[tv,nv],.int .i64 ((aj.length:Int) - 1)] w λe w'=>e=.returned (.tuple #[.string ⟨D.toArray⟩,.int .i64 0])/\Below w.heap.size w w':=by
 have HR:=ay (λW (hW:Below w.heap.size w W)=>YH G B tv nv W (h.below (hW.mono hB)) (iY hB hW.size));have hdl:=G.aiu;have HD:=ay (λW (hW:Below w.heap.size w W)=>KC G B W.heap.size W.heap.size tv nv aj.length ((aj.length:Int) - 1) D [] (W.alloc (.cells #[.pointer none,.slice none 0 0] 149)) (h.below ((hW.alloc hW.size _).mono hB)) (iY hB hW.size) (kW.fresh W) (by simp) G.dump (by rw[iF];omega));obtain⟨at_,ct,an,cn,hv⟩:=h.slices;simp only[Value.agg.injEq,Array.mk.injEq,List.cons.injEq,and_true] at hv;obtain⟨rfl,rfl⟩:=hv;have hbb:=(bY w.heap.size w).alloc (bI _) (.cells #[.slice at_ ah.length ct,.slice an aj.length cn] 81);have e1:=aZ w (.cells #[.slice at_ ah.length ct,.slice an aj.length cn] 81);clear h G;go_enter Tryz.func103,Tryz.ntmps103
 go_upto_region 4 with (go_at_call 170;refine(HR.out _ hbb).mono ?_;rintro e w3 ⟨rfl,hb3⟩)
 have T3:=(hb3.block w.heap.size (by simp)).trans e1;have hb4:=hbb.trans (hb3.mono (by simp));have HD3:=ay (HD.out w3 hb4);have T4:=(iB w3 (.cells #[.pointer none,.slice none 0 0] 149) w.heap.size (bU T3).1).trans T3;have hb5:=hb4.alloc hb4.size (.cells #[.pointer none,.slice none 0 0] 149);obtain⟨c0,c1⟩:=dn T4;have hz3:=hb4.size;clear hb3 e1 T3 T4 HR hbb HD;go_wp2_with (first|(go_at_call 171;refine HD3.out.mono ?_;rintro e w6 ⟨rfl,ah4,hl6,ho6⟩;rw[qW] at ah4;have hz6:=hl6.size;simp only[oU] at hz6)|(go_at_call 72;refine(D8 w3.heap.size w3.heap.size D _ ah4 (by omega)).mono ?_;rintro e w7 ⟨rfl,aks,hl7,ho7⟩));go_ret2;exact⟨rfl,hb5.trans ((hl6.mono hz3).trans (hl7.mono hz3))⟩
theorem Rq (B:Nat)(tv nv:Value)(ah:List Tok)(w:World)(hl:ah.length<=1099511627776)(hn:iC ah ah.length<=1099511627776)(h:Rec B w tv 4 dW ah)(hB:B<=w.heap.size) :
  Calls Tryz.prog 104 #[.agg #[tv,nv]] w λe w'=>e=.returned (.string ⟨(iL ah).toArray⟩)/\Below w.heap.size w w':=by
 have HW:=ay (λW (hW:Below w.heap.size w W)=>WW tv ah W hl hn ((h.below (hW.mono hB)).mono (iY hB hW.size)));obtain⟨X,hX,eX⟩:=jV (iL ah);rw[eX] at HW |-;have hbb:=(bY w.heap.size w).alloc (bI _) (.cells #[tv,nv] 81);clear h;go_enter Tryz.func104,Tryz.ntmps104;go_wp2_with (go_at_call 172;refine(HW.out _ hbb).mono ?_;rintro e w3 ⟨rfl,hb3⟩);go_ret;exact⟨rfl,hbb.trans (hb3.mono (by simp))⟩
theorem vJ (at_:Option Addr)(nt ct:Nat)(an:Option Addr)(n cn:Nat)(w:World)(hn:n<=1099511627776) :
  Calls Tryz.prog 60 #[.agg #[.slice at_ nt ct,.slice an n cn]] w λe w'=>e=.returned (.int .i64 ((n:Int) - 1))/\Below w.heap.size w w':=OI _ an n cn w hn
