/- Walks and plain laws: ProgramW1, ProgramW3, ProgramW2. -/
import Derived.Test.YtknicmmigbhpcaaGreatDoorB34
set_option maxHeartbeats 16000000
set_option maxRecDepth 100000
set_option linter.unusedVariables false
set_option linter.unusedSimpArgs false
namespace Go.Proofs.YtknicmmigbhpcaaGreatDoor
open Go.RowKit Go
theorem Xk (E:aT)(hE:E.ok)(b c:ByteArray)(st:aB)(w:World)(h:PW E st w)(hn:st.nodes.length+1≤1099511627776) :
  Calls Tryz.prog 168 #[.pointer (some ⟨E.pb,0,none⟩),.slice (some ⟨w.heap.size,0,none⟩) 2 2] (w.alloc (.cells #[.string b,.string c] 9)) (dx E (aA E.toks [b.data.toList,c.data.toList] st) w):=by
 have hA:=h.later (aj w (.cells #[.string b,.string c] 9));refine(JM E hE _ _ st _ hA (JO w b c) (by simp) hn).mono ?_;rintro e w' ⟨rfl,hp,hk⟩;exact⟨rfl,hp,(Kp.of (aj w _) h.dM).trans hk⟩
theorem Jb (E:aT)(hE:E.ok)(st:aB)(w:World)(hp:PW E st w)(hn:(mh E.toks st).2.nodes.length+1≤1099511627776) :
  Calls Tryz.prog 104 #[.pointer (some ⟨E.pb,0,none⟩)] w (dx E (mh E.toks st) w):=by
 unfold mh at hn ⊢;have n3:=aC (aD _ _ _) hn;have n2:=aC (aF _ _ _) n3;have n1:=aC (dO _ _ _) n2;have n0:=aC (aJ _ _) n1;have HL:=ah (bA E st w hp hE.1 hE.2.1 n0);have HK:=ah (fun w hp=>qg E hE 1 (ay E.toks st).2 w hp n1);have HM:=ah (fun w hp=>dA E hE ⟨#[59]⟩ (aP E.toks 1 (ay E.toks st).2).2 w hp n2);have HN:=ah (fun w hp=>gV E 2 [(ay E.toks st).1,(aP E.toks 1 (ay E.toks st).2).1,(aA E.toks [[59]] (aP E.toks 1 (ay E.toks st).2).2).1] 3 _ (aA E.toks [[59]] (aP E.toks 1 (ay E.toks st).2).2).2 w hp rfl rfl (by omega) n3);clear n0 n1 n2 n3 hn;obtain⟨d0,_,_,_,_,_⟩:=hp.cells;go_enter Tryz.func104,Tryz.ntmps104;go_wp2_with (go_at_call 167;refine HL.out.mono ?_);rintro e w1 ⟨rfl,hp1,hk1⟩;clear d0;go_wp2_with (go_at_call 107;refine(HK.out _ hp1).mono ?_);rintro e w2 ⟨rfl,hp2,hk2⟩;go_wp2_with (go_at_call 168;refine(HM.out _ hp2).mono ?_);rintro e w3 ⟨rfl,hp3,hk3⟩;go_wp2_with (go_at_call 106;refine(HN.out _ hp3).mono ?_);rintro e w4 ⟨rfl,nA,hk4⟩;go_wp2;go_ret;exact⟨rfl,nA,((hk1.trans hk2).trans hk3).trans hk4⟩
def abB (E:aT)(W0:World)(r:List Int × aB)(e:Ending)(w':World):Prop:=∃ v R,e=.returned v∧iO E W0 R v r.1 r.2 w'
theorem Gw (E:aT)(hE:E.ok)(g:Nat)(W0:World)(R:List Nat)(v:Value)(ks:List Int)(st:aB)(r:List Int × aB)(w:World)(h:gB E.toks E.depth g ks st=some r)(K0:iO E W0 R v ks st w)(hB:E.B≤W0.heap.size)(hn:r.2.nodes.length+1≤1099511627776)(hcl:st.clause=false)(hks:ks.length≤1000000) :
  Calls Tryz.prog 171 #[.pointer (some ⟨E.pb,0,none⟩),v] w (abB E W0 r):=by
 have rX:=hE.2.2;obtain⟨i0,hi,hz0,hz1,hz2⟩:=info_parts Tryz.kS
 have n3:(dD E.toks st).2.nodes.length+1≤1099511627776:=by
  unfold gB at h
  split at h
  ·obtain⟨n,h1,h⟩:=bH h
   obtain rfl:=Option.some.inj h;exact aC (zU h1) hn
  ·obtain rfl:=Option.some.inj h
   exact hn
 have n2:(vN E.toks st).2.nodes.length+1≤1099511627776:=aC (aD _ _ _) n3;have n1:(jE E.toks st).2.nodes.length+1≤1099511627776:=aC (aF _ _ _) n2;have n0:=aC (aF E.toks [[58]] st) n1
 have hc3:(dD E.toks st).2.clause=false:=by rw[(yV E.toks st).2.2.1];exact hcl
 obtain⟨ao,cap,rfl⟩:=mJ K0.1;have Zz:=ah (dA { E with R:=R } hE ⟨#[58]⟩ st w K0.2.2.2.1 n0);have TD:=ah (fun R w hp=>Xk { E with R:=R } hE ⟨#[105,110,116]⟩ ⟨#[98,111,111,108]⟩ (jE E.toks st).2 w hp n1);have HM3:=ah (fun R w hp=>gV { E with R:=R } 5 [(vN E.toks st).1] 1 _ (vN E.toks st).2 w hp rfl rfl (by omega) n2);have H0:=ah h;have HN:=ah hn;clear n0 n1 n2 h hn;go_enter Tryz.func171,Tryz.ntmps171;go_wp2_with (go_at_call 168;refine Zz.out.mono ?_);rintro e w1 ⟨rfl,hq,hkq⟩;have K1:=K0.call hq hkq;clear hq hkq Zz;have hL:=K1.lit (.cells #[.int .i64 (jE E.toks st).1] 3);have hnw:=heap_alloc_new w1 (.cells #[.int .i64 (jE E.toks st).1] 3);go_wp2_with (at_builtin;refine wpList_append_lies _ rfl _ _ 51 rfl W0.heap.size 3 i0 (.int .i64 0) 1 8 Tryz.underlying51 hi hz0 hz1 hz2 rfl (by decide) _ (ks.length) _ rfl (hL.row (rfl:ks.length=ks.length)) ⟨w1.heap.size,0,none⟩ 1 1 [.int .i64 (jE E.toks st).1] rfl rfl ?c1 ?c2 ?c3 ?c4 ?c5 ?c6 _ rfl ?_)
 case c1=>exact World.news_of_block (cs:=#[.int .i64 (jE E.toks st).1]) (t:=3) (fr:=(0,0)) hnw
 case c2=>simp[Value.oneCell']
 case c3=>omega
 case c4=>unfold maxLen;omega
 case c5=>omega
 case c6=>exact hL.2.2.2.2.size
 intro g2 cap2 w2 hown hgrow hat hlt;obtain⟨R2,K2⟩:=hL.app (news:=[(jE E.toks st).1]) (n:=ks.length+1) hB (by rw[bN,(rfl:ks.length=ks.length)];rfl) hown hgrow hat (by simp) hlt;clear hL hnw hown hgrow hat hlt;generalize hkk:ks++[(jE E.toks st).1]=kk2 at K2;have HL2:Hid (kk2.length=ks.length+1):=ah (by rw[← hkk,bN,(rfl:ks.length=ks.length)];rfl);have HK2:=ah hkk;clear hkk;have HM:=ah (TD.out R2 _ K2.2.2.2.1);clear TD K1 K0;go_wp2_with (go_at_call 168;refine HM.out.mono ?_);rintro e w3 ⟨rfl,hq,hkq⟩;have K3:=K2.call hq hkq;clear hq hkq HM;have HM:=ah (HM3.out R2 _ K3.2.2.2.1);clear HM3 K2;go_wp2_with (go_at_call 106;refine HM.out.mono ?_);rintro e w4 ⟨rfl,hq,hkq⟩;have K4:=K3.call hq hkq;clear hq hkq HM;clear K3;have hL:=K4.lit (.cells #[.int .i64 (dD E.toks st).1] 3);have hnw:=heap_alloc_new w4 (.cells #[.int .i64 (dD E.toks st).1] 3);go_wp2_with (at_builtin;refine wpList_append_lies _ rfl _ _ 51 rfl W0.heap.size 3 i0 (.int .i64 0) 1 8 Tryz.underlying51 hi hz0 hz1 hz2 rfl (by decide) _ (ks.length+1) _ rfl (hL.row HL2.out) ⟨w4.heap.size,0,none⟩ 1 1 [.int .i64 (dD E.toks st).1] rfl rfl ?c1 ?c2 ?c3 ?c4 ?c5 ?c6 _ rfl ?_)
 case c1=>exact World.news_of_block (cs:=#[.int .i64 (dD E.toks st).1]) (t:=3) (fr:=(0,0)) hnw
 case c2=>simp[Value.oneCell']
 case c3=>omega
 case c4=>unfold maxLen;omega
 case c5=>omega
 case c6=>exact hL.2.2.2.2.size
 intro g5 cap5 w5 hown hgrow hat hlt;obtain⟨R5,K5⟩:=hL.app (news:=[(dD E.toks st).1]) (n:=ks.length+1+1) hB (by rw[bN,HL2.out];rfl) hown hgrow hat (by simp) hlt;clear hL hnw hown hgrow hat hlt;generalize hkk:kk2++[(dD E.toks st).1]=kk5 at K5;have HL5:Hid (kk5.length=ks.length+1+1):=ah (by rw[← hkk,bN,HL2.out];rfl);have HK5:=ah hkk;clear hkk;clear K4;have H5:Hid (kk5=ks++[(jE E.toks st).1,(dD E.toks st).1]):=ah (by rw[← HK5.out,← HK2.out];simp)
 by_cases hf:(dD E.toks st).2.fE=0
 ·have HO:=ah (jr { E with R:=R5 } (dD E.toks st).2 hf _ K5.2.2.2.1)
  by_cases hx:aS E.toks (dD E.toks st).2 [[123]]=true
  ·have h:=H0.out
   unfold gB at h;rw[if_pos ⟨hf,hx⟩] at h;obtain⟨n,h1,h⟩:=bH h;obtain rfl:=Option.some.inj h;have hn:=HN.out;unfold je at h1;obtain⟨f,h2,h1⟩:=bH h1;obtain rfl:=Option.some.inj h1;rw[hc3] at hn;have m3:=aC (aD _ _ _) hn;have m2':(jF f.2 false).nodes.length+1≤1099511627776:=aC (aF E.toks [[125]] (jF f.2 false)) m3;have m2:f.2.nodes.length+1≤1099511627776:=m2';have m1':(jF (ay E.toks (dD E.toks st).2).2 true).nodes.length+1≤1099511627776:=aC (aO _ _ _ _ _ _ h2) m2;have m1:(ay E.toks (dD E.toks st).2).2.nodes.length+1≤1099511627776:=m1';have HX:=ah (fun w hp=>dn { E with R:=R5 } hE ⟨#[123]⟩ (dD E.toks st).2 true hx w hp);have HLf:=ah (fun w hp=>bA { E with R:=R5 } (dD E.toks st).2 w hp hE.1 hE.2.1 n3);have HEx:=ah (fun w hp=>allT { E with R:=R5 } hE g (.expr 1) (jF (ay E.toks (dD E.toks st).2).2 true) f w h2 hp m2 (by show 1≤_;omega));have HMu:=ah (fun w hp=>dA { E with R:=R5 } hE ⟨#[125]⟩ (jF f.2 false) w hp m2);have TJ:=ah (fun w hp=>gV { E with R:=R5 } 6 [(ay E.toks (dD E.toks st).2).1,f.1,(aA E.toks [[125]] (jF f.2 false)).1] 3 _ (aA E.toks [[125]] (jF f.2 false)).2 w hp rfl rfl (by omega) m3);clear h2 hn m1 m2 m1' m2' m3 n3 hf hx H0 HN;go_wp2_with (go_at_call 101;refine HO.out.mono ?_);rintro e w6 ⟨rfl,hq,hkq⟩;have K6:=K5.call hq hkq;clear hq hkq HO K5;go_wp2_with (go_at_call 165;refine(HX.out _ K6.2.2.2.1).mono ?_);rintro e w7 ⟨rfl,hq,hkq⟩;have K7:=K6.call hq hkq;clear hq hkq HX K6;obtain⟨d0,_,_,_,_,_⟩:=PW.cells K7.2.2.2.1;go_wp2_with (go_at_call 167;refine(HLf.out _ K7.2.2.2.1).mono ?_);rintro e w8 ⟨rfl,hq,hkq⟩;have K8:=K7.call hq hkq;clear hq hkq HLf K7 d0;obtain⟨hm8,ado⟩:=PW.mark K8.2.2.2.1 true;have hz8:w8.frozen? ⟨E.pb,2,none⟩=false:=(PW.cells K8.2.2.2.1).2.2.2.2.2 2;have c8:=(PW.cells K8.2.2.2.1).2.2.1;have K9:=K8.call hm8 ado;have HEY:=ah (HEx.out _ K9.2.2.2.1);clear hm8 ado HEx K8
   go_wp2_with (go_at_call 172;refine HEY.out.mono ?_);rintro e jT ⟨rfl,hq,hkq⟩;have Fv:=K9.call hq hkq;clear hq hkq HEY K9 hz8 c8;obtain⟨adp,aat⟩:=PW.mark Fv.2.2.2.1 false;have aa8:jT.frozen? ⟨E.pb,2,none⟩=false:=(PW.cells Fv.2.2.2.1).2.2.2.2.2 2;have c10:=(PW.cells Fv.2.2.2.1).2.2.1;have yR:=Fv.call adp aat;have hMV:=HMu.out _ yR.2.2.2.1;rw[show (jT.setCell ⟨E.pb,2,none⟩ (.bool false)).heap.size=jT.heap.size by simp] at hMV;have HMV:=ah hMV;clear hMV;clear adp aat HMu Fv;go_wp2_with (go_at_call 168;refine HMV.out.mono ?_);rintro e w12 ⟨rfl,hq,hkq⟩;have yH:=yR.call hq hkq;clear hq hkq HMV yR aa8 c10;have HNV:=ah (TJ.out _ yH.2.2.2.1);clear TJ;go_wp2_with (go_at_call 106;refine HNV.out.mono ?_);rintro e w13 ⟨rfl,hq,hkq⟩;have Aw:=yH.call hq hkq;clear hq hkq HNV yH;have hL:=Aw.lit (.cells #[.int .i64 (aY 6 [(ay E.toks (dD E.toks st).2).1,f.1,(aA E.toks [[125]] (jF f.2 false)).1] (aA E.toks [[125]] (jF f.2 false)).2).1] 3);have hnw:=heap_alloc_new w13 (.cells #[.int .i64 (aY 6 [(ay E.toks (dD E.toks st).2).1,f.1,(aA E.toks [[125]] (jF f.2 false)).1] (aA E.toks [[125]] (jF f.2 false)).2).1] 3);go_wp2_with (at_builtin;refine wpList_append_lies _ rfl _ _ 51 rfl W0.heap.size 3 i0 (.int .i64 0) 1 8 Tryz.underlying51 hi hz0 hz1 hz2 rfl (by decide) _ (ks.length+1+1) _ rfl (hL.row HL5.out) ⟨w13.heap.size,0,none⟩ 1 1 [.int .i64 (aY 6 [(ay E.toks (dD E.toks st).2).1,f.1,(aA E.toks [[125]] (jF f.2 false)).1] (aA E.toks [[125]] (jF f.2 false)).2).1] rfl rfl ?c1 ?c2 ?c3 ?c4 ?c5 ?c6 _ rfl ?_)
   case c1=>exact World.news_of_block (cs:=#[.int .i64 (aY 6 [(ay E.toks (dD E.toks st).2).1,f.1,(aA E.toks [[125]] (jF f.2 false)).1] (aA E.toks [[125]] (jF f.2 false)).2).1]) (t:=3) (fr:=(0,0)) hnw
   case c2=>simp[Value.oneCell']
   case c3=>omega
   case c4=>unfold maxLen;omega
   case c5=>omega
   case c6=>exact hL.2.2.2.2.size
   intro g14 adq w14 hown hgrow hat hlt;obtain⟨R14,K14⟩:=hL.app (news:=[(aY 6 [(ay E.toks (dD E.toks st).2).1,f.1,(aA E.toks [[125]] (jF f.2 false)).1] (aA E.toks [[125]] (jF f.2 false)).2).1]) (n:=ks.length+1+1+1) hB (by rw[bN,HL5.out];rfl) hown hgrow hat (by simp) hlt;clear hL hnw hown hgrow hat hlt;generalize hkk:kk5++[(aY 6 [(ay E.toks (dD E.toks st).2).1,f.1,(aA E.toks [[125]] (jF f.2 false)).1] (aA E.toks [[125]] (jF f.2 false)).2).1]=aeN at K14;have afO:Hid (aeN.length=ks.length+1+1+1):=ah (by rw[← hkk,bN,HL5.out];rfl);have aeO:=ah hkk;clear hkk;go_wp2;go_ret;have e14:=K14;rw[← aeO.out,H5.out] at e14;simp only[List.append_assoc,List.cons_append,List.nil_append] at e14;refine⟨.slice (some ⟨g14,0,none⟩) (ks.length+1+1+1) adq,R14,rfl,?_⟩;rw[hc3];exact e14
  ·have h:=H0.out
   unfold gB at h;rw[if_neg (fun q=>hx q.2)] at h;obtain rfl:=Option.some.inj h;have HX:=ah (fun w hp=>dn { E with R:=R5 } hE ⟨#[123]⟩ (dD E.toks st).2 false (eq_false_of_ne_true hx) w hp);clear n3 hf hx H0 HN;go_wp2_with (go_at_call 101;refine HO.out.mono ?_);rintro e w6 ⟨rfl,hq,hkq⟩;have K6:=K5.call hq hkq;clear hq hkq HO K5;go_wp2_with (go_at_call 165;refine(HX.out _ K6.2.2.2.1).mono ?_);rintro e w7 ⟨rfl,hq,hkq⟩;have K7:=K6.call hq hkq;clear hq hkq HX K6;go_wp2;go_ret;rw[H5.out] at K7;exact⟨_,R5,rfl,K7⟩
 ·have h:=H0.out
  unfold gB at h;rw[if_neg (fun q=>hf q.1)] at h;obtain rfl:=Option.some.inj h;have HO:=ah (rP { E with R:=R5 } (dD E.toks st).2 hf _ K5.2.2.2.1);clear n3 hf H0 HN;go_wp2_with (go_at_call 101;refine HO.out.mono ?_);rintro e w6 ⟨rfl,hq,hkq⟩;have K6:=K5.call hq hkq;clear hq hkq HO K5;go_wp2;go_ret;rw[H5.out] at K6;exact⟨_,R5,rfl,K6⟩
theorem Td (E:aT)(hE:E.ok)(g:Nat)(st:aB)(r:Int × aB)(w:World)(h:iQ E.toks E.depth g st=some r)(hp:PW E st w)(hn:r.2.nodes.length+1≤1099511627776)(hcl:st.clause=false) :
  Calls Tryz.prog 170 #[.pointer (some ⟨E.pb,0,none⟩)] w (dx E r w):=by
 unfold iQ at h;obtain⟨l,h1,h⟩:=bH h;obtain rfl:=Option.some.inj h;have n2:=aC (aD _ _ _) hn;have n1:=aC (jg h1) n2;have n0:=aC (dO _ _ _) n1
 have hll:l.1.length≤4:=by
  unfold gB at h1
  split at h1
  ·obtain⟨n,h2,h1⟩:=bH h1
   obtain rfl:=Option.some.inj h1
   simp
  ·obtain rfl:=Option.some.inj h1
   simp
 have HK:=ah (qg E hE 1 st w hp n0)
 have hc1:(aP E.toks 1 st).2.clause=false:=by rw[(dO E.toks 1 st).2.2.1];exact hcl
 have HB:E.B≤w.heap.size:=hp.dM;have HT:=ah (fun W R v K=>Gw E hE g w R v _ _ l W h1 K HB n2 hc1 (by simp));have HN:=ah (fun R w v hq hv=>jN { E with R:=R } 4 v l.1 l.2 w hq hv (by omega) n2);clear n0 n1 n2 hn h1 h hc1;go_enter Tryz.func170,Tryz.ntmps170;go_wp2_with (go_at_call 107;refine HK.out.mono ?_);rintro e w1 ⟨rfl,hp1,hk1⟩;have K1:=iO.start (W0:=w) (aP E.toks 1 st).1 hp1 hk1;have HTy:=ah (HT.out _ _ _ K1);clear HT hp1 hk1 K1 HK;go_wp2_with (go_at_call 171;refine HTy.out.mono ?_);rintro e w2 ⟨v,R2,rfl,K2⟩;have TJ:=ah (HN.out R2 _ v K2.2.2.2.1 K2.node);clear HN HTy;obtain⟨ao,cap,rfl⟩:=mJ K2.1;go_wp2_with (go_at_call 106;refine TJ.out.mono ?_);rintro e w3 ⟨rfl,hq,hkq⟩;have K3:=K2.call hq hkq;go_wp2;go_ret;exact⟨rfl,PR.drop K3.2.2.2.1 K3.2.2.1,K3.2.2.2.2⟩
def slN:Value→Nat | .slice _ n _=>n|_=>0
theorem iO.lift {E:aT}{W0 W1:World}{R:List Nat}{v:Value}{ks:List Int}{s:aB}{w:World}(h:iO E W1 R v ks s w)(hk:Kp E.B W0 W1):iO E W0 R v ks s w:=by
 obtain⟨h1,h2,h3,h4,h5⟩:=h;refine⟨⟨h1.1,?_⟩,h2,h3,h4,hk.trans h5⟩
 rcases h1.2 with hn|⟨g,cap,cur,hv,hg,hr⟩
 ·exact .inl hn
 ·exact .inr ⟨g,cap,cur,hv,Nat.le_trans hk.size hg,hr⟩
theorem iO.none {E:aT}{w:World}{s:aB}(hp:PW E s w):iO E w E.R (.slice none 0 0) [] s w:=⟨World.ownsRow_nil _ _ _ _,fun b q=>by simp[Value.ownBlock] at q,fun _ q=>q,hp,Kp.refl _ _⟩
theorem A9 (E:aT)(hE:E.ok)(v:Value)(l:List (List UInt8))(st:aB)(x:Bool)(hx:aS E.toks st l=x)(w:World)(hp:PW E st w)(hv:j4 w v l)(hl:l.length≤1000) :
  Calls Tryz.prog 165 #[.pointer (some ⟨E.pb,0,none⟩),v] w (qh E st x w):=by
 subst hx
 exact(sO E v l st w hp hv hE.1 hE.2.1 hl).mono fun e w' ⟨he,hb⟩=>⟨he,hp.later hb,Kp.of hb hp.dM⟩
def aau (E:aT)(one:aB→Option (Int × aB))(first:List (List UInt8))(most:Nat)(res:List Int × aB)(w0:World)(kv:Value)(wr:World):Prop :=
 ∃ (r:Nat) (kids:List Int) (s:aB) (R:List Nat),kids.length+r=most∧jf E.toks one first r kids s=some res∧iO E w0 R kv kids s wr∧s.clause=false∧(kids=[]→kv=.slice none 0 0)
def Xl (E:aT)(W0:World)(r:List Int × aB)(e:Ending)(w':World):Prop:=∃ v R,e=.returned v∧(r.1=[]→v=.slice none 0 0)∧iO E W0 R v r.1 r.2 w'
theorem AJ (E:aT)(hE:E.ok)(one:aB→Option (Int × aB))(first:List (List UInt8))(fa:Option Addr)(fc:Nat)(most:Nat)(hm:most≤1000)(st:aB)(res:List Int × aB)(w:World)(h:jf E.toks one first most [] st=some res)(hp:PW E st w)(hn:res.2.nodes.length+1≤1099511627776)(hcl:st.clause=false)
  (hF:∀ wr,Kp E.B w wr→j4 wr (.slice fa first.length fc) first) (hfl:first.length≤1000) (hext:∀ s k,one s=some k→bZ s k.2)
  (hone:∀ (R:List Nat) (s:aB) (k:Int × aB) (w':World),s.clause=false→one s=some k→PR E R s w'→k.2.nodes.length+1≤1099511627776 →
   Calls Tryz.prog 104 #[.pointer (some ⟨E.pb,0,none⟩)] w' (dx { E with R:=R } k w')) :
  Calls Tryz.prog 103 #[.pointer (some ⟨E.pb,0,none⟩),.int .i64 most,.func (.func 104) #[.pointer (some ⟨E.pb,0,none⟩)] #[],.slice fa first.length fc] w (Xl E w res):=by
 obtain⟨i0,hi,hz0,hz1,hz2⟩:=info_parts Tryz.kS;have H0:=ah h;have BD:=ah hone;have EA:=ah hext;have HN:=ah hn;have HE:=ah hE;have HF:=ah hF;have HFL:=ah hfl;have HM:=ah hm;clear hone hext h hn hF hE hfl hm;go_enter Tryz.func103,Tryz.ntmps103;go_wp2
 go_loopw [9] (fun kv wr=>aau E one first most res w kv wr) (fun kv _=>most - slN kv)
 case atStart=>exact⟨most,[],st,E.R,by simp,H0.out,iO.none hp,hcl,fun _=>rfl⟩
 case round =>
  obtain⟨r,kids,s,R,hlen,hl,K0,hsc,hnil⟩:=hrel;have uP:=ah hnil;clear hnil;obtain⟨ao,cap,rfl⟩:=mJ K0.1;have hBw:E.B≤w.heap.size:=hp.dM;have hm:=HM.out
  by_cases hf:s.fE=0
  ·have HO:=ah (jr { E with R:=R } s hf _ K0.2.2.2.1)
   by_cases hx:aS E.toks s first=true
   ·have HX:=ah (fun w hp hv=>A9 { E with R:=R } HE.out (.slice fa first.length fc) first s true hx w hp hv HFL.out)
    cases r with
    | zero =>
     rw[jf,if_pos ⟨hf,hx⟩] at hl
     injection hl with hl
     have X5:=ah (fun w hp=>kC { E with R:=R } HE.out 15 s w hp);have HL:=ah hl
     have hkb:((kids.length:Int) == (most:Int))=true:=by rw[beq_iff_eq];omega
     have hkn:(kids.length == most)=true:=by rw[beq_iff_eq];omega
     clear hl hf hx hlen;go_wp2_with (go_at_call 101;refine HO.out.mono ?_);rintro e w2 ⟨rfl,hq,hkq⟩;have K2:=K0.call hq hkq;clear hq hkq;go_wp2_with (go_at_call 165;refine(HX.out _ K2.2.2.2.1 (HF.out _ K2.2.2.2.2)).mono ?_);rintro e w3 ⟨rfl,hq,hkq⟩;have K3:=K2.call hq hkq;clear hq hkq;go_wp2_with (go_at_call 166;refine(X5.out _ K3.2.2.2.1).mono ?_);rintro e w4 ⟨rfl,hq,hkq⟩;have K4:=K3.call hq hkq;clear hq hkq;go_wp2;go_ret;have e4:=HL.out;subst e4;exact⟨_,R,rfl,uP.out,K4⟩
    | succ r =>
     rw[jf,if_pos ⟨hf,hx⟩] at hl;obtain⟨k,h1,hl⟩:=bH hl;have hnk:k.2.nodes.length+1≤1099511627776:=aC (mK EA.out _ _ _ _ hl) HN.out;have HCK:Hid (k.2.clause=false):=ah (by rw[(EA.out s k h1).2.2.1];exact hsc);have HK:=ah (fun w' hp=>BD.out R s k w' hsc h1 hp hnk);have HL:=ah hl
     have hkb:((kids.length:Int) == (most:Int))=false:=by rw[← Bool.not_eq_true,beq_iff_eq];omega
     have hkn:(kids.length == most)=false:=by rw[← Bool.not_eq_true,beq_iff_eq];omega
     have HLEN:=ah hlen
     have hkl:kids.length≤1000:=by omega
     clear hl h1 hf hx hlen hnk;go_wp2_with (go_at_call 101;refine HO.out.mono ?_);rintro e w2 ⟨rfl,hq,hkq⟩;have K2:=K0.call hq hkq;clear hq hkq;go_wp2_with (go_at_call 165;refine(HX.out _ K2.2.2.2.1 (HF.out _ K2.2.2.2.2)).mono ?_);rintro e w3 ⟨rfl,hq,hkq⟩;have K3:=K2.call hq hkq;clear hq hkq K2 K0;go_wp2_with (go_at_call 104;refine(HK.out _ K3.2.2.2.1).mono ?_);rintro e w4 ⟨rfl,hq,hkq⟩;have K4:=K3.call hq hkq;clear hq hkq K3;have hL:=K4.lit (.cells #[.int .i64 k.1] 3);have hnw:=heap_alloc_new w4 (.cells #[.int .i64 k.1] 3);go_wp2_with (at_builtin;refine wpList_append_lies _ rfl _ _ 51 rfl w.heap.size 3 i0 (.int .i64 0) 1 8 Tryz.underlying51 hi hz0 hz1 hz2 rfl (by decide) _ (kids.length) _ rfl hL.1 ⟨w4.heap.size,0,none⟩ 1 1 [.int .i64 k.1] rfl rfl ?c1 ?c2 ?c3 ?c4 ?c5 ?c6 _ rfl ?_)
     case c1=>exact World.news_of_block (cs:=#[.int .i64 k.1]) (t:=3) (fr:=(0,0)) hnw
     case c2=>simp[Value.oneCell']
     case c3=>omega
     case c4=>unfold maxLen;omega
     case c5=>omega
     case c6=>exact hL.2.2.2.2.size
     intro g5 cap5 w5 hown hgrow hat hlt;obtain⟨R5,K5⟩:=hL.app (news:=[k.1]) hBw (by simp) hown hgrow hat (by simp) hlt;clear hL hnw hown hgrow hat hlt K4;go_wp2
     go_roundw
     case rel=>exact⟨r,kids++[k.1],k.2,R5,by have:=HLEN.out;simp;omega,HL.out,K5,HCK.out,fun q=>by simp at q⟩
     case measure=>have:=HLEN.out;simp[slN];omega
   ·have hl':(kids,s)=res:=by
     cases r with
     | zero=>rw[jf,if_neg (fun q=>hx q.2)] at hl;injection hl
     | succ r=>rw[jf,if_neg (fun q=>hx q.2)] at hl;injection hl
    have HX:=ah (fun w hp hv=>A9 { E with R:=R } HE.out (.slice fa first.length fc) first s false (eq_false_of_ne_true hx) w hp hv HFL.out);have HL:=ah hl';clear hl hl' hf hx hlen;go_wp2_with (go_at_call 101;refine HO.out.mono ?_);rintro e w2 ⟨rfl,hq,hkq⟩;have K2:=K0.call hq hkq;clear hq hkq;go_wp2_with (go_at_call 165;refine(HX.out _ K2.2.2.2.1 (HF.out _ K2.2.2.2.2)).mono ?_);rintro e w3 ⟨rfl,hq,hkq⟩;have K3:=K2.call hq hkq;clear hq hkq;go_wp2;go_ret;have e4:=HL.out;subst e4;exact⟨_,R,rfl,uP.out,K3⟩
  ·have HO:=ah (rP { E with R:=R } s hf _ K0.2.2.2.1)
   have hl':(kids,s)=res:=by
    cases r with
    | zero=>rw[jf,if_neg (fun q=>hf q.1)] at hl;injection hl
    | succ r=>rw[jf,if_neg (fun q=>hf q.1)] at hl;injection hl
   have HL:=ah hl';clear hl hl' hf hlen;go_wp2_with (go_at_call 101;refine HO.out.mono ?_);rintro e w2 ⟨rfl,hq,hkq⟩;have K2:=K0.call hq hkq;clear hq hkq;go_wp2;go_ret;have e4:=HL.out;subst e4;exact⟨_,R,rfl,uP.out,K2⟩
theorem Jc (E:aT)(hE:E.ok)(one:aB→Option (Int × aB))(first:List (List UInt8))(fa:Option Addr)(fc:Nat)(most:Nat)(hm:most≤1000)(st:aB)(res:List Int × aB)(w:World)(h:jf E.toks one first most [] st=some res)(hp:PW E st w)(hn:res.2.nodes.length+1≤1099511627776)(hcl:st.clause=false)
  (hF:∀ wr,Kp E.B w wr→j4 wr (.slice fa first.length fc) first) (hfl:first.length≤1000) (hext:∀ s k,one s=some k→bZ s k.2)
  (hone:∀ (R:List Nat) (s:aB) (k:Int × aB) (w':World),s.clause=false→one s=some k→PR E R s w'→k.2.nodes.length+1≤1099511627776 →
   Calls Tryz.prog 105 #[.pointer (some ⟨E.pb,0,none⟩)] w' (dx { E with R:=R } k w')) :
  Calls Tryz.prog 103 #[.pointer (some ⟨E.pb,0,none⟩),.int .i64 most,.func (.func 105) #[.pointer (some ⟨E.pb,0,none⟩)] #[],.slice fa first.length fc] w (Xl E w res):=by
 obtain⟨i0,hi,hz0,hz1,hz2⟩:=info_parts Tryz.kS;have H0:=ah h;have BD:=ah hone;have EA:=ah hext;have HN:=ah hn;have HE:=ah hE;have HF:=ah hF;have HFL:=ah hfl;have HM:=ah hm;clear hone hext h hn hF hE hfl hm;go_enter Tryz.func103,Tryz.ntmps103;go_wp2
 go_loopw [9] (fun kv wr=>aau E one first most res w kv wr) (fun kv _=>most - slN kv)
 case atStart=>exact⟨most,[],st,E.R,by simp,H0.out,iO.none hp,hcl,fun _=>rfl⟩
 case round =>
  obtain⟨r,kids,s,R,hlen,hl,K0,hsc,hnil⟩:=hrel;have uP:=ah hnil;clear hnil;obtain⟨ao,cap,rfl⟩:=mJ K0.1;have hBw:E.B≤w.heap.size:=hp.dM;have hm:=HM.out
  by_cases hf:s.fE=0
  ·have HO:=ah (jr { E with R:=R } s hf _ K0.2.2.2.1)
   by_cases hx:aS E.toks s first=true
   ·have HX:=ah (fun w hp hv=>A9 { E with R:=R } HE.out (.slice fa first.length fc) first s true hx w hp hv HFL.out)
    cases r with
    | zero =>
     rw[jf,if_pos ⟨hf,hx⟩] at hl
     injection hl with hl
     have X5:=ah (fun w hp=>kC { E with R:=R } HE.out 15 s w hp);have HL:=ah hl
     have hkb:((kids.length:Int) == (most:Int))=true:=by rw[beq_iff_eq];omega
     have hkn:(kids.length == most)=true:=by rw[beq_iff_eq];omega
     clear hl hf hx hlen;go_wp2_with (go_at_call 101;refine HO.out.mono ?_);rintro e w2 ⟨rfl,hq,hkq⟩;have K2:=K0.call hq hkq;clear hq hkq;go_wp2_with (go_at_call 165;refine(HX.out _ K2.2.2.2.1 (HF.out _ K2.2.2.2.2)).mono ?_);rintro e w3 ⟨rfl,hq,hkq⟩;have K3:=K2.call hq hkq;clear hq hkq;go_wp2_with (go_at_call 166;refine(X5.out _ K3.2.2.2.1).mono ?_);rintro e w4 ⟨rfl,hq,hkq⟩;have K4:=K3.call hq hkq;clear hq hkq;go_wp2;go_ret;have e4:=HL.out;subst e4;exact⟨_,R,rfl,uP.out,K4⟩
    | succ r =>
     rw[jf,if_pos ⟨hf,hx⟩] at hl;obtain⟨k,h1,hl⟩:=bH hl;have hnk:k.2.nodes.length+1≤1099511627776:=aC (mK EA.out _ _ _ _ hl) HN.out;have HCK:Hid (k.2.clause=false):=ah (by rw[(EA.out s k h1).2.2.1];exact hsc);have HK:=ah (fun w' hp=>BD.out R s k w' hsc h1 hp hnk);have HL:=ah hl
     have hkb:((kids.length:Int) == (most:Int))=false:=by rw[← Bool.not_eq_true,beq_iff_eq];omega
     have hkn:(kids.length == most)=false:=by rw[← Bool.not_eq_true,beq_iff_eq];omega
     have HLEN:=ah hlen
     have hkl:kids.length≤1000:=by omega
     clear hl h1 hf hx hlen hnk;go_wp2_with (go_at_call 101;refine HO.out.mono ?_);rintro e w2 ⟨rfl,hq,hkq⟩;have K2:=K0.call hq hkq;clear hq hkq;go_wp2_with (go_at_call 165;refine(HX.out _ K2.2.2.2.1 (HF.out _ K2.2.2.2.2)).mono ?_);rintro e w3 ⟨rfl,hq,hkq⟩;have K3:=K2.call hq hkq;clear hq hkq K2 K0;go_wp2_with (go_at_call 105;refine(HK.out _ K3.2.2.2.1).mono ?_);rintro e w4 ⟨rfl,hq,hkq⟩;have K4:=K3.call hq hkq;clear hq hkq K3;have hL:=K4.lit (.cells #[.int .i64 k.1] 3);have hnw:=heap_alloc_new w4 (.cells #[.int .i64 k.1] 3);go_wp2_with (at_builtin;refine wpList_append_lies _ rfl _ _ 51 rfl w.heap.size 3 i0 (.int .i64 0) 1 8 Tryz.underlying51 hi hz0 hz1 hz2 rfl (by decide) _ (kids.length) _ rfl hL.1 ⟨w4.heap.size,0,none⟩ 1 1 [.int .i64 k.1] rfl rfl ?c1 ?c2 ?c3 ?c4 ?c5 ?c6 _ rfl ?_)
     case c1=>exact World.news_of_block (cs:=#[.int .i64 k.1]) (t:=3) (fr:=(0,0)) hnw
     case c2=>simp[Value.oneCell']
     case c3=>omega
     case c4=>unfold maxLen;omega
     case c5=>omega
     case c6=>exact hL.2.2.2.2.size
     intro g5 cap5 w5 hown hgrow hat hlt;obtain⟨R5,K5⟩:=hL.app (news:=[k.1]) hBw (by simp) hown hgrow hat (by simp) hlt;clear hL hnw hown hgrow hat hlt K4;go_wp2
     go_roundw
     case rel=>exact⟨r,kids++[k.1],k.2,R5,by have:=HLEN.out;simp;omega,HL.out,K5,HCK.out,fun q=>by simp at q⟩
     case measure=>have:=HLEN.out;simp[slN];omega
   ·have hl':(kids,s)=res:=by
     cases r with
     | zero=>rw[jf,if_neg (fun q=>hx q.2)] at hl;injection hl
     | succ r=>rw[jf,if_neg (fun q=>hx q.2)] at hl;injection hl
    have HX:=ah (fun w hp hv=>A9 { E with R:=R } HE.out (.slice fa first.length fc) first s false (eq_false_of_ne_true hx) w hp hv HFL.out);have HL:=ah hl';clear hl hl' hf hx hlen;go_wp2_with (go_at_call 101;refine HO.out.mono ?_);rintro e w2 ⟨rfl,hq,hkq⟩;have K2:=K0.call hq hkq;clear hq hkq;go_wp2_with (go_at_call 165;refine(HX.out _ K2.2.2.2.1 (HF.out _ K2.2.2.2.2)).mono ?_);rintro e w3 ⟨rfl,hq,hkq⟩;have K3:=K2.call hq hkq;clear hq hkq;go_wp2;go_ret;have e4:=HL.out;subst e4;exact⟨_,R,rfl,uP.out,K3⟩
  ·have HO:=ah (rP { E with R:=R } s hf _ K0.2.2.2.1)
   have hl':(kids,s)=res:=by
    cases r with
    | zero=>rw[jf,if_neg (fun q=>hf q.1)] at hl;injection hl
    | succ r=>rw[jf,if_neg (fun q=>hf q.1)] at hl;injection hl
   have HL:=ah hl';clear hl hl' hf hlen;go_wp2_with (go_at_call 101;refine HO.out.mono ?_);rintro e w2 ⟨rfl,hq,hkq⟩;have K2:=K0.call hq hkq;clear hq hkq;go_wp2;go_ret;have e4:=HL.out;subst e4;exact⟨_,R,rfl,uP.out,K2⟩
theorem OO {toks:List Tok}{d g:Nat}{kids:List Int}{st:aB}{r:List Int × aB}(h:gB toks d g kids st=some r):r.1.length≤kids.length+3:=by
 unfold gB at h
 split at h
 ·obtain⟨n,h2,h⟩:=bH h
  obtain rfl:=Option.some.inj h
  simp
 ·obtain rfl:=Option.some.inj h
  simp
theorem Xm (toks:List Tok)(st:aB):(lX toks st).1.length≤1:=by
 unfold lX
 split<;>simp
theorem Ee (E:aT)(hE:E.ok)(g:Nat)(st:aB)(r:Int × aB)(w:World)(h:uQ E.toks E.depth g st=some r)(hp:PW E st w)(hn:r.2.nodes.length+1≤1099511627776)(hcl:st.clause=false) :
  Calls Tryz.prog 105 #[.pointer (some ⟨E.pb,0,none⟩)] w (dx E r w):=by
 have rX:=hE.2.2;obtain⟨i0,hi,hz0,hz1,hz2⟩:=info_parts Tryz.kS;have hB:E.B≤w.heap.size:=hp.dM;unfold uQ at h;obtain⟨l,h1,h⟩:=bH h;obtain⟨t,h2,h⟩:=bH h;obtain⟨f,h3,h⟩:=bH h;obtain rfl:=Option.some.inj h;have n9:=aC (aD _ _ _) hn;have n8:=aC (aF _ _ _) n9;have n7:=aC (aO _ _ _ _ _ _ h3) n8;have n6:=aC (aF _ _ _) n7;have n5:=aC (jg h2) n6;have n4:=aC (aF _ _ _) n5;have n3:(iR E.toks st).2.nodes.length+1≤1099511627776:=aC (kr E.toks _ jG _ _ h1) n4;have n2:(jQ E.toks st).2.nodes.length+1≤1099511627776:=aC (aF _ _ _) n3;have n1:(pJ E.toks st).2.nodes.length+1≤1099511627776:=aC (dO _ _ _) n2;have n0:(lX E.toks st).2.nodes.length+1≤1099511627776:=aC (aF _ _ _) n1;have nl:st.nodes.length+1≤1099511627776:=aC (J7 E.toks st) n0
 have hc3:(iR E.toks st).2.clause=false:=by rw[(Cg E.toks st).2.2.1];exact hcl
 have hc4:l.2.clause=false:=by rw[(kr E.toks _ jG _ _ h1).2.2.1];exact hc3
 have hc5:(aA E.toks [[41]] l.2).2.clause=false:=by rw[(aF E.toks [[41]] l.2).2.2.1];exact hc4
 have hll:=Fu _ _ _ _ h1;have hpl:=Xm E.toks st;have htl:=OO h2;simp only[bN,eG,List.length_nil] at htl;have HX:=ah (sP E hE ⟨#[112,117,98]⟩ st w hp);have HLf:=ah (fun R w hp=>bA { E with R:=R } st w hp hE.1 hE.2.1 nl);have Zz:=ah (fun R w hp=>dA { E with R:=R } hE ⟨#[102,117,110]⟩ (lX E.toks st).2 w hp n0);have TD:=ah (fun R w hp=>qg { E with R:=R } hE 1 (pJ E.toks st).2 w hp n1);have HM3:=ah (fun R w hp=>dA { E with R:=R } hE ⟨#[40]⟩ (jQ E.toks st).2 w hp n2);have HLi:=ah (fun R w hp=>OM { E with R:=R } hE (iQ E.toks E.depth g) (iR E.toks st).2 l w h1 hp n4 hc3 jG (fun R2 s k w' hsc hk hq _ hnk=>Td { E with R:=R2 } hE g s k w' hk hq hnk hsc));have HM4:=ah (fun R w hp=>dA { E with R:=R } hE ⟨#[41]⟩ l.2 w hp n4);have HTy:=ah (fun W0 R v W K hB hl=>Gw E hE g W0 R v _ _ t W h2 K hB n6 hc5 hl);have HM5:=ah (fun R w hp=>dA { E with R:=R } hE ⟨#[61]⟩ t.2 w hp n6);have HM6:=ah (fun R w hp=>allT { E with R:=R } hE g (.expr 1) (aA E.toks [[61]] t.2).2 f w h3 hp n8 (by show 1≤_;omega));have HM7:=ah (fun R w hp=>dA { E with R:=R } hE ⟨#[59]⟩ f.2 w hp n8);have TJ:=ah (fun R v w hp hv=>jN { E with R:=R } 3 v (t.1++[(aA E.toks [[61]] t.2).1,f.1,(aA E.toks [[59]] f.2).1]) (aA E.toks [[59]] f.2).2 w hp hv (by simp;omega) n9);clear n0 n1 n2 n3 n4 n5 n6 n7 n8 n9 nl hn h1 h2 h3 h hc3 hc4 hc5;have hx0:aS E.toks st [(⟨#[112,117,98]⟩:ByteArray).data.toList]=aS E.toks st [yU]:=rfl;rw[hx0] at HX;clear hx0;have HPU:Hid ((aS E.toks st [yU]=true→lX E.toks st=([(ay E.toks st).1],(ay E.toks st).2))∧(aS E.toks st [yU]=false→lX E.toks st=([],st))):=ah ⟨fun q=>by rw[lX,if_pos q],fun q=>by rw[lX,if_neg (by rw[q];decide)]⟩;generalize aS E.toks st [yU]=x at HX HPU;go_enter Tryz.func105,Tryz.ntmps105
 go_upto_if 6 with (go_at_call 165;refine HX.out.mono ?_;rintro e w1 ⟨rfl,hq,hkq⟩)
 have K1:=(iO.none hp).call hq hkq;clear hq hkq HX
 go_cut [3] (fun v wc=>∃ R ao cap,v=.slice ao (lX E.toks st).1.length cap∧iO E w R (.slice ao (lX E.toks st).1.length cap) (lX E.toks st).1 (lX E.toks st).2 wc)
 case first =>
  cases x with
  | true =>
   have HPV:=ah (HPU.out.1 rfl);obtain⟨d0,_,_,_,_,_⟩:=PW.cells K1.2.2.2.1;have HLG:=ah (HLf.out E.R w1 K1.2.2.2.1);clear hpl htl;go_wp2_with (go_at_call 167;refine HLG.out.mono ?_);rintro e w2 ⟨rfl,hq,hkq⟩;have K2:=K1.call hq hkq;clear hq hkq HLG d0;have hL:=K2.lit (.cells #[.int .i64 (ay E.toks st).1] 3);have hnw:=heap_alloc_new w2 (.cells #[.int .i64 (ay E.toks st).1] 3);go_wp2_with (at_builtin;refine wpList_append_lies _ rfl _ _ 51 rfl w.heap.size 3 i0 (.int .i64 0) 1 8 Tryz.underlying51 hi hz0 hz1 hz2 rfl (by decide) _ (0) _ rfl (hL.row (rfl:([]:List Int).length=0)) ⟨w2.heap.size,0,none⟩ 1 1 [.int .i64 (ay E.toks st).1] rfl rfl ?c1 ?c2 ?c3 ?c4 ?c5 ?c6 _ rfl ?_)
   case c1=>exact World.news_of_block (cs:=#[.int .i64 (ay E.toks st).1]) (t:=3) (fr:=(0,0)) hnw
   case c2=>simp[Value.oneCell']
   case c3=>omega
   case c4=>unfold maxLen;omega
   case c5=>omega
   case c6=>exact hL.2.2.2.2.size
   intro g3 Xn w3 hown hgrow hat hlt;obtain⟨R3,K3⟩:=hL.app (news:=[(ay E.toks st).1]) (n:=0+1) hB (by rw[bN,(rfl:([]:List Int).length=0)];rfl) hown hgrow hat (by simp) hlt;clear hL hnw hown hgrow hat hlt;generalize hkk:([]:List Int)++[(ay E.toks st).1]=kk3 at K3;have WX:Hid (kk3.length=0+1):=ah (by rw[← hkk,bN,(rfl:([]:List Int).length=0)];rfl);have HK3:=ah hkk;clear hkk;go_wp2
   go_meet
   rw[HPV.out];refine⟨R3,some ⟨g3,0,none⟩,Xn,rfl,?_⟩;have e3:=K3;rw[← HK3.out] at e3;exact e3
  | false =>
   have HPV:=ah (HPU.out.2 rfl);clear hpl htl;go_wp2
   go_meet
   rw[HPV.out];exact⟨E.R,none,0,rfl,K1⟩
 case rest =>
  obtain⟨R3,ao3,Xn,rfl,K3⟩:=hcut;clear K1 HLf HPU
  obtain⟨w3,rfl⟩:∃ w3:World,w3=wc:=⟨_,rfl⟩
  generalize hk0:(lX E.toks st).1=k0 at hpl htl HTy K3;have HK0:=ah hk0;clear hk0;have Ef:=ah (Zz.out R3 _ K3.2.2.2.1);go_wp2_with (go_at_call 168;refine Ef.out.mono ?_);rintro e w4 ⟨rfl,hq,hkq⟩;have K4:=K3.call hq hkq;clear hq hkq Ef;have Ef:=ah (TD.out R3 _ K4.2.2.2.1);go_wp2_with (go_at_call 107;refine Ef.out.mono ?_);rintro e w5 ⟨rfl,hq,hkq⟩;have K5:=K4.call hq hkq;clear hq hkq Ef;have Ef:=ah (HM3.out R3 _ K5.2.2.2.1);go_wp2_with (go_at_call 168;refine Ef.out.mono ?_);rintro e w6 ⟨rfl,hq,hkq⟩;have K6:=K5.call hq hkq;clear hq hkq Ef;clear K3 K4 K5 Zz TD HM3;have hL:=K6.lit (.cells #[.int .i64 (pJ E.toks st).1,.int .i64 (jQ E.toks st).1,.int .i64 (iR E.toks st).1] 3);have hnw:=heap_alloc_new w6 (.cells #[.int .i64 (pJ E.toks st).1,.int .i64 (jQ E.toks st).1,.int .i64 (iR E.toks st).1] 3);go_wp2_with (at_builtin;refine wpList_append_lies _ rfl _ _ 51 rfl w.heap.size 3 i0 (.int .i64 0) 1 8 Tryz.underlying51 hi hz0 hz1 hz2 rfl (by decide) _ (k0.length) _ rfl (hL.row (rfl:k0.length=k0.length)) ⟨w6.heap.size,0,none⟩ 3 3 [.int .i64 (pJ E.toks st).1,.int .i64 (jQ E.toks st).1,.int .i64 (iR E.toks st).1] rfl rfl ?c1 ?c2 ?c3 ?c4 ?c5 ?c6 _ rfl ?_)
  case c1=>exact World.news_of_block (cs:=#[.int .i64 (pJ E.toks st).1,.int .i64 (jQ E.toks st).1,.int .i64 (iR E.toks st).1]) (t:=3) (fr:=(0,0)) hnw
  case c2=>simp[Value.oneCell']
  case c3=>omega
  case c4=>unfold maxLen;omega
  case c5=>omega
  case c6=>exact hL.2.2.2.2.size
  intro g7 aeP w7 hown hgrow hat hlt;obtain⟨R7,K7⟩:=hL.app (news:=[(pJ E.toks st).1,(jQ E.toks st).1,(iR E.toks st).1]) (n:=k0.length+3) hB (by rw[bN,(rfl:k0.length=k0.length)];rfl) hown hgrow hat (by simp) hlt;clear hL hnw hown hgrow hat hlt;generalize hkk:k0++[(pJ E.toks st).1,(jQ E.toks st).1,(iR E.toks st).1]=kk7 at K7;have HL7:Hid (kk7.length=k0.length+3):=ah (by rw[← hkk,bN,(rfl:k0.length=k0.length)];rfl);have HK7:=ah hkk;clear hkk;clear K6
  go_upto_region 5 with fail
  go_cut [3] (fun v wc=>∃ R ao cap,v=.slice ao (k0.length+3+l.1.length) cap∧iO E w R (.slice ao (k0.length+3+l.1.length) cap) (kk7++l.1) l.2 wc)
  case first =>
   have HLJ:=ah (HLi.out R7 _ K7.2.2.2.1)
   have hmf:∀ (fn:Fn) (first cap:Array Value) (w:World),(Instr.makeFunc fn first cap).run Tryz.prog w=.ok (.func fn first cap) w:=fun _ _ _ _=>rfl
   clear HLi;go_wp2_with (go_at_call 169;refine HLJ.out.mono ?_);rintro e w8 ⟨v,rfl,hiv,hnil,hq,hkq⟩;have K8:=K7.call hq hkq;clear hq hkq HLJ K7
   by_cases hl0:l.1=[]
   ·obtain rfl:=hnil hl0
    have hlz:l.1.length=0:=by rw[hl0];rfl
    go_wp2_with (at_builtin;refine wpList_append_own_none rfl _ _ 51 rfl w.heap.size 3 i0 1 Tryz.underlying51 hi _ (k0.length+3) _ rfl (K8.row HL7.out) rfl ?_);go_wp2
    go_meet
    refine⟨R7,some ⟨g7,0,none⟩,aeP,by rw[hlz],?_⟩;rw[hl0,List.append_nil];exact K8
   ·have hpos:0<l.1.length:=List.length_pos_iff.2 hl0
    obtain⟨aov,M0,rfl,hcv,hf⟩:=hiv;obtain⟨vb,vo,vcs,vfr,rfl,hh,hj⟩:=hf hpos;clear hnil hl0 hf;go_wp2_with (at_builtin;refine wpList_append_lies _ rfl _ _ 51 rfl w.heap.size 3 i0 (.int .i64 0) 1 8 Tryz.underlying51 hi hz0 hz1 hz2 rfl (by decide) _ (k0.length+3) _ rfl (K8.row HL7.out) ⟨vb,vo,none⟩ l.1.length M0 (l.1.map (Value.int .i64)) rfl (by simp) ?c1 ?c2 ?c3 ?c4 ?c5 ?c6 _ rfl ?_)
    case c1=>exact uw hh hj
    case c2=>intro u hu;obtain⟨y,_,rfl⟩:=List.mem_map.1 hu;rfl
    case c3=>exact hpos
    case c4=>unfold maxLen;omega
    case c5=>omega
    case c6=>exact K8.2.2.2.2.size
    intro g9 adr w9 hown hgrow hat hlt;obtain⟨R9,K9⟩:=K8.app (news:=l.1) (n:=k0.length+3+l.1.length) hB (by rw[bN,HL7.out]) hown hgrow hat (by simp) hlt;clear hown hgrow hat hlt K8 hh hj;go_wp2
    go_meet
    exact⟨R9,some ⟨g9,0,none⟩,adr,rfl,K9⟩
  case rest =>
   obtain⟨R9,ao9,adr,rfl,K9⟩:=hcut;clear K7 HLi
   obtain⟨w9,rfl⟩:∃ w9:World,w9=wc:=⟨_,rfl⟩
   generalize YB:kk7++l.1=kk9 at K9;have HL9:Hid (kk9.length=k0.length+3+l.1.length):=ah (by rw[← YB,bN,HL7.out]);have HK9:=ah YB;clear YB;generalize hm9:k0.length+3+l.1.length=m9 at K9 HL9 htl
   have afP:m9≤1000:=by omega
   clear hm9;have Ef:=ah (HM4.out R9 _ K9.2.2.2.1);go_wp2_with (go_at_call 168;refine Ef.out.mono ?_);rintro e jT ⟨rfl,hq,hkq⟩;have Fv:=K9.call hq hkq;clear hq hkq Ef;have hL:=Fv.lit (.cells #[.int .i64 (aA E.toks [[41]] l.2).1] 3);have hnw:=heap_alloc_new jT (.cells #[.int .i64 (aA E.toks [[41]] l.2).1] 3);go_wp2_with (at_builtin;refine wpList_append_lies _ rfl _ _ 51 rfl w.heap.size 3 i0 (.int .i64 0) 1 8 Tryz.underlying51 hi hz0 hz1 hz2 rfl (by decide) _ (m9) _ rfl (hL.row HL9.out) ⟨jT.heap.size,0,none⟩ 1 1 [.int .i64 (aA E.toks [[41]] l.2).1] rfl rfl ?c1 ?c2 ?c3 ?c4 ?c5 ?c6 _ rfl ?_)
   case c1=>exact World.news_of_block (cs:=#[.int .i64 (aA E.toks [[41]] l.2).1]) (t:=3) (fr:=(0,0)) hnw
   case c2=>simp[Value.oneCell']
   case c3=>omega
   case c4=>unfold maxLen;omega
   case c5=>omega
   case c6=>exact hL.2.2.2.2.size
   intro g11 afc sW hown hgrow hat hlt;obtain⟨R11,yR⟩:=hL.app (news:=[(aA E.toks [[41]] l.2).1]) (n:=m9+1) hB (by rw[bN,HL9.out];rfl) hown hgrow hat (by simp) hlt;clear hL hnw hown hgrow hat hlt;generalize hkk:kk9++[(aA E.toks [[41]] l.2).1]=ads at yR;have afQ:Hid (ads.length=m9+1):=ah (by rw[← hkk,bN,HL9.out];rfl);have aeQ:=ah hkk;clear hkk
   have adt:ads=k0++[(pJ E.toks st).1,(jQ E.toks st).1,(iR E.toks st).1]++l.1++[(aA E.toks [[41]] l.2).1]:=by rw[← aeQ.out,← HK9.out,← HK7.out]
   have abC:=yR;rw[adt] at abC;have HTz:=ah (HTy.out w R11 _ sW abC hB (by simp;omega));clear adt abC HTy K9 Fv HM4;go_wp2_with (go_at_call 171;refine HTz.out.mono ?_);rintro e w12 ⟨v12,R12,rfl,yH⟩;clear HTz yR;obtain⟨afR,Po,rfl⟩:=mJ yH.1
   have afS:t.1.length≤1000000:=by omega
   clear htl;have Ef:=ah (HM5.out R12 _ yH.2.2.2.1);go_wp2_with (go_at_call 168;refine Ef.out.mono ?_);rintro e w13 ⟨rfl,hq,hkq⟩;have Aw:=yH.call hq hkq;clear hq hkq Ef;have Ef:=ah (HM6.out R12 _ Aw.2.2.2.1);go_wp2_with (go_at_call 172;refine Ef.out.mono ?_);rintro e w14 ⟨rfl,hq,hkq⟩;have K14:=Aw.call hq hkq;clear hq hkq Ef;have Ef:=ah (HM7.out R12 _ K14.2.2.2.1);go_wp2_with (go_at_call 168;refine Ef.out.mono ?_);rintro e w15 ⟨rfl,hq,hkq⟩;have K15:=K14.call hq hkq;clear hq hkq Ef;clear yH Aw K14 HM5 HM6 HM7;have hL:=K15.lit (.cells #[.int .i64 (aA E.toks [[61]] t.2).1,.int .i64 f.1,.int .i64 (aA E.toks [[59]] f.2).1] 3);have hnw:=heap_alloc_new w15 (.cells #[.int .i64 (aA E.toks [[61]] t.2).1,.int .i64 f.1,.int .i64 (aA E.toks [[59]] f.2).1] 3);go_wp2_with (at_builtin;refine wpList_append_lies _ rfl _ _ 51 rfl w.heap.size 3 i0 (.int .i64 0) 1 8 Tryz.underlying51 hi hz0 hz1 hz2 rfl (by decide) _ (t.1.length) _ rfl (hL.row (rfl:t.1.length=t.1.length)) ⟨w15.heap.size,0,none⟩ 3 3 [.int .i64 (aA E.toks [[61]] t.2).1,.int .i64 f.1,.int .i64 (aA E.toks [[59]] f.2).1] rfl rfl ?c1 ?c2 ?c3 ?c4 ?c5 ?c6 _ rfl ?_)
   case c1=>exact World.news_of_block (cs:=#[.int .i64 (aA E.toks [[61]] t.2).1,.int .i64 f.1,.int .i64 (aA E.toks [[59]] f.2).1]) (t:=3) (fr:=(0,0)) hnw
   case c2=>simp[Value.oneCell']
   case c3=>omega
   case c4=>unfold maxLen;omega
   case c5=>omega
   case c6=>exact hL.2.2.2.2.size
   intro g16 afd w16 hown hgrow hat hlt;obtain⟨R16,K16⟩:=hL.app (news:=[(aA E.toks [[61]] t.2).1,f.1,(aA E.toks [[59]] f.2).1]) (n:=t.1.length+3) hB (by rw[bN,(rfl:t.1.length=t.1.length)];rfl) hown hgrow hat (by simp) hlt;clear hL hnw hown hgrow hat hlt;generalize hkk:t.1++[(aA E.toks [[61]] t.2).1,f.1,(aA E.toks [[59]] f.2).1]=aeR at K16;have afT:Hid (aeR.length=t.1.length+3):=ah (by rw[← hkk,bN,(rfl:t.1.length=t.1.length)];rfl);have aeS:=ah hkk;clear hkk;clear K15;have e16:=K16;rw[← aeS.out] at e16;have HNp:=ah (TJ.out R16 _ _ e16.2.2.2.1 e16.node);clear e16 TJ;go_wp2_with (go_at_call 106;refine HNp.out.mono ?_);rintro e w17 ⟨rfl,hq,hkq⟩;have K17:=K16.call hq hkq;go_wp2;go_ret;exact⟨rfl,PR.drop K17.2.2.2.1 K17.2.2.1,K17.2.2.2.2⟩
end Go.Proofs.YtknicmmigbhpcaaGreatDoor
