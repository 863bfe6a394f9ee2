/- Walks and plain laws, without a condition. -/
import Derived.Test.YtmleecdnkmoohaaGreatDoorK21
set_option maxHeartbeats 16000000
set_option maxRecDepth 100000
set_option linter.unusedVariables false
set_option linter.unusedSimpArgs false
namespace Go.Proofs.YtmleecdnkmoohaaGreatDoor
open Go.RowKit Go
variable{w:World}{ah:List Tok}{D:aH}{aj:List Nd}
theorem abH (E:bG)(hE:E.ok)(b c:ByteArray)(st:aK)(w:World)(h:PW E st w)(hn:st.aj.length+1<=1099511627776) :
  Calls Tryz.prog 158 #[.pointer (some ⟨E.pb,0,none⟩),.slice (some ⟨w.heap.size,0,none⟩) 2 2] (w.alloc (.cells #[.string b,.string c] 9)) (eu E (aJ E.ah [b.data.toList,c.data.toList] st) w):=by
 have hA:=h.later (aA w (.cells #[.string b,.string c] 9));refine(MV E hE _ _ st _ hA (MX w b c) (by simp) hn).mono ?_;rintro e w' ⟨rfl,hp,hk⟩;exact⟨rfl,hp,(Kp.of (aA w _) h.fA).trans hk⟩
theorem LZ (E:bG)(hE:E.ok)(st:aK)(w:World)(hp:PW E st w)(hn:(pI E.ah st).2.aj.length+1<=1099511627776) :
  Calls Tryz.prog 107 #[.pointer (some ⟨E.pb,0,none⟩)] w (eu E (pI E.ah st) w):=by
 unfold pI at hn |-;have n3:=aL (aM _ _ _) hn;have n2:=aL (aN _ _ _) n3;have n1:=aL (fF _ _ _) n2;have n0:=aL (aQ _ _) n1;have HL:=ay (bT E st w hp hE.1 hE.2.1 n0);have HK:=ay (λw hp=>tF E hE 1 (aF E.ah st).2 w hp n1);have HM:=ay (λw hp=>eD E hE ⟨#[59]⟩ (bC E.ah 1 (aF E.ah st).2).2 w hp n2);have HN:=ay (λw hp=>jf E 2 [(aF E.ah st).1,(bC E.ah 1 (aF E.ah st).2).1,(aJ E.ah [[59]] (bC E.ah 1 (aF E.ah st).2).2).1] 3 _ (aJ E.ah [[59]] (bC E.ah 1 (aF E.ah st).2).2).2 w hp rfl rfl (by omega) n3);clear n0 n1 n2 n3 hn;obtain⟨d0,_,_,_,_,_⟩:=hp.cells;go_enter Tryz.func107,Tryz.ntmps107;go_wp2_with (go_at_call 157;refine HL.out.mono ?_);rintro e w1 ⟨rfl,hp1,hk1⟩;clear d0;go_wp2_with (go_at_call 110;refine(HK.out _ hp1).mono ?_);rintro e w2 ⟨rfl,hp2,hk2⟩;go_wp2_with (go_at_call 158;refine(HM.out _ hp2).mono ?_);rintro e w3 ⟨rfl,hp3,eP⟩;go_wp2_with (go_at_call 109;refine(HN.out _ hp3).mono ?_);rintro e w4 ⟨rfl,qO,hk4⟩;go_wp2;go_ret;exact⟨rfl,qO,((hk1.trans hk2).trans eP).trans hk4⟩
def aff (E:bG)(W0:World)(r:List Int × aK)(e:Ending)(w':World):Prop:=∃ v R,e=.returned v/\jG E W0 R v r.1 r.2 w'
theorem Kl (E:bG)(hE:E.ok)(g:Nat)(W0:World)(R:List Nat)(v:Value)(ks:List Int)(st:aK)(r:List Int × aK)(w:World)(h:iI E.ah E.depth g ks st=some r)(K0:jG E W0 R v ks st w)(hB:E.B<=W0.heap.size)(hn:r.2.aj.length+1<=1099511627776)(hcl:st.aC=false)(hks:ks.length<=1000000) :
  Calls Tryz.prog 161 #[.pointer (some ⟨E.pb,0,none⟩),v] w (aff E W0 r):=by
 have vQ:=hE.2.2;obtain⟨i0,hi,hz0,hz1,hz2⟩:=info_parts Tryz.nQ
 have n3:(eG E.ah st).2.aj.length+1<=1099511627776:=by
  unfold iI at h
  split at h
  ·obtain⟨n,h1,h⟩:=cZ h
   obtain rfl:=lG h;exact aL (CJ h1) hn
  ·obtain rfl:=lG h
   exact hn
 have n2:(ze E.ah st).2.aj.length+1<=1099511627776:=aL (aM _ _ _) n3;have n1:(kR E.ah st).2.aj.length+1<=1099511627776:=aL (aN _ _ _) n2;have n0:=aL (aN E.ah [[58]] st) n1
 have hc3:(eG E.ah st).2.aC=false:=by rw[(Bu E.ah st).2.2.1];exact hcl
 obtain⟨ao,cap,rfl⟩:=qc K0.1;have Zh:=ay (eD { E with R:=R } hE ⟨#[58]⟩ st w K0.2.2.2.1 n0);have Rt:=ay (λR w hp=>abH { E with R:=R } hE ⟨#[105,110,116]⟩ ⟨#[98,111,111,108]⟩ (kR E.ah st).2 w hp n1);have HM3:=ay (λR w hp=>jf { E with R:=R } 5 [(ze E.ah st).1] 1 _ (ze E.ah st).2 w hp rfl rfl (by omega) n2);have H0:=ay h;have HN:=ay hn;clear n0 n1 n2 h hn;go_enter Tryz.func161,Tryz.ntmps161;go_wp2_with (go_at_call 158;refine Zh.out.mono ?_);rintro e w1 ⟨rfl,hq,dn⟩;have K1:=K0.call hq dn;clear hq dn Zh;have hL:=K1.lit (.cells #[.int .i64 (kR E.ah st).1] 3);have hnw:=aX w1 (.cells #[.int .i64 (kR E.ah st).1] 3);go_wp2_with (at_builtin;refine wpList_append_lies _ rfl _ _ 46 rfl W0.heap.size 3 i0 (.int .i64 0) 1 8 Tryz.underlying46 hi hz0 hz1 hz2 rfl (by decide) _ (ks.length) _ rfl (hL.row (rfl:ks.length=ks.length)) ⟨w1.heap.size,0,none⟩ 1 1 [.int .i64 (kR E.ah st).1] rfl rfl ?c1 ?c2 ?c3 ?c4 ?c5 ?c6 _ rfl ?_)
 case c1=>exact vL (cs:=#[.int .i64 (kR E.ah st).1]) (t:=3) (fr:=(0,0)) hnw
 case c2=>simp[Value.oneCell']
 case c3=>omega
 case c4=>unfold maxLen;omega
 case c5=>omega
 case c6=>exact hL.2.2.2.2.size
 intro g2 cap2 w2 hown hgrow hat hlt;obtain⟨R2,K2⟩:=hL.app (news:=[(kR E.ah st).1]) (n:=ks.length+1) hB (by rw[bY,(rfl:ks.length=ks.length)];rfl) hown hgrow hat (by simp) hlt;clear hL hnw hown hgrow hat hlt;generalize hkk:ks++[(kR E.ah st).1]=kk2 at K2;have HL2:Hid (kk2.length=ks.length+1):=ay (by rw[<- hkk,bY,(rfl:ks.length=ks.length)];rfl);have HK2:=ay hkk;clear hkk;have HM:=ay (Rt.out R2 _ K2.2.2.2.1);clear Rt K1 K0;go_wp2_with (go_at_call 158;refine HM.out.mono ?_);rintro e w3 ⟨rfl,hq,dn⟩;have K3:=K2.call hq dn;clear hq dn HM;have HM:=ay (HM3.out R2 _ K3.2.2.2.1);clear HM3 K2;go_wp2_with (go_at_call 109;refine HM.out.mono ?_);rintro e w4 ⟨rfl,hq,dn⟩;have K4:=K3.call hq dn;clear hq dn HM;clear K3;have hL:=K4.lit (.cells #[.int .i64 (eG E.ah st).1] 3);have hnw:=aX w4 (.cells #[.int .i64 (eG E.ah st).1] 3);go_wp2_with (at_builtin;refine wpList_append_lies _ rfl _ _ 46 rfl W0.heap.size 3 i0 (.int .i64 0) 1 8 Tryz.underlying46 hi hz0 hz1 hz2 rfl (by decide) _ (ks.length+1) _ rfl (hL.row HL2.out) ⟨w4.heap.size,0,none⟩ 1 1 [.int .i64 (eG E.ah st).1] rfl rfl ?c1 ?c2 ?c3 ?c4 ?c5 ?c6 _ rfl ?_)
 case c1=>exact vL (cs:=#[.int .i64 (eG E.ah st).1]) (t:=3) (fr:=(0,0)) hnw
 case c2=>simp[Value.oneCell']
 case c3=>omega
 case c4=>unfold maxLen;omega
 case c5=>omega
 case c6=>exact hL.2.2.2.2.size
 intro g5 jO w5 hown hgrow hat hlt;obtain⟨R5,K5⟩:=hL.app (news:=[(eG E.ah st).1]) (n:=ks.length+1+1) hB (by rw[bY,HL2.out];rfl) hown hgrow hat (by simp) hlt;clear hL hnw hown hgrow hat hlt;generalize hkk:kk2++[(eG E.ah st).1]=kk5 at K5;have OA:Hid (kk5.length=ks.length+1+1):=ay (by rw[<- hkk,bY,HL2.out];rfl);have HK5:=ay hkk;clear hkk;clear K4;have H5:Hid (kk5=ks++[(kR E.ah st).1,(eG E.ah st).1]):=ay (by rw[<- HK5.out,<- HK2.out];simp)
 by_cases hf:(eG E.ah st).2.fE=0
 ·have HO:=ay (kr { E with R:=R5 } (eG E.ah st).2 hf _ K5.2.2.2.1)
  by_cases hx:bF E.ah (eG E.ah st).2 [[123]]=true
  ·have h:=H0.out
   unfold iI at h;rw[bR ⟨hf,hx⟩] at h;obtain⟨n,h1,h⟩:=cZ h;obtain rfl:=lG h;have hn:=HN.out;unfold jS at h1;obtain⟨f,h2,h1⟩:=cZ h1;obtain rfl:=lG h1;rw[hc3] at hn;have m3:=aL (aM _ _ _) hn;have m2':(kS f.2 false).aj.length+1<=1099511627776:=aL (aN E.ah [[125]] (kS f.2 false)) m3;have m2:f.2.aj.length+1<=1099511627776:=m2';have m1':(kS (aF E.ah (eG E.ah st).2).2 true).aj.length+1<=1099511627776:=aL (bA _ _ _ _ _ _ h2) m2;have m1:(aF E.ah (eG E.ah st).2).2.aj.length+1<=1099511627776:=m1';have HX:=ay (λw hp=>dY { E with R:=R5 } hE ⟨#[123]⟩ (eG E.ah st).2 true hx w hp);have HLf:=ay (λw hp=>bT { E with R:=R5 } (eG E.ah st).2 w hp hE.1 hE.2.1 n3);have HEx:=ay (λw hp=>allT { E with R:=R5 } hE g (.expr 1) (kS (aF E.ah (eG E.ah st).2).2 true) f w h2 hp m2 (by show 1<=_;omega));have HMu:=ay (λw hp=>eD { E with R:=R5 } hE ⟨#[125]⟩ (kS f.2 false) w hp m2);have Xv:=ay (λw hp=>jf { E with R:=R5 } 6 [(aF E.ah (eG E.ah st).2).1,f.1,(aJ E.ah [[125]] (kS f.2 false)).1] 3 _ (aJ E.ah [[125]] (kS f.2 false)).2 w hp rfl rfl (by omega) m3);clear h2 hn m1 m2 m1' m2' m3 n3 hf hx H0 HN;go_wp2_with (go_at_call 104;refine HO.out.mono ?_);rintro e w6 ⟨rfl,hq,dn⟩;have K6:=K5.call hq dn;clear hq dn HO K5;go_wp2_with (go_at_call 155;refine(HX.out _ K6.2.2.2.1).mono ?_);rintro e w7 ⟨rfl,hq,dn⟩;have K7:=K6.call hq dn;clear hq dn HX K6;obtain⟨d0,_,_,_,_,_⟩:=PW.cells K7.2.2.2.1;go_wp2_with (go_at_call 157;refine(HLf.out _ K7.2.2.2.1).mono ?_);rintro e w8 ⟨rfl,hq,dn⟩;have K8:=K7.call hq dn;clear hq dn HLf K7 d0;obtain⟨hm8,ag6⟩:=PW.mark K8.2.2.2.1 true;have hz8:w8.frozen? ⟨E.pb,2,none⟩=false:=(PW.cells K8.2.2.2.1).2.2.2.2.2 2;have c8:=(PW.cells K8.2.2.2.1).2.2.1;have K9:=K8.call hm8 ag6;have HEY:=ay (HEx.out _ K9.2.2.2.1);clear hm8 ag6 HEx K8;go_wp2_with (go_at_call 162;refine HEY.out.mono ?_)
   rintro e mU ⟨rfl,hq,dn⟩;have Jp:=K9.call hq dn;clear hq dn HEY K9 hz8 c8;obtain⟨ag7,adF⟩:=PW.mark Jp.2.2.2.1 false;have aeB:mU.frozen? ⟨E.pb,2,none⟩=false:=(PW.cells Jp.2.2.2.1).2.2.2.2.2 2;have c10:=(PW.cells Jp.2.2.2.1).2.2.1;have Bo:=Jp.call ag7 adF;have hMV:=HMu.out _ Bo.2.2.2.1;rw[show (mU.setCell ⟨E.pb,2,none⟩ (.bool false)).heap.size=mU.heap.size by simp] at hMV;have HMV:=ay hMV;clear hMV;clear ag7 adF HMu Jp;go_wp2_with (go_at_call 158;refine HMV.out.mono ?_);rintro e w12 ⟨rfl,hq,dn⟩;have A8:=Bo.call hq dn;clear hq dn HMV Bo aeB c10;have HNV:=ay (Xv.out _ A8.2.2.2.1);clear Xv;go_wp2_with (go_at_call 109;refine HNV.out.mono ?_);rintro e w13 ⟨rfl,hq,dn⟩;have DJ:=A8.call hq dn;clear hq dn HNV A8;have hL:=DJ.lit (.cells #[.int .i64 (bL 6 [(aF E.ah (eG E.ah st).2).1,f.1,(aJ E.ah [[125]] (kS f.2 false)).1] (aJ E.ah [[125]] (kS f.2 false)).2).1] 3);have hnw:=aX w13 (.cells #[.int .i64 (bL 6 [(aF E.ah (eG E.ah st).2).1,f.1,(aJ E.ah [[125]] (kS f.2 false)).1] (aJ E.ah [[125]] (kS f.2 false)).2).1] 3);go_wp2_with (at_builtin;refine wpList_append_lies _ rfl _ _ 46 rfl W0.heap.size 3 i0 (.int .i64 0) 1 8 Tryz.underlying46 hi hz0 hz1 hz2 rfl (by decide) _ (ks.length+1+1) _ rfl (hL.row OA.out) ⟨w13.heap.size,0,none⟩ 1 1 [.int .i64 (bL 6 [(aF E.ah (eG E.ah st).2).1,f.1,(aJ E.ah [[125]] (kS f.2 false)).1] (aJ E.ah [[125]] (kS f.2 false)).2).1] rfl rfl ?c1 ?c2 ?c3 ?c4 ?c5 ?c6 _ rfl ?_)
   case c1=>exact vL (cs:=#[.int .i64 (bL 6 [(aF E.ah (eG E.ah st).2).1,f.1,(aJ E.ah [[125]] (kS f.2 false)).1] (aJ E.ah [[125]] (kS f.2 false)).2).1]) (t:=3) (fr:=(0,0)) hnw
   case c2=>simp[Value.oneCell']
   case c3=>omega
   case c4=>unfold maxLen;omega
   case c5=>omega
   case c6=>exact hL.2.2.2.2.size
   intro g14 ag8 w14 hown hgrow hat hlt;obtain⟨R14,K14⟩:=hL.app (news:=[(bL 6 [(aF E.ah (eG E.ah st).2).1,f.1,(aJ E.ah [[125]] (kS f.2 false)).1] (aJ E.ah [[125]] (kS f.2 false)).2).1]) (n:=ks.length+1+1+1) hB (by rw[bY,OA.out];rfl) hown hgrow hat (by simp) hlt;clear hL hnw hown hgrow hat hlt;generalize hkk:kk5++[(bL 6 [(aF E.ah (eG E.ah st).2).1,f.1,(aJ E.ah [[125]] (kS f.2 false)).1] (aJ E.ah [[125]] (kS f.2 false)).2).1]=aiA at K14;have ajC:Hid (aiA.length=ks.length+1+1+1):=ay (by rw[<- hkk,bY,OA.out];rfl);have aiB:=ay hkk;clear hkk;go_wp2;go_ret;have e14:=K14;rw[<- aiB.out,H5.out] at e14;simp only[om,pJ,uD] at e14;refine⟨.slice (some ⟨g14,0,none⟩) (ks.length+1+1+1) ag8,R14,rfl,?_⟩;rw[hc3];exact e14
  ·have h:=H0.out
   unfold iI at h;rw[aU (λq=>hx q.2)] at h;obtain rfl:=lG h;have HX:=ay (λw hp=>dY { E with R:=R5 } hE ⟨#[123]⟩ (eG E.ah st).2 false (eq_false_of_ne_true hx) w hp);clear n3 hf hx H0 HN;go_wp2_with (go_at_call 104;refine HO.out.mono ?_);rintro e w6 ⟨rfl,hq,dn⟩;have K6:=K5.call hq dn;clear hq dn HO K5;go_wp2_with (go_at_call 155;refine(HX.out _ K6.2.2.2.1).mono ?_);rintro e w7 ⟨rfl,hq,dn⟩;have K7:=K6.call hq dn;clear hq dn HX K6;go_wp2;go_ret;rw[H5.out] at K7;exact⟨_,R5,rfl,K7⟩
 ·have h:=H0.out
  unfold iI at h;rw[aU (λq=>hf q.1)] at h;obtain rfl:=lG h;have HO:=ay (vF { E with R:=R5 } (eG E.ah st).2 hf _ K5.2.2.2.1);clear n3 hf H0 HN;go_wp2_with (go_at_call 104;refine HO.out.mono ?_);rintro e w6 ⟨rfl,hq,dn⟩;have K6:=K5.call hq dn;clear hq dn HO K5;go_wp2;go_ret;rw[H5.out] at K6;exact⟨_,R5,rfl,K6⟩
theorem WV (E:bG)(hE:E.ok)(g:Nat)(st:aK)(r:Int × aK)(w:World)(h:jI E.ah E.depth g st=some r)(hp:PW E st w)(hn:r.2.aj.length+1<=1099511627776)(hcl:st.aC=false) :
  Calls Tryz.prog 160 #[.pointer (some ⟨E.pb,0,none⟩)] w (eu E r w):=by
 unfold jI at h;obtain⟨l,h1,h⟩:=cZ h;obtain rfl:=lG h;have n2:=aL (aM _ _ _) hn;have n1:=aL (jU h1) n2;have n0:=aL (fF _ _ _) n1
 have hll:l.1.length<=4:=by
  unfold iI at h1
  split at h1
  ·obtain⟨n,h2,h1⟩:=cZ h1
   obtain rfl:=lG h1
   simp
  ·obtain rfl:=lG h1
   simp
 have HK:=ay (tF E hE 1 st w hp n0)
 have hc1:(bC E.ah 1 st).2.aC=false:=by rw[(fF E.ah 1 st).2.2.1];exact hcl
 have HB:E.B<=w.heap.size:=hp.fA;have HT:=ay (λW R v K=>Kl E hE g w R v _ _ l W h1 K HB n2 hc1 (by simp));have HN:=ay (λR w v hq hv=>lI { E with R:=R } 4 v l.1 l.2 w hq hv (by omega) n2);clear n0 n1 n2 hn h1 h hc1;go_enter Tryz.func160,Tryz.ntmps160;go_wp2_with (go_at_call 110;refine HK.out.mono ?_);rintro e w1 ⟨rfl,hp1,hk1⟩;have K1:=jG.start (W0:=w) (bC E.ah 1 st).1 hp1 hk1;have HTy:=ay (HT.out _ _ _ K1);clear HT hp1 hk1 K1 HK;go_wp2_with (go_at_call 161;refine HTy.out.mono ?_);rintro e w2 ⟨v,R2,rfl,K2⟩;have Xv:=ay (HN.out R2 _ v K2.2.2.2.1 K2.node);clear HN HTy;obtain⟨ao,cap,rfl⟩:=qc K2.1;go_wp2_with (go_at_call 109;refine Xv.out.mono ?_);rintro e w3 ⟨rfl,hq,dn⟩;have K3:=K2.call hq dn;go_wp2;go_ret;exact⟨rfl,PR.drop K3.2.2.2.1 K3.2.2.1,K3.2.2.2.2⟩
def slN:Value->Nat | .slice _ n _=>n|_=>0
theorem jG.lift {E:bG}{W0 W1:World}{R:List Nat}{v:Value}{ks:List Int}{s:aK}(h:jG E W1 R v ks s w)(hk:Kp E.B W0 W1):jG E W0 R v ks s w:=by
 obtain⟨h1,h2,h3,h4,h5⟩:=h;refine⟨⟨h1.1,?_⟩,h2,h3,h4,hk.trans h5⟩
 rcases h1.2 with hn|⟨g,cap,cur,hv,hg,hr⟩
 ·exact .inl hn
 ·exact .inr ⟨g,cap,cur,hv,jq hk.size hg,hr⟩
theorem jG.none {E:bG}{w:World}{s:aK}(hp:PW E s w):jG E w E.R (.slice none 0 0) [] s w:=⟨World.ownsRow_nil _ _ _ _,λb q=>by simp[Value.ownBlock] at q,λ_ q=>q,hp,Kp.refl _ _⟩
theorem Em (E:bG)(hE:E.ok)(v:Value)(l:List aH)(st:aK)(x:Bool)(hx:bF E.ah st l=x)(w:World)(hp:PW E st w)(hv:mq w v l)(hl:l.length<=1000) :
  Calls Tryz.prog 155 #[.pointer (some ⟨E.pb,0,none⟩),v] w (tH E st x w):=by
 subst hx
 exact(wu E v l st w hp hv hE.1 hE.2.1 hl).mono λe w' ⟨he,hb⟩=>⟨he,hp.later hb,Kp.of hb hp.fA⟩
def adG (E:bG)(one:aK->Option (Int × aK))(first:List aH)(most:Nat)(res:List Int × aK)(w0:World)(kv:Value)(wr:World):Prop :=
 ∃ (r:Nat) (aB:List Int) (s:aK) (R:List Nat),aB.length+r=most/\jT E.ah one first r aB s=some res/\jG E w0 R kv aB s wr/\s.aC=false/\(aB=[]->kv=.slice none 0 0)
def abI (E:bG)(W0:World)(r:List Int × aK)(e:Ending)(w':World):Prop:=∃ v R,e=.returned v/\(r.1=[]->v=.slice none 0 0)/\jG E W0 R v r.1 r.2 w'
theorem D9 (E:bG)(hE:E.ok)(one:aK->Option (Int × aK))(first:List aH)(fa:Option Addr)(fc:Nat)(most:Nat)(hm:most<=1000)(st:aK)(res:List Int × aK)(w:World)(h:jT E.ah one first most [] st=some res)(hp:PW E st w)(hn:res.2.aj.length+1<=1099511627776)(hcl:st.aC=false)
  (hF:∀ wr,Kp E.B w wr->mq wr (.slice fa first.length fc) first) (hfl:first.length<=1000) (hext:∀ s k,one s=some k->dR s k.2)
  (hone:∀ (R:List Nat) (s:aK) (k:Int × aK) (w':World),s.aC=false->one s=some k->PR E R s w'->k.2.aj.length+1<=1099511627776 ->
   Calls Tryz.prog 107 #[.pointer (some ⟨E.pb,0,none⟩)] w' (eu { E with R:=R } k w')) :
  Calls Tryz.prog 106 #[.pointer (some ⟨E.pb,0,none⟩),.int .i64 most,.func (.func 107) #[.pointer (some ⟨E.pb,0,none⟩)] #[],.slice fa first.length fc] w (abI E w res):=by
 obtain⟨i0,hi,hz0,hz1,hz2⟩:=info_parts Tryz.nQ;have H0:=ay h;have EM:=ay hone;have Io:=ay hext;have HN:=ay hn;have HE:=ay hE;have HF:=ay hF;have HFL:=ay hfl;have HM:=ay hm;clear hone hext h hn hF hE hfl hm;go_enter Tryz.func106,Tryz.ntmps106;go_wp2
 go_loopw [9] (λkv wr=>adG E one first most res w kv wr) (λkv _=>most - slN kv)
 case atStart=>exact⟨most,[],st,E.R,by simp,H0.out,jG.none hp,hcl,λ_=>rfl⟩
 case round =>
  obtain⟨r,aB,s,R,hlen,hl,K0,hsc,hnil⟩:=hrel;have yg:=ay hnil;clear hnil;obtain⟨ao,cap,rfl⟩:=qc K0.1;have hBw:E.B<=w.heap.size:=hp.fA;have hm:=HM.out
  by_cases hf:s.fE=0
  ·have HO:=ay (kr { E with R:=R } s hf _ K0.2.2.2.1)
   by_cases hx:bF E.ah s first=true
   ·have HX:=ay (λw hp hv=>Em { E with R:=R } HE.out (.slice fa first.length fc) first s true hx w hp hv HFL.out)
    cases r with
    | zero =>
     rw[jT,bR ⟨hf,hx⟩] at hl
     injection hl with hl
     have JR:=ay (λw hp=>mQ { E with R:=R } HE.out 15 s w hp);have HL:=ay hl
     have hkb:((aB.length:Int) == (most:Int))=true:=by rw[beq_iff_eq];omega
     have hkn:(aB.length == most)=true:=by rw[beq_iff_eq];omega
     clear hl hf hx hlen;go_wp2_with (go_at_call 104;refine HO.out.mono ?_);rintro e w2 ⟨rfl,hq,dn⟩;have K2:=K0.call hq dn;clear hq dn;go_wp2_with (go_at_call 155;refine(HX.out _ K2.2.2.2.1 (HF.out _ K2.2.2.2.2)).mono ?_);rintro e w3 ⟨rfl,hq,dn⟩;have K3:=K2.call hq dn;clear hq dn;go_wp2_with (go_at_call 156;refine(JR.out _ K3.2.2.2.1).mono ?_);rintro e w4 ⟨rfl,hq,dn⟩;have K4:=K3.call hq dn;clear hq dn;go_wp2;go_ret;have e4:=HL.out;subst e4;exact⟨_,R,rfl,yg.out,K4⟩
    | succ r =>
     rw[jT,bR ⟨hf,hx⟩] at hl;obtain⟨k,h1,hl⟩:=cZ hl;have hnk:k.2.aj.length+1<=1099511627776:=aL (qd Io.out _ _ _ _ hl) HN.out;have HCK:Hid (k.2.aC=false):=ay (by rw[(Io.out s k h1).2.2.1];exact hsc);have HK:=ay (λw' hp=>EM.out R s k w' hsc h1 hp hnk);have HL:=ay hl
     have hkb:((aB.length:Int) == (most:Int))=false:=by rw[<- vM,beq_iff_eq];omega
     have hkn:(aB.length == most)=false:=by rw[<- vM,beq_iff_eq];omega
     have HLEN:=ay hlen
     have hkl:aB.length<=1000:=by omega
     clear hl h1 hf hx hlen hnk;go_wp2_with (go_at_call 104;refine HO.out.mono ?_);rintro e w2 ⟨rfl,hq,dn⟩;have K2:=K0.call hq dn;clear hq dn;go_wp2_with (go_at_call 155;refine(HX.out _ K2.2.2.2.1 (HF.out _ K2.2.2.2.2)).mono ?_);rintro e w3 ⟨rfl,hq,dn⟩;have K3:=K2.call hq dn;clear hq dn K2 K0;go_wp2_with (go_at_call 107;refine(HK.out _ K3.2.2.2.1).mono ?_);rintro e w4 ⟨rfl,hq,dn⟩;have K4:=K3.call hq dn;clear hq dn K3;have hL:=K4.lit (.cells #[.int .i64 k.1] 3);have hnw:=aX w4 (.cells #[.int .i64 k.1] 3);go_wp2_with (at_builtin;refine wpList_append_lies _ rfl _ _ 46 rfl w.heap.size 3 i0 (.int .i64 0) 1 8 Tryz.underlying46 hi hz0 hz1 hz2 rfl (by decide) _ (aB.length) _ rfl hL.1 ⟨w4.heap.size,0,none⟩ 1 1 [.int .i64 k.1] rfl rfl ?c1 ?c2 ?c3 ?c4 ?c5 ?c6 _ rfl ?_)
     case c1=>exact vL (cs:=#[.int .i64 k.1]) (t:=3) (fr:=(0,0)) hnw
     case c2=>simp[Value.oneCell']
     case c3=>omega
     case c4=>unfold maxLen;omega
     case c5=>omega
     case c6=>exact hL.2.2.2.2.size
     intro g5 jO w5 hown hgrow hat hlt;obtain⟨R5,K5⟩:=hL.app (news:=[k.1]) hBw (by simp) hown hgrow hat (by simp) hlt;clear hL hnw hown hgrow hat hlt K4;go_wp2
     go_roundw
     case rel=>exact⟨r,aB++[k.1],k.2,R5,by have:=HLEN.out;simp;omega,HL.out,K5,HCK.out,λq=>by simp at q⟩
     case measure=>have:=HLEN.out;simp[slN];omega
   ·have hl':(aB,s)=res:=by
     cases r with
     | zero=>rw[jT,aU (λq=>hx q.2)] at hl;injection hl
     | succ r=>rw[jT,aU (λq=>hx q.2)] at hl;injection hl
    have HX:=ay (λw hp hv=>Em { E with R:=R } HE.out (.slice fa first.length fc) first s false (eq_false_of_ne_true hx) w hp hv HFL.out);have HL:=ay hl';clear hl hl' hf hx hlen;go_wp2_with (go_at_call 104;refine HO.out.mono ?_);rintro e w2 ⟨rfl,hq,dn⟩;have K2:=K0.call hq dn;clear hq dn;go_wp2_with (go_at_call 155;refine(HX.out _ K2.2.2.2.1 (HF.out _ K2.2.2.2.2)).mono ?_);rintro e w3 ⟨rfl,hq,dn⟩;have K3:=K2.call hq dn;clear hq dn;go_wp2;go_ret;have e4:=HL.out;subst e4;exact⟨_,R,rfl,yg.out,K3⟩
  ·have HO:=ay (vF { E with R:=R } s hf _ K0.2.2.2.1)
   have hl':(aB,s)=res:=by
    cases r with
    | zero=>rw[jT,aU (λq=>hf q.1)] at hl;injection hl
    | succ r=>rw[jT,aU (λq=>hf q.1)] at hl;injection hl
   have HL:=ay hl';clear hl hl' hf hlen;go_wp2_with (go_at_call 104;refine HO.out.mono ?_);rintro e w2 ⟨rfl,hq,dn⟩;have K2:=K0.call hq dn;clear hq dn;go_wp2;go_ret;have e4:=HL.out;subst e4;exact⟨_,R,rfl,yg.out,K2⟩
theorem L6 (E:bG)(hE:E.ok)(one:aK->Option (Int × aK))(first:List aH)(fa:Option Addr)(fc:Nat)(most:Nat)(hm:most<=1000)(st:aK)(res:List Int × aK)(w:World)(h:jT E.ah one first most [] st=some res)(hp:PW E st w)(hn:res.2.aj.length+1<=1099511627776)(hcl:st.aC=false)
  (hF:∀ wr,Kp E.B w wr->mq wr (.slice fa first.length fc) first) (hfl:first.length<=1000) (hext:∀ s k,one s=some k->dR s k.2)
  (hone:∀ (R:List Nat) (s:aK) (k:Int × aK) (w':World),s.aC=false->one s=some k->PR E R s w'->k.2.aj.length+1<=1099511627776 ->
   Calls Tryz.prog 108 #[.pointer (some ⟨E.pb,0,none⟩)] w' (eu { E with R:=R } k w')) :
  Calls Tryz.prog 106 #[.pointer (some ⟨E.pb,0,none⟩),.int .i64 most,.func (.func 108) #[.pointer (some ⟨E.pb,0,none⟩)] #[],.slice fa first.length fc] w (abI E w res):=by
 obtain⟨i0,hi,hz0,hz1,hz2⟩:=info_parts Tryz.nQ;have H0:=ay h;have EM:=ay hone;have Io:=ay hext;have HN:=ay hn;have HE:=ay hE;have HF:=ay hF;have HFL:=ay hfl;have HM:=ay hm;clear hone hext h hn hF hE hfl hm;go_enter Tryz.func106,Tryz.ntmps106;go_wp2
 go_loopw [9] (λkv wr=>adG E one first most res w kv wr) (λkv _=>most - slN kv)
 case atStart=>exact⟨most,[],st,E.R,by simp,H0.out,jG.none hp,hcl,λ_=>rfl⟩
 case round =>
  obtain⟨r,aB,s,R,hlen,hl,K0,hsc,hnil⟩:=hrel;have yg:=ay hnil;clear hnil;obtain⟨ao,cap,rfl⟩:=qc K0.1;have hBw:E.B<=w.heap.size:=hp.fA;have hm:=HM.out
  by_cases hf:s.fE=0
  ·have HO:=ay (kr { E with R:=R } s hf _ K0.2.2.2.1)
   by_cases hx:bF E.ah s first=true
   ·have HX:=ay (λw hp hv=>Em { E with R:=R } HE.out (.slice fa first.length fc) first s true hx w hp hv HFL.out)
    cases r with
    | zero =>
     rw[jT,bR ⟨hf,hx⟩] at hl
     injection hl with hl
     have JR:=ay (λw hp=>mQ { E with R:=R } HE.out 15 s w hp);have HL:=ay hl
     have hkb:((aB.length:Int) == (most:Int))=true:=by rw[beq_iff_eq];omega
     have hkn:(aB.length == most)=true:=by rw[beq_iff_eq];omega
     clear hl hf hx hlen;go_wp2_with (go_at_call 104;refine HO.out.mono ?_);rintro e w2 ⟨rfl,hq,dn⟩;have K2:=K0.call hq dn;clear hq dn;go_wp2_with (go_at_call 155;refine(HX.out _ K2.2.2.2.1 (HF.out _ K2.2.2.2.2)).mono ?_);rintro e w3 ⟨rfl,hq,dn⟩;have K3:=K2.call hq dn;clear hq dn;go_wp2_with (go_at_call 156;refine(JR.out _ K3.2.2.2.1).mono ?_);rintro e w4 ⟨rfl,hq,dn⟩;have K4:=K3.call hq dn;clear hq dn;go_wp2;go_ret;have e4:=HL.out;subst e4;exact⟨_,R,rfl,yg.out,K4⟩
    | succ r =>
     rw[jT,bR ⟨hf,hx⟩] at hl;obtain⟨k,h1,hl⟩:=cZ hl;have hnk:k.2.aj.length+1<=1099511627776:=aL (qd Io.out _ _ _ _ hl) HN.out;have HCK:Hid (k.2.aC=false):=ay (by rw[(Io.out s k h1).2.2.1];exact hsc);have HK:=ay (λw' hp=>EM.out R s k w' hsc h1 hp hnk);have HL:=ay hl
     have hkb:((aB.length:Int) == (most:Int))=false:=by rw[<- vM,beq_iff_eq];omega
     have hkn:(aB.length == most)=false:=by rw[<- vM,beq_iff_eq];omega
     have HLEN:=ay hlen
     have hkl:aB.length<=1000:=by omega
     clear hl h1 hf hx hlen hnk;go_wp2_with (go_at_call 104;refine HO.out.mono ?_);rintro e w2 ⟨rfl,hq,dn⟩;have K2:=K0.call hq dn;clear hq dn;go_wp2_with (go_at_call 155;refine(HX.out _ K2.2.2.2.1 (HF.out _ K2.2.2.2.2)).mono ?_);rintro e w3 ⟨rfl,hq,dn⟩;have K3:=K2.call hq dn;clear hq dn K2 K0;go_wp2_with (go_at_call 108;refine(HK.out _ K3.2.2.2.1).mono ?_);rintro e w4 ⟨rfl,hq,dn⟩;have K4:=K3.call hq dn;clear hq dn K3;have hL:=K4.lit (.cells #[.int .i64 k.1] 3);have hnw:=aX w4 (.cells #[.int .i64 k.1] 3);go_wp2_with (at_builtin;refine wpList_append_lies _ rfl _ _ 46 rfl w.heap.size 3 i0 (.int .i64 0) 1 8 Tryz.underlying46 hi hz0 hz1 hz2 rfl (by decide) _ (aB.length) _ rfl hL.1 ⟨w4.heap.size,0,none⟩ 1 1 [.int .i64 k.1] rfl rfl ?c1 ?c2 ?c3 ?c4 ?c5 ?c6 _ rfl ?_)
     case c1=>exact vL (cs:=#[.int .i64 k.1]) (t:=3) (fr:=(0,0)) hnw
     case c2=>simp[Value.oneCell']
     case c3=>omega
     case c4=>unfold maxLen;omega
     case c5=>omega
     case c6=>exact hL.2.2.2.2.size
     intro g5 jO w5 hown hgrow hat hlt;obtain⟨R5,K5⟩:=hL.app (news:=[k.1]) hBw (by simp) hown hgrow hat (by simp) hlt;clear hL hnw hown hgrow hat hlt K4;go_wp2
     go_roundw
     case rel=>exact⟨r,aB++[k.1],k.2,R5,by have:=HLEN.out;simp;omega,HL.out,K5,HCK.out,λq=>by simp at q⟩
     case measure=>have:=HLEN.out;simp[slN];omega
   ·have hl':(aB,s)=res:=by
     cases r with
     | zero=>rw[jT,aU (λq=>hx q.2)] at hl;injection hl
     | succ r=>rw[jT,aU (λq=>hx q.2)] at hl;injection hl
    have HX:=ay (λw hp hv=>Em { E with R:=R } HE.out (.slice fa first.length fc) first s false (eq_false_of_ne_true hx) w hp hv HFL.out);have HL:=ay hl';clear hl hl' hf hx hlen;go_wp2_with (go_at_call 104;refine HO.out.mono ?_);rintro e w2 ⟨rfl,hq,dn⟩;have K2:=K0.call hq dn;clear hq dn;go_wp2_with (go_at_call 155;refine(HX.out _ K2.2.2.2.1 (HF.out _ K2.2.2.2.2)).mono ?_);rintro e w3 ⟨rfl,hq,dn⟩;have K3:=K2.call hq dn;clear hq dn;go_wp2;go_ret;have e4:=HL.out;subst e4;exact⟨_,R,rfl,yg.out,K3⟩
  ·have HO:=ay (vF { E with R:=R } s hf _ K0.2.2.2.1)
   have hl':(aB,s)=res:=by
    cases r with
    | zero=>rw[jT,aU (λq=>hf q.1)] at hl;injection hl
    | succ r=>rw[jT,aU (λq=>hf q.1)] at hl;injection hl
   have HL:=ay hl';clear hl hl' hf hlen;go_wp2_with (go_at_call 104;refine HO.out.mono ?_);rintro e w2 ⟨rfl,hq,dn⟩;have K2:=K0.call hq dn;clear hq dn;go_wp2;go_ret;have e4:=HL.out;subst e4;exact⟨_,R,rfl,yg.out,K2⟩
theorem SQ {d g:Nat}{aB:List Int}{st:aK}{r:List Int × aK}(h:iI ah d g aB st=some r):r.1.length<=aB.length+3:=by
 unfold iI at h
 split at h
 ·obtain⟨n,h2,h⟩:=cZ h
  obtain rfl:=lG h
  simp
 ·obtain rfl:=lG h
  simp
theorem abJ (ah:List Tok)(st:aK):(oO ah st).1.length<=1:=by
 unfold oO
 split<;>simp
theorem Hq (E:bG)(hE:E.ok)(g:Nat)(st:aK)(r:Int × aK)(w:World)(h:yh E.ah E.depth g st=some r)(hp:PW E st w)(hn:r.2.aj.length+1<=1099511627776)(hcl:st.aC=false) :
  Calls Tryz.prog 108 #[.pointer (some ⟨E.pb,0,none⟩)] w (eu E r w):=by
 have vQ:=hE.2.2;obtain⟨i0,hi,hz0,hz1,hz2⟩:=info_parts Tryz.nQ;have hB:E.B<=w.heap.size:=hp.fA;unfold yh at h;obtain⟨l,h1,h⟩:=cZ h;obtain⟨t,h2,h⟩:=cZ h;obtain⟨f,h3,h⟩:=cZ h;obtain rfl:=lG h;have n9:=aL (aM _ _ _) hn;have n8:=aL (aN _ _ _) n9;have n7:=aL (bA _ _ _ _ _ _ h3) n8;have n6:=aL (aN _ _ _) n7;have n5:=aL (jU h2) n6;have n4:=aL (aN _ _ _) n5;have n3:(jJ E.ah st).2.aj.length+1<=1099511627776:=aL (mP E.ah _ kT _ _ h1) n4;have n2:(lT E.ah st).2.aj.length+1<=1099511627776:=aL (aN _ _ _) n3;have n1:(sQ E.ah st).2.aj.length+1<=1099511627776:=aL (fF _ _ _) n2;have n0:(oO E.ah st).2.aj.length+1<=1099511627776:=aL (aN _ _ _) n1;have nl:st.aj.length+1<=1099511627776:=aL (Nk E.ah st) n0
 have hc3:(jJ E.ah st).2.aC=false:=by rw[(Fv E.ah st).2.2.1];exact hcl
 have hc4:l.2.aC=false:=by rw[(mP E.ah _ kT _ _ h1).2.2.1];exact hc3
 have hc5:(aJ E.ah [[41]] l.2).2.aC=false:=by rw[(aN E.ah [[41]] l.2).2.2.1];exact hc4
 have hll:=Jm _ _ _ _ h1;have hpl:=abJ E.ah st;have htl:=SQ h2;simp only[bY,fu,jC] at htl;have HX:=ay (wB E hE ⟨#[112,117,98]⟩ st w hp);have HLf:=ay (λR w hp=>bT { E with R:=R } st w hp hE.1 hE.2.1 nl);have Zh:=ay (λR w hp=>eD { E with R:=R } hE ⟨#[102,117,110]⟩ (oO E.ah st).2 w hp n0);have Rt:=ay (λR w hp=>tF { E with R:=R } hE 1 (sQ E.ah st).2 w hp n1);have HM3:=ay (λR w hp=>eD { E with R:=R } hE ⟨#[40]⟩ (lT E.ah st).2 w hp n2);have HLi:=ay (λR w hp=>SN { E with R:=R } hE (jI E.ah E.depth g) (jJ E.ah st).2 l w h1 hp n4 hc3 kT (λR2 s k w' hsc hk hq _ hnk=>WV { E with R:=R2 } hE g s k w' hk hq hnk hsc));have HM4:=ay (λR w hp=>eD { E with R:=R } hE ⟨#[41]⟩ l.2 w hp n4);have HTy:=ay (λW0 R v W K hB hl=>Kl E hE g W0 R v _ _ t W h2 K hB n6 hc5 hl);have HM5:=ay (λR w hp=>eD { E with R:=R } hE ⟨#[61]⟩ t.2 w hp n6);have HM6:=ay (λR w hp=>allT { E with R:=R } hE g (.expr 1) (aJ E.ah [[61]] t.2).2 f w h3 hp n8 (by show 1<=_;omega));have HM7:=ay (λR w hp=>eD { E with R:=R } hE ⟨#[59]⟩ f.2 w hp n8);have Xv:=ay (λR v w hp hv=>lI { E with R:=R } 3 v (t.1++[(aJ E.ah [[61]] t.2).1,f.1,(aJ E.ah [[59]] f.2).1]) (aJ E.ah [[59]] f.2).2 w hp hv (by simp;omega) n9);clear n0 n1 n2 n3 n4 n5 n6 n7 n8 n9 nl hn h1 h2 h3 h hc3 hc4 hc5;have hx0:bF E.ah st [(⟨#[112,117,98]⟩:ByteArray).data.toList]=bF E.ah st [Bt]:=rfl;rw[hx0] at HX;clear hx0;have HPU:Hid ((bF E.ah st [Bt]=true->oO E.ah st=([(aF E.ah st).1],(aF E.ah st).2))/\(bF E.ah st [Bt]=false->oO E.ah st=([],st))):=ay ⟨λq=>by rw[oO,bR q],λq=>by rw[oO,aU (by rw[q];decide)]⟩;generalize bF E.ah st [Bt]=x at HX HPU;go_enter Tryz.func108,Tryz.ntmps108
 go_upto_if 6 with (go_at_call 155;refine HX.out.mono ?_;rintro e w1 ⟨rfl,hq,dn⟩)
 have K1:=(jG.none hp).call hq dn;clear hq dn HX
 go_cut [3] (λv wc=>∃ R ao cap,v=.slice ao (oO E.ah st).1.length cap/\jG E w R (.slice ao (oO E.ah st).1.length cap) (oO E.ah st).1 (oO E.ah st).2 wc)
 case first =>
  cases x with
  | true =>
   have HPV:=ay (HPU.out.1 rfl);obtain⟨d0,_,_,_,_,_⟩:=PW.cells K1.2.2.2.1;have HLG:=ay (HLf.out E.R w1 K1.2.2.2.1);clear hpl htl;go_wp2_with (go_at_call 157;refine HLG.out.mono ?_);rintro e w2 ⟨rfl,hq,dn⟩;have K2:=K1.call hq dn;clear hq dn HLG d0;have hL:=K2.lit (.cells #[.int .i64 (aF E.ah st).1] 3);have hnw:=aX w2 (.cells #[.int .i64 (aF E.ah st).1] 3);go_wp2_with (at_builtin;refine wpList_append_lies _ rfl _ _ 46 rfl w.heap.size 3 i0 (.int .i64 0) 1 8 Tryz.underlying46 hi hz0 hz1 hz2 rfl (by decide) _ (0) _ rfl (hL.row (rfl:([]:List Int).length=0)) ⟨w2.heap.size,0,none⟩ 1 1 [.int .i64 (aF E.ah st).1] rfl rfl ?c1 ?c2 ?c3 ?c4 ?c5 ?c6 _ rfl ?_)
   case c1=>exact vL (cs:=#[.int .i64 (aF E.ah st).1]) (t:=3) (fr:=(0,0)) hnw
   case c2=>simp[Value.oneCell']
   case c3=>omega
   case c4=>unfold maxLen;omega
   case c5=>omega
   case c6=>exact hL.2.2.2.2.size
   intro g3 abK w3 hown hgrow hat hlt;obtain⟨R3,K3⟩:=hL.app (news:=[(aF E.ah st).1]) (n:=0+1) hB (by rw[bY,(rfl:([]:List Int).length=0)];rfl) hown hgrow hat (by simp) hlt;clear hL hnw hown hgrow hat hlt;generalize hkk:([]:List Int)++[(aF E.ah st).1]=kk3 at K3;have IJ:Hid (kk3.length=0+1):=ay (by rw[<- hkk,bY,(rfl:([]:List Int).length=0)];rfl);have HK3:=ay hkk;clear hkk;go_wp2
   go_meet
   rw[HPV.out];refine⟨R3,some ⟨g3,0,none⟩,abK,rfl,?_⟩;have e3:=K3;rw[<- HK3.out] at e3;exact e3
  | false =>
   have HPV:=ay (HPU.out.2 rfl);clear hpl htl;go_wp2
   go_meet
   rw[HPV.out];exact⟨E.R,none,0,rfl,K1⟩
 case rest =>
  obtain⟨R3,ao3,abK,rfl,K3⟩:=hcut;clear K1 HLf HPU
  obtain⟨w3,rfl⟩:∃ w3:World,w3=wc:=⟨_,rfl⟩
  generalize hk0:(oO E.ah st).1=k0 at hpl htl HTy K3;have TK:=ay hk0;clear hk0;have uy:=ay (Zh.out R3 _ K3.2.2.2.1);go_wp2_with (go_at_call 158;refine uy.out.mono ?_);rintro e w4 ⟨rfl,hq,dn⟩;have K4:=K3.call hq dn;clear hq dn uy;have uy:=ay (Rt.out R3 _ K4.2.2.2.1);go_wp2_with (go_at_call 110;refine uy.out.mono ?_);rintro e w5 ⟨rfl,hq,dn⟩;have K5:=K4.call hq dn;clear hq dn uy;have uy:=ay (HM3.out R3 _ K5.2.2.2.1);go_wp2_with (go_at_call 158;refine uy.out.mono ?_);rintro e w6 ⟨rfl,hq,dn⟩;have K6:=K5.call hq dn;clear hq dn uy;clear K3 K4 K5 Zh Rt HM3;have hL:=K6.lit (.cells #[.int .i64 (sQ E.ah st).1,.int .i64 (lT E.ah st).1,.int .i64 (jJ E.ah st).1] 3);have hnw:=aX w6 (.cells #[.int .i64 (sQ E.ah st).1,.int .i64 (lT E.ah st).1,.int .i64 (jJ E.ah st).1] 3);go_wp2_with (at_builtin;refine wpList_append_lies _ rfl _ _ 46 rfl w.heap.size 3 i0 (.int .i64 0) 1 8 Tryz.underlying46 hi hz0 hz1 hz2 rfl (by decide) _ (k0.length) _ rfl (hL.row (rfl:k0.length=k0.length)) ⟨w6.heap.size,0,none⟩ 3 3 [.int .i64 (sQ E.ah st).1,.int .i64 (lT E.ah st).1,.int .i64 (jJ E.ah st).1] rfl rfl ?c1 ?c2 ?c3 ?c4 ?c5 ?c6 _ rfl ?_)
  case c1=>exact vL (cs:=#[.int .i64 (sQ E.ah st).1,.int .i64 (lT E.ah st).1,.int .i64 (jJ E.ah st).1]) (t:=3) (fr:=(0,0)) hnw
  case c2=>simp[Value.oneCell']
  case c3=>omega
  case c4=>unfold maxLen;omega
  case c5=>omega
  case c6=>exact hL.2.2.2.2.size
  intro g7 aiC w7 hown hgrow hat hlt;obtain⟨R7,K7⟩:=hL.app (news:=[(sQ E.ah st).1,(lT E.ah st).1,(jJ E.ah st).1]) (n:=k0.length+3) hB (by rw[bY,(rfl:k0.length=k0.length)];rfl) hown hgrow hat (by simp) hlt;clear hL hnw hown hgrow hat hlt;generalize hkk:k0++[(sQ E.ah st).1,(lT E.ah st).1,(jJ E.ah st).1]=kk7 at K7;have HL7:Hid (kk7.length=k0.length+3):=ay (by rw[<- hkk,bY,(rfl:k0.length=k0.length)];rfl);have HK7:=ay hkk;clear hkk;clear K6
  go_upto_region 5 with fail
  go_cut [3] (λv wc=>∃ R ao cap,v=.slice ao (k0.length+3+l.1.length) cap/\jG E w R (.slice ao (k0.length+3+l.1.length) cap) (kk7++l.1) l.2 wc)
  case first =>
   have HLJ:=ay (HLi.out R7 _ K7.2.2.2.1)
   have hmf:∀ (fn:Fn) (first cap:Array Value) (w:World),(Instr.makeFunc fn first cap).run Tryz.prog w=.ok (.func fn first cap) w:=λ_ _ _ _=>rfl
   clear HLi;go_wp2_with (go_at_call 159;refine HLJ.out.mono ?_);rintro e w8 ⟨v,rfl,hiv,hnil,hq,dn⟩;have K8:=K7.call hq dn;clear hq dn HLJ K7
   by_cases hl0:l.1=[]
   ·obtain rfl:=hnil hl0
    have hlz:l.1.length=0:=by rw[hl0];rfl
    go_wp2_with (at_builtin;refine wpList_append_own_none rfl _ _ 46 rfl w.heap.size 3 i0 1 Tryz.underlying46 hi _ (k0.length+3) _ rfl (K8.row HL7.out) rfl ?_);go_wp2
    go_meet
    refine⟨R7,some ⟨g7,0,none⟩,aiC,by rw[hlz],?_⟩;rw[hl0,List.append_nil];exact K8
   ·have hpos:0<l.1.length:=List.length_pos_iff.2 hl0
    obtain⟨aov,QH,rfl,hcv,hf⟩:=hiv;obtain⟨vb,vo,vcs,vfr,rfl,hh,hj⟩:=hf hpos;clear hnil hl0 hf;go_wp2_with (at_builtin;refine wpList_append_lies _ rfl _ _ 46 rfl w.heap.size 3 i0 (.int .i64 0) 1 8 Tryz.underlying46 hi hz0 hz1 hz2 rfl (by decide) _ (k0.length+3) _ rfl (K8.row HL7.out) ⟨vb,vo,none⟩ l.1.length QH (l.1.map (Value.int .i64)) rfl (by simp) ?c1 ?c2 ?c3 ?c4 ?c5 ?c6 _ rfl ?_)
    case c1=>exact xH hh hj
    case c2=>intro u hu;obtain⟨y,_,rfl⟩:=List.mem_map.1 hu;rfl
    case c3=>exact hpos
    case c4=>unfold maxLen;omega
    case c5=>omega
    case c6=>exact K8.2.2.2.2.size
    intro g9 ag9 w9 hown hgrow hat hlt;obtain⟨R9,K9⟩:=K8.app (news:=l.1) (n:=k0.length+3+l.1.length) hB (by rw[bY,HL7.out]) hown hgrow hat (by simp) hlt;clear hown hgrow hat hlt K8 hh hj;go_wp2
    go_meet
    exact⟨R9,some ⟨g9,0,none⟩,ag9,rfl,K9⟩
  case rest =>
   obtain⟨R9,ao9,ag9,rfl,K9⟩:=hcut;clear K7 HLi
   obtain⟨w9,rfl⟩:∃ w9:World,w9=wc:=⟨_,rfl⟩
   generalize X8:kk7++l.1=kk9 at K9;have HL9:Hid (kk9.length=k0.length+3+l.1.length):=ay (by rw[<- X8,bY,HL7.out]);have HK9:=ay X8;clear X8;generalize hm9:k0.length+3+l.1.length=m9 at K9 HL9 htl
   have ajD:m9<=1000:=by omega
   clear hm9;have uy:=ay (HM4.out R9 _ K9.2.2.2.1);go_wp2_with (go_at_call 158;refine uy.out.mono ?_);rintro e mU ⟨rfl,hq,dn⟩;have Jp:=K9.call hq dn;clear hq dn uy;have hL:=Jp.lit (.cells #[.int .i64 (aJ E.ah [[41]] l.2).1] 3);have hnw:=aX mU (.cells #[.int .i64 (aJ E.ah [[41]] l.2).1] 3);go_wp2_with (at_builtin;refine wpList_append_lies _ rfl _ _ 46 rfl w.heap.size 3 i0 (.int .i64 0) 1 8 Tryz.underlying46 hi hz0 hz1 hz2 rfl (by decide) _ (m9) _ rfl (hL.row HL9.out) ⟨mU.heap.size,0,none⟩ 1 1 [.int .i64 (aJ E.ah [[41]] l.2).1] rfl rfl ?c1 ?c2 ?c3 ?c4 ?c5 ?c6 _ rfl ?_)
   case c1=>exact vL (cs:=#[.int .i64 (aJ E.ah [[41]] l.2).1]) (t:=3) (fr:=(0,0)) hnw
   case c2=>simp[Value.oneCell']
   case c3=>omega
   case c4=>unfold maxLen;omega
   case c5=>omega
   case c6=>exact hL.2.2.2.2.size
   intro g11 aiS wF hown hgrow hat hlt;obtain⟨R11,Bo⟩:=hL.app (news:=[(aJ E.ah [[41]] l.2).1]) (n:=m9+1) hB (by rw[bY,HL9.out];rfl) hown hgrow hat (by simp) hlt;clear hL hnw hown hgrow hat hlt;generalize hkk:kk9++[(aJ E.ah [[41]] l.2).1]=aha at Bo;have ajE:Hid (aha.length=m9+1):=ay (by rw[<- hkk,bY,HL9.out];rfl);have aiD:=ay hkk;clear hkk
   have ahb:aha=k0++[(sQ E.ah st).1,(lT E.ah st).1,(jJ E.ah st).1]++l.1++[(aJ E.ah [[41]] l.2).1]:=by rw[<- aiD.out,<- HK9.out,<- HK7.out]
   have afg:=Bo;rw[ahb] at afg;have HTz:=ay (HTy.out w R11 _ wF afg hB (by simp;omega));clear ahb afg HTy K9 Jp HM4;go_wp2_with (go_at_call 161;refine HTz.out.mono ?_);rintro e w12 ⟨v12,R12,rfl,A8⟩;clear HTz Bo;obtain⟨ajF,Tn,rfl⟩:=qc A8.1
   have ajG:t.1.length<=1000000:=by omega
   clear htl;have uy:=ay (HM5.out R12 _ A8.2.2.2.1);go_wp2_with (go_at_call 158;refine uy.out.mono ?_);rintro e w13 ⟨rfl,hq,dn⟩;have DJ:=A8.call hq dn;clear hq dn uy;have uy:=ay (HM6.out R12 _ DJ.2.2.2.1);go_wp2_with (go_at_call 162;refine uy.out.mono ?_);rintro e w14 ⟨rfl,hq,dn⟩;have K14:=DJ.call hq dn;clear hq dn uy;have uy:=ay (HM7.out R12 _ K14.2.2.2.1);go_wp2_with (go_at_call 158;refine uy.out.mono ?_);rintro e w15 ⟨rfl,hq,dn⟩;have K15:=K14.call hq dn;clear hq dn uy;clear A8 DJ K14 HM5 HM6 HM7;have hL:=K15.lit (.cells #[.int .i64 (aJ E.ah [[61]] t.2).1,.int .i64 f.1,.int .i64 (aJ E.ah [[59]] f.2).1] 3);have hnw:=aX w15 (.cells #[.int .i64 (aJ E.ah [[61]] t.2).1,.int .i64 f.1,.int .i64 (aJ E.ah [[59]] f.2).1] 3);go_wp2_with (at_builtin;refine wpList_append_lies _ rfl _ _ 46 rfl w.heap.size 3 i0 (.int .i64 0) 1 8 Tryz.underlying46 hi hz0 hz1 hz2 rfl (by decide) _ (t.1.length) _ rfl (hL.row (rfl:t.1.length=t.1.length)) ⟨w15.heap.size,0,none⟩ 3 3 [.int .i64 (aJ E.ah [[61]] t.2).1,.int .i64 f.1,.int .i64 (aJ E.ah [[59]] f.2).1] rfl rfl ?c1 ?c2 ?c3 ?c4 ?c5 ?c6 _ rfl ?_)
   case c1=>exact vL (cs:=#[.int .i64 (aJ E.ah [[61]] t.2).1,.int .i64 f.1,.int .i64 (aJ E.ah [[59]] f.2).1]) (t:=3) (fr:=(0,0)) hnw
   case c2=>simp[Value.oneCell']
   case c3=>omega
   case c4=>unfold maxLen;omega
   case c5=>omega
   case c6=>exact hL.2.2.2.2.size
   intro g16 aiT w16 hown hgrow hat hlt;obtain⟨R16,K16⟩:=hL.app (news:=[(aJ E.ah [[61]] t.2).1,f.1,(aJ E.ah [[59]] f.2).1]) (n:=t.1.length+3) hB (by rw[bY,(rfl:t.1.length=t.1.length)];rfl) hown hgrow hat (by simp) hlt;clear hL hnw hown hgrow hat hlt;generalize hkk:t.1++[(aJ E.ah [[61]] t.2).1,f.1,(aJ E.ah [[59]] f.2).1]=aiE at K16;have ajH:Hid (aiE.length=t.1.length+3):=ay (by rw[<- hkk,bY,(rfl:t.1.length=t.1.length)];rfl);have aiF:=ay hkk;clear hkk;clear K15;have e16:=K16;rw[<- aiF.out] at e16;have HNp:=ay (Xv.out R16 _ _ e16.2.2.2.1 e16.node);clear e16 Xv;go_wp2_with (go_at_call 109;refine HNp.out.mono ?_);rintro e w17 ⟨rfl,hq,dn⟩;have K17:=K16.call hq dn;go_wp2;go_ret;exact⟨rfl,PR.drop K17.2.2.2.1 K17.2.2.1,K17.2.2.2.2⟩
theorem Km {B:Nat}{wr:World}{cs:Array Value}{fr:Nat × Nat}{b n cap:Nat}{l:List aH}(h:w.heap[b]?=some (.cells cs 9 fr))(hk:Kp B w wr)(hn:l.length=n)(hc:∀ j,(hj:j<l.length)->cs[j]?=some (.string ⟨l[j].toArray⟩)):mq wr (.slice (some ⟨b,0,none⟩) n cap) l:=by
 subst hn;have h2:=hk.2 _ _ _ _ h (by decide) (by decide) (by decide);refine⟨b,0,cap,rfl,(bP h2).1,λj hj=>?_⟩;rw[Nat.zero_add];rw[aZ h2]
 simpa using hc j hj
theorem Pq (E:bG)(hE:E.ok)(g:Nat)(st:aK)(r:Int × aK)(w:World)(h:qE E.ah E.depth g st=some r)(hp:PW E st w)(hcl:st.aC=false)(hn:r.2.aj.length+1<=1099511627776) :
  Calls Tryz.prog 65 #[.pointer (some ⟨E.pb,0,none⟩)] w (ado E r.2 w):=by
 obtain⟨i0,hi,hz0,hz1,hz2⟩:=info_parts Tryz.nQ;have hB:E.B<=w.heap.size:=hp.fA;unfold qE at h;obtain⟨a,h1,h⟩:=cZ h;obtain⟨b,h2,h⟩:=cZ h;obtain rfl:=lG h;have n3:=aL (aM _ _ _) hn;have n2:=aL (fF _ _ _) n3;have n1:=aL (qd wI _ _ _ _ h2) n2;have hla:=FD _ _ _ _ h1;have hlb:=FD _ _ _ _ h2;simp only[jC] at hla hlb
 have hca:a.2.aC=false:=by rw[(qd (wJ E.ah) _ _ _ _ h1).2.2.1];exact hcl
 have H7:=ay (λw hp hF=>D9 E hE _ [sF] (some ⟨w.heap.size - 1,0,none⟩) 1 16 (by omega) st a w h1 hp n1 hcl hF (by decide) (wJ E.ah) (λR s k w' hsc hk hq hnk=>by
  obtain rfl:=lG hk
  exact LZ { E with R:=R } hE s w' hq hnk))
 have HS2:=ay (λR w hp hF=>L6 { E with R:=R } hE _ [Bt,Ir] (some ⟨w.heap.size - 1,0,none⟩) 2 64 (by omega) a.2 b w h2 hp n2 hca hF (by decide) wI (λR2 s k w' hsc hk hq hnk=>Hq { E with R:=R2 } hE g s k w' hk hq hnk hsc));have HKi:=ay (λR w hp=>tF { E with R:=R } hE 5 b.2 w hp n2);have Xv:=ay (λR v w hp hv=>lI { E with R:=R } 1 v (a.1++b.1++[(bC E.ah 5 b.2).1]) (bC E.ah 5 b.2).2 w hp hv (by simp;omega) n3)
 have hmf:∀ (fn:Fn) (first cap:Array Value) (w:World),(Instr.makeFunc fn first cap).run Tryz.prog w=.ok (.func fn first cap) w:=λ_ _ _ _=>rfl
 clear n1 n2 n3 hn h1 h2 h hca;have hs1:=H7.out (w.alloc (.cells #[.string ⟨#[105,109,112,111,114,116]⟩] 9)) (hp.later (aA w _)) (λwr hk=>Km (by rw[nG,Nat.add_sub_cancel];exact aX w _) hk rfl (λj hj=>by obtain rfl:j=0:=(by simpa using hj);rfl));rw[show (w.alloc (.cells #[.string ⟨#[105,109,112,111,114,116]⟩] 9)).heap.size - 1=w.heap.size by simp] at hs1;have HS:=ay hs1;clear hs1 H7;go_enter Tryz.func65,Tryz.ntmps65
 go_upto_region 1 with (go_at_call 106;refine HS.out.mono ?_;rintro e w1 ⟨v1,R1,rfl,ahc,K1'⟩)
 have K1:=K1'.lift (W0:=w) (Kp.of (aA w _) hB);clear K1' HS ahc;obtain⟨ao1,ahd,rfl⟩:=qc K1.1
 go_cut [2] (λv wc=>∃ R ao cap,v=.slice ao (a.1.length+b.1.length) cap/\jG E w R (.slice ao (a.1.length+b.1.length) cap) (a.1++b.1) b.2 wc)
 case first =>
  have hs2:=HS2.out R1 (w1.alloc (.cells #[.string ⟨#[112,117,98]⟩,.string ⟨#[102,117,110]⟩] 9)) (PW.later K1.2.2.2.1 (aA w1 _)) (λwr hk=>Km (by rw[nG,Nat.add_sub_cancel];exact aX w1 _) hk rfl (λj hj=>by
   match j,hj with
   | 0,_=>rfl
   | 1,_=>rfl))
  rw[show (w1.alloc (.cells #[.string ⟨#[112,117,98]⟩,.string ⟨#[102,117,110]⟩] 9)).heap.size - 1=w1.heap.size by simp] at hs2;have HS:=ay hs2;clear hs2 HS2 HKi Xv;go_wp2_with (go_at_call 106;refine HS.out.mono ?_);rintro e w2 ⟨v2,R2,rfl,hnil,K2'⟩;have K2:=K1.call (w':=w2) (s':=b.2) (PR.drop K2'.2.2.2.1 K2'.2.2.1) ((Kp.of (aA w1 _) K1.2.2.2.1.fA).trans K2'.2.2.2.2);have hiv:eO w2 v2 b.1:=K2'.node;clear HS K1 K2'
  by_cases hl0:b.1=[]
  ·obtain rfl:=hnil hl0
   have hlz:b.1.length=0:=by rw[hl0];rfl
   go_wp2_with (at_builtin;refine wpList_append_own_none rfl _ _ 46 rfl w.heap.size 3 i0 1 Tryz.underlying46 hi _ (a.1.length) _ rfl (K2.row rfl) rfl ?_);go_wp2
   go_meet
   refine⟨R1,ao1,ahd,by rw[hlz];rfl,?_⟩;rw[hl0,List.append_nil];exact K2
  ·have hpos:0<b.1.length:=List.length_pos_iff.2 hl0
   obtain⟨aov,QH,rfl,hcv,hf⟩:=hiv;obtain⟨vb,vo,vcs,vfr,rfl,hh,hj⟩:=hf hpos;clear hnil hl0 hf;go_wp2_with (at_builtin;refine wpList_append_lies _ rfl _ _ 46 rfl w.heap.size 3 i0 (.int .i64 0) 1 8 Tryz.underlying46 hi hz0 hz1 hz2 rfl (by decide) _ (a.1.length) _ rfl (K2.row rfl) ⟨vb,vo,none⟩ b.1.length QH (b.1.map (Value.int .i64)) rfl (by simp) ?c1 ?c2 ?c3 ?c4 ?c5 ?c6 _ rfl ?_)
   case c1=>exact xH hh hj
   case c2=>intro u hu;obtain⟨y,_,rfl⟩:=List.mem_map.1 hu;rfl
   case c3=>exact hpos
   case c4=>unfold maxLen;omega
   case c5=>omega
   case c6=>exact K2.2.2.2.2.size
   intro g3 abK w3 hown hgrow hat hlt;obtain⟨R3,K3⟩:=K2.app (news:=b.1) (n:=a.1.length+b.1.length) hB (by rw[bY]) hown hgrow hat (by simp) hlt;clear hown hgrow hat hlt K2 hh hj;go_wp2
   go_meet
   exact⟨R3,some ⟨g3,0,none⟩,abK,rfl,K3⟩
 case rest =>
  obtain⟨R3,ao3,abK,rfl,K3⟩:=hcut;clear K1 HS2
  obtain⟨w3,rfl⟩:∃ w3:World,w3=wc:=⟨_,rfl⟩
  generalize eP:a.1++b.1=kk3 at K3 Xv;have IJ:Hid (kk3.length=a.1.length+b.1.length):=ay (by rw[<- eP,bY]);have HK3:=ay eP;clear eP;generalize hm3:a.1.length+b.1.length=m3 at K3 IJ
  have ajI:m3<=80:=by omega
  clear hm3 hla hlb;have uy:=ay (HKi.out R3 _ K3.2.2.2.1);go_wp2_with (go_at_call 110;refine uy.out.mono ?_);rintro e w4 ⟨rfl,hq,dn⟩;have K4:=K3.call hq dn;clear hq dn uy;have hL:=K4.lit (.cells #[.int .i64 (bC E.ah 5 b.2).1] 3);have hnw:=aX w4 (.cells #[.int .i64 (bC E.ah 5 b.2).1] 3);go_wp2_with (at_builtin;refine wpList_append_lies _ rfl _ _ 46 rfl w.heap.size 3 i0 (.int .i64 0) 1 8 Tryz.underlying46 hi hz0 hz1 hz2 rfl (by decide) _ (m3) _ rfl (hL.row IJ.out) ⟨w4.heap.size,0,none⟩ 1 1 [.int .i64 (bC E.ah 5 b.2).1] rfl rfl ?c1 ?c2 ?c3 ?c4 ?c5 ?c6 _ rfl ?_)
  case c1=>exact vL (cs:=#[.int .i64 (bC E.ah 5 b.2).1]) (t:=3) (fr:=(0,0)) hnw
  case c2=>simp[Value.oneCell']
  case c3=>omega
  case c4=>unfold maxLen;omega
  case c5=>omega
  case c6=>exact hL.2.2.2.2.size
  intro g5 jO w5 hown hgrow hat hlt;obtain⟨R5,K5⟩:=hL.app (news:=[(bC E.ah 5 b.2).1]) (n:=m3+1) hB (by rw[bY,IJ.out];rfl) hown hgrow hat (by simp) hlt;clear hL hnw hown hgrow hat hlt;generalize hkk:kk3++[(bC E.ah 5 b.2).1]=kk5 at K5;have OA:Hid (kk5.length=m3+1):=ay (by rw[<- hkk,bY,IJ.out];rfl);have HK5:=ay hkk;clear hkk;clear K3 K4;have e5:=K5;rw[<- HK5.out] at e5;have HNp:=ay (Xv.out R5 _ _ e5.2.2.2.1 e5.node);clear e5 Xv;go_wp2_with (go_at_call 109;refine HNp.out.mono ?_);rintro e w6 ⟨rfl,hq,dn⟩;have K6:=K5.call hq dn;go_wp2
  go_end0
  have e6:=PR.drop K6.2.2.2.1 K6.2.2.1;rw[<- HK3.out] at e6;simp only[om] at e6 |-;exact⟨rfl,e6,K6.2.2.2.2⟩
theorem Pt (s:ByteArray)(d:Nat)(w:World)(hd1:1<=d)(hd2:d<=200)(hs:s.size<=1099511627776)(ah:List Tok)(hl:dQ s.data.toList=.ok ah)(hn:ah.length<=100000)
  (a:Int × aK) (ha:qE ah d (Br ah) lQ=some a) (han:a.2.aj.length<=2 * ah.length) (hkl:a.2.fE=0->∀ n∈a.2.aj,n.aB.length<=1000000) :
  Calls Tryz.prog 64 #[.string s,.int .i64 d,.func (.func 65) #[] #[]] w (LY (Iq ah a.2) w):=by
 have hpos:=(iZ hl).some
 have HA:Hid (∀ (E:bG) (w:World),E.ah=ah->E.depth=d->E.ok->PW E lQ w->Calls Tryz.prog 65 #[.pointer (some ⟨E.pb,0,none⟩)] w (ado E a.2 w)):=ay (λE w h1 h2 hE hp=>by
  subst h1 h2
  exact Pq E hE (Br E.ah) lQ a w ha hp rfl (by omega))
 clear ha;generalize a.2=st at han hkl HA |-
 have hnl:st.aj.length<=1000000:=by omega
 clear han
 have HL:Hid (∀ W,Calls Tryz.prog 102 #[.string s] W λe w'=>(∃ at_ ct,e=.returned (.tuple #[.slice at_ ah.length ct,.agg #[.int .i64 0,.int .i64 0]])/\Rec w'.heap.size w' (.slice at_ ah.length ct) 4 dP ah)/\Below W.heap.size W w'):=ay λW=>(Kz s W hs).mono λe w' h=>by
  unfold Te at h;rw[hl] at h;obtain⟨h1,v,h2,h3⟩:=h;obtain⟨at_,ct,rfl,_,_⟩:=h3.form (λ_=>rfl);exact⟨⟨at_,ct,h2,h3⟩,h1⟩
 have hal:=(aA w (.cells #[.slice none 0 0,.slice none 0 0] 93)).alloc (by simp) (.cells #[.int .i64 0,.int .i64 0] 31);have e1:=(gZ (w.alloc (.cells #[.slice none 0 0,.slice none 0 0] 93)) (.cells #[.int .i64 0,.int .i64 0] 31) w.heap.size (by simp)).trans (aX w (.cells #[.slice none 0 0,.slice none 0 0] 93));have e2:=aX (w.alloc (.cells #[.slice none 0 0,.slice none 0 0] 93)) (.cells #[.int .i64 0,.int .i64 0] 31);rw[nG] at e2
 have ag4:¬ ((d:Int)<1):=by omega
 have ag5:¬ ((200:Int)<(d:Int)):=by omega
 clear hl;go_enter Tryz.func64,Tryz.ntmps64
 go_upto_region 6 with (go_at_call 102;refine(HL.out _).mono ?_;rintro e w3 ⟨⟨at_,ct,rfl,hrec⟩,hb3⟩;have hz3:=hb3.size)
 rw[nG,nG] at hz3;have G6:=(gZ w3 (.cells #[.int .i64 0,.int .i64 0] 31) w.heap.size (by omega)).trans ((hb3.block w.heap.size (by simp;omega)).trans e1);have G7:=(gZ w3 (.cells #[.int .i64 0,.int .i64 0] 31) (w.heap.size+1) (by omega)).trans ((hb3.block (w.heap.size+1) (by simp)).trans e2);have hb4:=(hal.trans (hb3.mono (by simp;omega))).alloc (by omega) (.cells #[.int .i64 0,.int .i64 0] 31);have Ul:=hrec.below (aA w3 (.cells #[.int .i64 0,.int .i64 0] 31))
 have BJ:w3.heap.size<=(w3.alloc (.cells #[.int .i64 0,.int .i64 0] 31)).heap.size:=by simp
 clear hb3 e1 e2 hal HL hrec ag4 ag5;generalize w3.heap.size=B3 at Ul BJ hz3 |-;generalize w3.alloc _=w4 at G6 G7 hb4 Ul BJ |-;have HN:=ay (Yn w4.heap.size _ ah w4 (Ul.mono BJ) hpos (by omega))
 go_upto_region 7 with (go_at_call 103;refine HN.out.mono ?_;rintro e w5 ⟨bb,B,tv,rfl,hbw,adH,mZ,hb5⟩)
 have aiG:=hbw;obtain⟨hBb,nv0,l0,hbk,_⟩:=aiG;have hblt:=(bP hbk).1;have G65:=(gZ w5 (.cells #[.pointer (some ⟨bb,0,none⟩),.int .i64 d,.bool false,.int .i64 0,.int .i64 0] 208) w.heap.size (by have:=hb5.size;have:=(bP G6).1;omega)).trans ((hb5.block w.heap.size (bP G6).1).trans G6);have G75:=(gZ w5 (.cells #[.pointer (some ⟨bb,0,none⟩),.int .i64 d,.bool false,.int .i64 0,.int .i64 0] 208) (w.heap.size+1) (by have:=hb5.size;have:=(bP G7).1;omega)).trans ((hb5.block (w.heap.size+1) (bP G7).1).trans G7);have hb6:=(hb4.trans (hb5.mono hb4.size)).alloc (by have:=hb4.size;have:=hb5.size;omega) (.cells #[.pointer (some ⟨bb,0,none⟩),.int .i64 d,.bool false,.int .i64 0,.int .i64 0] 208)
 have hPW:PW ⟨[],B,w5.heap.size,bb,tv,ah,d⟩ lQ (w5.alloc (.cells #[.pointer (some ⟨bb,0,none⟩),.int .i64 d,.bool false,.int .i64 0,.int .i64 0] 208)) :=
  ⟨aX _ _,hbw.later (aA _ _),adH.below ((aA w5 _).mono (by omega)),by show B<=w5.heap.size;omega,kJ _,λr hr=>by cases hr⟩
 have hBw:w.heap.size<=B:=jq hb4.size mZ;have HAL:=ay (HA.out ⟨[],B,w5.heap.size,bb,tv,ah,d⟩ _ rfl rfl ⟨hpos,by show ah.length<=_;omega,by show d<=1000;omega⟩ hPW);clear HN HA hbw adH hb5 hb4 G6 G7 Ul hPW hbk;generalize w5.heap.size=pb at HAL |-;generalize w5.alloc _=w6 at G65 G75 hb6 HAL |-
 go_upto_region 8 with (go_at_call 65;refine HAL.out.mono ?_;rintro e w7 ⟨rfl,Ik,tK⟩)
 have G67:=tK.2 _ _ _ _ G65 (by decide) (by decide) (by decide);have G77:=tK.2 _ _ _ _ G75 (by decide) (by decide) (by decide);have Ad:Below w.heap.size w w7:=hb6.trans (tK.1.mono hBw);have HOK:=ay (uM _ st w7 Ik);obtain⟨c0,c1,c2,c3,c4,cz⟩:=Ik.cells;obtain⟨h1,Lx,Um,_⟩:=Ik;obtain⟨q0,q1,qz⟩:=ql G67;obtain⟨p0,p1,pz⟩:=jm G77;clear tK HAL h1 G65 G75 hb6;simp only at c0 c1 c2 c3 c4 Lx Um
 by_cases hf:st.fE=0
 ·have hok:okB st=true:=by unfold okB;simp[hf]
  rw[hok] at HOK;have HD:=ay (abG _ B bb tv ah st.aj st.used w7 Lx Um hpos (by omega) hnl (hkl hf));have HOF:Hid (Iq ah st=.good ah st.aj):=ay (by rw[Iq,bR hf]);clear hok hf Lx Um c1 c2 c3 c4 q0 q1 qz p0 p1 pz;rw[HOF.out]
  go_upto_region 10 with (go_at_call 104;refine HOK.out.mono ?_;rintro e w8 ⟨rfl,rfl⟩)
  go_wp2_with (go_at_call 105;refine HD.out.mono ?_;rintro e w9 ⟨v9,rfl,ht9,DN⟩;obtain⟨at9,ct9,an9,cn9,rfl⟩:=ht9.at.slices;have G69:=(DN.block w.heap.size (bP G67).1).trans G67;have G79:=(DN.block (w.heap.size+1) (bP G77).1).trans G77;obtain⟨q0,q1,qz⟩:=ql G69;obtain⟨p0,p1,pz⟩:=jm G79);have T1:=ht9.set G69 (by decide) (by decide) (by decide) 0 (.slice at9 ah.length ct9);have G1:=jN w9 w.heap.size 0 _ _ (.slice at9 ah.length ct9) G69;have T2:=T1.set G1 (by decide) (by decide) (by decide) 1 (.slice an9 st.aj.length cn9)
  have F1:((w9.setCell ⟨w.heap.size,0,none⟩ (.slice at9 ah.length ct9)).setCell ⟨w.heap.size,1,none⟩ (.slice an9 st.aj.length cn9)).heap[w.heap.size+1]?=some (.cells #[.int .i64 0,.int .i64 0] 31 (0,0)):=by
   rw[qm _ _ _ _ (by show w.heap.size+1≠w.heap.size;omega),qm _ _ _ _ (by show w.heap.size+1≠w.heap.size;omega)];exact G79
  have T3:=T2.set F1 (by decide) (by decide) (by decide) 0 (.int .i64 0);have F2:=jN _ (w.heap.size+1) 0 _ _ (.int .i64 0) F1;have T4:=T3.set F2 (by decide) (by decide) (by decide) 1 (.int .i64 0);have aew:=Ad.trans (DN.mono Ad.size);refine nI (v:=.tuple #[.agg #[.slice at9 ah.length ct9,.slice an9 st.aj.length cn9],.agg #[.int .i64 0,.int .i64 0]]) (by simp[results,Tryz.results64,go_sem,q0,q1,p0,p1]) rfl ?_;rw[HOF.out];exact⟨(((aew.setCell (by simp) _).setCell (by simp) _).setCell (by simp) _).setCell (by simp) _,at9,ct9,an9,cn9,rfl,T4⟩
 ·have hok:okB st=false:=by unfold okB;simp[hf]
  rw[hok] at HOK;have HOF:Hid (Iq ah st=.bad st.fE st.fAt):=ay (by rw[Iq,aU hf]);clear hok hf Lx Um c1 c2 hkl hnl
  go_upto_region 9 with (go_at_call 104;refine HOK.out.mono ?_;rintro e w8 ⟨rfl,rfl⟩)
  go_region
  go_wp2;refine nI (v:=.tuple #[.agg #[.slice none 0 0,.slice none 0 0],.agg #[.int .i64 st.fE,.int .i64 st.fAt]]) (by simp[results,Tryz.results64,go_sem,q0,q1,p0,p1]) rfl ?_;rw[HOF.out];exact⟨((((Ad.setCell (by simp) _).setCell (by simp) _).setCell (by simp) _).setCell (by simp) _).drew,rfl⟩
theorem WW (s:ByteArray)(d:Nat)(w:World)(hd1:1<=d)(hd2:d<=200)(hs:s.size<=1099511627776) :
  Calls Tryz.prog 64 #[.string s,.int .i64 d,.func (.func 65) #[] #[]] w (LY (ji s.data.toList d) w):=by
 cases hl:dQ s.data.toList with
 | error x =>
  have hf:=(uH hl).2
  have e:ji s.data.toList d=.bad x.1 x.2:=by rw[ji,hl]
  rw[e];exact Pp s d _ w hd1 hd2 hs x.1 x.2 hl (by omega)
 | ok ah =>
  have hL:=iZ hl
  have hlen:ah.length<=65537:=by
   have h1:=hL.count;unfold dQ at hl
   split at hl
   ·cases hl
   ·omega
  obtain⟨a,ha⟩:=CO hL.Yv d lQ;have h3:=JA ha;have h4:=Jv ha (kJ _);unfold nC at h3;simp only[lQ,jC] at h3
  have e:ji s.data.toList d=Iq ah a.2:=by
   rw[ji,hl];simp only;rw[ha]
  rw[e]
  refine Pt s d w hd1 hd2 hs ah hl (by omega) a ha (by omega) λhf n hm=>?_
  obtain⟨q,he,_⟩:=Tz hL ha hf
  have g1:a.2.aj.length=q.pt.nd:=by rw[he,PT.uI]
  rw[he] at hm;have:=KT _ _ _ n hm;omega
theorem xY (s:ByteArray)(d:Nat)(w:World)(hd1:1<=d)(hd2:d<=200)(hs:s.size<=1099511627776) :
  Calls Tryz.prog 29 #[.string s,.int .i64 d] w (LY (ji s.data.toList d) w):=by
 have HR:=ay (λW=>WW s d W hd1 hd2 hs);have hal:=(aA w (.cells #[.slice none 0 0,.slice none 0 0] 93)).alloc (by simp) (.cells #[.int .i64 0,.int .i64 0] 31);have e1:=(gZ (w.alloc (.cells #[.slice none 0 0,.slice none 0 0] 93)) (.cells #[.int .i64 0,.int .i64 0] 31) w.heap.size (by simp)).trans (aX w (.cells #[.slice none 0 0,.slice none 0 0] 93));have e2:=aX (w.alloc (.cells #[.slice none 0 0,.slice none 0 0] 93)) (.cells #[.int .i64 0,.int .i64 0] 31);rw[nG] at e2
 have HB:Hid (∀ w9,Below ((w.alloc (.cells #[.slice none 0 0,.slice none 0 0] 93)).alloc (.cells #[.int .i64 0,.int .i64 0] 31)).heap.size ((w.alloc (.cells #[.slice none 0 0,.slice none 0 0] 93)).alloc (.cells #[.int .i64 0,.int .i64 0] 31)) w9->Below w.heap.size w w9/\w9.heap[w.heap.size]?=some (.cells #[.slice none 0 0,.slice none 0 0] 93 (0,0))/\w9.heap[w.heap.size+1]?=some (.cells #[.int .i64 0,.int .i64 0] 31 (0,0))):=ay λw9 hb=>⟨hal.trans (hb.mono (by simp;omega)),(hb.block w.heap.size (by simp;omega)).trans e1,(hb.block (w.heap.size+1) (by simp)).trans e2⟩
 clear hal e1 e2;generalize ji s.data.toList d=r at HR |-;go_enter Tryz.func29,Tryz.ntmps29
 cases r with
 | bad c a =>
  go_wp2_with (go_at_call 64;refine(HR.out _).mono ?_;rintro e w9 ⟨DN,rfl⟩;obtain⟨hb,G6,G7⟩:=HB.out w9 DN;obtain⟨q0,q1,qz⟩:=ql G6;obtain⟨p0,p1,pz⟩:=jm G7);refine nI (v:=.tuple #[.agg #[.slice none 0 0,.slice none 0 0],.agg #[.int .i64 c,.int .i64 a]]) (by simp[results,Tryz.results29,go_sem,q0,q1,p0,p1]) rfl ?_;exact⟨(((hb.setCell (by simp) _).setCell (by simp) _).setCell (by simp) _).setCell (by simp) _,rfl⟩
 | good ah aj =>
  go_wp2_with (go_at_call 64;refine(HR.out _).mono ?_;rintro e w9 ⟨DN,at9,ct9,an9,cn9,rfl,ht9⟩;obtain⟨hb,G69,G79⟩:=HB.out w9 DN;obtain⟨q0,q1,qz⟩:=ql G69;obtain⟨p0,p1,pz⟩:=jm G79);have T1:=ht9.set G69 (by decide) (by decide) (by decide) 0 (.slice at9 ah.length ct9);have G1:=jN w9 w.heap.size 0 _ _ (.slice at9 ah.length ct9) G69;have T2:=T1.set G1 (by decide) (by decide) (by decide) 1 (.slice an9 aj.length cn9)
  have F1:((w9.setCell ⟨w.heap.size,0,none⟩ (.slice at9 ah.length ct9)).setCell ⟨w.heap.size,1,none⟩ (.slice an9 aj.length cn9)).heap[w.heap.size+1]?=some (.cells #[.int .i64 0,.int .i64 0] 31 (0,0)):=by
   rw[qm _ _ _ _ (by show w.heap.size+1≠w.heap.size;omega),qm _ _ _ _ (by show w.heap.size+1≠w.heap.size;omega)];exact G79
  have T3:=T2.set F1 (by decide) (by decide) (by decide) 0 (.int .i64 0);have F2:=jN _ (w.heap.size+1) 0 _ _ (.int .i64 0) F1;have T4:=T3.set F2 (by decide) (by decide) (by decide) 1 (.int .i64 0);refine nI (v:=.tuple #[.agg #[.slice at9 ah.length ct9,.slice an9 aj.length cn9],.agg #[.int .i64 0,.int .i64 0]]) (by simp[results,Tryz.results29,go_sem,q0,q1,p0,p1]) rfl ?_;exact⟨(((hb.setCell (by simp) _).setCell (by simp) _).setCell (by simp) _).setCell (by simp) _,at9,ct9,an9,cn9,rfl,T4⟩
theorem abL (B:Nat)(w:World)(sz:Nat):Sl B w (.slice none 0 0) sz 0 []:=⟨none,0,rfl,bD _,by simp,λh=>absurd h (by omega)⟩
theorem adf (w:World):bJ 0 w (.agg #[.slice none 0 0,.slice none 0 0]) [] []:=⟨_,_,[],rfl,abL _ _ _,rfl,abL _ _ _,λp hp=>by cases hp⟩
theorem WX (G:FX ah aj D)(B:Nat)(tv nv:Value)(w:World)(h:lW B w (.agg #[tv,nv]) ah aj)(hB:B<=w.heap.size) :
  Calls Tryz.prog 165 #[.agg #[tv,nv],.int .i64 ((aj.length:Int) - 1)] w λe w'=>e=.returned (.int .i64 0)/\Below w.heap.size w w':=by
 have hR:=λW (hW:Below w.heap.size w W)=>JI B tv nv ah aj (vX 0 ah.length) (aj.length+1) W (h.below (hW.mono hB)) (jq hB hW.size) G.few G.aB (λ_ _ _ _=>G.leaves) (by simp[vX];have:=G.VD;omega) (by have:=G.VD;omega)
 rw[G.right] at hR;have hp:=G.pos;have hf:=G.few;obtain⟨at_,ct,an,cn,hv⟩:=h.slices;simp only[Value.agg.injEq,Array.mk.injEq,List.cons.injEq,and_true] at hv;obtain⟨rfl,rfl⟩:=hv
 have hI1:((aj.length:Int) - 1)<(aj.length:Int):=by omega
 have hI0:0<=((aj.length:Int) - 1):=by omega
 have HR:=ay hR;have hbb:=(bQ w.heap.size w).alloc (bD _) (.cells #[.slice at_ ah.length ct,.slice an aj.length cn] 93);have e1:=aX w (.cells #[.slice at_ ah.length ct,.slice an aj.length cn] 93);clear h G hR;go_enter Tryz.func165,Tryz.ntmps165
 go_upto_region 3 with (go_at_call 215;refine(HR.out _ hbb).mono ?_;rintro e w3 ⟨rfl,hb3⟩)
 have T3:=(hb3.block w.heap.size (by simp)).trans e1;obtain⟨c0,c1⟩:=bV T3;have hb4:=hbb.trans (hb3.mono (by simp));clear hb3 e1 T3 HR hbb;go_wp2;go_ret;exact⟨rfl,hb4⟩
theorem abM (n:Int)(w:World) :
  Calls Tryz.prog 165 #[.agg #[.slice none 0 0,.slice none 0 0],.int .i64 n] w λe w'=>e=.returned (.int .i64 10)/\Below w.heap.size w w':=by
 have hT:∀ W:World,lW 0 W (.agg #[.slice none 0 0,.slice none 0 0]) [] []:=λW=>(adf W).x
 have hR:=λW=>JI 0 (.slice none 0 0) (.slice none 0 0) [] [] [] 0 W (hT W) (kJ _) (by decide) (λn hn=>by cases hn) (λnJ hk h0 _=>absurd (by
  rw[qW,nN] at hk
  injection hk with hk
  rw[<- hk]
  rfl) h0) (by decide) (by decide)
 have e:mh ([]:List Tok).length [] []=false:=by decide
 rw[e] at hR;have HR:=ay hR;have hbb:=(bQ w.heap.size w).alloc (bD _) (.cells #[.slice none 0 0,.slice none 0 0] 93);clear hT hR e;go_enter Tryz.func165,Tryz.ntmps165;go_wp2_with (go_at_call 215;refine(HR.out _).mono ?_;rintro e w3 ⟨rfl,hb3⟩);go_ret;exact⟨rfl,hbb.trans (hb3.mono (by simp))⟩
theorem adg (n:Int)(w:World) :
  Calls Tryz.prog 111 #[.agg #[.slice none 0 0,.slice none 0 0],.int .i64 n] w λe w'=>e=.returned (.tuple #[.string ⟨#[]⟩,.int .i64 10])/\Below w.heap.size w w':=by
 have HR:=ay (λW=>abM n W);have hbb:=(bQ w.heap.size w).alloc (bD _) (.cells #[.slice none 0 0,.slice none 0 0] 93);go_enter Tryz.func111,Tryz.ntmps111;go_wp2_with (go_at_call 165;refine(HR.out _).mono ?_;rintro e w3 ⟨rfl,hb3⟩);go_ret2;exact⟨rfl,hbb.trans (hb3.mono (by simp))⟩
theorem Pv (G:FX ah aj D)(B:Nat)(tv nv:Value)(w:World)(h:lW B w (.agg #[tv,nv]) ah aj)(hB:B<=w.heap.size) :
  Calls Tryz.prog 111 #[.agg #[tv,nv],.int .i64 ((aj.length:Int) - 1)] w λe w'=>e=.returned (.tuple #[.string ⟨D.toArray⟩,.int .i64 0])/\Below w.heap.size w w':=by
 have HR:=ay (λW (hW:Below w.heap.size w W)=>WX G B tv nv W (h.below (hW.mono hB)) (jq hB hW.size));have hdl:=G.ahJ;have HD:=ay (λW (hW:Below w.heap.size w W)=>JJ G B W.heap.size W.heap.size tv nv aj.length ((aj.length:Int) - 1) D [] (W.alloc (.cells #[.pointer none,.slice none 0 0] 223)) (h.below ((hW.alloc hW.size _).mono hB)) (jq hB hW.size) (lV.fresh W) (by simp) G.dump (by rw[jC];omega));obtain⟨at_,ct,an,cn,hv⟩:=h.slices;simp only[Value.agg.injEq,Array.mk.injEq,List.cons.injEq,and_true] at hv;obtain⟨rfl,rfl⟩:=hv;have hbb:=(bQ w.heap.size w).alloc (bD _) (.cells #[.slice at_ ah.length ct,.slice an aj.length cn] 93);have e1:=aX w (.cells #[.slice at_ ah.length ct,.slice an aj.length cn] 93);clear h G;go_enter Tryz.func111,Tryz.ntmps111
 go_upto_region 4 with (go_at_call 165;refine(HR.out _ hbb).mono ?_;rintro e w3 ⟨rfl,hb3⟩)
 have T3:=(hb3.block w.heap.size (by simp)).trans e1;have hb4:=hbb.trans (hb3.mono (by simp));have HD3:=ay (HD.out w3 hb4);have T4:=(gZ w3 (.cells #[.pointer none,.slice none 0 0] 223) w.heap.size (bP T3).1).trans T3;have hb5:=hb4.alloc hb4.size (.cells #[.pointer none,.slice none 0 0] 223);obtain⟨c0,c1⟩:=bV T4;have hz3:=hb4.size;clear hb3 e1 T3 T4 HR hbb HD;go_wp2_with (first|(go_at_call 166;refine HD3.out.mono ?_;rintro e w6 ⟨rfl,ahe,Xi,ho6⟩;rw[uD] at ahe;have hz6:=Xi.size;simp only[nG] at hz6)|(go_at_call 123;refine(Cy w3.heap.size w3.heap.size D _ ahe (by omega)).mono ?_;rintro e w7 ⟨rfl,ajJ,hl7,ho7⟩));go_ret2;exact⟨rfl,hb5.trans ((Xi.mono hz3).trans (hl7.mono hz3))⟩
theorem WY (B:Nat)(tv nv:Value)(xs:List (Tok × Int × Int))(ah:List Tok)(he:xs.map Prod.fst=ah)(w:World)(hl:ah.length<=1099511627776)(hn:iq ah ah.length<=1099511627776)(h:Rec B w tv 4 xA xs)(hB:B<=w.heap.size) :
  Calls Tryz.prog 112 #[.agg #[tv,nv]] w λe w'=>e=.returned (.string ⟨(iE ah).toArray⟩)/\Below w.heap.size w w':=by
 have HW:=ay (λW (hW:Below w.heap.size w W)=>Qj tv xs ah he W hl hn ((h.below (hW.mono hB)).mono (jq hB hW.size)));obtain⟨X,hX,eX⟩:=jD (iE ah);rw[eX] at HW |-;have hbb:=(bQ w.heap.size w).alloc (bD _) (.cells #[tv,nv] 93);clear h;go_enter Tryz.func112,Tryz.ntmps112;go_wp2_with (go_at_call 167;refine(HW.out _ hbb).mono ?_;rintro e w3 ⟨rfl,hb3⟩);go_ret;exact⟨rfl,hbb.trans (hb3.mono (by simp))⟩
theorem Pw (B:Nat)(tv nv:Value)(ah:List Tok)(w:World)(hl:ah.length<=1099511627776)(hn:iq ah ah.length<=1099511627776)(h:Rec B w tv 4 dP ah)(hB:B<=w.heap.size) :
  Calls Tryz.prog 112 #[.agg #[tv,nv]] w λe w'=>e=.returned (.string ⟨(iE ah).toArray⟩)/\Below w.heap.size w w' :=
 WY B tv nv _ ah (by rw[List.map_map];exact List.map_id _) w hl hn (afz h) hB
theorem uo (at_:Option Addr)(nt ct:Nat)(an:Option Addr)(n cn:Nat)(w:World)(hn:n<=1099511627776) :
  Calls Tryz.prog 67 #[.agg #[.slice at_ nt ct,.slice an n cn]] w λe w'=>e=.returned (.int .i64 ((n:Int) - 1))/\Below w.heap.size w w':=MU _ an n cn w hn
theorem adh (B:Nat)(at_:Option Addr)(ct:Nat)(an:Option Addr)(cn:Nat)(S:ByteArray)(ah:List Tok)(aj:List Nd)(D:aH)(w:World)(h:bJ B w (.agg #[.slice at_ ah.length ct,.slice an aj.length cn]) ah aj)(hB:B<=w.heap.size)
  (G:FX ah aj D) (hS:S.size<=65536) (hw:iE ah=S.data.toList) (hf:ji S.data.toList 200=.good ah aj) :
  Calls Tryz.prog 66 #[.agg #[.slice at_ ah.length ct,.slice an aj.length cn],.func (.func 29) #[] #[]] w λe w'=>e=.returned (.bool true)/\Below w.heap.size w w':=by
 have hft:=G.VD;have hfn:=G.few;obtain⟨XD,hXD,eX⟩:=jD D
 have Kn:Hid (∀ (B:Nat) (at_:Option Addr) (ct:Nat) (an:Option Addr) (cn:Nat) (W:World),bJ B W (.agg #[.slice at_ ah.length ct,.slice an aj.length cn]) ah aj->B<=W.heap.size->Calls Tryz.prog 111 #[.agg #[.slice at_ ah.length ct,.slice an aj.length cn],.int .i64 ((aj.length:Int) - 1)] W λe w'=>e=.returned (.tuple #[.string XD,.int .i64 0])/\Below W.heap.size W w') :=
  ay λB at_ ct an cn W hT hBW=>(Pv G B _ _ W hT.x hBW).mono λe w' h=>⟨by rw[h.1,eX],h.2⟩
 have hlen:iq ah ah.length<=1099511627776:=by
  rw[<- Ez,hw,aY];omega
 have eS:ByteArray.mk (S.data.toList).toArray=S:=by cases S;simp
 have Px:Hid (∀ W,Below w.heap.size w W->Calls Tryz.prog 112 #[.agg #[.slice at_ ah.length ct,.slice an aj.length cn]] W λe w'=>e=.returned (.string S)/\Below W.heap.size W w'):=ay λW hW=>by
  obtain⟨tv',nv',l,e1,e2,_⟩:=h.below (hW.mono hB);simp only[Value.agg.injEq,Array.mk.injEq,List.cons.injEq,and_true] at e1;obtain⟨rfl,rfl⟩:=e1;have:=Pw B (.slice at_ ah.length ct) (.slice an aj.length cn) ah W (by omega) hlen e2 (jq hB hW.size);rw[hw,eS] at this;exact this
 have AX:=ay (λW=>xY S 200 W (by omega) (by omega) (by omega));rw[hf] at AX;have HT:=ay h;have hal:=aA w (.cells #[.slice at_ ah.length ct,.slice an aj.length cn] 93);have e1:=aX w (.cells #[.slice at_ ah.length ct,.slice an aj.length cn] 93);clear h G hf hw hXD eX eS hlen;go_enter Tryz.func66,Tryz.ntmps66
 go_upto_region 1 with fail
 generalize w.alloc _=w1 at hal e1 |-;obtain⟨c0,c1⟩:=bV e1;have hl1:=(bP e1).1
 go_cut [5,6] (λa e wx=>a=.string XD/\e=.int .i64 0/\wx.heap[w.heap.size]?=some (.cells #[.slice at_ ah.length ct,.slice an aj.length cn] 93 (0,0))/\Below w.heap.size w wx)
 case first =>
  go_region_with (first|(go_at_call 67;refine(uo at_ ah.length ct an aj.length cn _ (by omega)).mono ?_;rintro e w5 ⟨rfl,hb5⟩;have d0:=(hb5.cell (p:=⟨w.heap.size,0,none⟩) hl1).trans c0;have d1:=(hb5.cell (p:=⟨w.heap.size,1,none⟩) hl1).trans c1)|(go_at_call 111;refine(Kn.out B at_ ct an cn _ (HT.out.below ((hal.drew.trans (hb5.mono hal.size)).mono hB)) (jq hB (hal.drew.trans (hb5.mono hal.size)).size)).mono ?_;rintro e w6 ⟨rfl,hb6⟩))
  all_goals
   have oU:=hal.drew.trans (hb5.mono hal.size);have T6:=(hb6.block w.heap.size (xw hl1 hb5.size)).trans ((hb5.block w.heap.size hl1).trans e1);go_wp2_with fail
   go_meet
   exact⟨rfl,rfl,T6,oU.trans (hb6.mono oU.size)⟩
 case rest =>
  obtain⟨rfl,rfl,hT,hbc⟩:=hcut;clear hal e1 c0 c1 hl1 w1
  obtain⟨wo,rfl⟩:∃ wo:World,wo=wc:=⟨_,rfl⟩
  obtain⟨c0,c1⟩:=bV hT
  go_upto_region 3 with (first|(go_at_call 112;refine(Px.out _ hbc).mono ?_;rintro e w7 ⟨rfl,Ad⟩)|(go_at_call 29;refine(AX.out _).mono ?_;rintro e w8 ⟨nE,a8,c8,b8,d8,rfl,ht8⟩))
  have SS:=(hbc.trans (Ad.mono hbc.size))
  have L8:=SS.trans (nE.mono SS.size);have hT8:=(nE.block w.heap.size (xw (bP hT).1 Ad.size)).trans ((Ad.block w.heap.size (bP hT).1).trans hT);have yY:=(bP hT8).1;have vT:=(aA w8 (.cells #[.slice a8 ah.length c8,.slice b8 aj.length d8] 93)).alloc (by simp) (.cells #[.int .i64 0,.int .i64 0] 31);have hT9:=(vT.block w.heap.size yY).trans hT8;have Xw:=(gZ (w8.alloc (.cells #[.slice a8 ah.length c8,.slice b8 aj.length d8] 93)) (.cells #[.int .i64 0,.int .i64 0] 31) w8.heap.size (by simp)).trans (aX w8 (.cells #[.slice a8 ah.length c8,.slice b8 aj.length d8] 93));have hF9:=aX (w8.alloc (.cells #[.slice a8 ah.length c8,.slice b8 aj.length d8] 93)) (.cells #[.int .i64 0,.int .i64 0] 31);rw[nG] at hF9;have hU:=ay (ht8.at.below vT);have DN:=L8.trans (vT.mono L8.size);have hz9:=vT.size;clear Ad nE hT8 vT ht8 SS hT hbc c0 c1 Px AX;generalize w8.heap.size=ub at Xw hF9 hU hz9 yY L8 |-;generalize (w8.alloc _).alloc _=w9 at hT9 Xw hF9 hU DN hz9 |-;obtain⟨c0,c1⟩:=bV Xw;have hl9:=(bP Xw).1;have hlT:=(bP hT9).1;have hlF:=(bP hF9).1
  go_cut [9,10] (λa e wx=>a=.string XD/\e=.int .i64 0/\Below w9.heap.size w9 wx)
  case first =>
   go_region_with (first|(go_at_call 67;refine(uo a8 ah.length c8 b8 aj.length d8 _ (by omega)).mono ?_;rintro e w5 ⟨rfl,hb5⟩;have d0:=(hb5.cell (p:=⟨ub,0,none⟩) hl9).trans c0;have d1:=(hb5.cell (p:=⟨ub,1,none⟩) hl9).trans c1)|(go_at_call 111;refine(Kn.out ub a8 c8 b8 d8 _ (hU.out.below (((bQ w9.heap.size w9).drew.trans hb5).mono hz9)) (jq hz9 hb5.size)).mono ?_;rintro e w6 ⟨rfl,hb6⟩))
   all_goals
    have oU:=(bQ w9.heap.size w9).drew.trans hb5;go_wp2_with fail
    go_meet
    exact⟨rfl,rfl,oU.trans (hb6.mono oU.size)⟩
  case rest =>
   obtain⟨rfl,rfl,hbc⟩:=hcut;have hTc:=(hbc.block _ hlT).trans hT9;have hUc:=(hbc.block _ hl9).trans Xw;have hFc:=(hbc.block _ hlF).trans hF9;have HU:=ay (hU.out.below (hbc.mono hz9));have hbw:Below w.heap.size w wc:=DN.trans (hbc.mono DN.size);have HT2:=ay (HT.out.below (hbw.mono hB));clear hT9 Xw hF9 hU DN hz9 yY L8 c0 c1 hl9 hlT hlF hbc Kn HT
   obtain⟨wo,rfl⟩:∃ wo:World,wo=wc:=⟨_,rfl⟩
   obtain⟨c0,c1⟩:=bV hTc;obtain⟨u0,u1⟩:=bV hUc;obtain⟨f0,f1,_⟩:=jm hFc;have hlU:=(bP hUc).1;have hzo:=hbw.size;go_wp2;clear c0 c1 u0 u1 f0 f1
   go_loopw [58] (λq wr=>∃ k:Nat,k<=ah.length/\q=.int .i64 k/\Below wo.heap.size wo wr) (λq _=>ah.length - (intOf q).toNat)
   case atStart=>exact⟨0,kJ _,rfl,bQ _ _⟩
   case round =>
    obtain⟨k,hk,rfl,hbl⟩:=hrel;have hwz:=hbl.size
    by_cases hlt:k<ah.length
    ·obtain⟨b1,o1,ahd,ev,hb1,t0,t1,t2,t3⟩:=HT2.out.tok hlt
     simp only[Value.slice.injEq] at ev;obtain⟨rfl,-,rfl⟩:=ev;obtain⟨b2,o2,cap2,ev,hb2,s0,s1,s2,s3⟩:=HU.out.tok hlt;simp only[Value.slice.injEq] at ev;obtain⟨rfl,-,rfl⟩:=ev;have x0:=(hbl.cell (p:=⟨b1,o1+k * 4,none⟩) (by show b1<_;omega)).trans t0;have x1:=(hbl.cell (p:=⟨b1,o1+k * 4+1,none⟩) (by show b1<_;omega)).trans t1;have x2:=(hbl.cell (p:=⟨b1,o1+k * 4+2,none⟩) (by show b1<_;omega)).trans t2;have x3:=(hbl.cell (p:=⟨b1,o1+k * 4+3,none⟩) (by show b1<_;omega)).trans t3;generalize ah[k]=tk at x0 x1 x2 x3 s0 s1 s2 s3;simp only[fC] at x1 x2 s1 s2;have hal:=aA wr (.cells #[.int .i64 tk.kind,.string ⟨tk.lead.toArray⟩,.string ⟨tk.text.toArray⟩,.int .i64 tk.place] 159);have hba:=hbl.trans (hal.mono hwz);have y0:=(hba.cell (p:=⟨b2,o2+k * 4,none⟩) (by show b2<_;omega)).trans s0;have y1:=(hba.cell (p:=⟨b2,o2+k * 4+1,none⟩) (by show b2<_;omega)).trans s1;have y2:=(hba.cell (p:=⟨b2,o2+k * 4+2,none⟩) (by show b2<_;omega)).trans s2;have y3:=(hba.cell (p:=⟨b2,o2+k * 4+3,none⟩) (by show b2<_;omega)).trans s3;have U2:=(hba.block ub hlU).trans hUc;have N2:=aX wr (.cells #[.int .i64 tk.kind,.string ⟨tk.lead.toArray⟩,.string ⟨tk.text.toArray⟩,.int .i64 tk.place] 159)
     have nK:(k:Int)<(ah.length:Int):=by omega
     clear t0 t1 t2 t3 s0 s1 s2 s3 hal
     go_upto_region 9 with fail
     clear x0 x1 x2 x3;generalize wr.heap.size=nb at N2 |-;generalize wr.alloc _=w2 at hba y0 y1 y2 y3 U2 N2 |-;obtain⟨d0,d1⟩:=bV U2
     have n0:w2.cell? ⟨nb,0,none⟩=some (.int .i64 tk.kind):=by rw[aZ N2];rfl
     have n1:w2.cell? ⟨nb,1,none⟩=some (.string ⟨tk.lead.toArray⟩):=by rw[aZ N2];rfl
     have n2:w2.cell? ⟨nb,2,none⟩=some (.string ⟨tk.text.toArray⟩):=by rw[aZ N2];rfl
     have n3:w2.cell? ⟨nb,3,none⟩=some (.int .i64 tk.place):=by rw[aZ N2];rfl
     clear N2 U2
     go_quiet (fail)
     go_wp2
     go_roundw
     case rel=>exact⟨k+1,by omega,by go_num,⟨hba.os,hba.tape,hba.output,hba.size,hba.block⟩⟩
     case measure=>simp[intOf];omega
    ·obtain rfl:k=ah.length:=by omega
     have nK:decide ((ah.length:Int)<(ah.length:Int))=false:=dX (by omega);go_wp2;go_ret;exact⟨rfl,hbw.trans (hbl.mono hzo)⟩
