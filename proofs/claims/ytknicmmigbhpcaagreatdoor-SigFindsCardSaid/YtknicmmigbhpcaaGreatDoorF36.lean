/- Walks and plain laws: ProgramW2, ProgramW, ProgW, TdumpW2. -/
import Derived.Test.YtknicmmigbhpcaaGreatDoorF35
set_option maxHeartbeats 16000000
set_option maxRecDepth 100000
set_option linter.unusedVariables false
set_option linter.unusedSimpArgs false
namespace Go.Proofs.YtknicmmigbhpcaaGreatDoor
open Go.RowKit Go
theorem OD {toks:List Tok}{d g:Nat}{kids:List Int}{st:aB}{r:List Int × aB}(h:gD toks d g kids st=some r):r.1.length≤kids.length+3:=by
 unfold gD at h
 split at h
 ·obtain⟨n,h2,h⟩:=bH h
  obtain rfl:=Option.some.inj h
  simp
 ·obtain rfl:=Option.some.inj h
  simp
theorem Xi (toks:List Tok)(st:aB):(lW toks st).1.length≤1:=by
 unfold lW
 split<;>simp
theorem Eb (E:aT)(hE:E.ok)(g:Nat)(st:aB)(r:Int × aB)(w:World)(h:uN E.toks E.depth g st=some r)(hp:PW E st w)(hn:r.2.nodes.length+1≤1099511627776)(hcl:st.clause=false) :
  Calls Tryz.prog 105 #[.pointer (some ⟨E.pb,0,none⟩)] w (dh E r w):=by
 have rT:=hE.2.2;obtain⟨i0,hi,hz0,hz1,hz2⟩:=info_parts Tryz.kP;have hB:E.B≤w.heap.size:=hp.dL;unfold uN at h;obtain⟨l,h1,h⟩:=bH h;obtain⟨t,h2,h⟩:=bH h;obtain⟨f,h3,h⟩:=bH h;obtain rfl:=Option.some.inj h;have n9:=aC (aD _ _ _) hn;have n8:=aC (aF _ _ _) n9;have n7:=aC (aN _ _ _ _ _ _ h3) n8;have n6:=aC (aF _ _ _) n7;have n5:=aC (jc h2) n6;have n4:=aC (aF _ _ _) n5;have n3:(iL E.toks st).2.nodes.length+1≤1099511627776:=aC (kg E.toks _ jF _ _ h1) n4;have n2:(jP E.toks st).2.nodes.length+1≤1099511627776:=aC (aF _ _ _) n3;have n1:(pJ E.toks st).2.nodes.length+1≤1099511627776:=aC (dO _ _ _) n2;have n0:(lW E.toks st).2.nodes.length+1≤1099511627776:=aC (aF _ _ _) n1;have nl:st.nodes.length+1≤1099511627776:=aC (JO E.toks st) n0
 have hc3:(iL E.toks st).2.clause=false:=by rw[(BZ E.toks st).2.2.1];exact hcl
 have hc4:l.2.clause=false:=by rw[(kg E.toks _ jF _ _ h1).2.2.1];exact hc3
 have hc5:(aA E.toks [[41]] l.2).2.clause=false:=by rw[(aF E.toks [[41]] l.2).2.2.1];exact hc4
 have hll:=Fb _ _ _ _ h1;have hpl:=Xi E.toks st;have htl:=OD h2;simp only[bP,dX,List.length_nil] at htl;have HX:=ah (sH E hE ⟨#[112,117,98]⟩ st w hp);have HLf:=ah (fun R w hp=>bA { E with R:=R } st w hp hE.1 hE.2.1 nl);have Zl:=ah (fun R w hp=>dx { E with R:=R } hE ⟨#[102,117,110]⟩ (lW E.toks st).2 w hp n0);have Tn:=ah (fun R w hp=>qj { E with R:=R } hE 1 (pJ E.toks st).2 w hp n1);have HM3:=ah (fun R w hp=>dx { E with R:=R } hE ⟨#[40]⟩ (jP E.toks st).2 w hp n2);have HLi:=ah (fun R w hp=>OC { E with R:=R } hE (iK E.toks E.depth g) (iL E.toks st).2 l w h1 hp n4 hc3 jF (fun R2 s k w' hsc hk hq _ hnk=>SQ { E with R:=R2 } hE g s k w' hk hq hnk hsc));have HM4:=ah (fun R w hp=>dx { E with R:=R } hE ⟨#[41]⟩ l.2 w hp n4);have HTy:=ah (fun W0 R v W K hB hl=>Gr E hE g W0 R v _ _ t W h2 K hB n6 hc5 hl);have HM5:=ah (fun R w hp=>dx { E with R:=R } hE ⟨#[61]⟩ t.2 w hp n6);have HM6:=ah (fun R w hp=>allT { E with R:=R } hE g (.expr 1) (aA E.toks [[61]] t.2).2 f w h3 hp n8 (by show 1≤_;omega));have HM7:=ah (fun R w hp=>dx { E with R:=R } hE ⟨#[59]⟩ f.2 w hp n8);have Tt:=ah (fun R v w hp hv=>jM { E with R:=R } 3 v (t.1++[(aA E.toks [[61]] t.2).1,f.1,(aA E.toks [[59]] f.2).1]) (aA E.toks [[59]] f.2).2 w hp hv (by simp;omega) n9);clear n0 n1 n2 n3 n4 n5 n6 n7 n8 n9 nl hn h1 h2 h3 h hc3 hc4 hc5;have hx0:aS E.toks st [(⟨#[112,117,98]⟩:ByteArray).data.toList]=aS E.toks st [yS]:=rfl;rw[hx0] at HX;clear hx0;have HPU:Hid ((aS E.toks st [yS]=true→lW E.toks st=([(ay E.toks st).1],(ay E.toks st).2))∧(aS E.toks st [yS]=false→lW E.toks st=([],st))):=ah ⟨fun q=>by rw[lW,if_pos q],fun q=>by rw[lW,if_neg (by rw[q];decide)]⟩;generalize aS E.toks st [yS]=x at HX HPU;go_enter Tryz.func105,Tryz.ntmps105
 go_upto_if 6 with (go_at_call 165;refine HX.out.mono ?_;rintro e w1 ⟨rfl,hq,hkq⟩)
 have K1:=(iI.none hp).call hq hkq;clear hq hkq HX
 go_cut [3] (fun v wc=>∃ R ao cap,v=.slice ao (lW E.toks st).1.length cap∧iI E w R (.slice ao (lW E.toks st).1.length cap) (lW E.toks st).1 (lW E.toks st).2 wc)
 case first =>
  cases x with
  | true =>
   have HPV:=ah (HPU.out.1 rfl);obtain⟨d0,_,_,_,_,_⟩:=PW.cells K1.2.2.2.1;have HLG:=ah (HLf.out E.R w1 K1.2.2.2.1);clear hpl htl;go_wp2_with (go_at_call 167;refine HLG.out.mono ?_);rintro e w2 ⟨rfl,hq,hkq⟩;have K2:=K1.call hq hkq;clear hq hkq HLG d0;have hL:=K2.lit (.cells #[.int .i64 (ay E.toks st).1] 3);have hnw:=heap_alloc_new w2 (.cells #[.int .i64 (ay E.toks st).1] 3);go_wp2_with (at_builtin;refine wpList_append_lies _ rfl _ _ 51 rfl w.heap.size 3 i0 (.int .i64 0) 1 8 Tryz.underlying51 hi hz0 hz1 hz2 rfl (by decide) _ (0) _ rfl (hL.row (rfl:([]:List Int).length=0)) ⟨w2.heap.size,0,none⟩ 1 1 [.int .i64 (ay E.toks st).1] rfl rfl ?c1 ?c2 ?c3 ?c4 ?c5 ?c6 _ rfl ?_)
   case c1=>exact World.news_of_block (cs:=#[.int .i64 (ay E.toks st).1]) (t:=3) (fr:=(0,0)) hnw
   case c2=>simp[Value.oneCell']
   case c3=>omega
   case c4=>unfold maxLen;omega
   case c5=>omega
   case c6=>exact hL.2.2.2.2.size
   intro g3 Xj w3 hown hgrow hat hlt;obtain⟨R3,K3⟩:=hL.app (news:=[(ay E.toks st).1]) (n:=0+1) hB (by rw[bP,(rfl:([]:List Int).length=0)];rfl) hown hgrow hat (by simp) hlt;clear hL hnw hown hgrow hat hlt;generalize hkk:([]:List Int)++[(ay E.toks st).1]=kk3 at K3;have WH:Hid (kk3.length=0+1):=ah (by rw[← hkk,bP,(rfl:([]:List Int).length=0)];rfl);have HK3:=ah hkk;clear hkk;go_wp2
   go_meet
   rw[HPV.out];refine⟨R3,some ⟨g3,0,none⟩,Xj,rfl,?_⟩;have e3:=K3;rw[← HK3.out] at e3;exact e3
  | false =>
   have HPV:=ah (HPU.out.2 rfl);clear hpl htl;go_wp2
   go_meet
   rw[HPV.out];exact⟨E.R,none,0,rfl,K1⟩
 case rest =>
  obtain⟨R3,ao3,Xj,rfl,K3⟩:=hcut;clear K1 HLf HPU
  obtain⟨w3,rfl⟩:∃ w3:World,w3=wc:=⟨_,rfl⟩
  generalize hk0:(lW E.toks st).1=k0 at hpl htl HTy K3;have Z6:=ah hk0;clear hk0;have Ec:=ah (Zl.out R3 _ K3.2.2.2.1);go_wp2_with (go_at_call 168;refine Ec.out.mono ?_);rintro e w4 ⟨rfl,hq,hkq⟩;have K4:=K3.call hq hkq;clear hq hkq Ec;have Ec:=ah (Tn.out R3 _ K4.2.2.2.1);go_wp2_with (go_at_call 107;refine Ec.out.mono ?_);rintro e w5 ⟨rfl,hq,hkq⟩;have K5:=K4.call hq hkq;clear hq hkq Ec;have Ec:=ah (HM3.out R3 _ K5.2.2.2.1);go_wp2_with (go_at_call 168;refine Ec.out.mono ?_);rintro e w6 ⟨rfl,hq,hkq⟩;have K6:=K5.call hq hkq;clear hq hkq Ec;clear K3 K4 K5 Zl Tn HM3;have hL:=K6.lit (.cells #[.int .i64 (pJ E.toks st).1,.int .i64 (jP E.toks st).1,.int .i64 (iL E.toks st).1] 3);have hnw:=heap_alloc_new w6 (.cells #[.int .i64 (pJ E.toks st).1,.int .i64 (jP E.toks st).1,.int .i64 (iL E.toks st).1] 3);go_wp2_with (at_builtin;refine wpList_append_lies _ rfl _ _ 51 rfl w.heap.size 3 i0 (.int .i64 0) 1 8 Tryz.underlying51 hi hz0 hz1 hz2 rfl (by decide) _ (k0.length) _ rfl (hL.row (rfl:k0.length=k0.length)) ⟨w6.heap.size,0,none⟩ 3 3 [.int .i64 (pJ E.toks st).1,.int .i64 (jP E.toks st).1,.int .i64 (iL E.toks st).1] rfl rfl ?c1 ?c2 ?c3 ?c4 ?c5 ?c6 _ rfl ?_)
  case c1=>exact World.news_of_block (cs:=#[.int .i64 (pJ E.toks st).1,.int .i64 (jP E.toks st).1,.int .i64 (iL E.toks st).1]) (t:=3) (fr:=(0,0)) hnw
  case c2=>simp[Value.oneCell']
  case c3=>omega
  case c4=>unfold maxLen;omega
  case c5=>omega
  case c6=>exact hL.2.2.2.2.size
  intro g7 aeJ w7 hown hgrow hat hlt;obtain⟨R7,K7⟩:=hL.app (news:=[(pJ E.toks st).1,(jP E.toks st).1,(iL E.toks st).1]) (n:=k0.length+3) hB (by rw[bP,(rfl:k0.length=k0.length)];rfl) hown hgrow hat (by simp) hlt;clear hL hnw hown hgrow hat hlt;generalize hkk:k0++[(pJ E.toks st).1,(jP E.toks st).1,(iL E.toks st).1]=kk7 at K7;have HL7:Hid (kk7.length=k0.length+3):=ah (by rw[← hkk,bP,(rfl:k0.length=k0.length)];rfl);have HK7:=ah hkk;clear hkk;clear K6
  go_upto_region 5 with fail
  go_cut [3] (fun v wc=>∃ R ao cap,v=.slice ao (k0.length+3+l.1.length) cap∧iI E w R (.slice ao (k0.length+3+l.1.length) cap) (kk7++l.1) l.2 wc)
  case first =>
   have HLJ:=ah (HLi.out R7 _ K7.2.2.2.1)
   have hmf:∀ (fn:Fn) (first cap:Array Value) (w:World),(Instr.makeFunc fn first cap).run Tryz.prog w=.ok (.func fn first cap) w:=fun _ _ _ _=>rfl
   clear HLi;go_wp2_with (go_at_call 169;refine HLJ.out.mono ?_);rintro e w8 ⟨v,rfl,hiv,hnil,hq,hkq⟩;have K8:=K7.call hq hkq;clear hq hkq HLJ K7
   by_cases hl0:l.1=[]
   ·obtain rfl:=hnil hl0
    have hlz:l.1.length=0:=by rw[hl0];rfl
    go_wp2_with (at_builtin;refine wpList_append_own_none rfl _ _ 51 rfl w.heap.size 3 i0 1 Tryz.underlying51 hi _ (k0.length+3) _ rfl (K8.row HL7.out) rfl ?_);go_wp2
    go_meet
    refine⟨R7,some ⟨g7,0,none⟩,aeJ,by rw[hlz],?_⟩;rw[hl0,List.append_nil];exact K8
   ·have hpos:0<l.1.length:=List.length_pos_iff.2 hl0
    obtain⟨aov,MN,rfl,hcv,hf⟩:=hiv;obtain⟨vb,vo,vcs,vfr,rfl,hh,hj⟩:=hf hpos;clear hnil hl0 hf;go_wp2_with (at_builtin;refine wpList_append_lies _ rfl _ _ 51 rfl w.heap.size 3 i0 (.int .i64 0) 1 8 Tryz.underlying51 hi hz0 hz1 hz2 rfl (by decide) _ (k0.length+3) _ rfl (K8.row HL7.out) ⟨vb,vo,none⟩ l.1.length MN (l.1.map (Value.int .i64)) rfl (by simp) ?c1 ?c2 ?c3 ?c4 ?c5 ?c6 _ rfl ?_)
    case c1=>exact uy hh hj
    case c2=>intro u hu;obtain⟨y,_,rfl⟩:=List.mem_map.1 hu;rfl
    case c3=>exact hpos
    case c4=>unfold maxLen;omega
    case c5=>omega
    case c6=>exact K8.2.2.2.2.size
    intro g9 adj w9 hown hgrow hat hlt;obtain⟨R9,K9⟩:=K8.app (news:=l.1) (n:=k0.length+3+l.1.length) hB (by rw[bP,HL7.out]) hown hgrow hat (by simp) hlt;clear hown hgrow hat hlt K8 hh hj;go_wp2
    go_meet
    exact⟨R9,some ⟨g9,0,none⟩,adj,rfl,K9⟩
  case rest =>
   obtain⟨R9,ao9,adj,rfl,K9⟩:=hcut;clear K7 HLi
   obtain⟨w9,rfl⟩:∃ w9:World,w9=wc:=⟨_,rfl⟩
   generalize Yo:kk7++l.1=kk9 at K9;have HL9:Hid (kk9.length=k0.length+3+l.1.length):=ah (by rw[← Yo,bP,HL7.out]);have HK9:=ah Yo;clear Yo;generalize hm9:k0.length+3+l.1.length=m9 at K9 HL9 htl
   have afH:m9≤1000:=by omega
   clear hm9;have Ec:=ah (HM4.out R9 _ K9.2.2.2.1);go_wp2_with (go_at_call 168;refine Ec.out.mono ?_);rintro e jR ⟨rfl,hq,hkq⟩;have Fe:=K9.call hq hkq;clear hq hkq Ec;have hL:=Fe.lit (.cells #[.int .i64 (aA E.toks [[41]] l.2).1] 3);have hnw:=heap_alloc_new jR (.cells #[.int .i64 (aA E.toks [[41]] l.2).1] 3);go_wp2_with (at_builtin;refine wpList_append_lies _ rfl _ _ 51 rfl w.heap.size 3 i0 (.int .i64 0) 1 8 Tryz.underlying51 hi hz0 hz1 hz2 rfl (by decide) _ (m9) _ rfl (hL.row HL9.out) ⟨jR.heap.size,0,none⟩ 1 1 [.int .i64 (aA E.toks [[41]] l.2).1] rfl rfl ?c1 ?c2 ?c3 ?c4 ?c5 ?c6 _ rfl ?_)
   case c1=>exact World.news_of_block (cs:=#[.int .i64 (aA E.toks [[41]] l.2).1]) (t:=3) (fr:=(0,0)) hnw
   case c2=>simp[Value.oneCell']
   case c3=>omega
   case c4=>unfold maxLen;omega
   case c5=>omega
   case c6=>exact hL.2.2.2.2.size
   intro g11 ae4 sN hown hgrow hat hlt;obtain⟨R11,yO⟩:=hL.app (news:=[(aA E.toks [[41]] l.2).1]) (n:=m9+1) hB (by rw[bP,HL9.out];rfl) hown hgrow hat (by simp) hlt;clear hL hnw hown hgrow hat hlt;generalize hkk:kk9++[(aA E.toks [[41]] l.2).1]=adk at yO;have afI:Hid (adk.length=m9+1):=ah (by rw[← hkk,bP,HL9.out];rfl);have aeK:=ah hkk;clear hkk
   have adl:adk=k0++[(pJ E.toks st).1,(jP E.toks st).1,(iL E.toks st).1]++l.1++[(aA E.toks [[41]] l.2).1]:=by rw[← aeK.out,← HK9.out,← HK7.out]
   have abz:=yO;rw[adl] at abz;have HTz:=ah (HTy.out w R11 _ sN abz hB (by simp;omega));clear adl abz HTy K9 Fe HM4;go_wp2_with (go_at_call 171;refine HTz.out.mono ?_);rintro e w12 ⟨v12,R12,rfl,yC⟩;clear HTz yO;obtain⟨afJ,O8,rfl⟩:=mM yC.1
   have afK:t.1.length≤1000000:=by omega
   clear htl;have Ec:=ah (HM5.out R12 _ yC.2.2.2.1);go_wp2_with (go_at_call 168;refine Ec.out.mono ?_);rintro e w13 ⟨rfl,hq,hkq⟩;have Ao:=yC.call hq hkq;clear hq hkq Ec;have Ec:=ah (HM6.out R12 _ Ao.2.2.2.1);go_wp2_with (go_at_call 172;refine Ec.out.mono ?_);rintro e w14 ⟨rfl,hq,hkq⟩;have K14:=Ao.call hq hkq;clear hq hkq Ec;have Ec:=ah (HM7.out R12 _ K14.2.2.2.1);go_wp2_with (go_at_call 168;refine Ec.out.mono ?_);rintro e w15 ⟨rfl,hq,hkq⟩;have K15:=K14.call hq hkq;clear hq hkq Ec;clear yC Ao K14 HM5 HM6 HM7;have hL:=K15.lit (.cells #[.int .i64 (aA E.toks [[61]] t.2).1,.int .i64 f.1,.int .i64 (aA E.toks [[59]] f.2).1] 3);have hnw:=heap_alloc_new w15 (.cells #[.int .i64 (aA E.toks [[61]] t.2).1,.int .i64 f.1,.int .i64 (aA E.toks [[59]] f.2).1] 3);go_wp2_with (at_builtin;refine wpList_append_lies _ rfl _ _ 51 rfl w.heap.size 3 i0 (.int .i64 0) 1 8 Tryz.underlying51 hi hz0 hz1 hz2 rfl (by decide) _ (t.1.length) _ rfl (hL.row (rfl:t.1.length=t.1.length)) ⟨w15.heap.size,0,none⟩ 3 3 [.int .i64 (aA E.toks [[61]] t.2).1,.int .i64 f.1,.int .i64 (aA E.toks [[59]] f.2).1] rfl rfl ?c1 ?c2 ?c3 ?c4 ?c5 ?c6 _ rfl ?_)
   case c1=>exact World.news_of_block (cs:=#[.int .i64 (aA E.toks [[61]] t.2).1,.int .i64 f.1,.int .i64 (aA E.toks [[59]] f.2).1]) (t:=3) (fr:=(0,0)) hnw
   case c2=>simp[Value.oneCell']
   case c3=>omega
   case c4=>unfold maxLen;omega
   case c5=>omega
   case c6=>exact hL.2.2.2.2.size
   intro g16 ae5 w16 hown hgrow hat hlt;obtain⟨R16,K16⟩:=hL.app (news:=[(aA E.toks [[61]] t.2).1,f.1,(aA E.toks [[59]] f.2).1]) (n:=t.1.length+3) hB (by rw[bP,(rfl:t.1.length=t.1.length)];rfl) hown hgrow hat (by simp) hlt;clear hL hnw hown hgrow hat hlt;generalize hkk:t.1++[(aA E.toks [[61]] t.2).1,f.1,(aA E.toks [[59]] f.2).1]=aeL at K16;have afL:Hid (aeL.length=t.1.length+3):=ah (by rw[← hkk,bP,(rfl:t.1.length=t.1.length)];rfl);have aeM:=ah hkk;clear hkk;clear K15;have e16:=K16;rw[← aeM.out] at e16;have HNp:=ah (Tt.out R16 _ _ e16.2.2.2.1 e16.node);clear e16 Tt;go_wp2_with (go_at_call 106;refine HNp.out.mono ?_);rintro e w17 ⟨rfl,hq,hkq⟩;have K17:=K16.call hq hkq;go_wp2;go_ret;exact⟨rfl,PR.drop K17.2.2.2.1 K17.2.2.1,K17.2.2.2.2⟩
theorem Gs {B:Nat}{w wr:World}{cs:Array Value}{fr:Nat × Nat}{b n cap:Nat}{l:List (List UInt8)}(h:w.heap[b]?=some (.cells cs 9 fr))(hk:Kp B w wr)(hn:l.length=n)(hc:∀ j,(hj:j<l.length)→cs[j]?=some (.string ⟨l[j].toArray⟩)):jZ wr (.slice (some ⟨b,0,none⟩) n cap) l:=by
 subst hn;have h2:=hk.2 _ _ _ _ h (by decide) (by decide) (by decide);refine⟨b,0,cap,rfl,(bG h2).1,fun j hj=>?_⟩;rw[Nat.zero_add];rw[Lib.cell_of_heap h2]
 simpa using hc j hj
theorem Lu (E:aT)(hE:E.ok)(g:Nat)(st:aB)(r:Int × aB)(w:World)(h:ny E.toks E.depth g st=some r)(hp:PW E st w)(hcl:st.clause=false)(hn:r.2.nodes.length+1≤1099511627776) :
  Calls Tryz.prog 64 #[.pointer (some ⟨E.pb,0,none⟩)] w (ZT E r.2 w):=by
 obtain⟨i0,hi,hz0,hz1,hz2⟩:=info_parts Tryz.kP;have hB:E.B≤w.heap.size:=hp.dL;unfold ny at h;obtain⟨a,h1,h⟩:=bH h;obtain⟨b,h2,h⟩:=bH h;obtain rfl:=Option.some.inj h;have n3:=aC (aD _ _ _) hn;have n2:=aC (dO _ _ _) n3;have n1:=aC (mO sQ _ _ _ _ h2) n2;have hla:=Ci _ _ _ _ h1;have hlb:=Ci _ _ _ _ h2;simp only[List.length_nil] at hla hlb
 have hca:a.2.clause=false:=by rw[(mO (sS E.toks) _ _ _ _ h1).2.2.1];exact hcl
 have XI:=ah (fun w hp hF=>Av E hE _ [oZ] (some ⟨w.heap.size - 1,0,none⟩) 1 16 (by omega) st a w h1 hp n1 hcl hF (by decide) (sS E.toks) (fun R s k w' hsc hk hq hnk=>by
  obtain rfl:=Option.some.inj hk
  exact IW { E with R:=R } hE s w' hq hnk))
 have HS2:=ah (fun R w hp hF=>IX { E with R:=R } hE _ [yS,G8] (some ⟨w.heap.size - 1,0,none⟩) 2 64 (by omega) a.2 b w h2 hp n2 hca hF (by decide) sQ (fun R2 s k w' hsc hk hq hnk=>Eb { E with R:=R2 } hE g s k w' hk hq hnk hsc));have HKi:=ah (fun R w hp=>qj { E with R:=R } hE 5 b.2 w hp n2);have Tt:=ah (fun R v w hp hv=>jM { E with R:=R } 1 v (a.1++b.1++[(aO E.toks 5 b.2).1]) (aO E.toks 5 b.2).2 w hp hv (by simp;omega) n3)
 have hmf:∀ (fn:Fn) (first cap:Array Value) (w:World),(Instr.makeFunc fn first cap).run Tryz.prog w=.ok (.func fn first cap) w:=fun _ _ _ _=>rfl
 clear n1 n2 n3 hn h1 h2 h hca;have hs1:=XI.out (w.alloc (.cells #[.string ⟨#[105,109,112,111,114,116]⟩] 9)) (hp.later (aj w _)) (fun wr hk=>Gs (by rw[World.size_alloc,Nat.add_sub_cancel];exact heap_alloc_new w _) hk rfl (fun j hj=>by obtain rfl:j=0:=(by simpa using hj);rfl));rw[show (w.alloc (.cells #[.string ⟨#[105,109,112,111,114,116]⟩] 9)).heap.size - 1=w.heap.size by simp] at hs1;have HS:=ah hs1;clear hs1 XI;go_enter Tryz.func64,Tryz.ntmps64
 go_upto_region 1 with (go_at_call 103;refine HS.out.mono ?_;rintro e w1 ⟨v1,R1,rfl,adn,K1'⟩)
 have K1:=K1'.lift (W0:=w) (Kp.of (aj w _) hB);clear K1' HS adn;obtain⟨ao1,ado,rfl⟩:=mM K1.1
 go_cut [2] (fun v wc=>∃ R ao cap,v=.slice ao (a.1.length+b.1.length) cap∧iI E w R (.slice ao (a.1.length+b.1.length) cap) (a.1++b.1) b.2 wc)
 case first =>
  have hs2:=HS2.out R1 (w1.alloc (.cells #[.string ⟨#[112,117,98]⟩,.string ⟨#[102,117,110]⟩] 9)) (PW.later K1.2.2.2.1 (aj w1 _)) (fun wr hk=>Gs (by rw[World.size_alloc,Nat.add_sub_cancel];exact heap_alloc_new w1 _) hk rfl (fun j hj=>by
   match j,hj with
   | 0,_=>rfl
   | 1,_=>rfl))
  rw[show (w1.alloc (.cells #[.string ⟨#[112,117,98]⟩,.string ⟨#[102,117,110]⟩] 9)).heap.size - 1=w1.heap.size by simp] at hs2;have HS:=ah hs2;clear hs2 HS2 HKi Tt;go_wp2_with (go_at_call 103;refine HS.out.mono ?_);rintro e w2 ⟨v2,R2,rfl,hnil,K2'⟩;have K2:=K1.call (w':=w2) (s':=b.2) (PR.drop K2'.2.2.2.1 K2'.2.2.1) ((Kp.of (aj w1 _) K1.2.2.2.1.dL).trans K2'.2.2.2.2);have hiv:dH w2 v2 b.1:=K2'.node;clear HS K1 K2'
  by_cases hl0:b.1=[]
  ·obtain rfl:=hnil hl0
   have hlz:b.1.length=0:=by rw[hl0];rfl
   go_wp2_with (at_builtin;refine wpList_append_own_none rfl _ _ 51 rfl w.heap.size 3 i0 1 Tryz.underlying51 hi _ (a.1.length) _ rfl (K2.row rfl) rfl ?_);go_wp2
   go_meet
   refine⟨R1,ao1,ado,by rw[hlz];rfl,?_⟩;rw[hl0,List.append_nil];exact K2
  ·have hpos:0<b.1.length:=List.length_pos_iff.2 hl0
   obtain⟨aov,MN,rfl,hcv,hf⟩:=hiv;obtain⟨vb,vo,vcs,vfr,rfl,hh,hj⟩:=hf hpos;clear hnil hl0 hf;go_wp2_with (at_builtin;refine wpList_append_lies _ rfl _ _ 51 rfl w.heap.size 3 i0 (.int .i64 0) 1 8 Tryz.underlying51 hi hz0 hz1 hz2 rfl (by decide) _ (a.1.length) _ rfl (K2.row rfl) ⟨vb,vo,none⟩ b.1.length MN (b.1.map (Value.int .i64)) rfl (by simp) ?c1 ?c2 ?c3 ?c4 ?c5 ?c6 _ rfl ?_)
   case c1=>exact uy hh hj
   case c2=>intro u hu;obtain⟨y,_,rfl⟩:=List.mem_map.1 hu;rfl
   case c3=>exact hpos
   case c4=>unfold maxLen;omega
   case c5=>omega
   case c6=>exact K2.2.2.2.2.size
   intro g3 Xj w3 hown hgrow hat hlt;obtain⟨R3,K3⟩:=K2.app (news:=b.1) (n:=a.1.length+b.1.length) hB (by rw[bP]) hown hgrow hat (by simp) hlt;clear hown hgrow hat hlt K2 hh hj;go_wp2
   go_meet
   exact⟨R3,some ⟨g3,0,none⟩,Xj,rfl,K3⟩
 case rest =>
  obtain⟨R3,ao3,Xj,rfl,K3⟩:=hcut;clear K1 HS2
  obtain⟨w3,rfl⟩:∃ w3:World,w3=wc:=⟨_,rfl⟩
  generalize hk3:a.1++b.1=kk3 at K3 Tt;have WH:Hid (kk3.length=a.1.length+b.1.length):=ah (by rw[← hk3,bP]);have HK3:=ah hk3;clear hk3;generalize hm3:a.1.length+b.1.length=m3 at K3 WH
  have afM:m3≤80:=by omega
  clear hm3 hla hlb;have Ec:=ah (HKi.out R3 _ K3.2.2.2.1);go_wp2_with (go_at_call 107;refine Ec.out.mono ?_);rintro e w4 ⟨rfl,hq,hkq⟩;have K4:=K3.call hq hkq;clear hq hkq Ec;have hL:=K4.lit (.cells #[.int .i64 (aO E.toks 5 b.2).1] 3);have hnw:=heap_alloc_new w4 (.cells #[.int .i64 (aO E.toks 5 b.2).1] 3);go_wp2_with (at_builtin;refine wpList_append_lies _ rfl _ _ 51 rfl w.heap.size 3 i0 (.int .i64 0) 1 8 Tryz.underlying51 hi hz0 hz1 hz2 rfl (by decide) _ (m3) _ rfl (hL.row WH.out) ⟨w4.heap.size,0,none⟩ 1 1 [.int .i64 (aO E.toks 5 b.2).1] rfl rfl ?c1 ?c2 ?c3 ?c4 ?c5 ?c6 _ rfl ?_)
  case c1=>exact World.news_of_block (cs:=#[.int .i64 (aO E.toks 5 b.2).1]) (t:=3) (fr:=(0,0)) hnw
  case c2=>simp[Value.oneCell']
  case c3=>omega
  case c4=>unfold maxLen;omega
  case c5=>omega
  case c6=>exact hL.2.2.2.2.size
  intro g5 cap5 w5 hown hgrow hat hlt;obtain⟨R5,K5⟩:=hL.app (news:=[(aO E.toks 5 b.2).1]) (n:=m3+1) hB (by rw[bP,WH.out];rfl) hown hgrow hat (by simp) hlt;clear hL hnw hown hgrow hat hlt;generalize hkk:kk3++[(aO E.toks 5 b.2).1]=kk5 at K5;have HL5:Hid (kk5.length=m3+1):=ah (by rw[← hkk,bP,WH.out];rfl);have HK5:=ah hkk;clear hkk;clear K3 K4;have e5:=K5;rw[← HK5.out] at e5;have HNp:=ah (Tt.out R5 _ _ e5.2.2.2.1 e5.node);clear e5 Tt;go_wp2_with (go_at_call 106;refine HNp.out.mono ?_);rintro e w6 ⟨rfl,hq,hkq⟩;have K6:=K5.call hq hkq;go_wp2
  go_end0
  have e6:=PR.drop K6.2.2.2.1 K6.2.2.1;rw[← HK3.out] at e6;simp only[List.append_assoc] at e6 ⊢;exact⟨rfl,e6,K6.2.2.2.2⟩
theorem Lv (s:ByteArray)(d:Nat)(w:World)(hd1:1≤d)(hd2:d≤200)(hs:s.size≤1099511627776)(toks:List Tok)(hl:bW s.data.toList=.ok toks)(hn:toks.length≤100000)
  (a:Int × aB) (ha:ny toks d (xA toks) startP=some a) (han:a.2.nodes.length≤2 * toks.length) (hkl:a.2.fE=0→∀ n∈a.2.nodes,n.kids.length≤1000000) :
  Calls Tryz.prog 63 #[.string s,.int .i64 d,.func (.func 64) #[] #[]] w (IV (GZ toks a.2) w):=by
 have hpos:=(jy hl).some
 have HA:Hid (∀ (E:aT) (w:World),E.toks=toks→E.depth=d→E.ok→PW E startP w→Calls Tryz.prog 64 #[.pointer (some ⟨E.pb,0,none⟩)] w (ZT E a.2 w)):=ah (fun E w h1 h2 hE hp=>by
  subst h1 h2
  exact Lu E hE (xA E.toks) startP a w ha hp rfl (by omega))
 clear ha;generalize a.2=st at han hkl HA ⊢
 have hnl:st.nodes.length≤1000000:=by omega
 clear han
 have HL:Hid (∀ W,Calls Tryz.prog 74 #[.string s] W fun e w'=>(∃ at_ ct,e=.returned (.tuple #[.slice at_ toks.length ct,.agg #[.int .i64 0,.int .i64 0]])∧Rec w'.heap.size w' (.slice at_ toks.length ct) 4 bV toks)∧Below W.heap.size W w'):=ah fun W=>(GD s W hs).mono fun e w' h=>by
  unfold OV at h;rw[hl] at h;obtain⟨h1,v,h2,h3⟩:=h;obtain⟨at_,ct,rfl,_,_⟩:=h3.form (fun _=>rfl);exact⟨⟨at_,ct,h2,h3⟩,h1⟩
 have hal:=(aj w (.cells #[.slice none 0 0,.slice none 0 0] 89)).alloc (by simp) (.cells #[.int .i64 0,.int .i64 0] 75);have e1:=(Lib.alloc_old (w.alloc (.cells #[.slice none 0 0,.slice none 0 0] 89)) (.cells #[.int .i64 0,.int .i64 0] 75) w.heap.size (by simp)).trans (heap_alloc_new w (.cells #[.slice none 0 0,.slice none 0 0] 89));have e2:=heap_alloc_new (w.alloc (.cells #[.slice none 0 0,.slice none 0 0] 89)) (.cells #[.int .i64 0,.int .i64 0] 75);rw[World.size_alloc] at e2
 have ade:¬ ((d:Int)<1):=by omega
 have adf:¬ ((200:Int)<(d:Int)):=by omega
 clear hl;go_enter Tryz.func63,Tryz.ntmps63
 go_upto_region 6 with (go_at_call 74;refine(HL.out _).mono ?_;rintro e w3 ⟨⟨at_,ct,rfl,hrec⟩,hb3⟩;have hz3:=hb3.size)
 rw[World.size_alloc,World.size_alloc] at hz3;have G6:=(Lib.alloc_old w3 (.cells #[.int .i64 0,.int .i64 0] 75) w.heap.size (by omega)).trans ((hb3.block w.heap.size (by simp;omega)).trans e1);have G7:=(Lib.alloc_old w3 (.cells #[.int .i64 0,.int .i64 0] 75) (w.heap.size+1) (by omega)).trans ((hb3.block (w.heap.size+1) (by simp)).trans e2);have hb4:=(hal.trans (hb3.mono (by simp;omega))).alloc (by omega) (.cells #[.int .i64 0,.int .i64 0] 75);have P6:=hrec.below (aj w3 (.cells #[.int .i64 0,.int .i64 0] 75))
 have Kv:w3.heap.size≤(w3.alloc (.cells #[.int .i64 0,.int .i64 0] 75)).heap.size:=by simp
 clear hb3 e1 e2 hal HL hrec ade adf;generalize w3.heap.size=B3 at P6 Kv hz3 ⊢;generalize w3.alloc _=w4 at G6 G7 hb4 P6 Kv ⊢;have HN:=ah (Ut w4.heap.size _ toks w4 (P6.mono Kv) hpos (by omega))
 go_upto_region 7 with (go_at_call 100;refine HN.out.mono ?_;rintro e w5 ⟨bb,B,tv,rfl,hbw,aar,mP,hb5⟩)
 have aeN:=hbw;obtain⟨hBb,nv0,l0,hbk,_⟩:=aeN;have hblt:=(bG hbk).1;have G65:=(Lib.alloc_old w5 (.cells #[.pointer (some ⟨bb,0,none⟩),.int .i64 d,.bool false,.int .i64 0,.int .i64 0] 188) w.heap.size (by have:=hb5.size;have:=(bG G6).1;omega)).trans ((hb5.block w.heap.size (bG G6).1).trans G6);have G75:=(Lib.alloc_old w5 (.cells #[.pointer (some ⟨bb,0,none⟩),.int .i64 d,.bool false,.int .i64 0,.int .i64 0] 188) (w.heap.size+1) (by have:=hb5.size;have:=(bG G7).1;omega)).trans ((hb5.block (w.heap.size+1) (bG G7).1).trans G7);have hb6:=(hb4.trans (hb5.mono hb4.size)).alloc (by have:=hb4.size;have:=hb5.size;omega) (.cells #[.pointer (some ⟨bb,0,none⟩),.int .i64 d,.bool false,.int .i64 0,.int .i64 0] 188)
 have hPW:PW ⟨[],B,w5.heap.size,bb,tv,toks,d⟩ startP (w5.alloc (.cells #[.pointer (some ⟨bb,0,none⟩),.int .i64 d,.bool false,.int .i64 0,.int .i64 0] 188)) :=
  ⟨heap_alloc_new _ _,hbw.later (aj _ _),aar.below ((aj w5 _).mono (by omega)),by show B≤w5.heap.size;omega,Nat.zero_le _,fun r hr=>by cases hr⟩
 have hBw:w.heap.size≤B:=Nat.le_trans hb4.size mP;have HAL:=ah (HA.out ⟨[],B,w5.heap.size,bb,tv,toks,d⟩ _ rfl rfl ⟨hpos,by show toks.length≤_;omega,by show d≤1000;omega⟩ hPW);clear HN HA hbw aar hb5 hb4 G6 G7 P6 hPW hbk;generalize w5.heap.size=pb at HAL ⊢;generalize w5.alloc _=w6 at G65 G75 hb6 HAL ⊢
 go_upto_region 8 with (go_at_call 64;refine HAL.out.mono ?_;rintro e w7 ⟨rfl,En,AA⟩)
 have G67:=AA.2 _ _ _ _ G65 (by decide) (by decide) (by decide);have G77:=AA.2 _ _ _ _ G75 (by decide) (by decide) (by decide);have pI:Below w.heap.size w w7:=hb6.trans (AA.1.mono hBw);have HOK:=ah (qU _ st w7 En);obtain⟨c0,c1,c2,c3,c4,cz⟩:=En.cells;obtain⟨h1,xX,P7,_⟩:=En;obtain⟨q0,q1,qz⟩:=mQ G67;obtain⟨p0,p1,pz⟩:=iV G77;clear AA HAL h1 G65 G75 hb6;simp only at c0 c1 c2 c3 c4 xX P7
 by_cases hf:st.fE=0
 ·have hok:okB st=true:=by unfold okB;simp[hf]
  rw[hok] at HOK;have HD:=ah (Xf _ B bb tv toks st.nodes st.used w7 xX P7 hpos (by omega) hnl (hkl hf));have PO:Hid (GZ toks st=.good toks st.nodes):=ah (by rw[GZ,if_pos hf]);clear hok hf xX P7 c1 c2 c3 c4 q0 q1 qz p0 p1 pz;rw[PO.out]
  go_upto_region 10 with (go_at_call 101;refine HOK.out.mono ?_;rintro e w8 ⟨rfl,rfl⟩)
  go_wp2_with (go_at_call 102;refine HD.out.mono ?_;rintro e w9 ⟨v9,rfl,ht9,Cz⟩;obtain⟨at9,Xk,Zx,Zy,rfl⟩:=ht9.at.slices;have G69:=(Cz.block w.heap.size (bG G67).1).trans G67;have G79:=(Cz.block (w.heap.size+1) (bG G77).1).trans G77;obtain⟨q0,q1,qz⟩:=mQ G69;obtain⟨p0,p1,pz⟩:=iV G79);have T1:=ht9.set G69 (by decide) (by decide) (by decide) 0 (.slice at9 toks.length Xk);have G1:=heap_setCell_same w9 w.heap.size 0 _ _ (.slice at9 toks.length Xk) G69;have T2:=T1.set G1 (by decide) (by decide) (by decide) 1 (.slice Zx st.nodes.length Zy)
  have F1:((w9.setCell ⟨w.heap.size,0,none⟩ (.slice at9 toks.length Xk)).setCell ⟨w.heap.size,1,none⟩ (.slice Zx st.nodes.length Zy)).heap[w.heap.size+1]?=some (.cells #[.int .i64 0,.int .i64 0] 75 (0,0)):=by
   rw[heap_setCell_other _ _ _ _ (by show w.heap.size+1≠w.heap.size;omega),heap_setCell_other _ _ _ _ (by show w.heap.size+1≠w.heap.size;omega)];exact G79
  have T3:=T2.set F1 (by decide) (by decide) (by decide) 0 (.int .i64 0);have F2:=heap_setCell_same _ (w.heap.size+1) 0 _ _ (.int .i64 0) F1;have T4:=T3.set F2 (by decide) (by decide) (by decide) 1 (.int .i64 0);have Zt:=pI.trans (Cz.mono pI.size);refine bodyPost_ret (v:=.tuple #[.agg #[.slice at9 toks.length Xk,.slice Zx st.nodes.length Zy],.agg #[.int .i64 0,.int .i64 0]]) (by simp[results,Tryz.results63,go_sem,q0,q1,p0,p1]) rfl ?_;rw[PO.out];exact⟨(((Zt.setCell (by simp) _).setCell (by simp) _).setCell (by simp) _).setCell (by simp) _,at9,Xk,Zx,Zy,rfl,T4⟩
 ·have hok:okB st=false:=by unfold okB;simp[hf]
  rw[hok] at HOK;have PO:Hid (GZ toks st=.bad st.fE st.Ya):=ah (by rw[GZ,if_neg hf]);clear hok hf xX P7 c1 c2 hkl hnl
  go_upto_region 9 with (go_at_call 101;refine HOK.out.mono ?_;rintro e w8 ⟨rfl,rfl⟩)
  go_region
  go_wp2;refine bodyPost_ret (v:=.tuple #[.agg #[.slice none 0 0,.slice none 0 0],.agg #[.int .i64 st.fE,.int .i64 st.Ya]]) (by simp[results,Tryz.results63,go_sem,q0,q1,p0,p1]) rfl ?_;rw[PO.out];exact⟨((((pI.setCell (by simp) _).setCell (by simp) _).setCell (by simp) _).setCell (by simp) _).drew,rfl⟩
theorem SS (s:ByteArray)(d:Nat)(w:World)(hd1:1≤d)(hd2:d≤200)(hs:s.size≤1099511627776) :
  Calls Tryz.prog 63 #[.string s,.int .i64 d,.func (.func 64) #[] #[]] w (IV (nA s.data.toList d) w):=by
 cases hl:bW s.data.toList with
 | error x =>
  have hf:=(wK hl).2
  have e:nA s.data.toList d=.bad x.1 x.2:=by rw[nA,hl]
  rw[e];exact Ls s d _ w hd1 hd2 hs x.1 x.2 hl (by omega)
 | ok toks =>
  have hL:=jy hl
  have hlen:toks.length≤65537:=by
   have h1:=hL.count;unfold bW at hl
   split at hl
   ·cases hl
   ·omega
  obtain⟨a,ha⟩:=JV hL.ZX d startP;have h3:=Q0 ha;have h4:=QZ ha (Nat.zero_le _);unfold Slk at h3;simp only[startP,List.length_nil] at h3
  have e:nA s.data.toList d=GZ toks a.2:=by
   rw[nA,hl];simp only;rw[ha]
  rw[e]
  refine Lv s d w hd1 hd2 hs toks hl (by omega) a ha (by omega) fun hf n hm=>?_
  obtain⟨q,he,_⟩:=YC hL ha hf
  have g1:a.2.nodes.length=q.pt.nd:=by rw[he,PT.sj]
  rw[he] at hm;have:=G5 _ _ _ n hm;omega
theorem Gt (s:ByteArray)(d:Nat)(w:World)(hd1:1≤d)(hd2:d≤200)(hs:s.size≤1099511627776) :
  Calls Tryz.prog 36 #[.string s,.int .i64 d] w (IV (nA s.data.toList d) w):=by
 have HR:=ah (fun W=>SS s d W hd1 hd2 hs);have hal:=(aj w (.cells #[.slice none 0 0,.slice none 0 0] 89)).alloc (by simp) (.cells #[.int .i64 0,.int .i64 0] 75);have e1:=(Lib.alloc_old (w.alloc (.cells #[.slice none 0 0,.slice none 0 0] 89)) (.cells #[.int .i64 0,.int .i64 0] 75) w.heap.size (by simp)).trans (heap_alloc_new w (.cells #[.slice none 0 0,.slice none 0 0] 89));have e2:=heap_alloc_new (w.alloc (.cells #[.slice none 0 0,.slice none 0 0] 89)) (.cells #[.int .i64 0,.int .i64 0] 75);rw[World.size_alloc] at e2
 have HB:Hid (∀ w9,Below ((w.alloc (.cells #[.slice none 0 0,.slice none 0 0] 89)).alloc (.cells #[.int .i64 0,.int .i64 0] 75)).heap.size ((w.alloc (.cells #[.slice none 0 0,.slice none 0 0] 89)).alloc (.cells #[.int .i64 0,.int .i64 0] 75)) w9→Below w.heap.size w w9∧w9.heap[w.heap.size]?=some (.cells #[.slice none 0 0,.slice none 0 0] 89 (0,0))∧w9.heap[w.heap.size+1]?=some (.cells #[.int .i64 0,.int .i64 0] 75 (0,0))):=ah fun w9 hb=>⟨hal.trans (hb.mono (by simp;omega)),(hb.block w.heap.size (by simp;omega)).trans e1,(hb.block (w.heap.size+1) (by simp)).trans e2⟩
 clear hal e1 e2;generalize nA s.data.toList d=r at HR ⊢;go_enter Tryz.func36,Tryz.ntmps36
 cases r with
 | bad c a =>
  go_wp2_with (go_at_call 63;refine(HR.out _).mono ?_;rintro e w9 ⟨Cz,rfl⟩;obtain⟨hb,G6,G7⟩:=HB.out w9 Cz;obtain⟨q0,q1,qz⟩:=mQ G6;obtain⟨p0,p1,pz⟩:=iV G7);refine bodyPost_ret (v:=.tuple #[.agg #[.slice none 0 0,.slice none 0 0],.agg #[.int .i64 c,.int .i64 a]]) (by simp[results,Tryz.results36,go_sem,q0,q1,p0,p1]) rfl ?_;exact⟨(((hb.setCell (by simp) _).setCell (by simp) _).setCell (by simp) _).setCell (by simp) _,rfl⟩
 | good toks nodes =>
  go_wp2_with (go_at_call 63;refine(HR.out _).mono ?_;rintro e w9 ⟨Cz,at9,Xk,Zx,Zy,rfl,ht9⟩;obtain⟨hb,G69,G79⟩:=HB.out w9 Cz;obtain⟨q0,q1,qz⟩:=mQ G69;obtain⟨p0,p1,pz⟩:=iV G79);have T1:=ht9.set G69 (by decide) (by decide) (by decide) 0 (.slice at9 toks.length Xk);have G1:=heap_setCell_same w9 w.heap.size 0 _ _ (.slice at9 toks.length Xk) G69;have T2:=T1.set G1 (by decide) (by decide) (by decide) 1 (.slice Zx nodes.length Zy)
  have F1:((w9.setCell ⟨w.heap.size,0,none⟩ (.slice at9 toks.length Xk)).setCell ⟨w.heap.size,1,none⟩ (.slice Zx nodes.length Zy)).heap[w.heap.size+1]?=some (.cells #[.int .i64 0,.int .i64 0] 75 (0,0)):=by
   rw[heap_setCell_other _ _ _ _ (by show w.heap.size+1≠w.heap.size;omega),heap_setCell_other _ _ _ _ (by show w.heap.size+1≠w.heap.size;omega)];exact G79
  have T3:=T2.set F1 (by decide) (by decide) (by decide) 0 (.int .i64 0);have F2:=heap_setCell_same _ (w.heap.size+1) 0 _ _ (.int .i64 0) F1;have T4:=T3.set F2 (by decide) (by decide) (by decide) 1 (.int .i64 0);refine bodyPost_ret (v:=.tuple #[.agg #[.slice at9 toks.length Xk,.slice Zx nodes.length Zy],.agg #[.int .i64 0,.int .i64 0]]) (by simp[results,Tryz.results36,go_sem,q0,q1,p0,p1]) rfl ?_;exact⟨(((hb.setCell (by simp) _).setCell (by simp) _).setCell (by simp) _).setCell (by simp) _,at9,Xk,Zx,Zy,rfl,T4⟩
theorem SV {toks:List Tok}{nodes:List Nd}{D:List UInt8}(G:CQ toks nodes D)(B:Nat)(tv nv:Value)(w:World)(h:aP B w (.agg #[tv,nv]) toks nodes)(hB:B≤w.heap.size) :
  Calls Tryz.prog 175 #[.agg #[tv,nv],.int .i64 ((nodes.length:Int) - 1)] w fun e w'=>e=.returned (.int .i64 0)∧Below w.heap.size w w':=by
 have hR:=fun W (hW:Below w.heap.size w W)=>Ro B tv nv toks nodes (su 0 toks.length) (nodes.length+1) W (h.below (hW.mono hB)) (Nat.le_trans hB hW.size) G.few G.kids (fun _ _ _ _=>G.leaves) (by simp[su];have:=G.Vn;omega) (by have:=G.Vn;omega)
 rw[G.right] at hR;have hp:=G.pos;have hf:=G.few;obtain⟨at_,ct,an,cn,hv⟩:=h.slices;simp only[Value.agg.injEq,Array.mk.injEq,List.cons.injEq,and_true] at hv;obtain⟨rfl,rfl⟩:=hv
 have hI1:((nodes.length:Int) - 1)<(nodes.length:Int):=by omega
 have hI0:0≤((nodes.length:Int) - 1):=by omega
 have HR:=ah hR;have hbb:=(Below.refl w.heap.size w).alloc (Nat.le_refl _) (.cells #[.slice at_ toks.length ct,.slice an nodes.length cn] 89);have e1:=heap_alloc_new w (.cells #[.slice at_ toks.length ct,.slice an nodes.length cn] 89);clear h G hR;go_enter Tryz.func175,Tryz.ntmps175
 go_upto_region 3 with (go_at_call 237;refine(HR.out _ hbb).mono ?_;rintro e w3 ⟨rfl,hb3⟩)
 have T3:=(hb3.block w.heap.size (by simp)).trans e1;obtain⟨c0,c1⟩:=dn T3;have hb4:=hbb.trans (hb3.mono (by simp));clear hb3 e1 T3 HR hbb;go_wp2;go_ret;exact⟨rfl,hb4⟩
theorem Xl {toks:List Tok}{nodes:List Nd}{D:List UInt8}(G:CQ toks nodes D)(B:Nat)(tv nv:Value)(w:World)(h:aP B w (.agg #[tv,nv]) toks nodes)(hB:B≤w.heap.size) :
  Calls Tryz.prog 108 #[.agg #[tv,nv],.int .i64 ((nodes.length:Int) - 1)] w fun e w'=>e=.returned (.tuple #[.string ⟨D.toArray⟩,.int .i64 0])∧Below w.heap.size w w':=by
 have HR:=ah (fun W (hW:Below w.heap.size w W)=>SV G B tv nv W (h.below (hW.mono hB)) (Nat.le_trans hB hW.size));have hdl:=G.adR;have HD:=ah (fun W (hW:Below w.heap.size w W)=>FM G B W.heap.size W.heap.size tv nv nodes.length ((nodes.length:Int) - 1) D [] (W.alloc (.cells #[.pointer none,.slice none 0 0] 153)) (h.below ((hW.alloc hW.size _).mono hB)) (Nat.le_trans hB hW.size) (jO.fresh W) (by simp) G.dump (by rw[List.length_nil];omega));obtain⟨at_,ct,an,cn,hv⟩:=h.slices;simp only[Value.agg.injEq,Array.mk.injEq,List.cons.injEq,and_true] at hv;obtain⟨rfl,rfl⟩:=hv;have hbb:=(Below.refl w.heap.size w).alloc (Nat.le_refl _) (.cells #[.slice at_ toks.length ct,.slice an nodes.length cn] 89);have e1:=heap_alloc_new w (.cells #[.slice at_ toks.length ct,.slice an nodes.length cn] 89);clear h G;go_enter Tryz.func108,Tryz.ntmps108
 go_upto_region 4 with (go_at_call 175;refine(HR.out _ hbb).mono ?_;rintro e w3 ⟨rfl,hb3⟩)
 have T3:=(hb3.block w.heap.size (by simp)).trans e1;have hb4:=hbb.trans (hb3.mono (by simp));have HD3:=ah (HD.out w3 hb4);have T4:=(Lib.alloc_old w3 (.cells #[.pointer none,.slice none 0 0] 153) w.heap.size (bG T3).1).trans T3;have hb5:=hb4.alloc hb4.size (.cells #[.pointer none,.slice none 0 0] 153);obtain⟨c0,c1⟩:=dn T4;have hz3:=hb4.size;clear hb3 e1 T3 T4 HR hbb HD;go_wp2_with (first|(go_at_call 176;refine HD3.out.mono ?_;rintro e w6 ⟨rfl,adp,hl6,ho6⟩;rw[List.nil_append] at adp;have hz6:=hl6.size;simp only[World.size_alloc] at hz6)|(go_at_call 77;refine(zM w3.heap.size w3.heap.size D _ adp (by omega)).mono ?_;rintro e w7 ⟨rfl,afN,hl7,ho7⟩));go_ret2;exact⟨rfl,hb5.trans ((hl6.mono hz3).trans (hl7.mono hz3))⟩
theorem Xm (B:Nat)(tv nv:Value)(toks:List Tok)(w:World)(hl:toks.length≤1099511627776)(hn:fP toks toks.length≤1099511627776)(h:Rec B w tv 4 bV toks)(hB:B≤w.heap.size) :
  Calls Tryz.prog 109 #[.agg #[tv,nv]] w fun e w'=>e=.returned (.string ⟨(fZ toks).toArray⟩)∧Below w.heap.size w w':=by
 have HW:=ah (fun W (hW:Below w.heap.size w W)=>Qp tv toks W hl hn ((h.below (hW.mono hB)).mono (Nat.le_trans hB hW.size)));obtain⟨X,hX,eX⟩:=je (fZ toks);rw[eX] at HW ⊢;have hbb:=(Below.refl w.heap.size w).alloc (Nat.le_refl _) (.cells #[tv,nv] 89);clear h;go_enter Tryz.func109,Tryz.ntmps109;go_wp2_with (go_at_call 177;refine(HW.out _ hbb).mono ?_;rintro e w3 ⟨rfl,hb3⟩);go_ret;exact⟨rfl,hbb.trans (hb3.mono (by simp))⟩
theorem zG (at_:Option Addr)(nt ct:Nat)(an:Option Addr)(n cn:Nat)(w:World)(hn:n≤1099511627776) :
  Calls Tryz.prog 66 #[.agg #[.slice at_ nt ct,.slice an n cn]] w fun e w'=>e=.returned (.int .i64 ((n:Int) - 1))∧Below w.heap.size w w':=Jv _ an n cn w hn
end Go.Proofs.YtknicmmigbhpcaaGreatDoor
