/- Walks and plain laws: ProgramW2, ProgramW, ProgW. -/
import Derived.Test.YtbodlpoomfefcaaGreatDoorA32
import Derived.Test.YtbodlpoomfefcaaGreatDoorA25
set_option maxHeartbeats 16000000
set_option maxRecDepth 100000
set_option linter.unusedVariables false
set_option linter.unusedSimpArgs false
namespace Go.Proofs.YtbodlpoomfefcaaGreatDoor
open Go.RowKit Go
theorem typedM_len {toks:List Tok}{d g:Nat}{kids:List Int}{st:PSt}{r:List Int × PSt}(h:typedM toks d g kids st=some r):r.1.length≤kids.length+3:=by
 unfold typedM at h
 split at h
 ·obtain ⟨n,h2,h⟩:=Option.bind_eq_some_iff.1 h
  obtain rfl:=Option.some.inj h
  simp
 ·obtain rfl:=Option.some.inj h
  simp
theorem pubM_len (toks:List Tok)(st:PSt):(pubM toks st).1.length≤1:=by
 unfold pubM
 split <;> simp
theorem definition_any (E:PEnv)(hE:E.ok)(g:Nat)(st:PSt)(r:Int × PSt)(w:World)(h:defM E.toks E.depth g st=some r)(hp:PW E st w)(hn:r.2.nodes.length+1≤1099511627776)(hcl:st.clause=false) :
  Calls Tryz.prog 87 #[.pointer (some ⟨E.pb,0,none⟩)] w (PPost E r w):=by
 have hdep:=hE.2.2
 obtain ⟨i0,hi,hz0,hz1,hz2⟩:=info_parts Tryz.infoInt
 have hB:E.B≤w.heap.size:=hp.B_le
 unfold defM at h
 obtain ⟨l,h1,h⟩:=Option.bind_eq_some_iff.1 h
 obtain ⟨t,h2,h⟩:=Option.bind_eq_some_iff.1 h
 obtain ⟨f,h3,h⟩:=Option.bind_eq_some_iff.1 h
 obtain rfl:=Option.some.inj h
 have n9:=nodes_le (nodeM_ext _ _ _) hn
 have n8:=nodes_le (mustM_ext _ _ _) n9
 have n7:=nodes_le (run_ext _ _ _ _ _ _ h3) n8
 have n6:=nodes_le (mustM_ext _ _ _) n7
 have n5:=nodes_le (typedM_ext h2) n6
 have n4:=nodes_le (mustM_ext _ _ _) n5
 have n3:(fopenM E.toks st).2.nodes.length+1≤1099511627776:=nodes_le (listM_ext E.toks _ paramM_ext _ _ h1) n4
 have n2:(fnameM E.toks st).2.nodes.length+1≤1099511627776:=nodes_le (mustM_ext _ _ _) n3
 have n1:(funM E.toks st).2.nodes.length+1≤1099511627776:=nodes_le (kindM_ext _ _ _) n2
 have n0:(pubM E.toks st).2.nodes.length+1≤1099511627776:=nodes_le (mustM_ext _ _ _) n1
 have nl:st.nodes.length+1≤1099511627776:=nodes_le (pubM_ext E.toks st) n0
 have hc3:(fopenM E.toks st).2.clause=false:=by rw [(fopenM_ext E.toks st).2.2.1];exact hcl
 have hc4:l.2.clause=false:=by rw [(listM_ext E.toks _ paramM_ext _ _ h1).2.2.1];exact hc3
 have hc5:(mustM E.toks [[41]] l.2).2.clause=false:=by rw [(mustM_ext E.toks [[41]] l.2).2.2.1];exact hc4
 have hll:=listM_len _ _ _ _ h1
 have hpl:=pubM_len E.toks st
 have htl:=typedM_len h2
 simp only [List.length_append,List.length_cons,List.length_nil] at htl
 have HX:=Lib.hid (next_one E hE ⟨#[112,117,98]⟩ st w hp)
 have HLf:=Lib.hid (fun R w hp=>pleaf_any { E with R:=R } st w hp hE.1 hE.2.1 nl)
 have HM1:=Lib.hid (fun R w hp=>must_one { E with R:=R } hE ⟨#[102,117,110]⟩ (pubM E.toks st).2 w hp n0)
 have HM2:=Lib.hid (fun R w hp=>kind_any { E with R:=R } hE 1 (funM E.toks st).2 w hp n1)
 have HM3:=Lib.hid (fun R w hp=>must_one { E with R:=R } hE ⟨#[40]⟩ (fnameM E.toks st).2 w hp n2)
 have HLi:=Lib.hid (fun R w hp=>list_param { E with R:=R } hE (paramM E.toks E.depth g) (fopenM E.toks st).2 l w h1 hp n4 hc3 paramM_ext (fun R2 s k w' hsc hk hq _ hnk=>param_any { E with R:=R2 } hE g s k w' hk hq hnk hsc))
 have HM4:=Lib.hid (fun R w hp=>must_one { E with R:=R } hE ⟨#[41]⟩ l.2 w hp n4)
 have HTy:=Lib.hid (fun W0 R v W K hB hl=>typed_any E hE g W0 R v _ _ t W h2 K hB n6 hc5 hl)
 have HM5:=Lib.hid (fun R w hp=>must_one { E with R:=R } hE ⟨#[61]⟩ t.2 w hp n6)
 have HM6:=Lib.hid (fun R w hp=>allT { E with R:=R } hE g (.expr 1) (mustM E.toks [[61]] t.2).2 f w h3 hp n8 (by show 1≤_;omega))
 have HM7:=Lib.hid (fun R w hp=>must_one { E with R:=R } hE ⟨#[59]⟩ f.2 w hp n8)
 have HNo:=Lib.hid (fun R v w hp hv=>pnode_any { E with R:=R } 3 v (t.1++[(mustM E.toks [[61]] t.2).1,f.1,(mustM E.toks [[59]] f.2).1]) (mustM E.toks [[59]] f.2).2 w hp hv (by simp;omega) n9)
 clear n0 n1 n2 n3 n4 n5 n6 n7 n8 n9 nl hn h1 h2 h3 h hc3 hc4 hc5
 have hx0:nextF E.toks st [(⟨#[112,117,98]⟩:ByteArray).data.toList]=nextF E.toks st [tPub]:=rfl
 rw [hx0] at HX
 clear hx0
 have HPU:Hid ((nextF E.toks st [tPub]=true→pubM E.toks st=([(leafM E.toks st).1],(leafM E.toks st).2))∧(nextF E.toks st [tPub]=false→pubM E.toks st=([],st))):=Lib.hid ⟨fun q=>by rw [pubM,if_pos q],fun q=>by rw [pubM,if_neg (by rw [q];decide)]⟩
 generalize nextF E.toks st [tPub]=x at HX HPU
 go_enter Tryz.func87,Tryz.ntmps87
 go_upto_if 6 with (go_at_call 138;refine HX.out.mono ?_;rintro e w1 ⟨rfl,hq,hkq⟩)
 have K1:=(KRow.none hp).call hq hkq
 clear hq hkq HX
 go_cut [3] (fun v wc=>∃ R ao cap,v=.slice ao (pubM E.toks st).1.length cap∧KRow E w R (.slice ao (pubM E.toks st).1.length cap) (pubM E.toks st).1 (pubM E.toks st).2 wc)
 case first =>
  cases x with
  | true =>
   have HPV:=Lib.hid (HPU.out.1 rfl)
   obtain ⟨d0,_,_,_,_,_⟩:=PW.cells K1.2.2.2.1
   have HLG:=Lib.hid (HLf.out E.R w1 K1.2.2.2.1)
   clear hpl htl
   go_wp2_with (go_at_call 140;refine HLG.out.mono ?_)
   rintro e w2 ⟨rfl,hq,hkq⟩
   have K2:=K1.call hq hkq
   clear hq hkq HLG d0
   have hL:=K2.lit (.cells #[.int .i64 (leafM E.toks st).1] 3)
   have hnw:=heap_alloc_new w2 (.cells #[.int .i64 (leafM E.toks st).1] 3)
   go_wp2_with (at_builtin;refine wpList_append_lies _ rfl _ _ 81 rfl w.heap.size 3 i0 (.int .i64 0) 1 8 Tryz.underlying81 hi hz0 hz1 hz2 rfl (by decide) _ (0) _ rfl (hL.row (rfl:([]:List Int).length=0)) ⟨w2.heap.size,0,none⟩ 1 1 [.int .i64 (leafM E.toks st).1] rfl rfl ?c1 ?c2 ?c3 ?c4 ?c5 ?c6 _ rfl ?_)
   case c1=>exact World.news_of_block (cs:=#[.int .i64 (leafM E.toks st).1]) (t:=3) (fr:=(0,0)) hnw
   case c2=>simp [Value.oneCell']
   case c3=>omega
   case c4=>unfold maxLen;omega
   case c5=>omega
   case c6=>exact hL.2.2.2.2.size
   intro g3 cap3 w3 hown hgrow hat hlt
   obtain ⟨R3,K3⟩:=hL.app (news:=[(leafM E.toks st).1]) (n:=0+1) hB (by rw [List.length_append,(rfl:([]:List Int).length=0)];rfl) hown hgrow hat (by simp) hlt
   clear hL hnw hown hgrow hat hlt
   generalize hkk:([]:List Int)++[(leafM E.toks st).1]=kk3 at K3
   have HL3:Hid (kk3.length=0+1):=Lib.hid (by rw [← hkk,List.length_append,(rfl:([]:List Int).length=0)];rfl)
   have HK3:=Lib.hid hkk
   clear hkk
   go_wp2
   go_meet
   rw [HPV.out]
   refine ⟨R3,some ⟨g3,0,none⟩,cap3,rfl,?_⟩
   have e3:=K3
   rw [← HK3.out] at e3
   exact e3
  | false =>
   have HPV:=Lib.hid (HPU.out.2 rfl)
   clear hpl htl
   go_wp2
   go_meet
   rw [HPV.out]
   exact ⟨E.R,none,0,rfl,K1⟩
 case rest =>
  obtain ⟨R3,ao3,cap3,rfl,K3⟩:=hcut
  clear K1 HLf HPU
  obtain ⟨w3,rfl⟩:∃ w3:World,w3=wc:=⟨_,rfl⟩
  generalize hk0:(pubM E.toks st).1=k0 at hpl htl HTy K3
  have HK0:=Lib.hid hk0
  clear hk0
  have HMM:=Lib.hid (HM1.out R3 _ K3.2.2.2.1)
  go_wp2_with (go_at_call 141;refine HMM.out.mono ?_)
  rintro e w4 ⟨rfl,hq,hkq⟩
  have K4:=K3.call hq hkq
  clear hq hkq HMM
  have HMM:=Lib.hid (HM2.out R3 _ K4.2.2.2.1)
  go_wp2_with (go_at_call 89;refine HMM.out.mono ?_)
  rintro e w5 ⟨rfl,hq,hkq⟩
  have K5:=K4.call hq hkq
  clear hq hkq HMM
  have HMM:=Lib.hid (HM3.out R3 _ K5.2.2.2.1)
  go_wp2_with (go_at_call 141;refine HMM.out.mono ?_)
  rintro e w6 ⟨rfl,hq,hkq⟩
  have K6:=K5.call hq hkq
  clear hq hkq HMM
  clear K3 K4 K5 HM1 HM2 HM3
  have hL:=K6.lit (.cells #[.int .i64 (funM E.toks st).1,.int .i64 (fnameM E.toks st).1,.int .i64 (fopenM E.toks st).1] 3)
  have hnw:=heap_alloc_new w6 (.cells #[.int .i64 (funM E.toks st).1,.int .i64 (fnameM E.toks st).1,.int .i64 (fopenM E.toks st).1] 3)
  go_wp2_with (at_builtin;refine wpList_append_lies _ rfl _ _ 81 rfl w.heap.size 3 i0 (.int .i64 0) 1 8 Tryz.underlying81 hi hz0 hz1 hz2 rfl (by decide) _ (k0.length) _ rfl (hL.row (rfl:k0.length=k0.length)) ⟨w6.heap.size,0,none⟩ 3 3 [.int .i64 (funM E.toks st).1,.int .i64 (fnameM E.toks st).1,.int .i64 (fopenM E.toks st).1] rfl rfl ?c1 ?c2 ?c3 ?c4 ?c5 ?c6 _ rfl ?_)
  case c1=>exact World.news_of_block (cs:=#[.int .i64 (funM E.toks st).1,.int .i64 (fnameM E.toks st).1,.int .i64 (fopenM E.toks st).1]) (t:=3) (fr:=(0,0)) hnw
  case c2=>simp [Value.oneCell']
  case c3=>omega
  case c4=>unfold maxLen;omega
  case c5=>omega
  case c6=>exact hL.2.2.2.2.size
  intro g7 cap7 w7 hown hgrow hat hlt
  obtain ⟨R7,K7⟩:=hL.app (news:=[(funM E.toks st).1,(fnameM E.toks st).1,(fopenM E.toks st).1]) (n:=k0.length+3) hB (by rw [List.length_append,(rfl:k0.length=k0.length)];rfl) hown hgrow hat (by simp) hlt
  clear hL hnw hown hgrow hat hlt
  generalize hkk:k0++[(funM E.toks st).1,(fnameM E.toks st).1,(fopenM E.toks st).1]=kk7 at K7
  have HL7:Hid (kk7.length=k0.length+3):=Lib.hid (by rw [← hkk,List.length_append,(rfl:k0.length=k0.length)];rfl)
  have HK7:=Lib.hid hkk
  clear hkk
  clear K6
  go_upto_region 5 with fail
  go_cut [3] (fun v wc=>∃ R ao cap,v=.slice ao (k0.length+3+l.1.length) cap∧KRow E w R (.slice ao (k0.length+3+l.1.length) cap) (kk7++l.1) l.2 wc)
  case first =>
   have HLJ:=Lib.hid (HLi.out R7 _ K7.2.2.2.1)
   have hmf:∀ (fn:Fn) (first cap:Array Value) (w:World),(Instr.makeFunc fn first cap).run Tryz.prog w=.ok (.func fn first cap) w:=fun _ _ _ _=>rfl
   clear HLi
   go_wp2_with (go_at_call 142;refine HLJ.out.mono ?_)
   rintro e w8 ⟨v,rfl,hiv,hnil,hq,hkq⟩
   have K8:=K7.call hq hkq
   clear hq hkq HLJ K7
   by_cases hl0:l.1=[]
   ·obtain rfl:=hnil hl0
    have hlz:l.1.length=0:=by rw [hl0];rfl
    go_wp2_with (at_builtin;refine wpList_append_own_none rfl _ _ 81 rfl w.heap.size 3 i0 1 Tryz.underlying81 hi _ (k0.length+3) _ rfl (K8.row HL7.out) rfl ?_)
    go_wp2
    go_meet
    refine ⟨R7,some ⟨g7,0,none⟩,cap7,by rw [hlz],?_⟩
    rw [hl0,List.append_nil]
    exact K8
   ·have hpos:0<l.1.length:=List.length_pos_iff.2 hl0
    obtain ⟨aov,capv,rfl,hcv,hf⟩:=hiv
    obtain ⟨vb,vo,vcs,vfr,rfl,hh,hj⟩:=hf hpos
    clear hnil hl0 hf
    go_wp2_with (at_builtin;refine wpList_append_lies _ rfl _ _ 81 rfl w.heap.size 3 i0 (.int .i64 0) 1 8 Tryz.underlying81 hi hz0 hz1 hz2 rfl (by decide) _ (k0.length+3) _ rfl (K8.row HL7.out) ⟨vb,vo,none⟩ l.1.length capv (l.1.map (Value.int .i64)) rfl (by simp) ?c1 ?c2 ?c3 ?c4 ?c5 ?c6 _ rfl ?_)
    case c1=>exact ints_news hh hj
    case c2=>intro u hu;obtain ⟨y,_,rfl⟩:=List.mem_map.1 hu;rfl
    case c3=>exact hpos
    case c4=>unfold maxLen;omega
    case c5=>omega
    case c6=>exact K8.2.2.2.2.size
    intro g9 cap9 w9 hown hgrow hat hlt
    obtain ⟨R9,K9⟩:=K8.app (news:=l.1) (n:=k0.length+3+l.1.length) hB (by rw [List.length_append,HL7.out]) hown hgrow hat (by simp) hlt
    clear hown hgrow hat hlt K8 hh hj
    go_wp2
    go_meet
    exact ⟨R9,some ⟨g9,0,none⟩,cap9,rfl,K9⟩
  case rest =>
   obtain ⟨R9,ao9,cap9,rfl,K9⟩:=hcut
   clear K7 HLi
   obtain ⟨w9,rfl⟩:∃ w9:World,w9=wc:=⟨_,rfl⟩
   generalize hk9:kk7++l.1=kk9 at K9
   have HL9:Hid (kk9.length=k0.length+3+l.1.length):=Lib.hid (by rw [← hk9,List.length_append,HL7.out])
   have HK9:=Lib.hid hk9
   clear hk9
   generalize hm9:k0.length+3+l.1.length=m9 at K9 HL9 htl
   have hm9':m9≤1000:=by omega
   clear hm9
   have HMM:=Lib.hid (HM4.out R9 _ K9.2.2.2.1)
   go_wp2_with (go_at_call 141;refine HMM.out.mono ?_)
   rintro e w10 ⟨rfl,hq,hkq⟩
   have K10:=K9.call hq hkq
   clear hq hkq HMM
   have hL:=K10.lit (.cells #[.int .i64 (mustM E.toks [[41]] l.2).1] 3)
   have hnw:=heap_alloc_new w10 (.cells #[.int .i64 (mustM E.toks [[41]] l.2).1] 3)
   go_wp2_with (at_builtin;refine wpList_append_lies _ rfl _ _ 81 rfl w.heap.size 3 i0 (.int .i64 0) 1 8 Tryz.underlying81 hi hz0 hz1 hz2 rfl (by decide) _ (m9) _ rfl (hL.row HL9.out) ⟨w10.heap.size,0,none⟩ 1 1 [.int .i64 (mustM E.toks [[41]] l.2).1] rfl rfl ?c1 ?c2 ?c3 ?c4 ?c5 ?c6 _ rfl ?_)
   case c1=>exact World.news_of_block (cs:=#[.int .i64 (mustM E.toks [[41]] l.2).1]) (t:=3) (fr:=(0,0)) hnw
   case c2=>simp [Value.oneCell']
   case c3=>omega
   case c4=>unfold maxLen;omega
   case c5=>omega
   case c6=>exact hL.2.2.2.2.size
   intro g11 cap11 w11 hown hgrow hat hlt
   obtain ⟨R11,K11⟩:=hL.app (news:=[(mustM E.toks [[41]] l.2).1]) (n:=m9+1) hB (by rw [List.length_append,HL9.out];rfl) hown hgrow hat (by simp) hlt
   clear hL hnw hown hgrow hat hlt
   generalize hkk:kk9++[(mustM E.toks [[41]] l.2).1]=kk11 at K11
   have HL11:Hid (kk11.length=m9+1):=Lib.hid (by rw [← hkk,List.length_append,HL9.out];rfl)
   have HK11:=Lib.hid hkk
   clear hkk
   have HE11:kk11=k0++[(funM E.toks st).1,(fnameM E.toks st).1,(fopenM E.toks st).1]++l.1++[(mustM E.toks [[41]] l.2).1]:=by rw [← HK11.out,← HK9.out,← HK7.out]
   have K11':=K11
   rw [HE11] at K11'
   have HTz:=Lib.hid (HTy.out w R11 _ w11 K11' hB (by simp;omega))
   clear HE11 K11' HTy K9 K10 HM4
   go_wp2_with (go_at_call 144;refine HTz.out.mono ?_)
   rintro e w12 ⟨v12,R12,rfl,K12⟩
   clear HTz K11
   obtain ⟨ao12,cap12,rfl⟩:=own_form K12.1
   have htl':t.1.length≤1000000:=by omega
   clear htl
   have HMM:=Lib.hid (HM5.out R12 _ K12.2.2.2.1)
   go_wp2_with (go_at_call 141;refine HMM.out.mono ?_)
   rintro e w13 ⟨rfl,hq,hkq⟩
   have K13:=K12.call hq hkq
   clear hq hkq HMM
   have HMM:=Lib.hid (HM6.out R12 _ K13.2.2.2.1)
   go_wp2_with (go_at_call 125;refine HMM.out.mono ?_)
   rintro e w14 ⟨rfl,hq,hkq⟩
   have K14:=K13.call hq hkq
   clear hq hkq HMM
   have HMM:=Lib.hid (HM7.out R12 _ K14.2.2.2.1)
   go_wp2_with (go_at_call 141;refine HMM.out.mono ?_)
   rintro e w15 ⟨rfl,hq,hkq⟩
   have K15:=K14.call hq hkq
   clear hq hkq HMM
   clear K12 K13 K14 HM5 HM6 HM7
   have hL:=K15.lit (.cells #[.int .i64 (mustM E.toks [[61]] t.2).1,.int .i64 f.1,.int .i64 (mustM E.toks [[59]] f.2).1] 3)
   have hnw:=heap_alloc_new w15 (.cells #[.int .i64 (mustM E.toks [[61]] t.2).1,.int .i64 f.1,.int .i64 (mustM E.toks [[59]] f.2).1] 3)
   go_wp2_with (at_builtin;refine wpList_append_lies _ rfl _ _ 81 rfl w.heap.size 3 i0 (.int .i64 0) 1 8 Tryz.underlying81 hi hz0 hz1 hz2 rfl (by decide) _ (t.1.length) _ rfl (hL.row (rfl:t.1.length=t.1.length)) ⟨w15.heap.size,0,none⟩ 3 3 [.int .i64 (mustM E.toks [[61]] t.2).1,.int .i64 f.1,.int .i64 (mustM E.toks [[59]] f.2).1] rfl rfl ?c1 ?c2 ?c3 ?c4 ?c5 ?c6 _ rfl ?_)
   case c1=>exact World.news_of_block (cs:=#[.int .i64 (mustM E.toks [[61]] t.2).1,.int .i64 f.1,.int .i64 (mustM E.toks [[59]] f.2).1]) (t:=3) (fr:=(0,0)) hnw
   case c2=>simp [Value.oneCell']
   case c3=>omega
   case c4=>unfold maxLen;omega
   case c5=>omega
   case c6=>exact hL.2.2.2.2.size
   intro g16 cap16 w16 hown hgrow hat hlt
   obtain ⟨R16,K16⟩:=hL.app (news:=[(mustM E.toks [[61]] t.2).1,f.1,(mustM E.toks [[59]] f.2).1]) (n:=t.1.length+3) hB (by rw [List.length_append,(rfl:t.1.length=t.1.length)];rfl) hown hgrow hat (by simp) hlt
   clear hL hnw hown hgrow hat hlt
   generalize hkk:t.1++[(mustM E.toks [[61]] t.2).1,f.1,(mustM E.toks [[59]] f.2).1]=kk16 at K16
   have HL16:Hid (kk16.length=t.1.length+3):=Lib.hid (by rw [← hkk,List.length_append,(rfl:t.1.length=t.1.length)];rfl)
   have HK16:=Lib.hid hkk
   clear hkk
   clear K15
   have e16:=K16
   rw [← HK16.out] at e16
   have HNp:=Lib.hid (HNo.out R16 _ _ e16.2.2.2.1 e16.node)
   clear e16 HNo
   go_wp2_with (go_at_call 88;refine HNp.out.mono ?_)
   rintro e w17 ⟨rfl,hq,hkq⟩
   have K17:=K16.call hq hkq
   go_wp2
   go_ret
   exact ⟨rfl,PR.drop K17.2.2.2.1 K17.2.2.1,K17.2.2.2.2⟩
theorem strs_kept {B:Nat}{w wr:World}{cs:Array Value}{fr:Nat × Nat}{b n cap:Nat}{l:List (List UInt8)}(h:w.heap[b]?=some (.cells cs 9 fr))(hk:Kp B w wr)(hn:l.length=n)(hc:∀ j,(hj:j<l.length)→cs[j]?=some (.string ⟨l[j].toArray⟩)):StrsAt wr (.slice (some ⟨b,0,none⟩) n cap) l:=by
 subst hn
 have h2:=hk.2 _ _ _ _ h (by decide) (by decide) (by decide)
 refine ⟨b,0,cap,rfl,(Array.getElem?_eq_some_iff.1 h2).1,fun j hj=>?_⟩
 rw [Nat.zero_add]
 rw [Lib.cell_of_heap h2]
 simpa using hc j hj
theorem program_any (E:PEnv)(hE:E.ok)(g:Nat)(st:PSt)(r:Int × PSt)(w:World)(h:progM E.toks E.depth g st=some r)(hp:PW E st w)(hcl:st.clause=false)(hn:r.2.nodes.length+1≤1099511627776) :
  Calls Tryz.prog 44 #[.pointer (some ⟨E.pb,0,none⟩)] w (VPost E r.2 w):=by
 obtain ⟨i0,hi,hz0,hz1,hz2⟩:=info_parts Tryz.infoInt
 have hB:E.B≤w.heap.size:=hp.B_le
 unfold progM at h
 obtain ⟨a,h1,h⟩:=Option.bind_eq_some_iff.1 h
 obtain ⟨b,h2,h⟩:=Option.bind_eq_some_iff.1 h
 obtain rfl:=Option.some.inj h
 have n3:=nodes_le (nodeM_ext _ _ _) hn
 have n2:=nodes_le (kindM_ext _ _ _) n3
 have n1:=nodes_le (sevM_ext defM_ext _ _ _ _ h2) n2
 have hla:=sevM_len _ _ _ _ h1
 have hlb:=sevM_len _ _ _ _ h2
 simp only [List.length_nil] at hla hlb
 have hca:a.2.clause=false:=by rw [(sevM_ext (importO_ext E.toks) _ _ _ _ h1).2.2.1];exact hcl
 have HS1:=Lib.hid (fun w hp hF=>several_imports E hE _ [tImport] (some ⟨w.heap.size - 1,0,none⟩) 1 16 (by omega) st a w h1 hp n1 hcl hF (by decide) (importO_ext E.toks) (fun R s k w' hsc hk hq hnk=>by
  obtain rfl:=Option.some.inj hk
  exact imported_any { E with R:=R } hE s w' hq hnk))
 have HS2:=Lib.hid (fun R w hp hF=>several_defs { E with R:=R } hE _ [tPub,tFun] (some ⟨w.heap.size - 1,0,none⟩) 2 64 (by omega) a.2 b w h2 hp n2 hca hF (by decide) defM_ext (fun R2 s k w' hsc hk hq hnk=>definition_any { E with R:=R2 } hE g s k w' hk hq hnk hsc))
 have HKi:=Lib.hid (fun R w hp=>kind_any { E with R:=R } hE 5 b.2 w hp n2)
 have HNo:=Lib.hid (fun R v w hp hv=>pnode_any { E with R:=R } 1 v (a.1++b.1++[(kindM E.toks 5 b.2).1]) (kindM E.toks 5 b.2).2 w hp hv (by simp;omega) n3)
 have hmf:∀ (fn:Fn) (first cap:Array Value) (w:World),(Instr.makeFunc fn first cap).run Tryz.prog w=.ok (.func fn first cap) w:=fun _ _ _ _=>rfl
 clear n1 n2 n3 hn h1 h2 h hca
 have hs1:=HS1.out (w.alloc (.cells #[.string ⟨#[105,109,112,111,114,116]⟩] 9)) (hp.later (below_new w _)) (fun wr hk=>strs_kept (by rw [World.size_alloc,Nat.add_sub_cancel];exact heap_alloc_new w _) hk rfl (fun j hj=>by obtain rfl:j=0:=(by simpa using hj);rfl))
 rw [show (w.alloc (.cells #[.string ⟨#[105,109,112,111,114,116]⟩] 9)).heap.size - 1=w.heap.size by simp] at hs1
 have HS:=Lib.hid hs1
 clear hs1 HS1
 go_enter Tryz.func44,Tryz.ntmps44
 go_upto_region 1 with (go_at_call 85;refine HS.out.mono ?_;rintro e w1 ⟨v1,R1,rfl,hnil1,K1'⟩)
 have K1:=K1'.lift (W0:=w) (Kp.of (below_new w _) hB)
 clear K1' HS hnil1
 obtain ⟨ao1,cap1,rfl⟩:=own_form K1.1
 go_cut [2] (fun v wc=>∃ R ao cap,v=.slice ao (a.1.length+b.1.length) cap∧KRow E w R (.slice ao (a.1.length+b.1.length) cap) (a.1++b.1) b.2 wc)
 case first =>
  have hs2:=HS2.out R1 (w1.alloc (.cells #[.string ⟨#[112,117,98]⟩,.string ⟨#[102,117,110]⟩] 9)) (PW.later K1.2.2.2.1 (below_new w1 _)) (fun wr hk=>strs_kept (by rw [World.size_alloc,Nat.add_sub_cancel];exact heap_alloc_new w1 _) hk rfl (fun j hj=>by
   match j,hj with
   | 0,_=>rfl
   | 1,_=>rfl))
  rw [show (w1.alloc (.cells #[.string ⟨#[112,117,98]⟩,.string ⟨#[102,117,110]⟩] 9)).heap.size - 1=w1.heap.size by simp] at hs2
  have HS:=Lib.hid hs2
  clear hs2 HS2 HKi HNo
  go_wp2_with (go_at_call 85;refine HS.out.mono ?_)
  rintro e w2 ⟨v2,R2,rfl,hnil,K2'⟩
  have K2:=K1.call (w':=w2) (s':=b.2) (PR.drop K2'.2.2.2.1 K2'.2.2.1) ((Kp.of (below_new w1 _) K1.2.2.2.1.B_le).trans K2'.2.2.2.2)
  have hiv:IntsAt w2 v2 b.1:=K2'.node
  clear HS K1 K2'
  by_cases hl0:b.1=[]
  ·obtain rfl:=hnil hl0
   have hlz:b.1.length=0:=by rw [hl0];rfl
   go_wp2_with (at_builtin;refine wpList_append_own_none rfl _ _ 81 rfl w.heap.size 3 i0 1 Tryz.underlying81 hi _ (a.1.length) _ rfl (K2.row rfl) rfl ?_)
   go_wp2
   go_meet
   refine ⟨R1,ao1,cap1,by rw [hlz];rfl,?_⟩
   rw [hl0,List.append_nil]
   exact K2
  ·have hpos:0<b.1.length:=List.length_pos_iff.2 hl0
   obtain ⟨aov,capv,rfl,hcv,hf⟩:=hiv
   obtain ⟨vb,vo,vcs,vfr,rfl,hh,hj⟩:=hf hpos
   clear hnil hl0 hf
   go_wp2_with (at_builtin;refine wpList_append_lies _ rfl _ _ 81 rfl w.heap.size 3 i0 (.int .i64 0) 1 8 Tryz.underlying81 hi hz0 hz1 hz2 rfl (by decide) _ (a.1.length) _ rfl (K2.row rfl) ⟨vb,vo,none⟩ b.1.length capv (b.1.map (Value.int .i64)) rfl (by simp) ?c1 ?c2 ?c3 ?c4 ?c5 ?c6 _ rfl ?_)
   case c1=>exact ints_news hh hj
   case c2=>intro u hu;obtain ⟨y,_,rfl⟩:=List.mem_map.1 hu;rfl
   case c3=>exact hpos
   case c4=>unfold maxLen;omega
   case c5=>omega
   case c6=>exact K2.2.2.2.2.size
   intro g3 cap3 w3 hown hgrow hat hlt
   obtain ⟨R3,K3⟩:=K2.app (news:=b.1) (n:=a.1.length+b.1.length) hB (by rw [List.length_append]) hown hgrow hat (by simp) hlt
   clear hown hgrow hat hlt K2 hh hj
   go_wp2
   go_meet
   exact ⟨R3,some ⟨g3,0,none⟩,cap3,rfl,K3⟩
 case rest =>
  obtain ⟨R3,ao3,cap3,rfl,K3⟩:=hcut
  clear K1 HS2
  obtain ⟨w3,rfl⟩:∃ w3:World,w3=wc:=⟨_,rfl⟩
  generalize hk3:a.1++b.1=kk3 at K3 HNo
  have HL3:Hid (kk3.length=a.1.length+b.1.length):=Lib.hid (by rw [← hk3,List.length_append])
  have HK3:=Lib.hid hk3
  clear hk3
  generalize hm3:a.1.length+b.1.length=m3 at K3 HL3
  have hm3':m3≤80:=by omega
  clear hm3 hla hlb
  have HMM:=Lib.hid (HKi.out R3 _ K3.2.2.2.1)
  go_wp2_with (go_at_call 89;refine HMM.out.mono ?_)
  rintro e w4 ⟨rfl,hq,hkq⟩
  have K4:=K3.call hq hkq
  clear hq hkq HMM
  have hL:=K4.lit (.cells #[.int .i64 (kindM E.toks 5 b.2).1] 3)
  have hnw:=heap_alloc_new w4 (.cells #[.int .i64 (kindM E.toks 5 b.2).1] 3)
  go_wp2_with (at_builtin;refine wpList_append_lies _ rfl _ _ 81 rfl w.heap.size 3 i0 (.int .i64 0) 1 8 Tryz.underlying81 hi hz0 hz1 hz2 rfl (by decide) _ (m3) _ rfl (hL.row HL3.out) ⟨w4.heap.size,0,none⟩ 1 1 [.int .i64 (kindM E.toks 5 b.2).1] rfl rfl ?c1 ?c2 ?c3 ?c4 ?c5 ?c6 _ rfl ?_)
  case c1=>exact World.news_of_block (cs:=#[.int .i64 (kindM E.toks 5 b.2).1]) (t:=3) (fr:=(0,0)) hnw
  case c2=>simp [Value.oneCell']
  case c3=>omega
  case c4=>unfold maxLen;omega
  case c5=>omega
  case c6=>exact hL.2.2.2.2.size
  intro g5 cap5 w5 hown hgrow hat hlt
  obtain ⟨R5,K5⟩:=hL.app (news:=[(kindM E.toks 5 b.2).1]) (n:=m3+1) hB (by rw [List.length_append,HL3.out];rfl) hown hgrow hat (by simp) hlt
  clear hL hnw hown hgrow hat hlt
  generalize hkk:kk3++[(kindM E.toks 5 b.2).1]=kk5 at K5
  have HL5:Hid (kk5.length=m3+1):=Lib.hid (by rw [← hkk,List.length_append,HL3.out];rfl)
  have HK5:=Lib.hid hkk
  clear hkk
  clear K3 K4
  have e5:=K5
  rw [← HK5.out] at e5
  have HNp:=Lib.hid (HNo.out R5 _ _ e5.2.2.2.1 e5.node)
  clear e5 HNo
  go_wp2_with (go_at_call 88;refine HNp.out.mono ?_)
  rintro e w6 ⟨rfl,hq,hkq⟩
  have K6:=K5.call hq hkq
  go_wp2
  go_end0
  have e6:=PR.drop K6.2.2.2.1 K6.2.2.1
  rw [← HK3.out] at e6
  simp only [List.append_assoc] at e6 ⊢
  exact ⟨rfl,e6,K6.2.2.2.2⟩
theorem readP_parse (s:ByteArray)(d:Nat)(w:World)(hd1:1≤d)(hd2:d≤200)(hs:s.size≤1099511627776)(toks:List Tok)(hl:lexAll s.data.toList=.ok toks)(hn:toks.length≤100000)
  (a:Int × PSt) (ha:progM toks d (gasA toks) startP=some a) (han:a.2.nodes.length≤2 * toks.length) (hkl:a.2.fE=0→∀ n∈a.2.nodes,n.kids.length≤1000000) :
  Calls Tryz.prog 43 #[.string s,.int .i64 d,.func (.func 44) #[] #[]] w (FormOk (ofSt toks a.2) w):=by
 have hpos:=(lexAll_laid hl).some
 have HA:Hid (∀ (E:PEnv) (w:World),E.toks=toks→E.depth=d→E.ok→PW E startP w→Calls Tryz.prog 44 #[.pointer (some ⟨E.pb,0,none⟩)] w (VPost E a.2 w)):=Lib.hid (fun E w h1 h2 hE hp=>by
  subst h1 h2
  exact program_any E hE (gasA E.toks) startP a w ha hp rfl (by omega))
 clear ha
 generalize a.2=st at han hkl HA ⊢
 have hnl:st.nodes.length≤1000000:=by omega
 clear han
 have HL:Hid (∀ W,Calls Tryz.prog 81 #[.string s] W fun e w'=>(∃ at_ ct,e=.returned (.tuple #[.slice at_ toks.length ct,.agg #[.int .i64 0,.int .i64 0]])∧Rec w'.heap.size w' (.slice at_ toks.length ct) 4 tokCells toks)∧Below W.heap.size W w'):=Lib.hid fun W=>(lex_any s W hs).mono fun e w' h=>by
  unfold LexOk at h
  rw [hl] at h
  obtain ⟨h1,v,h2,h3⟩:=h
  obtain ⟨at_,ct,rfl,_,_⟩:=h3.form (fun _=>rfl)
  exact ⟨⟨at_,ct,h2,h3⟩,h1⟩
 have hal:=(below_new w (.cells #[.slice none 0 0,.slice none 0 0] 25)).alloc (by simp) (.cells #[.int .i64 0,.int .i64 0] 44)
 have e1:=(Lib.alloc_old (w.alloc (.cells #[.slice none 0 0,.slice none 0 0] 25)) (.cells #[.int .i64 0,.int .i64 0] 44) w.heap.size (by simp)).trans (heap_alloc_new w (.cells #[.slice none 0 0,.slice none 0 0] 25))
 have e2:=heap_alloc_new (w.alloc (.cells #[.slice none 0 0,.slice none 0 0] 25)) (.cells #[.int .i64 0,.int .i64 0] 44)
 rw [World.size_alloc] at e2
 have hdI1:¬ ((d:Int)<1):=by omega
 have hdI2:¬ ((200:Int)<(d:Int)):=by omega
 clear hl
 go_enter Tryz.func43,Tryz.ntmps43
 go_upto_region 6 with (go_at_call 81;refine (HL.out _).mono ?_;rintro e w3 ⟨⟨at_,ct,rfl,hrec⟩,hb3⟩;have hz3:=hb3.size)
 rw [World.size_alloc,World.size_alloc] at hz3
 have G6:=(Lib.alloc_old w3 (.cells #[.int .i64 0,.int .i64 0] 44) w.heap.size (by omega)).trans ((hb3.block w.heap.size (by simp;omega)).trans e1)
 have G7:=(Lib.alloc_old w3 (.cells #[.int .i64 0,.int .i64 0] 44) (w.heap.size+1) (by omega)).trans ((hb3.block (w.heap.size+1) (by simp)).trans e2)
 have hb4:=(hal.trans (hb3.mono (by simp;omega))).alloc (by omega) (.cells #[.int .i64 0,.int .i64 0] 44)
 have hrec4:=hrec.below (below_new w3 (.cells #[.int .i64 0,.int .i64 0] 44))
 have hz4:w3.heap.size≤(w3.alloc (.cells #[.int .i64 0,.int .i64 0] 44)).heap.size:=by simp
 clear hb3 e1 e2 hal HL hrec hdI1 hdI2
 generalize w3.heap.size=B3 at hrec4 hz4 hz3 ⊢
 generalize w3.alloc _=w4 at G6 G7 hb4 hrec4 hz4 ⊢
 have HN:=Lib.hid (newB_any w4.heap.size _ toks w4 (hrec4.mono hz4) hpos (by omega))
 go_upto_region 7 with (go_at_call 82;refine HN.out.mono ?_;rintro e w5 ⟨bb,B,tv,rfl,hbw,hrec5,hBB,hb5⟩)
 have hbw':=hbw
 obtain ⟨hBb,nv0,l0,hbk,_⟩:=hbw'
 have hblt:=(Array.getElem?_eq_some_iff.1 hbk).1
 have G65:=(Lib.alloc_old w5 (.cells #[.pointer (some ⟨bb,0,none⟩),.int .i64 d,.bool false,.int .i64 0,.int .i64 0] 156) w.heap.size (by have:=hb5.size;have:=(Array.getElem?_eq_some_iff.1 G6).1;omega)).trans ((hb5.block w.heap.size (Array.getElem?_eq_some_iff.1 G6).1).trans G6)
 have G75:=(Lib.alloc_old w5 (.cells #[.pointer (some ⟨bb,0,none⟩),.int .i64 d,.bool false,.int .i64 0,.int .i64 0] 156) (w.heap.size+1) (by have:=hb5.size;have:=(Array.getElem?_eq_some_iff.1 G7).1;omega)).trans ((hb5.block (w.heap.size+1) (Array.getElem?_eq_some_iff.1 G7).1).trans G7)
 have hb6:=(hb4.trans (hb5.mono hb4.size)).alloc (by have:=hb4.size;have:=hb5.size;omega) (.cells #[.pointer (some ⟨bb,0,none⟩),.int .i64 d,.bool false,.int .i64 0,.int .i64 0] 156)
 have hPW:PW ⟨[],B,w5.heap.size,bb,tv,toks,d⟩ startP (w5.alloc (.cells #[.pointer (some ⟨bb,0,none⟩),.int .i64 d,.bool false,.int .i64 0,.int .i64 0] 156)) :=
  ⟨heap_alloc_new _ _,hbw.later (below_new _ _),hrec5.below ((below_new w5 _).mono (by omega)),by show B≤w5.heap.size;omega,Nat.zero_le _,fun r hr=>by cases hr⟩
 have hBw:w.heap.size≤B:=Nat.le_trans hb4.size hBB
 have HAL:=Lib.hid (HA.out ⟨[],B,w5.heap.size,bb,tv,toks,d⟩ _ rfl rfl ⟨hpos,by show toks.length≤_;omega,by show d≤1000;omega⟩ hPW)
 clear HN HA hbw hrec5 hb5 hb4 G6 G7 hrec4 hPW hbk
 generalize w5.heap.size=pb at HAL ⊢
 generalize w5.alloc _=w6 at G65 G75 hb6 HAL ⊢
 go_upto_region 8 with (go_at_call 44;refine HAL.out.mono ?_;rintro e w7 ⟨rfl,hp7,hk7⟩)
 have G67:=hk7.2 _ _ _ _ G65 (by decide) (by decide) (by decide)
 have G77:=hk7.2 _ _ _ _ G75 (by decide) (by decide) (by decide)
 have hb7:Below w.heap.size w w7:=hb6.trans (hk7.1.mono hBw)
 have HOK:=Lib.hid (ok_any _ st w7 hp7)
 obtain ⟨c0,c1,c2,c3,c4,cz⟩:=hp7.cells
 obtain ⟨h1,hbw7,hrec7,_⟩:=hp7
 obtain ⟨q0,q1,qz⟩:=tree_cellsz G67
 obtain ⟨p0,p1,pz⟩:=fault_cells G77
 clear hk7 HAL h1 G65 G75 hb6
 simp only at c0 c1 c2 c3 c4 hbw7 hrec7
 by_cases hf:st.fE=0
 ·have hok:okB st=true:=by unfold okB;simp [hf]
  rw [hok] at HOK
  have HD:=Lib.hid (done_any _ B bb tv toks st.nodes st.used w7 hbw7 hrec7 hpos (by omega) hnl (hkl hf))
  have HOF:Hid (ofSt toks st=.good toks st.nodes):=Lib.hid (by rw [ofSt,if_pos hf])
  clear hok hf hbw7 hrec7 c1 c2 c3 c4 q0 q1 qz p0 p1 pz
  rw [HOF.out]
  go_upto_region 10 with (go_at_call 83;refine HOK.out.mono ?_;rintro e w8 ⟨rfl,rfl⟩)
  go_wp2_with (go_at_call 84;refine HD.out.mono ?_;rintro e w9 ⟨v9,rfl,ht9,hb9⟩;obtain ⟨at9,ct9,an9,cn9,rfl⟩:=ht9.at.slices;have G69:=(hb9.block w.heap.size (Array.getElem?_eq_some_iff.1 G67).1).trans G67;have G79:=(hb9.block (w.heap.size+1) (Array.getElem?_eq_some_iff.1 G77).1).trans G77;obtain ⟨q0,q1,qz⟩:=tree_cellsz G69;obtain ⟨p0,p1,pz⟩:=fault_cells G79)
  have T1:=ht9.set G69 (by decide) (by decide) (by decide) 0 (.slice at9 toks.length ct9)
  have G1:=heap_setCell_same w9 w.heap.size 0 _ _ (.slice at9 toks.length ct9) G69
  have T2:=T1.set G1 (by decide) (by decide) (by decide) 1 (.slice an9 st.nodes.length cn9)
  have F1:((w9.setCell ⟨w.heap.size,0,none⟩ (.slice at9 toks.length ct9)).setCell ⟨w.heap.size,1,none⟩ (.slice an9 st.nodes.length cn9)).heap[w.heap.size+1]?=some (.cells #[.int .i64 0,.int .i64 0] 44 (0,0)):=by
   rw [heap_setCell_other _ _ _ _ (by show w.heap.size+1≠w.heap.size;omega),heap_setCell_other _ _ _ _ (by show w.heap.size+1≠w.heap.size;omega)]
   exact G79
  have T3:=T2.set F1 (by decide) (by decide) (by decide) 0 (.int .i64 0)
  have F2:=heap_setCell_same _ (w.heap.size+1) 0 _ _ (.int .i64 0) F1
  have T4:=T3.set F2 (by decide) (by decide) (by decide) 1 (.int .i64 0)
  have hb9':=hb7.trans (hb9.mono hb7.size)
  refine bodyPost_ret (v:=.tuple #[.agg #[.slice at9 toks.length ct9,.slice an9 st.nodes.length cn9],.agg #[.int .i64 0,.int .i64 0]]) (by simp [results,Tryz.results43,go_sem,q0,q1,p0,p1]) rfl ?_
  rw [HOF.out]
  exact ⟨(((hb9'.setCell (by simp) _).setCell (by simp) _).setCell (by simp) _).setCell (by simp) _,at9,ct9,an9,cn9,rfl,T4⟩
 ·have hok:okB st=false:=by unfold okB;simp [hf]
  rw [hok] at HOK
  have HOF:Hid (ofSt toks st=.bad st.fE st.fAt):=Lib.hid (by rw [ofSt,if_neg hf])
  clear hok hf hbw7 hrec7 c1 c2 hkl hnl
  go_upto_region 9 with (go_at_call 83;refine HOK.out.mono ?_;rintro e w8 ⟨rfl,rfl⟩)
  go_region
  go_wp2
  refine bodyPost_ret (v:=.tuple #[.agg #[.slice none 0 0,.slice none 0 0],.agg #[.int .i64 st.fE,.int .i64 st.fAt]]) (by simp [results,Tryz.results43,go_sem,q0,q1,p0,p1]) rfl ?_
  rw [HOF.out]
  exact ⟨((((hb7.setCell (by simp) _).setCell (by simp) _).setCell (by simp) _).setCell (by simp) _).drew,rfl⟩
theorem readP_any (s:ByteArray)(d:Nat)(w:World)(hd1:1≤d)(hd2:d≤200)(hs:s.size≤1099511627776) :
  Calls Tryz.prog 43 #[.string s,.int .i64 d,.func (.func 44) #[] #[]] w (FormOk (progF s.data.toList d) w):=by
 cases hl:lexAll s.data.toList with
 | error x =>
  have hf:=(lexAll_fault hl).2
  have e:progF s.data.toList d=.bad x.1 x.2:=by rw [progF,hl]
  rw [e]
  exact read_lexbad s d _ w hd1 hd2 hs x.1 x.2 hl (by omega)
 | ok toks =>
  have hL:=lexAll_laid hl
  have hlen:toks.length≤65537:=by
   have h1:=hL.count
   unfold lexAll at hl
   split at hl
   ·cases hl
   ·omega
  obtain ⟨a,ha⟩:=progM_total hL.endOk d startP
  have h3:=progM_slk ha
  have h4:=progM_wth ha (Nat.zero_le _)
  unfold Slk at h3
  simp only [startP,List.length_nil] at h3
  have e:progF s.data.toList d=ofSt toks a.2:=by
   rw [progF,hl]
   simp only
   rw [ha]
  rw [e]
  refine readP_parse s d w hd1 hd2 hs toks hl (by omega) a ha (by omega) fun hf n hm=>?_
  obtain ⟨q,he,_⟩:=prog_ok hL ha hf
  have g1:a.2.nodes.length=q.pt.nd:=by rw [he,PT.em_len]
  rw [he] at hm
  have:=em_kids _ _ _ n hm
  omega
theorem parse_any (s:ByteArray)(d:Nat)(w:World)(hd1:1≤d)(hd2:d≤200)(hs:s.size≤1099511627776) :
  Calls Tryz.prog 14 #[.string s,.int .i64 d] w (FormOk (progF s.data.toList d) w):=by
 have HR:=Lib.hid (fun W=>readP_any s d W hd1 hd2 hs)
 have hal:=(below_new w (.cells #[.slice none 0 0,.slice none 0 0] 25)).alloc (by simp) (.cells #[.int .i64 0,.int .i64 0] 44)
 have e1:=(Lib.alloc_old (w.alloc (.cells #[.slice none 0 0,.slice none 0 0] 25)) (.cells #[.int .i64 0,.int .i64 0] 44) w.heap.size (by simp)).trans (heap_alloc_new w (.cells #[.slice none 0 0,.slice none 0 0] 25))
 have e2:=heap_alloc_new (w.alloc (.cells #[.slice none 0 0,.slice none 0 0] 25)) (.cells #[.int .i64 0,.int .i64 0] 44)
 rw [World.size_alloc] at e2
 have HB:Hid (∀ w9,Below ((w.alloc (.cells #[.slice none 0 0,.slice none 0 0] 25)).alloc (.cells #[.int .i64 0,.int .i64 0] 44)).heap.size ((w.alloc (.cells #[.slice none 0 0,.slice none 0 0] 25)).alloc (.cells #[.int .i64 0,.int .i64 0] 44)) w9→Below w.heap.size w w9∧w9.heap[w.heap.size]?=some (.cells #[.slice none 0 0,.slice none 0 0] 25 (0,0))∧w9.heap[w.heap.size+1]?=some (.cells #[.int .i64 0,.int .i64 0] 44 (0,0))):=Lib.hid fun w9 hb=>⟨hal.trans (hb.mono (by simp;omega)),(hb.block w.heap.size (by simp;omega)).trans e1,(hb.block (w.heap.size+1) (by simp)).trans e2⟩
 clear hal e1 e2
 generalize progF s.data.toList d=r at HR ⊢
 go_enter Tryz.func14,Tryz.ntmps14
 cases r with
 | bad c a =>
  go_wp2_with (go_at_call 43;refine (HR.out _).mono ?_;rintro e w9 ⟨hb9,rfl⟩;obtain ⟨hb,G6,G7⟩:=HB.out w9 hb9;obtain ⟨q0,q1,qz⟩:=tree_cellsz G6;obtain ⟨p0,p1,pz⟩:=fault_cells G7)
  refine bodyPost_ret (v:=.tuple #[.agg #[.slice none 0 0,.slice none 0 0],.agg #[.int .i64 c,.int .i64 a]]) (by simp [results,Tryz.results14,go_sem,q0,q1,p0,p1]) rfl ?_
  exact ⟨(((hb.setCell (by simp) _).setCell (by simp) _).setCell (by simp) _).setCell (by simp) _,rfl⟩
 | good toks nodes =>
  go_wp2_with (go_at_call 43;refine (HR.out _).mono ?_;rintro e w9 ⟨hb9,at9,ct9,an9,cn9,rfl,ht9⟩;obtain ⟨hb,G69,G79⟩:=HB.out w9 hb9;obtain ⟨q0,q1,qz⟩:=tree_cellsz G69;obtain ⟨p0,p1,pz⟩:=fault_cells G79)
  have T1:=ht9.set G69 (by decide) (by decide) (by decide) 0 (.slice at9 toks.length ct9)
  have G1:=heap_setCell_same w9 w.heap.size 0 _ _ (.slice at9 toks.length ct9) G69
  have T2:=T1.set G1 (by decide) (by decide) (by decide) 1 (.slice an9 nodes.length cn9)
  have F1:((w9.setCell ⟨w.heap.size,0,none⟩ (.slice at9 toks.length ct9)).setCell ⟨w.heap.size,1,none⟩ (.slice an9 nodes.length cn9)).heap[w.heap.size+1]?=some (.cells #[.int .i64 0,.int .i64 0] 44 (0,0)):=by
   rw [heap_setCell_other _ _ _ _ (by show w.heap.size+1≠w.heap.size;omega),heap_setCell_other _ _ _ _ (by show w.heap.size+1≠w.heap.size;omega)]
   exact G79
  have T3:=T2.set F1 (by decide) (by decide) (by decide) 0 (.int .i64 0)
  have F2:=heap_setCell_same _ (w.heap.size+1) 0 _ _ (.int .i64 0) F1
  have T4:=T3.set F2 (by decide) (by decide) (by decide) 1 (.int .i64 0)
  refine bodyPost_ret (v:=.tuple #[.agg #[.slice at9 toks.length ct9,.slice an9 nodes.length cn9],.agg #[.int .i64 0,.int .i64 0]]) (by simp [results,Tryz.results14,go_sem,q0,q1,p0,p1]) rfl ?_
  exact ⟨(((hb.setCell (by simp) _).setCell (by simp) _).setCell (by simp) _).setCell (by simp) _,at9,ct9,an9,cn9,rfl,T4⟩
end Go.Proofs.YtbodlpoomfefcaaGreatDoor
