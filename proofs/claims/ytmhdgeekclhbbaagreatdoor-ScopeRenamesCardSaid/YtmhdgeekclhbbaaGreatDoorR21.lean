/- Walks and plain laws: ProgramW, ProgW, TdumpW2, AsP, OfW, AsP2, ScopePr0, ScopePr. -/
import Derived.Test.YtmhdgeekclhbbaaGreatDoorR20
import Derived.Test.YtmhdgeekclhbbaaGreatDoorR19
set_option maxHeartbeats 16000000
set_option maxRecDepth 100000
set_option linter.unusedVariables false
set_option linter.unusedSimpArgs false
namespace Go.Proofs.YtmhdgeekclhbbaaGreatDoor
open Go.RowKit Go
theorem Ju {B:Nat}{w wr:World}{cs:Array Value}{fr:Nat × Nat}{b n cap:Nat}{l:List (List UInt8)}(h:w.heap[b]?=some (.cells cs 9 fr))(hk:Kp B w wr)(hn:l.length=n)(hc:∀ j,(hj:j<l.length)→cs[j]?=some (.string ⟨l[j].toArray⟩)):lV wr (.slice (some ⟨b,0,none⟩) n cap) l:=by
 subst hn;have h2:=hk.2 _ _ _ _ h (by decide) (by decide) (by decide);refine⟨b,0,cap,rfl,(bS h2).1,fun j hj=>?_⟩;rw[Nat.zero_add];rw[aV h2]
 simpa using hc j hj
theorem O8 (E:bG)(hE:E.ok)(g:Nat)(st:aJ)(r:Int × aJ)(w:World)(h:qg E.ah E.depth g st=some r)(hp:PW E st w)(hcl:st.aC=false)(hn:r.2.aj.length+1≤1099511627776) :
  Calls Tryz.prog 58 #[.pointer (some ⟨E.pb,0,none⟩)] w (acr E r.2 w):=by
 obtain⟨i0,hi,hz0,hz1,hz2⟩:=info_parts Tryz.nG;have hB:E.B≤w.heap.size:=hp.fq;unfold qg at h;obtain⟨a,h1,h⟩:=cK h;obtain⟨b,h2,h⟩:=cK h;obtain rfl:=kR h;have n3:=aK (aL _ _ _) hn;have n2:=aK (fA _ _ _) n3;have n1:=aK (pE vX _ _ _ _ h2) n2;have hla:=EJ _ _ _ _ h1;have hlb:=EJ _ _ _ _ h2;simp only[gX] at hla hlb
 have hca:a.2.aC=false:=by rw[(pE (vY E.ah) _ _ _ _ h1).2.2.1];exact hcl
 have GH:=ay (fun w hp hF=>Df E hE _ [rX] (some ⟨w.heap.size - 1,0,none⟩) 1 16 (by omega) st a w h1 hp n1 hcl hF (by decide) (vY E.ah) (fun R s k w' hsc hk hq hnk=>by
  obtain rfl:=kR hk
  exact Le { E with R:=R } hE s w' hq hnk))
 have HS2:=ay (fun R w hp hF=>Lf { E with R:=R } hE _ [Ba,Ka] (some ⟨w.heap.size - 1,0,none⟩) 2 64 (by omega) a.2 b w h2 hp n2 hca hF (by decide) vX (fun R2 s k w' hsc hk hq hnk=>Gt { E with R:=R2 } hE g s k w' hk hq hnk hsc));have HKi:=ay (fun R w hp=>sV { E with R:=R } hE 5 b.2 w hp n2);have Xa:=ay (fun R v w hp hv=>kS { E with R:=R } 1 v (a.1++b.1++[(bA E.ah 5 b.2).1]) (bA E.ah 5 b.2).2 w hp hv (by simp;omega) n3)
 have hmf:∀ (fn:Fn) (first cap:Array Value) (w:World),(Instr.makeFunc fn first cap).run Tryz.prog w=.ok (.func fn first cap) w:=fun _ _ _ _=>rfl
 clear n1 n2 n3 hn h1 h2 h hca;have hs1:=GH.out (w.alloc (.cells #[.string ⟨#[105,109,112,111,114,116]⟩] 9)) (hp.later (aB w _)) (fun wr hk=>Ju (by rw[oP,Nat.add_sub_cancel];exact aY w _) hk rfl (fun j hj=>by obtain rfl:j=0:=(by simpa using hj);rfl));rw[show (w.alloc (.cells #[.string ⟨#[105,109,112,111,114,116]⟩] 9)).heap.size - 1=w.heap.size by simp] at hs1;have HS:=ay hs1;clear hs1 GH;go_enter Tryz.func58,Tryz.ntmps58
 go_upto_region 1 with (go_at_call 98;refine HS.out.mono ?_;rintro e w1 ⟨v1,R1,rfl,afG,K1'⟩)
 have K1:=K1'.lift (W0:=w) (Kp.of (aB w _) hB);clear K1' HS afG;obtain⟨ao1,afH,rfl⟩:=pq K1.1
 go_cut [2] (fun v wc=>∃ R ao cap,v=.slice ao (a.1.length+b.1.length) cap∧jv E w R (.slice ao (a.1.length+b.1.length) cap) (a.1++b.1) b.2 wc)
 case first =>
  have hs2:=HS2.out R1 (w1.alloc (.cells #[.string ⟨#[112,117,98]⟩,.string ⟨#[102,117,110]⟩] 9)) (PW.later K1.2.2.2.1 (aB w1 _)) (fun wr hk=>Ju (by rw[oP,Nat.add_sub_cancel];exact aY w1 _) hk rfl (fun j hj=>by
   match j,hj with
   | 0,_=>rfl
   | 1,_=>rfl))
  rw[show (w1.alloc (.cells #[.string ⟨#[112,117,98]⟩,.string ⟨#[102,117,110]⟩] 9)).heap.size - 1=w1.heap.size by simp] at hs2;have HS:=ay hs2;clear hs2 HS2 HKi Xa;go_wp2_with (go_at_call 98;refine HS.out.mono ?_);rintro e w2 ⟨v2,R2,rfl,hnil,K2'⟩;have K2:=K1.call (w':=w2) (s':=b.2) (PR.drop K2'.2.2.2.1 K2'.2.2.1) ((Kp.of (aB w1 _) K1.2.2.2.1.fq).trans K2'.2.2.2.2);have hiv:eH w2 v2 b.1:=K2'.node;clear HS K1 K2'
  by_cases hl0:b.1=[]
  ·obtain rfl:=hnil hl0
   have hlz:b.1.length=0:=by rw[hl0];rfl
   go_wp2_with (at_builtin;refine wpList_append_own_none rfl _ _ 127 rfl w.heap.size 3 i0 1 Tryz.underlying127 hi _ (a.1.length) _ rfl (K2.row rfl) rfl ?_);go_wp2
   go_meet
   refine⟨R1,ao1,afH,by rw[hlz];rfl,?_⟩;rw[hl0,List.append_nil];exact K2
  ·have hpos:0<b.1.length:=List.length_pos_iff.2 hl0
   obtain⟨aov,QB,rfl,hcv,hf⟩:=hiv;obtain⟨vb,vo,vcs,vfr,rfl,hh,hj⟩:=hf hpos;clear hnil hl0 hf;go_wp2_with (at_builtin;refine wpList_append_lies _ rfl _ _ 127 rfl w.heap.size 3 i0 (.int .i64 0) 1 8 Tryz.underlying127 hi hz0 hz1 hz2 rfl (by decide) _ (a.1.length) _ rfl (K2.row rfl) ⟨vb,vo,none⟩ b.1.length QB (b.1.map (Value.int .i64)) rfl (by simp) ?c1 ?c2 ?c3 ?c4 ?c5 ?c6 _ rfl ?_)
   case c1=>exact wT hh hj
   case c2=>intro u hu;obtain⟨y,_,rfl⟩:=List.mem_map.1 hu;rfl
   case c3=>exact hpos
   case c4=>unfold maxLen;omega
   case c5=>omega
   case c6=>exact K2.2.2.2.2.size
   intro g3 Z9 w3 hown hgrow hat hlt;obtain⟨R3,K3⟩:=K2.app (news:=b.1) (n:=a.1.length+b.1.length) hB (by rw[bN]) hown hgrow hat (by simp) hlt;clear hown hgrow hat hlt K2 hh hj;go_wp2
   go_meet
   exact⟨R3,some ⟨g3,0,none⟩,Z9,rfl,K3⟩
 case rest =>
  obtain⟨R3,ao3,Z9,rfl,K3⟩:=hcut;clear K1 HS2
  obtain⟨w3,rfl⟩:∃ w3:World,w3=wc:=⟨_,rfl⟩
  generalize gM:a.1++b.1=kk3 at K3 Xa;have Pz:Hid (kk3.length=a.1.length+b.1.length):=ay (by rw[← gM,bN]);have HK3:=ay gM;clear gM;generalize hm3:a.1.length+b.1.length=m3 at K3 Pz
  have ah1:m3≤80:=by omega
  clear hm3 hla hlb;have wD:=ay (HKi.out R3 _ K3.2.2.2.1);go_wp2_with (go_at_call 102;refine wD.out.mono ?_);rintro e w4 ⟨rfl,hq,dn⟩;have K4:=K3.call hq dn;clear hq dn wD;have hL:=K4.lit (.cells #[.int .i64 (bA E.ah 5 b.2).1] 3);have hnw:=aY w4 (.cells #[.int .i64 (bA E.ah 5 b.2).1] 3);go_wp2_with (at_builtin;refine wpList_append_lies _ rfl _ _ 127 rfl w.heap.size 3 i0 (.int .i64 0) 1 8 Tryz.underlying127 hi hz0 hz1 hz2 rfl (by decide) _ (m3) _ rfl (hL.row Pz.out) ⟨w4.heap.size,0,none⟩ 1 1 [.int .i64 (bA E.ah 5 b.2).1] rfl rfl ?c1 ?c2 ?c3 ?c4 ?c5 ?c6 _ rfl ?_)
  case c1=>exact vv (cs:=#[.int .i64 (bA E.ah 5 b.2).1]) (t:=3) (fr:=(0,0)) hnw
  case c2=>simp[Value.oneCell']
  case c3=>omega
  case c4=>unfold maxLen;omega
  case c5=>omega
  case c6=>exact hL.2.2.2.2.size
  intro g5 kE w5 hown hgrow hat hlt;obtain⟨R5,K5⟩:=hL.app (news:=[(bA E.ah 5 b.2).1]) (n:=m3+1) hB (by rw[bN,Pz.out];rfl) hown hgrow hat (by simp) hlt;clear hL hnw hown hgrow hat hlt;generalize hkk:kk3++[(bA E.ah 5 b.2).1]=kk5 at K5;have VO:Hid (kk5.length=m3+1):=ay (by rw[← hkk,bN,Pz.out];rfl);have HK5:=ay hkk;clear hkk;clear K3 K4;have e5:=K5;rw[← HK5.out] at e5;have HNp:=ay (Xa.out R5 _ _ e5.2.2.2.1 e5.node);clear e5 Xa;go_wp2_with (go_at_call 101;refine HNp.out.mono ?_);rintro e w6 ⟨rfl,hq,dn⟩;have K6:=K5.call hq dn;go_wp2
  go_end0
  have e6:=PR.drop K6.2.2.2.1 K6.2.2.1;rw[← HK3.out] at e6;simp only[nQ] at e6 ⊢;exact⟨rfl,e6,K6.2.2.2.2⟩
theorem O9 (s:ByteArray)(d:Nat)(w:World)(hd1:1≤d)(hd2:d≤200)(hs:s.size≤1099511627776)(ah:List Tok)(hl:bO s.data.toList=.ok ah)(hn:ah.length≤100000)
  (a:Int × aJ) (ha:qg ah d (zN ah) ku=some a) (han:a.2.aj.length≤2 * ah.length) (hkl:a.2.fE=0→∀ n∈a.2.aj,n.aA.length≤1000000) :
  Calls Tryz.prog 57 #[.string s,.int .i64 d,.func (.func 58) #[] #[]] w (Ld (EA ah a.2) w):=by
 have hpos:=(iL hl).some
 have HA:Hid (∀ (E:bG) (w:World),E.ah=ah→E.depth=d→E.ok→PW E ku w→Calls Tryz.prog 58 #[.pointer (some ⟨E.pb,0,none⟩)] w (acr E a.2 w)):=ay (fun E w h1 h2 hE hp=>by
  subst h1 h2
  exact O8 E hE (zN E.ah) ku a w ha hp rfl (by omega))
 clear ha;generalize a.2=st at han hkl HA ⊢
 have hnl:st.aj.length≤1000000:=by omega
 clear han
 have HL:Hid (∀ W,Calls Tryz.prog 69 #[.string s] W fun e w'=>(∃ at_ ct,e=.returned (.tuple #[.slice at_ ah.length ct,.agg #[.int .i64 0,.int .i64 0]])∧Rec w'.heap.size w' (.slice at_ ah.length ct) 4 bV ah)∧Below W.heap.size W w'):=ay fun W=>(JI s W hs).mono fun e w' h=>by
  unfold SC at h;rw[hl] at h;obtain⟨h1,v,h2,h3⟩:=h;obtain⟨at_,ct,rfl,_,_⟩:=h3.form (fun _=>rfl);exact⟨⟨at_,ct,h2,h3⟩,h1⟩
 have hal:=(aB w (.cells #[.slice none 0 0,.slice none 0 0] 81)).alloc (by simp) (.cells #[.int .i64 0,.int .i64 0] 71);have e1:=(gY (w.alloc (.cells #[.slice none 0 0,.slice none 0 0] 81)) (.cells #[.int .i64 0,.int .i64 0] 71) w.heap.size (by simp)).trans (aY w (.cells #[.slice none 0 0,.slice none 0 0] 81));have e2:=aY (w.alloc (.cells #[.slice none 0 0,.slice none 0 0] 81)) (.cells #[.int .i64 0,.int .i64 0] 71);rw[oP] at e2
 have afy:¬ ((d:Int)<1):=by omega
 have afz:¬ ((200:Int)<(d:Int)):=by omega
 clear hl;go_enter Tryz.func57,Tryz.ntmps57
 go_upto_region 6 with (go_at_call 69;refine(HL.out _).mono ?_;rintro e w3 ⟨⟨at_,ct,rfl,hrec⟩,hb3⟩;have hz3:=hb3.size)
 rw[oP,oP] at hz3;have G6:=(gY w3 (.cells #[.int .i64 0,.int .i64 0] 71) w.heap.size (by omega)).trans ((hb3.block w.heap.size (by simp;omega)).trans e1);have G7:=(gY w3 (.cells #[.int .i64 0,.int .i64 0] 71) (w.heap.size+1) (by omega)).trans ((hb3.block (w.heap.size+1) (by simp)).trans e2);have hb4:=(hal.trans (hb3.mono (by simp;omega))).alloc (by omega) (.cells #[.int .i64 0,.int .i64 0] 71);have TU:=hrec.below (aB w3 (.cells #[.int .i64 0,.int .i64 0] 71))
 have zF:w3.heap.size≤(w3.alloc (.cells #[.int .i64 0,.int .i64 0] 71)).heap.size:=by simp
 clear hb3 e1 e2 hal HL hrec afy afz;generalize w3.heap.size=B3 at TU zF hz3 ⊢;generalize w3.alloc _=w4 at G6 G7 hb4 TU zF ⊢;have HN:=ay (X8 w4.heap.size _ ah w4 (TU.mono zF) hpos (by omega))
 go_upto_region 7 with (go_at_call 95;refine HN.out.mono ?_;rintro e w5 ⟨bb,B,tv,rfl,hbw,acJ,mM,hb5⟩)
 have ag5:=hbw;obtain⟨hBb,nv0,l0,hbk,_⟩:=ag5;have hblt:=(bS hbk).1;have G65:=(gY w5 (.cells #[.pointer (some ⟨bb,0,none⟩),.int .i64 d,.bool false,.int .i64 0,.int .i64 0] 184) w.heap.size (by have:=hb5.size;have:=(bS G6).1;omega)).trans ((hb5.block w.heap.size (bS G6).1).trans G6);have G75:=(gY w5 (.cells #[.pointer (some ⟨bb,0,none⟩),.int .i64 d,.bool false,.int .i64 0,.int .i64 0] 184) (w.heap.size+1) (by have:=hb5.size;have:=(bS G7).1;omega)).trans ((hb5.block (w.heap.size+1) (bS G7).1).trans G7);have hb6:=(hb4.trans (hb5.mono hb4.size)).alloc (by have:=hb4.size;have:=hb5.size;omega) (.cells #[.pointer (some ⟨bb,0,none⟩),.int .i64 d,.bool false,.int .i64 0,.int .i64 0] 184)
 have hPW:PW ⟨[],B,w5.heap.size,bb,tv,ah,d⟩ ku (w5.alloc (.cells #[.pointer (some ⟨bb,0,none⟩),.int .i64 d,.bool false,.int .i64 0,.int .i64 0] 184)) :=
  ⟨aY _ _,hbw.later (aB _ _),acJ.below ((aB w5 _).mono (by omega)),by show B≤w5.heap.size;omega,lI _,fun r hr=>by cases hr⟩
 have hBw:w.heap.size≤B:=jc hb4.size mM;have HAL:=ay (HA.out ⟨[],B,w5.heap.size,bb,tv,ah,d⟩ _ rfl rfl ⟨hpos,by show ah.length≤_;omega,by show d≤1000;omega⟩ hPW);clear HN HA hbw acJ hb5 hb4 G6 G7 TU hPW hbk;generalize w5.heap.size=pb at HAL ⊢;generalize w5.alloc _=w6 at G65 G75 hb6 HAL ⊢
 go_upto_region 8 with (go_at_call 58;refine HAL.out.mono ?_;rintro e w7 ⟨rfl,GV,Dk⟩)
 have G67:=Dk.2 _ _ _ _ G65 (by decide) (by decide) (by decide);have G77:=Dk.2 _ _ _ _ G75 (by decide) (by decide) (by decide);have wR:Below w.heap.size w w7:=hb6.trans (Dk.1.mono hBw);have HOK:=ay (uE _ st w7 GV);obtain⟨c0,c1,c2,c3,c4,cz⟩:=GV.cells;obtain⟨h1,KO,TV,_⟩:=GV;obtain⟨q0,q1,qz⟩:=pG G67;obtain⟨p0,p1,pz⟩:=iV G77;clear Dk HAL h1 G65 G75 hb6;simp only at c0 c1 c2 c3 c4 KO TV
 by_cases hf:st.fE=0
 ·have hok:okB st=true:=by unfold okB;simp[hf]
  rw[hok] at HOK;have HD:=ay (Z4 _ B bb tv ah st.aj st.used w7 KO TV hpos (by omega) hnl (hkl hf));have HOF:Hid (EA ah st=.good ah st.aj):=ay (by rw[EA,if_pos hf]);clear hok hf KO TV c1 c2 c3 c4 q0 q1 qz p0 p1 pz;rw[HOF.out]
  go_upto_region 10 with (go_at_call 96;refine HOK.out.mono ?_;rintro e w8 ⟨rfl,rfl⟩)
  go_wp2_with (go_at_call 97;refine HD.out.mono ?_;rintro e w9 ⟨v9,rfl,ht9,C8⟩;obtain⟨at9,ct9,an9,cn9,rfl⟩:=ht9.at.slices;have G69:=(C8.block w.heap.size (bS G67).1).trans G67;have G79:=(C8.block (w.heap.size+1) (bS G77).1).trans G77;obtain⟨q0,q1,qz⟩:=pG G69;obtain⟨p0,p1,pz⟩:=iV G79);have T1:=ht9.set G69 (by decide) (by decide) (by decide) 0 (.slice at9 ah.length ct9);have G1:=heap_setCell_same w9 w.heap.size 0 _ _ (.slice at9 ah.length ct9) G69;have T2:=T1.set G1 (by decide) (by decide) (by decide) 1 (.slice an9 st.aj.length cn9)
  have F1:((w9.setCell ⟨w.heap.size,0,none⟩ (.slice at9 ah.length ct9)).setCell ⟨w.heap.size,1,none⟩ (.slice an9 st.aj.length cn9)).heap[w.heap.size+1]?=some (.cells #[.int .i64 0,.int .i64 0] 71 (0,0)):=by
   rw[heap_setCell_other _ _ _ _ (by show w.heap.size+1≠w.heap.size;omega),heap_setCell_other _ _ _ _ (by show w.heap.size+1≠w.heap.size;omega)];exact G79
  have T3:=T2.set F1 (by decide) (by decide) (by decide) 0 (.int .i64 0);have F2:=heap_setCell_same _ (w.heap.size+1) 0 _ _ (.int .i64 0) F1;have T4:=T3.set F2 (by decide) (by decide) (by decide) 1 (.int .i64 0);have adw:=wR.trans (C8.mono wR.size);refine bodyPost_ret (v:=.tuple #[.agg #[.slice at9 ah.length ct9,.slice an9 st.aj.length cn9],.agg #[.int .i64 0,.int .i64 0]]) (by simp[results,Tryz.results57,go_sem,q0,q1,p0,p1]) rfl ?_;rw[HOF.out];exact⟨(((adw.setCell (by simp) _).setCell (by simp) _).setCell (by simp) _).setCell (by simp) _,at9,ct9,an9,cn9,rfl,T4⟩
 ·have hok:okB st=false:=by unfold okB;simp[hf]
  rw[hok] at HOK;have HOF:Hid (EA ah st=.bad st.fE st.fAt):=ay (by rw[EA,if_neg hf]);clear hok hf KO TV c1 c2 hkl hnl
  go_upto_region 9 with (go_at_call 96;refine HOK.out.mono ?_;rintro e w8 ⟨rfl,rfl⟩)
  go_region
  go_wp2;refine bodyPost_ret (v:=.tuple #[.agg #[.slice none 0 0,.slice none 0 0],.agg #[.int .i64 st.fE,.int .i64 st.fAt]]) (by simp[results,Tryz.results57,go_sem,q0,q1,p0,p1]) rfl ?_;rw[HOF.out];exact⟨((((wR.setCell (by simp) _).setCell (by simp) _).setCell (by simp) _).setCell (by simp) _).drew,rfl⟩
theorem Wx (s:ByteArray)(d:Nat)(w:World)(hd1:1≤d)(hd2:d≤200)(hs:s.size≤1099511627776) :
  Calls Tryz.prog 57 #[.string s,.int .i64 d,.func (.func 58) #[] #[]] w (Ld (je s.data.toList d) w):=by
 cases hl:bO s.data.toList with
 | error x =>
  have hf:=(qj hl).2
  have e:je s.data.toList d=.bad x.1 x.2:=by rw[je,hl]
  rw[e];exact O4 s d _ w hd1 hd2 hs x.1 x.2 hl (by omega)
 | ok ah =>
  have hL:=iL hl
  have hlen:ah.length≤65537:=by
   have h1:=hL.count;unfold bO at hl
   split at hl
   ·cases hl
   ·omega
  obtain⟨a,ha⟩:=Cm hL.Yg d ku;have h3:=IY ha;have h4:=IU ha (lI _);unfold mR at h3;simp only[ku,gX] at h3
  have e:je s.data.toList d=EA ah a.2:=by
   rw[je,hl];simp only;rw[ha]
  rw[e]
  refine O9 s d w hd1 hd2 hs ah hl (by omega) a ha (by omega) fun hf n hm=>?_
  obtain⟨q,he,_⟩:=Td hL ha hf
  have g1:a.2.aj.length=q.pt.nd:=by rw[he,PT.uq]
  rw[he] at hm;have:=J9 _ _ _ n hm;omega
theorem xB (s:ByteArray)(d:Nat)(w:World)(hd1:1≤d)(hd2:d≤200)(hs:s.size≤1099511627776) :
  Calls Tryz.prog 30 #[.string s,.int .i64 d] w (Ld (je s.data.toList d) w):=by
 have HR:=ay (fun W=>Wx s d W hd1 hd2 hs);have hal:=(aB w (.cells #[.slice none 0 0,.slice none 0 0] 81)).alloc (by simp) (.cells #[.int .i64 0,.int .i64 0] 71);have e1:=(gY (w.alloc (.cells #[.slice none 0 0,.slice none 0 0] 81)) (.cells #[.int .i64 0,.int .i64 0] 71) w.heap.size (by simp)).trans (aY w (.cells #[.slice none 0 0,.slice none 0 0] 81));have e2:=aY (w.alloc (.cells #[.slice none 0 0,.slice none 0 0] 81)) (.cells #[.int .i64 0,.int .i64 0] 71);rw[oP] at e2
 have HB:Hid (∀ w9,Below ((w.alloc (.cells #[.slice none 0 0,.slice none 0 0] 81)).alloc (.cells #[.int .i64 0,.int .i64 0] 71)).heap.size ((w.alloc (.cells #[.slice none 0 0,.slice none 0 0] 81)).alloc (.cells #[.int .i64 0,.int .i64 0] 71)) w9→Below w.heap.size w w9∧w9.heap[w.heap.size]?=some (.cells #[.slice none 0 0,.slice none 0 0] 81 (0,0))∧w9.heap[w.heap.size+1]?=some (.cells #[.int .i64 0,.int .i64 0] 71 (0,0))):=ay fun w9 hb=>⟨hal.trans (hb.mono (by simp;omega)),(hb.block w.heap.size (by simp;omega)).trans e1,(hb.block (w.heap.size+1) (by simp)).trans e2⟩
 clear hal e1 e2;generalize je s.data.toList d=r at HR ⊢;go_enter Tryz.func30,Tryz.ntmps30
 cases r with
 | bad c a =>
  go_wp2_with (go_at_call 57;refine(HR.out _).mono ?_;rintro e w9 ⟨C8,rfl⟩;obtain⟨hb,G6,G7⟩:=HB.out w9 C8;obtain⟨q0,q1,qz⟩:=pG G6;obtain⟨p0,p1,pz⟩:=iV G7);refine bodyPost_ret (v:=.tuple #[.agg #[.slice none 0 0,.slice none 0 0],.agg #[.int .i64 c,.int .i64 a]]) (by simp[results,Tryz.results30,go_sem,q0,q1,p0,p1]) rfl ?_;exact⟨(((hb.setCell (by simp) _).setCell (by simp) _).setCell (by simp) _).setCell (by simp) _,rfl⟩
 | good ah aj =>
  go_wp2_with (go_at_call 57;refine(HR.out _).mono ?_;rintro e w9 ⟨C8,at9,ct9,an9,cn9,rfl,ht9⟩;obtain⟨hb,G69,G79⟩:=HB.out w9 C8;obtain⟨q0,q1,qz⟩:=pG G69;obtain⟨p0,p1,pz⟩:=iV G79);have T1:=ht9.set G69 (by decide) (by decide) (by decide) 0 (.slice at9 ah.length ct9);have G1:=heap_setCell_same w9 w.heap.size 0 _ _ (.slice at9 ah.length ct9) G69;have T2:=T1.set G1 (by decide) (by decide) (by decide) 1 (.slice an9 aj.length cn9)
  have F1:((w9.setCell ⟨w.heap.size,0,none⟩ (.slice at9 ah.length ct9)).setCell ⟨w.heap.size,1,none⟩ (.slice an9 aj.length cn9)).heap[w.heap.size+1]?=some (.cells #[.int .i64 0,.int .i64 0] 71 (0,0)):=by
   rw[heap_setCell_other _ _ _ _ (by show w.heap.size+1≠w.heap.size;omega),heap_setCell_other _ _ _ _ (by show w.heap.size+1≠w.heap.size;omega)];exact G79
  have T3:=T2.set F1 (by decide) (by decide) (by decide) 0 (.int .i64 0);have F2:=heap_setCell_same _ (w.heap.size+1) 0 _ _ (.int .i64 0) F1;have T4:=T3.set F2 (by decide) (by decide) (by decide) 1 (.int .i64 0);refine bodyPost_ret (v:=.tuple #[.agg #[.slice at9 ah.length ct9,.slice an9 aj.length cn9],.agg #[.int .i64 0,.int .i64 0]]) (by simp[results,Tryz.results30,go_sem,q0,q1,p0,p1]) rfl ?_;exact⟨(((hb.setCell (by simp) _).setCell (by simp) _).setCell (by simp) _).setCell (by simp) _,at9,ct9,an9,cn9,rfl,T4⟩
theorem aaH (B:Nat)(w:World)(sz:Nat):Sl B w (.slice none 0 0) sz 0 []:=⟨none,0,rfl,bD _,by simp,fun h=>absurd h (by omega)⟩
theorem ab8 (w:World):aZ 0 w (.agg #[.slice none 0 0,.slice none 0 0]) [] []:=⟨_,_,[],rfl,aaH _ _ _,rfl,aaH _ _ _,fun p hp=>by cases hp⟩
theorem Wy {ah:List Tok}{aj:List Nd}{D:List UInt8}(G:Cw ah aj D)(B:Nat)(tv nv:Value)(w:World)(h:aZ B w (.agg #[tv,nv]) ah aj)(hB:B≤w.heap.size) :
  Calls Tryz.prog 170 #[.agg #[tv,nv],.int .i64 ((aj.length:Int) - 1)] w fun e w'=>e=.returned (.int .i64 0)∧Below w.heap.size w w':=by
 have hR:=fun W (hW:Below w.heap.size w W)=>Jd B tv nv ah aj (vG 0 ah.length) (aj.length+1) W (h.below (hW.mono hB)) (jc hB hW.size) G.few G.aA (fun _ _ _ _=>G.leaves) (by simp[vG];have:=G.Vr;omega) (by have:=G.Vr;omega)
 rw[G.right] at hR;have hp:=G.pos;have hf:=G.few;obtain⟨at_,ct,an,cn,hv⟩:=h.slices;simp only[Value.agg.injEq,Array.mk.injEq,List.cons.injEq,and_true] at hv;obtain⟨rfl,rfl⟩:=hv
 have hI1:((aj.length:Int) - 1)<(aj.length:Int):=by omega
 have hI0:0≤((aj.length:Int) - 1):=by omega
 have HR:=ay hR;have hbb:=(bI w.heap.size w).alloc (bD _) (.cells #[.slice at_ ah.length ct,.slice an aj.length cn] 81);have e1:=aY w (.cells #[.slice at_ ah.length ct,.slice an aj.length cn] 81);clear h G hR;go_enter Tryz.func170,Tryz.ntmps170
 go_upto_region 3 with (go_at_call 233;refine(HR.out _ hbb).mono ?_;rintro e w3 ⟨rfl,hb3⟩)
 have T3:=(hb3.block w.heap.size (by simp)).trans e1;obtain⟨c0,c1⟩:=bW T3;have hb4:=hbb.trans (hb3.mono (by simp));clear hb3 e1 T3 HR hbb;go_wp2;go_ret;exact⟨rfl,hb4⟩
theorem aaI (n:Int)(w:World) :
  Calls Tryz.prog 170 #[.agg #[.slice none 0 0,.slice none 0 0],.int .i64 n] w fun e w'=>e=.returned (.int .i64 10)∧Below w.heap.size w w':=by
 have hT:∀ W:World,aZ 0 W (.agg #[.slice none 0 0,.slice none 0 0]) [] []:=ab8
 have hR:=fun W=>Jd 0 (.slice none 0 0) (.slice none 0 0) [] [] [] 0 W (hT W) (lI _) (by decide) (fun n hn=>by cases hn) (fun mV hk h0 _=>absurd (by
  rw[qE,nA] at hk
  injection hk with hk
  rw[← hk]
  rfl) h0) (by decide) (by decide)
 have e:lU ([]:List Tok).length [] []=false:=by decide
 rw[e] at hR;have HR:=ay hR;have hbb:=(bI w.heap.size w).alloc (bD _) (.cells #[.slice none 0 0,.slice none 0 0] 81);clear hT hR e;go_enter Tryz.func170,Tryz.ntmps170;go_wp2_with (go_at_call 233;refine(HR.out _).mono ?_;rintro e w3 ⟨rfl,hb3⟩);go_ret;exact⟨rfl,hbb.trans (hb3.mono (by simp))⟩
theorem ab9 (n:Int)(w:World) :
  Calls Tryz.prog 103 #[.agg #[.slice none 0 0,.slice none 0 0],.int .i64 n] w fun e w'=>e=.returned (.tuple #[.string ⟨#[]⟩,.int .i64 10])∧Below w.heap.size w w':=by
 have HR:=ay (fun W=>aaI n W);have hbb:=(bI w.heap.size w).alloc (bD _) (.cells #[.slice none 0 0,.slice none 0 0] 81);go_enter Tryz.func103,Tryz.ntmps103;go_wp2_with (go_at_call 170;refine(HR.out _).mono ?_;rintro e w3 ⟨rfl,hb3⟩);go_ret2;exact⟨rfl,hbb.trans (hb3.mono (by simp))⟩
theorem Pb {ah:List Tok}{aj:List Nd}{D:List UInt8}(G:Cw ah aj D)(B:Nat)(tv nv:Value)(w:World)(h:aZ B w (.agg #[tv,nv]) ah aj)(hB:B≤w.heap.size) :
  Calls Tryz.prog 103 #[.agg #[tv,nv],.int .i64 ((aj.length:Int) - 1)] w fun e w'=>e=.returned (.tuple #[.string ⟨D.toArray⟩,.int .i64 0])∧Below w.heap.size w w':=by
 have HR:=ay (fun W (hW:Below w.heap.size w W)=>Wy G B tv nv W (h.below (hW.mono hB)) (jc hB hW.size));have hdl:=G.agf;have HD:=ay (fun W (hW:Below w.heap.size w W)=>Je G B W.heap.size W.heap.size tv nv aj.length ((aj.length:Int) - 1) D [] (W.alloc (.cells #[.pointer none,.slice none 0 0] 149)) (h.below ((hW.alloc hW.size _).mono hB)) (jc hB hW.size) (jY.fresh W) (by simp) G.dump (by rw[gX];omega));obtain⟨at_,ct,an,cn,hv⟩:=h.slices;simp only[Value.agg.injEq,Array.mk.injEq,List.cons.injEq,and_true] at hv;obtain⟨rfl,rfl⟩:=hv;have hbb:=(bI w.heap.size w).alloc (bD _) (.cells #[.slice at_ ah.length ct,.slice an aj.length cn] 81);have e1:=aY w (.cells #[.slice at_ ah.length ct,.slice an aj.length cn] 81);clear h G;go_enter Tryz.func103,Tryz.ntmps103
 go_upto_region 4 with (go_at_call 170;refine(HR.out _ hbb).mono ?_;rintro e w3 ⟨rfl,hb3⟩)
 have T3:=(hb3.block w.heap.size (by simp)).trans e1;have hb4:=hbb.trans (hb3.mono (by simp));have HD3:=ay (HD.out w3 hb4);have T4:=(gY w3 (.cells #[.pointer none,.slice none 0 0] 149) w.heap.size (bS T3).1).trans T3;have hb5:=hb4.alloc hb4.size (.cells #[.pointer none,.slice none 0 0] 149);obtain⟨c0,c1⟩:=bW T4;have hz3:=hb4.size;clear hb3 e1 T3 T4 HR hbb HD;go_wp2_with (first|(go_at_call 171;refine HD3.out.mono ?_;rintro e w6 ⟨rfl,afI,hl6,ho6⟩;rw[qc] at afI;have hz6:=hl6.size;simp only[oP] at hz6)|(go_at_call 72;refine(Ci w3.heap.size w3.heap.size D _ afI (by omega)).mono ?_;rintro e w7 ⟨rfl,ah2,hl7,ho7⟩));go_ret2;exact⟨rfl,hb5.trans ((hl6.mono hz3).trans (hl7.mono hz3))⟩
theorem Pf (B:Nat)(tv nv:Value)(ah:List Tok)(w:World)(hl:ah.length≤1099511627776)(hn:gT ah ah.length≤1099511627776)(h:Rec B w tv 4 bV ah)(hB:B≤w.heap.size) :
  Calls Tryz.prog 104 #[.agg #[tv,nv]] w fun e w'=>e=.returned (.string ⟨(iy ah).toArray⟩)∧Below w.heap.size w w':=by
 have HW:=ay (fun W (hW:Below w.heap.size w W)=>UE tv ah W hl hn ((h.below (hW.mono hB)).mono (jc hB hW.size)));obtain⟨X,hX,eX⟩:=jq (iy ah);rw[eX] at HW ⊢;have hbb:=(bI w.heap.size w).alloc (bD _) (.cells #[tv,nv] 81);clear h;go_enter Tryz.func104,Tryz.ntmps104;go_wp2_with (go_at_call 172;refine(HW.out _ hbb).mono ?_;rintro e w3 ⟨rfl,hb3⟩);go_ret;exact⟨rfl,hbb.trans (hb3.mono (by simp))⟩
theorem uf (at_:Option Addr)(nt ct:Nat)(an:Option Addr)(n cn:Nat)(w:World)(hn:n≤1099511627776) :
  Calls Tryz.prog 60 #[.agg #[.slice at_ nt ct,.slice an n cn]] w fun e w'=>e=.returned (.int .i64 ((n:Int) - 1))∧Below w.heap.size w w':=Mw _ an n cn w hn
theorem acd (B:Nat)(at_:Option Addr)(ct:Nat)(an:Option Addr)(cn:Nat)(S:ByteArray)(ah:List Tok)(aj:List Nd)(D:List UInt8)(w:World)(h:aZ B w (.agg #[.slice at_ ah.length ct,.slice an aj.length cn]) ah aj)(hB:B≤w.heap.size)
  (G:Cw ah aj D) (hS:S.size≤65536) (hw:iy ah=S.data.toList) (hf:je S.data.toList 200=.good ah aj) :
  Calls Tryz.prog 59 #[.agg #[.slice at_ ah.length ct,.slice an aj.length cn],.func (.func 30) #[] #[]] w fun e w'=>e=.returned (.bool true)∧Below w.heap.size w w':=by
 have hft:=G.Vr;have hfn:=G.few;obtain⟨XD,hXD,eX⟩:=jq D
 have Jv:Hid (∀ (B:Nat) (at_:Option Addr) (ct:Nat) (an:Option Addr) (cn:Nat) (W:World),aZ B W (.agg #[.slice at_ ah.length ct,.slice an aj.length cn]) ah aj→B≤W.heap.size→Calls Tryz.prog 103 #[.agg #[.slice at_ ah.length ct,.slice an aj.length cn],.int .i64 ((aj.length:Int) - 1)] W fun e w'=>e=.returned (.tuple #[.string XD,.int .i64 0])∧Below W.heap.size W w') :=
  ay fun B at_ ct an cn W hT hBW=>(Pb G B _ _ W hT hBW).mono fun e w' h=>⟨by rw[h.1,eX],h.2⟩
 have hlen:gT ah ah.length≤1099511627776:=by
  rw[← Eh,hw,aR];omega
 have eS:ByteArray.mk (S.data.toList).toArray=S:=by cases S;simp
 have Pg:Hid (∀ W,Below w.heap.size w W→Calls Tryz.prog 104 #[.agg #[.slice at_ ah.length ct,.slice an aj.length cn]] W fun e w'=>e=.returned (.string S)∧Below W.heap.size W w'):=ay fun W hW=>by
  obtain⟨tv',nv',l,e1,e2,_⟩:=h.below (hW.mono hB);simp only[Value.agg.injEq,Array.mk.injEq,List.cons.injEq,and_true] at e1;obtain⟨rfl,rfl⟩:=e1;have:=Pf B (.slice at_ ah.length ct) (.slice an aj.length cn) ah W (by omega) hlen e2 (jc hB hW.size);rw[hw,eS] at this;exact this
 have Am:=ay (fun W=>xB S 200 W (by omega) (by omega) (by omega));rw[hf] at Am;have HT:=ay h;have hal:=aB w (.cells #[.slice at_ ah.length ct,.slice an aj.length cn] 81);have e1:=aY w (.cells #[.slice at_ ah.length ct,.slice an aj.length cn] 81);clear h G hf hw hXD eX eS hlen;go_enter Tryz.func59,Tryz.ntmps59
 go_upto_region 1 with fail
 generalize w.alloc _=w1 at hal e1 ⊢;obtain⟨c0,c1⟩:=bW e1;have hl1:=(bS e1).1
 go_cut [5,6] (fun a e wx=>a=.string XD∧e=.int .i64 0∧wx.heap[w.heap.size]?=some (.cells #[.slice at_ ah.length ct,.slice an aj.length cn] 81 (0,0))∧Below w.heap.size w wx)
 case first =>
  go_region_with (first|(go_at_call 60;refine(uf at_ ah.length ct an aj.length cn _ (by omega)).mono ?_;rintro e w5 ⟨rfl,hb5⟩;have d0:=(hb5.cell (p:=⟨w.heap.size,0,none⟩) hl1).trans c0;have d1:=(hb5.cell (p:=⟨w.heap.size,1,none⟩) hl1).trans c1)|(go_at_call 103;refine(Jv.out B at_ ct an cn _ (HT.out.below ((hal.drew.trans (hb5.mono hal.size)).mono hB)) (jc hB (hal.drew.trans (hb5.mono hal.size)).size)).mono ?_;rintro e w6 ⟨rfl,hb6⟩))
  all_goals
   have sD:=hal.drew.trans (hb5.mono hal.size);have T6:=(hb6.block w.heap.size (Nat.lt_of_lt_of_le hl1 hb5.size)).trans ((hb5.block w.heap.size hl1).trans e1);go_wp2_with fail
   go_meet
   exact⟨rfl,rfl,T6,sD.trans (hb6.mono sD.size)⟩
 case rest =>
  obtain⟨rfl,rfl,hT,hbc⟩:=hcut;clear hal e1 c0 c1 hl1 w1
  obtain⟨wo,rfl⟩:∃ wo:World,wo=wc:=⟨_,rfl⟩
  obtain⟨c0,c1⟩:=bW hT
  go_upto_region 3 with (first|(go_at_call 104;refine(Pg.out _ hbc).mono ?_;rintro e w7 ⟨rfl,wR⟩)|(go_at_call 30;refine(Am.out _).mono ?_;rintro e w8 ⟨mU,a8,c8,b8,d8,rfl,ht8⟩))
  have Sd:=(hbc.trans (wR.mono hbc.size))
  have Lg:=Sd.trans (mU.mono Sd.size);have hT8:=(mU.block w.heap.size (Nat.lt_of_lt_of_le (bS hT).1 wR.size)).trans ((wR.block w.heap.size (bS hT).1).trans hT);have yE:=(bS hT8).1;have vk:=(aB w8 (.cells #[.slice a8 ah.length c8,.slice b8 aj.length d8] 81)).alloc (by simp) (.cells #[.int .i64 0,.int .i64 0] 71);have hT9:=(vk.block w.heap.size yE).trans hT8;have Xb:=(gY (w8.alloc (.cells #[.slice a8 ah.length c8,.slice b8 aj.length d8] 81)) (.cells #[.int .i64 0,.int .i64 0] 71) w8.heap.size (by simp)).trans (aY w8 (.cells #[.slice a8 ah.length c8,.slice b8 aj.length d8] 81));have hF9:=aY (w8.alloc (.cells #[.slice a8 ah.length c8,.slice b8 aj.length d8] 81)) (.cells #[.int .i64 0,.int .i64 0] 71);rw[oP] at hF9;have hU:=ay (ht8.at.below vk);have C8:=Lg.trans (vk.mono Lg.size);have hz9:=vk.size;clear wR mU hT8 vk ht8 Sd hT hbc c0 c1 Pg Am;generalize w8.heap.size=ub at Xb hF9 hU hz9 yE Lg ⊢;generalize (w8.alloc _).alloc _=w9 at hT9 Xb hF9 hU C8 hz9 ⊢;obtain⟨c0,c1⟩:=bW Xb;have hl9:=(bS Xb).1;have hlT:=(bS hT9).1;have hlF:=(bS hF9).1
  go_cut [9,10] (fun a e wx=>a=.string XD∧e=.int .i64 0∧Below w9.heap.size w9 wx)
  case first =>
   go_region_with (first|(go_at_call 60;refine(uf a8 ah.length c8 b8 aj.length d8 _ (by omega)).mono ?_;rintro e w5 ⟨rfl,hb5⟩;have d0:=(hb5.cell (p:=⟨ub,0,none⟩) hl9).trans c0;have d1:=(hb5.cell (p:=⟨ub,1,none⟩) hl9).trans c1)|(go_at_call 103;refine(Jv.out ub a8 c8 b8 d8 _ (hU.out.below (((bI w9.heap.size w9).drew.trans hb5).mono hz9)) (jc hz9 hb5.size)).mono ?_;rintro e w6 ⟨rfl,hb6⟩))
   all_goals
    have sD:=(bI w9.heap.size w9).drew.trans hb5;go_wp2_with fail
    go_meet
    exact⟨rfl,rfl,sD.trans (hb6.mono sD.size)⟩
  case rest =>
   obtain⟨rfl,rfl,hbc⟩:=hcut;have hTc:=(hbc.block _ hlT).trans hT9;have hUc:=(hbc.block _ hl9).trans Xb;have hFc:=(hbc.block _ hlF).trans hF9;have HU:=ay (hU.out.below (hbc.mono hz9));have hbw:Below w.heap.size w wc:=C8.trans (hbc.mono C8.size);have HT2:=ay (HT.out.below (hbw.mono hB));clear hT9 Xb hF9 hU C8 hz9 yE Lg c0 c1 hl9 hlT hlF hbc Jv HT
   obtain⟨wo,rfl⟩:∃ wo:World,wo=wc:=⟨_,rfl⟩
   obtain⟨c0,c1⟩:=bW hTc;obtain⟨u0,u1⟩:=bW hUc;obtain⟨f0,f1,_⟩:=iV hFc;have hlU:=(bS hUc).1;have hzo:=hbw.size;go_wp2;clear c0 c1 u0 u1 f0 f1
   go_loopw [58] (fun q wr=>∃ k:Nat,k≤ah.length∧q=.int .i64 k∧Below wo.heap.size wo wr) (fun q _=>ah.length - (intOf q).toNat)
   case atStart=>exact⟨0,lI _,rfl,bI _ _⟩
   case round =>
    obtain⟨k,hk,rfl,hbl⟩:=hrel;have hwz:=hbl.size
    by_cases hlt:k<ah.length
    ·obtain⟨b1,o1,afH,ev,hb1,t0,t1,t2,t3⟩:=HT2.out.tok hlt
     simp only[Value.slice.injEq] at ev;obtain⟨rfl,-,rfl⟩:=ev;obtain⟨b2,o2,cap2,ev,hb2,s0,s1,s2,s3⟩:=HU.out.tok hlt;simp only[Value.slice.injEq] at ev;obtain⟨rfl,-,rfl⟩:=ev;have x0:=(hbl.cell (p:=⟨b1,o1+k * 4,none⟩) (by show b1<_;omega)).trans t0;have x1:=(hbl.cell (p:=⟨b1,o1+k * 4+1,none⟩) (by show b1<_;omega)).trans t1;have x2:=(hbl.cell (p:=⟨b1,o1+k * 4+2,none⟩) (by show b1<_;omega)).trans t2;have x3:=(hbl.cell (p:=⟨b1,o1+k * 4+3,none⟩) (by show b1<_;omega)).trans t3;generalize ah[k]=tk at x0 x1 x2 x3 s0 s1 s2 s3;simp only[dJ] at x1 x2 s1 s2;have hal:=aB wr (.cells #[.int .i64 tk.kind,.string ⟨tk.lead.toArray⟩,.string ⟨tk.text.toArray⟩,.int .i64 tk.place] 131);have hba:=hbl.trans (hal.mono hwz);have y0:=(hba.cell (p:=⟨b2,o2+k * 4,none⟩) (by show b2<_;omega)).trans s0;have y1:=(hba.cell (p:=⟨b2,o2+k * 4+1,none⟩) (by show b2<_;omega)).trans s1;have y2:=(hba.cell (p:=⟨b2,o2+k * 4+2,none⟩) (by show b2<_;omega)).trans s2;have y3:=(hba.cell (p:=⟨b2,o2+k * 4+3,none⟩) (by show b2<_;omega)).trans s3;have U2:=(hba.block ub hlU).trans hUc;have N2:=aY wr (.cells #[.int .i64 tk.kind,.string ⟨tk.lead.toArray⟩,.string ⟨tk.text.toArray⟩,.int .i64 tk.place] 131)
     have pR:(k:Int)<(ah.length:Int):=by omega
     clear t0 t1 t2 t3 s0 s1 s2 s3 hal
     go_upto_region 9 with fail
     clear x0 x1 x2 x3;generalize wr.heap.size=nb at N2 ⊢;generalize wr.alloc _=w2 at hba y0 y1 y2 y3 U2 N2 ⊢;obtain⟨d0,d1⟩:=bW U2
     have n0:w2.cell? ⟨nb,0,none⟩=some (.int .i64 tk.kind):=by rw[aV N2];rfl
     have n1:w2.cell? ⟨nb,1,none⟩=some (.string ⟨tk.lead.toArray⟩):=by rw[aV N2];rfl
     have n2:w2.cell? ⟨nb,2,none⟩=some (.string ⟨tk.text.toArray⟩):=by rw[aV N2];rfl
     have n3:w2.cell? ⟨nb,3,none⟩=some (.int .i64 tk.place):=by rw[aV N2];rfl
     clear N2 U2
     go_quiet (fail)
     go_wp2
     go_roundw
     case rel=>exact⟨k+1,by omega,by go_num,⟨hba.os,hba.tape,hba.output,hba.size,hba.block⟩⟩
     case measure=>simp[intOf];omega
    ·obtain rfl:k=ah.length:=by omega
     have pR:decide ((ah.length:Int)<(ah.length:Int))=false:=dA (by omega);go_wp2;go_ret;exact⟨rfl,hbw.trans (hbl.mono hzo)⟩
theorem Tryz.Sg:(Tryz.prog.info? 91).map (fun i=>(i.zero,i.size,i.bytes))=some (some (.agg #[.string ⟨#[]⟩,.int .i64 0]),2,24):=by kernel_rfl
theorem Tryz.ace:(Tryz.prog.info? 66).map (fun i=>(i.zero,i.size,i.bytes))=some (some (.agg #[.bool false,.string ⟨#[]⟩,.slice none 0 0,.int .i64 0,.slice none 0 0,.int .i64 0,.string ⟨#[]⟩,.string ⟨#[]⟩,.bool false,.slice none 0 0,.bool false,.slice none 0 0,.int .i64 0,.int .i64 0,.int .i64 0]),15,208):=by kernel_rfl
theorem Tryz.Wz:∀ args w,(callFunc 62 args).run Tryz.prog w=.ok (.enter 62 args) w:=Go.Proofs.enters_of Tryz.func62 (by kernel_rfl) rfl
theorem aU {w:World}{b:Nat}{c0 c1:Value}(h:w.heap[b]?=some (.cells #[c0,c1] 26 (0,0))):w.cell? ⟨b,0,none⟩=some c0∧w.cell? ⟨b,1,none⟩=some c1∧∀ j,w.frozen? ⟨b,j,none⟩=false:=by
 refine⟨?_,?_,fun j=>by simp[World.frozen?,h]⟩<;>(rw[aV h];rfl)
theorem acf {aj:List Nd}{m u:Nat}(h:oo aj m u vZ):∃ (k0 k1 k2:Nat),aj[m]?=some ⟨(2:Nat),-1,[(k0:Int),k1,k2]⟩∧aj[k1]?=some ⟨19,((u+1:Nat):Int),[]⟩:=by
 obtain⟨ks,h1,h2⟩:=fu h;obtain⟨k0,ks0,rfl,_,h3⟩:=bY h2;obtain⟨k1,ks1,rfl,h4,h5⟩:=bY h3;obtain⟨k2,ks2,rfl,_,h6⟩:=bY h5;rw[fJ] at h6;subst h6;exact⟨k0,k1,k2,h1,h4⟩
theorem adV (B:Nat)(at_:Option Addr)(ct:Nat)(an:Option Addr)(cn:Nat)(S:ByteArray)(ah:List Tok)(aj:List Nd)(p:kW)(w:World)(h:aZ B w (.agg #[.slice at_ ah.length ct,.slice an aj.length cn]) ah aj)(hB:B≤w.heap.size)(F:nY S.data.toList ah aj p) :
  Calls Tryz.prog 31 #[.agg #[.slice at_ ah.length ct,.slice an aj.length cn]] w (ZM (p.pp ah) w):=by
 obtain⟨ii,hii1,hii2,ag6,ag7⟩:=info_parts Tryz.Sg;obtain⟨id,ag8,ag9,aha,ahb⟩:=info_parts Tryz.ace;have ent:=Tryz.Wz;have hft:=F.good.Vr;have hfn:=F.good.few;obtain⟨r,ks,hr1,hn,hk⟩:=Wj F;obtain⟨hlen,hat⟩:=TI _ _ _ hk;have HAT:=ay hat;have hkl:=p.Zk;rw[← hlen] at hkl;have HKN:=ay hkl
 have ahj:0<ks.length:=by omega
 clear hkl;have HKL:=ay hlen;have HLV:Hid (bU p.aA=ah.length):=ay F.lv;have E:=adI F B (.slice at_ ah.length ct) (.slice an aj.length cn);have HA:=ay (fun W (hW:Below w.heap.size w W)=>acd B at_ ct an cn S ah aj _ W (h.below (hW.mono hB)) (jc hB hW.size) F.good (by have:=F.small;rw[aR] at this;exact this) F.whole F.deep);have BD:Hid (∀ (d:dU) (u:Nat),d.ok ah u→u+d.pt.lv≤ah.length→∀ (m:Nat) (W:World),oo aj m u d.pt→aZ B W (.agg #[.slice at_ ah.length ct,.slice an aj.length cn]) ah aj→B≤W.heap.size→Calls Tryz.prog 62 #[.agg #[.slice at_ ah.length ct,.slice an aj.length cn],.int .i64 m] W (ZG (d.dd ah u) W)):=ay (fun d u ho hl m W hr hT hW=>ZH E d u ho hl m W hr hT hW)
 have Wh:Hid (∀ (k u:Nat) (W:World),aj[k]?=some ⟨19,(u:Nat),[]⟩→u<ah.length→aZ B W (.agg #[.slice at_ ah.length ct,.slice an aj.length cn]) ah aj→B≤W.heap.size→Calls Tryz.prog 61 #[.agg #[.slice at_ ah.length ct,.slice an aj.length cn],.int .i64 k] W fun e w'=>e=.returned (pQ (dh ah u))∧Below W.heap.size W w'):=ay (fun k u W hl hu hT hW=>by
  have:=kF B _ _ ah aj k u W hT hW hl hu;have e:=jC hu;rw[yV hu] at e;rw[kR e] at this
  exact this)
 have HOK:=ay F.okk;have ah3:=F.okk.1;have ah4:=F.okk.2.1;have HPI:Hid ((p.pp ah).aG.length=p.imps):=ay (yN _ _ _);have HPD:Hid ((p.pp ah).defs.length=p.defs.length):=ay (yM _ _ _)
 have HIG:Hid (∀ (j:Nat) (hj:j<(p.pp ah).aG.length),(p.pp ah).aG[j]=(aN ah (3 * j+1),dS ah (3 * j+1))):=ay (fun j hj=>by
  have:=FJ ah p.imps 0 j hj;rw[Nat.zero_add] at this
  exact this)
 have HDG:Hid (∀ (j:Nat) (h1:j<p.defs.length) (h2:j<(p.pp ah).defs.length),(p.pp ah).defs[j]=p.defs[j].dd ah (3 * p.imps+bU ((p.defs.take j).map dU.pt))):=ay (fun j h1 h2=>FL ah p.defs (3 * p.imps) j h1 h2);generalize p.pp ah=pp at HPI HPD HIG HDG ⊢;have HT:=ay h;have HN:=ay hn;have HR1:=ay hr1;have hal:=(aB w (.cells #[.slice at_ ah.length ct,.slice an aj.length cn] 81)).alloc (by simp) (.cells #[.slice none 0 0,.slice none 0 0] 26);have e1:=(gY (w.alloc (.cells #[.slice at_ ah.length ct,.slice an aj.length cn] 81)) (.cells #[.slice none 0 0,.slice none 0 0] 26) w.heap.size (by simp)).trans (aY w (.cells #[.slice at_ ah.length ct,.slice an aj.length cn] 81));have e2:=aY (w.alloc (.cells #[.slice at_ ah.length ct,.slice an aj.length cn] 81)) (.cells #[.slice none 0 0,.slice none 0 0] 26);rw[oP] at e2;obtain⟨c0,c1⟩:=bW e1;clear h F hn hr1 hk hat hlen E;go_enter Tryz.func31,Tryz.ntmps31
 go_upto_region 3 with (go_at_call 59;refine(HA.out _ hal).mono ?_;rintro e w3 ⟨rfl,hb3⟩)
 have E1:=(hb3.block w.heap.size (by simp;omega)).trans e1;have E2:=(hb3.block (w.heap.size+1) (by simp)).trans e2;have hb4:=hal.trans (hb3.mono (by simp;omega));have zF:=hb4.size;have hl2:=(bS E2).1;obtain⟨c0,c1⟩:=bW E1;clear hb3 e1 e2 hal HA
 go_upto_region 5 with fail
 have hb5:=(hb4.alloc zF (.cells #[.slice at_ ah.length ct,.slice an aj.length cn] 126)).alloc (by simp;omega) (.cells #[.slice none 0 0,.slice none 0 0] 26);have G1:=(gY (w3.alloc (.cells #[.slice at_ ah.length ct,.slice an aj.length cn] 126)) (.cells #[.slice none 0 0,.slice none 0 0] 26) w.heap.size (by simp;omega)).trans ((gY w3 (.cells #[.slice at_ ah.length ct,.slice an aj.length cn] 126) w.heap.size (by omega)).trans E1);have G2:=(gY (w3.alloc (.cells #[.slice at_ ah.length ct,.slice an aj.length cn] 126)) (.cells #[.slice none 0 0,.slice none 0 0] 26) (w.heap.size+1) (by simp;omega)).trans ((gY w3 (.cells #[.slice at_ ah.length ct,.slice an aj.length cn] 126) (w.heap.size+1) hl2).trans E2);have G3:=(gY (w3.alloc (.cells #[.slice at_ ah.length ct,.slice an aj.length cn] 126)) (.cells #[.slice none 0 0,.slice none 0 0] 26) w3.heap.size (by simp)).trans (aY w3 (.cells #[.slice at_ ah.length ct,.slice an aj.length cn] 126));have G4:=aY (w3.alloc (.cells #[.slice at_ ah.length ct,.slice an aj.length cn] 126)) (.cells #[.slice none 0 0,.slice none 0 0] 26);rw[oP] at G4;clear hb4 E1 E2 c0 c1;have hqb:w.heap.size+1<w3.heap.size:=hl2;generalize hw4:(w3.alloc _).alloc _=w4 at hb5 G1 G2 G3 G4 ⊢
 have hs4:w4.heap.size=w3.heap.size+1+1:=by rw[← hw4];simp
 clear hw4;generalize w3.heap.size=qb at hqb hs4 G3 G4 ⊢;have SH:=hb5.size;obtain⟨hi,hni⟩:=pJ HN.out;obtain⟨b,off,cap,kv,hnv,YD,x0,x1,x2,hkv⟩:=HT.out.node hi;simp only[Value.slice.injEq] at hnv;obtain⟨rfl,-,rfl⟩:=hnv;rw[hni] at hkv;obtain⟨ak,ck,rfl,_,xS⟩:=hkv.form;simp only at x2 xS;obtain⟨bk,ok,rfl,hbk,hkc⟩:=xS (by omega);have WW:=ay hkc;obtain⟨c0,c1⟩:=bW G1;have x2:=iW hb5 x2;have hr1:=HR1.out;have HNI:Hid (((aj.length:Int) - 1)=(r:Int)):=ay (by omega)
 have hrI:(r:Int)<(aj.length:Int):=by omega
 clear hr1 x0 x1 hkc xS hkv hni
 go_cut [21,22,23] (fun v1 v2 v3 wc=>v1=.slice (some ⟨bk,ok,none⟩) ks.length ck∧v2=.int .i64 ks.length∧v3=.int .i64 0∧Below w4.heap.size w4 wc)
 case first =>
  go_region_held3 (fun w'=>w'.cell? ⟨w.heap.size,0,none⟩=some (.slice at_ ah.length ct)∧w'.cell? ⟨w.heap.size,1,none⟩=some (.slice (some ⟨b,off,none⟩) aj.length cn)∧w'.cell? ⟨b,off+r * 3+2,none⟩=some (.slice (some ⟨bk,ok,none⟩) ks.length ck))
   (first|(with_reducible exact p3)|(go_keep;done))
   ((go_at_call 60;refine(uf at_ ah.length ct (some ⟨b,off,none⟩) aj.length cn _ (by omega)).mono ?_;rintro e w5 ⟨rfl,hb6⟩;rw[HNI.out];have xE:Below w4.heap.size w4 w5:=(bI w4.heap.size w4).drew.trans hb6;have p3:=And.intro (iW xE c0) (And.intro (iW xE c1) (iW xE x2))))
  go_wp2_with fail
  go_meet
  exact⟨rfl,rfl,rfl,xE⟩
 case rest =>
  obtain⟨rfl,rfl,rfl,hbc⟩:=hcut
  obtain⟨wl,rfl⟩:∃ wl:World,wl=wc:=⟨_,rfl⟩
  have hzl:=hbc.size;have H1:=(hbc.block w.heap.size (by omega)).trans G1;have H2:=(hbc.block (w.heap.size+1) (by omega)).trans G2;have H3:=(hbc.block qb (by omega)).trans G3;have H4:=(hbc.block (qb+1) (by omega)).trans G4;have ahc:=hb5.trans (hbc.mono SH)
  have hqw:w.heap.size≤qb+1:=by omega
  clear c0 c1 x2 hb5 hbc G1 G2 G3 G4;go_wp2
  go_loopw [23] (fun q wr=>∃ (j:Nat) (ai:Option Addr) (ni ci:Nat) (ad:Option Addr) (nd cd:Nat),j≤ks.length∧q=.int .i64 j∧aW (fun b=>b<wl.heap.size∧b≠qb+1) wl wr∧wr.heap[qb+1]?=some (.cells #[.slice ai ni ci,.slice ad nd cd] 26 (0,0))∧adK IA DA pp wl (qb+1) 91 66 j wr (.slice ai ni ci) (.slice ad nd cd)∧Below w.heap.size w wr) (fun q _=>ks.length - (intOf q).toNat)
  case atStart=>exact⟨0,none,0,0,none,0,0,lI _,rfl,aW.refl _ _,H4,.inl ⟨lI _,by rw[List.take_zero];exact gF.nil _ _ _ _,rfl⟩,ahc⟩
  case round =>
   obtain⟨j,ai,ni,ci,ad,nd,cd,hj,rfl,fF,hpb,hst,hbl⟩:=hrel;have afo:=fF.1;have R1:=(fF.2 w.heap.size ⟨by omega,by omega⟩ (by omega)).trans H1;have R3:=(fF.2 qb ⟨by omega,by omega⟩ (by omega)).trans H3
   by_cases hjl:j<ks.length
   ·have hjp:j<p.aA.length:=by have:=HKL.out;omega
    have hrep:=HAT.out j hjl hjp;have hlv:=OE p.aA j hjp;rw[HLV.out] at hlv;rw[Nat.zero_add] at hrep;have hx:=(hbl.cell (p:=⟨bk,ok+j,none⟩) (by show bk<_;omega)).trans (WW.out j hjl);generalize ks[j]=qk at hx hrep
    have JZ:(j:Int)<(ks.length:Int):=by omega
    obtain⟨c0,c1⟩:=bW R1;obtain⟨r0,r1⟩:=lH R3;obtain⟨d0,d1,dz⟩:=aU hpb;have afJ:=(bS hpb).1;clear H1 H2 H3 H4
    rcases Nat.lt_or_ge j p.imps with hji|hji
    ·
     obtain⟨acg,hkj,hlj⟩:=p.abT j hji;rw[hkj] at hrep hlv;rw[hlj] at hrep hlv
     obtain⟨m,rfl⟩:∃ m:Nat,qk=(m:Int):=⟨qk.toNat,by have:=BI hrep;omega⟩
     obtain⟨k0,k1,k2,hnm,hl1⟩:=acf hrep;obtain⟨hm,hnm'⟩:=pJ hnm;obtain⟨b',off',jE,kv',e',_,y0,_,y2,hky⟩:=HT.out.node hm
     obtain⟨⟨rfl,rfl⟩,rfl⟩:(b=b'∧off=off')∧cn=jE:=by simpa using e'
     rw[hnm'] at y0 hky;obtain⟨ak2,ck2,rfl,_,adW⟩:=hky.form;simp only at y0 y2 adW;obtain⟨b2,o2,rfl,hb2,afK⟩:=adW (by simp);have z1:=(hbl.cell (p:=⟨b2,o2+1,none⟩) (by show b2<_;omega)).trans (afK 1 (by simp));have y0':=(hbl.cell (p:=⟨b,off+m * 3,none⟩) (by show b<_;omega)).trans y0;have y2':=(hbl.cell (p:=⟨b,off+m * 3+2,none⟩) (by show b<_;omega)).trans y2;simp only[List.getElem_cons_succ,List.getElem_cons_zero,dR,gX,Nat.zero_add] at z1 y2'
     have hmI:(m:Int)<(aj.length:Int):=by omega
     have hut:3 * j+1<ah.length:=by simp only[vZ,PT.lv,bU] at hlv;omega
     have hK:=fun W (hb:Below wr.heap.size wr W)=>(Wh.out k1 (3 * j+1) W hl1 hut (HT.out.below ((hbl.trans (hb.mono hbl.size)).mono hB)) (by have:=hbl.size;have:=hb.size;omega)).mono (R':=fun e w'=>e=.returned (pQ (dh ah (3 * j+1)))∧Below wr.heap.size wr w'∧Below W.heap.size W w') fun e w' h=>⟨h.1,hb.trans (h.2.mono hb.size),h.2⟩
     have afL:j<pp.aG.length:=by have:=HPI.out;omega
     have hg:=HIG.out j afL;have hsn:pp.aG.take (j+1)=pp.aG.take j++[pp.aG[j]]:=Dg afL;rw[hg] at hsn;unfold aN dS at hsn;unfold pQ dJ at hK;generalize dh ah (3 * j+1)=t at hK hsn;obtain⟨tk,tl,tt,tp⟩:=t;simp only at hK hsn;have HK:=ay hK;have qx:=ay hsn
     obtain⟨_,hown0,hdn⟩:j≤pp.aG.length∧gF IA wl.heap.size 91 wr (.slice ai ni ci) (pp.aG.take j)∧Value.slice ad nd cd=.slice none 0 0:=by
      rcases hst with hst|⟨hst,_⟩
      ·exact hst
      ·omega
     simp only[Value.slice.injEq] at hdn;obtain⟨rfl,rfl,rfl⟩:=hdn;clear hK hsn hg e' y0 y2 hky adW afK hnm hnm' hl1 hst hlv hlj hkj hrep
     go_upto_region 10 with fail
     go_cut [8] (fun v wc=>∃ Y:Nat,v=.pointer (some ⟨Y,0,none⟩)∧wc.heap[Y]?=some (.cells #[.int .i64 tk,.string ⟨tl.toArray⟩,.string ⟨tt.toArray⟩,.int .i64 tp] 131 (0,0))∧Below wr.heap.size wr wc)
     case first =>
      have hne0:qb≠wr.heap.size:=by omega
      have hne1:w.heap.size≠wr.heap.size:=by omega
      have hne2:b≠wr.heap.size:=by omega
      have RD:b2≠wr.heap.size:=by omega
      go_region_held3 (fun w'=>w'.cell? ⟨qb,0,none⟩=some (.slice at_ ah.length ct)∧w'.cell? ⟨qb,1,none⟩=some (.slice (some ⟨b,off,none⟩) aj.length cn)∧w'.cell? ⟨w.heap.size,1,none⟩=some (.slice (some ⟨b,off,none⟩) aj.length cn)∧w'.cell? ⟨b,off+m * 3+2,none⟩=some (.slice (some ⟨b2,o2,none⟩) 3 ck2)∧w'.cell? ⟨b2,o2+1,none⟩=some (.int .i64 k1))
       (first|(with_reducible exact p3)|((try dsimp only);with_reducible exact And.intro ((bX w3 wr.heap.size _ _ _ _ hne0).trans p3.1) (And.intro ((bX w3 wr.heap.size _ _ _ _ hne0).trans p3.2.1) (And.intro ((bX w3 wr.heap.size _ _ _ _ hne1).trans p3.2.2.1) (And.intro ((bX w3 wr.heap.size _ _ _ _ hne2).trans p3.2.2.2.1) ((bX w3 wr.heap.size _ _ _ _ RD).trans p3.2.2.2.2)))))|(go_keep;done))
       (first|(go_at_call 61;refine(HK.out _ ?_).mono ?_;(first|exact(bI _ _).drew|exact((bI _ _).alloc (bD _) _).drew);rintro e w3 ⟨rfl,hq3,hb3⟩;have p3:=And.intro (iW hq3 r0) (And.intro (iW hq3 r1) (And.intro (iW hq3 c1) (And.intro (iW hq3 y2') (iW hq3 z1))));try (have FT:=(hb3.block wr.heap.size (by simp)).trans (aY wr (.cells #[.int .i64 0,.string ⟨#[]⟩,.string ⟨#[]⟩,.int .i64 0] 131));obtain⟨Zr,Zt,Zu,Zv,Zw⟩:=oI FT)))
      ·clear r0 r1 c1 y2' z1 p3
       go_wp2_with fail
       go_meet
       exact⟨w3.heap.size,rfl,aY _ _,hq3.alloc hq3.size _⟩
      ·obtain⟨S3,So,_⟩:=yH FT (.int .i64 tk) (.string ⟨tl.toArray⟩) (.string ⟨tt.toArray⟩) (.int .i64 tp)
       clear r0 r1 c1 y2' z1 p3 Zr Zt Zu Zv Zw;go_wp2_with fail
       go_meet
       exact⟨wr.heap.size,rfl,S3,(((hq3.setCell (bD _) _).setCell (bD _) _).setCell (bD _) _).setCell (bD _) _⟩
     case rest =>
      obtain⟨Y,rfl,hY,hbc⟩:=hcut
      obtain⟨wt,rfl⟩:∃ wt:World,wt=wc:=⟨_,rfl⟩
      have KP:=(hbc.block (qb+1) afJ).trans hpb;obtain⟨d0,d1,dz⟩:=aU KP;obtain⟨f2,f3⟩:=uN hY
      have Wv:(pp.aG.take j).length=j:=by rw[qZ];omega
      obtain⟨_,_,hsl⟩:=hown0.slice;rw[Wv] at hsl
      obtain⟨-,rfl,-⟩:_∧ni=j∧_:=by simpa using hsl
      obtain⟨KY,h1,hown,hes⟩:=hown0;rw[Wv] at hown;have hzt:=hbc.size;have HNJ:=ay Wv
      have ZL:some (qb+1)≠(Value.slice ai ni ci).ownBlock:=fun q=>by have:=(hown.lt _ q.symm).1;omega
      clear Wv hsl HK hY;go_wp2_with (at_builtin;refine wpList_append_lies _ rfl _ _ 23 rfl wl.heap.size 91 ii _ 2 24 Tryz.underlying23 hii1 hii2 ag6 ag7 rfl (by decide) _ ni _ rfl ((own_below hown hbc).alloc _) ⟨wt.heap.size,0,none⟩ 1 1 [.string ⟨tt.toArray⟩,.int .i64 tp] rfl rfl ?c1 ?c2 ?c3 ?c4 ?c5 ?c6 (wt.heap.size+1) (by simp) ?_)
      case c2=>simp[Value.oneCell']
      case c4=>unfold maxLen;omega
      case c5=>omega
      case c6=>first|omega|(simp;omega)
      intro gg kE w5 gq gK vL JK;have qJ:=(gK.block (qb+1) (by simp;omega) ZL).trans ((gY wt _ (qb+1) (by omega)).trans KP);obtain⟨d0',d1',dz'⟩:=aU qJ;obtain⟨q1,q2,q3⟩:=oJ.round (K:=IA) (Q:=fun b=>wl.heap.size≤b) (wr:=wr) (kv:=.slice ai ni ci) (UU:=.slice (some ⟨gg,0,none⟩) (ni+1) kE) (acc:=pp.aG.take ni) (a:=(tt,tp)) (x:=()) (l:=KY) fF (show qb+1<wl.heap.size by omega) (by omega) h1 (by rw[HNJ.out];exact hown) hes trivial hbc (by rw[HNJ.out];exact gq) gK rfl vL 0 (.slice (some ⟨gg,0,none⟩) (ni+1) kE);have zJ:(w5.setCell ⟨qb+1,0,none⟩ (.slice (some ⟨gg,0,none⟩) (ni+1) kE)).heap[qb+1]?=some (.cells #[.slice (some ⟨gg,0,none⟩) (ni+1) kE,.slice none 0 0] 26 (0,0)):=heap_setCell_same w5 (qb+1) 0 _ _ _ qJ;have zK:=q3 w.heap.size w hqw hbl;clear gK gq vL qJ KP hes hown fF hpb d0 d1 dz f2 f3 hx y0' r0 r1 c0 c1 z1 y2' R1 R3 hbl h1 hbc;go_wp2;clear d0' d1' dz';generalize w5.setCell _ _=w6' at q1 q2 zJ zK ⊢
      go_roundw
      case rel =>
       refine⟨ni+1,some ⟨gg,0,none⟩,ni+1,kE,none,0,0,by omega,by go_num,q2,zJ,.inl ⟨by omega,?_,rfl⟩,zK⟩;rw[qx.out];exact q1
      case measure=>simp[intOf];omega
    ·obtain⟨jd,rfl⟩:∃ jd,j=p.imps+jd:=⟨j - p.imps,by omega⟩
     obtain⟨hnil,w2,hw2,ha2,hri,Ph,hdo⟩:=hst.two (by have:=HPI.out;omega) fF
     have hsub:p.imps+jd - pp.aG.length=jd:=by have:=HPI.out;omega
     rw[hsub] at hdo;have xD:=ay hnil;have HRI:=ay hri;have HA2:=ay ha2
     rcases Nat.lt_or_ge jd p.defs.length with hjd|hjd
     ·
      obtain⟨acg,hkj,hlj⟩:=p.abU jd hjd;rw[hkj] at hrep hlv;rw[hlj] at hrep hlv
      obtain⟨m,rfl⟩:∃ m:Nat,qk=(m:Int):=⟨qk.toNat,by have:=BI hrep;omega⟩
      have hok:=FM p.defs (3 * p.imps) jd hjd HOK.out.2.2.2
      have afM:jd<pp.defs.length:=by have:=HPD.out;omega
      have hg:=HDG.out jd hjd afM;have hC:=BD.out p.defs[jd] _ hok hlv m wr.drew hrep (HT.out.below (hbl.mono hB).drew) (jc hB hbl.size);rw[← hg] at hC;have hsn:pp.defs.take (jd+1)=pp.defs.take jd++[pp.defs[jd]]:=Dg afM;have acK:oo aj m (3 * p.imps+bU (List.map dU.pt (List.take jd p.defs))) (.node 3 p.defs[jd].aA):=hrep;obtain⟨ks2,hnm,_⟩:=fu acK;obtain⟨hm,hnm'⟩:=pJ hnm;obtain⟨b',off',jE,kv',e',_,y0,_,_,_⟩:=HT.out.node hm
      obtain⟨⟨rfl,rfl⟩,rfl⟩:(b=b'∧off=off')∧cn=jE:=by simpa using e'
      rw[hnm'] at y0;simp only at y0;have y0':=(hbl.cell (p:=⟨b,off+m * 3,none⟩) (by show b<_;omega)).trans y0
      have hmI:(m:Int)<(aj.length:Int):=by omega
      generalize pp.defs[jd]=d at hC hsn;have HC:=ay hC;have qx:=ay hsn
      have Wv:(pp.defs.take jd).length=jd:=by rw[qZ];omega
      obtain⟨_,_,hsl⟩:=hdo.slice;rw[Wv] at hsl
      obtain⟨-,rfl,-⟩:_∧nd=jd∧_:=by simpa using hsl
      obtain⟨KY,h1,hown,hes⟩:=hdo;rw[Wv] at hown;have HNJ:=ay Wv
      have hlts:∀ b,some b=(Value.slice ad nd cd).ownBlock→w2.heap.size≤b∧b<wr.heap.size:=fun b q=>hown.lt b q.symm
      have ZL:some (qb+1)≠(Value.slice ad nd cd).ownBlock:=fun q=>by have:=(hlts _ q).1;omega
      have HL:=ay hlts
      have hX2:qb+1<w2.heap.size:=by omega
      have hsz2:=Ph.1;clear hnil hri ha2 hst hC hsn hg hok Wv hsl hlts y0 e' hnm hnm' hrep acK hkj hlj hlv acg hsub;go_wp2
      go_region_law ((first
       | (refine step_append_lies _ (by rfl) _ _ _ (by rfl) w2.heap.size 66 id _ 15 208 Tryz.underlying24 ag8 ag9 aha ahb rfl (by omega) (.slice ad nd cd) nd _ (by rfl) ((own_below (nZ hown) hb2).alloc _) ⟨W2.heap.size,0,none⟩ 1 1 [.bool d.pub,.string ⟨d.res.name.toArray⟩,.slice ap d.params.length cp,.int .i64 d.res.base,.slice ac d.res.aC.length cc,.int .i64 d.body.op,.string ⟨d.body.name.toArray⟩,.string ⟨d.body.module.toArray⟩,.bool (decide (d.body.num<0)),.slice am wn cm,.bool d.body.yes,.slice ae d.body.aA.length ce,.int .i64 d.body.at_,.int .i64 d.res.at_,.int .i64 d.res.bare] (by rfl) (by rfl) (vv (cs:=#[.bool d.pub,.string ⟨d.res.name.toArray⟩,.slice ap d.params.length cp,.int .i64 d.res.base,.slice ac d.res.aC.length cc,.int .i64 d.body.op,.string ⟨d.body.name.toArray⟩,.string ⟨d.body.module.toArray⟩,.bool (decide (d.body.num<0)),.slice am wn cm,.bool d.body.yes,.slice ae d.body.aA.length ce,.int .i64 d.body.at_,.int .i64 d.res.at_,.int .i64 d.res.bare]) (t:=66) (fr:=(0,0)) (aY W2 _)) (by simp[Value.oneCell']) (by omega) (by unfold maxLen;omega) (by omega) (by have:=hb2.size;simp at this ⊢;omega) (W2.heap.size+1) (by simp) ?_;intro gg kE w5 gq gK vL JK;have qJ:=(gK.block (qb+1) (by have:=hb2.size;simp at this ⊢;omega) ZL).trans ((gY W2 _ (qb+1) (by have:=hb2.size;simp at this;omega)).trans yG);have r65:=(aU qJ).2.1;have z65:=(aU qJ).2.2 1)
       | (refine tq rfl 62 _ _ rfl HC.out (by rfl) (ent _ _) ?_;rintro e W2 ⟨ap,cp,ac,cc,am,wn,cm,ae,ce,rfl,hxe,hb2⟩;refine⟨_,rfl,?_⟩;have yG:=(hb2.block (qb+1) afJ).trans hpb;have X9:=(aU yG).2.1;have r63:=fun o=>Lib.cell?_alloc_some o X9)))
      all_goals
       obtain⟨q1,q2,q3⟩:=oJ.round (K:=DA) (Q:=fun b=>w2.heap.size≤b) (wr:=wr.drew) (kv:=.slice ad nd cd) (UU:=.slice (some ⟨gg,0,none⟩) (nd+1) kE) (acc:=pp.defs.take nd) (a:=d) (x:=⟨.slice ap d.params.length cp,.slice ac d.res.aC.length cc,.slice am wn cm,.slice ae d.body.aA.length ce⟩) (l:=KY) (show aW _ w2 wr.drew from Ph) hX2 (by omega) h1 (by rw[HNJ.out];exact hown) (fun p hp=>DA.frame (hes p hp) (aW.drew _ wr)) (DA.imp (P:=fun b=>wr.drew.heap.size≤b) hxe fun b hb _=>⟨jc hsz2 hb,fun q=>by have:=(HL.out b q).2;have:wr.drew.heap.size=wr.heap.size:=rfl;omega⟩) hb2 (by rw[HNJ.out];exact gq) gK rfl vL 1 (.slice (some ⟨gg,0,none⟩) (nd+1) kE);have zJ:(w5.setCell ⟨qb+1,1,none⟩ (.slice (some ⟨gg,0,none⟩) (nd+1) kE)).heap[qb+1]?=some (.cells #[.slice ai ni ci,.slice (some ⟨gg,0,none⟩) (nd+1) kE] 26 (0,0)):=heap_setCell_same w5 (qb+1) 1 _ _ _ qJ;have zK:=q3 w.heap.size w hqw hbl.drew;clear gK gq vL qJ r65 z65 yG X9 r63 hxe hb2 HC hes hown fF hpb d0 d1 dz hx y0' r0 r1 c0 c1 R1 R3 hbl h1 Ph;generalize w5.setCell _ _=w6' at q1 q2 zJ zK ⊢;go_wp2
       go_roundw
       case rel =>
        refine⟨p.imps+nd+1,ai,ni,ci,some ⟨gg,0,none⟩,nd+1,kE,by omega,by go_num,?_,zJ,.inr ⟨by have:=HPI.out;omega,xD.out,w2,hw2,HA2.out,HRI.out,q2,?_⟩,zK⟩
        ·exact HA2.out.trans ⟨q2.1,fun b hb hl=>q2.2 b ⟨by omega,hb.2⟩ hl⟩
        ·rw[show p.imps+nd+1 - pp.aG.length=nd+1 by have:=HPI.out;omega,qx.out]
         exact q1
       case measure=>simp[intOf];omega
     ·obtain⟨acg,hkj⟩:=p.abV
      obtain rfl:jd=p.defs.length:=by have:=HKN.out;omega
      rw[hkj] at hrep;obtain⟨m,rfl,hnm⟩:=oo.Qp hrep;obtain⟨hm,hnm'⟩:=pJ hnm;obtain⟨b',off',jE,kv',e',_,y0,_,_,_⟩:=HT.out.node hm
      obtain⟨⟨rfl,rfl⟩,rfl⟩:(b=b'∧off=off')∧cn=jE:=by simpa using e'
      rw[hnm'] at y0;simp only at y0;have y0':=(hbl.cell (p:=⟨b,off+m * 3,none⟩) (by show b<_;omega)).trans y0
      have hmI:(m:Int)<(aj.length:Int):=by omega
      clear hnil hri ha2 hst y0 e' hnm hnm' hrep hkj hlv acg hsub;go_wp2
      go_roundw
      case rel =>
       refine⟨p.imps+p.defs.length+1,ai,ni,ci,ad,nd,cd,by omega,by go_num,fF,hpb,.inr ⟨by have:=HPI.out;omega,xD.out,w2,hw2,HA2.out,HRI.out,Ph,?_⟩,hbl⟩;rw[show p.imps+p.defs.length+1 - pp.aG.length=pp.defs.length+1 by have:=HPI.out;have:=HPD.out;omega,Au (by omega)];rw[← HPD.out,List.take_length] at hdo;exact hdo
      case measure=>simp[intOf];omega
   ·
    obtain rfl:j=ks.length:=by omega
    have JZ:decide ((ks.length:Int)<(ks.length:Int))=false:=dA (by omega);obtain⟨hnil,w2,hw2,ha2,hri,Ph,hdo⟩:=hst.two (by have:=HPI.out;have:=HKN.out;omega) fF;rw[Au (by have:=HPI.out;have:=HPD.out;have:=HKN.out;omega)] at hdo;have hR2:=(fF.2 (w.heap.size+1) ⟨by omega,by omega⟩ (by omega)).trans H2
    have hrw:RowK IA (fun b=>wl.heap.size≤b) wr (.slice ai ni ci) pp.aG:=((hri.imp (Q:=fun b=>wl.heap.size≤b∧b<w2.heap.size∧b≠qb+1) fun b hb hl=>⟨hb,hl,by omega⟩).frame ⟨Ph.1,fun b hb hl=>Ph.2 b hb.2 hl⟩).imp fun b hb _=>hb.1
    have hrd:RowK DA (fun b=>wl.heap.size≤b) wr (.slice ad nd cd) pp.defs:=hdo.row.imp fun b hb _=>by omega
    have hod:gF DA wl.heap.size 66 wr (.slice ad nd cd) pp.defs:=hdo.base hw2;obtain⟨_,_,hs1⟩:=hrw.slice;obtain⟨_,_,hs2⟩:=hrd.slice
    obtain⟨-,rfl,-⟩:_∧ni=pp.aG.length∧_:=by simpa using hs1
    obtain⟨-,rfl,-⟩:_∧nd=pp.defs.length∧_:=by simpa using hs2
    obtain⟨d0,d1,dz⟩:=aU hpb;obtain⟨e0,e1,ez⟩:=aU hR2;clear hst hri hdo hs1 hs2 H1 H2 H3 H4 R1 R3 Ph ha2 hw2 fF hpb hR2;go_wp2;refine bodyPost_ret (v:=.tuple #[.agg #[.slice ai pp.aG.length ci,.slice ad pp.defs.length cd],.int .i64 0]) (by simp[results,Tryz.results31,go_sem,e0,e1]) rfl ⟨ai,ci,ad,cd,rfl,fun q=>hnil _ _ (by rw[q]),⟨?_,?_⟩,?_,?_⟩
    ·exact(hrw.frame ((aW.set _ fun b hb=>by show b≠w.heap.size+1;omega).trans (aW.set _ fun b hb=>by show b≠w.heap.size+1;omega))).imp fun b hb _=>by omega
    ·exact(hrd.frame ((aW.set _ fun b hb=>by show b≠w.heap.size+1;omega).trans (aW.set _ fun b hb=>by show b≠w.heap.size+1;omega))).imp fun b hb _=>by omega
    ·exact(hbl.setCell (by simp) _).setCell (by simp) _
    ·exact((hod.set (by show w.heap.size+1<_;omega) _).set (by show w.heap.size+1<_;omega) _).base (by omega)
def TW:List Tok:=[⟨5,[],[],0⟩]
def Lh:List Nd:=[⟨19,0,[]⟩,⟨1,-1,[0]⟩]
theorem aaJ:je [] 200=.good TW Lh:=by rfl
theorem adX (w:World) :
  Calls Tryz.prog 59 #[.agg #[.slice none 0 0,.slice none 0 0],.func (.func 30) #[] #[]] w fun e w'=>e=.returned (.bool false)∧Below w.heap.size w w':=by
 have Jv:=ay (fun (W:World)=>ab9 (-1) W)
 have Pg:Hid (∀ W:World,Calls Tryz.prog 104 #[.agg #[.slice none 0 0,.slice none 0 0]] W fun e w'=>e=.returned (.string ⟨#[]⟩)∧Below W.heap.size W w'):=ay fun W =>
  Pf 0 (.slice none 0 0) (.slice none 0 0) [] W (by simp) (by decide) (aaH _ _ _) (lI _)
 have Am:=ay (fun W=>xB ⟨#[]⟩ 200 W (by omega) (by omega) (by decide));have hal:=aB w (.cells #[.slice none 0 0,.slice none 0 0] 81);have e1:=aY w (.cells #[.slice none 0 0,.slice none 0 0] 81);rw[show je (ByteArray.mk #[]).data.toList 200=.good TW Lh from aaJ] at Am
 obtain⟨D,G⟩:∃ D,Cw TW Lh D:=by
  obtain⟨p,G⟩:=V7 (by omega) aaJ;exact⟨_,G.good⟩
 have hft:=G.Vr;have hfn:=G.few;obtain⟨XD,hXD,eX⟩:=jq D;generalize TW=ah at Am G hft;generalize Lh=aj at Am G hfn
 have adY:Hid (∀ (B:Nat) (at_:Option Addr) (ct:Nat) (an:Option Addr) (cn:Nat) (W:World),aZ B W (.agg #[.slice at_ ah.length ct,.slice an aj.length cn]) ah aj→B≤W.heap.size→Calls Tryz.prog 103 #[.agg #[.slice at_ ah.length ct,.slice an aj.length cn],.int .i64 ((aj.length:Int) - 1)] W fun e w'=>e=.returned (.tuple #[.string XD,.int .i64 0])∧Below W.heap.size W w') :=
  ay fun B at_ ct an cn W hT hBW=>(Pb G B _ _ W hT hBW).mono fun e w' h=>⟨by rw[h.1,eX],h.2⟩
 clear G hXD eX;go_enter Tryz.func59,Tryz.ntmps59
 go_upto_region 1 with fail
 generalize w.alloc _=w1 at hal e1 ⊢;obtain⟨c0,c1⟩:=bW e1;have hl1:=(bS e1).1
 go_cut [5,6] (fun a e wx=>a=.string ⟨#[]⟩∧e=.int .i64 10∧wx.heap[w.heap.size]?=some (.cells #[.slice none 0 0,.slice none 0 0] 81 (0,0))∧Below w.heap.size w wx)
 case first =>
  go_region_with (first|(go_at_call 60;refine(uf none 0 0 none 0 0 _ (by omega)).mono ?_;rintro e w5 ⟨rfl,hb5⟩;have d0:=(hb5.cell (p:=⟨w.heap.size,0,none⟩) hl1).trans c0;have d1:=(hb5.cell (p:=⟨w.heap.size,1,none⟩) hl1).trans c1)|(go_at_call 103;refine(Jv.out _).mono ?_;rintro e w6 ⟨rfl,hb6⟩))
  all_goals
   have sD:=hal.drew.trans (hb5.mono hal.size);have T6:=(hb6.block w.heap.size (Nat.lt_of_lt_of_le hl1 hb5.size)).trans ((hb5.block w.heap.size hl1).trans e1);go_wp2_with fail
   go_meet
   exact⟨rfl,rfl,T6,sD.trans (hb6.mono sD.size)⟩
 case rest =>
  obtain⟨rfl,rfl,hT,hbc⟩:=hcut;clear hal e1 c0 c1 hl1 w1
  obtain⟨wo,rfl⟩:∃ wo:World,wo=wc:=⟨_,rfl⟩
  obtain⟨c0,c1⟩:=bW hT
  go_upto_region 3 with (first|(go_at_call 104;refine(Pg.out _).mono ?_;rintro e w7 ⟨rfl,wR⟩)|(go_at_call 30;refine(Am.out _).mono ?_;rintro e w8 ⟨mU,a8,c8,b8,d8,rfl,ht8⟩))
  have Sd:=(hbc.trans (wR.mono hbc.size))
  have Lg:=Sd.trans (mU.mono Sd.size);have vk:=(aB w8 (.cells #[.slice a8 ah.length c8,.slice b8 aj.length d8] 81)).alloc (by simp) (.cells #[.int .i64 0,.int .i64 0] 71);have Xb:=(gY (w8.alloc (.cells #[.slice a8 ah.length c8,.slice b8 aj.length d8] 81)) (.cells #[.int .i64 0,.int .i64 0] 71) w8.heap.size (by simp)).trans (aY w8 (.cells #[.slice a8 ah.length c8,.slice b8 aj.length d8] 81));have hU:=ay (ht8.at.below vk);have C8:=Lg.trans (vk.mono Lg.size);have hz9:=vk.size;clear wR mU vk ht8 Sd hT hbc c0 c1 Pg Am Jv;generalize w8.heap.size=ub at Xb hU hz9 Lg ⊢;generalize (w8.alloc _).alloc _=w9 at Xb hU C8 hz9 ⊢;obtain⟨c0,c1⟩:=bW Xb;have hl9:=(bS Xb).1
  go_cut [9,10] (fun a e wx=>Below w.heap.size w wx)
  case first =>
   go_region_with (first|(go_at_call 60;refine(uf a8 ah.length c8 b8 aj.length d8 _ (by omega)).mono ?_;rintro e w5 ⟨rfl,hb5⟩;have d0:=(hb5.cell (p:=⟨ub,0,none⟩) hl9).trans c0;have d1:=(hb5.cell (p:=⟨ub,1,none⟩) hl9).trans c1)|(go_at_call 103;refine(adY.out ub a8 c8 b8 d8 _ (hU.out.below (((bI w9.heap.size w9).drew.trans hb5).mono hz9)) (jc hz9 hb5.size)).mono ?_;rintro e w6 ⟨rfl,hb6⟩))
   all_goals
    have sD:=(bI w9.heap.size w9).drew.trans hb5;go_wp2_with fail
    go_meet
    exact C8.trans ((sD.trans (hb6.mono sD.size)).mono C8.size)
  case rest =>
   clear c0 c1 hl9 Xb C8 Lg;go_wp2;go_ret;exact⟨rfl,hcut⟩
theorem WA (w:World) :
  Calls Tryz.prog 31 #[.agg #[.slice none 0 0,.slice none 0 0]] w fun e w'=>e=.returned (.tuple #[.agg #[.slice none 0 0,.slice none 0 0],.int .i64 10])∧Below w.heap.size w w':=by
 have HA:=ay (fun W=>adX W);have hal:=(aB w (.cells #[.slice none 0 0,.slice none 0 0] 81)).alloc (by simp) (.cells #[.slice none 0 0,.slice none 0 0] 26);have e1:=(gY (w.alloc (.cells #[.slice none 0 0,.slice none 0 0] 81)) (.cells #[.slice none 0 0,.slice none 0 0] 26) w.heap.size (by simp)).trans (aY w (.cells #[.slice none 0 0,.slice none 0 0] 81));have e2:=aY (w.alloc (.cells #[.slice none 0 0,.slice none 0 0] 81)) (.cells #[.slice none 0 0,.slice none 0 0] 26);rw[oP] at e2;obtain⟨c0,c1⟩:=bW e1;go_enter Tryz.func31,Tryz.ntmps31
 go_upto_region 2 with (go_at_call 59;refine(HA.out _).mono ?_;rintro e w3 ⟨rfl,hb3⟩)
 have E2:=(hb3.block (w.heap.size+1) (by simp)).trans e2;have hb4:=hal.trans (hb3.mono (by simp;omega));clear hb3 e1 e2 hal HA c0 c1;obtain⟨d0,d1,dz⟩:=aU E2;go_wp2;refine bodyPost_ret (v:=.tuple #[.agg #[.slice none 0 0,.slice none 0 0],.int .i64 10]) (by simp[results,Tryz.results31,go_sem,d0,d1]) rfl ⟨rfl,?_⟩;exact(hb4.setCell (by simp) _).setCell (by simp) _
def Li (p:PP)(w:World)(e:Ending)(w':World):Prop :=
 ∃ ai ci ad cd,e=.returned (.tuple #[.agg #[.slice ai p.aG.length ci,.slice ad p.defs.length cd],.bool true])∧Km (fun b=>w.heap.size≤b) w' (.slice ai p.aG.length ci) (.slice ad p.defs.length cd) p∧Below w.heap.size w w'∧gF DA w.heap.size 66 w' (.slice ad p.defs.length cd) p.defs
theorem Lj (s:ByteArray)(w:World)(hs:s.size≤65536)(ah:List Tok)(aj:List Nd)(p:kW)(h:je s.data.toList 60=.good ah aj)(F:nY s.data.toList ah aj p) :
  Calls Tryz.prog 17 #[.string s] w (Li (p.pp ah) w):=by
 have HF:=ay (fun W=>xB s 60 W (by omega) (by omega) (by omega));rw[h] at HF;have HO:=ay (fun B at_ ct an cn W hT hB=>adV B at_ ct an cn s ah aj p W hT hB F);generalize p.pp ah=pp at HO ⊢;have Gu:=aB w (.cells #[.slice none 0 0,.slice none 0 0] 26);have e0:=aY w (.cells #[.slice none 0 0,.slice none 0 0] 26);clear h F;go_enter Tryz.func17,Tryz.ntmps17
 go_upto_region 2 with (go_at_call 30;refine(HF.out _).mono ?_;rintro e w2 ⟨hb2,at_,ct,an,cn,rfl,hty⟩)
 have hb3:=(aB w2 (.cells #[.slice at_ ah.length ct,.slice an aj.length cn] 81)).alloc (by simp) (.cells #[.int .i64 0,.int .i64 0] 71);have e1:=(gY (w2.alloc (.cells #[.slice at_ ah.length ct,.slice an aj.length cn] 81)) (.cells #[.int .i64 0,.int .i64 0] 71) w2.heap.size (by simp)).trans (aY w2 (.cells #[.slice at_ ah.length ct,.slice an aj.length cn] 81));have e2:=aY (w2.alloc (.cells #[.slice at_ ah.length ct,.slice an aj.length cn] 81)) (.cells #[.int .i64 0,.int .i64 0] 71);rw[oP] at e2;have e02:=(hb2.block w.heap.size (by simp)).trans e0;have hl2:=(bS e02).1;have e03:=(hb3.block w.heap.size hl2).trans e02;have hbw:=(Gu.trans (hb2.mono Gu.size)).trans (hb3.mono (Gu.trans (hb2.mono Gu.size)).size);have hT:=hty.at.below hb3
 have hs3:w2.heap.size+1<((w2.alloc (.cells #[.slice at_ ah.length ct,.slice an aj.length cn] 81)).alloc (.cells #[.int .i64 0,.int .i64 0] 71)).heap.size:=by simp
 clear hb2 hb3 HF hty e02 e0 Gu;generalize (w2.alloc _).alloc _=w3 at e1 e2 e03 hbw hT hs3 ⊢;generalize w2.heap.size=tb at e1 e2 hT hs3 hl2 ⊢;obtain⟨c0,c1⟩:=bW e1;have HOx:=ay (HO.out tb at_ ct an cn w3 hT (by omega));clear e1 HO
 go_upto_region 3 with (go_at_call 31;refine HOx.out.mono ?_;rintro e w4 ⟨ai,ci,ad,cd,rfl,hn4,qo,hb4,MR⟩)
 have vK:=hbw.trans (hb4.mono hbw.size);have hb5:=vK.alloc vK.size (.cells #[.slice ai pp.aG.length ci,.slice ad pp.defs.length cd] 26);have Si:=hb4.alloc hb4.size (.cells #[.slice ai pp.aG.length ci,.slice ad pp.defs.length cd] 26);have g5:=aY w4 (.cells #[.slice ai pp.aG.length ci,.slice ad pp.defs.length cd] 26);have f5:=(Si.block (tb+1) hs3).trans e2;have r5:=(Si.block w.heap.size (by omega)).trans e03;have uG:=qo.frame (aW.of (aB w4 (.cells #[.slice ai pp.aG.length ci,.slice ad pp.defs.length cd] 26)));have ho5:=MR.below (aB w4 (.cells #[.slice ai pp.aG.length ci,.slice ad pp.defs.length cd] 26));clear c0 c1 HOx hT qo hb4 vK hbw hn4 MR Si e2 e03;generalize w4.alloc _=w5 at hb5 g5 f5 r5 uG ho5 ⊢;generalize w4.heap.size=pb at g5 ⊢
 have hw3:w.heap.size<w3.heap.size:=by omega
 obtain⟨a0,a1,-⟩:=aU g5;obtain⟨f0,f1,-⟩:=iV f5;obtain⟨r0,r1,rz⟩:=aU r5;clear g5 f5;go_wp2;refine bodyPost_ret (v:=.tuple #[.agg #[.slice ai pp.aG.length ci,.slice ad pp.defs.length cd],.bool true]) (by simp[results,Tryz.results17,go_sem,r0,r1]) rfl ⟨ai,ci,ad,cd,rfl,?_,?_,?_⟩
 ·exact(uG.frame ((aW.set _ fun b hb=>by show b≠w.heap.size;omega).trans (aW.set _ fun b hb=>by show b≠w.heap.size;omega))).imp fun b hb _=>by omega
 ·exact(hb5.setCell (bD _) _).setCell (bD _) _
 ·exact((ho5.set (by show w.heap.size<_;omega) _).set (by show w.heap.size<_;omega) _).base (by omega)
theorem Pj (s:ByteArray)(w:World)(hs:s.size≤65536)(c a:Nat)(h:je s.data.toList 60=.bad c a) :
  Calls Tryz.prog 17 #[.string s] w fun e w'=>e=.returned (.tuple #[.agg #[.slice none 0 0,.slice none 0 0],.bool false])∧Below w.heap.size w w':=by
 have hc:=Vf h;have hcI:((c:Int) == 0)=false:=BU.2 (by omega);have HF:=ay (fun W=>xB s 60 W (by omega) (by omega) (by omega));rw[h] at HF;have Gu:=aB w (.cells #[.slice none 0 0,.slice none 0 0] 26);have e0:=aY w (.cells #[.slice none 0 0,.slice none 0 0] 26);clear h hc;go_enter Tryz.func17,Tryz.ntmps17
 go_upto_region 2 with (go_at_call 30;refine(HF.out _).mono ?_;rintro e w2 ⟨hb2,rfl⟩)
 have hb3:=(aB w2 (.cells #[.slice none 0 0,.slice none 0 0] 81)).alloc (by simp) (.cells #[.int .i64 c,.int .i64 a] 71);have e1:=(gY (w2.alloc (.cells #[.slice none 0 0,.slice none 0 0] 81)) (.cells #[.int .i64 c,.int .i64 a] 71) w2.heap.size (by simp)).trans (aY w2 (.cells #[.slice none 0 0,.slice none 0 0] 81));have e2:=aY (w2.alloc (.cells #[.slice none 0 0,.slice none 0 0] 81)) (.cells #[.int .i64 c,.int .i64 a] 71);rw[oP] at e2;have e02:=(hb2.block w.heap.size (by simp)).trans e0;have hl2:=(bS e02).1;have e03:=(hb3.block w.heap.size hl2).trans e02;have hbw:=(Gu.trans (hb2.mono Gu.size)).trans (hb3.mono (Gu.trans (hb2.mono Gu.size)).size)
 have hs3:w2.heap.size+1<((w2.alloc (.cells #[.slice none 0 0,.slice none 0 0] 81)).alloc (.cells #[.int .i64 c,.int .i64 a] 71)).heap.size:=by simp
 clear hb2 hb3 HF e02 e0 Gu;generalize (w2.alloc _).alloc _=w3 at e1 e2 e03 hbw hs3 ⊢;generalize w2.heap.size=tb at e1 e2 hs3 hl2 ⊢;obtain⟨c0,c1⟩:=bW e1;clear e1
 go_upto_region 3 with (go_at_call 31;refine(WA _).mono ?_;rintro e w4 ⟨rfl,hb4⟩)
 have vK:=hbw.trans (hb4.mono hbw.size);have hb5:=vK.alloc vK.size (.cells #[.slice none 0 0,.slice none 0 0] 26);have Si:=hb4.alloc hb4.size (.cells #[.slice none 0 0,.slice none 0 0] 26);have g5:=aY w4 (.cells #[.slice none 0 0,.slice none 0 0] 26);have f5:=(Si.block (tb+1) hs3).trans e2;have r5:=(Si.block w.heap.size (by omega)).trans e03;clear c0 c1 hb4 vK hbw Si e2 e03;generalize w4.alloc _=w5 at hb5 g5 f5 r5 ⊢;generalize w4.heap.size=pb at g5 ⊢;obtain⟨a0,a1,-⟩:=aU g5;obtain⟨f0,f1,-⟩:=iV f5;obtain⟨r0,r1,rz⟩:=aU r5;clear g5 f5;go_wp2;refine bodyPost_ret (v:=.tuple #[.agg #[.slice none 0 0,.slice none 0 0],.bool false]) (by simp[results,Tryz.results17,go_sem,r0,r1]) rfl ⟨rfl,?_⟩;exact(hb5.setCell (bD _) _).setCell (bD _) _
