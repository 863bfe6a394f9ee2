/- Walks and plain laws: ProgramW, ProgW, TdumpW2, AsP. -/
import Derived.Test.YtknicmmigbhpcaaGreatDoorB35
set_option maxHeartbeats 16000000
set_option maxRecDepth 100000
set_option linter.unusedVariables false
set_option linter.unusedSimpArgs false
namespace Go.Proofs.YtknicmmigbhpcaaGreatDoor
open Go.RowKit Go
theorem Gx {B:Nat}{w wr:World}{cs:Array Value}{fr:Nat × Nat}{b n cap:Nat}{l:List (List UInt8)}(h:w.heap[b]?=some (.cells cs 9 fr))(hk:Kp B w wr)(hn:l.length=n)(hc:∀ j,(hj:j<l.length)→cs[j]?=some (.string ⟨l[j].toArray⟩)):j4 wr (.slice (some ⟨b,0,none⟩) n cap) l:=by
 subst hn;have h2:=hk.2 _ _ _ _ h (by decide) (by decide) (by decide);refine⟨b,0,cap,rfl,(bG h2).1,fun j hj=>?_⟩;rw[Nat.zero_add];rw[Lib.cell_of_heap h2]
 simpa using hc j hj
theorem LC (E:aT)(hE:E.ok)(g:Nat)(st:aB)(r:Int × aB)(w:World)(h:nC E.toks E.depth g st=some r)(hp:PW E st w)(hcl:st.clause=false)(hn:r.2.nodes.length+1≤1099511627776) :
  Calls Tryz.prog 64 #[.pointer (some ⟨E.pb,0,none⟩)] w (Z9 E r.2 w):=by
 obtain⟨i0,hi,hz0,hz1,hz2⟩:=info_parts Tryz.kS;have hB:E.B≤w.heap.size:=hp.dM;unfold nC at h;obtain⟨a,h1,h⟩:=bH h;obtain⟨b,h2,h⟩:=bH h;obtain rfl:=Option.some.inj h;have n3:=aC (aD _ _ _) hn;have n2:=aC (dO _ _ _) n3;have n1:=aC (mK tu _ _ _ _ h2) n2;have hla:=Co _ _ _ _ h1;have hlb:=Co _ _ _ _ h2;simp only[List.length_nil] at hla hlb
 have hca:a.2.clause=false:=by rw[(mK (tC E.toks) _ _ _ _ h1).2.2.1];exact hcl
 have XU:=ah (fun w hp hF=>AJ E hE _ [oZ] (some ⟨w.heap.size - 1,0,none⟩) 1 16 (by omega) st a w h1 hp n1 hcl hF (by decide) (tC E.toks) (fun R s k w' hsc hk hq hnk=>by
  obtain rfl:=Option.some.inj hk
  exact Jb { E with R:=R } hE s w' hq hnk))
 have HS2:=ah (fun R w hp hF=>Jc { E with R:=R } hE _ [yU,Hy] (some ⟨w.heap.size - 1,0,none⟩) 2 64 (by omega) a.2 b w h2 hp n2 hca hF (by decide) tu (fun R2 s k w' hsc hk hq hnk=>Ee { E with R:=R2 } hE g s k w' hk hq hnk hsc));have HKi:=ah (fun R w hp=>qg { E with R:=R } hE 5 b.2 w hp n2);have TJ:=ah (fun R v w hp hv=>jN { E with R:=R } 1 v (a.1++b.1++[(aP E.toks 5 b.2).1]) (aP E.toks 5 b.2).2 w hp hv (by simp;omega) n3)
 have hmf:∀ (fn:Fn) (first cap:Array Value) (w:World),(Instr.makeFunc fn first cap).run Tryz.prog w=.ok (.func fn first cap) w:=fun _ _ _ _=>rfl
 clear n1 n2 n3 hn h1 h2 h hca;have hs1:=XU.out (w.alloc (.cells #[.string ⟨#[105,109,112,111,114,116]⟩] 9)) (hp.later (aj w _)) (fun wr hk=>Gx (by rw[World.size_alloc,Nat.add_sub_cancel];exact heap_alloc_new w _) hk rfl (fun j hj=>by obtain rfl:j=0:=(by simpa using hj);rfl));rw[show (w.alloc (.cells #[.string ⟨#[105,109,112,111,114,116]⟩] 9)).heap.size - 1=w.heap.size by simp] at hs1;have HS:=ah hs1;clear hs1 XU;go_enter Tryz.func64,Tryz.ntmps64
 go_upto_region 1 with (go_at_call 103;refine HS.out.mono ?_;rintro e w1 ⟨v1,R1,rfl,adu,K1'⟩)
 have K1:=K1'.lift (W0:=w) (Kp.of (aj w _) hB);clear K1' HS adu;obtain⟨ao1,adv,rfl⟩:=mJ K1.1
 go_cut [2] (fun v wc=>∃ R ao cap,v=.slice ao (a.1.length+b.1.length) cap∧iO E w R (.slice ao (a.1.length+b.1.length) cap) (a.1++b.1) b.2 wc)
 case first =>
  have hs2:=HS2.out R1 (w1.alloc (.cells #[.string ⟨#[112,117,98]⟩,.string ⟨#[102,117,110]⟩] 9)) (PW.later K1.2.2.2.1 (aj w1 _)) (fun wr hk=>Gx (by rw[World.size_alloc,Nat.add_sub_cancel];exact heap_alloc_new w1 _) hk rfl (fun j hj=>by
   match j,hj with
   | 0,_=>rfl
   | 1,_=>rfl))
  rw[show (w1.alloc (.cells #[.string ⟨#[112,117,98]⟩,.string ⟨#[102,117,110]⟩] 9)).heap.size - 1=w1.heap.size by simp] at hs2;have HS:=ah hs2;clear hs2 HS2 HKi TJ;go_wp2_with (go_at_call 103;refine HS.out.mono ?_);rintro e w2 ⟨v2,R2,rfl,hnil,K2'⟩;have K2:=K1.call (w':=w2) (s':=b.2) (PR.drop K2'.2.2.2.1 K2'.2.2.1) ((Kp.of (aj w1 _) K1.2.2.2.1.dM).trans K2'.2.2.2.2);have hiv:dI w2 v2 b.1:=K2'.node;clear HS K1 K2'
  by_cases hl0:b.1=[]
  ·obtain rfl:=hnil hl0
   have hlz:b.1.length=0:=by rw[hl0];rfl
   go_wp2_with (at_builtin;refine wpList_append_own_none rfl _ _ 51 rfl w.heap.size 3 i0 1 Tryz.underlying51 hi _ (a.1.length) _ rfl (K2.row rfl) rfl ?_);go_wp2
   go_meet
   refine⟨R1,ao1,adv,by rw[hlz];rfl,?_⟩;rw[hl0,List.append_nil];exact K2
  ·have hpos:0<b.1.length:=List.length_pos_iff.2 hl0
   obtain⟨aov,M0,rfl,hcv,hf⟩:=hiv;obtain⟨vb,vo,vcs,vfr,rfl,hh,hj⟩:=hf hpos;clear hnil hl0 hf;go_wp2_with (at_builtin;refine wpList_append_lies _ rfl _ _ 51 rfl w.heap.size 3 i0 (.int .i64 0) 1 8 Tryz.underlying51 hi hz0 hz1 hz2 rfl (by decide) _ (a.1.length) _ rfl (K2.row rfl) ⟨vb,vo,none⟩ b.1.length M0 (b.1.map (Value.int .i64)) rfl (by simp) ?c1 ?c2 ?c3 ?c4 ?c5 ?c6 _ rfl ?_)
   case c1=>exact uw hh hj
   case c2=>intro u hu;obtain⟨y,_,rfl⟩:=List.mem_map.1 hu;rfl
   case c3=>exact hpos
   case c4=>unfold maxLen;omega
   case c5=>omega
   case c6=>exact K2.2.2.2.2.size
   intro g3 Xn w3 hown hgrow hat hlt;obtain⟨R3,K3⟩:=K2.app (news:=b.1) (n:=a.1.length+b.1.length) hB (by rw[bN]) hown hgrow hat (by simp) hlt;clear hown hgrow hat hlt K2 hh hj;go_wp2
   go_meet
   exact⟨R3,some ⟨g3,0,none⟩,Xn,rfl,K3⟩
 case rest =>
  obtain⟨R3,ao3,Xn,rfl,K3⟩:=hcut;clear K1 HS2
  obtain⟨w3,rfl⟩:∃ w3:World,w3=wc:=⟨_,rfl⟩
  generalize hk3:a.1++b.1=kk3 at K3 TJ;have WX:Hid (kk3.length=a.1.length+b.1.length):=ah (by rw[← hk3,bN]);have HK3:=ah hk3;clear hk3;generalize hm3:a.1.length+b.1.length=m3 at K3 WX
  have afU:m3≤80:=by omega
  clear hm3 hla hlb;have Ef:=ah (HKi.out R3 _ K3.2.2.2.1);go_wp2_with (go_at_call 107;refine Ef.out.mono ?_);rintro e w4 ⟨rfl,hq,hkq⟩;have K4:=K3.call hq hkq;clear hq hkq Ef;have hL:=K4.lit (.cells #[.int .i64 (aP E.toks 5 b.2).1] 3);have hnw:=heap_alloc_new w4 (.cells #[.int .i64 (aP E.toks 5 b.2).1] 3);go_wp2_with (at_builtin;refine wpList_append_lies _ rfl _ _ 51 rfl w.heap.size 3 i0 (.int .i64 0) 1 8 Tryz.underlying51 hi hz0 hz1 hz2 rfl (by decide) _ (m3) _ rfl (hL.row WX.out) ⟨w4.heap.size,0,none⟩ 1 1 [.int .i64 (aP E.toks 5 b.2).1] rfl rfl ?c1 ?c2 ?c3 ?c4 ?c5 ?c6 _ rfl ?_)
  case c1=>exact World.news_of_block (cs:=#[.int .i64 (aP E.toks 5 b.2).1]) (t:=3) (fr:=(0,0)) hnw
  case c2=>simp[Value.oneCell']
  case c3=>omega
  case c4=>unfold maxLen;omega
  case c5=>omega
  case c6=>exact hL.2.2.2.2.size
  intro g5 cap5 w5 hown hgrow hat hlt;obtain⟨R5,K5⟩:=hL.app (news:=[(aP E.toks 5 b.2).1]) (n:=m3+1) hB (by rw[bN,WX.out];rfl) hown hgrow hat (by simp) hlt;clear hL hnw hown hgrow hat hlt;generalize hkk:kk3++[(aP E.toks 5 b.2).1]=kk5 at K5;have HL5:Hid (kk5.length=m3+1):=ah (by rw[← hkk,bN,WX.out];rfl);have HK5:=ah hkk;clear hkk;clear K3 K4;have e5:=K5;rw[← HK5.out] at e5;have HNp:=ah (TJ.out R5 _ _ e5.2.2.2.1 e5.node);clear e5 TJ;go_wp2_with (go_at_call 106;refine HNp.out.mono ?_);rintro e w6 ⟨rfl,hq,hkq⟩;have K6:=K5.call hq hkq;go_wp2
  go_end0
  have e6:=PR.drop K6.2.2.2.1 K6.2.2.1;rw[← HK3.out] at e6;simp only[List.append_assoc] at e6 ⊢;exact⟨rfl,e6,K6.2.2.2.2⟩
theorem LD (s:ByteArray)(d:Nat)(w:World)(hd1:1≤d)(hd2:d≤200)(hs:s.size≤1099511627776)(toks:List Tok)(hl:bO s.data.toList=.ok toks)(hn:toks.length≤100000)
  (a:Int × aB) (ha:nC toks d (xB toks) startP=some a) (han:a.2.nodes.length≤2 * toks.length) (hkl:a.2.fE=0→∀ n∈a.2.nodes,n.kids.length≤1000000) :
  Calls Tryz.prog 63 #[.string s,.int .i64 d,.func (.func 64) #[] #[]] w (Ja (Ce toks a.2) w):=by
 have hpos:=(gP hl).some
 have HA:Hid (∀ (E:aT) (w:World),E.toks=toks→E.depth=d→E.ok→PW E startP w→Calls Tryz.prog 64 #[.pointer (some ⟨E.pb,0,none⟩)] w (Z9 E a.2 w)):=ah (fun E w h1 h2 hE hp=>by
  subst h1 h2
  exact LC E hE (xB E.toks) startP a w ha hp rfl (by omega))
 clear ha;generalize a.2=st at han hkl HA ⊢
 have hnl:st.nodes.length≤1000000:=by omega
 clear han
 have HL:Hid (∀ W,Calls Tryz.prog 74 #[.string s] W fun e w'=>(∃ at_ ct,e=.returned (.tuple #[.slice at_ toks.length ct,.agg #[.int .i64 0,.int .i64 0]])∧Rec w'.heap.size w' (.slice at_ toks.length ct) 4 bY toks)∧Below W.heap.size W w'):=ah fun W=>(GY s W hs).mono fun e w' h=>by
  unfold Ph at h;rw[hl] at h;obtain⟨h1,v,h2,h3⟩:=h;obtain⟨at_,ct,rfl,_,_⟩:=h3.form (fun _=>rfl);exact⟨⟨at_,ct,h2,h3⟩,h1⟩
 have hal:=(aj w (.cells #[.slice none 0 0,.slice none 0 0] 89)).alloc (by simp) (.cells #[.int .i64 0,.int .i64 0] 75);have e1:=(Lib.alloc_old (w.alloc (.cells #[.slice none 0 0,.slice none 0 0] 89)) (.cells #[.int .i64 0,.int .i64 0] 75) w.heap.size (by simp)).trans (heap_alloc_new w (.cells #[.slice none 0 0,.slice none 0 0] 89));have e2:=heap_alloc_new (w.alloc (.cells #[.slice none 0 0,.slice none 0 0] 89)) (.cells #[.int .i64 0,.int .i64 0] 75);rw[World.size_alloc] at e2
 have adl:¬ ((d:Int)<1):=by omega
 have adn:¬ ((200:Int)<(d:Int)):=by omega
 clear hl;go_enter Tryz.func63,Tryz.ntmps63
 go_upto_region 6 with (go_at_call 74;refine(HL.out _).mono ?_;rintro e w3 ⟨⟨at_,ct,rfl,hrec⟩,hb3⟩;have hz3:=hb3.size)
 rw[World.size_alloc,World.size_alloc] at hz3;have G6:=(Lib.alloc_old w3 (.cells #[.int .i64 0,.int .i64 0] 75) w.heap.size (by omega)).trans ((hb3.block w.heap.size (by simp;omega)).trans e1);have G7:=(Lib.alloc_old w3 (.cells #[.int .i64 0,.int .i64 0] 75) (w.heap.size+1) (by omega)).trans ((hb3.block (w.heap.size+1) (by simp)).trans e2);have hb4:=(hal.trans (hb3.mono (by simp;omega))).alloc (by omega) (.cells #[.int .i64 0,.int .i64 0] 75);have Qi:=hrec.below (aj w3 (.cells #[.int .i64 0,.int .i64 0] 75))
 have KI:w3.heap.size≤(w3.alloc (.cells #[.int .i64 0,.int .i64 0] 75)).heap.size:=by simp
 clear hb3 e1 e2 hal HL hrec adl adn;generalize w3.heap.size=B3 at Qi KI hz3 ⊢;generalize w3.alloc _=w4 at G6 G7 hb4 Qi KI ⊢;have HN:=ah (UH w4.heap.size _ toks w4 (Qi.mono KI) hpos (by omega))
 go_upto_region 7 with (go_at_call 100;refine HN.out.mono ?_;rintro e w5 ⟨bb,B,tv,rfl,hbw,aav,mM,hb5⟩)
 have aeT:=hbw;obtain⟨hBb,nv0,l0,hbk,_⟩:=aeT;have hblt:=(bG hbk).1;have G65:=(Lib.alloc_old w5 (.cells #[.pointer (some ⟨bb,0,none⟩),.int .i64 d,.bool false,.int .i64 0,.int .i64 0] 188) w.heap.size (by have:=hb5.size;have:=(bG G6).1;omega)).trans ((hb5.block w.heap.size (bG G6).1).trans G6);have G75:=(Lib.alloc_old w5 (.cells #[.pointer (some ⟨bb,0,none⟩),.int .i64 d,.bool false,.int .i64 0,.int .i64 0] 188) (w.heap.size+1) (by have:=hb5.size;have:=(bG G7).1;omega)).trans ((hb5.block (w.heap.size+1) (bG G7).1).trans G7);have hb6:=(hb4.trans (hb5.mono hb4.size)).alloc (by have:=hb4.size;have:=hb5.size;omega) (.cells #[.pointer (some ⟨bb,0,none⟩),.int .i64 d,.bool false,.int .i64 0,.int .i64 0] 188)
 have hPW:PW ⟨[],B,w5.heap.size,bb,tv,toks,d⟩ startP (w5.alloc (.cells #[.pointer (some ⟨bb,0,none⟩),.int .i64 d,.bool false,.int .i64 0,.int .i64 0] 188)) :=
  ⟨heap_alloc_new _ _,hbw.later (aj _ _),aav.below ((aj w5 _).mono (by omega)),by show B≤w5.heap.size;omega,Nat.zero_le _,fun r hr=>by cases hr⟩
 have hBw:w.heap.size≤B:=Nat.le_trans hb4.size mM;have HAL:=ah (HA.out ⟨[],B,w5.heap.size,bb,tv,toks,d⟩ _ rfl rfl ⟨hpos,by show toks.length≤_;omega,by show d≤1000;omega⟩ hPW);clear HN HA hbw aav hb5 hb4 G6 G7 Qi hPW hbk;generalize w5.heap.size=pb at HAL ⊢;generalize w5.alloc _=w6 at G65 G75 hb6 HAL ⊢
 go_upto_region 8 with (go_at_call 64;refine HAL.out.mono ?_;rintro e w7 ⟨rfl,Ew,AQ⟩)
 have G67:=AQ.2 _ _ _ _ G65 (by decide) (by decide) (by decide);have G77:=AQ.2 _ _ _ _ G75 (by decide) (by decide) (by decide);have rZ:Below w.heap.size w w7:=hb6.trans (AQ.1.mono hBw);have HOK:=ah (qW _ st w7 Ew);obtain⟨c0,c1,c2,c3,c4,cz⟩:=Ew.cells;obtain⟨h1,yc,Qj,_⟩:=Ew;obtain⟨q0,q1,qz⟩:=mQ G67;obtain⟨p0,p1,pz⟩:=fU G77;clear AQ HAL h1 G65 G75 hb6;simp only at c0 c1 c2 c3 c4 yc Qj
 by_cases hf:st.fE=0
 ·have hok:okB st=true:=by unfold okB;simp[hf]
  rw[hok] at HOK;have HD:=ah (Xj _ B bb tv toks st.nodes st.used w7 yc Qj hpos (by omega) hnl (hkl hf));have Lg:Hid (Ce toks st=.good toks st.nodes):=ah (by rw[Ce,if_pos hf]);clear hok hf yc Qj c1 c2 c3 c4 q0 q1 qz p0 p1 pz;rw[Lg.out]
  go_upto_region 10 with (go_at_call 101;refine HOK.out.mono ?_;rintro e w8 ⟨rfl,rfl⟩)
  go_wp2_with (go_at_call 102;refine HD.out.mono ?_;rintro e w9 ⟨v9,rfl,ht9,Az⟩;obtain⟨at9,Xo,ZI,ZJ,rfl⟩:=ht9.at.slices;have G69:=(Az.block w.heap.size (bG G67).1).trans G67;have G79:=(Az.block (w.heap.size+1) (bG G77).1).trans G77;obtain⟨q0,q1,qz⟩:=mQ G69;obtain⟨p0,p1,pz⟩:=fU G79);have T1:=ht9.set G69 (by decide) (by decide) (by decide) 0 (.slice at9 toks.length Xo);have G1:=heap_setCell_same w9 w.heap.size 0 _ _ (.slice at9 toks.length Xo) G69;have T2:=T1.set G1 (by decide) (by decide) (by decide) 1 (.slice ZI st.nodes.length ZJ)
  have F1:((w9.setCell ⟨w.heap.size,0,none⟩ (.slice at9 toks.length Xo)).setCell ⟨w.heap.size,1,none⟩ (.slice ZI st.nodes.length ZJ)).heap[w.heap.size+1]?=some (.cells #[.int .i64 0,.int .i64 0] 75 (0,0)):=by
   rw[heap_setCell_other _ _ _ _ (by show w.heap.size+1≠w.heap.size;omega),heap_setCell_other _ _ _ _ (by show w.heap.size+1≠w.heap.size;omega)];exact G79
  have T3:=T2.set F1 (by decide) (by decide) (by decide) 0 (.int .i64 0);have F2:=heap_setCell_same _ (w.heap.size+1) 0 _ _ (.int .i64 0) F1;have T4:=T3.set F2 (by decide) (by decide) (by decide) 1 (.int .i64 0);have ZC:=rZ.trans (Az.mono rZ.size);refine bodyPost_ret (v:=.tuple #[.agg #[.slice at9 toks.length Xo,.slice ZI st.nodes.length ZJ],.agg #[.int .i64 0,.int .i64 0]]) (by simp[results,Tryz.results63,go_sem,q0,q1,p0,p1]) rfl ?_;rw[Lg.out];exact⟨(((ZC.setCell (by simp) _).setCell (by simp) _).setCell (by simp) _).setCell (by simp) _,at9,Xo,ZI,ZJ,rfl,T4⟩
 ·have hok:okB st=false:=by unfold okB;simp[hf]
  rw[hok] at HOK;have Lg:Hid (Ce toks st=.bad st.fE st.Ya):=ah (by rw[Ce,if_neg hf]);clear hok hf yc Qj c1 c2 hkl hnl
  go_upto_region 9 with (go_at_call 101;refine HOK.out.mono ?_;rintro e w8 ⟨rfl,rfl⟩)
  go_region
  go_wp2;refine bodyPost_ret (v:=.tuple #[.agg #[.slice none 0 0,.slice none 0 0],.agg #[.int .i64 st.fE,.int .i64 st.Ya]]) (by simp[results,Tryz.results63,go_sem,q0,q1,p0,p1]) rfl ?_;rw[Lg.out];exact⟨((((rZ.setCell (by simp) _).setCell (by simp) _).setCell (by simp) _).setCell (by simp) _).drew,rfl⟩
theorem Te (s:ByteArray)(d:Nat)(w:World)(hd1:1≤d)(hd2:d≤200)(hs:s.size≤1099511627776) :
  Calls Tryz.prog 63 #[.string s,.int .i64 d,.func (.func 64) #[] #[]] w (Ja (gX s.data.toList d) w):=by
 cases hl:bO s.data.toList with
 | error x =>
  have hf:=(qP hl).2
  have e:gX s.data.toList d=.bad x.1 x.2:=by rw[gX,hl]
  rw[e];exact LB s d _ w hd1 hd2 hs x.1 x.2 hl (by omega)
 | ok toks =>
  have hL:=gP hl
  have hlen:toks.length≤65537:=by
   have h1:=hL.count;unfold bO at hl
   split at hl
   ·cases hl
   ·omega
  obtain⟨a,ha⟩:=zW hL.UR d startP;have h3:=FI ha;have h4:=FC ha (Nat.zero_le _);unfold Slk at h3;simp only[startP,List.length_nil] at h3
  have e:gX s.data.toList d=Ce toks a.2:=by
   rw[gX,hl];simp only;rw[ha]
  rw[e]
  refine LD s d w hd1 hd2 hs toks hl (by omega) a ha (by omega) fun hf n hm=>?_
  obtain⟨q,he,_⟩:=Pw hL ha hf
  have g1:a.2.nodes.length=q.pt.nd:=by rw[he,PT.qQ]
  rw[he] at hm;have:=Hw _ _ _ n hm;omega
theorem qL (s:ByteArray)(d:Nat)(w:World)(hd1:1≤d)(hd2:d≤200)(hs:s.size≤1099511627776) :
  Calls Tryz.prog 36 #[.string s,.int .i64 d] w (Ja (gX s.data.toList d) w):=by
 have HR:=ah (fun W=>Te s d W hd1 hd2 hs);have hal:=(aj w (.cells #[.slice none 0 0,.slice none 0 0] 89)).alloc (by simp) (.cells #[.int .i64 0,.int .i64 0] 75);have e1:=(Lib.alloc_old (w.alloc (.cells #[.slice none 0 0,.slice none 0 0] 89)) (.cells #[.int .i64 0,.int .i64 0] 75) w.heap.size (by simp)).trans (heap_alloc_new w (.cells #[.slice none 0 0,.slice none 0 0] 89));have e2:=heap_alloc_new (w.alloc (.cells #[.slice none 0 0,.slice none 0 0] 89)) (.cells #[.int .i64 0,.int .i64 0] 75);rw[World.size_alloc] at e2
 have HB:Hid (∀ w9,Below ((w.alloc (.cells #[.slice none 0 0,.slice none 0 0] 89)).alloc (.cells #[.int .i64 0,.int .i64 0] 75)).heap.size ((w.alloc (.cells #[.slice none 0 0,.slice none 0 0] 89)).alloc (.cells #[.int .i64 0,.int .i64 0] 75)) w9→Below w.heap.size w w9∧w9.heap[w.heap.size]?=some (.cells #[.slice none 0 0,.slice none 0 0] 89 (0,0))∧w9.heap[w.heap.size+1]?=some (.cells #[.int .i64 0,.int .i64 0] 75 (0,0))):=ah fun w9 hb=>⟨hal.trans (hb.mono (by simp;omega)),(hb.block w.heap.size (by simp;omega)).trans e1,(hb.block (w.heap.size+1) (by simp)).trans e2⟩
 clear hal e1 e2;generalize gX s.data.toList d=r at HR ⊢;go_enter Tryz.func36,Tryz.ntmps36
 cases r with
 | bad c a =>
  go_wp2_with (go_at_call 63;refine(HR.out _).mono ?_;rintro e w9 ⟨Az,rfl⟩;obtain⟨hb,G6,G7⟩:=HB.out w9 Az;obtain⟨q0,q1,qz⟩:=mQ G6;obtain⟨p0,p1,pz⟩:=fU G7);refine bodyPost_ret (v:=.tuple #[.agg #[.slice none 0 0,.slice none 0 0],.agg #[.int .i64 c,.int .i64 a]]) (by simp[results,Tryz.results36,go_sem,q0,q1,p0,p1]) rfl ?_;exact⟨(((hb.setCell (by simp) _).setCell (by simp) _).setCell (by simp) _).setCell (by simp) _,rfl⟩
 | good toks nodes =>
  go_wp2_with (go_at_call 63;refine(HR.out _).mono ?_;rintro e w9 ⟨Az,at9,Xo,ZI,ZJ,rfl,ht9⟩;obtain⟨hb,G69,G79⟩:=HB.out w9 Az;obtain⟨q0,q1,qz⟩:=mQ G69;obtain⟨p0,p1,pz⟩:=fU G79);have T1:=ht9.set G69 (by decide) (by decide) (by decide) 0 (.slice at9 toks.length Xo);have G1:=heap_setCell_same w9 w.heap.size 0 _ _ (.slice at9 toks.length Xo) G69;have T2:=T1.set G1 (by decide) (by decide) (by decide) 1 (.slice ZI nodes.length ZJ)
  have F1:((w9.setCell ⟨w.heap.size,0,none⟩ (.slice at9 toks.length Xo)).setCell ⟨w.heap.size,1,none⟩ (.slice ZI nodes.length ZJ)).heap[w.heap.size+1]?=some (.cells #[.int .i64 0,.int .i64 0] 75 (0,0)):=by
   rw[heap_setCell_other _ _ _ _ (by show w.heap.size+1≠w.heap.size;omega),heap_setCell_other _ _ _ _ (by show w.heap.size+1≠w.heap.size;omega)];exact G79
  have T3:=T2.set F1 (by decide) (by decide) (by decide) 0 (.int .i64 0);have F2:=heap_setCell_same _ (w.heap.size+1) 0 _ _ (.int .i64 0) F1;have T4:=T3.set F2 (by decide) (by decide) (by decide) 1 (.int .i64 0);refine bodyPost_ret (v:=.tuple #[.agg #[.slice at9 toks.length Xo,.slice ZI nodes.length ZJ],.agg #[.int .i64 0,.int .i64 0]]) (by simp[results,Tryz.results36,go_sem,q0,q1,p0,p1]) rfl ?_;exact⟨(((hb.setCell (by simp) _).setCell (by simp) _).setCell (by simp) _).setCell (by simp) _,at9,Xo,ZI,ZJ,rfl,T4⟩
theorem Xp (B:Nat)(w:World)(sz:Nat):Sl B w (.slice none 0 0) sz 0 []:=⟨none,0,rfl,Nat.le_refl _,by simp,fun h=>absurd h (by omega)⟩
theorem ZL (w:World):aN 0 w (.agg #[.slice none 0 0,.slice none 0 0]) [] []:=⟨_,_,[],rfl,Xp _ _ _,rfl,Xp _ _ _,fun p hp=>by cases hp⟩
theorem Tf {toks:List Tok}{nodes:List Nd}{D:List UInt8}(G:Ac toks nodes D)(B:Nat)(tv nv:Value)(w:World)(h:aN B w (.agg #[tv,nv]) toks nodes)(hB:B≤w.heap.size) :
  Calls Tryz.prog 175 #[.agg #[tv,nv],.int .i64 ((nodes.length:Int) - 1)] w fun e w'=>e=.returned (.int .i64 0)∧Below w.heap.size w w':=by
 have hR:=fun W (hW:Below w.heap.size w W)=>FX B tv nv toks nodes (sG 0 toks.length) (nodes.length+1) W (h.below (hW.mono hB)) (Nat.le_trans hB hW.size) G.few G.kids (fun _ _ _ _=>G.leaves) (by simp[sG];have:=G.RG;omega) (by have:=G.RG;omega)
 rw[G.right] at hR;have hp:=G.pos;have hf:=G.few;obtain⟨at_,ct,an,cn,hv⟩:=h.slices;simp only[Value.agg.injEq,Array.mk.injEq,List.cons.injEq,and_true] at hv;obtain⟨rfl,rfl⟩:=hv
 have hI1:((nodes.length:Int) - 1)<(nodes.length:Int):=by omega
 have hI0:0≤((nodes.length:Int) - 1):=by omega
 have HR:=ah hR;have hbb:=(Below.refl w.heap.size w).alloc (Nat.le_refl _) (.cells #[.slice at_ toks.length ct,.slice an nodes.length cn] 89);have e1:=heap_alloc_new w (.cells #[.slice at_ toks.length ct,.slice an nodes.length cn] 89);clear h G hR;go_enter Tryz.func175,Tryz.ntmps175
 go_upto_region 3 with (go_at_call 237;refine(HR.out _ hbb).mono ?_;rintro e w3 ⟨rfl,hb3⟩)
 have T3:=(hb3.block w.heap.size (by simp)).trans e1;obtain⟨c0,c1⟩:=bq T3;have hb4:=hbb.trans (hb3.mono (by simp));clear hb3 e1 T3 HR hbb;go_wp2;go_ret;exact⟨rfl,hb4⟩
theorem Xq (n:Int)(w:World) :
  Calls Tryz.prog 175 #[.agg #[.slice none 0 0,.slice none 0 0],.int .i64 n] w fun e w'=>e=.returned (.int .i64 10)∧Below w.heap.size w w':=by
 have hT:∀ W:World,aN 0 W (.agg #[.slice none 0 0,.slice none 0 0]) [] []:=ZL
 have hR:=fun W=>FX 0 (.slice none 0 0) (.slice none 0 0) [] [] [] 0 W (hT W) (Nat.zero_le _) (by decide) (fun n hn=>by cases hn) (fun kid hk h0 _=>absurd (by
  rw[nT,kN] at hk
  injection hk with hk
  rw[← hk]
  rfl) h0) (by decide) (by decide)
 have e:jZ ([]:List Tok).length [] []=false:=by decide
 rw[e] at hR;have HR:=ah hR;have hbb:=(Below.refl w.heap.size w).alloc (Nat.le_refl _) (.cells #[.slice none 0 0,.slice none 0 0] 89);clear hT hR e;go_enter Tryz.func175,Tryz.ntmps175;go_wp2_with (go_at_call 237;refine(HR.out _).mono ?_;rintro e w3 ⟨rfl,hb3⟩);go_ret;exact⟨rfl,hbb.trans (hb3.mono (by simp))⟩
theorem ZM (n:Int)(w:World) :
  Calls Tryz.prog 108 #[.agg #[.slice none 0 0,.slice none 0 0],.int .i64 n] w fun e w'=>e=.returned (.tuple #[.string ⟨#[]⟩,.int .i64 10])∧Below w.heap.size w w':=by
 have HR:=ah (fun W=>Xq n W);have hbb:=(Below.refl w.heap.size w).alloc (Nat.le_refl _) (.cells #[.slice none 0 0,.slice none 0 0] 89);go_enter Tryz.func108,Tryz.ntmps108;go_wp2_with (go_at_call 175;refine(HR.out _).mono ?_;rintro e w3 ⟨rfl,hb3⟩);go_ret2;exact⟨rfl,hbb.trans (hb3.mono (by simp))⟩
theorem LG {toks:List Tok}{nodes:List Nd}{D:List UInt8}(G:Ac toks nodes D)(B:Nat)(tv nv:Value)(w:World)(h:aN B w (.agg #[tv,nv]) toks nodes)(hB:B≤w.heap.size) :
  Calls Tryz.prog 108 #[.agg #[tv,nv],.int .i64 ((nodes.length:Int) - 1)] w fun e w'=>e=.returned (.tuple #[.string ⟨D.toArray⟩,.int .i64 0])∧Below w.heap.size w w':=by
 have HR:=ah (fun W (hW:Below w.heap.size w W)=>Tf G B tv nv W (h.below (hW.mono hB)) (Nat.le_trans hB hW.size));have hdl:=G.adX;have HD:=ah (fun W (hW:Below w.heap.size w W)=>FY G B W.heap.size W.heap.size tv nv nodes.length ((nodes.length:Int) - 1) D [] (W.alloc (.cells #[.pointer none,.slice none 0 0] 153)) (h.below ((hW.alloc hW.size _).mono hB)) (Nat.le_trans hB hW.size) (jO.fresh W) (by simp) G.dump (by rw[List.length_nil];omega));obtain⟨at_,ct,an,cn,hv⟩:=h.slices;simp only[Value.agg.injEq,Array.mk.injEq,List.cons.injEq,and_true] at hv;obtain⟨rfl,rfl⟩:=hv;have hbb:=(Below.refl w.heap.size w).alloc (Nat.le_refl _) (.cells #[.slice at_ toks.length ct,.slice an nodes.length cn] 89);have e1:=heap_alloc_new w (.cells #[.slice at_ toks.length ct,.slice an nodes.length cn] 89);clear h G;go_enter Tryz.func108,Tryz.ntmps108
 go_upto_region 4 with (go_at_call 175;refine(HR.out _ hbb).mono ?_;rintro e w3 ⟨rfl,hb3⟩)
 have T3:=(hb3.block w.heap.size (by simp)).trans e1;have hb4:=hbb.trans (hb3.mono (by simp));have HD3:=ah (HD.out w3 hb4);have T4:=(Lib.alloc_old w3 (.cells #[.pointer none,.slice none 0 0] 153) w.heap.size (bG T3).1).trans T3;have hb5:=hb4.alloc hb4.size (.cells #[.pointer none,.slice none 0 0] 153);obtain⟨c0,c1⟩:=bq T4;have hz3:=hb4.size;clear hb3 e1 T3 T4 HR hbb HD;go_wp2_with (first|(go_at_call 176;refine HD3.out.mono ?_;rintro e w6 ⟨rfl,adw,hl6,ho6⟩;rw[List.nil_append] at adw;have hz6:=hl6.size;simp only[World.size_alloc] at hz6)|(go_at_call 77;refine(zS w3.heap.size w3.heap.size D _ adw (by omega)).mono ?_;rintro e w7 ⟨rfl,afV,hl7,ho7⟩));go_ret2;exact⟨rfl,hb5.trans ((hl6.mono hz3).trans (hl7.mono hz3))⟩
theorem LH (B:Nat)(tv nv:Value)(toks:List Tok)(w:World)(hl:toks.length≤1099511627776)(hn:fP toks toks.length≤1099511627776)(h:Rec B w tv 4 bY toks)(hB:B≤w.heap.size) :
  Calls Tryz.prog 109 #[.agg #[tv,nv]] w fun e w'=>e=.returned (.string ⟨(gq toks).toArray⟩)∧Below w.heap.size w w':=by
 have HW:=ah (fun W (hW:Below w.heap.size w W)=>QI tv toks W hl hn ((h.below (hW.mono hB)).mono (Nat.le_trans hB hW.size)));obtain⟨X,hX,eX⟩:=iM (gq toks);rw[eX] at HW ⊢;have hbb:=(Below.refl w.heap.size w).alloc (Nat.le_refl _) (.cells #[tv,nv] 89);clear h;go_enter Tryz.func109,Tryz.ntmps109;go_wp2_with (go_at_call 177;refine(HW.out _ hbb).mono ?_;rintro e w3 ⟨rfl,hb3⟩);go_ret;exact⟨rfl,hbb.trans (hb3.mono (by simp))⟩
theorem qM (at_:Option Addr)(nt ct:Nat)(an:Option Addr)(n cn:Nat)(w:World)(hn:n≤1099511627776) :
  Calls Tryz.prog 66 #[.agg #[.slice at_ nt ct,.slice an n cn]] w fun e w'=>e=.returned (.int .i64 ((n:Int) - 1))∧Below w.heap.size w w':=JK _ an n cn w hn
theorem ZN (B:Nat)(at_:Option Addr)(ct:Nat)(an:Option Addr)(cn:Nat)(S:ByteArray)(toks:List Tok)(nodes:List Nd)(D:List UInt8)(w:World)(h:aN B w (.agg #[.slice at_ toks.length ct,.slice an nodes.length cn]) toks nodes)(hB:B≤w.heap.size)
  (G:Ac toks nodes D) (hS:S.size≤65536) (hw:gq toks=S.data.toList) (hf:gX S.data.toList 200=.good toks nodes) :
  Calls Tryz.prog 65 #[.agg #[.slice at_ toks.length ct,.slice an nodes.length cn],.func (.func 36) #[] #[]] w fun e w'=>e=.returned (.bool true)∧Below w.heap.size w w':=by
 have hft:=G.RG;have hfn:=G.few;obtain⟨XD,hXD,eX⟩:=iM D
 have Gy:Hid (∀ (B:Nat) (at_:Option Addr) (ct:Nat) (an:Option Addr) (cn:Nat) (W:World),aN B W (.agg #[.slice at_ toks.length ct,.slice an nodes.length cn]) toks nodes→B≤W.heap.size→Calls Tryz.prog 108 #[.agg #[.slice at_ toks.length ct,.slice an nodes.length cn],.int .i64 ((nodes.length:Int) - 1)] W fun e w'=>e=.returned (.tuple #[.string XD,.int .i64 0])∧Below W.heap.size W w') :=
  ah fun B at_ ct an cn W hT hBW=>(LG G B _ _ W hT hBW).mono fun e w' h=>⟨by rw[h.1,eX],h.2⟩
 have hlen:fP toks toks.length≤1099511627776:=by
  rw[← Bz,hw,aK];omega
 have eS:ByteArray.mk (S.data.toList).toArray=S:=by cases S;simp
 have LJ:Hid (∀ W,Below w.heap.size w W→Calls Tryz.prog 109 #[.agg #[.slice at_ toks.length ct,.slice an nodes.length cn]] W fun e w'=>e=.returned (.string S)∧Below W.heap.size W w'):=ah fun W hW=>by
  obtain⟨tv',nv',l,e1,e2,_⟩:=h.below (hW.mono hB);simp only[Value.agg.injEq,Array.mk.injEq,List.cons.injEq,and_true] at e1;obtain⟨rfl,rfl⟩:=e1;have:=LH B (.slice at_ toks.length ct) (.slice an nodes.length cn) toks W (by omega) hlen e2 (Nat.le_trans hB hW.size);rw[hw,eS] at this;exact this
 have yC:=ah (fun W=>qL S 200 W (by omega) (by omega) (by omega));rw[hf] at yC;have HT:=ah h;have hal:=aj w (.cells #[.slice at_ toks.length ct,.slice an nodes.length cn] 89);have e1:=heap_alloc_new w (.cells #[.slice at_ toks.length ct,.slice an nodes.length cn] 89);clear h G hf hw hXD eX eS hlen;go_enter Tryz.func65,Tryz.ntmps65
 go_upto_region 1 with fail
 generalize w.alloc _=w1 at hal e1 ⊢;obtain⟨c0,c1⟩:=bq e1;have hl1:=(bG e1).1
 go_cut [5,6] (fun a e wx=>a=.string XD∧e=.int .i64 0∧wx.heap[w.heap.size]?=some (.cells #[.slice at_ toks.length ct,.slice an nodes.length cn] 89 (0,0))∧Below w.heap.size w wx)
 case first =>
  go_region_with (first|(go_at_call 66;refine(qM at_ toks.length ct an nodes.length cn _ (by omega)).mono ?_;rintro e w5 ⟨rfl,hb5⟩;have d0:=(hb5.cell (p:=⟨w.heap.size,0,none⟩) hl1).trans c0;have d1:=(hb5.cell (p:=⟨w.heap.size,1,none⟩) hl1).trans c1)|(go_at_call 108;refine(Gy.out B at_ ct an cn _ (HT.out.below ((hal.drew.trans (hb5.mono hal.size)).mono hB)) (Nat.le_trans hB (hal.drew.trans (hb5.mono hal.size)).size)).mono ?_;rintro e w6 ⟨rfl,hb6⟩))
  all_goals
   have xR:=hal.drew.trans (hb5.mono hal.size);have T6:=(hb6.block w.heap.size (Nat.lt_of_lt_of_le hl1 hb5.size)).trans ((hb5.block w.heap.size hl1).trans e1);go_wp2_with fail
   go_meet
   exact⟨rfl,rfl,T6,xR.trans (hb6.mono xR.size)⟩
 case rest =>
  obtain⟨rfl,rfl,hT,hbc⟩:=hcut;clear hal e1 c0 c1 hl1 w1
  obtain⟨wo,rfl⟩:∃ wo:World,wo=wc:=⟨_,rfl⟩
  obtain⟨c0,c1⟩:=bq hT
  go_upto_region 3 with (first|(go_at_call 109;refine(LJ.out _ hbc).mono ?_;rintro e w7 ⟨rfl,rZ⟩)|(go_at_call 36;refine(yC.out _).mono ?_;rintro e w8 ⟨jq,a8,c8,b8,d8,rfl,ht8⟩))
  have OP:=(hbc.trans (rZ.mono hbc.size))
  have Jd:=OP.trans (jq.mono OP.size);have hT8:=(jq.block w.heap.size (Nat.lt_of_lt_of_le (bG hT).1 rZ.size)).trans ((rZ.block w.heap.size (bG hT).1).trans hT);have vK:=(bG hT8).1;have r9:=(aj w8 (.cells #[.slice a8 toks.length c8,.slice b8 nodes.length d8] 89)).alloc (by simp) (.cells #[.int .i64 0,.int .i64 0] 75);have hT9:=(r9.block w.heap.size vK).trans hT8;have TK:=(Lib.alloc_old (w8.alloc (.cells #[.slice a8 toks.length c8,.slice b8 nodes.length d8] 89)) (.cells #[.int .i64 0,.int .i64 0] 75) w8.heap.size (by simp)).trans (heap_alloc_new w8 (.cells #[.slice a8 toks.length c8,.slice b8 nodes.length d8] 89));have hF9:=heap_alloc_new (w8.alloc (.cells #[.slice a8 toks.length c8,.slice b8 nodes.length d8] 89)) (.cells #[.int .i64 0,.int .i64 0] 75);rw[World.size_alloc] at hF9;have hU:=ah (ht8.at.below r9);have Az:=Jd.trans (r9.mono Jd.size);have TH:=r9.size;clear rZ jq hT8 r9 ht8 OP hT hbc c0 c1 LJ yC;generalize w8.heap.size=ub at TK hF9 hU TH vK Jd ⊢;generalize (w8.alloc _).alloc _=w9 at hT9 TK hF9 hU Az TH ⊢;obtain⟨c0,c1⟩:=bq TK;have hl9:=(bG TK).1;have hlT:=(bG hT9).1;have hlF:=(bG hF9).1
  go_cut [9,10] (fun a e wx=>a=.string XD∧e=.int .i64 0∧Below w9.heap.size w9 wx)
  case first =>
   go_region_with (first|(go_at_call 66;refine(qM a8 toks.length c8 b8 nodes.length d8 _ (by omega)).mono ?_;rintro e w5 ⟨rfl,hb5⟩;have d0:=(hb5.cell (p:=⟨ub,0,none⟩) hl9).trans c0;have d1:=(hb5.cell (p:=⟨ub,1,none⟩) hl9).trans c1)|(go_at_call 108;refine(Gy.out ub a8 c8 b8 d8 _ (hU.out.below (((Below.refl w9.heap.size w9).drew.trans hb5).mono TH)) (Nat.le_trans TH hb5.size)).mono ?_;rintro e w6 ⟨rfl,hb6⟩))
   all_goals
    have xR:=(Below.refl w9.heap.size w9).drew.trans hb5;go_wp2_with fail
    go_meet
    exact⟨rfl,rfl,xR.trans (hb6.mono xR.size)⟩
  case rest =>
   obtain⟨rfl,rfl,hbc⟩:=hcut;have hTc:=(hbc.block _ hlT).trans hT9;have hUc:=(hbc.block _ hl9).trans TK;have hFc:=(hbc.block _ hlF).trans hF9;have HU:=ah (hU.out.below (hbc.mono TH));have hbw:Below w.heap.size w wc:=Az.trans (hbc.mono Az.size);have HT2:=ah (HT.out.below (hbw.mono hB));clear hT9 TK hF9 hU Az TH vK Jd c0 c1 hl9 hlT hlF hbc Gy HT
   obtain⟨wo,rfl⟩:∃ wo:World,wo=wc:=⟨_,rfl⟩
   obtain⟨c0,c1⟩:=bq hTc;obtain⟨u0,u1⟩:=bq hUc;obtain⟨f0,f1,_⟩:=fU hFc;have hlU:=(bG hUc).1;have hzo:=hbw.size;go_wp2;clear c0 c1 u0 u1 f0 f1
   go_loopw [58] (fun q wr=>∃ k:Nat,k≤toks.length∧q=.int .i64 k∧Below wo.heap.size wo wr) (fun q _=>toks.length - (intOf q).toNat)
   case atStart=>exact⟨0,Nat.zero_le _,rfl,Below.refl _ _⟩
   case round =>
    obtain⟨k,hk,rfl,hbl⟩:=hrel;have hwz:=hbl.size
    by_cases hlt:k<toks.length
    ·obtain⟨b1,o1,adv,ev,hb1,t0,t1,t2,t3⟩:=HT2.out.tok hlt
     simp only[Value.slice.injEq] at ev;obtain⟨rfl,-,rfl⟩:=ev;obtain⟨b2,o2,cap2,ev,hb2,s0,s1,s2,s3⟩:=HU.out.tok hlt;simp only[Value.slice.injEq] at ev;obtain⟨rfl,-,rfl⟩:=ev;have x0:=(hbl.cell (p:=⟨b1,o1+k * 4,none⟩) (by show b1<_;omega)).trans t0;have x1:=(hbl.cell (p:=⟨b1,o1+k * 4+1,none⟩) (by show b1<_;omega)).trans t1;have x2:=(hbl.cell (p:=⟨b1,o1+k * 4+2,none⟩) (by show b1<_;omega)).trans t2;have x3:=(hbl.cell (p:=⟨b1,o1+k * 4+3,none⟩) (by show b1<_;omega)).trans t3;generalize toks[k]=tk at x0 x1 x2 x3 s0 s1 s2 s3;simp only[dh] at x1 x2 s1 s2;have hal:=aj wr (.cells #[.int .i64 tk.kind,.string ⟨tk.lead.toArray⟩,.string ⟨tk.text.toArray⟩,.int .i64 tk.place] 136);have hba:=hbl.trans (hal.mono hwz);have y0:=(hba.cell (p:=⟨b2,o2+k * 4,none⟩) (by show b2<_;omega)).trans s0;have y1:=(hba.cell (p:=⟨b2,o2+k * 4+1,none⟩) (by show b2<_;omega)).trans s1;have y2:=(hba.cell (p:=⟨b2,o2+k * 4+2,none⟩) (by show b2<_;omega)).trans s2;have y3:=(hba.cell (p:=⟨b2,o2+k * 4+3,none⟩) (by show b2<_;omega)).trans s3;have U2:=(hba.block ub hlU).trans hUc;have N2:=heap_alloc_new wr (.cells #[.int .i64 tk.kind,.string ⟨tk.lead.toArray⟩,.string ⟨tk.text.toArray⟩,.int .i64 tk.place] 136)
     have oH:(k:Int)<(toks.length:Int):=by omega
     clear t0 t1 t2 t3 s0 s1 s2 s3 hal
     go_upto_region 9 with fail
     clear x0 x1 x2 x3;generalize wr.heap.size=nb at N2 ⊢;generalize wr.alloc _=w2 at hba y0 y1 y2 y3 U2 N2 ⊢;obtain⟨d0,d1⟩:=bq U2
     have n0:w2.cell? ⟨nb,0,none⟩=some (.int .i64 tk.kind):=by rw[Lib.cell_of_heap N2];rfl
     have n1:w2.cell? ⟨nb,1,none⟩=some (.string ⟨tk.lead.toArray⟩):=by rw[Lib.cell_of_heap N2];rfl
     have n2:w2.cell? ⟨nb,2,none⟩=some (.string ⟨tk.text.toArray⟩):=by rw[Lib.cell_of_heap N2];rfl
     have n3:w2.cell? ⟨nb,3,none⟩=some (.int .i64 tk.place):=by rw[Lib.cell_of_heap N2];rfl
     clear N2 U2
     go_quiet (fail)
     go_wp2
     go_roundw
     case rel=>exact⟨k+1,by omega,by go_num,⟨hba.os,hba.tape,hba.output,hba.size,hba.block⟩⟩
     case measure=>simp[intOf];omega
    ·obtain rfl:k=toks.length:=by omega
     have oH:decide ((toks.length:Int)<(toks.length:Int))=false:=decide_eq_false (by omega);go_wp2;go_ret;exact⟨rfl,hbw.trans (hbl.mono hzo)⟩
end Go.Proofs.YtknicmmigbhpcaaGreatDoor
