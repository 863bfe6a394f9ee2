/- Walks and plain laws: ProgW, TdumpW2, AsP. -/
import Derived.Test.YtknicmmigbhpcaaGreatDoorF37
import Derived.Test.YtknicmmigbhpcaaGreatDoorF21
set_option maxHeartbeats 16000000
set_option maxRecDepth 100000
set_option linter.unusedVariables false
set_option linter.unusedSimpArgs false
namespace Go.Proofs.YtknicmmigbhpcaaGreatDoor
open Go.RowKit Go
theorem M9 (s:ByteArray)(d:Nat)(w:World)(hd1:1≤d)(hd2:d≤200)(hs:s.size≤1099511627776)(toks:List Tok)(hl:bH s.data.toList=.ok toks)(hn:toks.length≤100000)
  (a:Int × aB) (ha:nZ toks d (xZ toks) startP=some a) (han:a.2.nodes.length≤2 * toks.length) (hkl:a.2.fE=0→∀ n∈a.2.nodes,n.kids.length≤1000000) :
  Calls Tryz.prog 63 #[.string s,.int .i64 d,.func (.func 64) #[] #[]] w (Jo (CP toks a.2) w):=by
 have hpos:=(iy hl).some
 have HA:Hid (∀ (E:aW) (w:World),E.toks=toks→E.depth=d→E.ok→PW E startP w→Calls Tryz.prog 64 #[.pointer (some ⟨E.pb,0,none⟩)] w (aaD E a.2 w)):=ah (fun E w h1 h2 hE hp=>by
  subst h1 h2
  exact M8 E hE (xZ E.toks) startP a w ha hp rfl (by omega))
 clear ha;generalize a.2=st at han hkl HA ⊢
 have hnl:st.nodes.length≤1000000:=by omega
 clear han
 have HL:Hid (∀ W,Calls Tryz.prog 74 #[.string s] W fun e w'=>(∃ at_ ct,e=.returned (.tuple #[.slice at_ toks.length ct,.agg #[.int .i64 0,.int .i64 0]])∧Rec w'.heap.size w' (.slice at_ toks.length ct) 4 bK toks)∧Below W.heap.size W w'):=ah fun W=>(Hf s W hs).mono fun e w' h=>by
  unfold Qx at h;rw[hl] at h;obtain⟨h1,v,h2,h3⟩:=h;obtain⟨at_,ct,rfl,_,_⟩:=h3.form (fun _=>rfl);exact⟨⟨at_,ct,h2,h3⟩,h1⟩
 have hal:=(aj w (.cells #[.slice none 0 0,.slice none 0 0] 89)).alloc (by simp) (.cells #[.int .i64 0,.int .i64 0] 75);have e1:=(Lib.alloc_old (w.alloc (.cells #[.slice none 0 0,.slice none 0 0] 89)) (.cells #[.int .i64 0,.int .i64 0] 75) w.heap.size (by simp)).trans (heap_alloc_new w (.cells #[.slice none 0 0,.slice none 0 0] 89));have e2:=heap_alloc_new (w.alloc (.cells #[.slice none 0 0,.slice none 0 0] 89)) (.cells #[.int .i64 0,.int .i64 0] 75);rw[World.size_alloc] at e2
 have adL:¬ ((d:Int)<1):=by omega
 have adM:¬ ((200:Int)<(d:Int)):=by omega
 clear hl;go_enter Tryz.func63,Tryz.ntmps63
 go_upto_region 6 with (go_at_call 74;refine(HL.out _).mono ?_;rintro e w3 ⟨⟨at_,ct,rfl,hrec⟩,hb3⟩;have hz3:=hb3.size)
 rw[World.size_alloc,World.size_alloc] at hz3;have G6:=(Lib.alloc_old w3 (.cells #[.int .i64 0,.int .i64 0] 75) w.heap.size (by omega)).trans ((hb3.block w.heap.size (by simp;omega)).trans e1);have G7:=(Lib.alloc_old w3 (.cells #[.int .i64 0,.int .i64 0] 75) (w.heap.size+1) (by omega)).trans ((hb3.block (w.heap.size+1) (by simp)).trans e2);have hb4:=(hal.trans (hb3.mono (by simp;omega))).alloc (by omega) (.cells #[.int .i64 0,.int .i64 0] 75);have Rs:=hrec.below (aj w3 (.cells #[.int .i64 0,.int .i64 0] 75))
 have zn:w3.heap.size≤(w3.alloc (.cells #[.int .i64 0,.int .i64 0] 75)).heap.size:=by simp
 clear hb3 e1 e2 hal HL hrec adL adM;generalize w3.heap.size=B3 at Rs zn hz3 ⊢;generalize w3.alloc _=w4 at G6 G7 hb4 Rs zn ⊢;have HN:=ah (VU w4.heap.size _ toks w4 (Rs.mono zn) hpos (by omega))
 go_upto_region 7 with (go_at_call 100;refine HN.out.mono ?_;rintro e w5 ⟨bb,B,tv,rfl,hbw,aaU,lu,hb5⟩)
 have afl:=hbw;obtain⟨hBb,nv0,l0,hbk,_⟩:=afl;have hblt:=(bQ hbk).1;have G65:=(Lib.alloc_old w5 (.cells #[.pointer (some ⟨bb,0,none⟩),.int .i64 d,.bool false,.int .i64 0,.int .i64 0] 188) w.heap.size (by have:=hb5.size;have:=(bQ G6).1;omega)).trans ((hb5.block w.heap.size (bQ G6).1).trans G6);have G75:=(Lib.alloc_old w5 (.cells #[.pointer (some ⟨bb,0,none⟩),.int .i64 d,.bool false,.int .i64 0,.int .i64 0] 188) (w.heap.size+1) (by have:=hb5.size;have:=(bQ G7).1;omega)).trans ((hb5.block (w.heap.size+1) (bQ G7).1).trans G7);have hb6:=(hb4.trans (hb5.mono hb4.size)).alloc (by have:=hb4.size;have:=hb5.size;omega) (.cells #[.pointer (some ⟨bb,0,none⟩),.int .i64 d,.bool false,.int .i64 0,.int .i64 0] 188)
 have hPW:PW ⟨[],B,w5.heap.size,bb,tv,toks,d⟩ startP (w5.alloc (.cells #[.pointer (some ⟨bb,0,none⟩),.int .i64 d,.bool false,.int .i64 0,.int .i64 0] 188)) :=
  ⟨heap_alloc_new _ _,hbw.later (aj _ _),aaU.below ((aj w5 _).mono (by omega)),by show B≤w5.heap.size;omega,Nat.zero_le _,fun r hr=>by cases hr⟩
 have hBw:w.heap.size≤B:=Nat.le_trans hb4.size lu;have HAL:=ah (HA.out ⟨[],B,w5.heap.size,bb,tv,toks,d⟩ _ rfl rfl ⟨hpos,by show toks.length≤_;omega,by show d≤1000;omega⟩ hPW);clear HN HA hbw aaU hb5 hb4 G6 G7 Rs hPW hbk;generalize w5.heap.size=pb at HAL ⊢;generalize w5.alloc _=w6 at G65 G75 hb6 HAL ⊢
 go_upto_region 8 with (go_at_call 64;refine HAL.out.mono ?_;rintro e w7 ⟨rfl,EP,Bo⟩)
 have G67:=Bo.2 _ _ _ _ G65 (by decide) (by decide) (by decide);have G77:=Bo.2 _ _ _ _ G75 (by decide) (by decide) (by decide);have sI:Below w.heap.size w w7:=hb6.trans (Bo.1.mono hBw);have HOK:=ah (rT _ st w7 EP);obtain⟨c0,c1,c2,c3,c4,cz⟩:=EP.cells;obtain⟨h1,tq,Rt,_⟩:=EP;obtain⟨q0,q1,qz⟩:=nQ G67;obtain⟨p0,p1,pz⟩:=cK G77;clear Bo HAL h1 G65 G75 hb6;simp only at c0 c1 c2 c3 c4 tq Rt
 by_cases hf:st.fE=0
 ·have hok:okB st=true:=by unfold okB;simp[hf]
  rw[hok] at HOK;have HD:=ah (Ya _ B bb tv toks st.nodes st.used w7 tq Rt hpos (by omega) hnl (hkl hf));have ZW:Hid (CP toks st=.good toks st.nodes):=ah (by rw[CP,if_pos hf]);clear hok hf tq Rt c1 c2 c3 c4 q0 q1 qz p0 p1 pz;rw[ZW.out]
  go_upto_region 10 with (go_at_call 101;refine HOK.out.mono ?_;rintro e w8 ⟨rfl,rfl⟩)
  go_wp2_with (go_at_call 102;refine HD.out.mono ?_;rintro e w9 ⟨v9,rfl,ht9,yR⟩;obtain⟨at9,Yg,an9,cn9,rfl⟩:=ht9.at.slices;have G69:=(yR.block w.heap.size (bQ G67).1).trans G67;have G79:=(yR.block (w.heap.size+1) (bQ G77).1).trans G77;obtain⟨q0,q1,qz⟩:=nQ G69;obtain⟨p0,p1,pz⟩:=cK G79);have T1:=ht9.set G69 (by decide) (by decide) (by decide) 0 (.slice at9 toks.length Yg);have G1:=heap_setCell_same w9 w.heap.size 0 _ _ (.slice at9 toks.length Yg) G69;have T2:=T1.set G1 (by decide) (by decide) (by decide) 1 (.slice an9 st.nodes.length cn9)
  have F1:((w9.setCell ⟨w.heap.size,0,none⟩ (.slice at9 toks.length Yg)).setCell ⟨w.heap.size,1,none⟩ (.slice an9 st.nodes.length cn9)).heap[w.heap.size+1]?=some (.cells #[.int .i64 0,.int .i64 0] 75 (0,0)):=by
   rw[heap_setCell_other _ _ _ _ (by show w.heap.size+1≠w.heap.size;omega),heap_setCell_other _ _ _ _ (by show w.heap.size+1≠w.heap.size;omega)];exact G79
  have T3:=T2.set F1 (by decide) (by decide) (by decide) 0 (.int .i64 0);have F2:=heap_setCell_same _ (w.heap.size+1) 0 _ _ (.int .i64 0) F1;have T4:=T3.set F2 (by decide) (by decide) (by decide) 1 (.int .i64 0);have abI:=sI.trans (yR.mono sI.size);refine bodyPost_ret (v:=.tuple #[.agg #[.slice at9 toks.length Yg,.slice an9 st.nodes.length cn9],.agg #[.int .i64 0,.int .i64 0]]) (by simp[results,Tryz.results63,go_sem,q0,q1,p0,p1]) rfl ?_;rw[ZW.out];exact⟨(((abI.setCell (by simp) _).setCell (by simp) _).setCell (by simp) _).setCell (by simp) _,at9,Yg,an9,cn9,rfl,T4⟩
 ·have hok:okB st=false:=by unfold okB;simp[hf]
  rw[hok] at HOK;have ZW:Hid (CP toks st=.bad st.fE st.YL):=ah (by rw[CP,if_neg hf]);clear hok hf tq Rt c1 c2 hkl hnl
  go_upto_region 9 with (go_at_call 101;refine HOK.out.mono ?_;rintro e w8 ⟨rfl,rfl⟩)
  go_region
  go_wp2;refine bodyPost_ret (v:=.tuple #[.agg #[.slice none 0 0,.slice none 0 0],.agg #[.int .i64 st.fE,.int .i64 st.YL]]) (by simp[results,Tryz.results63,go_sem,q0,q1,p0,p1]) rfl ?_;rw[ZW.out];exact⟨((((sI.setCell (by simp) _).setCell (by simp) _).setCell (by simp) _).setCell (by simp) _).drew,rfl⟩
theorem Uv (s:ByteArray)(d:Nat)(w:World)(hd1:1≤d)(hd2:d≤200)(hs:s.size≤1099511627776) :
  Calls Tryz.prog 63 #[.string s,.int .i64 d,.func (.func 64) #[] #[]] w (Jo (iK s.data.toList d) w):=by
 cases hl:bH s.data.toList with
 | error x =>
  have hf:=(om hl).2
  have e:iK s.data.toList d=.bad x.1 x.2:=by rw[iK,hl]
  rw[e];exact M4 s d _ w hd1 hd2 hs x.1 x.2 hl (by omega)
 | ok toks =>
  have hL:=iy hl
  have hlen:toks.length≤65537:=by
   have h1:=hL.count;unfold bH at hl
   split at hl
   ·cases hl
   ·omega
  obtain⟨a,ha⟩:=Am hL.V6 d startP;have h3:=Gg ha;have h4:=Ga ha (Nat.zero_le _);unfold Slk at h3;simp only[startP,List.length_nil] at h3
  have e:iK s.data.toList d=CP toks a.2:=by
   rw[iK,hl];simp only;rw[ha]
  rw[e]
  refine M9 s d w hd1 hd2 hs toks hl (by omega) a ha (by omega) fun hf n hm=>?_
  obtain⟨q,he,_⟩:=QL hL ha hf
  have g1:a.2.nodes.length=q.pt.nd:=by rw[he,PT.rO]
  rw[he] at hm;have:=Ij _ _ _ n hm;omega
theorem vG (s:ByteArray)(d:Nat)(w:World)(hd1:1≤d)(hd2:d≤200)(hs:s.size≤1099511627776) :
  Calls Tryz.prog 36 #[.string s,.int .i64 d] w (Jo (iK s.data.toList d) w):=by
 have HR:=ah (fun W=>Uv s d W hd1 hd2 hs);have hal:=(aj w (.cells #[.slice none 0 0,.slice none 0 0] 89)).alloc (by simp) (.cells #[.int .i64 0,.int .i64 0] 75);have e1:=(Lib.alloc_old (w.alloc (.cells #[.slice none 0 0,.slice none 0 0] 89)) (.cells #[.int .i64 0,.int .i64 0] 75) w.heap.size (by simp)).trans (heap_alloc_new w (.cells #[.slice none 0 0,.slice none 0 0] 89));have e2:=heap_alloc_new (w.alloc (.cells #[.slice none 0 0,.slice none 0 0] 89)) (.cells #[.int .i64 0,.int .i64 0] 75);rw[World.size_alloc] at e2
 have HB:Hid (∀ w9,Below ((w.alloc (.cells #[.slice none 0 0,.slice none 0 0] 89)).alloc (.cells #[.int .i64 0,.int .i64 0] 75)).heap.size ((w.alloc (.cells #[.slice none 0 0,.slice none 0 0] 89)).alloc (.cells #[.int .i64 0,.int .i64 0] 75)) w9→Below w.heap.size w w9∧w9.heap[w.heap.size]?=some (.cells #[.slice none 0 0,.slice none 0 0] 89 (0,0))∧w9.heap[w.heap.size+1]?=some (.cells #[.int .i64 0,.int .i64 0] 75 (0,0))):=ah fun w9 hb=>⟨hal.trans (hb.mono (by simp;omega)),(hb.block w.heap.size (by simp;omega)).trans e1,(hb.block (w.heap.size+1) (by simp)).trans e2⟩
 clear hal e1 e2;generalize iK s.data.toList d=r at HR ⊢;go_enter Tryz.func36,Tryz.ntmps36
 cases r with
 | bad c a =>
  go_wp2_with (go_at_call 63;refine(HR.out _).mono ?_;rintro e w9 ⟨yR,rfl⟩;obtain⟨hb,G6,G7⟩:=HB.out w9 yR;obtain⟨q0,q1,qz⟩:=nQ G6;obtain⟨p0,p1,pz⟩:=cK G7);refine bodyPost_ret (v:=.tuple #[.agg #[.slice none 0 0,.slice none 0 0],.agg #[.int .i64 c,.int .i64 a]]) (by simp[results,Tryz.results36,go_sem,q0,q1,p0,p1]) rfl ?_;exact⟨(((hb.setCell (by simp) _).setCell (by simp) _).setCell (by simp) _).setCell (by simp) _,rfl⟩
 | good toks nodes =>
  go_wp2_with (go_at_call 63;refine(HR.out _).mono ?_;rintro e w9 ⟨yR,at9,Yg,an9,cn9,rfl,ht9⟩;obtain⟨hb,G69,G79⟩:=HB.out w9 yR;obtain⟨q0,q1,qz⟩:=nQ G69;obtain⟨p0,p1,pz⟩:=cK G79);have T1:=ht9.set G69 (by decide) (by decide) (by decide) 0 (.slice at9 toks.length Yg);have G1:=heap_setCell_same w9 w.heap.size 0 _ _ (.slice at9 toks.length Yg) G69;have T2:=T1.set G1 (by decide) (by decide) (by decide) 1 (.slice an9 nodes.length cn9)
  have F1:((w9.setCell ⟨w.heap.size,0,none⟩ (.slice at9 toks.length Yg)).setCell ⟨w.heap.size,1,none⟩ (.slice an9 nodes.length cn9)).heap[w.heap.size+1]?=some (.cells #[.int .i64 0,.int .i64 0] 75 (0,0)):=by
   rw[heap_setCell_other _ _ _ _ (by show w.heap.size+1≠w.heap.size;omega),heap_setCell_other _ _ _ _ (by show w.heap.size+1≠w.heap.size;omega)];exact G79
  have T3:=T2.set F1 (by decide) (by decide) (by decide) 0 (.int .i64 0);have F2:=heap_setCell_same _ (w.heap.size+1) 0 _ _ (.int .i64 0) F1;have T4:=T3.set F2 (by decide) (by decide) (by decide) 1 (.int .i64 0);refine bodyPost_ret (v:=.tuple #[.agg #[.slice at9 toks.length Yg,.slice an9 nodes.length cn9],.agg #[.int .i64 0,.int .i64 0]]) (by simp[results,Tryz.results36,go_sem,q0,q1,p0,p1]) rfl ?_;exact⟨(((hb.setCell (by simp) _).setCell (by simp) _).setCell (by simp) _).setCell (by simp) _,at9,Yg,an9,cn9,rfl,T4⟩
theorem Yh (B:Nat)(w:World)(sz:Nat):Sl B w (.slice none 0 0) sz 0 []:=⟨none,0,rfl,Nat.le_refl _,by simp,fun h=>absurd h (by omega)⟩
theorem aax (w:World):aO 0 w (.agg #[.slice none 0 0,.slice none 0 0]) [] []:=⟨_,_,[],rfl,Yh _ _ _,rfl,Yh _ _ _,fun p hp=>by cases hp⟩
theorem Uw {toks:List Tok}{nodes:List Nd}{D:List UInt8}(G:Aw toks nodes D)(B:Nat)(tv nv:Value)(w:World)(h:aO B w (.agg #[tv,nv]) toks nodes)(hB:B≤w.heap.size) :
  Calls Tryz.prog 175 #[.agg #[tv,nv],.int .i64 ((nodes.length:Int) - 1)] w fun e w'=>e=.returned (.int .i64 0)∧Below w.heap.size w w':=by
 have hR:=fun W (hW:Below w.heap.size w W)=>Gs B tv nv toks nodes (tL 0 toks.length) (nodes.length+1) W (h.below (hW.mono hB)) (Nat.le_trans hB hW.size) G.few G.kids (fun _ _ _ _=>G.leaves) (by simp[tL];have:=G.Tp;omega) (by have:=G.Tp;omega)
 rw[G.right] at hR;have hp:=G.pos;have hf:=G.few;obtain⟨at_,ct,an,cn,hv⟩:=h.slices;simp only[Value.agg.injEq,Array.mk.injEq,List.cons.injEq,and_true] at hv;obtain⟨rfl,rfl⟩:=hv
 have hI1:((nodes.length:Int) - 1)<(nodes.length:Int):=by omega
 have hI0:0≤((nodes.length:Int) - 1):=by omega
 have HR:=ah hR;have hbb:=(Below.refl w.heap.size w).alloc (Nat.le_refl _) (.cells #[.slice at_ toks.length ct,.slice an nodes.length cn] 89);have e1:=heap_alloc_new w (.cells #[.slice at_ toks.length ct,.slice an nodes.length cn] 89);clear h G hR;go_enter Tryz.func175,Tryz.ntmps175
 go_upto_region 3 with (go_at_call 237;refine(HR.out _ hbb).mono ?_;rintro e w3 ⟨rfl,hb3⟩)
 have T3:=(hb3.block w.heap.size (by simp)).trans e1;obtain⟨c0,c1⟩:=bL T3;have hb4:=hbb.trans (hb3.mono (by simp));clear hb3 e1 T3 HR hbb;go_wp2;go_ret;exact⟨rfl,hb4⟩
theorem Yi (n:Int)(w:World) :
  Calls Tryz.prog 175 #[.agg #[.slice none 0 0,.slice none 0 0],.int .i64 n] w fun e w'=>e=.returned (.int .i64 10)∧Below w.heap.size w w':=by
 have hT:∀ W:World,aO 0 W (.agg #[.slice none 0 0,.slice none 0 0]) [] []:=aax
 have hR:=fun W=>Gs 0 (.slice none 0 0) (.slice none 0 0) [] [] [] 0 W (hT W) (Nat.zero_le _) (by decide) (fun n hn=>by cases hn) (fun kid hk h0 _=>absurd (by
  rw[oL,lJ] at hk
  injection hk with hk
  rw[← hk]
  rfl) h0) (by decide) (by decide)
 have e:kE ([]:List Tok).length [] []=false:=by decide
 rw[e] at hR;have HR:=ah hR;have hbb:=(Below.refl w.heap.size w).alloc (Nat.le_refl _) (.cells #[.slice none 0 0,.slice none 0 0] 89);clear hT hR e;go_enter Tryz.func175,Tryz.ntmps175;go_wp2_with (go_at_call 237;refine(HR.out _).mono ?_;rintro e w3 ⟨rfl,hb3⟩);go_ret;exact⟨rfl,hbb.trans (hb3.mono (by simp))⟩
theorem aay (n:Int)(w:World) :
  Calls Tryz.prog 108 #[.agg #[.slice none 0 0,.slice none 0 0],.int .i64 n] w fun e w'=>e=.returned (.tuple #[.string ⟨#[]⟩,.int .i64 10])∧Below w.heap.size w w':=by
 have HR:=ah (fun W=>Yi n W);have hbb:=(Below.refl w.heap.size w).alloc (Nat.le_refl _) (.cells #[.slice none 0 0,.slice none 0 0] 89);go_enter Tryz.func108,Tryz.ntmps108;go_wp2_with (go_at_call 175;refine(HR.out _).mono ?_;rintro e w3 ⟨rfl,hb3⟩);go_ret2;exact⟨rfl,hbb.trans (hb3.mono (by simp))⟩
theorem Na {toks:List Tok}{nodes:List Nd}{D:List UInt8}(G:Aw toks nodes D)(B:Nat)(tv nv:Value)(w:World)(h:aO B w (.agg #[tv,nv]) toks nodes)(hB:B≤w.heap.size) :
  Calls Tryz.prog 108 #[.agg #[tv,nv],.int .i64 ((nodes.length:Int) - 1)] w fun e w'=>e=.returned (.tuple #[.string ⟨D.toArray⟩,.int .i64 0])∧Below w.heap.size w w':=by
 have HR:=ah (fun W (hW:Below w.heap.size w W)=>Uw G B tv nv W (h.below (hW.mono hB)) (Nat.le_trans hB hW.size));have hdl:=G.aev;have HD:=ah (fun W (hW:Below w.heap.size w W)=>Gt G B W.heap.size W.heap.size tv nv nodes.length ((nodes.length:Int) - 1) D [] (W.alloc (.cells #[.pointer none,.slice none 0 0] 153)) (h.below ((hW.alloc hW.size _).mono hB)) (Nat.le_trans hB hW.size) (jE.fresh W) (by simp) G.dump (by rw[List.length_nil];omega));obtain⟨at_,ct,an,cn,hv⟩:=h.slices;simp only[Value.agg.injEq,Array.mk.injEq,List.cons.injEq,and_true] at hv;obtain⟨rfl,rfl⟩:=hv;have hbb:=(Below.refl w.heap.size w).alloc (Nat.le_refl _) (.cells #[.slice at_ toks.length ct,.slice an nodes.length cn] 89);have e1:=heap_alloc_new w (.cells #[.slice at_ toks.length ct,.slice an nodes.length cn] 89);clear h G;go_enter Tryz.func108,Tryz.ntmps108
 go_upto_region 4 with (go_at_call 175;refine(HR.out _ hbb).mono ?_;rintro e w3 ⟨rfl,hb3⟩)
 have T3:=(hb3.block w.heap.size (by simp)).trans e1;have hb4:=hbb.trans (hb3.mono (by simp));have HD3:=ah (HD.out w3 hb4);have T4:=(Lib.alloc_old w3 (.cells #[.pointer none,.slice none 0 0] 153) w.heap.size (bQ T3).1).trans T3;have hb5:=hb4.alloc hb4.size (.cells #[.pointer none,.slice none 0 0] 153);obtain⟨c0,c1⟩:=bL T4;have hz3:=hb4.size;clear hb3 e1 T3 T4 HR hbb HD;go_wp2_with (first|(go_at_call 176;refine HD3.out.mono ?_;rintro e w6 ⟨rfl,adV,Yz,ho6⟩;rw[List.nil_append] at adV;have hz6:=Yz.size;simp only[World.size_alloc] at hz6)|(go_at_call 77;refine(Aj w3.heap.size w3.heap.size D _ adV (by omega)).mono ?_;rintro e w7 ⟨rfl,agm,hl7,ho7⟩));go_ret2;exact⟨rfl,hb5.trans ((Yz.mono hz3).trans (hl7.mono hz3))⟩
theorem Nb (B:Nat)(tv nv:Value)(toks:List Tok)(w:World)(hl:toks.length≤1099511627776)(hn:gD toks toks.length≤1099511627776)(h:Rec B w tv 4 bK toks)(hB:B≤w.heap.size) :
  Calls Tryz.prog 109 #[.agg #[tv,nv]] w fun e w'=>e=.returned (.string ⟨(gN toks).toArray⟩)∧Below w.heap.size w w':=by
 have HW:=ah (fun W (hW:Below w.heap.size w W)=>Sd tv toks W hl hn ((h.below (hW.mono hB)).mono (Nat.le_trans hB hW.size)));obtain⟨X,hX,eX⟩:=iR (gN toks);rw[eX] at HW ⊢;have hbb:=(Below.refl w.heap.size w).alloc (Nat.le_refl _) (.cells #[tv,nv] 89);clear h;go_enter Tryz.func109,Tryz.ntmps109;go_wp2_with (go_at_call 177;refine(HW.out _ hbb).mono ?_;rintro e w3 ⟨rfl,hb3⟩);go_ret;exact⟨rfl,hbb.trans (hb3.mono (by simp))⟩
theorem rH (at_:Option Addr)(nt ct:Nat)(an:Option Addr)(n cn:Nat)(w:World)(hn:n≤1099511627776) :
  Calls Tryz.prog 66 #[.agg #[.slice at_ nt ct,.slice an n cn]] w fun e w'=>e=.returned (.int .i64 ((n:Int) - 1))∧Below w.heap.size w w':=Km _ an n cn w hn
theorem aaz (B:Nat)(at_:Option Addr)(ct:Nat)(an:Option Addr)(cn:Nat)(S:ByteArray)(toks:List Tok)(nodes:List Nd)(D:List UInt8)(w:World)(h:aO B w (.agg #[.slice at_ toks.length ct,.slice an nodes.length cn]) toks nodes)(hB:B≤w.heap.size)
  (G:Aw toks nodes D) (hS:S.size≤65536) (hw:gN toks=S.data.toList) (hf:iK S.data.toList 200=.good toks nodes) :
  Calls Tryz.prog 65 #[.agg #[.slice at_ toks.length ct,.slice an nodes.length cn],.func (.func 36) #[] #[]] w fun e w'=>e=.returned (.bool true)∧Below w.heap.size w w':=by
 have hft:=G.Tp;have hfn:=G.few;obtain⟨XD,hXD,eX⟩:=iR D
 have GU:Hid (∀ (B:Nat) (at_:Option Addr) (ct:Nat) (an:Option Addr) (cn:Nat) (W:World),aO B W (.agg #[.slice at_ toks.length ct,.slice an nodes.length cn]) toks nodes→B≤W.heap.size→Calls Tryz.prog 108 #[.agg #[.slice at_ toks.length ct,.slice an nodes.length cn],.int .i64 ((nodes.length:Int) - 1)] W fun e w'=>e=.returned (.tuple #[.string XD,.int .i64 0])∧Below W.heap.size W w') :=
  ah fun B at_ ct an cn W hT hBW=>(Na G B _ _ W hT hBW).mono fun e w' h=>⟨by rw[h.1,eX],h.2⟩
 have hlen:gD toks toks.length≤1099511627776:=by
  rw[← Ck,hw,aK];omega
 have eS:ByteArray.mk (S.data.toList).toArray=S:=by cases S;simp
 have Nc:Hid (∀ W,Below w.heap.size w W→Calls Tryz.prog 109 #[.agg #[.slice at_ toks.length ct,.slice an nodes.length cn]] W fun e w'=>e=.returned (.string S)∧Below W.heap.size W w'):=ah fun W hW=>by
  obtain⟨tv',nv',l,e1,e2,_⟩:=h.below (hW.mono hB);simp only[Value.agg.injEq,Array.mk.injEq,List.cons.injEq,and_true] at e1;obtain⟨rfl,rfl⟩:=e1;have:=Nb B (.slice at_ toks.length ct) (.slice an nodes.length cn) toks W (by omega) hlen e2 (Nat.le_trans hB hW.size);rw[hw,eS] at this;exact this
 have yO:=ah (fun W=>vG S 200 W (by omega) (by omega) (by omega));rw[hf] at yO;have HT:=ah h;have hal:=aj w (.cells #[.slice at_ toks.length ct,.slice an nodes.length cn] 89);have e1:=heap_alloc_new w (.cells #[.slice at_ toks.length ct,.slice an nodes.length cn] 89);clear h G hf hw hXD eX eS hlen;go_enter Tryz.func65,Tryz.ntmps65
 go_upto_region 1 with fail
 generalize w.alloc _=w1 at hal e1 ⊢;obtain⟨c0,c1⟩:=bL e1;have hl1:=(bQ e1).1
 go_cut [5,6] (fun a e wx=>a=.string XD∧e=.int .i64 0∧wx.heap[w.heap.size]?=some (.cells #[.slice at_ toks.length ct,.slice an nodes.length cn] 89 (0,0))∧Below w.heap.size w wx)
 case first =>
  go_region_with (first|(go_at_call 66;refine(rH at_ toks.length ct an nodes.length cn _ (by omega)).mono ?_;rintro e w5 ⟨rfl,hb5⟩;have d0:=(hb5.cell (p:=⟨w.heap.size,0,none⟩) hl1).trans c0;have d1:=(hb5.cell (p:=⟨w.heap.size,1,none⟩) hl1).trans c1)|(go_at_call 108;refine(GU.out B at_ ct an cn _ (HT.out.below ((hal.drew.trans (hb5.mono hal.size)).mono hB)) (Nat.le_trans hB (hal.drew.trans (hb5.mono hal.size)).size)).mono ?_;rintro e w6 ⟨rfl,hb6⟩))
  all_goals
   have qy:=hal.drew.trans (hb5.mono hal.size);have T6:=(hb6.block w.heap.size (Nat.lt_of_lt_of_le hl1 hb5.size)).trans ((hb5.block w.heap.size hl1).trans e1);go_wp2_with fail
   go_meet
   exact⟨rfl,rfl,T6,qy.trans (hb6.mono qy.size)⟩
 case rest =>
  obtain⟨rfl,rfl,hT,hbc⟩:=hcut;clear hal e1 c0 c1 hl1 w1
  obtain⟨wo,rfl⟩:∃ wo:World,wo=wc:=⟨_,rfl⟩
  obtain⟨c0,c1⟩:=bL hT
  go_upto_region 3 with (first|(go_at_call 109;refine(Nc.out _ hbc).mono ?_;rintro e w7 ⟨rfl,sI⟩)|(go_at_call 36;refine(yO.out _).mono ?_;rintro e w8 ⟨j3,a8,c8,b8,d8,rfl,ht8⟩))
  have Qk:=(hbc.trans (sI.mono hbc.size))
  have Jr:=Qk.trans (j3.mono Qk.size);have hT8:=(j3.block w.heap.size (Nat.lt_of_lt_of_le (bQ hT).1 sI.size)).trans ((sI.block w.heap.size (bQ hT).1).trans hT);have uj:=(bQ hT8).1;have tu:=(aj w8 (.cells #[.slice a8 toks.length c8,.slice b8 nodes.length d8] 89)).alloc (by simp) (.cells #[.int .i64 0,.int .i64 0] 75);have hT9:=(tu.block w.heap.size uj).trans hT8;have UY:=(Lib.alloc_old (w8.alloc (.cells #[.slice a8 toks.length c8,.slice b8 nodes.length d8] 89)) (.cells #[.int .i64 0,.int .i64 0] 75) w8.heap.size (by simp)).trans (heap_alloc_new w8 (.cells #[.slice a8 toks.length c8,.slice b8 nodes.length d8] 89));have hF9:=heap_alloc_new (w8.alloc (.cells #[.slice a8 toks.length c8,.slice b8 nodes.length d8] 89)) (.cells #[.int .i64 0,.int .i64 0] 75);rw[World.size_alloc] at hF9;have hU:=ah (ht8.at.below tu);have yR:=Jr.trans (tu.mono Jr.size);have Yj:=tu.size;clear sI j3 hT8 tu ht8 Qk hT hbc c0 c1 Nc yO;generalize w8.heap.size=ub at UY hF9 hU Yj uj Jr ⊢;generalize (w8.alloc _).alloc _=w9 at hT9 UY hF9 hU yR Yj ⊢;obtain⟨c0,c1⟩:=bL UY;have YC:=(bQ UY).1;have Yk:=(bQ hT9).1;have hlF:=(bQ hF9).1
  go_cut [9,10] (fun a e wx=>a=.string XD∧e=.int .i64 0∧Below w9.heap.size w9 wx)
  case first =>
   go_region_with (first|(go_at_call 66;refine(rH a8 toks.length c8 b8 nodes.length d8 _ (by omega)).mono ?_;rintro e w5 ⟨rfl,hb5⟩;have d0:=(hb5.cell (p:=⟨ub,0,none⟩) YC).trans c0;have d1:=(hb5.cell (p:=⟨ub,1,none⟩) YC).trans c1)|(go_at_call 108;refine(GU.out ub a8 c8 b8 d8 _ (hU.out.below (((Below.refl w9.heap.size w9).drew.trans hb5).mono Yj)) (Nat.le_trans Yj hb5.size)).mono ?_;rintro e w6 ⟨rfl,hb6⟩))
   all_goals
    have qy:=(Below.refl w9.heap.size w9).drew.trans hb5;go_wp2_with fail
    go_meet
    exact⟨rfl,rfl,qy.trans (hb6.mono qy.size)⟩
  case rest =>
   obtain⟨rfl,rfl,hbc⟩:=hcut;have hTc:=(hbc.block _ Yk).trans hT9;have hUc:=(hbc.block _ YC).trans UY;have hFc:=(hbc.block _ hlF).trans hF9;have HU:=ah (hU.out.below (hbc.mono Yj));have hbw:Below w.heap.size w wc:=yR.trans (hbc.mono yR.size);have HT2:=ah (HT.out.below (hbw.mono hB));clear hT9 UY hF9 hU yR Yj uj Jr c0 c1 YC Yk hlF hbc GU HT
   obtain⟨wo,rfl⟩:∃ wo:World,wo=wc:=⟨_,rfl⟩
   obtain⟨c0,c1⟩:=bL hTc;obtain⟨u0,u1⟩:=bL hUc;obtain⟨f0,f1,_⟩:=cK hFc;have hlU:=(bQ hUc).1;have hzo:=hbw.size;go_wp2;clear c0 c1 u0 u1 f0 f1
   go_loopw [58] (fun q wr=>∃ k:Nat,k≤toks.length∧q=.int .i64 k∧Below wo.heap.size wo wr) (fun q _=>toks.length - (intOf q).toNat)
   case atStart=>exact⟨0,Nat.zero_le _,rfl,Below.refl _ _⟩
   case round =>
    obtain⟨k,hk,rfl,hbl⟩:=hrel;have hwz:=hbl.size
    by_cases hlt:k<toks.length
    ·obtain⟨b1,o1,adU,ev,hb1,t0,t1,t2,t3⟩:=HT2.out.tok hlt
     simp only[Value.slice.injEq] at ev;obtain⟨rfl,-,rfl⟩:=ev;obtain⟨b2,o2,cap2,ev,hb2,s0,s1,s2,s3⟩:=HU.out.tok hlt;simp only[Value.slice.injEq] at ev;obtain⟨rfl,-,rfl⟩:=ev;have x0:=(hbl.cell (p:=⟨b1,o1+k * 4,none⟩) (by show b1<_;omega)).trans t0;have x1:=(hbl.cell (p:=⟨b1,o1+k * 4+1,none⟩) (by show b1<_;omega)).trans t1;have x2:=(hbl.cell (p:=⟨b1,o1+k * 4+2,none⟩) (by show b1<_;omega)).trans t2;have x3:=(hbl.cell (p:=⟨b1,o1+k * 4+3,none⟩) (by show b1<_;omega)).trans t3;generalize toks[k]=tk at x0 x1 x2 x3 s0 s1 s2 s3;simp only[dM] at x1 x2 s1 s2;have hal:=aj wr (.cells #[.int .i64 tk.kind,.string ⟨tk.lead.toArray⟩,.string ⟨tk.text.toArray⟩,.int .i64 tk.place] 136);have hba:=hbl.trans (hal.mono hwz);have y0:=(hba.cell (p:=⟨b2,o2+k * 4,none⟩) (by show b2<_;omega)).trans s0;have y1:=(hba.cell (p:=⟨b2,o2+k * 4+1,none⟩) (by show b2<_;omega)).trans s1;have y2:=(hba.cell (p:=⟨b2,o2+k * 4+2,none⟩) (by show b2<_;omega)).trans s2;have y3:=(hba.cell (p:=⟨b2,o2+k * 4+3,none⟩) (by show b2<_;omega)).trans s3;have U2:=(hba.block ub hlU).trans hUc;have N2:=heap_alloc_new wr (.cells #[.int .i64 tk.kind,.string ⟨tk.lead.toArray⟩,.string ⟨tk.text.toArray⟩,.int .i64 tk.place] 136)
     have pQ:(k:Int)<(toks.length:Int):=by omega
     clear t0 t1 t2 t3 s0 s1 s2 s3 hal
     go_upto_region 9 with fail
     clear x0 x1 x2 x3;generalize wr.heap.size=nb at N2 ⊢;generalize wr.alloc _=w2 at hba y0 y1 y2 y3 U2 N2 ⊢;obtain⟨d0,d1⟩:=bL U2
     have n0:w2.cell? ⟨nb,0,none⟩=some (.int .i64 tk.kind):=by rw[Lib.cell_of_heap N2];rfl
     have n1:w2.cell? ⟨nb,1,none⟩=some (.string ⟨tk.lead.toArray⟩):=by rw[Lib.cell_of_heap N2];rfl
     have n2:w2.cell? ⟨nb,2,none⟩=some (.string ⟨tk.text.toArray⟩):=by rw[Lib.cell_of_heap N2];rfl
     have n3:w2.cell? ⟨nb,3,none⟩=some (.int .i64 tk.place):=by rw[Lib.cell_of_heap N2];rfl
     clear N2 U2
     go_quiet (fail)
     go_wp2
     go_roundw
     case rel=>exact⟨k+1,by omega,by go_num,⟨hba.os,hba.tape,hba.output,hba.size,hba.block⟩⟩
     case measure=>simp[intOf];omega
    ·obtain rfl:k=toks.length:=by omega
     have pQ:decide ((toks.length:Int)<(toks.length:Int))=false:=decide_eq_false (by omega);go_wp2;go_ret;exact⟨rfl,hbw.trans (hbl.mono hzo)⟩
end Go.Proofs.YtknicmmigbhpcaaGreatDoor
