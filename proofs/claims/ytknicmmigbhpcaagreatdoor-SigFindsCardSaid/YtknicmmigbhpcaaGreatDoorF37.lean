/- Walks and plain laws: AsP, OfW, AsP2, ScopePr0. -/
import Derived.Test.YtknicmmigbhpcaaGreatDoorF36
set_option maxHeartbeats 16000000
set_option maxRecDepth 100000
set_option linter.unusedVariables false
set_option linter.unusedSimpArgs false
namespace Go.Proofs.YtknicmmigbhpcaaGreatDoor
open Go.RowKit Go
theorem Zz (B:Nat)(at_:Option Addr)(ct:Nat)(an:Option Addr)(cn:Nat)(S:ByteArray)(toks:List Tok)(nodes:List Nd)(D:List UInt8)(w:World)(h:aP B w (.agg #[.slice at_ toks.length ct,.slice an nodes.length cn]) toks nodes)(hB:B≤w.heap.size)
  (G:CQ toks nodes D) (hS:S.size≤65536) (hw:fZ toks=S.data.toList) (hf:nA S.data.toList 200=.good toks nodes) :
  Calls Tryz.prog 65 #[.agg #[.slice at_ toks.length ct,.slice an nodes.length cn],.func (.func 36) #[] #[]] w fun e w'=>e=.returned (.bool true)∧Below w.heap.size w w':=by
 have hft:=G.Vn;have hfn:=G.few;obtain⟨XD,hXD,eX⟩:=je D
 have Xn:Hid (∀ (B:Nat) (at_:Option Addr) (ct:Nat) (an:Option Addr) (cn:Nat) (W:World),aP B W (.agg #[.slice at_ toks.length ct,.slice an nodes.length cn]) toks nodes→B≤W.heap.size→Calls Tryz.prog 108 #[.agg #[.slice at_ toks.length ct,.slice an nodes.length cn],.int .i64 ((nodes.length:Int) - 1)] W fun e w'=>e=.returned (.tuple #[.string XD,.int .i64 0])∧Below W.heap.size W w') :=
  ah fun B at_ ct an cn W hT hBW=>(Xl G B _ _ W hT hBW).mono fun e w' h=>⟨by rw[h.1,eX],h.2⟩
 have hlen:fP toks toks.length≤1099511627776:=by
  rw[← Bc,hw,aK];omega
 have eS:ByteArray.mk (S.data.toList).toArray=S:=by cases S;simp
 have aas:Hid (∀ W,Below w.heap.size w W→Calls Tryz.prog 109 #[.agg #[.slice at_ toks.length ct,.slice an nodes.length cn]] W fun e w'=>e=.returned (.string S)∧Below W.heap.size W w'):=ah fun W hW=>by
  obtain⟨tv',nv',l,e1,e2,_⟩:=h.below (hW.mono hB);simp only[Value.agg.injEq,Array.mk.injEq,List.cons.injEq,and_true] at e1;obtain⟨rfl,rfl⟩:=e1;have:=Xm B (.slice at_ toks.length ct) (.slice an nodes.length cn) toks W (by omega) hlen e2 (Nat.le_trans hB hW.size);rw[hw,eS] at this;exact this
 have Xo:=ah (fun W=>Gt S 200 W (by omega) (by omega) (by omega));rw[hf] at Xo;have HT:=ah h;have hal:=aj w (.cells #[.slice at_ toks.length ct,.slice an nodes.length cn] 89);have e1:=heap_alloc_new w (.cells #[.slice at_ toks.length ct,.slice an nodes.length cn] 89);clear h G hf hw hXD eX eS hlen;go_enter Tryz.func65,Tryz.ntmps65
 go_upto_region 1 with fail
 generalize w.alloc _=w1 at hal e1 ⊢;obtain⟨c0,c1⟩:=dn e1;have hl1:=(bG e1).1
 go_cut [5,6] (fun a e wx=>a=.string XD∧e=.int .i64 0∧wx.heap[w.heap.size]?=some (.cells #[.slice at_ toks.length ct,.slice an nodes.length cn] 89 (0,0))∧Below w.heap.size w wx)
 case first =>
  go_region_with (first|(go_at_call 66;refine(zG at_ toks.length ct an nodes.length cn _ (by omega)).mono ?_;rintro e w5 ⟨rfl,hb5⟩;have d0:=(hb5.cell (p:=⟨w.heap.size,0,none⟩) hl1).trans c0;have d1:=(hb5.cell (p:=⟨w.heap.size,1,none⟩) hl1).trans c1)|(go_at_call 108;refine(Xn.out B at_ ct an cn _ (HT.out.below ((hal.drew.trans (hb5.mono hal.size)).mono hB)) (Nat.le_trans hB (hal.drew.trans (hb5.mono hal.size)).size)).mono ?_;rintro e w6 ⟨rfl,hb6⟩))
  all_goals
   have Kw:=hal.drew.trans (hb5.mono hal.size);have T6:=(hb6.block w.heap.size (Nat.lt_of_lt_of_le hl1 hb5.size)).trans ((hb5.block w.heap.size hl1).trans e1);go_wp2_with fail
   go_meet
   exact⟨rfl,rfl,T6,Kw.trans (hb6.mono Kw.size)⟩
 case rest =>
  obtain⟨rfl,rfl,hT,hbc⟩:=hcut;clear hal e1 c0 c1 hl1 w1
  obtain⟨wo,rfl⟩:∃ wo:World,wo=wc:=⟨_,rfl⟩
  obtain⟨c0,c1⟩:=dn hT
  go_upto_region 3 with (first|(go_at_call 109;refine(aas.out _ hbc).mono ?_;rintro e w7 ⟨rfl,pI⟩)|(go_at_call 36;refine(Xo.out _).mono ?_;rintro e w8 ⟨jr,a8,c8,b8,d8,rfl,ht8⟩))
  have abA:=(hbc.trans (pI.mono hbc.size))
  have ZA:=abA.trans (jr.mono abA.size);have hT8:=(jr.block w.heap.size (Nat.lt_of_lt_of_le (bG hT).1 pI.size)).trans ((pI.block w.heap.size (bG hT).1).trans hT);have vI:=(bG hT8).1;have tN:=(aj w8 (.cells #[.slice a8 toks.length c8,.slice b8 nodes.length d8] 89)).alloc (by simp) (.cells #[.int .i64 0,.int .i64 0] 75);have hT9:=(tN.block w.heap.size vI).trans hT8;have hU9:=(Lib.alloc_old (w8.alloc (.cells #[.slice a8 toks.length c8,.slice b8 nodes.length d8] 89)) (.cells #[.int .i64 0,.int .i64 0] 75) w8.heap.size (by simp)).trans (heap_alloc_new w8 (.cells #[.slice a8 toks.length c8,.slice b8 nodes.length d8] 89));have hF9:=heap_alloc_new (w8.alloc (.cells #[.slice a8 toks.length c8,.slice b8 nodes.length d8] 89)) (.cells #[.int .i64 0,.int .i64 0] 75);rw[World.size_alloc] at hF9;have hU:=ah (ht8.at.below tN);have Cz:=ZA.trans (tN.mono ZA.size);have hz9:=tN.size;clear pI jr hT8 tN ht8 abA hT hbc c0 c1 aas Xo;generalize w8.heap.size=ub at hU9 hF9 hU hz9 vI ZA ⊢;generalize (w8.alloc _).alloc _=w9 at hT9 hU9 hF9 hU Cz hz9 ⊢;obtain⟨c0,c1⟩:=dn hU9;have hl9:=(bG hU9).1;have hlT:=(bG hT9).1;have XU:=(bG hF9).1
  go_cut [9,10] (fun a e wx=>a=.string XD∧e=.int .i64 0∧Below w9.heap.size w9 wx)
  case first =>
   go_region_with (first|(go_at_call 66;refine(zG a8 toks.length c8 b8 nodes.length d8 _ (by omega)).mono ?_;rintro e w5 ⟨rfl,hb5⟩;have d0:=(hb5.cell (p:=⟨ub,0,none⟩) hl9).trans c0;have d1:=(hb5.cell (p:=⟨ub,1,none⟩) hl9).trans c1)|(go_at_call 108;refine(Xn.out ub a8 c8 b8 d8 _ (hU.out.below (((Below.refl w9.heap.size w9).drew.trans hb5).mono hz9)) (Nat.le_trans hz9 hb5.size)).mono ?_;rintro e w6 ⟨rfl,hb6⟩))
   all_goals
    have Kw:=(Below.refl w9.heap.size w9).drew.trans hb5;go_wp2_with fail
    go_meet
    exact⟨rfl,rfl,Kw.trans (hb6.mono Kw.size)⟩
  case rest =>
   obtain⟨rfl,rfl,hbc⟩:=hcut;have hTc:=(hbc.block _ hlT).trans hT9;have hUc:=(hbc.block _ hl9).trans hU9;have hFc:=(hbc.block _ XU).trans hF9;have HU:=ah (hU.out.below (hbc.mono hz9));have hbw:Below w.heap.size w wc:=Cz.trans (hbc.mono Cz.size);have HT2:=ah (HT.out.below (hbw.mono hB));clear hT9 hU9 hF9 hU Cz hz9 vI ZA c0 c1 hl9 hlT XU hbc Xn HT
   obtain⟨wo,rfl⟩:∃ wo:World,wo=wc:=⟨_,rfl⟩
   obtain⟨c0,c1⟩:=dn hTc;obtain⟨u0,u1⟩:=dn hUc;obtain⟨f0,f1,_⟩:=iV hFc;have hlU:=(bG hUc).1;have hzo:=hbw.size;go_wp2;clear c0 c1 u0 u1 f0 f1
   go_loopw [58] (fun q wr=>∃ k:Nat,k≤toks.length∧q=.int .i64 k∧Below wo.heap.size wo wr) (fun q _=>toks.length - (intOf q).toNat)
   case atStart=>exact⟨0,Nat.zero_le _,rfl,Below.refl _ _⟩
   case round =>
    obtain⟨k,hk,rfl,hbl⟩:=hrel;have hwz:=hbl.size
    by_cases hlt:k<toks.length
    ·obtain⟨b1,o1,ado,ev,hb1,t0,t1,t2,t3⟩:=HT2.out.tok hlt
     simp only[Value.slice.injEq] at ev;obtain⟨rfl,-,rfl⟩:=ev;obtain⟨b2,o2,cap2,ev,hb2,s0,s1,s2,s3⟩:=HU.out.tok hlt;simp only[Value.slice.injEq] at ev;obtain⟨rfl,-,rfl⟩:=ev;have x0:=(hbl.cell (p:=⟨b1,o1+k * 4,none⟩) (by show b1<_;omega)).trans t0;have x1:=(hbl.cell (p:=⟨b1,o1+k * 4+1,none⟩) (by show b1<_;omega)).trans t1;have x2:=(hbl.cell (p:=⟨b1,o1+k * 4+2,none⟩) (by show b1<_;omega)).trans t2;have x3:=(hbl.cell (p:=⟨b1,o1+k * 4+3,none⟩) (by show b1<_;omega)).trans t3;generalize toks[k]=tk at x0 x1 x2 x3 s0 s1 s2 s3;simp only[bY] at x1 x2 s1 s2;have hal:=aj wr (.cells #[.int .i64 tk.kind,.string ⟨tk.lead.toArray⟩,.string ⟨tk.text.toArray⟩,.int .i64 tk.place] 136);have hba:=hbl.trans (hal.mono hwz);have y0:=(hba.cell (p:=⟨b2,o2+k * 4,none⟩) (by show b2<_;omega)).trans s0;have y1:=(hba.cell (p:=⟨b2,o2+k * 4+1,none⟩) (by show b2<_;omega)).trans s1;have y2:=(hba.cell (p:=⟨b2,o2+k * 4+2,none⟩) (by show b2<_;omega)).trans s2;have y3:=(hba.cell (p:=⟨b2,o2+k * 4+3,none⟩) (by show b2<_;omega)).trans s3;have U2:=(hba.block ub hlU).trans hUc;have N2:=heap_alloc_new wr (.cells #[.int .i64 tk.kind,.string ⟨tk.lead.toArray⟩,.string ⟨tk.text.toArray⟩,.int .i64 tk.place] 136)
     have nJ:(k:Int)<(toks.length:Int):=by omega
     clear t0 t1 t2 t3 s0 s1 s2 s3 hal
     go_upto_region 9 with fail
     clear x0 x1 x2 x3;generalize wr.heap.size=nb at N2 ⊢;generalize wr.alloc _=w2 at hba y0 y1 y2 y3 U2 N2 ⊢;obtain⟨d0,d1⟩:=dn U2
     have n0:w2.cell? ⟨nb,0,none⟩=some (.int .i64 tk.kind):=by rw[Lib.cell_of_heap N2];rfl
     have n1:w2.cell? ⟨nb,1,none⟩=some (.string ⟨tk.lead.toArray⟩):=by rw[Lib.cell_of_heap N2];rfl
     have n2:w2.cell? ⟨nb,2,none⟩=some (.string ⟨tk.text.toArray⟩):=by rw[Lib.cell_of_heap N2];rfl
     have n3:w2.cell? ⟨nb,3,none⟩=some (.int .i64 tk.place):=by rw[Lib.cell_of_heap N2];rfl
     clear N2 U2
     go_quiet (fail)
     go_wp2
     go_roundw
     case rel=>exact⟨k+1,by omega,by go_num,⟨hba.os,hba.tape,hba.output,hba.size,hba.block⟩⟩
     case measure=>simp[intOf];omega
    ·obtain rfl:k=toks.length:=by omega
     have nJ:decide ((toks.length:Int)<(toks.length:Int))=false:=decide_eq_false (by omega);go_wp2;go_ret;exact⟨rfl,hbw.trans (hbl.mono hzo)⟩
theorem Tryz.OE:(Tryz.prog.info? 101).map (fun i=>(i.zero,i.size,i.bytes))=some (some (.agg #[.string ⟨#[]⟩,.int .i64 0]),2,24):=by kernel_rfl
theorem Tryz.ZB:(Tryz.prog.info? 48).map (fun i=>(i.zero,i.size,i.bytes))=some (some (.agg #[.bool false,.string ⟨#[]⟩,.slice none 0 0,.int .i64 0,.slice none 0 0,.int .i64 0,.string ⟨#[]⟩,.string ⟨#[]⟩,.bool false,.slice none 0 0,.bool false,.slice none 0 0,.int .i64 0,.int .i64 0,.int .i64 0]),15,208):=by kernel_rfl
theorem Tryz.SX:∀ args w,(callFunc 68 args).run Tryz.prog w=.ok (.enter 68 args) w:=Go.Proofs.enters_of Tryz.func68 (by kernel_rfl) rfl
theorem gY {w:World}{b:Nat}{c0 c1:Value}(h:w.heap[b]?=some (.cells #[c0,c1] 38 (0,0))):w.cell? ⟨b,0,none⟩=some c0∧w.cell? ⟨b,1,none⟩=some c1∧∀ j,w.frozen? ⟨b,j,none⟩=false:=by
 refine⟨?_,?_,fun j=>by simp[World.frozen?,h]⟩<;>(rw[Lib.cell_of_heap h];rfl)
theorem ZC {nodes:List Nd}{m u:Nat}(h:lM nodes m u sU):∃ (k0 k1 k2:Nat),nodes[m]?=some ⟨(2:Nat),-1,[(k0:Int),k1,k2]⟩∧nodes[k1]?=some ⟨19,((u+1:Nat):Int),[]⟩:=by
 obtain⟨ks,h1,h2⟩:=dM h;obtain⟨k0,ks0,rfl,_,h3⟩:=bE h2;obtain⟨k1,ks1,rfl,h4,h5⟩:=bE h3;obtain⟨k2,ks2,rfl,_,h6⟩:=bE h5;rw[dV] at h6;subst h6;exact⟨k0,k1,k2,h1,h4⟩
theorem abB (B:Nat)(at_:Option Addr)(ct:Nat)(an:Option Addr)(cn:Nat)(S:ByteArray)(toks:List Tok)(nodes:List Nd)(p:kG)(w:World)(h:aP B w (.agg #[.slice at_ toks.length ct,.slice an nodes.length cn]) toks nodes)(hB:B≤w.heap.size)(F:oD S.data.toList toks nodes p) :
  Calls Tryz.prog 37 #[.agg #[.slice at_ toks.length ct,.slice an nodes.length cn]] w (Wt (p.pp toks) w):=by
 obtain⟨ii,hii1,hii2,aeO,aeP⟩:=info_parts Tryz.OE;obtain⟨id,aeQ,aeR,aeS,aeT⟩:=info_parts Tryz.ZB;have ent:=Tryz.SX;have hft:=F.good.Vn;have hfn:=F.good.few;obtain⟨r,ks,hr1,hn,hk⟩:=RY F;obtain⟨hlen,hat⟩:=Px _ _ _ hk;have HAT:=ah hat;have hkl:=p.VL;rw[← hlen] at hkl;have yD:=ah hkl
 have ae6:0<ks.length:=by omega
 clear hkl;have XF:=ah hlen;have HLV:Hid (bB p.kids=toks.length):=ah F.lv;have E:=abe F B (.slice at_ toks.length ct) (.slice an nodes.length cn);have HA:=ah (fun W (hW:Below w.heap.size w W)=>Zz B at_ ct an cn S toks nodes _ W (h.below (hW.mono hB)) (Nat.le_trans hB hW.size) F.good (by have:=F.small;rw[aK] at this;exact this) F.whole F.deep);have Zk:Hid (∀ (d:cB) (u:Nat),d.ok toks u→u+d.pt.lv≤toks.length→∀ (m:Nat) (W:World),lM nodes m u d.pt→aP B W (.agg #[.slice at_ toks.length ct,.slice an nodes.length cn]) toks nodes→B≤W.heap.size→Calls Tryz.prog 68 #[.agg #[.slice at_ toks.length ct,.slice an nodes.length cn],.int .i64 m] W (Wj (d.dd toks u) W)):=ah (fun d u ho hl m W hr hT hW=>Wm E d u ho hl m W hr hT hW)
 have Wo:Hid (∀ (k u:Nat) (W:World),nodes[k]?=some ⟨19,(u:Nat),[]⟩→u<toks.length→aP B W (.agg #[.slice at_ toks.length ct,.slice an nodes.length cn]) toks nodes→B≤W.heap.size→Calls Tryz.prog 67 #[.agg #[.slice at_ toks.length ct,.slice an nodes.length cn],.int .i64 k] W fun e w'=>e=.returned (mV (bL toks u))∧Below W.heap.size W w'):=ah (fun k u W hl hu hT hW=>by
  have:=jC B _ _ toks nodes k u W hT hW hl hu;have e:=iO hu;rw[List.getElem?_eq_getElem hu] at e;rw[Option.some.inj e] at this
  exact this)
 have HOK:=ah F.okk;have afO:=F.okk.1;have afP:=F.okk.2.1;have XV:Hid ((p.pp toks).imports.length=p.imps):=ah (vQ _ _ _);have HPD:Hid ((p.pp toks).defs.length=p.defs.length):=ah (vP _ _ _)
 have HIG:Hid (∀ (j:Nat) (hj:j<(p.pp toks).imports.length),(p.pp toks).imports[j]=(aI toks (3 * j+1),bZ toks (3 * j+1))):=ah (fun j hj=>by
  have:=CZ toks p.imps 0 j hj;rw[Nat.zero_add] at this
  exact this)
 have HDG:Hid (∀ (j:Nat) (h1:j<p.defs.length) (h2:j<(p.pp toks).defs.length),(p.pp toks).defs[j]=p.defs[j].dd toks (3 * p.imps+bB ((p.defs.take j).map cB.pt))):=ah (fun j h1 h2=>C8 toks p.defs (3 * p.imps) j h1 h2);generalize p.pp toks=pp at XV HPD HIG HDG ⊢;have HT:=ah h;have HN:=ah hn;have HR1:=ah hr1;have hal:=(aj w (.cells #[.slice at_ toks.length ct,.slice an nodes.length cn] 89)).alloc (by simp) (.cells #[.slice none 0 0,.slice none 0 0] 38);have e1:=(Lib.alloc_old (w.alloc (.cells #[.slice at_ toks.length ct,.slice an nodes.length cn] 89)) (.cells #[.slice none 0 0,.slice none 0 0] 38) w.heap.size (by simp)).trans (heap_alloc_new w (.cells #[.slice at_ toks.length ct,.slice an nodes.length cn] 89));have e2:=heap_alloc_new (w.alloc (.cells #[.slice at_ toks.length ct,.slice an nodes.length cn] 89)) (.cells #[.slice none 0 0,.slice none 0 0] 38);rw[World.size_alloc] at e2;obtain⟨c0,c1⟩:=dn e1;clear h F hn hr1 hk hat hlen E;go_enter Tryz.func37,Tryz.ntmps37
 go_upto_region 3 with (go_at_call 65;refine(HA.out _ hal).mono ?_;rintro e w3 ⟨rfl,hb3⟩)
 have E1:=(hb3.block w.heap.size (by simp;omega)).trans e1;have E2:=(hb3.block (w.heap.size+1) (by simp)).trans e2;have hb4:=hal.trans (hb3.mono (by simp;omega));have Kv:=hb4.size;have hl2:=(bG E2).1;obtain⟨c0,c1⟩:=dn E1;clear hb3 e1 e2 hal HA
 go_upto_region 5 with fail
 have hb5:=(hb4.alloc Kv (.cells #[.slice at_ toks.length ct,.slice an nodes.length cn] 132)).alloc (by simp;omega) (.cells #[.slice none 0 0,.slice none 0 0] 38);have G1:=(Lib.alloc_old (w3.alloc (.cells #[.slice at_ toks.length ct,.slice an nodes.length cn] 132)) (.cells #[.slice none 0 0,.slice none 0 0] 38) w.heap.size (by simp;omega)).trans ((Lib.alloc_old w3 (.cells #[.slice at_ toks.length ct,.slice an nodes.length cn] 132) w.heap.size (by omega)).trans E1);have G2:=(Lib.alloc_old (w3.alloc (.cells #[.slice at_ toks.length ct,.slice an nodes.length cn] 132)) (.cells #[.slice none 0 0,.slice none 0 0] 38) (w.heap.size+1) (by simp;omega)).trans ((Lib.alloc_old w3 (.cells #[.slice at_ toks.length ct,.slice an nodes.length cn] 132) (w.heap.size+1) hl2).trans E2);have G3:=(Lib.alloc_old (w3.alloc (.cells #[.slice at_ toks.length ct,.slice an nodes.length cn] 132)) (.cells #[.slice none 0 0,.slice none 0 0] 38) w3.heap.size (by simp)).trans (heap_alloc_new w3 (.cells #[.slice at_ toks.length ct,.slice an nodes.length cn] 132));have G4:=heap_alloc_new (w3.alloc (.cells #[.slice at_ toks.length ct,.slice an nodes.length cn] 132)) (.cells #[.slice none 0 0,.slice none 0 0] 38);rw[World.size_alloc] at G4;clear hb4 E1 E2 c0 c1;have hqb:w.heap.size+1<w3.heap.size:=hl2;generalize hw4:(w3.alloc _).alloc _=w4 at hb5 G1 G2 G3 G4 ⊢
 have hs4:w4.heap.size=w3.heap.size+1+1:=by rw[← hw4];simp
 clear hw4;generalize w3.heap.size=qb at hqb hs4 G3 G4 ⊢;have Mr:=hb5.size;obtain⟨hi,hni⟩:=mR HN.out;obtain⟨b,off,cap,kv,Z5,ZY,x0,x1,x2,hkv⟩:=HT.out.node hi;simp only[Value.slice.injEq] at Z5;obtain⟨rfl,-,rfl⟩:=Z5;rw[hni] at hkv;obtain⟨ak,ck,rfl,_,uT⟩:=hkv.form;simp only at x2 uT;obtain⟨bk,ok,rfl,hbk,hkc⟩:=uT (by omega);have Tm:=ah hkc;obtain⟨c0,c1⟩:=dn G1;have x2:=cell_later hb5 x2;have hr1:=HR1.out;have HNI:Hid (((nodes.length:Int) - 1)=(r:Int)):=ah (by omega)
 have hrI:(r:Int)<(nodes.length:Int):=by omega
 clear hr1 x0 x1 hkc uT hkv hni
 go_cut [21,22,23] (fun v1 v2 v3 wc=>v1=.slice (some ⟨bk,ok,none⟩) ks.length ck∧v2=.int .i64 ks.length∧v3=.int .i64 0∧Below w4.heap.size w4 wc)
 case first =>
  go_region_held3 (fun w'=>w'.cell? ⟨w.heap.size,0,none⟩=some (.slice at_ toks.length ct)∧w'.cell? ⟨w.heap.size,1,none⟩=some (.slice (some ⟨b,off,none⟩) nodes.length cn)∧w'.cell? ⟨b,off+r * 3+2,none⟩=some (.slice (some ⟨bk,ok,none⟩) ks.length ck))
   (first|(with_reducible exact p3)|(go_keep;done))
   ((go_at_call 66;refine(zG at_ toks.length ct (some ⟨b,off,none⟩) nodes.length cn _ (by omega)).mono ?_;rintro e w5 ⟨rfl,hb6⟩;rw[HNI.out];have zP:Below w4.heap.size w4 w5:=(Below.refl w4.heap.size w4).drew.trans hb6;have p3:=And.intro (cell_later zP c0) (And.intro (cell_later zP c1) (cell_later zP x2))))
  go_wp2_with fail
  go_meet
  exact⟨rfl,rfl,rfl,zP⟩
 case rest =>
  obtain⟨rfl,rfl,rfl,hbc⟩:=hcut
  obtain⟨wl,rfl⟩:∃ wl:World,wl=wc:=⟨_,rfl⟩
  have hzl:=hbc.size;have H1:=(hbc.block w.heap.size (by omega)).trans G1;have H2:=(hbc.block (w.heap.size+1) (by omega)).trans G2;have H3:=(hbc.block qb (by omega)).trans G3;have H4:=(hbc.block (qb+1) (by omega)).trans G4;have aeU:=hb5.trans (hbc.mono Mr)
  have hqw:w.heap.size≤qb+1:=by omega
  clear c0 c1 x2 hb5 hbc G1 G2 G3 G4;go_wp2
  go_loopw [23] (fun q wr=>∃ (j:Nat) (ai:Option Addr) (ni ci:Nat) (ad:Option Addr) (nd cd:Nat),j≤ks.length∧q=.int .i64 j∧aQ (fun b=>b<wl.heap.size∧b≠qb+1) wl wr∧wr.heap[qb+1]?=some (.cells #[.slice ai ni ci,.slice ad nd cd] 38 (0,0))∧abg IA DA pp wl (qb+1) 101 48 j wr (.slice ai ni ci) (.slice ad nd cd)∧Below w.heap.size w wr) (fun q _=>ks.length - (intOf q).toNat)
  case atStart=>exact⟨0,none,0,0,none,0,0,Nat.zero_le _,rfl,aQ.refl _ _,H4,.inl ⟨Nat.zero_le _,by rw[List.take_zero];exact fV.nil _ _ _ _,rfl⟩,aeU⟩
  case round =>
   obtain⟨j,ai,ni,ci,ad,nd,cd,hj,rfl,dW,hpb,hst,hbl⟩:=hrel;have acR:=dW.1;have R1:=(dW.2 w.heap.size ⟨by omega,by omega⟩ (by omega)).trans H1;have R3:=(dW.2 qb ⟨by omega,by omega⟩ (by omega)).trans H3
   by_cases hjl:j<ks.length
   ·have hjp:j<p.kids.length:=by have:=XF.out;omega
    have hrep:=HAT.out j hjl hjp;have hlv:=KL p.kids j hjp;rw[HLV.out] at hlv;rw[Nat.zero_add] at hrep;have hx:=(hbl.cell (p:=⟨bk,ok+j,none⟩) (by show bk<_;omega)).trans (Tm.out j hjl);generalize ks[j]=qk at hx hrep
    have JC:(j:Int)<(ks.length:Int):=by omega
    obtain⟨c0,c1⟩:=dn R1;obtain⟨r0,r1⟩:=jU R3;obtain⟨d0,d1,dz⟩:=gY hpb;have adq:=(bG hpb).1;clear H1 H2 H3 H4
    rcases Nat.lt_or_ge j p.imps with hji|hji
    ·
     obtain⟨ZE,hkj,hlj⟩:=p.YS j hji;rw[hkj] at hrep hlv;rw[hlj] at hrep hlv
     obtain⟨m,rfl⟩:∃ m:Nat,qk=(m:Int):=⟨qk.toNat,by have:=zo hrep;omega⟩
     obtain⟨k0,k1,k2,hnm,hl1⟩:=ZC hrep;obtain⟨hm,hnm'⟩:=mR hnm;obtain⟨b',off',cap',kv',e',_,y0,_,y2,hky⟩:=HT.out.node hm
     obtain⟨⟨rfl,rfl⟩,rfl⟩:(b=b'∧off=off')∧cn=cap':=by simpa using e'
     rw[hnm'] at y0 hky;obtain⟨ak2,ck2,rfl,_,abC⟩:=hky.form;simp only at y0 y2 abC;obtain⟨b2,o2,rfl,hb2,adr⟩:=abC (by simp);have z1:=(hbl.cell (p:=⟨b2,o2+1,none⟩) (by show b2<_;omega)).trans (adr 1 (by simp));have y0':=(hbl.cell (p:=⟨b,off+m * 3,none⟩) (by show b<_;omega)).trans y0;have y2':=(hbl.cell (p:=⟨b,off+m * 3+2,none⟩) (by show b<_;omega)).trans y2;simp only[List.getElem_cons_succ,List.getElem_cons_zero,dX,List.length_nil,Nat.zero_add] at z1 y2'
     have Tg:(m:Int)<(nodes.length:Int):=by omega
     have hut:3 * j+1<toks.length:=by simp only[sU,PT.lv,bB] at hlv;omega
     have hK:=fun W (hb:Below wr.heap.size wr W)=>(Wo.out k1 (3 * j+1) W hl1 hut (HT.out.below ((hbl.trans (hb.mono hbl.size)).mono hB)) (by have:=hbl.size;have:=hb.size;omega)).mono (R':=fun e w'=>e=.returned (mV (bL toks (3 * j+1)))∧Below wr.heap.size wr w'∧Below W.heap.size W w') fun e w' h=>⟨h.1,hb.trans (h.2.mono hb.size),h.2⟩
     have ads:j<pp.imports.length:=by have:=XV.out;omega
     have hg:=HIG.out j ads;have hsn:pp.imports.take (j+1)=pp.imports.take j++[pp.imports[j]]:=List.take_succ_eq_append_getElem ads;rw[hg] at hsn;unfold aI bZ at hsn;unfold mV bY at hK;generalize bL toks (3 * j+1)=t at hK hsn;obtain⟨tk,tl,tt,tp⟩:=t;simp only at hK hsn;have HK:=ah hK;have pQ:=ah hsn
     obtain⟨_,hown0,hdn⟩:j≤pp.imports.length∧fV IA wl.heap.size 101 wr (.slice ai ni ci) (pp.imports.take j)∧Value.slice ad nd cd=.slice none 0 0:=by
      rcases hst with hst|⟨hst,_⟩
      ·exact hst
      ·omega
     simp only[Value.slice.injEq] at hdn;obtain⟨rfl,rfl,rfl⟩:=hdn;clear hK hsn hg e' y0 y2 hky abC adr hnm hnm' hl1 hst hlv hlj hkj hrep
     go_upto_region 10 with fail
     go_cut [8] (fun v wc=>∃ Y:Nat,v=.pointer (some ⟨Y,0,none⟩)∧wc.heap[Y]?=some (.cells #[.int .i64 tk,.string ⟨tl.toArray⟩,.string ⟨tt.toArray⟩,.int .i64 tp] 136 (0,0))∧Below wr.heap.size wr wc)
     case first =>
      have hne0:qb≠wr.heap.size:=by omega
      have hne1:w.heap.size≠wr.heap.size:=by omega
      have hne2:b≠wr.heap.size:=by omega
      have abo:b2≠wr.heap.size:=by omega
      go_region_held3 (fun w'=>w'.cell? ⟨qb,0,none⟩=some (.slice at_ toks.length ct)∧w'.cell? ⟨qb,1,none⟩=some (.slice (some ⟨b,off,none⟩) nodes.length cn)∧w'.cell? ⟨w.heap.size,1,none⟩=some (.slice (some ⟨b,off,none⟩) nodes.length cn)∧w'.cell? ⟨b,off+m * 3+2,none⟩=some (.slice (some ⟨b2,o2,none⟩) 3 ck2)∧w'.cell? ⟨b2,o2+1,none⟩=some (.int .i64 k1))
       (first|(with_reducible exact p3)|((try dsimp only);with_reducible exact And.intro ((bD w3 wr.heap.size _ _ _ _ hne0).trans p3.1) (And.intro ((bD w3 wr.heap.size _ _ _ _ hne0).trans p3.2.1) (And.intro ((bD w3 wr.heap.size _ _ _ _ hne1).trans p3.2.2.1) (And.intro ((bD w3 wr.heap.size _ _ _ _ hne2).trans p3.2.2.2.1) ((bD w3 wr.heap.size _ _ _ _ abo).trans p3.2.2.2.2)))))|(go_keep;done))
       (first|(go_at_call 67;refine(HK.out _ ?_).mono ?_;(first|exact(Below.refl _ _).drew|exact((Below.refl _ _).alloc (Nat.le_refl _) _).drew);rintro e w3 ⟨rfl,hq3,hb3⟩;have p3:=And.intro (cell_later hq3 r0) (And.intro (cell_later hq3 r1) (And.intro (cell_later hq3 c1) (And.intro (cell_later hq3 y2') (cell_later hq3 z1))));try (have Dg:=(hb3.block wr.heap.size (by simp)).trans (heap_alloc_new wr (.cells #[.int .i64 0,.string ⟨#[]⟩,.string ⟨#[]⟩,.int .i64 0] 136));obtain⟨VW,VX,VY,VZ,V3⟩:=l7 Dg)))
      ·clear r0 r1 c1 y2' z1 p3
       go_wp2_with fail
       go_meet
       exact⟨w3.heap.size,rfl,heap_alloc_new _ _,hq3.alloc hq3.size _⟩
      ·obtain⟨S3,So,_⟩:=vK Dg (.int .i64 tk) (.string ⟨tl.toArray⟩) (.string ⟨tt.toArray⟩) (.int .i64 tp)
       clear r0 r1 c1 y2' z1 p3 VW VX VY VZ V3;go_wp2_with fail
       go_meet
       exact⟨wr.heap.size,rfl,S3,(((hq3.setCell (Nat.le_refl _) _).setCell (Nat.le_refl _) _).setCell (Nat.le_refl _) _).setCell (Nat.le_refl _) _⟩
     case rest =>
      obtain⟨Y,rfl,hY,hbc⟩:=hcut
      obtain⟨wt,rfl⟩:∃ wt:World,wt=wc:=⟨_,rfl⟩
      have abD:=(hbc.block (qb+1) adq).trans hpb;obtain⟨d0,d1,dz⟩:=gY abD;obtain⟨f2,f3⟩:=ru hY
      have SN:(pp.imports.take j).length=j:=by rw[List.length_take];omega
      obtain⟨_,_,hsl⟩:=hown0.slice;rw[SN] at hsl
      obtain⟨-,rfl,-⟩:_∧ni=j∧_:=by simpa using hsl
      obtain⟨vX,h1,hown,hes⟩:=hown0;rw[SN] at hown;have hzt:=hbc.size;have HNJ:=ah SN
      have Ws:some (qb+1)≠(Value.slice ai ni ci).ownBlock:=fun q=>by have:=(hown.lt _ q.symm).1;omega
      clear SN hsl HK hY;go_wp2_with (at_builtin;refine wpList_append_lies _ rfl _ _ 35 rfl wl.heap.size 101 ii _ 2 24 Tryz.underlying35 hii1 hii2 aeO aeP rfl (by decide) _ ni _ rfl ((own_below hown hbc).alloc _) ⟨wt.heap.size,0,none⟩ 1 1 [.string ⟨tt.toArray⟩,.int .i64 tp] rfl rfl ?c1 ?c2 ?c3 ?c4 ?c5 ?c6 (wt.heap.size+1) (by simp) ?_)
      case c2=>simp[Value.oneCell']
      case c4=>unfold maxLen;omega
      case c5=>omega
      case c6=>first|omega|(simp;omega)
      intro gg cap5 w5 hown5 iw yL Qv;have rU:=(iw.block (qb+1) (by simp;omega) Ws).trans ((Lib.alloc_old wt _ (qb+1) (by omega)).trans abD);obtain⟨d0',d1',dz'⟩:=gY rU;obtain⟨q1,q2,q3⟩:=kH.round (K:=IA) (Q:=fun b=>wl.heap.size≤b) (wr:=wr) (kv:=.slice ai ni ci) (QM:=.slice (some ⟨gg,0,none⟩) (ni+1) cap5) (acc:=pp.imports.take ni) (a:=(tt,tp)) (x:=()) (l:=vX) dW (show qb+1<wl.heap.size by omega) (by omega) h1 (by rw[HNJ.out];exact hown) hes trivial hbc (by rw[HNJ.out];exact hown5) iw rfl yL 0 (.slice (some ⟨gg,0,none⟩) (ni+1) cap5);have BR:(w5.setCell ⟨qb+1,0,none⟩ (.slice (some ⟨gg,0,none⟩) (ni+1) cap5)).heap[qb+1]?=some (.cells #[.slice (some ⟨gg,0,none⟩) (ni+1) cap5,.slice none 0 0] 38 (0,0)):=heap_setCell_same w5 (qb+1) 0 _ _ _ rU;have yQ:=q3 w.heap.size w hqw hbl;clear iw hown5 yL rU abD hes hown dW hpb d0 d1 dz f2 f3 hx y0' r0 r1 c0 c1 z1 y2' R1 R3 hbl h1 hbc;go_wp2;clear d0' d1' dz';generalize w5.setCell _ _=w6' at q1 q2 BR yQ ⊢
      go_roundw
      case rel =>
       refine⟨ni+1,some ⟨gg,0,none⟩,ni+1,cap5,none,0,0,by omega,by go_num,q2,BR,.inl ⟨by omega,?_,rfl⟩,yQ⟩;rw[pQ.out];exact q1
      case measure=>simp[intOf];omega
    ·obtain⟨jd,rfl⟩:∃ jd,j=p.imps+jd:=⟨j - p.imps,by omega⟩
     obtain⟨hnil,w2,hw2,ha2,hri,Lx,hdo⟩:=hst.two (by have:=XV.out;omega) dW
     have hsub:p.imps+jd - pp.imports.length=jd:=by have:=XV.out;omega
     rw[hsub] at hdo;have uM:=ah hnil;have HRI:=ah hri;have HA2:=ah ha2
     rcases Nat.lt_or_ge jd p.defs.length with hjd|hjd
     ·
      obtain⟨ZE,hkj,hlj⟩:=p.YT jd hjd;rw[hkj] at hrep hlv;rw[hlj] at hrep hlv
      obtain⟨m,rfl⟩:∃ m:Nat,qk=(m:Int):=⟨qk.toNat,by have:=zo hrep;omega⟩
      have hok:=C9 p.defs (3 * p.imps) jd hjd HOK.out.2.2.2
      have adt:jd<pp.defs.length:=by have:=HPD.out;omega
      have hg:=HDG.out jd hjd adt;have hC:=Zk.out p.defs[jd] _ hok hlv m wr.drew hrep (HT.out.below (hbl.mono hB).drew) (Nat.le_trans hB hbl.size);rw[← hg] at hC;have hsn:pp.defs.take (jd+1)=pp.defs.take jd++[pp.defs[jd]]:=List.take_succ_eq_append_getElem adt;have aat:lM nodes m (3 * p.imps+bB (List.map cB.pt (List.take jd p.defs))) (.node 3 p.defs[jd].kids):=hrep;obtain⟨ks2,hnm,_⟩:=dM aat;obtain⟨hm,hnm'⟩:=mR hnm;obtain⟨b',off',cap',kv',e',_,y0,_,_,_⟩:=HT.out.node hm
      obtain⟨⟨rfl,rfl⟩,rfl⟩:(b=b'∧off=off')∧cn=cap':=by simpa using e'
      rw[hnm'] at y0;simp only at y0;have y0':=(hbl.cell (p:=⟨b,off+m * 3,none⟩) (by show b<_;omega)).trans y0
      have Tg:(m:Int)<(nodes.length:Int):=by omega
      generalize pp.defs[jd]=d at hC hsn;have HC:=ah hC;have pQ:=ah hsn
      have SN:(pp.defs.take jd).length=jd:=by rw[List.length_take];omega
      obtain⟨_,_,hsl⟩:=hdo.slice;rw[SN] at hsl
      obtain⟨-,rfl,-⟩:_∧nd=jd∧_:=by simpa using hsl
      obtain⟨vX,h1,hown,hes⟩:=hdo;rw[SN] at hown;have HNJ:=ah SN
      have hlts:∀ b,some b=(Value.slice ad nd cd).ownBlock→w2.heap.size≤b∧b<wr.heap.size:=fun b q=>hown.lt b q.symm
      have Ws:some (qb+1)≠(Value.slice ad nd cd).ownBlock:=fun q=>by have:=(hlts _ q).1;omega
      have HL:=ah hlts
      have hX2:qb+1<w2.heap.size:=by omega
      have hsz2:=Lx.1;clear hnil hri ha2 hst hC hsn hg hok SN hsl hlts y0 e' hnm hnm' hrep aat hkj hlj hlv ZE hsub;go_wp2
      go_region_law ((first
       | (refine step_append_lies _ (by rfl) _ _ _ (by rfl) w2.heap.size 48 id _ 15 208 Tryz.underlying36 aeQ aeR aeS aeT rfl (by omega) (.slice ad nd cd) nd _ (by rfl) ((own_below (pV hown) hb2).alloc _) ⟨W2.heap.size,0,none⟩ 1 1 [.bool d.pub,.string ⟨d.res.name.toArray⟩,.slice ap d.params.length cp,.int .i64 d.res.base,.slice ac d.res.clause.length cc,.int .i64 d.body.op,.string ⟨d.body.name.toArray⟩,.string ⟨d.body.module.toArray⟩,.bool (decide (d.body.num<0)),.slice am wn cm,.bool d.body.yes,.slice ae d.body.kids.length ce,.int .i64 d.body.at_,.int .i64 d.res.at_,.int .i64 d.res.bare] (by rfl) (by rfl) (World.news_of_block (cs:=#[.bool d.pub,.string ⟨d.res.name.toArray⟩,.slice ap d.params.length cp,.int .i64 d.res.base,.slice ac d.res.clause.length cc,.int .i64 d.body.op,.string ⟨d.body.name.toArray⟩,.string ⟨d.body.module.toArray⟩,.bool (decide (d.body.num<0)),.slice am wn cm,.bool d.body.yes,.slice ae d.body.kids.length ce,.int .i64 d.body.at_,.int .i64 d.res.at_,.int .i64 d.res.bare]) (t:=48) (fr:=(0,0)) (heap_alloc_new W2 _)) (by simp[Value.oneCell']) (by omega) (by unfold maxLen;omega) (by omega) (by have:=hb2.size;simp at this ⊢;omega) (W2.heap.size+1) (by simp) ?_;intro gg cap5 w5 hown5 iw yL Qv;have rU:=(iw.block (qb+1) (by have:=hb2.size;simp at this ⊢;omega) Ws).trans ((Lib.alloc_old W2 _ (qb+1) (by have:=hb2.size;simp at this;omega)).trans BQ);have r65:=(gY rU).2.1;have z65:=(gY rU).2.2 1)
       | (refine uD rfl 68 _ _ rfl HC.out (by rfl) (ent _ _) ?_;rintro e W2 ⟨ap,cp,ac,cc,am,wn,cm,ae,ce,rfl,hxe,hb2⟩;refine⟨_,rfl,?_⟩;have BQ:=(hb2.block (qb+1) adq).trans hpb;have ZU:=(gY BQ).2.1;have r63:=fun o=>Lib.cell?_alloc_some o ZU)))
      all_goals
       obtain⟨q1,q2,q3⟩:=kH.round (K:=DA) (Q:=fun b=>w2.heap.size≤b) (wr:=wr.drew) (kv:=.slice ad nd cd) (QM:=.slice (some ⟨gg,0,none⟩) (nd+1) cap5) (acc:=pp.defs.take nd) (a:=d) (x:=⟨.slice ap d.params.length cp,.slice ac d.res.clause.length cc,.slice am wn cm,.slice ae d.body.kids.length ce⟩) (l:=vX) (show aQ _ w2 wr.drew from Lx) hX2 (by omega) h1 (by rw[HNJ.out];exact hown) (fun p hp=>DA.frame (hes p hp) (aQ.drew _ wr)) (DA.imp (P:=fun b=>wr.drew.heap.size≤b) hxe fun b hb _=>⟨Nat.le_trans hsz2 hb,fun q=>by have:=(HL.out b q).2;have:wr.drew.heap.size=wr.heap.size:=rfl;omega⟩) hb2 (by rw[HNJ.out];exact hown5) iw rfl yL 1 (.slice (some ⟨gg,0,none⟩) (nd+1) cap5);have BR:(w5.setCell ⟨qb+1,1,none⟩ (.slice (some ⟨gg,0,none⟩) (nd+1) cap5)).heap[qb+1]?=some (.cells #[.slice ai ni ci,.slice (some ⟨gg,0,none⟩) (nd+1) cap5] 38 (0,0)):=heap_setCell_same w5 (qb+1) 1 _ _ _ rU;have yQ:=q3 w.heap.size w hqw hbl.drew;clear iw hown5 yL rU r65 z65 BQ ZU r63 hxe hb2 HC hes hown dW hpb d0 d1 dz hx y0' r0 r1 c0 c1 R1 R3 hbl h1 Lx;generalize w5.setCell _ _=w6' at q1 q2 BR yQ ⊢;go_wp2
       go_roundw
       case rel =>
        refine⟨p.imps+nd+1,ai,ni,ci,some ⟨gg,0,none⟩,nd+1,cap5,by omega,by go_num,?_,BR,.inr ⟨by have:=XV.out;omega,uM.out,w2,hw2,HA2.out,HRI.out,q2,?_⟩,yQ⟩
        ·exact HA2.out.trans ⟨q2.1,fun b hb hl=>q2.2 b ⟨by omega,hb.2⟩ hl⟩
        ·rw[show p.imps+nd+1 - pp.imports.length=nd+1 by have:=XV.out;omega,pQ.out]
         exact q1
       case measure=>simp[intOf];omega
     ·obtain⟨ZE,hkj⟩:=p.YU
      obtain rfl:jd=p.defs.length:=by have:=yD.out;omega
      rw[hkj] at hrep;obtain⟨m,rfl,hnm⟩:=lM.Mv hrep;obtain⟨hm,hnm'⟩:=mR hnm;obtain⟨b',off',cap',kv',e',_,y0,_,_,_⟩:=HT.out.node hm
      obtain⟨⟨rfl,rfl⟩,rfl⟩:(b=b'∧off=off')∧cn=cap':=by simpa using e'
      rw[hnm'] at y0;simp only at y0;have y0':=(hbl.cell (p:=⟨b,off+m * 3,none⟩) (by show b<_;omega)).trans y0
      have Tg:(m:Int)<(nodes.length:Int):=by omega
      clear hnil hri ha2 hst y0 e' hnm hnm' hrep hkj hlv ZE hsub;go_wp2
      go_roundw
      case rel =>
       refine⟨p.imps+p.defs.length+1,ai,ni,ci,ad,nd,cd,by omega,by go_num,dW,hpb,.inr ⟨by have:=XV.out;omega,uM.out,w2,hw2,HA2.out,HRI.out,Lx,?_⟩,hbl⟩;rw[show p.imps+p.defs.length+1 - pp.imports.length=pp.defs.length+1 by have:=XV.out;have:=HPD.out;omega,List.take_of_length_le (by omega)];rw[← HPD.out,List.take_length] at hdo;exact hdo
      case measure=>simp[intOf];omega
   ·
    obtain rfl:j=ks.length:=by omega
    have JC:decide ((ks.length:Int)<(ks.length:Int))=false:=decide_eq_false (by omega);obtain⟨hnil,w2,hw2,ha2,hri,Lx,hdo⟩:=hst.two (by have:=XV.out;have:=yD.out;omega) dW;rw[List.take_of_length_le (by have:=XV.out;have:=HPD.out;have:=yD.out;omega)] at hdo;have hR2:=(dW.2 (w.heap.size+1) ⟨by omega,by omega⟩ (by omega)).trans H2
    have hrw:RowK IA (fun b=>wl.heap.size≤b) wr (.slice ai ni ci) pp.imports:=((hri.imp (Q:=fun b=>wl.heap.size≤b∧b<w2.heap.size∧b≠qb+1) fun b hb hl=>⟨hb,hl,by omega⟩).frame ⟨Lx.1,fun b hb hl=>Lx.2 b hb.2 hl⟩).imp fun b hb _=>hb.1
    have hrd:RowK DA (fun b=>wl.heap.size≤b) wr (.slice ad nd cd) pp.defs:=hdo.row.imp fun b hb _=>by omega
    have hod:fV DA wl.heap.size 48 wr (.slice ad nd cd) pp.defs:=hdo.base hw2;obtain⟨_,_,hs1⟩:=hrw.slice;obtain⟨_,_,hs2⟩:=hrd.slice
    obtain⟨-,rfl,-⟩:_∧ni=pp.imports.length∧_:=by simpa using hs1
    obtain⟨-,rfl,-⟩:_∧nd=pp.defs.length∧_:=by simpa using hs2
    obtain⟨d0,d1,dz⟩:=gY hpb;obtain⟨e0,e1,ez⟩:=gY hR2;clear hst hri hdo hs1 hs2 H1 H2 H3 H4 R1 R3 Lx ha2 hw2 dW hpb hR2;go_wp2;refine bodyPost_ret (v:=.tuple #[.agg #[.slice ai pp.imports.length ci,.slice ad pp.defs.length cd],.int .i64 0]) (by simp[results,Tryz.results37,go_sem,e0,e1]) rfl ⟨ai,ci,ad,cd,rfl,fun q=>hnil _ _ (by rw[q]),⟨?_,?_⟩,?_,?_⟩
    ·exact(hrw.frame ((aQ.set _ fun b hb=>by show b≠w.heap.size+1;omega).trans (aQ.set _ fun b hb=>by show b≠w.heap.size+1;omega))).imp fun b hb _=>by omega
    ·exact(hrd.frame ((aQ.set _ fun b hb=>by show b≠w.heap.size+1;omega).trans (aQ.set _ fun b hb=>by show b≠w.heap.size+1;omega))).imp fun b hb _=>by omega
    ·exact(hbl.setCell (by simp) _).setCell (by simp) _
    ·exact((hod.set (by show w.heap.size+1<_;omega) _).set (by show w.heap.size+1<_;omega) _).base (by omega)
end Go.Proofs.YtknicmmigbhpcaaGreatDoor

namespace Go.Proofs.YtknicmmigbhpcaaGreatDoor
open Go.RowKit Go
open Go.RowKit Go
end Go.Proofs.YtknicmmigbhpcaaGreatDoor
