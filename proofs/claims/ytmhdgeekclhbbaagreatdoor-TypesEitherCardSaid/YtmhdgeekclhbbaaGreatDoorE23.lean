/- Walks and plain laws, without a condition. -/
import Derived.Test.YtmhdgeekclhbbaaGreatDoorE22
set_option maxHeartbeats 16000000
set_option maxRecDepth 100000
set_option linter.unusedVariables false
set_option linter.unusedSimpArgs false
namespace Go.Proofs.YtmhdgeekclhbbaaGreatDoor
open Go.RowKit Go
variable{w:World}
theorem aes (B:Nat)(at_:Option Addr)(ct:Nat)(an:Option Addr)(cn:Nat)(S:ByteArray)(ah:List Tok)(aj:List Nd)(D:aH)(w:World)(h:bE B w (.agg #[.slice at_ ah.length ct,.slice an aj.length cn]) ah aj)(hB:B<=w.heap.size)
  (G:D9 ah aj D) (hS:S.size<=65536) (hw:iL ah=S.data.toList) (hf:gF S.data.toList 200=.good ah aj) :
  Calls Tryz.prog 59 #[.agg #[.slice at_ ah.length ct,.slice an aj.length cn],.func (.func 30) #[] #[]] w λe w'=>e=.returned (.bool true)/\Below w.heap.size w w':=by
 have hft:=G.WY;have hfn:=G.few;obtain⟨XD,hXD,eX⟩:=jV D
 have LW:Hid (∀ (B:Nat) (at_:Option Addr) (ct:Nat) (an:Option Addr) (cn:Nat) (W:World),bE B W (.agg #[.slice at_ ah.length ct,.slice an aj.length cn]) ah aj->B<=W.heap.size->Calls Tryz.prog 103 #[.agg #[.slice at_ ah.length ct,.slice an aj.length cn],.int .i64 ((aj.length:Int) - 1)] W λe w'=>e=.returned (.tuple #[.string XD,.int .i64 0])/\Below W.heap.size W w') :=
  ay λB at_ ct an cn W hT hBW=>(Rp G B _ _ W hT hBW).mono λe w' h=>⟨by rw[h.1,eX],h.2⟩
 have hlen:iC ah ah.length<=1099511627776:=by
  rw[<- Gz,hw,aS];omega
 have eS:ByteArray.mk (S.data.toList).toArray=S:=by cases S;simp
 have Rs:Hid (∀ W,Below w.heap.size w W->Calls Tryz.prog 104 #[.agg #[.slice at_ ah.length ct,.slice an aj.length cn]] W λe w'=>e=.returned (.string S)/\Below W.heap.size W w'):=ay λW hW=>by
  obtain⟨tv',nv',l,e1,e2,_⟩:=h.below (hW.mono hB);simp only[Value.agg.injEq,Array.mk.injEq,List.cons.injEq,and_true] at e1;obtain⟨rfl,rfl⟩:=e1;have:=Rq B (.slice at_ ah.length ct) (.slice an aj.length cn) ah W (by omega) hlen e2 (iY hB hW.size);rw[hw,eS] at this;exact this
 have Co:=ay (λW=>za S 200 W (by omega) (by omega) (by omega));rw[hf] at Co;have HT:=ay h;have hal:=aB w (.cells #[.slice at_ ah.length ct,.slice an aj.length cn] 81);have e1:=aZ w (.cells #[.slice at_ ah.length ct,.slice an aj.length cn] 81);clear h G hf hw hXD eX eS hlen;go_enter Tryz.func59,Tryz.ntmps59
 go_upto_region 1 with fail
 generalize w.alloc _=w1 at hal e1 |-;obtain⟨c0,c1⟩:=dn e1;have hl1:=(bU e1).1
 go_cut [5,6] (λa e wx=>a=.string XD/\e=.int .i64 0/\wx.heap[w.heap.size]?=some (.cells #[.slice at_ ah.length ct,.slice an aj.length cn] 81 (0,0))/\Below w.heap.size w wx)
 case first =>
  go_region_with (first|(go_at_call 60;refine(vJ at_ ah.length ct an aj.length cn _ (by omega)).mono ?_;rintro e w5 ⟨rfl,hb5⟩;have d0:=(hb5.cell (p:=⟨w.heap.size,0,none⟩) hl1).trans c0;have d1:=(hb5.cell (p:=⟨w.heap.size,1,none⟩) hl1).trans c1)|(go_at_call 103;refine(LW.out B at_ ct an cn _ (HT.out.below ((hal.drew.trans (hb5.mono hal.size)).mono hB)) (iY hB (hal.drew.trans (hb5.mono hal.size)).size)).mono ?_;rintro e w6 ⟨rfl,hb6⟩))
  all_goals
   have uF:=hal.drew.trans (hb5.mono hal.size);have T6:=(hb6.block w.heap.size (zI hl1 hb5.size)).trans ((hb5.block w.heap.size hl1).trans e1);go_wp2_with fail
   go_meet
   exact⟨rfl,rfl,T6,uF.trans (hb6.mono uF.size)⟩
 case rest =>
  obtain⟨rfl,rfl,hT,hbc⟩:=hcut;clear hal e1 c0 c1 hl1 w1
  obtain⟨wo,rfl⟩:∃ wo:World,wo=wc:=⟨_,rfl⟩
  obtain⟨c0,c1⟩:=dn hT
  go_upto_region 3 with (first|(go_at_call 104;refine(Rs.out _ hbc).mono ?_;rintro e w7 ⟨rfl,BI⟩)|(go_at_call 30;refine(Co.out _).mono ?_;rintro e w8 ⟨lF,a8,c8,b8,d8,rfl,ht8⟩))
  have UQ:=(hbc.trans (BI.mono hbc.size))
  have NU:=UQ.trans (lF.mono UQ.size);have hT8:=(lF.block w.heap.size (zI (bU hT).1 BI.size)).trans ((BI.block w.heap.size (bU hT).1).trans hT);have zW:=(bU hT8).1;have wY:=(aB w8 (.cells #[.slice a8 ah.length c8,.slice b8 aj.length d8] 81)).alloc (by simp) (.cells #[.int .i64 0,.int .i64 0] 71);have hT9:=(wY.block w.heap.size zW).trans hT8;have YZ:=(iB (w8.alloc (.cells #[.slice a8 ah.length c8,.slice b8 aj.length d8] 81)) (.cells #[.int .i64 0,.int .i64 0] 71) w8.heap.size (by simp)).trans (aZ w8 (.cells #[.slice a8 ah.length c8,.slice b8 aj.length d8] 81));have hF9:=aZ (w8.alloc (.cells #[.slice a8 ah.length c8,.slice b8 aj.length d8] 81)) (.cells #[.int .i64 0,.int .i64 0] 71);rw[oU] at hF9;have hU:=ay (ht8.at.below wY);have EO:=NU.trans (wY.mono NU.size);have hz9:=wY.size;clear BI lF hT8 wY ht8 UQ hT hbc c0 c1 Rs Co;generalize w8.heap.size=ub at YZ hF9 hU hz9 zW NU |-;generalize (w8.alloc _).alloc _=w9 at hT9 YZ hF9 hU EO hz9 |-;obtain⟨c0,c1⟩:=dn YZ;have hl9:=(bU YZ).1;have hlT:=(bU hT9).1;have hlF:=(bU hF9).1
  go_cut [9,10] (λa e wx=>a=.string XD/\e=.int .i64 0/\Below w9.heap.size w9 wx)
  case first =>
   go_region_with (first|(go_at_call 60;refine(vJ a8 ah.length c8 b8 aj.length d8 _ (by omega)).mono ?_;rintro e w5 ⟨rfl,hb5⟩;have d0:=(hb5.cell (p:=⟨ub,0,none⟩) hl9).trans c0;have d1:=(hb5.cell (p:=⟨ub,1,none⟩) hl9).trans c1)|(go_at_call 103;refine(LW.out ub a8 c8 b8 d8 _ (hU.out.below (((bY w9.heap.size w9).drew.trans hb5).mono hz9)) (iY hz9 hb5.size)).mono ?_;rintro e w6 ⟨rfl,hb6⟩))
   all_goals
    have uF:=(bY w9.heap.size w9).drew.trans hb5;go_wp2_with fail
    go_meet
    exact⟨rfl,rfl,uF.trans (hb6.mono uF.size)⟩
  case rest =>
   obtain⟨rfl,rfl,hbc⟩:=hcut;have hTc:=(hbc.block _ hlT).trans hT9;have hUc:=(hbc.block _ hl9).trans YZ;have hFc:=(hbc.block _ hlF).trans hF9;have HU:=ay (hU.out.below (hbc.mono hz9));have hbw:Below w.heap.size w wc:=EO.trans (hbc.mono EO.size);have HT2:=ay (HT.out.below (hbw.mono hB));clear hT9 YZ hF9 hU EO hz9 zW NU c0 c1 hl9 hlT hlF hbc LW HT
   obtain⟨wo,rfl⟩:∃ wo:World,wo=wc:=⟨_,rfl⟩
   obtain⟨c0,c1⟩:=dn hTc;obtain⟨u0,u1⟩:=dn hUc;obtain⟨f0,f1,_⟩:=jw hFc;have hlU:=(bU hUc).1;have hzo:=hbw.size;go_wp2;clear c0 c1 u0 u1 f0 f1
   go_loopw [58] (λq wr=>∃ k:Nat,k<=ah.length/\q=.int .i64 k/\Below wo.heap.size wo wr) (λq _=>ah.length - (intOf q).toNat)
   case atStart=>exact⟨0,mD _,rfl,bY _ _⟩
   case round =>
    obtain⟨k,hk,rfl,hbl⟩:=hrel;have hwz:=hbl.size
    by_cases hlt:k<ah.length
    ·obtain⟨b1,o1,ah3,ev,hb1,t0,t1,t2,t3⟩:=HT2.out.tok hlt
     simp only[Value.slice.injEq] at ev;obtain⟨rfl,-,rfl⟩:=ev;obtain⟨b2,o2,cap2,ev,hb2,s0,s1,s2,s3⟩:=HU.out.tok hlt;simp only[Value.slice.injEq] at ev;obtain⟨rfl,-,rfl⟩:=ev;have x0:=(hbl.cell (p:=⟨b1,o1+k * 4,none⟩) (by show b1<_;omega)).trans t0;have x1:=(hbl.cell (p:=⟨b1,o1+k * 4+1,none⟩) (by show b1<_;omega)).trans t1;have x2:=(hbl.cell (p:=⟨b1,o1+k * 4+2,none⟩) (by show b1<_;omega)).trans t2;have x3:=(hbl.cell (p:=⟨b1,o1+k * 4+3,none⟩) (by show b1<_;omega)).trans t3;generalize ah[k]=tk at x0 x1 x2 x3 s0 s1 s2 s3;simp only[dX] at x1 x2 s1 s2;have hal:=aB wr (.cells #[.int .i64 tk.kind,.string ⟨tk.lead.toArray⟩,.string ⟨tk.text.toArray⟩,.int .i64 tk.place] 131);have hba:=hbl.trans (hal.mono hwz);have y0:=(hba.cell (p:=⟨b2,o2+k * 4,none⟩) (by show b2<_;omega)).trans s0;have y1:=(hba.cell (p:=⟨b2,o2+k * 4+1,none⟩) (by show b2<_;omega)).trans s1;have y2:=(hba.cell (p:=⟨b2,o2+k * 4+2,none⟩) (by show b2<_;omega)).trans s2;have y3:=(hba.cell (p:=⟨b2,o2+k * 4+3,none⟩) (by show b2<_;omega)).trans s3;have U2:=(hba.block ub hlU).trans hUc;have N2:=aZ wr (.cells #[.int .i64 tk.kind,.string ⟨tk.lead.toArray⟩,.string ⟨tk.text.toArray⟩,.int .i64 tk.place] 131)
     have qF:(k:Int)<(ah.length:Int):=by omega
     clear t0 t1 t2 t3 s0 s1 s2 s3 hal
     go_upto_region 9 with fail
     clear x0 x1 x2 x3;generalize wr.heap.size=nb at N2 |-;generalize wr.alloc _=w2 at hba y0 y1 y2 y3 U2 N2 |-;obtain⟨d0,d1⟩:=dn U2
     have n0:w2.cell? ⟨nb,0,none⟩=some (.int .i64 tk.kind):=by rw[bg N2];rfl
     have n1:w2.cell? ⟨nb,1,none⟩=some (.string ⟨tk.lead.toArray⟩):=by rw[bg N2];rfl
     have n2:w2.cell? ⟨nb,2,none⟩=some (.string ⟨tk.text.toArray⟩):=by rw[bg N2];rfl
     have n3:w2.cell? ⟨nb,3,none⟩=some (.int .i64 tk.place):=by rw[bg N2];rfl
     clear N2 U2
     go_quiet (fail)
     go_wp2
     go_roundw
     case rel=>exact⟨k+1,by omega,by go_num,⟨hba.os,hba.tape,hba.output,hba.size,hba.block⟩⟩
     case measure=>simp[intOf];omega
    ·obtain rfl:k=ah.length:=by omega
     have qF:decide ((ah.length:Int)<(ah.length:Int))=false:=fu (by omega);go_wp2;go_ret;exact⟨rfl,hbw.trans (hbl.mono hzo)⟩
theorem Tryz.UR:(Tryz.prog.info? 91).map (λi=>(i.zero,i.size,i.bytes))=some (some (.agg #[.string ⟨#[]⟩,.int .i64 0]),2,24):=by kernel_rfl
theorem Tryz.aeu:(Tryz.prog.info? 66).map (λi=>(i.zero,i.size,i.bytes))=some (some (.agg #[.bool false,.string ⟨#[]⟩,.slice none 0 0,.int .i64 0,.slice none 0 0,.int .i64 0,.string ⟨#[]⟩,.string ⟨#[]⟩,.bool false,.slice none 0 0,.bool false,.slice none 0 0,.int .i64 0,.int .i64 0,.int .i64 0]),15,208):=by kernel_rfl
theorem Tryz.YI:∀ args w,(callFunc 62 args).run Tryz.prog w=.ok (.enter 62 args) w:=Go.Proofs.enters_of Tryz.func62 (by kernel_rfl) rfl
theorem bX {b:Nat}{c0 c1:Value}(h:w.heap[b]?=some (.cells #[c0,c1] 26 (0,0))):w.cell? ⟨b,0,none⟩=some c0/\w.cell? ⟨b,1,none⟩=some c1/\∀ j,w.frozen? ⟨b,j,none⟩=false:=by
 refine⟨?_,?_,λj=>by simp[World.frozen?,h]⟩<;>(rw[bg h];rfl)
theorem aev {aj:List Nd}{m u:Nat}(h:pK aj m u xP):∃ (k0 k1 k2:Nat),aj[m]?=some ⟨(2:Nat),-1,[(k0:Int),k1,k2]⟩/\aj[k1]?=some ⟨19,((u+1:Nat):Int),[]⟩:=by
 obtain⟨ks,h1,h2⟩:=fG h;obtain⟨k0,ks0,rfl,_,h3⟩:=dx h2;obtain⟨k1,ks1,rfl,h4,h5⟩:=dx h3;obtain⟨k2,ks2,rfl,_,h6⟩:=dx h5;rw[fT] at h6;subst h6;exact⟨k0,k1,k2,h1,h4⟩
theorem agp (B:Nat)(at_:Option Addr)(ct:Nat)(an:Option Addr)(cn:Nat)(S:ByteArray)(ah:List Tok)(aj:List Nd)(p:lD)(w:World)(h:bE B w (.agg #[.slice at_ ah.length ct,.slice an aj.length cn]) ah aj)(hB:B<=w.heap.size)(F:mM S.data.toList ah aj p) :
  Calls Tryz.prog 31 #[.agg #[.slice at_ ah.length ct,.slice an aj.length cn]] w (acj (p.pp ah) w):=by
 obtain⟨ii,hii1,hii2,ajt,aju⟩:=info_parts Tryz.UR;obtain⟨id,ajv,ajw,ajx,ajy⟩:=info_parts Tryz.aeu;have ent:=Tryz.YI;have hft:=F.good.WY;have hfn:=F.good.few;obtain⟨r,ks,hr1,hn,hk⟩:=X7 F;obtain⟨hlen,hat⟩:=Vx _ _ _ hk;have HAT:=ay hat;have hkl:=p.ab0;rw[<- hlen] at hkl;have HKN:=ay hkl
 have ajI:0<ks.length:=by omega
 clear hkl;have HKL:=ay hlen;have HLV:Hid (cO p.aA=ah.length):=ay F.lv;have E:=afK F B (.slice at_ ah.length ct) (.slice an aj.length cn);have HA:=ay (λW (hW:Below w.heap.size w W)=>aes B at_ ct an cn S ah aj _ W (h.below (hW.mono hB)) (iY hB hW.size) F.good (by have:=F.small;rw[aS] at this;exact this) F.whole F.deep);have vI:Hid (∀ (d:dY) (u:Nat),d.ok ah u->u+d.pt.lv<=ah.length->∀ (m:Nat) (W:World),pK aj m u d.pt->bE B W (.agg #[.slice at_ ah.length ct,.slice an aj.length cn]) ah aj->B<=W.heap.size->Calls Tryz.prog 62 #[.agg #[.slice at_ ah.length ct,.slice an aj.length cn],.int .i64 m] W (ace (d.dd ah u) W)):=ay (λd u ho hl m W hr hT hW=>acf E d u ho hl m W hr hT hW)
 have Ry:Hid (∀ (k u:Nat) (W:World),aj[k]?=some ⟨19,(u:Nat),[]⟩->u<ah.length->bE B W (.agg #[.slice at_ ah.length ct,.slice an aj.length cn]) ah aj->B<=W.heap.size->Calls Tryz.prog 61 #[.agg #[.slice at_ ah.length ct,.slice an aj.length cn],.int .i64 k] W λe w'=>e=.returned (qN (dh ah u))/\Below W.heap.size W w'):=ay (λk u W hl hu hT hW=>by
  have:=lJ B _ _ ah aj k u W hT hW hl hu;have e:=j3 hu;rw[AB hu] at e;rw[kE e] at this
  exact this)
 have HOK:=ay F.okk;have akt:=F.okk.1;have aku:=F.okk.2.1;have HPI:Hid ((p.pp ah).aG.length=p.imps):=ay (Ab _ _ _);have HPD:Hid ((p.pp ah).defs.length=p.defs.length):=ay (Aa _ _ _)
 have HIG:Hid (∀ (j:Nat) (hj:j<(p.pp ah).aG.length),(p.pp ah).aG[j]=(aJ ah (3 * j+1),bN ah (3 * j+1))):=ay (λj hj=>by
  have:=Io ah p.imps 0 j hj;rw[Nat.zero_add] at this
  exact this)
 have HDG:Hid (∀ (j:Nat) (h1:j<p.defs.length) (h2:j<(p.pp ah).defs.length),(p.pp ah).defs[j]=p.defs[j].dd ah (3 * p.imps+cO ((p.defs.take j).map dY.pt))):=ay (λj h1 h2=>Ip ah p.defs (3 * p.imps) j h1 h2);generalize p.pp ah=pp at HPI HPD HIG HDG |-;have HT:=ay h;have HN:=ay hn;have HR1:=ay hr1;have hal:=(aB w (.cells #[.slice at_ ah.length ct,.slice an aj.length cn] 81)).alloc (by simp) (.cells #[.slice none 0 0,.slice none 0 0] 26);have e1:=(iB (w.alloc (.cells #[.slice at_ ah.length ct,.slice an aj.length cn] 81)) (.cells #[.slice none 0 0,.slice none 0 0] 26) w.heap.size (by simp)).trans (aZ w (.cells #[.slice at_ ah.length ct,.slice an aj.length cn] 81));have e2:=aZ (w.alloc (.cells #[.slice at_ ah.length ct,.slice an aj.length cn] 81)) (.cells #[.slice none 0 0,.slice none 0 0] 26);rw[oU] at e2;obtain⟨c0,c1⟩:=dn e1;clear h F hn hr1 hk hat hlen E;go_enter Tryz.func31,Tryz.ntmps31
 go_upto_region 3 with (go_at_call 59;refine(HA.out _ hal).mono ?_;rintro e w3 ⟨rfl,hb3⟩)
 have E1:=(hb3.block w.heap.size (by simp;omega)).trans e1;have E2:=(hb3.block (w.heap.size+1) (by simp)).trans e2;have hb4:=hal.trans (hb3.mono (by simp;omega));have D7:=hb4.size;have hl2:=(bU E2).1;obtain⟨c0,c1⟩:=dn E1;clear hb3 e1 e2 hal HA
 go_upto_region 5 with fail
 have hb5:=(hb4.alloc D7 (.cells #[.slice at_ ah.length ct,.slice an aj.length cn] 126)).alloc (by simp;omega) (.cells #[.slice none 0 0,.slice none 0 0] 26);have G1:=(iB (w3.alloc (.cells #[.slice at_ ah.length ct,.slice an aj.length cn] 126)) (.cells #[.slice none 0 0,.slice none 0 0] 26) w.heap.size (by simp;omega)).trans ((iB w3 (.cells #[.slice at_ ah.length ct,.slice an aj.length cn] 126) w.heap.size (by omega)).trans E1);have G2:=(iB (w3.alloc (.cells #[.slice at_ ah.length ct,.slice an aj.length cn] 126)) (.cells #[.slice none 0 0,.slice none 0 0] 26) (w.heap.size+1) (by simp;omega)).trans ((iB w3 (.cells #[.slice at_ ah.length ct,.slice an aj.length cn] 126) (w.heap.size+1) hl2).trans E2);have G3:=(iB (w3.alloc (.cells #[.slice at_ ah.length ct,.slice an aj.length cn] 126)) (.cells #[.slice none 0 0,.slice none 0 0] 26) w3.heap.size (by simp)).trans (aZ w3 (.cells #[.slice at_ ah.length ct,.slice an aj.length cn] 126));have G4:=aZ (w3.alloc (.cells #[.slice at_ ah.length ct,.slice an aj.length cn] 126)) (.cells #[.slice none 0 0,.slice none 0 0] 26);rw[oU] at G4;clear hb4 E1 E2 c0 c1;have hqb:w.heap.size+1<w3.heap.size:=hl2;generalize hw4:(w3.alloc _).alloc _=w4 at hb5 G1 G2 G3 G4 |-
 have hs4:w4.heap.size=w3.heap.size+1+1:=by rw[<- hw4];simp
 clear hw4;generalize w3.heap.size=qb at hqb hs4 G3 G4 |-;have U8:=hb5.size;obtain⟨hi,hni⟩:=qm HN.out;obtain⟨b,off,cap,kv,hnv,Vb,x0,x1,x2,hkv⟩:=HT.out.node hi;simp only[Value.slice.injEq] at hnv;obtain⟨rfl,-,rfl⟩:=hnv;rw[hni] at hkv;obtain⟨ak,ck,rfl,_,zu⟩:=hkv.form;simp only at x2 zu;obtain⟨bk,ok,rfl,hbk,hkc⟩:=zu (by omega);have YQ:=ay hkc;obtain⟨c0,c1⟩:=dn G1;have x2:=jy hb5 x2;have hr1:=HR1.out;have HNI:Hid (((aj.length:Int) - 1)=(r:Int)):=ay (by omega)
 have hrI:(r:Int)<(aj.length:Int):=by omega
 clear hr1 x0 x1 hkc zu hkv hni
 go_cut [21,22,23] (λv1 v2 v3 wc=>v1=.slice (some ⟨bk,ok,none⟩) ks.length ck/\v2=.int .i64 ks.length/\v3=.int .i64 0/\Below w4.heap.size w4 wc)
 case first =>
  go_region_held3 (λw'=>w'.cell? ⟨w.heap.size,0,none⟩=some (.slice at_ ah.length ct)/\w'.cell? ⟨w.heap.size,1,none⟩=some (.slice (some ⟨b,off,none⟩) aj.length cn)/\w'.cell? ⟨b,off+r * 3+2,none⟩=some (.slice (some ⟨bk,ok,none⟩) ks.length ck))
   (first|(with_reducible exact p3)|(go_keep;done))
   ((go_at_call 60;refine(vJ at_ ah.length ct (some ⟨b,off,none⟩) aj.length cn _ (by omega)).mono ?_;rintro e w5 ⟨rfl,hb6⟩;rw[HNI.out];have zm:Below w4.heap.size w4 w5:=(bY w4.heap.size w4).drew.trans hb6;have p3:=iq (jy zm c0) (iq (jy zm c1) (jy zm x2))))
  go_wp2_with fail
  go_meet
  exact⟨rfl,rfl,rfl,zm⟩
 case rest =>
  obtain⟨rfl,rfl,rfl,hbc⟩:=hcut
  obtain⟨wl,rfl⟩:∃ wl:World,wl=wc:=⟨_,rfl⟩
  have hzl:=hbc.size;have H1:=(hbc.block w.heap.size (by omega)).trans G1;have H2:=(hbc.block (w.heap.size+1) (by omega)).trans G2;have H3:=(hbc.block qb (by omega)).trans G3;have H4:=(hbc.block (qb+1) (by omega)).trans G4;have ajz:=hb5.trans (hbc.mono U8)
  have hqw:w.heap.size<=qb+1:=by omega
  clear c0 c1 x2 hb5 hbc G1 G2 G3 G4;go_wp2
  go_loopw [23] (λq wr=>∃ (j:Nat) (ai:Option Addr) (ni ci:Nat) (ad:Option Addr) (nd cd:Nat),j<=ks.length/\q=.int .i64 j/\bA (λb=>b<wl.heap.size/\b≠qb+1) wl wr/\wr.heap[qb+1]?=some (.cells #[.slice ai ni ci,.slice ad nd cd] 26 (0,0))/\afM IA DA pp wl (qb+1) 91 66 j wr (.slice ai ni ci) (.slice ad nd cd)/\Below w.heap.size w wr) (λq _=>ks.length - (intOf q).toNat)
  case atStart=>exact⟨0,none,0,0,none,0,0,mD _,rfl,bA.refl _ _,H4,.inl ⟨mD _,by rw[List.take_zero];exact gP.nil _ _ _ _,rfl⟩,ajz⟩
  case round =>
   obtain⟨j,ai,ni,ci,ad,nd,cd,hj,rfl,fU,hpb,hst,hbl⟩:=hrel;have aht:=fU.1;have R1:=(fU.2 w.heap.size ⟨by omega,by omega⟩ (by omega)).trans H1;have R3:=(fU.2 qb ⟨by omega,by omega⟩ (by omega)).trans H3
   by_cases hjl:j<ks.length
   ·have hjp:j<p.aA.length:=by have:=HKL.out;omega
    have hrep:=HAT.out j hjl hjp;have hlv:=Qt p.aA j hjp;rw[HLV.out] at hlv;rw[Nat.zero_add] at hrep;have hx:=(hbl.cell (p:=⟨bk,ok+j,none⟩) (by show bk<_;omega)).trans (YQ.out j hjl);generalize ks[j]=qk at hx hrep
    have Md:(j:Int)<(ks.length:Int):=by omega
    obtain⟨c0,c1⟩:=dn R1;obtain⟨r0,r1⟩:=mP R3;obtain⟨d0,d1,dz⟩:=bX hpb;have ah5:=(bU hpb).1;clear H1 H2 H3 H4
    rcases Nat.lt_or_ge j p.imps with hji|hji
    ·
     obtain⟨aew,hkj,hlj⟩:=p.adU j hji;rw[hkj] at hrep hlv;rw[hlj] at hrep hlv
     obtain⟨m,rfl⟩:∃ m:Nat,qk=(m:Int):=⟨qk.toNat,by have:=Dk hrep;omega⟩
     obtain⟨k0,k1,k2,hnm,hl1⟩:=aev hrep;obtain⟨hm,hnm'⟩:=qm hnm;obtain⟨b',off',jc,kv',e',_,y0,_,y2,hky⟩:=HT.out.node hm
     obtain⟨⟨rfl,rfl⟩,rfl⟩:(b=b'/\off=off')/\cn=jc:=by simpa using e'
     rw[hnm'] at y0 hky;obtain⟨ak2,ck2,rfl,_,agq⟩:=hky.form;simp only at y0 y2 agq;obtain⟨b2,o2,rfl,hb2,ah6⟩:=agq (by simp);have z1:=(hbl.cell (p:=⟨b2,o2+1,none⟩) (by show b2<_;omega)).trans (ah6 1 (by simp));have y0':=(hbl.cell (p:=⟨b,off+m * 3,none⟩) (by show b<_;omega)).trans y0;have y2':=(hbl.cell (p:=⟨b,off+m * 3+2,none⟩) (by show b<_;omega)).trans y2;simp only[JG,List.getElem_cons_zero,dN,iF,Nat.zero_add] at z1 y2'
     have hmI:(m:Int)<(aj.length:Int):=by omega
     have hut:3 * j+1<ah.length:=by simp only[xP,PT.lv,cO] at hlv;omega
     have hK:=λW (hb:Below wr.heap.size wr W)=>(Ry.out k1 (3 * j+1) W hl1 hut (HT.out.below ((hbl.trans (hb.mono hbl.size)).mono hB)) (by have:=hbl.size;have:=hb.size;omega)).mono (R':=λe w'=>e=.returned (qN (dh ah (3 * j+1)))/\Below wr.heap.size wr w'/\Below W.heap.size W w') λe w' h=>⟨h.1,hb.trans (h.2.mono hb.size),h.2⟩
     have ah7:j<pp.aG.length:=by have:=HPI.out;omega
     have hg:=HIG.out j ah7;have hsn:pp.aG.take (j+1)=pp.aG.take j++[pp.aG[j]]:=EF ah7;rw[hg] at hsn;unfold aJ bN at hsn;unfold qN dX at hK;generalize dh ah (3 * j+1)=t at hK hsn;obtain⟨tk,tl,tt,tp⟩:=t;simp only at hK hsn;have HK:=ay hK;have tZ:=ay hsn
     obtain⟨_,hown0,hdn⟩:j<=pp.aG.length/\gP IA wl.heap.size 91 wr (.slice ai ni ci) (pp.aG.take j)/\Value.slice ad nd cd=.slice none 0 0:=by
      rcases hst with hst|⟨hst,_⟩
      ·exact hst
      ·omega
     simp only[Value.slice.injEq] at hdn;obtain⟨rfl,rfl,rfl⟩:=hdn;clear hK hsn hg e' y0 y2 hky agq ah6 hnm hnm' hl1 hst hlv hlj hkj hrep
     go_upto_region 10 with fail
     go_cut [8] (λv wc=>∃ Y:Nat,v=.pointer (some ⟨Y,0,none⟩)/\wc.heap[Y]?=some (.cells #[.int .i64 tk,.string ⟨tl.toArray⟩,.string ⟨tt.toArray⟩,.int .i64 tp] 131 (0,0))/\Below wr.heap.size wr wc)
     case first =>
      have hne0:qb≠wr.heap.size:=by omega
      have hne1:w.heap.size≠wr.heap.size:=by omega
      have hne2:b≠wr.heap.size:=by omega
      have QT:b2≠wr.heap.size:=by omega
      go_region_held3 (λw'=>w'.cell? ⟨qb,0,none⟩=some (.slice at_ ah.length ct)/\w'.cell? ⟨qb,1,none⟩=some (.slice (some ⟨b,off,none⟩) aj.length cn)/\w'.cell? ⟨w.heap.size,1,none⟩=some (.slice (some ⟨b,off,none⟩) aj.length cn)/\w'.cell? ⟨b,off+m * 3+2,none⟩=some (.slice (some ⟨b2,o2,none⟩) 3 ck2)/\w'.cell? ⟨b2,o2+1,none⟩=some (.int .i64 k1))
       (first|(with_reducible exact p3)|((try dsimp only);with_reducible exact iq ((dw w3 wr.heap.size _ _ _ _ hne0).trans p3.1) (iq ((dw w3 wr.heap.size _ _ _ _ hne0).trans p3.2.1) (iq ((dw w3 wr.heap.size _ _ _ _ hne1).trans p3.2.2.1) (iq ((dw w3 wr.heap.size _ _ _ _ hne2).trans p3.2.2.2.1) ((dw w3 wr.heap.size _ _ _ _ QT).trans p3.2.2.2.2)))))|(go_keep;done))
       (first|(go_at_call 61;refine(HK.out _ ?_).mono ?_;(first|exact(bY _ _).drew|exact((bY _ _).alloc (bI _) _).drew);rintro e w3 ⟨rfl,hq3,hb3⟩;have p3:=iq (jy hq3 r0) (iq (jy hq3 r1) (iq (jy hq3 c1) (iq (jy hq3 y2') (jy hq3 z1))));try (have Iz:=(hb3.block wr.heap.size (by simp)).trans (aZ wr (.cells #[.int .i64 0,.string ⟨#[]⟩,.string ⟨#[]⟩,.int .i64 0] 131));obtain⟨tz0,tz1,tz2,tz3,tz4⟩:=qd Iz)))
      ·clear r0 r1 c1 y2' z1 p3
       go_wp2_with fail
       go_meet
       exact⟨w3.heap.size,rfl,aZ _ _,hq3.alloc hq3.size _⟩
      ·obtain⟨S3,So,_⟩:=Af Iz (.int .i64 tk) (.string ⟨tl.toArray⟩) (.string ⟨tt.toArray⟩) (.int .i64 tp)
       clear r0 r1 c1 y2' z1 p3 tz0 tz1 tz2 tz3 tz4;go_wp2_with fail
       go_meet
       exact⟨wr.heap.size,rfl,S3,(((hq3.setCell (bI _) _).setCell (bI _) _).setCell (bI _) _).setCell (bI _) _⟩
     case rest =>
      obtain⟨Y,rfl,hY,hbc⟩:=hcut
      obtain⟨wt,rfl⟩:∃ wt:World,wt=wc:=⟨_,rfl⟩
      have NC:=(hbc.block (qb+1) ah5).trans hpb;obtain⟨d0,d1,dz⟩:=bX NC;obtain⟨f2,f3⟩:=wB hY
      have YE:(pp.aG.take j).length=j:=by rw[qX];omega
      obtain⟨_,_,hsl⟩:=hown0.slice;rw[YE] at hsl
      obtain⟨-,rfl,-⟩:_/\ni=j/\_:=by simpa using hsl
      obtain⟨Nq,h1,hown,hes⟩:=hown0;rw[YE] at hown;have hzt:=hbc.size;have HNJ:=ay YE
      have aci:some (qb+1)≠(Value.slice ai ni ci).ownBlock:=λq=>by have:=(hown.lt _ q.symm).1;omega
      clear YE hsl HK hY;go_wp2_with (at_builtin;refine wpList_append_lies _ rfl _ _ 23 rfl wl.heap.size 91 ii _ 2 24 Tryz.underlying23 hii1 hii2 ajt aju rfl (by decide) _ ni _ rfl ((own_below hown hbc).alloc _) ⟨wt.heap.size,0,none⟩ 1 1 [.string ⟨tt.toArray⟩,.int .i64 tp] rfl rfl ?c1 ?c2 ?c3 ?c4 ?c5 ?c6 (wt.heap.size+1) (by simp) ?_)
      case c2=>simp[Value.oneCell']
      case c4=>unfold maxLen;omega
      case c5=>omega
      case c6=>first|omega|(simp;omega)
      intro gg oV w5 iW jB CB Sj;have wW:=(jB.block (qb+1) (by simp;omega) aci).trans ((iB wt _ (qb+1) (by omega)).trans NC);obtain⟨d0',d1',dz'⟩:=bX wW;obtain⟨q1,q2,q3⟩:=sP.round (K:=IA) (Q:=λb=>wl.heap.size<=b) (wr:=wr) (kv:=.slice ai ni ci) (YM:=.slice (some ⟨gg,0,none⟩) (ni+1) oV) (acc:=pp.aG.take ni) (a:=(tt,tp)) (x:=()) (l:=Nq) fU (show qb+1<wl.heap.size by omega) (by omega) h1 (by rw[HNJ.out];exact hown) hes trivial hbc (by rw[HNJ.out];exact iW) jB rfl CB 0 (.slice (some ⟨gg,0,none⟩) (ni+1) oV);have Gs:(w5.setCell ⟨qb+1,0,none⟩ (.slice (some ⟨gg,0,none⟩) (ni+1) oV)).heap[qb+1]?=some (.cells #[.slice (some ⟨gg,0,none⟩) (ni+1) oV,.slice none 0 0] 26 (0,0)):=kG w5 (qb+1) 0 _ _ _ wW;have Gt:=q3 w.heap.size w hqw hbl;clear jB iW CB wW NC hes hown fU hpb d0 d1 dz f2 f3 hx y0' r0 r1 c0 c1 z1 y2' R1 R3 hbl h1 hbc;go_wp2;clear d0' d1' dz';generalize w5.setCell _ _=w6' at q1 q2 Gs Gt |-
      go_roundw
      case rel =>
       refine⟨ni+1,some ⟨gg,0,none⟩,ni+1,oV,none,0,0,by omega,by go_num,q2,Gs,.inl ⟨by omega,?_,rfl⟩,Gt⟩;rw[tZ.out];exact q1
      case measure=>simp[intOf];omega
    ·obtain⟨jd,rfl⟩:∃ jd,j=p.imps+jd:=⟨j - p.imps,by omega⟩
     obtain⟨hnil,w2,hw2,ha2,hri,Rt,hdo⟩:=hst.two (by have:=HPI.out;omega) fU
     have hsub:p.imps+jd - pp.aG.length=jd:=by have:=HPI.out;omega
     rw[hsub] at hdo;have zl:=ay hnil;have HRI:=ay hri;have HA2:=ay ha2
     rcases Nat.lt_or_ge jd p.defs.length with hjd|hjd
     ·
      obtain⟨aew,hkj,hlj⟩:=p.adV jd hjd;rw[hkj] at hrep hlv;rw[hlj] at hrep hlv
      obtain⟨m,rfl⟩:∃ m:Nat,qk=(m:Int):=⟨qk.toNat,by have:=Dk hrep;omega⟩
      have hok:=Iq p.defs (3 * p.imps) jd hjd HOK.out.2.2.2
      have ah8:jd<pp.defs.length:=by have:=HPD.out;omega
      have hg:=HDG.out jd hjd ah8;have hC:=vI.out p.defs[jd] _ hok hlv m wr.drew hrep (HT.out.below (hbl.mono hB).drew) (iY hB hbl.size);rw[<- hg] at hC;have hsn:pp.defs.take (jd+1)=pp.defs.take jd++[pp.defs[jd]]:=EF ah8;have aeU:pK aj m (3 * p.imps+cO (List.map dY.pt (List.take jd p.defs))) (.node 3 p.defs[jd].aA):=hrep;obtain⟨ks2,hnm,_⟩:=fG aeU;obtain⟨hm,hnm'⟩:=qm hnm;obtain⟨b',off',jc,kv',e',_,y0,_,_,_⟩:=HT.out.node hm
      obtain⟨⟨rfl,rfl⟩,rfl⟩:(b=b'/\off=off')/\cn=jc:=by simpa using e'
      rw[hnm'] at y0;simp only at y0;have y0':=(hbl.cell (p:=⟨b,off+m * 3,none⟩) (by show b<_;omega)).trans y0
      have hmI:(m:Int)<(aj.length:Int):=by omega
      generalize pp.defs[jd]=d at hC hsn;have HC:=ay hC;have tZ:=ay hsn
      have YE:(pp.defs.take jd).length=jd:=by rw[qX];omega
      obtain⟨_,_,hsl⟩:=hdo.slice;rw[YE] at hsl
      obtain⟨-,rfl,-⟩:_/\nd=jd/\_:=by simpa using hsl
      obtain⟨Nq,h1,hown,hes⟩:=hdo;rw[YE] at hown;have HNJ:=ay YE
      have hlts:∀ b,some b=(Value.slice ad nd cd).ownBlock->w2.heap.size<=b/\b<wr.heap.size:=λb q=>hown.lt b q.symm
      have aci:some (qb+1)≠(Value.slice ad nd cd).ownBlock:=λq=>by have:=(hlts _ q).1;omega
      have HL:=ay hlts
      have hX2:qb+1<w2.heap.size:=by omega
      have hsz2:=Rt.1;clear hnil hri ha2 hst hC hsn hg hok YE hsl hlts y0 e' hnm hnm' hrep aeU hkj hlj hlv aew hsub;go_wp2
      go_region_law ((first
       | (refine step_append_lies _ (by rfl) _ _ _ (by rfl) w2.heap.size 66 id _ 15 208 Tryz.underlying24 ajv ajw ajx ajy rfl (by omega) (.slice ad nd cd) nd _ (by rfl) ((own_below (uL hown) hb2).alloc _) ⟨W2.heap.size,0,none⟩ 1 1 [.bool d.pub,.string ⟨d.res.name.toArray⟩,.slice ap d.params.length cp,.int .i64 d.res.base,.slice ac d.res.aC.length cc,.int .i64 d.body.op,.string ⟨d.body.name.toArray⟩,.string ⟨d.body.module.toArray⟩,.bool (decide (d.body.num<0)),.slice am wn cm,.bool d.body.yes,.slice ae d.body.aA.length ce,.int .i64 d.body.at_,.int .i64 d.res.at_,.int .i64 d.res.bare] (by rfl) (by rfl) (wS (cs:=#[.bool d.pub,.string ⟨d.res.name.toArray⟩,.slice ap d.params.length cp,.int .i64 d.res.base,.slice ac d.res.aC.length cc,.int .i64 d.body.op,.string ⟨d.body.name.toArray⟩,.string ⟨d.body.module.toArray⟩,.bool (decide (d.body.num<0)),.slice am wn cm,.bool d.body.yes,.slice ae d.body.aA.length ce,.int .i64 d.body.at_,.int .i64 d.res.at_,.int .i64 d.res.bare]) (t:=66) (fr:=(0,0)) (aZ W2 _)) (by simp[Value.oneCell']) (by omega) (by unfold maxLen;omega) (by omega) (by have:=hb2.size;simp at this |-;omega) (W2.heap.size+1) (by simp) ?_;intro gg oV w5 iW jB CB Sj;have wW:=(jB.block (qb+1) (by have:=hb2.size;simp at this |-;omega) aci).trans ((iB W2 _ (qb+1) (by have:=hb2.size;simp at this;omega)).trans Gr);have r65:=(bX wW).2.1;have z65:=(bX wW).2.2 1)
       | (refine yL rfl 62 _ _ rfl HC.out (by rfl) (ent _ _) ?_;rintro e W2 ⟨ap,cp,ac,cc,am,wn,cm,ae,ce,rfl,hxe,hb2⟩;refine⟨_,rfl,?_⟩;have Gr:=(hb2.block (qb+1) ah5).trans hpb;have r62:=(bX Gr).2.1;have r63:=λo=>Lib.cell?_alloc_some o r62)))
      all_goals
       obtain⟨q1,q2,q3⟩:=sP.round (K:=DA) (Q:=λb=>w2.heap.size<=b) (wr:=wr.drew) (kv:=.slice ad nd cd) (YM:=.slice (some ⟨gg,0,none⟩) (nd+1) oV) (acc:=pp.defs.take nd) (a:=d) (x:=⟨.slice ap d.params.length cp,.slice ac d.res.aC.length cc,.slice am wn cm,.slice ae d.body.aA.length ce⟩) (l:=Nq) (show bA _ w2 wr.drew from Rt) hX2 (by omega) h1 (by rw[HNJ.out];exact hown) (λp hp=>DA.frame (hes p hp) (bA.drew _ wr)) (DA.imp (P:=λb=>wr.drew.heap.size<=b) hxe λb hb _=>⟨iY hsz2 hb,λq=>by have:=(HL.out b q).2;have:wr.drew.heap.size=wr.heap.size:=rfl;omega⟩) hb2 (by rw[HNJ.out];exact iW) jB rfl CB 1 (.slice (some ⟨gg,0,none⟩) (nd+1) oV);have Gs:(w5.setCell ⟨qb+1,1,none⟩ (.slice (some ⟨gg,0,none⟩) (nd+1) oV)).heap[qb+1]?=some (.cells #[.slice ai ni ci,.slice (some ⟨gg,0,none⟩) (nd+1) oV] 26 (0,0)):=kG w5 (qb+1) 1 _ _ _ wW;have Gt:=q3 w.heap.size w hqw hbl.drew;clear jB iW CB wW r65 z65 Gr r62 r63 hxe hb2 HC hes hown fU hpb d0 d1 dz hx y0' r0 r1 c0 c1 R1 R3 hbl h1 Rt;generalize w5.setCell _ _=w6' at q1 q2 Gs Gt |-;go_wp2
       go_roundw
       case rel =>
        refine⟨p.imps+nd+1,ai,ni,ci,some ⟨gg,0,none⟩,nd+1,oV,by omega,by go_num,?_,Gs,.inr ⟨by have:=HPI.out;omega,zl.out,w2,hw2,HA2.out,HRI.out,q2,?_⟩,Gt⟩
        ·exact HA2.out.trans ⟨q2.1,λb hb hl=>q2.2 b ⟨by omega,hb.2⟩ hl⟩
        ·rw[show p.imps+nd+1 - pp.aG.length=nd+1 by have:=HPI.out;omega,tZ.out]
         exact q1
       case measure=>simp[intOf];omega
     ·obtain⟨aew,hkj⟩:=p.adW
      obtain rfl:jd=p.defs.length:=by have:=HKN.out;omega
      rw[hkj] at hrep;obtain⟨m,rfl,hnm⟩:=pK.RO hrep;obtain⟨hm,hnm'⟩:=qm hnm;obtain⟨b',off',jc,kv',e',_,y0,_,_,_⟩:=HT.out.node hm
      obtain⟨⟨rfl,rfl⟩,rfl⟩:(b=b'/\off=off')/\cn=jc:=by simpa using e'
      rw[hnm'] at y0;simp only at y0;have y0':=(hbl.cell (p:=⟨b,off+m * 3,none⟩) (by show b<_;omega)).trans y0
      have hmI:(m:Int)<(aj.length:Int):=by omega
      clear hnil hri ha2 hst y0 e' hnm hnm' hrep hkj hlv aew hsub;go_wp2
      go_roundw
      case rel =>
       refine⟨p.imps+p.defs.length+1,ai,ni,ci,ad,nd,cd,by omega,by go_num,fU,hpb,.inr ⟨by have:=HPI.out;omega,zl.out,w2,hw2,HA2.out,HRI.out,Rt,?_⟩,hbl⟩;rw[show p.imps+p.defs.length+1 - pp.aG.length=pp.defs.length+1 by have:=HPI.out;have:=HPD.out;omega,DL (by omega)];rw[<- HPD.out,Fe] at hdo;exact hdo
      case measure=>simp[intOf];omega
   ·
    obtain rfl:j=ks.length:=by omega
    have Md:decide ((ks.length:Int)<(ks.length:Int))=false:=fu (by omega);obtain⟨hnil,w2,hw2,ha2,hri,Rt,hdo⟩:=hst.two (by have:=HPI.out;have:=HKN.out;omega) fU;rw[DL (by have:=HPI.out;have:=HPD.out;have:=HKN.out;omega)] at hdo;have hR2:=(fU.2 (w.heap.size+1) ⟨by omega,by omega⟩ (by omega)).trans H2
    have hrw:RowK IA (λb=>wl.heap.size<=b) wr (.slice ai ni ci) pp.aG:=((hri.imp (Q:=λb=>wl.heap.size<=b/\b<w2.heap.size/\b≠qb+1) λb hb hl=>⟨hb,hl,by omega⟩).frame ⟨Rt.1,λb hb hl=>Rt.2 b hb.2 hl⟩).imp λb hb _=>hb.1
    have hrd:RowK DA (λb=>wl.heap.size<=b) wr (.slice ad nd cd) pp.defs:=hdo.row.imp λb hb _=>by omega
    have hod:gP DA wl.heap.size 66 wr (.slice ad nd cd) pp.defs:=hdo.base hw2;obtain⟨_,_,hs1⟩:=hrw.slice;obtain⟨_,_,hs2⟩:=hrd.slice
    obtain⟨-,rfl,-⟩:_/\ni=pp.aG.length/\_:=by simpa using hs1
    obtain⟨-,rfl,-⟩:_/\nd=pp.defs.length/\_:=by simpa using hs2
    obtain⟨d0,d1,dz⟩:=bX hpb;obtain⟨e0,e1,ez⟩:=bX hR2;clear hst hri hdo hs1 hs2 H1 H2 H3 H4 R1 R3 Rt ha2 hw2 fU hpb hR2;go_wp2;refine o9 (v:=.tuple #[.agg #[.slice ai pp.aG.length ci,.slice ad pp.defs.length cd],.int .i64 0]) (by simp[results,Tryz.results31,go_sem,e0,e1]) rfl ⟨ai,ci,ad,cd,rfl,λq=>hnil _ _ (by rw[q]),⟨?_,?_⟩,?_,?_⟩
    ·exact(hrw.frame ((bA.set _ λb hb=>by show b≠w.heap.size+1;omega).trans (bA.set _ λb hb=>by show b≠w.heap.size+1;omega))).imp λb hb _=>by omega
    ·exact(hrd.frame ((bA.set _ λb hb=>by show b≠w.heap.size+1;omega).trans (bA.set _ λb hb=>by show b≠w.heap.size+1;omega))).imp λb hb _=>by omega
    ·exact(hbl.setCell (by simp) _).setCell (by simp) _
    ·exact((hod.set (by show w.heap.size+1<_;omega) _).set (by show w.heap.size+1<_;omega) _).base (by omega)
def V5:List Tok:=[⟨5,[],[],0⟩]
def NV:List Nd:=[⟨19,0,[]⟩,⟨1,-1,[0]⟩]
theorem ac3:gF [] 200=.good V5 NV:=by rfl
theorem agr (w:World) :
  Calls Tryz.prog 59 #[.agg #[.slice none 0 0,.slice none 0 0],.func (.func 30) #[] #[]] w λe w'=>e=.returned (.bool false)/\Below w.heap.size w w':=by
 have LW:=ay (λ(W:World)=>aer (-1) W)
 have Rs:Hid (∀ W:World,Calls Tryz.prog 104 #[.agg #[.slice none 0 0,.slice none 0 0]] W λe w'=>e=.returned (.string ⟨#[]⟩)/\Below W.heap.size W w'):=ay λW =>
  Rq 0 (.slice none 0 0) (.slice none 0 0) [] W (by simp) (by decide) (ac1 _ _ _) (mD _)
 have Co:=ay (λW=>za ⟨#[]⟩ 200 W (by omega) (by omega) (by decide));have hal:=aB w (.cells #[.slice none 0 0,.slice none 0 0] 81);have e1:=aZ w (.cells #[.slice none 0 0,.slice none 0 0] 81);rw[show gF (ByteArray.mk #[]).data.toList 200=.good V5 NV from ac3] at Co
 obtain⟨D,G⟩:∃ D,D9 V5 NV D:=by
  obtain⟨p,G⟩:=Xg (by omega) ac3;exact⟨_,G.good⟩
 have hft:=G.WY;have hfn:=G.few;obtain⟨XD,hXD,eX⟩:=jV D;generalize V5=ah at Co G hft;generalize NV=aj at Co G hfn
 have ags:Hid (∀ (B:Nat) (at_:Option Addr) (ct:Nat) (an:Option Addr) (cn:Nat) (W:World),bE B W (.agg #[.slice at_ ah.length ct,.slice an aj.length cn]) ah aj->B<=W.heap.size->Calls Tryz.prog 103 #[.agg #[.slice at_ ah.length ct,.slice an aj.length cn],.int .i64 ((aj.length:Int) - 1)] W λe w'=>e=.returned (.tuple #[.string XD,.int .i64 0])/\Below W.heap.size W w') :=
  ay λB at_ ct an cn W hT hBW=>(Rp G B _ _ W hT hBW).mono λe w' h=>⟨by rw[h.1,eX],h.2⟩
 clear G hXD eX;go_enter Tryz.func59,Tryz.ntmps59
 go_upto_region 1 with fail
 generalize w.alloc _=w1 at hal e1 |-;obtain⟨c0,c1⟩:=dn e1;have hl1:=(bU e1).1
 go_cut [5,6] (λa e wx=>a=.string ⟨#[]⟩/\e=.int .i64 10/\wx.heap[w.heap.size]?=some (.cells #[.slice none 0 0,.slice none 0 0] 81 (0,0))/\Below w.heap.size w wx)
 case first =>
  go_region_with (first|(go_at_call 60;refine(vJ none 0 0 none 0 0 _ (by omega)).mono ?_;rintro e w5 ⟨rfl,hb5⟩;have d0:=(hb5.cell (p:=⟨w.heap.size,0,none⟩) hl1).trans c0;have d1:=(hb5.cell (p:=⟨w.heap.size,1,none⟩) hl1).trans c1)|(go_at_call 103;refine(LW.out _).mono ?_;rintro e w6 ⟨rfl,hb6⟩))
  all_goals
   have uF:=hal.drew.trans (hb5.mono hal.size);have T6:=(hb6.block w.heap.size (zI hl1 hb5.size)).trans ((hb5.block w.heap.size hl1).trans e1);go_wp2_with fail
   go_meet
   exact⟨rfl,rfl,T6,uF.trans (hb6.mono uF.size)⟩
 case rest =>
  obtain⟨rfl,rfl,hT,hbc⟩:=hcut;clear hal e1 c0 c1 hl1 w1
  obtain⟨wo,rfl⟩:∃ wo:World,wo=wc:=⟨_,rfl⟩
  obtain⟨c0,c1⟩:=dn hT
  go_upto_region 3 with (first|(go_at_call 104;refine(Rs.out _).mono ?_;rintro e w7 ⟨rfl,BI⟩)|(go_at_call 30;refine(Co.out _).mono ?_;rintro e w8 ⟨lF,a8,c8,b8,d8,rfl,ht8⟩))
  have UQ:=(hbc.trans (BI.mono hbc.size))
  have NU:=UQ.trans (lF.mono UQ.size);have wY:=(aB w8 (.cells #[.slice a8 ah.length c8,.slice b8 aj.length d8] 81)).alloc (by simp) (.cells #[.int .i64 0,.int .i64 0] 71);have YZ:=(iB (w8.alloc (.cells #[.slice a8 ah.length c8,.slice b8 aj.length d8] 81)) (.cells #[.int .i64 0,.int .i64 0] 71) w8.heap.size (by simp)).trans (aZ w8 (.cells #[.slice a8 ah.length c8,.slice b8 aj.length d8] 81));have hU:=ay (ht8.at.below wY);have EO:=NU.trans (wY.mono NU.size);have hz9:=wY.size;clear BI lF wY ht8 UQ hT hbc c0 c1 Rs Co LW;generalize w8.heap.size=ub at YZ hU hz9 NU |-;generalize (w8.alloc _).alloc _=w9 at YZ hU EO hz9 |-;obtain⟨c0,c1⟩:=dn YZ;have hl9:=(bU YZ).1
  go_cut [9,10] (λa e wx=>Below w.heap.size w wx)
  case first =>
   go_region_with (first|(go_at_call 60;refine(vJ a8 ah.length c8 b8 aj.length d8 _ (by omega)).mono ?_;rintro e w5 ⟨rfl,hb5⟩;have d0:=(hb5.cell (p:=⟨ub,0,none⟩) hl9).trans c0;have d1:=(hb5.cell (p:=⟨ub,1,none⟩) hl9).trans c1)|(go_at_call 103;refine(ags.out ub a8 c8 b8 d8 _ (hU.out.below (((bY w9.heap.size w9).drew.trans hb5).mono hz9)) (iY hz9 hb5.size)).mono ?_;rintro e w6 ⟨rfl,hb6⟩))
   all_goals
    have uF:=(bY w9.heap.size w9).drew.trans hb5;go_wp2_with fail
    go_meet
    exact EO.trans ((uF.trans (hb6.mono uF.size)).mono EO.size)
  case rest =>
   clear c0 c1 hl9 YZ EO NU;go_wp2;go_ret;exact⟨rfl,hcut⟩
theorem YJ (w:World) :
  Calls Tryz.prog 31 #[.agg #[.slice none 0 0,.slice none 0 0]] w λe w'=>e=.returned (.tuple #[.agg #[.slice none 0 0,.slice none 0 0],.int .i64 10])/\Below w.heap.size w w':=by
 have HA:=ay (λW=>agr W);have hal:=(aB w (.cells #[.slice none 0 0,.slice none 0 0] 81)).alloc (by simp) (.cells #[.slice none 0 0,.slice none 0 0] 26);have e1:=(iB (w.alloc (.cells #[.slice none 0 0,.slice none 0 0] 81)) (.cells #[.slice none 0 0,.slice none 0 0] 26) w.heap.size (by simp)).trans (aZ w (.cells #[.slice none 0 0,.slice none 0 0] 81));have e2:=aZ (w.alloc (.cells #[.slice none 0 0,.slice none 0 0] 81)) (.cells #[.slice none 0 0,.slice none 0 0] 26);rw[oU] at e2;obtain⟨c0,c1⟩:=dn e1;go_enter Tryz.func31,Tryz.ntmps31
 go_upto_region 2 with (go_at_call 59;refine(HA.out _).mono ?_;rintro e w3 ⟨rfl,hb3⟩)
 have E2:=(hb3.block (w.heap.size+1) (by simp)).trans e2;have hb4:=hal.trans (hb3.mono (by simp;omega));clear hb3 e1 e2 hal HA c0 c1;obtain⟨d0,d1,dz⟩:=bX E2;go_wp2;refine o9 (v:=.tuple #[.agg #[.slice none 0 0,.slice none 0 0],.int .i64 10]) (by simp[results,Tryz.results31,go_sem,d0,d1]) rfl ⟨rfl,?_⟩;exact(hb4.setCell (by simp) _).setCell (by simp) _
def DI (p:PP)(w:World)(e:Ending)(w':World):Prop :=
 ∃ ai ci ad cd,e=.returned (.tuple #[.agg #[.slice ai p.aG.length ci,.slice ad p.defs.length cd],.bool true])/\MR (λb=>w.heap.size<=b) w' (.slice ai p.aG.length ci) (.slice ad p.defs.length cd) p/\Below w.heap.size w w'/\gP DA w.heap.size 66 w' (.slice ad p.defs.length cd) p.defs
theorem Jt (s:ByteArray)(w:World)(hs:s.size<=65536)(ah:List Tok)(aj:List Nd)(p:lD)(h:gF s.data.toList 60=.good ah aj)(F:mM s.data.toList ah aj p) :
  Calls Tryz.prog 23 #[.string s] w (DI (p.pp ah) w):=by
 have HF:=ay (λW=>za s 60 W (by omega) (by omega) (by omega));rw[h] at HF;have HO:=ay (λB at_ ct an cn W hT hB=>agp B at_ ct an cn s ah aj p W hT hB F);generalize p.pp ah=pp at HO |-;have Ju:=aB w (.cells #[.slice none 0 0,.slice none 0 0] 26);have e0:=aZ w (.cells #[.slice none 0 0,.slice none 0 0] 26);clear h F;go_enter Tryz.func23,Tryz.ntmps23
 go_upto_region 2 with (go_at_call 30;refine(HF.out _).mono ?_;rintro e w2 ⟨hb2,at_,ct,an,cn,rfl,hty⟩)
 have hb3:=(aB w2 (.cells #[.slice at_ ah.length ct,.slice an aj.length cn] 81)).alloc (by simp) (.cells #[.int .i64 0,.int .i64 0] 71);have e1:=(iB (w2.alloc (.cells #[.slice at_ ah.length ct,.slice an aj.length cn] 81)) (.cells #[.int .i64 0,.int .i64 0] 71) w2.heap.size (by simp)).trans (aZ w2 (.cells #[.slice at_ ah.length ct,.slice an aj.length cn] 81));have e2:=aZ (w2.alloc (.cells #[.slice at_ ah.length ct,.slice an aj.length cn] 81)) (.cells #[.int .i64 0,.int .i64 0] 71);rw[oU] at e2;have e02:=(hb2.block w.heap.size (by simp)).trans e0;have hl2:=(bU e02).1;have e03:=(hb3.block w.heap.size hl2).trans e02;have hbw:=(Ju.trans (hb2.mono Ju.size)).trans (hb3.mono (Ju.trans (hb2.mono Ju.size)).size);have hT:=hty.at.below hb3
 have hs3:w2.heap.size+1<((w2.alloc (.cells #[.slice at_ ah.length ct,.slice an aj.length cn] 81)).alloc (.cells #[.int .i64 0,.int .i64 0] 71)).heap.size:=by simp
 clear hb2 hb3 HF hty e02 e0 Ju;generalize (w2.alloc _).alloc _=w3 at e1 e2 e03 hbw hT hs3 |-;generalize w2.heap.size=tb at e1 e2 hT hs3 hl2 |-;obtain⟨c0,c1⟩:=dn e1;have HOx:=ay (HO.out tb at_ ct an cn w3 hT (by omega));clear e1 HO
 go_upto_region 3 with (go_at_call 31;refine HOx.out.mono ?_;rintro e w4 ⟨ai,ci,ad,cd,rfl,hn4,rJ,hb4,OZ⟩)
 have uE:=hbw.trans (hb4.mono hbw.size);have hb5:=uE.alloc uE.size (.cells #[.slice ai pp.aG.length ci,.slice ad pp.defs.length cd] 26);have Ay:=hb4.alloc hb4.size (.cells #[.slice ai pp.aG.length ci,.slice ad pp.defs.length cd] 26);have g5:=aZ w4 (.cells #[.slice ai pp.aG.length ci,.slice ad pp.defs.length cd] 26);have f5:=(Ay.block (tb+1) hs3).trans e2;have r5:=(Ay.block w.heap.size (by omega)).trans e03;have vT:=rJ.frame (bA.of (aB w4 (.cells #[.slice ai pp.aG.length ci,.slice ad pp.defs.length cd] 26)));have WX:=OZ.below (aB w4 (.cells #[.slice ai pp.aG.length ci,.slice ad pp.defs.length cd] 26));clear c0 c1 HOx hT rJ hb4 uE hbw hn4 OZ Ay e2 e03;generalize w4.alloc _=w5 at hb5 g5 f5 r5 vT WX |-;generalize w4.heap.size=pb at g5 |-
 have hw3:w.heap.size<w3.heap.size:=by omega
 obtain⟨a0,a1,-⟩:=bX g5;obtain⟨f0,f1,-⟩:=jw f5;obtain⟨r0,r1,rz⟩:=bX r5;clear g5 f5;go_wp2;refine o9 (v:=.tuple #[.agg #[.slice ai pp.aG.length ci,.slice ad pp.defs.length cd],.bool true]) (by simp[results,Tryz.results23,go_sem,r0,r1]) rfl ⟨ai,ci,ad,cd,rfl,?_,?_,?_⟩
 ·exact(vT.frame ((bA.set _ λb hb=>by show b≠w.heap.size;omega).trans (bA.set _ λb hb=>by show b≠w.heap.size;omega))).imp λb hb _=>by omega
 ·exact(hb5.setCell (bI _) _).setCell (bI _) _
 ·exact((WX.set (by show w.heap.size<_;omega) _).set (by show w.heap.size<_;omega) _).base (by omega)
theorem zG (s:ByteArray)(w:World)(hs:s.size<=65536)(c a:Nat)(h:gF s.data.toList 60=.bad c a) :
  Calls Tryz.prog 23 #[.string s] w λe w'=>e=.returned (.tuple #[.agg #[.slice none 0 0,.slice none 0 0],.bool false])/\Below w.heap.size w w':=by
 have hc:=Xe h;have hcI:((c:Int) == 0)=false:=Fa.2 (by omega);have HF:=ay (λW=>za s 60 W (by omega) (by omega) (by omega));rw[h] at HF;have Ju:=aB w (.cells #[.slice none 0 0,.slice none 0 0] 26);have e0:=aZ w (.cells #[.slice none 0 0,.slice none 0 0] 26);clear h hc;go_enter Tryz.func23,Tryz.ntmps23
 go_upto_region 2 with (go_at_call 30;refine(HF.out _).mono ?_;rintro e w2 ⟨hb2,rfl⟩)
 have hb3:=(aB w2 (.cells #[.slice none 0 0,.slice none 0 0] 81)).alloc (by simp) (.cells #[.int .i64 c,.int .i64 a] 71);have e1:=(iB (w2.alloc (.cells #[.slice none 0 0,.slice none 0 0] 81)) (.cells #[.int .i64 c,.int .i64 a] 71) w2.heap.size (by simp)).trans (aZ w2 (.cells #[.slice none 0 0,.slice none 0 0] 81));have e2:=aZ (w2.alloc (.cells #[.slice none 0 0,.slice none 0 0] 81)) (.cells #[.int .i64 c,.int .i64 a] 71);rw[oU] at e2;have e02:=(hb2.block w.heap.size (by simp)).trans e0;have hl2:=(bU e02).1;have e03:=(hb3.block w.heap.size hl2).trans e02;have hbw:=(Ju.trans (hb2.mono Ju.size)).trans (hb3.mono (Ju.trans (hb2.mono Ju.size)).size)
 have hs3:w2.heap.size+1<((w2.alloc (.cells #[.slice none 0 0,.slice none 0 0] 81)).alloc (.cells #[.int .i64 c,.int .i64 a] 71)).heap.size:=by simp
 clear hb2 hb3 HF e02 e0 Ju;generalize (w2.alloc _).alloc _=w3 at e1 e2 e03 hbw hs3 |-;generalize w2.heap.size=tb at e1 e2 hs3 hl2 |-;obtain⟨c0,c1⟩:=dn e1;clear e1
 go_upto_region 3 with (go_at_call 31;refine(YJ _).mono ?_;rintro e w4 ⟨rfl,hb4⟩)
 have uE:=hbw.trans (hb4.mono hbw.size);have hb5:=uE.alloc uE.size (.cells #[.slice none 0 0,.slice none 0 0] 26);have Ay:=hb4.alloc hb4.size (.cells #[.slice none 0 0,.slice none 0 0] 26);have g5:=aZ w4 (.cells #[.slice none 0 0,.slice none 0 0] 26);have f5:=(Ay.block (tb+1) hs3).trans e2;have r5:=(Ay.block w.heap.size (by omega)).trans e03;clear c0 c1 hb4 uE hbw Ay e2 e03;generalize w4.alloc _=w5 at hb5 g5 f5 r5 |-;generalize w4.heap.size=pb at g5 |-;obtain⟨a0,a1,-⟩:=bX g5;obtain⟨f0,f1,-⟩:=jw f5;obtain⟨r0,r1,rz⟩:=bX r5;clear g5 f5;go_wp2;refine o9 (v:=.tuple #[.agg #[.slice none 0 0,.slice none 0 0],.bool false]) (by simp[results,Tryz.results23,go_sem,r0,r1]) rfl ⟨rfl,?_⟩;exact(hb5.setCell (bI _) _).setCell (bI _) _
def sW (z:ZP)(w:World)(e:Ending)(w':World):Prop :=
 ∃ ai ci ad cd,e=.returned (.tuple #[.agg #[.slice ai z.aG.length ci,.slice ad z.defs.length cd],.bool true])/\Below w.heap.size w w'/\gP Vu w.heap.size 66 w' (.slice ad z.defs.length cd) z.defs
theorem DI.z {p:PP}{w:World}{e:Ending}{w':World}(h:DI p w e w'):sW p.z w e w':=by
 obtain⟨ai,ci,ad,cd,h1,h2,h3,h4⟩:=h;have e1:p.z.aG.length=p.aG.length:=vL _;have e2:p.z.defs.length=p.defs.length:=vL _;refine⟨ai,ci,ad,cd,by rw[e1,e2];exact h1,h3,?_⟩;rw[e2];exact ad8 h4
theorem vK (s:ByteArray)(w:World)(hs:s.size<=65536)(ah:List Tok)(aj:List Nd)(p:lD)(h:gF s.data.toList 60=.good ah aj)(F:mM s.data.toList ah aj p) :
  Calls Tryz.prog 23 #[.string s] w (sW (p.pp ah).z w):=(Jt s w hs ah aj p h F).mono λ_ _ h=>h.z
theorem gP.aex {α β:Type}{K:RK α β}{C e:Nat}{v:Value}{zs:List α}(h:gP K C e w v zs):RowK K (λb=>b<w.heap.size) w v zs:=h.row.imp λb _ hl=>hl
theorem wH (w:World):Calls Tryz.prog 22 #[] w λr w'=>r=.returned (.bool true)/\Below w.heap.size w w':=by
 have t1:(ByteArray.mk #[102,117,110,32,102,40,120,58,105,110,116,41,58,98,111,111,108,61,120,59]).data.toList=tnS [59]:=rfl;have HR1:=ay (λW=>vK ⟨#[102,117,110,32,102,40,120,58,105,110,116,41,58,98,111,111,108,61,120,59]⟩ W (by decide) tn1 _ (Yy .Cr) (by rw[t1];exact Q6) (by rw[t1];exact Q8));have t2:(ByteArray.mk #[102,117,110,32,102,40,120,58,105,110,116,41,58,98,111,111,108,61,120,61,49,59]).data.toList=tnS [61,49,59]:=rfl;have HR2:=ay (λW=>vK ⟨#[102,117,110,32,102,40,120,58,105,110,116,41,58,98,111,111,108,61,120,61,49,59]⟩ W (by decide) tn2 _ (Yy (.bin .Cr .num)) (by rw[t2];exact Q7) (by rw[t2];exact Q9))
 have HC:Hid (∀ (p:lD) (ah:List Tok) (aj:List Nd) (S:aH) (c:PZ) (f:Fl),mM S ah aj p->S.length<=1000->(p.pp ah).z=tnZ c->c.jY=false->(tnZ c).types [109]=f->∀ (ai:Option Addr) (ci:Nat) (ad:Option Addr) (cd:Nat) (W:World),RowK Vu (λb=>b<W.heap.size) W (.slice ad 1 cd) (tnZ c).defs ->
   Calls Tryz.prog 25 #[.string ⟨#[109]⟩,.agg #[.slice ai 0 ci,.slice ad 1 cd],.slice none 0 0] W λe w'=>e=.returned (.agg #[.int .i64 (EA f),.int .i64 (JA f)])/\Below W.heap.size W w'):=ay λp ah aj S c f F hS hz hc hf ai ci ad cd W hD=>by
  have h:=Aw [109] (tnZ c) ai ci ad cd W rfl (by rw[<- hz];exact(F.mid (by omega)).uw) (by decide) hD (λd hd=>by
   rw[tnZ,DN] at hd;subst hd
   exact⟨⟨λx hx=>by rw[DN] at hx;subst hx;rfl,rfl⟩,hc⟩)
  rw[hf] at h;exact h
 have Gh:=ay (HC.out (Yy .Cr) tn1 _ _ agb (some (34,18)) Q8 (by decide) aeO rfl Yz);have CJ:=ay (HC.out (Yy (.bin .Cr .num)) tn2 _ _ agc none Q9 (by decide) aeP rfl YB);rw[aeO] at HR1;rw[aeP] at HR2;clear HC t1 t2;go_enter Tryz.func22,Tryz.ntmps22
 go_upto_region 2 with (go_at_call 23;refine(HR1.out _).mono ?_;rintro r w1 ⟨ai1,ci1,ad1,cd1,rfl,hb1,ho1⟩)
 have g1:=aZ w1 (.cells #[.slice ai1 0 ci1,.slice ad1 1 cd1] 26);have hb2:=hb1.alloc hb1.size (.cells #[.slice ai1 0 ci1,.slice ad1 1 cd1] 26);have ho2:=ho1.below (aB w1 (.cells #[.slice ai1 0 ci1,.slice ad1 1 cd1] 26))
 have hl2:w1.heap.size<(w1.alloc (.cells #[.slice ai1 0 ci1,.slice ad1 1 cd1] 26)).heap.size:=by simp
 change Code.wp _ _ _ _ (w1.alloc (.cells #[.slice ai1 0 ci1,.slice ad1 1 cd1] 26));clear hb1 ho1 HR1;generalize w1.alloc _=w2 at g1 hb2 ho2 hl2 |-;generalize w1.heap.size=q1 at g1 hl2 |-
 go_upto_region 3 with (go_at_call 23;refine(HR2.out _).mono ?_;rintro r w3 ⟨JC,JD,JE,JF,rfl,hb3,ho3⟩)
 have g2:=aZ w3 (.cells #[.slice JC 0 JD,.slice JE 1 JF] 26);have hb4:=hb3.alloc hb3.size (.cells #[.slice JC 0 JD,.slice JE 1 JF] 26);have OZ:=ho3.below (aB w3 (.cells #[.slice JC 0 JD,.slice JE 1 JF] 26))
 have hl4:w3.heap.size<(w3.alloc (.cells #[.slice JC 0 JD,.slice JE 1 JF] 26)).heap.size:=by simp
 change Code.wp _ _ _ _ (w3.alloc (.cells #[.slice JC 0 JD,.slice JE 1 JF] 26));clear hb3 ho3 HR2;generalize w3.alloc _=w4 at g2 hb4 OZ hl4 |-;generalize w3.heap.size=q2 at g2 hl4 |-;have g14:=(hb4.block q1 hl2).trans g1;have hbw:=hb2.trans (hb4.mono hb2.size);have HA1:=ay (Gh.out ai1 ci1 ad1 cd1 w4 (ho2.below hb4).aex);have HA2:Hid (∀ W,Below w4.heap.size w4 W->_):=ay (λW hW=>CJ.out JC JD JE JF W (OZ.below hW).aex);obtain⟨a0,a1,-⟩:=bX g14;obtain⟨d0,d1,-⟩:=bX g2;clear g1 g14 g2 ho2 OZ hb2 hb4 Gh CJ;go_wp2_with (first|(go_at_call 25;refine(HA2.out _ hb5).mono ?_;rintro r w6 ⟨rfl,hb6⟩)|(go_at_call 25;refine HA1.out.mono ?_;rintro r w5 ⟨rfl,hb5⟩;have d0:=(hb5.cell (p:=⟨q2,0,none⟩) hl4).trans d0;have d1:=(hb5.cell (p:=⟨q2,1,none⟩) hl4).trans d1));go_ret;exact⟨rfl,hbw.trans ((hb5.trans (hb6.mono hb5.size)).mono hbw.size)⟩
def UU (x:PZ):Prop:=∀ (B:Nat) (am:Option Addr) (wn cm:Nat) (ae:Option Addr) (ce:Nat) (w:World),nD YA (λb=>b<B) w (.slice am wn cm) (.slice ae x.aA.length ce) x->B<=w.heap.size ->
 Calls Tryz.prog 24 #[.agg #[.int .i64 x.op,.string ⟨x.name.toArray⟩,.string ⟨x.module.toArray⟩,.bool (decide (x.num<0)),.slice am wn cm,.bool x.yes,.slice ae x.aA.length ce,.int .i64 x.at_]] w λr w'=>r=.returned (.bool x.jY)/\Below w.heap.size w w'
theorem Ru (e:PZ)(hn:e.aA.length<=1099511627776)(IH:∀ x∈e.aA,UU x):UU e:=by
 intro B am wn cm ae ce w h hB;have HK:=ay h.abH;have HI:=ay IH;have HU:=ay e.XO
 obtain⟨rv,hrv⟩:∃ rv,rv=e.jY:=⟨_,rfl⟩
 rw[<- hrv] at HU |-;clear h IH hrv;generalize decide (e.num<0)=ng at *;have hbw:=aB w (.cells (aT e.op ⟨e.name.toArray⟩ ⟨e.module.toArray⟩ ng (.slice am wn cm) e.yes (.slice ae e.aA.length ce) e.at_) 64);have hN:=aZ w (.cells (aT e.op ⟨e.name.toArray⟩ ⟨e.module.toArray⟩ ng (.slice am wn cm) e.yes (.slice ae e.aA.length ce) e.at_) 64);go_enter Tryz.func24,Tryz.ntmps24
 go_upto_region 1 with fail
 change Code.wp _ _ _ _ (w.alloc (.cells (aT e.op ⟨e.name.toArray⟩ ⟨e.module.toArray⟩ ng (.slice am wn cm) e.yes (.slice ae e.aA.length ce) e.at_) 64));generalize w.alloc _=w1 at hbw hN |-;have hzw:=hbw.size;obtain⟨y0,y1,y2,y3,y4,y5,y6,y7⟩:=aL hN;have HU2:=HU;go_wp2
 go_loopw [8] (λq wr=>∃ k:Nat,k<=e.aA.length/\q=.int .i64 k/\jZ (e.aA.take k)=false/\Below w1.heap.size w1 wr) (λq _=>e.aA.length - (intOf q).toNat)
 case atStart=>exact⟨0,mD _,rfl,by rw[List.take_zero];rfl,bY _ _⟩
 case round =>
  obtain⟨k,hk,rfl,hno,hbl⟩:=hrel;have YW:=ay hno;clear hno;have Fx:=hbl.size;have hb0:=hbw.trans (hbl.mono hzw)
  by_cases hkl:k<e.aA.length
  ·obtain⟨b,off,rfl,Vb,hbx,kK⟩:=HK.out (by omega)
   obtain⟨ax0,wx,cx0,ak,ck,hE,hc⟩:=kK k hkl
   have hal:=λ(o:Obj)=>aB wr o
   have HI1:=ay (λW (hb:Below w.heap.size w W)=>HI.out _ (oQ hkl) B ax0 wx cx0 ak ck W (hE.frame (bA.uD hb (λb hb=>by omega))) (iY hB hb.size));have x0:=(hb0.cell (p:=⟨b,off+k * 8,none⟩) hbx).trans (hc 0 _ rfl);have x1:=(hb0.cell (p:=⟨b,off+k * 8+1,none⟩) hbx).trans (hc 1 _ rfl);have x2:=(hb0.cell (p:=⟨b,off+k * 8+2,none⟩) hbx).trans (hc 2 _ rfl);have x3:=(hb0.cell (p:=⟨b,off+k * 8+3,none⟩) hbx).trans (hc 3 _ rfl);have x4:=(hb0.cell (p:=⟨b,off+k * 8+4,none⟩) hbx).trans (hc 4 _ rfl);have x5:=(hb0.cell (p:=⟨b,off+k * 8+5,none⟩) hbx).trans (hc 5 _ rfl);have x6:=(hb0.cell (p:=⟨b,off+k * 8+6,none⟩) hbx).trans (hc 6 _ rfl);have x7:=(hb0.cell (p:=⟨b,off+k * 8+7,none⟩) hbx).trans (hc 7 _ rfl);simp only[dX] at x1 x2;have HT:Hid (jZ (e.aA.take (k+1))=(e.aA[k].jY)):=ay (by rw[Qq hkl,YW.out,Bool.false_or]);have HM:Hid (e.aA[k].jY=true->rv=true):=ay (λq=>by rw[HU2.out,Bool.or_eq_true];exact .inl (Ib (oQ hkl) q))
   have qF:(k:Int)<(e.aA.length:Int):=by omega
   clear kK hc hE YW hal;generalize e.aA[k]=x at *;generalize hng:decide (x.num<0)=nx at *
   go_upto_region 4 with fail
   have ac4:=aB wr (.cells (aT x.op ⟨x.name.toArray⟩ ⟨x.module.toArray⟩ nx (.slice ax0 wx cx0) x.yes (.slice ak x.aA.length ck) x.at_) 64);have hY:=aZ wr (.cells (aT x.op ⟨x.name.toArray⟩ ⟨x.module.toArray⟩ nx (.slice ax0 wx cx0) x.yes (.slice ak x.aA.length ck) x.at_) 64);change Code.wp _ _ _ _ (wr.alloc (.cells (aT x.op ⟨x.name.toArray⟩ ⟨x.module.toArray⟩ nx (.slice ax0 wx cx0) x.yes (.slice ak x.aA.length ck) x.at_) 64));clear x0 x1 x2 x3 x4 x5 x6 x7;generalize wr.alloc _=wy at ac4 hY |-;have HC:=ay (HI1.out wy (hb0.trans (ac4.mono (by have:=hb0.size;omega))));have Ug:=hbl.trans (ac4.mono Fx);obtain⟨u0,u1,u2,u3,u4,u5,u6,u7⟩:=aL hY;have hzy:=ac4.size;clear HI1 ac4 hY hbl hng;generalize x.jY=xb at *
   cases xb with
   | true =>
    obtain rfl:rv=true:=HM.out rfl;go_wp2_with (go_at_call 24;refine HC.out.mono ?_;rintro r w6 ⟨rfl,hb6⟩);go_ret;exact⟨rfl,(hbw.trans (Ug.mono hzw)).trans (hb6.mono (by omega))⟩
   | false =>
    go_wp2_with (go_at_call 24;refine HC.out.mono ?_;rintro r w6 ⟨rfl,hb6⟩)
    go_roundw
    case rel=>exact⟨k+1,by omega,by go_num,HT.out,Ug.trans (hb6.mono (by omega))⟩
    case measure=>simp[intOf];omega
  ·obtain rfl:k=e.aA.length:=by omega
   have qF:decide ((e.aA.length:Int)<(e.aA.length:Int))=false:=fu (by omega)
   have HE:Hid (rv=decide (e.op=24)):=ay (by
    have:=YW.out;rw[Fe] at this
    rw[HU2.out,this,Bool.false_or])
   obtain⟨z0,-⟩:=aL ((hbl.block _ (bU hN).1).trans hN)
   have hop:(e.op == 24)=decide (e.op=24):=by by_cases q:e.op=24<;>simp[q]
   clear YW hN;generalize decide (e.op=24)=ob at *;go_wp2;go_ret;exact⟨by rw[HE.out];rfl,hb0⟩
theorem Jv:∀ (n:Nat) (e:PZ),SizeOf.sizeOf e<n->e.fit->UU e
 | 0,_,h,_=>absurd h (by omega)
 | n+1,e,hs,hf=>Ru e (by have:=(PZ.ru hf).2.2.2.1;omega) λx hx=>Jv n x (by have:=e.lQ x hx;omega) ((PZ.ru hf).2.2.2.2 x hx)
open Go.RowKit Go
def wI (s:ByteArray)(w:World):Prop:=Calls Tryz.prog 5 #[.string s] w λr w'=>r=.returned (.bool true)/\Below w.heap.size w w'
def Cq (s:ByteArray):ByteArray:=((ByteArray.mk #[102,117,110,32,103,40,120,58,105,110,116,44,121,58,98,111,111,108,41,58,105,110,116,61]++s)++ByteArray.mk #[59])
def Jw (s:ByteArray):ByteArray:=((ByteArray.mk #[102,117,110,32,103,40,120,58,105,110,116,44,121,58,98,111,111,108,41,58,98,111,111,108,61]++s)++ByteArray.mk #[59])
theorem DJ (s:ByteArray):(Cq s).data.toList=aX (j5 oh)++61 :: (s.data.toList++[59]):=by
 simp[Cq,aX,j5,oh]
theorem LX (s:ByteArray):(Jw s).data.toList=aX (j5 jJ)++61 :: (s.data.toList++[59]):=by
 simp[Jw,aX,j5,jJ]
theorem ze (s:ByteArray):(Cq s).size=s.size+25:=by
 rw[<- aS,DJ,bQ,dN,bQ,aS];show 23+(s.size+1+1)=_;omega
theorem zf (s:ByteArray):(Jw s).size=s.size+26:=by
 rw[<- aS,LX,bQ,dN,bQ,aS];show 24+(s.size+1+1)=_;omega
def PrB (n:Nat)(ok:Bool)(w:World)(e:Ending)(w':World):Prop :=
 ∃ ai ni ci ad cd,e=.returned (.tuple #[.agg #[.slice ai ni ci,.slice ad n cd],.bool ok])/\Below w.heap.size w w'
theorem sW.b {z:ZP}{w:World}{e:Ending}{w':World}(h:sW z w e w'):PrB z.defs.length true w e w':=by
 obtain⟨ai,ci,ad,cd,h1,h2,-⟩:=h;exact⟨_,_,_,_,_,h1,h2⟩
theorem aey (s:ByteArray)(w:World)(hs:s.size<=maxLen)(h:400<s.size):wI s w:=by
 unfold maxLen at hs;unfold wI
 have hI:(400:Int)<(s.size:Int):=by omega
 have h2:decide ((400:Int)<(s.size:Int))=true:=kS (by omega);go_enter Tryz.func5,Tryz.ntmps5;go_wp2_with (go_at_call 22;refine(wH _).mono ?_;rintro e w1 ⟨rfl,hb1⟩);go_ret;exact⟨rfl,hb1⟩
theorem NW (s:ByteArray)(w:World)(hs:s.size<=400)(n m:Nat)(o1 o2:Bool)(hn:n<=64)(HP:∀ W,Calls Tryz.prog 23 #[.string (Cq s)] W (PrB n o1 W))(HQ:∀ W,Calls Tryz.prog 23 #[.string (Jw s)] W (PrB m o2 W))(h:o1=false\/o2=false\/n≠1):wI s w:=by
 unfold wI
 have hI:¬ ((400:Int)<(s.size:Int)):=by omega
 have h2:decide ((400:Int)<(s.size:Int))=false:=fu (by omega)
 have YN:n≠1->((n:Int) != 1)=true:=λq=>bne_iff_ne.2 (by omega)
 have HP1:=ay HP;have HQ1:=ay HQ;have HN:=ay YN;have HH:=ay h;clear HP HQ YN h;go_enter Tryz.func5,Tryz.ntmps5
 go_upto_region 6 with (first|(go_at_call 22;refine(wH _).mono ?_;rintro e w1 ⟨rfl,hb1⟩)|(go_at_call 23;refine(HP1.out _).mono ?_;rintro e w3 ⟨ai,ni,ci,ad,cd,rfl,hb3⟩))
 have xC:=hb1.trans (hb3.mono hb1.size);have hb4:=xC.alloc xC.size (.cells #[.slice ai ni ci,.slice ad n cd] 26);have g3:=aZ w3 (.cells #[.slice ai ni ci,.slice ad n cd] 26)
 have hl3:w3.heap.size<(w3.alloc (.cells #[.slice ai ni ci,.slice ad n cd] 26)).heap.size:=by simp
 change Code.wp _ _ _ _ (w3.alloc (.cells #[.slice ai ni ci,.slice ad n cd] 26));clear hb3 hb1 xC;generalize w3.alloc (.cells #[.slice ai ni ci,.slice ad n cd] 26)=w4 at *;generalize w3.heap.size=q at *
 go_upto_region 7 with (go_at_call 23;refine(HQ1.out _).mono ?_;rintro e w5 ⟨JC,ni2,JD,JE,JF,rfl,hb5⟩)
 have Ay:=hb4.trans (hb5.mono hb4.size);have hb6:=Ay.alloc Ay.size (.cells #[.slice JC ni2 JD,.slice JE m JF] 26);have hal:=aB w5 (.cells #[.slice JC ni2 JD,.slice JE m JF] 26);have g6:=(hal.block q (by have:=hb5.size;omega)).trans ((hb5.block q hl3).trans g3);change Code.wp _ _ _ _ (w5.alloc (.cells #[.slice JC ni2 JD,.slice JE m JF] 26));clear g3 hb4 hb5 Ay hal HP1 HQ1;generalize w5.alloc (.cells #[.slice JC ni2 JD,.slice JE m JF] 26)=w6 at *;obtain⟨c0,c1,-⟩:=bX g6;clear g6
 cases o1 with
 | false =>
  go_wp2;go_ret;exact⟨rfl,hb6⟩
 | true =>
  cases o2 with
  | false =>
   go_wp2;go_ret;exact⟨rfl,hb6⟩
  | true =>
   have hn1:=HN.out (by
    rcases HH.out with q|q|q
    ·cases q
    ·cases q
    ·exact q)
   go_wp2;go_ret;exact⟨rfl,hb6⟩
