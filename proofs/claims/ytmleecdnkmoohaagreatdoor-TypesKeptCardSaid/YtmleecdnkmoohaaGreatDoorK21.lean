/- Walks and plain laws, without a condition. -/
import Derived.Test.YtmleecdnkmoohaaGreatDoorK20
set_option maxHeartbeats 16000000
set_option maxRecDepth 100000
set_option linter.unusedVariables false
set_option linter.unusedSimpArgs false
namespace Go.Proofs.YtmleecdnkmoohaaGreatDoor
open Go.RowKit Go
variable{w w':World}{v:Value}
theorem SK (own:aH)(p:ZP)(ai:Option Addr)(ci:Nat)(ad:Option Addr)(cd:Nat)(af:Option Addr)(cf:Nat)(ms:List aH)(w:World)(hme:ms=[])(hfit:p.qF)(hown:own.length<=65536)
  (hI:RowK ZIK (λb=>b<w.heap.size) w (.slice ai p.aD.length ci) p.aD) (hin:p.aD.length<=1000)
  (hD:RowK PS (λb=>b<w.heap.size) w (.slice ad p.defs.length cd) p.defs) (hF:RowK TV (λb=>b<w.heap.size) w (.slice af ms.length cf) ms) (hms:ms.length<=1000/\∀ m∈ms,m.length<=65536) :
  Calls Tryz.prog 15 #[.string ⟨own.toArray⟩,.agg #[.slice ai p.aD.length ci,.slice ad p.defs.length cd],.slice af ms.length cf] w (xV (p.check own ms) w):=by
 have hal:=(aA w (.cells #[.slice ai p.aD.length ci,.slice ad p.defs.length cd] 26)).alloc (by simp) (.cells #[.int .i64 0,.int .i64 0] 31);have g0:=(gZ (w.alloc (.cells #[.slice ai p.aD.length ci,.slice ad p.defs.length cd] 26)) (.cells #[.int .i64 0,.int .i64 0] 31) w.heap.size (by simp)).trans (aX w (.cells #[.slice ai p.aD.length ci,.slice ad p.defs.length cd] 26));have g1:=aX (w.alloc (.cells #[.slice ai p.aD.length ci,.slice ad p.defs.length cd] 26)) (.cells #[.int .i64 0,.int .i64 0] 31);rw[nG] at g1;have HD:=ay hD;have HFC:=ay hF;have rZ:=ay hfit;have HMS:=ay hms;have HI:=ay hI;have HME:=ay hme;have hdn:=hfit.few;clear hD hF hfit hms hI hme
 obtain⟨R,hR⟩:∃ R,R=p.check own ms:=⟨_,rfl⟩
 rw[<- hR];have HRR:=ay hR;clear hR;go_enter Tryz.func15,Tryz.ntmps15
 go_upto_region 1 with fail
 change Code.wp _ _ _ _ ((w.alloc (.cells #[.slice ai p.aD.length ci,.slice ad p.defs.length cd] 26)).alloc (.cells #[.int .i64 0,.int .i64 0] 31));generalize (w.alloc (.cells #[.slice ai p.aD.length ci,.slice ad p.defs.length cd] 26)).alloc (.cells #[.int .i64 0,.int .i64 0] 31)=w1 at *;have hz1:=hal.size;have hl1:=(bP g1).1;obtain⟨y0,y1⟩:=cB g0
 have hn0:w.heap.size<w1.heap.size:=by omega
 have HG:=ay (gy g0 g1);clear g0 g1
 go_cut [7] (λq wc=>∃ lb db,q=.pointer (some ⟨lb,0,none⟩)/\ku ⟨own,.slice ai p.aD.length ci,.slice ad p.defs.length cd,.slice af ms.length cf,db⟩ lb (.slice none 0 0) none wc/\zx w1.heap.size db (.slice none 0 0) [] wc/\Below w1.heap.size w1 wc/\w1.heap.size<=db/\w1.heap.size<=lb/\lb≠db)
 case first =>
  go_region_with (go_at_call 33;refine(Sr _).mono ?_;rintro e w2 ⟨rfl,rfl⟩)
  all_goals
   go_wp2_with fail
   go_meet
   have hA:=aX (w1.alloc (.cells #[.slice none 0 0] 169)) (.cells #[.string ⟨own.toArray⟩,.slice ai p.aD.length ci,.slice ad p.defs.length cd,.slice af ms.length cf,.slice none 0 0,.pointer (some ⟨w1.heap.size,0,none⟩),.int .i64 0,.int .i64 0] 122);rw[nG] at hA;have hB:=(gZ (w1.alloc (.cells #[.slice none 0 0] 169)) (.cells #[.string ⟨own.toArray⟩,.slice ai p.aD.length ci,.slice ad p.defs.length cd,.slice af ms.length cf,.slice none 0 0,.pointer (some ⟨w1.heap.size,0,none⟩),.int .i64 0,.int .i64 0] 122) w1.heap.size (by simp)).trans (aX w1 (.cells #[.slice none 0 0] 169));exact⟨w1.heap.size+1,w1.heap.size,rfl,hA,⟨xR.nil 4,hB,World.ownsRow_nil _ _ _ _⟩,((aA w1 (.cells #[.slice none 0 0] 169)).alloc (by simp) (.cells #[.string ⟨own.toArray⟩,.slice ai p.aD.length ci,.slice ad p.defs.length cd,.slice af ms.length cf,.slice none 0 0,.pointer (some ⟨w1.heap.size,0,none⟩),.int .i64 0,.int .i64 0] 122)).drew,bD _,by omega,by omega⟩
 case rest =>
  obtain⟨lb,db,rfl,hL2,hM2,hqc,hdb,hlb,hne⟩:=hcut
  obtain⟨w2,rfl⟩:∃ w2:World,w2=wc:=⟨_,rfl⟩
  clear y0 y1;have hzc:=hqc.size;have kQ:=hal.trans (hqc.mono hz1);have ajw:=hL2.lt;have gp2:=(hqc.block _ (by omega)).trans HG.out.1;have gr2:=(hqc.block _ hl1).trans HG.out.2
  have hpr:Wm p w.heap.size ai ad w2:=by
   obtain⟨ao,cap,hv,hdz⟩:=Wj (bD _) HD.out;simp only[Value.slice.injEq] at hv;obtain⟨rfl,-,rfl⟩:=hv;obtain⟨ao2,cap2,hv2,hiz⟩:=Wi HI.out;simp only[Value.slice.injEq] at hv2;obtain⟨rfl,-,rfl⟩:=hv2;exact⟨hiz.rV kQ,hdz.rV kQ,kQ.size⟩
  have HRT:=ay (RX own db lb w.heap.size (.slice none 0 0) none p ai ci ad cd af cf ms w2 hL2 rZ.out.fit hpr rZ.out.text ((RowK.frame HFC.out (aW.of kQ)).imp λ_ _ _=>trivial) HMS.out hown);have HL2:=ay hL2;have Rt:=ay hM2;have HG2:=ay (gy gp2 gr2);obtain⟨⟨r0,r1⟩,rz0,rz1⟩:=gK gr2;obtain⟨y0,y1⟩:=cB gp2
  obtain⟨rt,hrt⟩:∃ rt,rt=(p.right && (dw own && Az [] ms)):=⟨_,rfl⟩
  rw[<- hrt] at HRT;have HRI:=ay hrt;clear hrt hL2 hM2 gp2 gr2 hpr HG
  cases rt with
  | false =>
   have HE:Hid (R=some (10,0)):=ay (by rw[HRR.out,ZP.check,<- HRI.out];rfl);clear HRR
   go_upto_region 3 with (go_at_call 34;refine HRT.out.mono ?_;rintro e w3 ⟨rfl,hb3⟩)
   clear r0 r1 rz0 rz1 y0 y1;have WS:=(hb3.block _ (by omega)).trans HG2.out.2;obtain⟨⟨r0,r1⟩,rz0,rz1⟩:=gK WS;have H8:=uW (kQ.trans (hb3.mono kQ.size)) (by omega:w.heap.size<=w.heap.size+1) (.int .i64 10) (.int .i64 0);have hP:=uX WS (.int .i64 10) (.int .i64 0);have HP:=ay hP;have HB:=ay H8;clear hP H8 WS;go_wp2;change bodyPost _ _ _ _ _ (IQ w3 (w.heap.size+1) (.int .i64 10) (.int .i64 0));generalize IQ w3 _ _ _=w4 at *;obtain⟨⟨d0,d1⟩,-⟩:=gK HP.out;exact nI (v:=.agg #[.int .i64 10,.int .i64 0]) (by simp[results,Tryz.results15,go_sem,d0,d1]) rfl ⟨by rw[HE.out];rfl,HB.out⟩
  | true =>
   have HE:Hid (R=p.gY own (λm=>decide (m∈ms)) (λ_ _=>none)):=ay (by rw[HRR.out,ZP.check,<- HRI.out];rfl);clear HRR
   go_upto_region 4 with (go_at_call 34;refine HRT.out.mono ?_;rintro e w3 ⟨rfl,hb3⟩)
   clear r0 r1 rz0 rz1 y0 y1;have hz3:=hb3.size;have gp3:=(hb3.block _ (by omega)).trans HG2.out.1;have WS:=(hb3.block _ (by omega)).trans HG2.out.2;have rX:=kQ.trans (hb3.mono kQ.size);have IJ:=ay (HL2.out.below hb3);have HM3:=ay (Rt.out.below hb3);have Uh:=ay (gy gp3 WS);obtain⟨y0,y1⟩:=cB gp3;clear gp3 WS HG2 HL2 Rt HRT
   have hne0:w.heap.size≠lb:=by omega
   have hne1:w.heap.size+1≠lb:=by omega
   have ajx:db<w3.heap.size:=(bP HM3.out.box).1;go_wp2
   go_loopw [9,29] (λ_ q wr=>∃ (k:Nat) (ia:Option Addr) (ic:Nat) (S:List aH) (f0:Fl),k<=p.aD.length/\q=.int .i64 k/\oV own (λm=>decide (m∈ms)) ([],none) (p.aD.take k)=(S,f0)/\ku ⟨own,.slice ai p.aD.length ci,.slice ad p.defs.length cd,.slice af ms.length cf,db⟩ lb (.slice ia S.length ic) f0 wr/\fK (λb=>b≠lb/\b≠db) wr (.slice ia S.length ic) S/\S.Pairwise (· < ·)/\S.length<=k/\bq f0/\aO lb w3 wr) (λ_ q _=>p.aD.length - (intOf q).toNat)
   case atStart=>exact⟨0,none,0,[],none,kJ _,rfl,rfl,IJ.out,fK.nil _ _,List.Pairwise.nil,bD _,bq.none,aO.refl _ _⟩
   case round =>
    obtain⟨k,ia,ic,S,f0,hk,rfl,hsc,hlr,htr,hrr,hsl,hfo,hkr⟩:=hrel;have Tt:=ay hsc;have A9:=ay hlr;have Md:=ay htr;have HRR:=ay hrr;have Ay:=ay hfo;have DY:=hkr.2.1;have hbr:=rX.trans (hkr.1 w.heap.size (by omega));clear hsc hlr htr hrr hfo
    by_cases hlt:k<p.aD.length
    ·obtain⟨_,_,hvv,_,hdf⟩:=HI.out.form
     simp only[Value.slice.injEq] at hvv;obtain⟨rfl,-,rfl⟩:=hvv;obtain⟨b,off,rfl,hPb,hbw,iw⟩:=hdf (by omega);obtain⟨_,_,hc⟩:=iw k hlt;have x0:=(hbr.cell (p:=⟨b,off+k * 2+0,none⟩) hbw).trans (hc 0 _ rfl);have x1:=(hbr.cell (p:=⟨b,off+k * 2+1,none⟩) hbw).trans (hc 1 _ rfl);rw[nZ] at x0;have htk:=Oh own (λm=>decide (m∈ms)) ([],none) hlt;rw[Tt.out] at htk;have AP:=ay htk;clear iw hc hdf htk y0 y1;generalize p.aD[k]=m at *;obtain⟨nm,at_⟩:=m;simp only[fC] at x0 x1
     have hstep:oV own (λm=>decide (m∈ms)) ([],none) (p.aD.take (k+1))=(gD (S++[nm]),kY f0 (if nm=own then some (33,at_) else if nm∈S then some (30,at_) else some (33,at_))):=by
      rw[AP.out,HME.out]
      rfl
     have Zl:=ay hstep
     have nK:(k:Int)<(p.aD.length:Int):=by omega
     have qh:=aA wr (.cells #[.string ⟨nm.toArray⟩,.int .i64 at_] 50);have gd:=aX wr (.cells #[.string ⟨nm.toArray⟩,.int .i64 at_] 50);have agZ:bq (kY f0 (if nm=own then some (33,at_) else if nm∈S then some (30,at_) else some (33,at_))):=Ay.out.or (by split;exact bq.some (by decide);split;exact bq.some (by decide);exact bq.some (by decide));have aiq:=ay agZ;have HSR:=ay (pQ (S++[nm]));have hsl2:=pR (S++[nm]);rw[bY,List.length_singleton] at hsl2;clear hstep agZ
     go_upto_region 7 with fail
     change Code.wp _ _ _ _ (wr.alloc (.cells #[.string ⟨nm.toArray⟩,.int .i64 at_] 50));clear x0 x1;generalize wr.alloc (.cells #[.string ⟨nm.toArray⟩,.int .i64 at_] 50)=w4 at *;have BJ:=qh.size;have Oy:=A9.out.lt;have HIM:=ay (IW _ lb ia ic S f0 nm at_ af cf w4 (A9.out.below qh) (by rw[HME.out];rfl) ((Md.out.below qh).imp λb hb _=>hb.1) HRR.out (by omega) Ay.out);obtain⟨y0,y1⟩:=jk gd;have hk4:=hkr.trans (aO.of qh Oy);clear gd;generalize hfn:(kY f0 (if nm=own then some (33,at_) else if nm∈S then some (30,at_) else some (33,at_)):Fl)=fn at *;generalize gD (S++[nm])=S2 at *;go_wp2_with (go_at_call 35;refine HIM.out.mono ?_;rintro e w6 ⟨rfl,i6,c6,Xi,ht6,mR⟩)
     go_roundw
     case rel=>exact⟨k+1,i6,c6,S2,fn,by omega,by go_num,Zl.out,Xi,ht6.imp λb hb _=>⟨hb.1,by omega⟩,HSR.out,by omega,aiq.out,hk4.trans mR⟩
     case measure=>simp[intOf];omega
    ·obtain rfl:k=p.aD.length:=by omega
     obtain⟨wp,rfl⟩:∃ wp:World,wp=wr:=⟨_,rfl⟩
     have hsc:=Tt.out;rw[zG] at hsc;have air:=ay hsc;have HSL:Hid (S.length<=500000):=ay (by omega);clear hsc Tt y0 y1;have gpp:=(hkr.2.2 _ hne0 (by omega)).trans Uh.out.1;have HGP:=ay (gy gpp ((hkr.2.2 _ hne1 (by omega)).trans Uh.out.2));have HMP:=ay (HM3.out.alk hkr.2 (λq=>hne q.symm) (λb hb q=>by subst q;exact own_ne HM3.out.own IJ.out (by decide) hb));obtain⟨y0,y1⟩:=cB gpp;have VI:decide ((p.aD.length:Int)<(p.aD.length:Int))=false:=dX (by omega);clear gpp
     go_upto_region 10 with fail
     clear y0 y1 VI
     go_loopw [11,12,13,40] (λ_ _ _ q wr=>∃ (k:Nat) (mv:Value) (ml:ML) (f1:Fl),k<=p.defs.length/\q=.int .i64 k/\f1=gV f0 [] (p.defs.take k)/\ku ⟨own,.slice ai p.aD.length ci,.slice ad p.defs.length cd,.slice af ms.length cf,db⟩ lb (.slice ia S.length ic) f1 wr/\zx w1.heap.size db mv ml wr/\ml.length<=k/\qC ml (p.defs.take k)/\wr.heap[w.heap.size]?=some (.cells #[.slice ai p.aD.length ci,.slice ad p.defs.length cd] 26 (0,0))/\wr.heap[w.heap.size+1]?=some (.cells #[.int .i64 0,.int .i64 0] 31 (0,0))/\Below w.heap.size w wr/\w1.heap.size<=wr.heap.size/\fK (λb=>b≠lb/\b≠db/\some b≠mv.ownBlock) wr (.slice ia S.length ic) S) (λ_ _ _ q _=>p.defs.length - (intOf q).toNat)
     case atStart=>exact⟨0,_,[],f0,kJ _,rfl,rfl,A9.out,HMP.out,bD _,qC.nil,HGP.out.1,HGP.out.2,hbr,jq (jq hzc hz3) DY,Md.out.imp λb hb _=>⟨hb.1,hb.2,by simp[Value.ownBlock]⟩⟩
     case round =>
      obtain⟨k,mv,ml,f1,hk,rfl,hf1,hlr,hmr,hml,hinv,gp,gr,hbl,hw1,htx⟩:=hrel;have La:=ay htx;clear htx;have DY:=hbl.size;have A9:=ay hlr;have HMR:=ay hmr;have WT:=ay hinv;have Mg:=ay (gy gp gr);have D5:=ay hf1;have Oy:=hlr.lt;have ajy:=(bP hmr.box).1
      have Ox:bq f1:=by rw[hf1];exact zB _ _ _ Ay.out
      have V5:=ay Ox;clear hlr hmr hinv gp gr hf1 Ox
      by_cases hlt:k<p.defs.length
      ·obtain⟨_,_,hvv,_,hdf⟩:=HD.out.form
       simp only[Value.slice.injEq] at hvv;obtain⟨rfl,-,rfl⟩:=hvv;obtain⟨b,off,rfl,hPb,hbw,iw⟩:=hdf (by omega);obtain⟨⟨pv,cv,mg,kv⟩,⟨h5,h7,h8⟩,hc⟩:=iw k hlt;obtain⟨ap,cp,rfl⟩:=RowK.slice h5;obtain⟨ac,cc,rfl⟩:=RowK.slice h7;obtain⟨am,wn,cm,ae,ce,rfl,rfl⟩:=l7.PK h8
       have dI:∀ (j:Nat) (u:Value),w.cell? ⟨b,off+k * 15+j,none⟩=some u->wr.cell? ⟨b,off+k * 15+j,none⟩=some u:=λj u h=>(hbl.cell (p:=⟨b,off+k * 15+j,none⟩) hbw).trans h
       have x0:=dI 0 _ (hc 0 _ rfl);have x1:=dI 1 _ (hc 1 _ rfl);have x2:=dI 2 _ (hc 2 _ rfl);have x3:=dI 3 _ (hc 3 _ rfl);have x4:=dI 4 _ (hc 4 _ rfl);have x5:=dI 5 _ (hc 5 _ rfl);have x6:=dI 6 _ (hc 6 _ rfl);have x7:=dI 7 _ (hc 7 _ rfl);have x8:=dI 8 _ (hc 8 _ rfl);have x9:=dI 9 _ (hc 9 _ rfl);have x10:=dI 10 _ (hc 10 _ rfl);have Xj:=dI 11 _ (hc 11 _ rfl);have Xk:=dI 12 _ (hc 12 _ rfl);have Xl:=dI 13 _ (hc 13 _ rfl);have Zu:=dI 14 _ (hc 14 _ rfl);rw[nZ] at x0;simp only[fC] at x1 x6 x7;have hfd:=rZ.out.defs _ (nH hlt);have htk:=zF hlt;have htw:=Lm f0 hlt;have AP:=ay (gy htk htw);have HFD:=ay hfd;have H57:=ay (gy h5 h7);clear iw h5 h7 h8 hc dI hdf hfd htk htw;generalize p.defs[k]=d at *;have qh:=aA wr (.cells (gN d ap cp ac cc am wn cm ae ce) 62);have gd:=aX wr (.cells (gN d ap cp ac cc am wn cm ae ce) 62)
       have nK:(k:Int)<(p.defs.length:Int):=by omega
       go_upto_region 12 with fail
       change Code.wp _ _ _ _ (wr.alloc (.cells (gN d ap cp ac cc am wn cm ae ce) 62));clear x0 x1 x2 x3 x4 x5 x6 x7 x8 x9 x10 Xj Xk Xl Zu
       have hdl:wr.heap.size<(wr.alloc (.cells (gN d ap cp ac cc am wn cm ae ce) 62)).heap.size:=by simp
       generalize wr.alloc (.cells (gN d ap cp ac cc am wn cm ae ce) 62)=w4 at *;have BJ:=qh.size;have hL4:=A9.out.below qh;have hM4:=HMR.out.below qh;have HL4:=ay hL4;have HM4:=ay hM4;have HGD:=ay gd;have HG4:=ay (gy ((qh.block _ (by omega)).trans Mg.out.1) ((qh.block _ (by omega)).trans Mg.out.2));have hb4:=hbl.trans (qh.mono DY);obtain⟨u0,u1,u2,u3,hgf,hone⟩:=aa2 hM4.wf d.res.name;have ae9:=ay (λW (hW:Below w4.heap.size w4 W)=>(Ot w1.heap.size db mv ml d.res.name W (hM4.below hW) (by omega)).mono λe w' q=>hgf W e w' q)
       have s0:=λa m W=>run_store Tryz.prog W a u0 m (hone u0 (by simp))
       have s1:=λa m W=>run_store Tryz.prog W a u1 m (hone u1 (by simp))
       have s2:=λa m W=>run_store Tryz.prog W a u2 m (hone u2 (by simp))
       have s3:=λa m W=>run_store Tryz.prog W a u3 m (hone u3 (by simp))
       obtain⟨m,hm⟩:∃ m,m=lJ ml d.res.name:=⟨_,rfl⟩
       rw[<- hm] at ae9;have uy:=ay hm;have k5:=hL4.cells.1.2.2.2.2.2.1;have y1:=(aV gd).2.1
       have hne1:lb≠w4.heap.size:=by omega
       have hne2:wr.heap.size≠w4.heap.size:=by omega
       clear hL4 hM4 gd hgf hone hm A9 HMR Mg
       go_cut [12,13] (λ_ v wc=>v=.bool m/\Below w4.heap.size w4 wc)
       case first =>
        go_region_held3 (λW=>W.cell? ⟨lb,5,none⟩=some (.pointer (some ⟨db,0,none⟩))/\W.cell? ⟨wr.heap.size,1,none⟩=some (.string ⟨d.res.name.toArray⟩))
         (first|(with_reducible exact p3)|(with_reducible exact gy ((mH w5 w4.heap.size lb 5 _ _ _ _ hne1).trans p3.1) ((mH w5 w4.heap.size wr.heap.size 1 _ _ _ _ hne2).trans p3.2))|(go_keep;done))
         (first|(go_at_call 36;refine(ae9.out _ ?_).mono ?_;(first|exact(bQ _ _).drew|exact((bQ _ _).alloc (bD _) _).drew);rintro e w5 ⟨rfl,hb5⟩;have xI:Below w4.heap.size w4 w5:=(by first|exact(bQ _ _).drew.trans hb5|exact((bQ _ _).alloc (bD _) _).drew.trans (hb5.mono (by simp)));have p3:=gy (jo xI k5) (jo xI y1);try (have hT:=(hb5.block w4.heap.size (by simp)).trans (aX w4 (.cells #[.string ⟨#[]⟩,.slice none 0 0,.int .i64 0,.slice none 0 0] 115));obtain⟨⟨t0,t1,t2,t3⟩,g0,g1,g2,g3⟩:=mF hT)))
        ·clear s0 s1 s2 s3 p3
         go_wp2_with fail
         go_meet
         exact⟨rfl,xI.alloc xI.size _⟩
        ·clear s0 s1 s2 s3 p3
         go_wp2_with fail
         go_meet
         exact⟨rfl,fZ xI (bD _) u0 u1 u2 u3⟩
       case rest =>
        obtain⟨rfl,xI⟩:=hcut
        obtain⟨w5,rfl⟩:∃ w5:World,w5=wc:=⟨_,rfl⟩
        clear k5 y1 s0 s1 s2 s3 ae9;have Tk:=xI.size;have OA:=ay (HL4.out.below xI);have HM5:=ay (HM4.out.below xI);have afa:=(xI.block _ hdl).trans HGD.out;have HG5:=ay (gy ((xI.block _ (by omega)).trans HG4.out.1) ((xI.block _ (by omega)).trans HG4.out.2));have hb5:=hb4.trans (xI.mono hb4.size);have HT5:=ay ((La.out.below qh).below xI);obtain⟨y0,y1,y2,y3,y4,y5,y6,y7,y8,y9,rP,rQ,rR,y13,PV⟩:=aV afa;have Zm:=ay afa;have k5:=OA.out.cells.1.2.2.2.2.2.1;clear afa HL4 HM4 HG4 HGD
        have Oz:w.heap.size≠lb:=by omega
        have agq:w.heap.size+1≠lb:=by omega
        cases m with
        | true =>
         have JR:=ay (oZ _ lb _ f1 30 d.res.at_ w5 OA.out V5.out)
         have hnx:kY f1 (some (30,d.res.at_))=gV f0 [] (p.defs.take (k+1)):=by
          have hh:=WT.out.has d.res.name;rw[<- uy.out] at hh;rw[AP.out.2,<- D5.out,bR (PY hh.symm)]
         have hiv:qC ml (p.defs.take (k+1)):=by rw[AP.out.1];exact WT.out.same uy.out.symm
         have DR:=ay (gy hnx hiv);clear hnx hiv;go_wp2_with (go_at_call 37;refine JR.out.mono ?_;rintro e w6 ⟨rfl,Xi,mR⟩)
         go_roundw
         case rel=>exact⟨k+1,mv,ml,_,by omega,by go_num,DR.out.1,Xi,HM5.out.alk mR.2 (λq=>hne q.symm) (λb hb q=>by subst q;exact own_ne HM5.out.own OA.out (by decide) hb),by omega,DR.out.2,(mR.2.2 _ Oz (by omega)).trans HG5.out.1,(mR.2.2 _ agq (by omega)).trans HG5.out.2,hb5.trans (mR.1 _ (by omega)),jq (jq hw1 (jq BJ Tk)) mR.2.1,HT5.out.frame ⟨mR.2.1,λb hb hl=>mR.2.2 b hb.1 hl⟩⟩
         case measure=>simp[intOf];omega
        | false =>
         have HOF:=ay (λW (hW:Below w5.heap.size w5 W)=>J4 (λb=>b<w.heap.size) d ap cp ac cc am wn cm ae ce W HFD.out (RowK.frame H57.out.1 (aW.of (hb5.trans (hW.mono hb5.size)))) (RowK.frame H57.out.2 (aW.of (hb5.trans (hW.mono hb5.size)))));unfold LM gN at HOF;have ais:=ay (λ(W:World) (hW:Below w5.heap.size w5 W) (a6:Option Addr) (c6:Nat) (a7:Option Addr) (c7:Nat)=>WR w1.heap.size db mv ml d.res.name (.string ⟨d.res.name.toArray⟩) (.slice a6 d.params.length c6) (.int .i64 d.res.base) (.slice a7 d.res.aC.length c7) W (HM5.out.below hW) (by have:=hW.size;omega) hdb (by omega) uy.out.symm (by simp[Value.oneCell']));have ajz:db<w5.heap.size:=(bP HM5.out.box).1
         have hwd:wr.heap.size≠db:=by omega
         have hOL:some lb≠mv.ownBlock:=own_ne HM5.out.own OA.out (by decide);have hOD:some wr.heap.size≠mv.ownBlock:=own_ne HM5.out.own Zm.out (by decide);have hOP:some w.heap.size≠mv.ownBlock:=own_ne HM5.out.own HG5.out.1 (by decide);have hOR:some (w.heap.size+1)≠mv.ownBlock:=own_ne HM5.out.own HG5.out.2 (by decide)
         have HS:Hid (∀ W,aW (λb=>b≠db/\some b≠mv.ownBlock) w5 W->((W.cell? ⟨wr.heap.size,0,none⟩=some (.bool d.pub)/\W.cell? ⟨wr.heap.size,1,none⟩=some (.string ⟨d.res.name.toArray⟩)/\W.cell? ⟨wr.heap.size,2,none⟩=some (.slice ap d.params.length cp)/\W.cell? ⟨wr.heap.size,3,none⟩=some (.int .i64 d.res.base)/\W.cell? ⟨wr.heap.size,4,none⟩=some (.slice ac d.res.aC.length cc)/\W.cell? ⟨wr.heap.size,5,none⟩=some (.int .i64 d.body.op)/\W.cell? ⟨wr.heap.size,6,none⟩=some (.string ⟨d.body.name.toArray⟩)/\W.cell? ⟨wr.heap.size,7,none⟩=some (.string ⟨d.body.module.toArray⟩)/\W.cell? ⟨wr.heap.size,8,none⟩=some (.bool (decide (d.body.num<0)))/\W.cell? ⟨wr.heap.size,9,none⟩=some (.slice am wn cm)/\W.cell? ⟨wr.heap.size,10,none⟩=some (.bool d.body.yes)/\W.cell? ⟨wr.heap.size,11,none⟩=some (.slice ae d.body.aB.length ce)/\W.cell? ⟨wr.heap.size,12,none⟩=some (.int .i64 d.body.at_)/\W.cell? ⟨wr.heap.size,13,none⟩=some (.int .i64 d.res.at_)/\W.cell? ⟨wr.heap.size,14,none⟩=some (.int .i64 d.res.bare))/\W.cell? ⟨lb,5,none⟩=some (.pointer (some ⟨db,0,none⟩)))):=ay λW hW=>⟨aV ((hW.2 _ ⟨hwd,hOD⟩ (by omega)).trans Zm.out),((yK (a:=⟨lb,5,none⟩) (hW.2 lb ⟨hne,hOL⟩ (by omega))).trans k5)⟩
         go_upto_region 15 with fail
         go_region_held3 (λW=>(W.cell? ⟨wr.heap.size,0,none⟩=some (.bool d.pub)/\W.cell? ⟨wr.heap.size,1,none⟩=some (.string ⟨d.res.name.toArray⟩)/\W.cell? ⟨wr.heap.size,2,none⟩=some (.slice ap d.params.length cp)/\W.cell? ⟨wr.heap.size,3,none⟩=some (.int .i64 d.res.base)/\W.cell? ⟨wr.heap.size,4,none⟩=some (.slice ac d.res.aC.length cc)/\W.cell? ⟨wr.heap.size,5,none⟩=some (.int .i64 d.body.op)/\W.cell? ⟨wr.heap.size,6,none⟩=some (.string ⟨d.body.name.toArray⟩)/\W.cell? ⟨wr.heap.size,7,none⟩=some (.string ⟨d.body.module.toArray⟩)/\W.cell? ⟨wr.heap.size,8,none⟩=some (.bool (decide (d.body.num<0)))/\W.cell? ⟨wr.heap.size,9,none⟩=some (.slice am wn cm)/\W.cell? ⟨wr.heap.size,10,none⟩=some (.bool d.body.yes)/\W.cell? ⟨wr.heap.size,11,none⟩=some (.slice ae d.body.aB.length ce)/\W.cell? ⟨wr.heap.size,12,none⟩=some (.int .i64 d.body.at_)/\W.cell? ⟨wr.heap.size,13,none⟩=some (.int .i64 d.res.at_)/\W.cell? ⟨wr.heap.size,14,none⟩=some (.int .i64 d.res.bare))/\W.cell? ⟨lb,5,none⟩=some (.pointer (some ⟨db,0,none⟩)))
          (first|(with_reducible exact p3)|(go_keep;done))
          (first
           | (go_at_call 39;refine(HOF.out _ (bQ _ _).drew).mono ?_;rintro e w6 ⟨a6,c6,a7,c7,rfl,-,hb6⟩;have hq6:Below w5.heap.size w5 w6:=(bQ _ _).drew.trans hb6;have p3:=HS.out w6 (aW.of hq6))
           | (go_at_call 38;refine(ais.out w6 hq6 a6 c6 a7 c7).mono ?_;rintro e w7 ⟨rfl,⟨mv',hM7,ait⟩,Ad,ha7⟩;have hq7:=(aW.of (P:=λb=>b≠db/\some b≠mv.ownBlock) hq6).trans ha7;have p3:=HS.out w7 hq7))
         all_goals
          have hnx:f1=gV f0 [] (p.defs.take (k+1)):=by
           have hh:=WT.out.has d.res.name;rw[<- uy.out] at hh;rw[AP.out.2,<- D5.out,aU (of_decide_eq_false hh.symm),qg]
          have hiv:qC (oW ml d.res.name [.string ⟨d.res.name.toArray⟩,.slice a6 d.params.length c6,.int .i64 d.res.base,.slice a7 d.res.aC.length c7]) (p.defs.take (k+1)):=by rw[AP.out.1];exact WT.out.ins uy.out.symm _ _ _ _ _
          have DR:=ay (gy hnx hiv);have HM7:=ay hM7;clear hnx hiv hM7 p3 y0 y1 y2 y3 y4 y5 y6 y7 y8 y9 rP rQ rR y13 PV k5 HS;go_wp2_with fail
          go_roundw
          case rel=>exact⟨k+1,mv',_,f1,by omega,by go_num,DR.out.1,(hq7.2 lb ⟨hne,hOL⟩ (by omega)).trans OA.out,HM7.out,by rw[Aq];omega,DR.out.2,(hq7.2 _ ⟨by omega,hOP⟩ (by omega)).trans HG5.out.1,(hq7.2 _ ⟨by omega,hOR⟩ (by omega)).trans HG5.out.2,(hb5.trans (hq6.mono hb5.size)).trans (Ad.mono hz1),jq (jq hw1 (jq BJ Tk)) hq7.1,(HT5.out.imp (Q:=λb=>b≠lb/\(b≠db/\some b≠mv.ownBlock)/\some b≠mv'.ownBlock) λb hb hl=>⟨hb.1,hb.2,ait b (xw hl hq6.size) hb.2.2⟩).frame (⟨hq7.1,λb hb hl=>hq7.2 b hb.2.1 hl⟩) |>.imp λb hb _=>⟨hb.1,hb.2.1.1,hb.2.2⟩⟩
          case measure=>simp[intOf];omega
      ·obtain rfl:k=p.defs.length:=by omega
       obtain⟨wq,rfl⟩:∃ wq:World,wq=wr:=⟨_,rfl⟩
       have VI:decide ((p.defs.length:Int)<(p.defs.length:Int))=false:=dX (by omega);have afb:=D5.out;rw[zG] at afb;have abC:=WT.out;rw[zG] at abC
       have hSC:ScM ⟨S,gU p.defs,λ_ _=>none⟩ ⟨own,.slice ai p.aD.length ci,.slice ad p.defs.length cd,.slice af ms.length cf,db⟩ lb w1.heap.size (.slice ia S.length ic) wq:=⟨⟨mv,ml,HMR.out,by omega,abC.ar⟩,La.out.imp λb hb _=>hb.1,HRR.out,HSL.out,⟨ms,jq HMS.out.1 (by decide),(RowK.frame HFC.out (aW.of hbl)).imp λb hb _=>by omega⟩,rfl⟩
       have Tt:=ay hSC;have HE2:Hid (R=kZ ⟨S,gU p.defs,λ_ _=>none⟩ f1 p.defs):=ay (by rw[HE.out,afb,ZP.gY,ZP.se,air.out]);obtain⟨y0,y1⟩:=cB Mg.out.1;clear hSC afb abC WT HE D5
       go_upto_region 18 with fail
       clear y0 y1
       go_loopw [15,72] (λ_ q wx=>∃ (k:Nat) (fk:Fl),k<=p.defs.length/\q=.int .i64 k/\fk=kZ ⟨S,gU p.defs,λ_ _=>none⟩ f1 (p.defs.take k)/\bq fk/\ku ⟨own,.slice ai p.aD.length ci,.slice ad p.defs.length cd,.slice af ms.length cf,db⟩ lb (.slice ia S.length ic) fk wx/\aO lb wq wx) (λ_ q _=>p.defs.length - (intOf q).toNat)
       case atStart=>exact⟨0,f1,kJ _,rfl,rfl,V5.out,A9.out,aO.refl _ _⟩
       case round =>
        obtain⟨k,fk,hk2,rfl,BI,hfo,hlx,hkx⟩:=hrel;have hzx:=hkx.2.1;have HLX:=ay hlx;have HFK:=ay BI;have Ay:=ay hfo;have aiu:=hlx.lt;have afc:Below w.heap.size w wr:=hbl.trans (hkx.1 _ (by omega));clear hlx BI hfo
        by_cases hlt:k<p.defs.length
        ·obtain⟨_,_,hvv,_,hdf⟩:=HD.out.form
         simp only[Value.slice.injEq] at hvv;obtain⟨rfl,-,rfl⟩:=hvv;obtain⟨b,off,rfl,hPb,hbw,iw⟩:=hdf (by omega);obtain⟨⟨pv,cv,mg,kv⟩,⟨h5,h7,h8⟩,hc⟩:=iw k hlt;obtain⟨ap,cp,rfl⟩:=RowK.slice h5;obtain⟨ac,cc,rfl⟩:=RowK.slice h7;obtain⟨am,wn,cm,ae,ce,rfl,rfl⟩:=l7.PK h8
         have dI:∀ (j:Nat) (u:Value),w.cell? ⟨b,off+k * 15+j,none⟩=some u->wr.cell? ⟨b,off+k * 15+j,none⟩=some u:=λj u h=>(afc.cell (p:=⟨b,off+k * 15+j,none⟩) hbw).trans h
         have x0:=dI 0 _ (hc 0 _ rfl);have x1:=dI 1 _ (hc 1 _ rfl);have x2:=dI 2 _ (hc 2 _ rfl);have x3:=dI 3 _ (hc 3 _ rfl);have x4:=dI 4 _ (hc 4 _ rfl);have x5:=dI 5 _ (hc 5 _ rfl);have x6:=dI 6 _ (hc 6 _ rfl);have x7:=dI 7 _ (hc 7 _ rfl);have x8:=dI 8 _ (hc 8 _ rfl);have x9:=dI 9 _ (hc 9 _ rfl);have x10:=dI 10 _ (hc 10 _ rfl);have Xj:=dI 11 _ (hc 11 _ rfl);have Xk:=dI 12 _ (hc 12 _ rfl);have Xl:=dI 13 _ (hc 13 _ rfl);have Zu:=dI 14 _ (hc 14 _ rfl);rw[nZ] at x0;simp only[fC] at x1 x6 x7;have HFD:=ay (rZ.out.defs _ (nH hlt));have AP:=ay (Og ⟨S,gU p.defs,λ_ _=>none⟩ f1 hlt);have afd:aW (λb=>b<w.heap.size) w wr:=aW.of afc
         have h5':=(RowK.frame h5 afd).imp (Q:=λb=>b≠lb) λb hb _=>by omega
         have h7':=(RowK.frame h7 afd).imp (Q:=λb=>b≠lb) λb hb _=>by omega
         have h8':=l7.imp (Q:=λb=>b≠lb) (λb hb _=>by omega) (l7.frame afd h8);have afe:=ay (gy h5' (gy h7' h8'));clear iw h5 h7 h8 hc dI hdf h5' h7' h8';generalize p.defs[k]=d at *;have qh:=aA wr (.cells (gN d ap cp ac cc am wn cm ae ce) 62);have gd:=aX wr (.cells (gN d ap cp ac cc am wn cm ae ce) 62)
         have nK:(k:Int)<(p.defs.length:Int):=by omega
         go_upto_region 20 with fail
         change Code.wp _ _ _ _ (wr.alloc (.cells (gN d ap cp ac cc am wn cm ae ce) 62));clear x0 x1 x2 x3 x4 x5 x6 x7 x8 x9 x10 Xj Xk Xl Zu;generalize wr.alloc (.cells (gN d ap cp ac cc am wn cm ae ce) 62)=w4 at *;have BJ:=qh.size;have hk4:=hkx.trans (aO.of qh aiu);have hL4:=HLX.out.below qh;have HDF:=ay (Zk _ _ lb w1.heap.size (.slice ia S.length ic) fk d ap cp ac cc am wn cm ae ce w4 hL4 (Tt.out.keep A9.out hk4.2) Ay.out HFD.out (RowK.frame afe.out.1 (aW.of qh)) (RowK.frame afe.out.2.1 (aW.of qh)) (l7.frame (aW.of qh) afe.out.2.2));unfold gN at HDF;obtain⟨y0,y1,y2,y3,y4,y5,y6,y7,y8,y9,rP,rQ,rR,y13,PV⟩:=aV gd;have hfd:bq (sJ ⟨S,gU p.defs,λ_ _=>none⟩ fk d):=((xS _ _ _ Ay.out).or (o8 _ _ _ _)).or (PZ.rE _ _ _ _);have DR:=ay (gy (show sJ ⟨S,gU p.defs,λ_ _=>none⟩ fk d=kZ ⟨S,gU p.defs,λ_ _=>none⟩ f1 (p.defs.take (k+1)) by rw[AP.out,<- HFK.out]) hfd);clear hL4 gd hfd;go_wp2_with (go_at_call 40;refine HDF.out.mono ?_;rintro e w6 ⟨rfl,Xi,mR⟩)
         go_roundw
         case rel=>exact⟨k+1,_,by omega,by go_num,DR.out.1,DR.out.2,Xi,hk4.trans mR⟩
         case measure=>simp[intOf];omega
        ·obtain rfl:k=p.defs.length:=by omega
         have nK:decide ((p.defs.length:Int)<(p.defs.length:Int))=false:=dX (by omega);have HE3:Hid (R=fk):=ay (by rw[HE2.out,HFK.out,zG]);have aiv:=(bP Mg.out.2).1;have gr9:=(hkx.2.2 (w.heap.size+1) (by omega) aiv).trans Mg.out.2;obtain⟨⟨r0,r1⟩,rz0,rz1⟩:=gK gr9;obtain⟨⟨k0,k1,k2,k3,k4,k5,k6,k7⟩,-⟩:=HLX.out.cells;have HP:=ay (uX gr9 (.int .i64 (DZ fk)) (.int .i64 (F8 fk)));have HB:=ay (uW afc (by omega:w.heap.size<=w.heap.size+1) (.int .i64 (DZ fk)) (.int .i64 (F8 fk)));clear gr9 HFK;go_wp2;change bodyPost _ _ _ _ _ (IQ wr (w.heap.size+1) (.int .i64 (DZ fk)) (.int .i64 (F8 fk)));generalize IQ wr _ _ _=w9 at *;obtain⟨⟨d0,d1⟩,-⟩:=gK HP.out;exact nI (v:=.agg #[.int .i64 (DZ fk),.int .i64 (F8 fk)]) (by simp[results,Tryz.results15,go_sem,d0,d1]) rfl ⟨by rw[HE3.out],HB.out⟩
theorem Hl (E:SE):∀ (l:List ZD) (f:Fl),bq f->bq (kZ E f l)
 | [],_,h=>h
 | d :: l,f,h=>Hl E l _ (((xS E d.params ([],f) h).or (o8 E _ _ _)).or (PZ.rE E _ _ _))
theorem Kj (own:aH)(face:aH->Bool):∀ (l:List (aH × Int)) (s:List aH × Fl),bq s.2->bq (oV own face s l).2
 | [],_,h=>h
 | m :: l,s,h=>Kj own face l _ (h.or (by split;exact bq.some (by decide);split;exact bq.some (by decide);split;exact bq.none;exact bq.some (by decide)))
theorem Kk (p:ZP)(own:aH)(ms:List aH):bq (p.check own ms):=by
 unfold ZP.check
 split
 ·unfold ZP.gY
  exact Hl _ _ _ (zB _ _ _ (Kj _ _ _ _ bq.none))
 ·exact bq.some (by decide)
theorem abD (dG:dS){f:Fl}(d:ZD)(h:bq f):bq (xq dG f d):=qj _ _ _ (PZ.xu dG d.body _ _ _ (LX dG _ _ _ (Cr dG _ _ h)))
theorem Ct (dG:dS):∀ (l:List ZD) (f:Fl),bq f->bq (kE dG f l)
 | [],_,h=>h
 | d :: l,f,h=>Ct dG l _ (abD dG d h)
theorem Dx {fm:Bool}:∀ {l:List PZ},kG fm l=true->∀ e∈l,e.right fm=true
 | [],_,e,h=>by cases h
 | x :: l,hr,e,h=>by
  rw[kG,uw] at hr
  rcases nY.1 h with q|q
  ·rw[q];exact hr.1
  ·exact Dx hr.2 e q
theorem yH (p:ZP){b:Int}{l:List PZ}(h:iL b l=true):∀ e∈l,lF p e:=λe he=>by
 unfold iL at h;simp only[uw] at h;exact Kh p true e (Dx h.2.2 e he)
theorem SL {p:ZP}{own:aH}{ms:List aH}(h:p.check own ms=none):∀ d∈p.defs,(∀ x∈d.params,∀ e∈x.aC,lF p e)/\(∀ e∈d.res.aC,lF p e)/\lF p d.body:=λd hd=>by
 unfold ZP.check at h
 split at h
 ·rename_i hq
  simp only[uw] at hq;have hs:=hq.1;unfold ZP.right at hs;simp only[uw,List.all_eq_true] at hs;have:=hs.2.2.2 d hd;unfold ZD.sound at this;simp only[uw,Bool.not_eq_true',List.any_eq_false] at this;refine⟨λx hx=>?_,yH p this.2.2.2.1,Kh p false d.body this.2.2.2.2⟩;have hx2:=this.2.2.1 x hx;simp only[Bool.not_eq_true',Bool.not_eq_false] at hx2;unfold ZF.right at hx2;rw[uw] at hx2;exact yH p hx2.2
 ·cases h
theorem Ho (own:aH)(p:ZP)(ai:Option Addr)(ci:Nat)(ad:Option Addr)(cd:Nat)(w:World)(hfit:p.qF)(hown:own.length<=65536)
  (hI:RowK ZIK (λb=>b<w.heap.size) w (.slice ai p.aD.length ci) p.aD) (hin:p.aD.length<=1000)
  (hD:RowK PS (λb=>b<w.heap.size) w (.slice ad p.defs.length cd) p.defs) :
  Calls Tryz.prog 10 #[.string ⟨own.toArray⟩,.agg #[.slice ai p.aD.length ci,.slice ad p.defs.length cd],.slice none 0 0] w (xV (p.types own) w):=by
 have hal:=(aA w (.cells #[.slice ai p.aD.length ci,.slice ad p.defs.length cd] 26)).alloc (by simp) (.cells #[.int .i64 0,.int .i64 0] 31);have g0:=(gZ (w.alloc (.cells #[.slice ai p.aD.length ci,.slice ad p.defs.length cd] 26)) (.cells #[.int .i64 0,.int .i64 0] 31) w.heap.size (by simp)).trans (aX w (.cells #[.slice ai p.aD.length ci,.slice ad p.defs.length cd] 26));have g1:=aX (w.alloc (.cells #[.slice ai p.aD.length ci,.slice ad p.defs.length cd] 26)) (.cells #[.int .i64 0,.int .i64 0] 31);rw[nG] at g1;have HD:=ay hD;have rZ:=ay hfit;have HPM:=ay hI;have hdn:=hfit.few;have Ay:=ay (Kk p own []);have HRI:=ay (λq=>SL (p:=p) (own:=own) (ms:=[]) q);have HCK:=ay (λW (hW:Below w.heap.size w W)=>SK own p ai ci ad cd none 0 [] W rfl hfit hown ((hI.frame (aW.of hW)).imp λb _ hl=>hl) hin ((hD.frame (aW.of hW)).imp λb _ hl=>hl) (RowK.nil _ _ _) ⟨by decide,λm hm=>by cases hm⟩)
 have hty:p.types own=match p.check own [] with|some x=>some x|none=>kE (aS p.defs) none p.defs:=rfl
 have V8:=ay hty;clear hD hfit hI hty;generalize p.types own=R at *;generalize p.check own []=f0 at *;go_enter Tryz.func10,Tryz.ntmps10
 go_upto_region 1 with fail
 change Code.wp _ _ _ _ ((w.alloc (.cells #[.slice ai p.aD.length ci,.slice ad p.defs.length cd] 26)).alloc (.cells #[.int .i64 0,.int .i64 0] 31));generalize (w.alloc (.cells #[.slice ai p.aD.length ci,.slice ad p.defs.length cd] 26)).alloc (.cells #[.int .i64 0,.int .i64 0] 31)=w1 at *;have hz1:=hal.size;have hl1:=(bP g1).1
 have hn0:w.heap.size<w1.heap.size:=by omega
 obtain⟨y0,y1⟩:=cB g0;have HG:=ay (gy g0 g1);clear g0 g1
 go_upto_region 2 with (go_at_call 15;refine(HCK.out w1 hal).mono ?_;rintro e w2 ⟨rfl,hb2⟩)
 clear y0 y1;have fJ:=aA w2 (.cells #[.int .i64 (DZ f0),.int .i64 (F8 f0)] 31);have g3:=aX w2 (.cells #[.int .i64 (DZ f0),.int .i64 (F8 f0)] 31);change Code.wp _ _ _ _ (w2.alloc (.cells #[.int .i64 (DZ f0),.int .i64 (F8 f0)] 31));have hb3:=hb2.trans (fJ.mono hb2.size)
 have Oz:w2.heap.size≠w.heap.size+1:=by have:=hb2.size;omega
 generalize w2.alloc _=w3 at *;have rX:=hal.trans (hb3.mono hz1);have gp3:=(hb3.block _ hn0).trans HG.out.1;have WS:=(hb3.block _ hl1).trans HG.out.2;obtain⟨⟨q0,q1⟩,-⟩:=gK g3;clear HCK fJ
 cases f0 with
 | some x =>
  have hx:(x.1 != 0)=true:=bne_iff_ne.2 (Ay.out x rfl);simp only[DZ,F8] at q0 q1 g3;have HE:Hid (R=some x):=ay (by rw[V8.out]);obtain⟨⟨r0,r1⟩,rz0,rz1⟩:=gK WS;have hP:=uX WS (.int .i64 x.1) (.int .i64 x.2);have H8:=uW rX (by omega:w.heap.size<=w.heap.size+1) (.int .i64 x.1) (.int .i64 x.2);have HP:=ay hP;have HB:=ay H8;clear hP H8 WS gp3 g3 V8 HRI Ay;obtain⟨xe,xa⟩:=x;simp only at q0 q1 hx HP HB;go_wp2;change bodyPost _ _ _ _ _ (IQ w3 (w.heap.size+1) (.int .i64 xe) (.int .i64 xa));generalize IQ w3 _ _ _=w4 at *;obtain⟨⟨d0,d1⟩,-⟩:=gK HP.out;exact nI (v:=.agg #[.int .i64 xe,.int .i64 xa]) (by simp[results,Tryz.results10,go_sem,d0,d1]) rfl ⟨by rw[HE.out];rfl,HB.out⟩
 | none =>
  have HE:Hid (R=kE (aS p.defs) none p.defs):=ay (by rw[V8.out]);have HRT:=ay (HRI.out rfl);simp only[DZ,F8] at q0 q1 g3;clear V8 HRI Ay g3;obtain⟨y0,y1⟩:=cB gp3;have qh:=aA w3 (.cells #[.slice ai p.aD.length ci,.slice ad p.defs.length cd,.slice none 0 0,.int .i64 0,.int .i64 0] 100);have hck:gu ⟨.slice ai p.aD.length ci,.slice ad p.defs.length cd,.slice none 0 0⟩ w3.heap.size none (w3.alloc (.cells #[.slice ai p.aD.length ci,.slice ad p.defs.length cd,.slice none 0 0,.int .i64 0,.int .i64 0] 100)):=aX w3 _
  obtain⟨C,hC⟩:∃ C:IU,C=⟨.slice ai p.aD.length ci,.slice ad p.defs.length cd,.slice none 0 0⟩:=⟨_,rfl⟩
  rw[<- hC] at hck
  have Hy:Hid (∀ (cb:Nat) (W:World),RowK PS (λb=>b≠cb) W (.slice ad p.defs.length cd) p.defs->KM p C cb W):=ay λcb W hW=>⟨ai,ci,ad,cd,hC,hW,rZ.out⟩
  clear hC;have hz3:=rX.size;have hr3:=(bP WS).1;have Uh:=ay (gy gp3 WS);clear gp3 WS HG
  go_upto_region 5 with fail
  clear q0 q1 y0 y1;change Code.wp _ _ _ _ (w3.alloc (.cells #[.slice ai p.aD.length ci,.slice ad p.defs.length cd,.slice none 0 0,.int .i64 0,.int .i64 0] 100))
  have ajA:w3.heap.size<(w3.alloc (.cells #[.slice ai p.aD.length ci,.slice ad p.defs.length cd,.slice none 0 0,.int .i64 0,.int .i64 0] 100)).heap.size:=by simp
  generalize w3.alloc _=w4 at *;generalize w3.heap.size=cb at *;have gp4:=(qh.block _ (by omega)).trans Uh.out.1;have gr4:=(qh.block _ (by omega)).trans Uh.out.2;have HG4:=ay (gy gp4 gr4);have ag0:=ay hck;obtain⟨y0,y1⟩:=cB gp4;have qo:=rX.trans (qh.mono hz3);have HD4:Hid (RowK PS (λb=>b≠cb) w4 (.slice ad p.defs.length cd) p.defs):=ay ((RowK.frame HD.out (aW.of qo)).imp λb hb _=>by omega);obtain⟨ao,cap,hv,_,hform⟩:=HD4.out.form;simp only[Value.slice.injEq] at hv;obtain⟨rfl,-,rfl⟩:=hv;have HF:=ay hform;clear gp4 gr4 hck hform Uh;have aiw:=ay (Hy.out cb w4 HD4.out);clear Hy
  obtain⟨dG,Hf⟩:∃ dG,dG=aS p.defs:=⟨_,rfl⟩
  rw[<- Hf] at HE;have HCA:=ay Hf;clear Hf;generalize hds:p.defs=ds at *;go_wp2;clear y0 y1;have BJ:=qo.size
  go_loopw [26] (λq wr=>∃ k:Nat,k<=ds.length/\q=.int .i64 k/\gu C cb (kE dG none (ds.take k)) wr/\aO cb w4 wr) (λq _=>ds.length - (intOf q).toNat)
  case atStart=>exact⟨0,kJ _,rfl,ag0.out,aO.refl _ _⟩
  case round =>
   obtain⟨k,hk,rfl,hr,hkr⟩:=hrel;have HR:=ay hr;clear hr
   by_cases hlt:k<ds.length
   ·obtain⟨b,off,rfl,hPb,hbl,iw⟩:=HF.out (by omega)
    obtain⟨⟨pv,cv,mv,kv⟩,⟨hP,hC,hE⟩,hc⟩:=iw k hlt;dsimp only at hP hC hE;obtain⟨ap,cp,rfl⟩:=RowK.slice hP;obtain⟨ac,cc,rfl⟩:=RowK.slice hC;obtain⟨am,wn,cm,ae,ce,rfl,rfl⟩:=hE.PK
    have dI:∀ (j:Nat) (u:Value),w4.cell? ⟨b,off+k * 15+j,none⟩=some u->wr.cell? ⟨b,off+k * 15+j,none⟩=some u:=λj u q=>(yK (a:=⟨b,off+k * 15+j,none⟩) (hkr.2.2 b hPb hbl)).trans q
    have x0:=dI 0 _ (hc 0 _ rfl);have x1:=dI 1 _ (hc 1 _ rfl);have x2:=dI 2 _ (hc 2 _ rfl);have x3:=dI 3 _ (hc 3 _ rfl);have x4:=dI 4 _ (hc 4 _ rfl);have x5:=dI 5 _ (hc 5 _ rfl);have x6:=dI 6 _ (hc 6 _ rfl);have x7:=dI 7 _ (hc 7 _ rfl);have x8:=dI 8 _ (hc 8 _ rfl);have x9:=dI 9 _ (hc 9 _ rfl);have x10:=dI 10 _ (hc 10 _ rfl);have Xj:=dI 11 _ (hc 11 _ rfl);have Xk:=dI 12 _ (hc 12 _ rfl);have Xl:=dI 13 _ (hc 13 _ rfl);have Zu:=dI 14 _ (hc 14 _ rfl);rw[nZ] at x0;simp only[fC] at x1 x6 x7
    have hdm:ds[k]∈p.defs:=by rw[hds];exact nH hlt
    have WU:=HRT.out ds[k] (nH hlt);have hdf:=rZ.out.defs ds[k] hdm;have VL:=ay (O1 dG none hlt);have BI:=Ct dG (ds.take k) none bq.none;have sU:=ay (λ(W:World) (hW:aO cb w4 W) (hcW:gu C cb (kE dG none (ds.take k)) W)=>ae5 p C cb (kE dG none (ds.take k)) ds[k] ap cp ac cc am wn cm ae ce W hcW (aiw.out.keep hW.2) BI hdf WU.1 WU.2.1 WU.2.2 (hP.frame hW.2) (hC.frame hW.2) (hE.frame hW.2));rw[hds,<- HCA.out] at sU;clear iw hc dI hP hC hE hdm WU hdf BI;unfold gN at sU;generalize ds[k]=d at *
    have nK:(k:Int)<(ds.length:Int):=by omega
    go_upto_region 8 with fail
    clear x0 x1 x2 x3 x4 x5 x6 x7 x8 x9 x10 Xj Xk Xl Zu;change Code.wp _ _ _ _ (wr.alloc (.cells (gN d ap cp ac cc am wn cm ae ce) 62));have Gt:=aA wr (.cells (gN d ap cp ac cc am wn cm ae ce) 62);have g5:=aX wr (.cells (gN d ap cp ac cc am wn cm ae ce) 62);generalize wr.alloc _=w5 at *;have iN:=hkr.trans (aO.of Gt HR.out.lt);have HDE:=ay (sU.out w5 iN (HR.out.below Gt));obtain⟨y0,y1,y2,y3,y4,y5,y6,y7,y8,y9,rP,rQ,rR,y13,PV⟩:=aV g5;clear sU g5;go_wp2_with (go_at_call 31;refine HDE.out.mono ?_;rintro r w6 ⟨rfl,h6,mR⟩)
    go_roundw
    case rel=>exact⟨k+1,by omega,by go_num,by rw[VL.out];exact h6,iN.trans mR⟩
    case measure=>simp[intOf];omega
   ·obtain rfl:k=ds.length:=by omega
    have nK:decide ((ds.length:Int)<(ds.length:Int))=false:=dX (by omega);have hrr:=HR.out;rw[zG,<- HE.out] at hrr;obtain⟨⟨q3,q4⟩,-⟩:=hrr.cells;have hgr:=(hkr.2.2 (w.heap.size+1) (by omega) (by omega)).trans HG4.out.2;obtain⟨⟨r0,r1⟩,rz0,rz1⟩:=gK hgr;have hbr:=qo.trans (hkr.1 w.heap.size (by omega));have HP:=ay (uX hgr (.int .i64 (DZ R)) (.int .i64 (F8 R)));have HB:=ay (uW hbr (by omega:w.heap.size<=w.heap.size+1) (.int .i64 (DZ R)) (.int .i64 (F8 R)));clear hrr hgr hbr HR HE HG4 ag0 HD4 HF;generalize hfe:DZ R=fe at *;generalize hfa:F8 R=fa at *;have HFF:=ay (gy hfe hfa);clear hfe hfa;go_wp2;change bodyPost _ _ _ _ _ (IQ wr (w.heap.size+1) (.int .i64 fe) (.int .i64 fa));generalize IQ wr _ _ _=w6 at *;obtain⟨⟨d0,d1⟩,-⟩:=gK HP.out;exact nI (v:=.agg #[.int .i64 fe,.int .i64 fa]) (by simp[results,Tryz.results10,go_sem,d0,d1]) rfl ⟨by rw[HFF.out.1,HFF.out.2],HB.out⟩
def Ki (w w':World):Prop:=∀ (k:Nat) (cs:Array Value) (fr:Nat × Nat),w.heap[k]?=some (.cells cs 3 fr)->w'.heap[k]?=some (.cells cs 3 fr)
theorem Ki.trans {a b c:World}(h:Ki a b)(k:Ki b c):Ki a c:=λn cs fr q=>k n cs fr (h n cs fr q)
theorem Ki.below (h:Below w.heap.size w w'):Ki w w':=λk _cs _fr q=>(h.block k (bP q).1).trans q
theorem Ki.set {b:Nat}{cs:Array Value}{T:TypeId}{fr:Nat × Nat}(hb:w.heap[b]?=some (.cells cs T fr))(hT:T≠3)(j:Nat)(u:Value):Ki w (w.setCell ⟨b,j,none⟩ u):=λk ds fr' q=>by
 rw[qm _ _ _ _ (by
  show k≠b;rintro rfl;rw[hb] at q;simp only[Option.some.injEq,Obj.cells.injEq] at q
  exact hT q.2.1)]
 exact q
theorem eO.ki {ks:List Int}(h:eO w v ks)(hk:Ki w w'):eO w' v ks:=by
 obtain⟨ao,cap,hv,hc,hf⟩:=h;refine⟨ao,cap,hv,hc,λh0=>?_⟩;obtain⟨b,off,cs,fr,ha,hb,hj⟩:=hf h0;exact⟨b,off,cs,fr,ha,hk b cs fr hb,hj⟩
theorem abE {B e sz n:Nat}{xs:List Value}(h:w.ownsRow B e sz v n xs)(hs:∀ q,v.ownBlock=some q->w'.heap[q]?=w.heap[q]?):w'.ownsRow B e sz v n xs:=by
 refine⟨h.1,?_⟩
 rcases h.2 with hn|⟨g,cap,cur,hv,hg,hh,hr⟩
 ·exact .inl hn
 ·exact .inr ⟨g,cap,cur,hv,hg,(hs g (by rw[hv];rfl)).trans hh,hr⟩
def zD (w:World)(v:Value)(ah:List Tok)(aj:List Nd):Prop :=
 ∃ (tv nv:Value) (l:List (Nd × Value)) (C D:Nat),v=.agg #[tv,nv]/\w.ownsRow C 159 4 tv ah.length (ah.flatMap dP)/\l.map Prod.fst=aj/\w.ownsRow D 156 3 nv aj.length (l.flatMap xE)/\∀ p∈l,eO w p.2 p.1.aB
theorem zD.set {w:World}{v:Value}{ah:List Tok}{aj:List Nd}(h:zD w v ah aj){b:Nat}{cs:Array Value}{T:TypeId}{fr:Nat × Nat}(hb:w.heap[b]?=some (.cells cs T fr))(h1:T≠159)(h2:T≠156)(h3:T≠3)(j:Nat)(u:Value):zD (w.setCell ⟨b,j,none⟩ u) v ah aj:=by
 obtain⟨tv,nv,l,C,D,e,p1,p2,p3,p4⟩:=h;exact⟨tv,nv,l,C,D,e,iO (a:=⟨b,j,none⟩) p1 (own_ne p1 hb h1) u,p2,iO (a:=⟨b,j,none⟩) p3 (own_ne p3 hb h2) u,λp hp=>(p4 p hp).ki (Ki.set hb h3 j u)⟩
theorem zD.at {ah:List Tok}{aj:List Nd}(h:zD w v ah aj):bJ w.heap.size w v ah aj:=by
 obtain⟨tv,nv,l,C,D,e,p1,p2,p3,p4⟩:=h
 have hll:l.length=aj.length:=by rw[<- p2,oC]
 refine⟨tv,nv,l,e,Sl.fQ p1,p2,?_,λp hp=>?_⟩
 ·rw[Rec,hll]
  exact Sl.fQ p3
 ·obtain⟨ai,ci,hvi,hci,hfi⟩:=p4 p hp
  refine⟨ai,ci,hvi,hci,by simp,λhp0=>?_⟩;obtain⟨bi,oi,cs,fr,e1,e2,e3⟩:=hfi hp0;refine⟨bi,oi,e1,(bP e2).1,λjj hjj=>?_⟩;rw[aZ e2,e3 jj (by simpa using hjj)]
  simp
def abF (ah:List Tok)(aj:List Nd)(w:World)(e:Ending)(w':World):Prop :=
 ∃ v,e=.returned v/\zD w' v ah aj/\Below w.heap.size w w'
def ag1 (C:Nat)(w:World)(nv:Value)(aj:List Nd):Prop :=
 ∃ l:List (Nd × Value),l.map Prod.fst=aj/\w.ownsRow C 156 3 nv aj.length (l.flatMap xE)/\∀ p∈l,eO w p.2 p.1.aB
theorem abG (R:List Nat)(B bb:Nat)(tv:Value)(ah:List Tok)(aj:List Nd)(used:Nat)(w:World)(hb:BW R B bb tv used aj w)(ht:Rec B w tv 4 dP ah)(h0:0<ah.length)(hn:ah.length<=1000000)(hm:aj.length<=1000000)(hkl:∀ n∈aj,n.aB.length<=1000000) :
  Calls Tryz.prog 105 #[.pointer (some ⟨bb,0,none⟩)] w (abF ah aj w):=by
 have HC:=ay (λW (h:Rec B W tv 4 dP ah)=>Fh B tv ah W h h0 (by omega));obtain⟨h1,nv,l,h2,h3,h4,h5⟩:=hb;have hlt:=(bP h2).1
 obtain⟨ao,cap,rfl,_⟩:∃ ao cap,nv=.slice ao aj.length cap/\True:=by
  rcases h4.2 with ⟨hv,hn0⟩|⟨g,cap,cur,hv,_⟩
  ·exact⟨none,0,by rw[hv,hn0],trivial⟩
  ·exact⟨_,cap,hv,trivial⟩
 have HT:=ay ht;obtain⟨at_,ct,rfl,_,_⟩:=ht.form (λ_=>rfl)
 have c0:w.cell? ⟨bb,0,none⟩=some (.slice at_ ah.length ct):=by rw[aZ h2];rfl
 have hal:=aA w (.cells #[.slice none 0 0,.slice none 0 0] 93);have d0:=jo hal c0
 have hBw:B<=w.heap.size:=by omega
 have H4:=ay h4;have H5:=ay h5;clear h4 h5 ht c0;go_enter Tryz.func105,Tryz.ntmps105;go_wp2_with (go_at_call 153;refine(HC.out _ ?c1).mono ?_)
 case c1=>exact HT.out.below (hal.mono hBw)
 rintro e w1 ⟨v',rfl,hown,hb1⟩;obtain⟨g,c5,rfl,hg1,hg2⟩:=hown.form h0;have G0:=(hb1.block w.heap.size (by simp)).trans (aX w (.cells #[.slice none 0 0,.slice none 0 0] 93));have Gb:=(hb1.block bb (by simp;omega)).trans ((gZ w _ bb hlt).trans h2)
 go_upto_region 2 with (fail)
 have hz1:=hb1.size;rw[nG] at hz1;have oM:Below w.heap.size w w1:=hal.trans (hb1.mono (by simp));have T1:=aX w1 (.cells #[.slice (some ⟨g,0,none⟩) ah.length c5,.slice none 0 0] 93);have hb2:=aA w1 (.cells #[.slice (some ⟨g,0,none⟩) ah.length c5,.slice none 0 0] 93);have Gb2:=(gZ w1 (.cells #[.slice (some ⟨g,0,none⟩) ah.length c5,.slice none 0 0] 93) bb (bP Gb).1).trans Gb;generalize w1.alloc _=w2 at T1 hb2 Gb2 |-
 have b1:w2.cell? ⟨bb,1,none⟩=some (.slice ao aj.length cap):=by rw[aZ Gb2];rfl
 obtain⟨j0,hj,hy0,hy1,hy2⟩:=info_parts Tryz.MR
 have hll:l.length=aj.length:=by rw[<- h3,oC]
 have hrec:Rec w.heap.size w (.slice ao aj.length cap) 3 xE l:=by
  have:=Sl.fQ H4.out;rw[Rec,hll];exact this
 obtain⟨ao',jw,hv,_,hnf⟩:=hrec.adn (λp=>MS p) hll;simp only[Value.slice.injEq] at hv;obtain⟨rfl,-,rfl⟩:=hv;have HNF:=ay hnf;have HLL:=ay hll;have H3:=ay h3;clear hnf hrec hll h3;go_wp2;clear b1 d0
 go_loopw [19] (λq wr=>∃ (j:Nat) (nv2:Value),j<=aj.length/\q=.int .i64 j/\aW (λb=>b<w1.heap.size) w2 wr/\wr.heap[w1.heap.size]?=some (.cells #[.slice (some ⟨g,0,none⟩) ah.length c5,nv2] 93 (0,0))/\ag1 (w1.heap.size+1) wr nv2 (aj.take j)/\Ki w2 wr/\Below w.heap.size w wr) (λq _=>aj.length - (intOf q).toNat)
 case atStart=>exact⟨0,.slice none 0 0,kJ _,rfl,aW.refl _ _,T1,⟨[],rfl,World.ownsRow_nil _ _ _ _,λp hp=>by cases hp⟩,λ_ _ _ q=>q,oM.trans (hb2.mono oM.size)⟩
 case round =>
  obtain⟨j,nv2,hjn,rfl,dD,hT,hrow,hki,hbl⟩:=hrel;have DY:=dD.1;have hz2:=hb2.size
  by_cases hlt:j<aj.length
  ·have hjl:j<l.length:=by have:=HLL.out;omega
   obtain⟨b,off,rfl,hbB,hcell⟩:=HNF.out (by omega);have hW2:Below w.heap.size w w2:=oM.trans (hb2.mono oM.size)
   have hcl:=λ(jj:Nat) (u:Value) (hu:(xE l[j])[jj]?=some u)=>(yK (a:=⟨b,off+j * 3+jj,none⟩) ((dD.2 b (by have:=oM.size;show b<w1.heap.size;omega) (by have:=oM.size;omega)).trans (hW2.block b hbB))).trans (hcell j jj u hjl hu)
   have hx0:=hcl 0 _ rfl;have hx1:=hcl 1 _ rfl;have hx2:=hcl 2 _ rfl;have hiw:eO wr l[j].2 l[j].1.aB:=((H5.out l[j] (nH hjl)).1.ki (Ki.below hW2)).ki hki
   have Po:aj[j]=l[j].1:=by have:=H3.out;subst this;simp
   have hkj:=hkl aj[j] (nH hlt)
   have hsn:aj.take (j+1)=aj.take j++[l[j].1]:=by rw[zF hlt,Po]
   rw[Po] at hkj;generalize l[j]=pr at hx0 hx1 hx2 hiw hkj hsn;obtain⟨⟨kind,tok,ks⟩,kv⟩:=pr;simp only[nZ] at hx0 hx1 hx2 hiw hkj hsn;have HS:=ay hsn;have HIW:=ay hiw;obtain⟨ak,ck,rfl⟩:=hiw.slice
   have Ij:(j:Int)<(aj.length:Int):=by omega
   clear hcell hcl Po hsn hiw;go_wp2_with (go_at_call 154;refine(EN _ ks _ (HIW.out.ki (Ki.below (aA wr _))) (by omega)).mono ?_);rintro e w4 ⟨v5,rfl,hkR,hb4⟩;have iN:=(hkR [] (λr hr=>by cases hr)).1;obtain⟨a5,c6,rfl⟩:=iN.slice;have N4:=(hb4.block wr.heap.size (by simp)).trans (aX wr (.cells #[.int .i64 kind,.int .i64 tok,.slice ak ks.length ck] 156))
   have n2:w4.cell? ⟨wr.heap.size,2,none⟩=some (.slice ak ks.length ck):=by rw[aZ N4];rfl
   have nz:∀ jj,w4.frozen? ⟨wr.heap.size,jj,none⟩=false:=by intro jj;simp[World.frozen?,N4]
   clear hkR hx0 hx1 hx2
   go_upto_region 6 with (fail)
   obtain⟨l2,hl2,hown2,hk2⟩:=hrow
   have hlj:(aj.take j).length=j:=by rw[pK];omega
   rw[hlj] at hown2
   obtain⟨a2,c2,rfl,_⟩:∃ a2 c2,nv2=.slice a2 j c2/\True:=by
    rcases hown2.2 with ⟨hv,hn0⟩|⟨g,cap,cur,hv,_⟩
    ·exact⟨none,0,by rw[hv,hn0],trivial⟩
    ·exact⟨_,cap,hv,trivial⟩
   have hne2:some wr.heap.size≠(Value.slice a2 j c2).ownBlock:=λq=>by have:=(hown2.lt _ q.symm).2;omega
   have hlt1:w1.heap.size<wr.heap.size:=(bP hT).1;have BZ:Below wr.heap.size wr w4:=(aA wr _).trans (hb4.mono (by simp));have N5:=jN w4 wr.heap.size 2 _ _ (.slice a5 ks.length c6) N4;have T5:(w4.setCell ⟨wr.heap.size,2,none⟩ (.slice a5 ks.length c6)).heap[w1.heap.size]?=_:=(qm _ _ _ _ (by show w1.heap.size≠wr.heap.size;omega)).trans ((BZ.block _ hlt1).trans hT);have gB:=iO (a:=⟨wr.heap.size,2,none⟩) (own_below hown2 BZ) hne2 (.slice a5 ks.length c6);have hks:=Ki.set N4 (by decide) 2 (.slice a5 ks.length c6);have ag2:=(hki.trans (Ki.below BZ)).trans hks;have M8:=(Ki.below BZ).trans hks;have ag3:=iN.ki hks;have adE:aW (λb=>b<w1.heap.size) w2 (w4.setCell ⟨wr.heap.size,2,none⟩ (.slice a5 ks.length c6)):=(dD.trans (aW.of BZ)).trans (aW.set _ λb hb=>by show b≠wr.heap.size;omega);have hb5:=(hbl.trans (BZ.mono hbl.size)).setCell (p:=⟨wr.heap.size,2,none⟩) hbl.size (.slice a5 ks.length c6)
   have hs5:w4.heap.size<=(w4.setCell ⟨wr.heap.size,2,none⟩ (.slice a5 ks.length c6)).heap.size:=by simp
   have hs4:=BZ.size;clear hown2 hne2 N4 n2 nz hb4 BZ iN hks;generalize w4.setCell _ _=w5 at N5 T5 gB ag2 M8 ag3 adE hs5 hb5 |-
   have t1:w5.cell? ⟨w1.heap.size,1,none⟩=some (.slice a2 j c2):=by rw[aZ T5];rfl
   have m0:w5.cell? ⟨wr.heap.size,0,none⟩=some (.int .i64 kind):=by rw[aZ N5];rfl
   have m1:w5.cell? ⟨wr.heap.size,1,none⟩=some (.int .i64 tok):=by rw[aZ N5];rfl
   have m2:w5.cell? ⟨wr.heap.size,2,none⟩=some (.slice a5 ks.length c6):=by rw[aZ N5];rfl
   go_wp2_with (at_builtin;refine wpList_append_own _ rfl _ _ 91 rfl (w1.heap.size+1) 156 j0 (.agg #[.int .i64 0,.int .i64 0,.slice none 0 0]) 3 40 Tryz.underlying91 hj hy0 hy1 hy2 rfl (by decide) _ _ _ rfl (gB.alloc _) ⟨w5.heap.size,0,none⟩ 1 1 [.int .i64 kind,.int .i64 tok,.slice a5 ks.length c6] rfl rfl ?e1 ?e2 ?e3 ?e4 ?e5 ?_)
   case e1 =>
    intro j' u hj';exact vL (cs:=#[.int .i64 kind,.int .i64 tok,.slice a5 ks.length c6]) (t:=156) (fr:=(0,0)) (aX w5 _) j' u (by simpa using hj')
   case e2=>simp[Value.oneCell']
   case e3=>unfold maxLen;omega
   case e4=>omega
   case e5=>simp;omega
   intro v' w6 hown6 nS _;obtain⟨gv,cv,rfl,_,_⟩:=hown6.form (by omega);have KG:=(bP T5).1;have T6:=iW (gB.alloc _) nS ((gZ w5 (.cells #[.int .i64 kind,.int .i64 tok,.slice a5 ks.length c6] 156) w1.heap.size KG).trans T5) (by decide)
   have k6:Ki w5 w6:=λk cs fr q=>iW (gB.alloc _) nS ((gZ w5 (.cells #[.int .i64 kind,.int .i64 tok,.slice a5 ks.length c6] 156) k (bP q).1).trans q) (by decide)
   have a6:aW (λb=>b<w1.heap.size) w2 w6:=(adE.trans (aW.of (aA w5 _))).trans (aW.grown nS λb hb q=>by have:=(gB.lt b q.symm).1;omega)
   have s1:w6.cell? ⟨w1.heap.size,1,none⟩=some (.slice a2 j c2):=by rw[aZ T6];rfl
   have sz:∀ jj,w6.frozen? ⟨w1.heap.size,jj,none⟩=false:=by intro jj;simp[World.frozen?,T6]
   have hs7:Ki w6 (w6.setCell ⟨w1.heap.size,1,none⟩ (.slice (some ⟨gv,0,none⟩) (j+1) cv)):=Ki.set T6 (by decide) 1 _;have T7:=jN w6 w1.heap.size 1 _ _ (.slice (some ⟨gv,0,none⟩) (j+1) cv) T6;have a7:=a6.trans (aW.set (a:=⟨w1.heap.size,1,none⟩) (.slice (some ⟨gv,0,none⟩) (j+1) cv) λb hb=>by show b≠w1.heap.size;omega);have o7:=iO (a:=⟨w1.heap.size,1,none⟩) hown6 (λq=>by have:=(hown6.lt _ q.symm).1;simp at this;omega) (.slice (some ⟨gv,0,none⟩) (j+1) cv)
   have aix:(aj.take (j+1)).length=j+1:=by rw[pK];omega
   have R7:ag1 (w1.heap.size+1) (w6.setCell ⟨w1.heap.size,1,none⟩ (.slice (some ⟨gv,0,none⟩) (j+1) cv)) (.slice (some ⟨gv,0,none⟩) (j+1) cv) (aj.take (j+1)):=by
    refine⟨l2++[(⟨kind,tok,ks⟩,.slice a5 ks.length c6)],by rw[xZ,hl2,HS.out];rfl,?_,λp hp=>?_⟩
    ·rw[aix,abo]
     exact o7
    ·rcases List.mem_append.1 hp with hp|hp
     ·exact(((hk2 p hp).ki M8).ki k6).ki hs7
     ·rw[Ia] at hp
      subst hp;exact(ag3.ki k6).ki hs7
   have aiy:=((ag2.trans k6).trans hs7)
   have aiz:=oM.size;have Ad:=((hb5.alloc hb5.size (.cells #[.int .i64 kind,.int .i64 tok,.slice a5 ks.length c6] 156)).grown nS (by have:=hb5.size;simp;omega) (λq hq=>by have:=(gB.lt q hq).1;omega)).setCell (p:=⟨w1.heap.size,1,none⟩) aiz (.slice (some ⟨gv,0,none⟩) (j+1) cv);clear nS hown6 gB t1 m0 m1 m2 o7 hk2 hl2;go_wp2
   go_roundw
   case rel=>exact⟨j+1,_,by omega,by go_num,a7,T7,R7,aiy,Ad⟩
   case measure=>simp[intOf];omega
  ·obtain rfl:j=aj.length:=by omega
   rw[zG] at hrow;obtain⟨l2,hl2,hown2,hk2⟩:=hrow
   obtain⟨a2,c2,rfl,_⟩:∃ a2 c2,nv2=.slice a2 aj.length c2/\True:=by
    rcases hown2.2 with ⟨hv,hn0⟩|⟨g,cap,cur,hv,_⟩
    ·exact⟨none,0,by rw[hv,hn0],trivial⟩
    ·exact⟨_,cap,hv,trivial⟩
   have hl1:=(bP G0).1;have Z:=(dD.2 w.heap.size hl1 (by omega)).trans ((hb2.block w.heap.size hl1).trans G0)
   have s0:wr.cell? ⟨w1.heap.size,0,none⟩=some (.slice (some ⟨g,0,none⟩) ah.length c5):=by rw[aZ hT];rfl
   have s1:wr.cell? ⟨w1.heap.size,1,none⟩=some (.slice a2 aj.length c2):=by rw[aZ hT];rfl
   have q0:wr.cell? ⟨w.heap.size,0,none⟩=some (.slice none 0 0):=by rw[aZ Z];rfl
   have q1:wr.cell? ⟨w.heap.size,1,none⟩=some (.slice none 0 0):=by rw[aZ Z];rfl
   have qz:∀ jj,wr.frozen? ⟨w.heap.size,jj,none⟩=false:=by intro jj;simp[World.frozen?,Z]
   have Ij:decide ((aj.length:Int)<(aj.length:Int))=false:=dX (by omega)
   have ajB:l2.length=aj.length:=by rw[<- hl2,oC]
   have k1:Ki wr (wr.setCell ⟨w.heap.size,0,none⟩ (.slice (some ⟨g,0,none⟩) ah.length c5)):=Ki.set Z (by decide) 0 _;have Z1:=jN wr w.heap.size 0 _ _ (.slice (some ⟨g,0,none⟩) ah.length c5) Z;have k2:=Ki.set Z1 (by decide) 1 (.slice a2 aj.length c2);have hgl:=hown.lt g rfl;simp only[nG] at hgl
   have hP3:((wr.setCell ⟨w.heap.size,0,none⟩ (.slice (some ⟨g,0,none⟩) ah.length c5)).setCell ⟨w.heap.size,1,none⟩ (.slice a2 aj.length c2)).ownsRow _ 159 4 (.slice (some ⟨g,0,none⟩) ah.length c5) ah.length (ah.flatMap dP):=abE hown λq hq=>by
    obtain rfl:g=q:=by simpa [Value.ownBlock] using hq
    rw[qm _ _ _ _ (by show g≠w.heap.size;omega),qm _ _ _ _ (by show g≠w.heap.size;omega)];exact(dD.2 g hgl.2 (by omega)).trans (hb2.block g hgl.2)
   have hn1:=iO (a:=⟨w.heap.size,0,none⟩) hown2 (λq=>by have:=(hown2.lt _ q.symm).1;simp at this;omega) (.slice (some ⟨g,0,none⟩) ah.length c5);have hN3:=iO (a:=⟨w.heap.size,1,none⟩) hn1 (λq=>by have:=(hn1.lt _ q.symm).1;simp at this;omega) (.slice a2 aj.length c2);have DN:=(hbl.setCell (p:=⟨w.heap.size,0,none⟩) (bD _) (.slice (some ⟨g,0,none⟩) ah.length c5)).setCell (p:=⟨w.heap.size,1,none⟩) (bD _) (.slice a2 aj.length c2);go_wp2;refine nI (v:=.agg #[.slice (some ⟨g,0,none⟩) ah.length c5,.slice a2 aj.length c2]) (by simp[results,Tryz.results105,go_sem,q0,q1]) rfl ⟨_,rfl,⟨_,_,l2,_,_,rfl,hP3,hl2,hN3,λp hp=>((hk2 p hp).ki k1).ki k2⟩,DN⟩
open Go.RowKit Go
variable{x y:Value}{b:Nat}
def LY (r:ad7)(w:World)(e:Ending)(w':World):Prop :=
 Below w.heap.size w w'/\match r with
 | .bad c a=>e=.returned (.tuple #[.agg #[.slice none 0 0,.slice none 0 0],.agg #[.int .i64 c,.int .i64 a]])
 | .good ah aj=>∃ at_ ct an cn,e=.returned (.tuple #[.agg #[.slice at_ ah.length ct,.slice an aj.length cn],.agg #[.int .i64 0,.int .i64 0]])/\zD w' (.agg #[.slice at_ ah.length ct,.slice an aj.length cn]) ah aj
theorem jm (h:w.heap[b]?=some (.cells #[x,y] 31 (0,0))):w.cell? ⟨b,0,none⟩=some x/\w.cell? ⟨b,1,none⟩=some y/\∀ j,w.frozen? ⟨b,j,none⟩=false:=by
 refine⟨?_,?_,λj=>?_⟩
 ·rw[aZ h];rfl
 ·rw[aZ h];rfl
 ·simp[World.frozen?,h]
theorem ql (h:w.heap[b]?=some (.cells #[x,y] 93 (0,0))):w.cell? ⟨b,0,none⟩=some x/\w.cell? ⟨b,1,none⟩=some y/\∀ j,w.frozen? ⟨b,j,none⟩=false:=by
 refine⟨?_,?_,λj=>?_⟩
 ·rw[aZ h];rfl
 ·rw[aZ h];rfl
 ·simp[World.frozen?,h]
theorem Pp (s:ByteArray)(d:Nat)(fv:Value)(w:World)(hd1:1<=d)(hd2:d<=200)(hs:s.size<=1099511627776)(c a:Nat)(hl:dQ s.data.toList=.error (c,a))(hc:c≠0) :
  Calls Tryz.prog 64 #[.string s,.int .i64 d,fv] w (LY (.bad c a) w):=by
 have HL:Hid (∀ W,Calls Tryz.prog 102 #[.string s] W λe w'=>e=.returned (.tuple #[.slice none 0 0,.agg #[.int .i64 c,.int .i64 a]])/\Below W.heap.size W w'):=ay λW=>(Kz s W hs).mono λe w' h=>by
  unfold Te at h;rw[hl] at h;exact⟨h.2,h.1⟩
 have hc0:((c:Int) == 0)=false:=by simp;omega
 have hal:=(aA w (.cells #[.slice none 0 0,.slice none 0 0] 93)).alloc (by simp) (.cells #[.int .i64 0,.int .i64 0] 31);have e1:=(gZ (w.alloc (.cells #[.slice none 0 0,.slice none 0 0] 93)) (.cells #[.int .i64 0,.int .i64 0] 31) w.heap.size (by simp)).trans (aX w (.cells #[.slice none 0 0,.slice none 0 0] 93));have e2:=aX (w.alloc (.cells #[.slice none 0 0,.slice none 0 0] 93)) (.cells #[.int .i64 0,.int .i64 0] 31);rw[nG] at e2
 have ag4:¬ ((d:Int)<1):=by omega
 have ag5:¬ ((200:Int)<(d:Int)):=by omega
 clear hl;go_enter Tryz.func64,Tryz.ntmps64
 go_upto_region 5 with (go_at_call 102;refine(HL.out _).mono ?_;rintro e w3 ⟨rfl,hb3⟩;have hz3:=hb3.size)
 rw[nG,nG] at hz3;have G6:=(gZ w3 (.cells #[.int .i64 c,.int .i64 a] 31) w.heap.size (by omega)).trans ((hb3.block w.heap.size (by simp;omega)).trans e1);have G7:=(gZ w3 (.cells #[.int .i64 c,.int .i64 a] 31) (w.heap.size+1) (by omega)).trans ((hb3.block (w.heap.size+1) (by simp)).trans e2);have hb4:=(hal.trans (hb3.mono (by simp;omega))).alloc (by omega) (.cells #[.int .i64 c,.int .i64 a] 31);have N9:=aX w3 (.cells #[.int .i64 c,.int .i64 a] 31);clear hb3 e1 e2 hal HL;generalize hx:w3.heap.size=xb at N9 |-;generalize w3.alloc _=w4 at G6 G7 hb4 N9 |-;obtain⟨q0,q1,qz⟩:=ql G6;obtain⟨p0,p1,pz⟩:=jm G7;obtain⟨f0,f1,fz⟩:=jm N9
 go_region
 go_wp2;refine nI (v:=.tuple #[.agg #[.slice none 0 0,.slice none 0 0],.agg #[.int .i64 c,.int .i64 a]]) (by simp[results,Tryz.results64,go_sem,q0,q1,p0,p1]) rfl ⟨?_,rfl⟩;exact((((hb4.setCell (by simp) _).setCell (by simp) _).setCell (by simp) _).setCell (by simp) _).drew
def ade (E:bG)(one:aK->Option (Int × aK))(res:List Int × aK)(w0:World)(kv nv:Value)(wr:World):Prop :=
 ∃ (r m:Nat) (aB:List Int) (s:aK) (R:List Nat),nv=.int .i64 (m:Nat)/\m+r=9/\aB.length+2 * r<=16/\bE E.ah one r aB s=some res /\
  wr.ownsRow w0.heap.size 3 1 kv aB.length (aB.map (Value.int .i64))/\(∀ b,kv.ownBlock=some b->b∈R)/\(∀ r∈E.R,r∈R)/\(aB=[]->kv=.slice none 0 0)/\PR E R s wr/\Kp E.B w0 wr/\s.aC=false
theorem SN (E:bG)(hE:E.ok)(one:aK->Option (Int × aK))(st:aK)(res:List Int × aK)(w:World)(h:jW E.ah one st=some res)(hp:PW E st w)(hn:res.2.aj.length+1<=1099511627776)
  (hcl:st.aC=false) (hext:∀ s k,one s=some k->dR s k.2)
  (hone:∀ (R:List Nat) (s:aK) (k:Int × aK) (w':World),s.aC=false->one s=some k->PR E R s w'->Kp E.B w w'->k.2.aj.length+1<=1099511627776 ->
   Calls Tryz.prog 160 #[.pointer (some ⟨E.pb,0,none⟩)] w' (eu { E with R:=R } k w')) :
  Calls Tryz.prog 159 #[.pointer (some ⟨E.pb,0,none⟩),.func (.func 160) #[.pointer (some ⟨E.pb,0,none⟩)] #[]] w (Yd E res w):=by
 have vQ:=hE.2.2;obtain⟨i0,hi,hz0,hz1,hz2⟩:=info_parts Tryz.nQ;unfold jW at h
 by_cases hx:bF E.ah st [[41]]=true
 ·rw[bR hx] at h
  injection h with h;subst h
  have HX:=ay (dY E hE ⟨#[41]⟩ st true hx);clear hx hone hext;go_enter Tryz.func159,Tryz.ntmps159;go_wp2_with (go_at_call 155;refine(HX.out w hp).mono ?_);rintro e w1 ⟨rfl,hp1,hk1⟩;go_wp2;go_ret;exact⟨_,rfl,⟨none,0,rfl,bD _,λq=>absurd q (by simp)⟩,λ_=>rfl,hp1,hk1⟩
 ·rw[aU hx] at h
  have HX:=ay (dY E hE ⟨#[41]⟩ st false (eq_false_of_ne_true hx));have H0:=ay h;have EM:=ay hone;have Io:=ay hext;have HN:=ay hn;have HE:=ay hE;clear hx hone hext h hn;go_enter Tryz.func159,Tryz.ntmps159;go_wp2_with (go_at_call 155;refine(HX.out w hp).mono ?_);rintro e w1 ⟨rfl,hp1,hk1⟩;go_wp2
  go_loopw [5,6] (λkv nv wr=>ade E one res w kv nv wr) (λ_ nv _=>10 - (intOf nv).toNat)
  case atStart=>exact⟨8,1,[],st,E.R,rfl,rfl,by simp,H0.out,World.ownsRow_nil _ _ _ _,λ_ q=>by simp[Value.ownBlock] at q,λ_ q=>q,λ_=>rfl,hp1,hk1,hcl⟩
  case round =>
   obtain⟨r,m,aB,s,R,rfl,hm,hkl,hl,hown,hR,hER,hnil,hps,hks,hsc⟩:=hrel;obtain⟨ao,cap,rfl⟩:=qc hown;have yg:=ay hnil;clear hnil;have hBw:E.B<=w.heap.size:=hp.fA
   by_cases hf:s.fE=0
   ·have HO:=ay (kr { E with R:=R } s hf)
    cases r with
    | zero =>
     obtain rfl:m=9:=by omega
     rw[bE,bR hf] at hl
     injection hl with hl
     have HF:=ay (λw hp=>mQ { E with R:=R } HE.out 15 s w hp);have HL:=ay hl;clear hl hf;go_wp2_with (go_at_call 104;refine(HO.out _ hps).mono ?_);rintro e w2 ⟨rfl,hp2,hk2⟩;go_wp2_with (go_at_call 156;refine(HF.out _ hp2).mono ?_);rintro e w3 ⟨rfl,hp3,eP⟩;have kK:=iH (iH hown hk2) eP;go_wp2;go_ret;exact mV kK hER hp3 ((hks.trans hk2).trans eP) HL.out yg.out
    | succ r =>
     rw[bE,aU (by simp[hf])] at hl;obtain⟨k,h1,hl⟩:=cZ hl;have d8:decide (8<(m:Int))=false:=dX (by omega);have d8':decide (8<m)=false:=dX (by omega)
     have hnk:k.2.aj.length+1<=1099511627776:=by
      split at hl
      ·exact aL ((aQ _ _).trans (nL _ one Io.out _ _ _ _ hl)) HN.out
      ·injection hl with hl;rw[<- hl] at HN;exact HN.out
     have HCK:Hid (k.2.aC=false):=ay (by rw[(Io.out s k h1).2.2.1];exact hsc);have HK:=ay (λw' hp hk=>EM.out R s k w' hsc h1 hp hk hnk);have HL:=ay hl;clear hl h1 hf;go_wp2_with (go_at_call 104;refine(HO.out _ hps).mono ?_);rintro e w2 ⟨rfl,hp2,hk2⟩;go_wp2_with (go_at_call 160;refine(HK.out _ hp2 (hks.trans hk2)).mono ?_);rintro e w3 ⟨rfl,hp3,eP⟩;have QA:PR E R k.2 w3:=hp3;clear hp3;have kK:=iH (iH hown hk2) eP;have yU:PR E R k.2 (w3.alloc (.cells #[.int .i64 k.1] 3)):=PW.later QA (aA w3 _);have hnw:=aX w3 (.cells #[.int .i64 k.1] 3);have uN:Kp E.B w (w3.alloc (.cells #[.int .i64 k.1] 3)):=((hks.trans hk2).trans eP).trans (Kp.of (aA w3 _) QA.fA);have nR:=kK.alloc (.cells #[.int .i64 k.1] 3);have adX:w.heap.size<=w3.heap.size:=((hks.trans hk2).trans eP).size;go_wp2_with (at_builtin;refine wpList_append_lies _ rfl _ _ 46 rfl w.heap.size 3 i0 (.int .i64 0) 1 8 Tryz.underlying46 hi hz0 hz1 hz2 rfl (by decide) _ _ _ rfl nR ⟨w3.heap.size,0,none⟩ 1 1 [.int .i64 k.1] rfl rfl ?c1 ?c2 ?c3 ?c4 ?c5 ?c6 _ rfl ?_)
     case c1=>exact vL (cs:=#[.int .i64 k.1]) (t:=3) (fr:=(0,0)) hnw
     case c2=>simp[Value.oneCell']
     case c3=>omega
     case c4=>unfold maxLen;omega
     case c5=>omega
     case c6=>simp;omega
     intro g cap4 w4 zO yX Ye Yf;obtain⟨R4,hR4,hg4,qO⟩:=yU.append nR hBw hR yX Ye (by simp) Yf;have hk4:=uN.grown nR (bD _) hBw yX
     have uO:w4.ownsRow w.heap.size 3 1 (.slice (some ⟨g,0,none⟩) (aB.length+1) cap4) (aB.length+1) ((aB++[k.1]).map (Value.int .i64)):=by rw[xZ];exact zO
     have KQ:∀ r∈E.R,r∈R4:=λr hr=>hR4 r (hER r hr)
     clear yU hnw uN nR yX Ye Yf kK zO hk2 eP hp2 QA hown hps hks HO HK HX H0 EM adX hR4
     by_cases KC:k.2.fE=0
     ·have Yg:=ay (kr { E with R:=R4 } k.2 KC)
      by_cases hx4:bF E.ah k.2 [[44]]=true
      ·have hl:=HL.out
       rw[bR ⟨KC,hx4⟩] at hl;have HX4:=ay (dY { E with R:=R4 } HE.out ⟨#[44]⟩ k.2 true hx4);have HLF:=ay (λw hp=>bT { E with R:=R4 } k.2 w hp HE.out.1 HE.out.2.1 hnk);have HL2:=ay hl;clear hl HL KC hx4;go_wp2_with (go_at_call 104;refine(Yg.out _ qO).mono ?_);rintro e w5 ⟨rfl,tJ,iN⟩;go_wp2_with (go_at_call 155;refine(HX4.out _ tJ).mono ?_);rintro e w6 ⟨rfl,EU,mR⟩;obtain⟨d0,_,_,_,_,_⟩:=EU.cells;go_wp2_with (go_at_call 157;refine(HLF.out _ EU).mono ?_);rintro e w7 ⟨rfl,Ik,tK⟩;clear d0;have QB:PR E R4 (aF E.ah k.2).2 w7:=Ik;clear Ik;have M9:=iH (iH (iH uO iN) mR) tK;have QC:=((hk4.trans iN).trans mR).trans tK;have yU:PR E R4 (aF E.ah k.2).2 (w7.alloc (.cells #[.int .i64 (aF E.ah k.2).1] 3)):=PW.later QB (aA w7 _);have hnw:=aX w7 (.cells #[.int .i64 (aF E.ah k.2).1] 3);have uN:Kp E.B w (w7.alloc (.cells #[.int .i64 (aF E.ah k.2).1] 3)):=QC.trans (Kp.of (aA w7 _) QB.fA);have nR:=M9.alloc (.cells #[.int .i64 (aF E.ah k.2).1] 3);have afM:w.heap.size<=w7.heap.size:=QC.size
       have hv4:∀ b,(Value.slice (some ⟨g,0,none⟩) (aB.length+1) cap4).ownBlock=some b->b∈R4:=λb hb=>by
        simp only[Value.ownBlock,Option.some.injEq] at hb;subst hb;exact hg4
       go_wp2_with (at_builtin;refine wpList_append_lies _ rfl _ _ 46 rfl w.heap.size 3 i0 (.int .i64 0) 1 8 Tryz.underlying46 hi hz0 hz1 hz2 rfl (by decide) _ _ _ rfl nR ⟨w7.heap.size,0,none⟩ 1 1 [.int .i64 (aF E.ah k.2).1] rfl rfl ?c1 ?c2 ?c3 ?c4 ?c5 ?c6 _ rfl ?_)
       case c1=>exact vL (cs:=#[.int .i64 (aF E.ah k.2).1]) (t:=3) (fr:=(0,0)) hnw
       case c2=>simp[Value.oneCell']
       case c3=>omega
       case c4=>unfold maxLen;omega
       case c5=>omega
       case c6=>simp;omega
       intro g8 QD w8 wE oK EY yY;obtain⟨R8,hR8,hg8,Mc⟩:=yU.append nR hBw hv4 oK EY (by simp) yY;have DI:=uN.grown nR (bD _) hBw oK
       have QE:w8.ownsRow w.heap.size 3 1 (.slice (some ⟨g8,0,none⟩) (aB.length+1+1) QD) (aB++[k.1,(aF E.ah k.2).1]).length ((aB++[k.1,(aF E.ah k.2).1]).map (Value.int .i64)):=by
        rw[xZ,bY];exact wE
       have hv8:∀ b,(Value.slice (some ⟨g8,0,none⟩) (aB.length+1+1) QD).ownBlock=some b->b∈R8:=λb hb=>by
        simp only[Value.ownBlock,Option.some.injEq] at hb;subst hb;exact hg8
       have adY:∀ r∈E.R,r∈R8:=λr hr=>hR8 r (KQ r hr)
       clear yU hnw uN nR oK EY yY M9 wE QC uO hk4 iN mR tK qO tJ EU QB Yg HX4 HLF hR8 hv4 KQ hg4;go_wp2
       go_roundw
       case rel=>exact⟨r,m+1,_,_,R8,by go_num,by omega,by simp;omega,HL2.out,QE,hv8,adY,(λq=>by simp at q),Mc,DI,by rw[(aQ E.ah k.2).2.2.1];exact HCK.out⟩
       case measure=>simp[intOf];omega
      ·have hl:=HL.out
       rw[aU (λq=>hx4 q.2)] at hl
       injection hl with hl
       have HX4:=ay (dY { E with R:=R4 } HE.out ⟨#[44]⟩ k.2 false (eq_false_of_ne_true hx4));have HL2:=ay hl;clear hl HL KC hx4;go_wp2_with (go_at_call 104;refine(Yg.out _ qO).mono ?_);rintro e w5 ⟨rfl,tJ,iN⟩;go_wp2_with (go_at_call 155;refine(HX4.out _ tJ).mono ?_);rintro e w6 ⟨rfl,EU,mR⟩;have hown6:=iH (iH uO iN) mR;go_wp2;go_ret;exact mV hown6 KQ EU ((hk4.trans iN).trans mR) HL2.out (λq=>by simp at q)
     ·have hl:=HL.out
      rw[aU (λq=>KC q.1)] at hl
      injection hl with hl
      have Yg:=ay (vF { E with R:=R4 } k.2 KC);have HL2:=ay hl;clear hl HL KC;go_wp2_with (go_at_call 104;refine(Yg.out _ qO).mono ?_);rintro e w5 ⟨rfl,tJ,iN⟩;have gB:=iH uO iN;go_wp2;go_ret;exact mV gB KQ tJ (hk4.trans iN) HL2.out (λq=>by simp at q)
   ·have HO:=ay (vF { E with R:=R } s hf)
    have hl':(aB,s)=res:=by
     cases r with
     | zero=>rw[bE,aU hf] at hl;injection hl
     | succ r=>rw[bE,bR hf] at hl;injection hl
    have HL:=ay hl';clear hl hl' hf;go_wp2_with (go_at_call 104;refine(HO.out _ hps).mono ?_);rintro e w2 ⟨rfl,hp2,hk2⟩;have hown2:=iH hown hk2;go_wp2;go_ret;exact mV hown2 hER hp2 (hks.trans hk2) HL.out yg.out
