/- Walks and plain laws, without a condition. -/
import Derived.Test.YtmleecdnkmoohaaGreatDoorK22
set_option maxHeartbeats 16000000
set_option maxRecDepth 100000
set_option linter.unusedVariables false
set_option linter.unusedSimpArgs false
namespace Go.Proofs.YtmleecdnkmoohaaGreatDoor
open Go.RowKit Go
variable{c0 c1 v:Value}{b:Nat}{w w':World}{l:List (aH × Nat)}{P:Nat->Prop}{p:PP}
theorem Tryz.Hr:(Tryz.prog.info? 50).map (λi=>(i.zero,i.size,i.bytes))=some (some (.agg #[.string ⟨#[]⟩,.int .i64 0]),2,24):=by kernel_rfl
theorem Tryz.Un:(Tryz.prog.info? 62).map (λi=>(i.zero,i.size,i.bytes))=some (some (.agg #[.bool false,.string ⟨#[]⟩,.slice none 0 0,.int .i64 0,.slice none 0 0,.int .i64 0,.string ⟨#[]⟩,.string ⟨#[]⟩,.bool false,.slice none 0 0,.bool false,.slice none 0 0,.int .i64 0,.int .i64 0,.int .i64 0]),15,208):=by kernel_rfl
theorem Tryz.WZ:∀ args w,(callFunc 69 args).run Tryz.prog w=.ok (.enter 69 args) w:=Go.Proofs.enters_of Tryz.func69 (by kernel_rfl) rfl
theorem bH (h:w.heap[b]?=some (.cells #[c0,c1] 26 (0,0))):w.cell? ⟨b,0,none⟩=some c0/\w.cell? ⟨b,1,none⟩=some c1/\∀ j,w.frozen? ⟨b,j,none⟩=false:=by
 refine⟨?_,?_,λj=>by simp[World.frozen?,h]⟩<;>(rw[aZ h];rfl)
theorem adi {aj:List Nd}{m u:Nat}(h:oH aj m u wK):∃ (k0 k1 k2:Nat),aj[m]?=some ⟨(2:Nat),-1,[(k0:Int),k1,k2]⟩/\aj[k1]?=some ⟨19,((u+1:Nat):Int),[]⟩:=by
 obtain⟨ks,h1,h2⟩:=fD h;obtain⟨k0,ks0,rfl,_,h3⟩:=bX h2;obtain⟨k1,ks1,rfl,h4,h5⟩:=bX h3;obtain⟨k2,ks2,rfl,_,h6⟩:=bX h5;rw[fP] at h6;subst h6;exact⟨k0,k1,k2,h1,h4⟩
theorem afh (B:Nat)(at_:Option Addr)(ct:Nat)(an:Option Addr)(cn:Nat)(S:ByteArray)(ah:List Tok)(aj:List Nd)(p:l6)(w:World)(h:bJ B w (.agg #[.slice at_ ah.length ct,.slice an aj.length cn]) ah aj)(hB:B<=w.heap.size)(F:uj S.data.toList ah aj p) :
  Calls Tryz.prog 30 #[.agg #[.slice at_ ah.length ct,.slice an aj.length cn]] w (Z5 (p.pp ah) w):=by
 obtain⟨ii,hii1,hii2,afi,afj⟩:=info_parts Tryz.Hr;obtain⟨id,afk,afl,afm,afn⟩:=info_parts Tryz.Un;have ent:=Tryz.WZ;have hft:=F.good.VD;have hfn:=F.good.few;obtain⟨r,ks,hr1,hn,hk⟩:=WA F;obtain⟨hlen,hat⟩:=Ub _ _ _ hk;have HAT:=ay hat;have hkl:=p.Zx;rw[<- hlen] at hkl;have HKN:=ay hkl
 have aiU:0<ks.length:=by omega
 clear hkl;have HKL:=ay hlen;have HLV:Hid (bU p.aB=ah.length):=ay F.lv;have E:=aeM F B (.slice at_ ah.length ct) (.slice an aj.length cn);have HA:=ay (λW (hW:Below w.heap.size w W)=>adh B at_ ct an cn S ah aj _ W (h.below (hW.mono hB)) (jq hB hW.size) F.good (by have:=F.small;rw[aY] at this;exact this) F.whole F.deep);have sU:Hid (∀ (d:dV) (u:Nat),d.ok ah u->u+d.pt.lv<=ah.length->∀ (m:Nat) (W:World),oH aj m u d.pt->bJ B W (.agg #[.slice at_ ah.length ct,.slice an aj.length cn]) ah aj->B<=W.heap.size->Calls Tryz.prog 69 #[.agg #[.slice at_ ah.length ct,.slice an aj.length cn],.int .i64 m] W (ZV (d.dd ah u) W)):=ay (λd u ho hl m W hr hT hW=>ZW E d u ho hl m W hr hT hW)
 have AP:Hid (∀ (k u:Nat) (W:World),aj[k]?=some ⟨19,(u:Nat),[]⟩->u<ah.length->bJ B W (.agg #[.slice at_ ah.length ct,.slice an aj.length cn]) ah aj->B<=W.heap.size->Calls Tryz.prog 68 #[.agg #[.slice at_ ah.length ct,.slice an aj.length cn],.int .i64 k] W λe w'=>e=.returned (qw (dx ah u))/\Below W.heap.size W w'):=ay (λk u W hl hu hT hW=>by
  have:=kP B _ _ ah aj k u W hT hW hl hu;have e:=jL hu;rw[AY hu] at e;rw[lG e] at this
  exact this)
 have HOK:=ay F.okk;have aiH:=F.okk.1;have aiI:=F.okk.2.1;have HPI:Hid ((p.pp ah).aD.length=p.imps):=ay (zk _ _ _);have HPD:Hid ((p.pp ah).defs.length=p.defs.length):=ay (zi _ _ _)
 have HIG:Hid (∀ (j:Nat) (hj:j<(p.pp ah).aD.length),(p.pp ah).aD[j]=(aP ah (3 * j+1),dU ah (3 * j+1))):=ay (λj hj=>by
  have:=Gj ah p.imps 0 j hj;rw[Nat.zero_add] at this
  exact this)
 have HDG:Hid (∀ (j:Nat) (h1:j<p.defs.length) (h2:j<(p.pp ah).defs.length),(p.pp ah).defs[j]=p.defs[j].dd ah (3 * p.imps+bU ((p.defs.take j).map dV.pt))):=ay (λj h1 h2=>Gl ah p.defs (3 * p.imps) j h1 h2);generalize p.pp ah=pp at HPI HPD HIG HDG |-;have HT:=ay h;have HN:=ay hn;have HR1:=ay hr1;have hal:=(aA w (.cells #[.slice at_ ah.length ct,.slice an aj.length cn] 93)).alloc (by simp) (.cells #[.slice none 0 0,.slice none 0 0] 26);have e1:=(gZ (w.alloc (.cells #[.slice at_ ah.length ct,.slice an aj.length cn] 93)) (.cells #[.slice none 0 0,.slice none 0 0] 26) w.heap.size (by simp)).trans (aX w (.cells #[.slice at_ ah.length ct,.slice an aj.length cn] 93));have e2:=aX (w.alloc (.cells #[.slice at_ ah.length ct,.slice an aj.length cn] 93)) (.cells #[.slice none 0 0,.slice none 0 0] 26);rw[nG] at e2;obtain⟨c0,c1⟩:=bV e1;clear h F hn hr1 hk hat hlen E;go_enter Tryz.func30,Tryz.ntmps30
 go_upto_region 3 with (go_at_call 66;refine(HA.out _ hal).mono ?_;rintro e w3 ⟨rfl,hb3⟩)
 have E1:=(hb3.block w.heap.size (by simp;omega)).trans e1;have E2:=(hb3.block (w.heap.size+1) (by simp)).trans e2;have hb4:=hal.trans (hb3.mono (by simp;omega));have BJ:=hb4.size;have hl2:=(bP E2).1;obtain⟨c0,c1⟩:=bV E1;clear hb3 e1 e2 hal HA
 go_upto_region 5 with fail
 have hb5:=(hb4.alloc BJ (.cells #[.slice at_ ah.length ct,.slice an aj.length cn] 154)).alloc (by simp;omega) (.cells #[.slice none 0 0,.slice none 0 0] 26);have G1:=(gZ (w3.alloc (.cells #[.slice at_ ah.length ct,.slice an aj.length cn] 154)) (.cells #[.slice none 0 0,.slice none 0 0] 26) w.heap.size (by simp;omega)).trans ((gZ w3 (.cells #[.slice at_ ah.length ct,.slice an aj.length cn] 154) w.heap.size (by omega)).trans E1);have G2:=(gZ (w3.alloc (.cells #[.slice at_ ah.length ct,.slice an aj.length cn] 154)) (.cells #[.slice none 0 0,.slice none 0 0] 26) (w.heap.size+1) (by simp;omega)).trans ((gZ w3 (.cells #[.slice at_ ah.length ct,.slice an aj.length cn] 154) (w.heap.size+1) hl2).trans E2);have G3:=(gZ (w3.alloc (.cells #[.slice at_ ah.length ct,.slice an aj.length cn] 154)) (.cells #[.slice none 0 0,.slice none 0 0] 26) w3.heap.size (by simp)).trans (aX w3 (.cells #[.slice at_ ah.length ct,.slice an aj.length cn] 154));have G4:=aX (w3.alloc (.cells #[.slice at_ ah.length ct,.slice an aj.length cn] 154)) (.cells #[.slice none 0 0,.slice none 0 0] 26);rw[nG] at G4;clear hb4 E1 E2 c0 c1;have hqb:w.heap.size+1<w3.heap.size:=hl2;generalize hw4:(w3.alloc _).alloc _=w4 at hb5 G1 G2 G3 G4 |-
 have hs4:w4.heap.size=w3.heap.size+1+1:=by rw[<- hw4];simp
 clear hw4;generalize w3.heap.size=qb at hqb hs4 G3 G4 |-;have Tk:=hb5.size;obtain⟨hi,hni⟩:=pE HN.out;obtain⟨b,off,cap,kv,hnv,hbB,x0,x1,x2,hkv⟩:=HT.out.node hi;simp only[Value.slice.injEq] at hnv;obtain⟨rfl,-,rfl⟩:=hnv;rw[hni] at hkv;obtain⟨ak,ck,rfl,_,yE⟩:=hkv.form;simp only at x2 yE;obtain⟨bk,ok,rfl,hbk,hkc⟩:=yE (by omega);have Xh:=ay hkc;obtain⟨c0,c1⟩:=bV G1;have x2:=jo hb5 x2;have hr1:=HR1.out;have HNI:Hid (((aj.length:Int) - 1)=(r:Int)):=ay (by omega)
 have hrI:(r:Int)<(aj.length:Int):=by omega
 clear hr1 x0 x1 hkc yE hkv hni
 go_cut [21,22,23] (λv1 v2 v3 wc=>v1=.slice (some ⟨bk,ok,none⟩) ks.length ck/\v2=.int .i64 ks.length/\v3=.int .i64 0/\Below w4.heap.size w4 wc)
 case first =>
  go_region_held3 (λw'=>w'.cell? ⟨w.heap.size,0,none⟩=some (.slice at_ ah.length ct)/\w'.cell? ⟨w.heap.size,1,none⟩=some (.slice (some ⟨b,off,none⟩) aj.length cn)/\w'.cell? ⟨b,off+r * 3+2,none⟩=some (.slice (some ⟨bk,ok,none⟩) ks.length ck))
   (first|(with_reducible exact p3)|(go_keep;done))
   ((go_at_call 67;refine(uo at_ ah.length ct (some ⟨b,off,none⟩) aj.length cn _ (by omega)).mono ?_;rintro e w5 ⟨rfl,hb6⟩;rw[HNI.out];have xI:Below w4.heap.size w4 w5:=(bQ w4.heap.size w4).drew.trans hb6;have p3:=gy (jo xI c0) (gy (jo xI c1) (jo xI x2))))
  go_wp2_with fail
  go_meet
  exact⟨rfl,rfl,rfl,xI⟩
 case rest =>
  obtain⟨rfl,rfl,rfl,hbc⟩:=hcut
  obtain⟨wl,rfl⟩:∃ wl:World,wl=wc:=⟨_,rfl⟩
  have hzl:=hbc.size;have H1:=(hbc.block w.heap.size (by omega)).trans G1;have H2:=(hbc.block (w.heap.size+1) (by omega)).trans G2;have H3:=(hbc.block qb (by omega)).trans G3;have H4:=(hbc.block (qb+1) (by omega)).trans G4;have afo:=hb5.trans (hbc.mono Tk)
  have hqw:w.heap.size<=qb+1:=by omega
  clear c0 c1 x2 hb5 hbc G1 G2 G3 G4;go_wp2
  go_loopw [23] (λq wr=>∃ (j:Nat) (ai:Option Addr) (ni ci:Nat) (ad:Option Addr) (nd cd:Nat),j<=ks.length/\q=.int .i64 j/\aW (λb=>b<wl.heap.size/\b≠qb+1) wl wr/\wr.heap[qb+1]?=some (.cells #[.slice ai ni ci,.slice ad nd cd] 26 (0,0))/\aeO IA DA pp wl (qb+1) 50 62 j wr (.slice ai ni ci) (.slice ad nd cd)/\Below w.heap.size w wr) (λq _=>ks.length - (intOf q).toNat)
  case atStart=>exact⟨0,none,0,0,none,0,0,kJ _,rfl,aW.refl _ _,H4,.inl ⟨kJ _,by rw[List.take_zero];exact og.nil _ _ _ _,rfl⟩,afo⟩
  case round =>
   obtain⟨j,ai,ni,ci,ad,nd,cd,hj,rfl,dD,hpb,hst,hbl⟩:=hrel;have aeK:=dD.1;have R1:=(dD.2 w.heap.size ⟨by omega,by omega⟩ (by omega)).trans H1;have R3:=(dD.2 qb ⟨by omega,by omega⟩ (by omega)).trans H3
   by_cases hjl:j<ks.length
   ·have hjp:j<p.aB.length:=by have:=HKL.out;omega
    have hrep:=HAT.out j hjl hjp;have hlv:=OG p.aB j hjp;rw[HLV.out] at hlv;rw[Nat.zero_add] at hrep;have hx:=(hbl.cell (p:=⟨bk,ok+j,none⟩) (by show bk<_;omega)).trans (Xh.out j hjl);generalize ks[j]=qk at hx hrep
    have Ij:(j:Int)<(ks.length:Int):=by omega
    obtain⟨c0,c1⟩:=bV R1;obtain⟨r0,r1⟩:=lY R3;obtain⟨d0,d1,dz⟩:=bH hpb;have ahf:=(bP hpb).1;clear H1 H2 H3 H4
    rcases Nat.lt_or_ge j p.imps with hji|hji
    ·
     obtain⟨adj,hkj,hlj⟩:=p.acO j hji;rw[hkj] at hrep hlv;rw[hlj] at hrep hlv
     obtain⟨m,rfl⟩:∃ m:Nat,qk=(m:Int):=⟨qk.toNat,by have:=Cg hrep;omega⟩
     obtain⟨k0,k1,k2,hnm,hl1⟩:=adi hrep;obtain⟨hm,hnm'⟩:=pE hnm;obtain⟨b',off',jw,kv',e',_,y0,_,y2,hky⟩:=HT.out.node hm
     obtain⟨⟨rfl,rfl⟩,rfl⟩:(b=b'/\off=off')/\cn=jw:=by simpa using e'
     rw[hnm'] at y0 hky;obtain⟨ak2,ck2,rfl,_,afp⟩:=hky.form;simp only at y0 y2 afp;obtain⟨b2,o2,rfl,hb2,ahg⟩:=afp (by simp);have z1:=(hbl.cell (p:=⟨b2,o2+1,none⟩) (by show b2<_;omega)).trans (ahg 1 (by simp));have y0':=(hbl.cell (p:=⟨b,off+m * 3,none⟩) (by show b<_;omega)).trans y0;have y2':=(hbl.cell (p:=⟨b,off+m * 3+2,none⟩) (by show b<_;omega)).trans y2;simp only[H9,List.getElem_cons_zero,fu,jC,Nat.zero_add] at z1 y2'
     have hmI:(m:Int)<(aj.length:Int):=by omega
     have hut:3 * j+1<ah.length:=by simp only[wK,PT.lv,bU] at hlv;omega
     have hK:=λW (hb:Below wr.heap.size wr W)=>(AP.out k1 (3 * j+1) W hl1 hut (HT.out.below ((hbl.trans (hb.mono hbl.size)).mono hB)) (by have:=hbl.size;have:=hb.size;omega)).mono (R':=λe w'=>e=.returned (qw (dx ah (3 * j+1)))/\Below wr.heap.size wr w'/\Below W.heap.size W w') λe w' h=>⟨h.1,hb.trans (h.2.mono hb.size),h.2⟩
     have ahh:j<pp.aD.length:=by have:=HPI.out;omega
     have hg:=HIG.out j ahh;have hsn:pp.aD.take (j+1)=pp.aD.take j++[pp.aD[j]]:=zF ahh;rw[hg] at hsn;unfold aP dU at hsn;unfold qw fC at hK;generalize dx ah (3 * j+1)=t at hK hsn;obtain⟨tk,tl,tt,tp⟩:=t;simp only at hK hsn;have HK:=ay hK;have rO:=ay hsn
     obtain⟨_,hown0,hdn⟩:j<=pp.aD.length/\og IA wl.heap.size 50 wr (.slice ai ni ci) (pp.aD.take j)/\Value.slice ad nd cd=.slice none 0 0:=by
      rcases hst with hst|⟨hst,_⟩
      ·exact hst
      ·omega
     simp only[Value.slice.injEq] at hdn;obtain⟨rfl,rfl,rfl⟩:=hdn;clear hK hsn hg e' y0 y2 hky afp ahg hnm hnm' hl1 hst hlv hlj hkj hrep
     go_upto_region 10 with fail
     go_cut [8] (λv wc=>∃ Y:Nat,v=.pointer (some ⟨Y,0,none⟩)/\wc.heap[Y]?=some (.cells #[.int .i64 tk,.string ⟨tl.toArray⟩,.string ⟨tt.toArray⟩,.int .i64 tp] 159 (0,0))/\Below wr.heap.size wr wc)
     case first =>
      have hne0:qb≠wr.heap.size:=by omega
      have hne1:w.heap.size≠wr.heap.size:=by omega
      have hne2:b≠wr.heap.size:=by omega
      have Oz:b2≠wr.heap.size:=by omega
      go_region_held3 (λw'=>w'.cell? ⟨qb,0,none⟩=some (.slice at_ ah.length ct)/\w'.cell? ⟨qb,1,none⟩=some (.slice (some ⟨b,off,none⟩) aj.length cn)/\w'.cell? ⟨w.heap.size,1,none⟩=some (.slice (some ⟨b,off,none⟩) aj.length cn)/\w'.cell? ⟨b,off+m * 3+2,none⟩=some (.slice (some ⟨b2,o2,none⟩) 3 ck2)/\w'.cell? ⟨b2,o2+1,none⟩=some (.int .i64 k1))
       (first|(with_reducible exact p3)|((try dsimp only);with_reducible exact gy ((bW w3 wr.heap.size _ _ _ _ hne0).trans p3.1) (gy ((bW w3 wr.heap.size _ _ _ _ hne0).trans p3.2.1) (gy ((bW w3 wr.heap.size _ _ _ _ hne1).trans p3.2.2.1) (gy ((bW w3 wr.heap.size _ _ _ _ hne2).trans p3.2.2.2.1) ((bW w3 wr.heap.size _ _ _ _ Oz).trans p3.2.2.2.2)))))|(go_keep;done))
       (first|(go_at_call 68;refine(HK.out _ ?_).mono ?_;(first|exact(bQ _ _).drew|exact((bQ _ _).alloc (bD _) _).drew);rintro e w3 ⟨rfl,hq3,hb3⟩;have p3:=gy (jo hq3 r0) (gy (jo hq3 r1) (gy (jo hq3 c1) (gy (jo hq3 y2') (jo hq3 z1))));try (have Gs:=(hb3.block wr.heap.size (by simp)).trans (aX wr (.cells #[.int .i64 0,.string ⟨#[]⟩,.string ⟨#[]⟩,.int .i64 0] 159));obtain⟨ZG,ZH,ZI,ZJ,ZL⟩:=o9 Gs)))
      ·clear r0 r1 c1 y2' z1 p3
       go_wp2_with fail
       go_meet
       exact⟨w3.heap.size,rfl,aX _ _,hq3.alloc hq3.size _⟩
      ·obtain⟨S3,So,_⟩:=za Gs (.int .i64 tk) (.string ⟨tl.toArray⟩) (.string ⟨tt.toArray⟩) (.int .i64 tp)
       clear r0 r1 c1 y2' z1 p3 ZG ZH ZI ZJ ZL;go_wp2_with fail
       go_meet
       exact⟨wr.heap.size,rfl,S3,(((hq3.setCell (bD _) _).setCell (bD _) _).setCell (bD _) _).setCell (bD _) _⟩
     case rest =>
      obtain⟨Y,rfl,hY,hbc⟩:=hcut
      obtain⟨wt,rfl⟩:∃ wt:World,wt=wc:=⟨_,rfl⟩
      have LA:=(hbc.block (qb+1) ahf).trans hpb;obtain⟨d0,d1,dz⟩:=bH LA;obtain⟨f2,f3⟩:=uV hY
      have Po:(pp.aD.take j).length=j:=by rw[pK];omega
      obtain⟨_,_,hsl⟩:=hown0.slice;rw[Po] at hsl
      obtain⟨-,rfl,-⟩:_/\ni=j/\_:=by simpa using hsl
      obtain⟨Ck,h1,hown,hes⟩:=hown0;rw[Po] at hown;have hzt:=hbc.size;have HNJ:=ay Po
      have Z4:some (qb+1)≠(Value.slice ai ni ci).ownBlock:=λq=>by have:=(hown.lt _ q.symm).1;omega
      clear Po hsl HK hY;go_wp2_with (at_builtin;refine wpList_append_lies _ rfl _ _ 23 rfl wl.heap.size 50 ii _ 2 24 Tryz.underlying23 hii1 hii2 afi afj rfl (by decide) _ ni _ rfl ((own_below hown hbc).alloc _) ⟨wt.heap.size,0,none⟩ 1 1 [.string ⟨tt.toArray⟩,.int .i64 tp] rfl rfl ?c1 ?c2 ?c3 ?c4 ?c5 ?c6 (wt.heap.size+1) (by simp) ?_)
      case c2=>simp[Value.oneCell']
      case c4=>unfold maxLen;omega
      case c5=>omega
      case c6=>first|omega|(simp;omega)
      intro gg jO w5 gB fB uL KG;have vR:=(fB.block (qb+1) (by simp;omega) Z4).trans ((gZ wt _ (qb+1) (by omega)).trans LA);obtain⟨d0',d1',dz'⟩:=bH vR;obtain⟨q1,q2,q3⟩:=qL.round (K:=IA) (Q:=λb=>wl.heap.size<=b) (wr:=wr) (kv:=.slice ai ni ci) (Tp:=.slice (some ⟨gg,0,none⟩) (ni+1) jO) (acc:=pp.aD.take ni) (a:=(tt,tp)) (x:=()) (l:=Ck) dD (show qb+1<wl.heap.size by omega) (by omega) h1 (by rw[HNJ.out];exact hown) hes trivial hbc (by rw[HNJ.out];exact gB) fB rfl uL 0 (.slice (some ⟨gg,0,none⟩) (ni+1) jO);have Fq:(w5.setCell ⟨qb+1,0,none⟩ (.slice (some ⟨gg,0,none⟩) (ni+1) jO)).heap[qb+1]?=some (.cells #[.slice (some ⟨gg,0,none⟩) (ni+1) jO,.slice none 0 0] 26 (0,0)):=jN w5 (qb+1) 0 _ _ _ vR;have Fu:=q3 w.heap.size w hqw hbl;clear fB gB uL vR LA hes hown dD hpb d0 d1 dz f2 f3 hx y0' r0 r1 c0 c1 z1 y2' R1 R3 hbl h1 hbc;go_wp2;clear d0' d1' dz';generalize w5.setCell _ _=w6' at q1 q2 Fq Fu |-
      go_roundw
      case rel =>
       refine⟨ni+1,some ⟨gg,0,none⟩,ni+1,jO,none,0,0,by omega,by go_num,q2,Fq,.inl ⟨by omega,?_,rfl⟩,Fu⟩;rw[rO.out];exact q1
      case measure=>simp[intOf];omega
    ·obtain⟨jd,rfl⟩:∃ jd,j=p.imps+jd:=⟨j - p.imps,by omega⟩
     obtain⟨hnil,w2,hw2,ha2,WU,Py,hdo⟩:=hst.two (by have:=HPI.out;omega) dD
     have hsub:p.imps+jd - pp.aD.length=jd:=by have:=HPI.out;omega
     rw[hsub] at hdo;have yg:=ay hnil;have HRI:=ay WU;have HA2:=ay ha2
     rcases Nat.lt_or_ge jd p.defs.length with hjd|hjd
     ·
      obtain⟨adj,hkj,hlj⟩:=p.acP jd hjd;rw[hkj] at hrep hlv;rw[hlj] at hrep hlv
      obtain⟨m,rfl⟩:∃ m:Nat,qk=(m:Int):=⟨qk.toNat,by have:=Cg hrep;omega⟩
      have hok:=Gm p.defs (3 * p.imps) jd hjd HOK.out.2.2.2
      have ahi:jd<pp.defs.length:=by have:=HPD.out;omega
      have hg:=HDG.out jd hjd ahi;have hC:=sU.out p.defs[jd] _ hok hlv m wr.drew hrep (HT.out.below (hbl.mono hB).drew) (jq hB hbl.size);rw[<- hg] at hC;have hsn:pp.defs.take (jd+1)=pp.defs.take jd++[pp.defs[jd]]:=zF ahi;have adI:oH aj m (3 * p.imps+bU (List.map dV.pt (List.take jd p.defs))) (.node 3 p.defs[jd].aB):=hrep;obtain⟨ks2,hnm,_⟩:=fD adI;obtain⟨hm,hnm'⟩:=pE hnm;obtain⟨b',off',jw,kv',e',_,y0,_,_,_⟩:=HT.out.node hm
      obtain⟨⟨rfl,rfl⟩,rfl⟩:(b=b'/\off=off')/\cn=jw:=by simpa using e'
      rw[hnm'] at y0;simp only at y0;have y0':=(hbl.cell (p:=⟨b,off+m * 3,none⟩) (by show b<_;omega)).trans y0
      have hmI:(m:Int)<(aj.length:Int):=by omega
      generalize pp.defs[jd]=d at hC hsn;have HC:=ay hC;have rO:=ay hsn
      have Po:(pp.defs.take jd).length=jd:=by rw[pK];omega
      obtain⟨_,_,hsl⟩:=hdo.slice;rw[Po] at hsl
      obtain⟨-,rfl,-⟩:_/\nd=jd/\_:=by simpa using hsl
      obtain⟨Ck,h1,hown,hes⟩:=hdo;rw[Po] at hown;have HNJ:=ay Po
      have hlts:∀ b,some b=(Value.slice ad nd cd).ownBlock->w2.heap.size<=b/\b<wr.heap.size:=λb q=>hown.lt b q.symm
      have Z4:some (qb+1)≠(Value.slice ad nd cd).ownBlock:=λq=>by have:=(hlts _ q).1;omega
      have HL:=ay hlts
      have hX2:qb+1<w2.heap.size:=by omega
      have hsz2:=Py.1;clear hnil WU ha2 hst hC hsn hg hok Po hsl hlts y0 e' hnm hnm' hrep adI hkj hlj hlv adj hsub;go_wp2
      go_region_law ((first
       | (refine step_append_lies _ (by rfl) _ _ _ (by rfl) w2.heap.size 62 id _ 15 208 Tryz.underlying24 afk afl afm afn rfl (by omega) (.slice ad nd cd) nd _ (by rfl) ((own_below (sW hown) hb2).alloc _) ⟨W2.heap.size,0,none⟩ 1 1 [.bool d.pub,.string ⟨d.res.name.toArray⟩,.slice ap d.params.length cp,.int .i64 d.res.base,.slice ac d.res.aC.length cc,.int .i64 d.body.op,.string ⟨d.body.name.toArray⟩,.string ⟨d.body.module.toArray⟩,.bool (decide (d.body.num<0)),.slice am wn cm,.bool d.body.yes,.slice ae d.body.aB.length ce,.int .i64 d.body.at_,.int .i64 d.res.at_,.int .i64 d.res.bare] (by rfl) (by rfl) (vL (cs:=#[.bool d.pub,.string ⟨d.res.name.toArray⟩,.slice ap d.params.length cp,.int .i64 d.res.base,.slice ac d.res.aC.length cc,.int .i64 d.body.op,.string ⟨d.body.name.toArray⟩,.string ⟨d.body.module.toArray⟩,.bool (decide (d.body.num<0)),.slice am wn cm,.bool d.body.yes,.slice ae d.body.aB.length ce,.int .i64 d.body.at_,.int .i64 d.res.at_,.int .i64 d.res.bare]) (t:=62) (fr:=(0,0)) (aX W2 _)) (by simp[Value.oneCell']) (by omega) (by unfold maxLen;omega) (by omega) (by have:=hb2.size;simp at this |-;omega) (W2.heap.size+1) (by simp) ?_;intro gg jO w5 gB fB uL KG;have vR:=(fB.block (qb+1) (by have:=hb2.size;simp at this |-;omega) Z4).trans ((gZ W2 _ (qb+1) (by have:=hb2.size;simp at this;omega)).trans Fp);have r65:=(bH vR).2.1;have z65:=(bH vR).2.2 1)
       | (refine tL rfl 69 _ _ rfl HC.out (by rfl) (ent _ _) ?_;rintro e W2 ⟨ap,cp,ac,cc,am,wn,cm,ae,ce,rfl,hxe,hb2⟩;refine⟨_,rfl,?_⟩;have Fp:=(hb2.block (qb+1) ahf).trans hpb;have r62:=(bH Fp).2.1;have r63:=λo=>Lib.cell?_alloc_some o r62)))
      all_goals
       obtain⟨q1,q2,q3⟩:=qL.round (K:=DA) (Q:=λb=>w2.heap.size<=b) (wr:=wr.drew) (kv:=.slice ad nd cd) (Tp:=.slice (some ⟨gg,0,none⟩) (nd+1) jO) (acc:=pp.defs.take nd) (a:=d) (x:=⟨.slice ap d.params.length cp,.slice ac d.res.aC.length cc,.slice am wn cm,.slice ae d.body.aB.length ce⟩) (l:=Ck) (show aW _ w2 wr.drew from Py) hX2 (by omega) h1 (by rw[HNJ.out];exact hown) (λp hp=>DA.frame (hes p hp) (aW.drew _ wr)) (DA.imp (P:=λb=>wr.drew.heap.size<=b) hxe λb hb _=>⟨jq hsz2 hb,λq=>by have:=(HL.out b q).2;have:wr.drew.heap.size=wr.heap.size:=rfl;omega⟩) hb2 (by rw[HNJ.out];exact gB) fB rfl uL 1 (.slice (some ⟨gg,0,none⟩) (nd+1) jO);have Fq:(w5.setCell ⟨qb+1,1,none⟩ (.slice (some ⟨gg,0,none⟩) (nd+1) jO)).heap[qb+1]?=some (.cells #[.slice ai ni ci,.slice (some ⟨gg,0,none⟩) (nd+1) jO] 26 (0,0)):=jN w5 (qb+1) 1 _ _ _ vR;have Fu:=q3 w.heap.size w hqw hbl.drew;clear fB gB uL vR r65 z65 Fp r62 r63 hxe hb2 HC hes hown dD hpb d0 d1 dz hx y0' r0 r1 c0 c1 R1 R3 hbl h1 Py;generalize w5.setCell _ _=w6' at q1 q2 Fq Fu |-;go_wp2
       go_roundw
       case rel =>
        refine⟨p.imps+nd+1,ai,ni,ci,some ⟨gg,0,none⟩,nd+1,jO,by omega,by go_num,?_,Fq,.inr ⟨by have:=HPI.out;omega,yg.out,w2,hw2,HA2.out,HRI.out,q2,?_⟩,Fu⟩
        ·exact HA2.out.trans ⟨q2.1,λb hb hl=>q2.2 b ⟨by omega,hb.2⟩ hl⟩
        ·rw[show p.imps+nd+1 - pp.aD.length=nd+1 by have:=HPI.out;omega,rO.out]
         exact q1
       case measure=>simp[intOf];omega
     ·obtain⟨adj,hkj⟩:=p.acQ
      obtain rfl:jd=p.defs.length:=by have:=HKN.out;omega
      rw[hkj] at hrep;obtain⟨m,rfl,hnm⟩:=oH.Qu hrep;obtain⟨hm,hnm'⟩:=pE hnm;obtain⟨b',off',jw,kv',e',_,y0,_,_,_⟩:=HT.out.node hm
      obtain⟨⟨rfl,rfl⟩,rfl⟩:(b=b'/\off=off')/\cn=jw:=by simpa using e'
      rw[hnm'] at y0;simp only at y0;have y0':=(hbl.cell (p:=⟨b,off+m * 3,none⟩) (by show b<_;omega)).trans y0
      have hmI:(m:Int)<(aj.length:Int):=by omega
      clear hnil WU ha2 hst y0 e' hnm hnm' hrep hkj hlv adj hsub;go_wp2
      go_roundw
      case rel =>
       refine⟨p.imps+p.defs.length+1,ai,ni,ci,ad,nd,cd,by omega,by go_num,dD,hpb,.inr ⟨by have:=HPI.out;omega,yg.out,w2,hw2,HA2.out,HRI.out,Py,?_⟩,hbl⟩;rw[show p.imps+p.defs.length+1 - pp.aD.length=pp.defs.length+1 by have:=HPI.out;have:=HPD.out;omega,Ba (by omega)];rw[<- HPD.out,zG] at hdo;exact hdo
      case measure=>simp[intOf];omega
   ·
    obtain rfl:j=ks.length:=by omega
    have Ij:decide ((ks.length:Int)<(ks.length:Int))=false:=dX (by omega);obtain⟨hnil,w2,hw2,ha2,WU,Py,hdo⟩:=hst.two (by have:=HPI.out;have:=HKN.out;omega) dD;rw[Ba (by have:=HPI.out;have:=HPD.out;have:=HKN.out;omega)] at hdo;have hR2:=(dD.2 (w.heap.size+1) ⟨by omega,by omega⟩ (by omega)).trans H2
    have hrw:RowK IA (λb=>wl.heap.size<=b) wr (.slice ai ni ci) pp.aD:=((WU.imp (Q:=λb=>wl.heap.size<=b/\b<w2.heap.size/\b≠qb+1) λb hb hl=>⟨hb,hl,by omega⟩).frame ⟨Py.1,λb hb hl=>Py.2 b hb.2 hl⟩).imp λb hb _=>hb.1
    have hrd:RowK DA (λb=>wl.heap.size<=b) wr (.slice ad nd cd) pp.defs:=hdo.row.imp λb hb _=>by omega
    have hod:og DA wl.heap.size 62 wr (.slice ad nd cd) pp.defs:=hdo.base hw2;obtain⟨_,_,hs1⟩:=hrw.slice;obtain⟨_,_,hs2⟩:=hrd.slice
    obtain⟨-,rfl,-⟩:_/\ni=pp.aD.length/\_:=by simpa using hs1
    obtain⟨-,rfl,-⟩:_/\nd=pp.defs.length/\_:=by simpa using hs2
    obtain⟨d0,d1,dz⟩:=bH hpb;obtain⟨e0,e1,ez⟩:=bH hR2;clear hst WU hdo hs1 hs2 H1 H2 H3 H4 R1 R3 Py ha2 hw2 dD hpb hR2;go_wp2;refine nI (v:=.tuple #[.agg #[.slice ai pp.aD.length ci,.slice ad pp.defs.length cd],.int .i64 0]) (by simp[results,Tryz.results30,go_sem,e0,e1]) rfl ⟨ai,ci,ad,cd,rfl,λq=>hnil _ _ (by rw[q]),⟨?_,?_⟩,?_,?_⟩
    ·exact(hrw.frame ((aW.set _ λb hb=>by show b≠w.heap.size+1;omega).trans (aW.set _ λb hb=>by show b≠w.heap.size+1;omega))).imp λb hb _=>by omega
    ·exact(hrd.frame ((aW.set _ λb hb=>by show b≠w.heap.size+1;omega).trans (aW.set _ λb hb=>by show b≠w.heap.size+1;omega))).imp λb hb _=>by omega
    ·exact(hbl.setCell (by simp) _).setCell (by simp) _
    ·exact((hod.set (by show w.heap.size+1<_;omega) _).set (by show w.heap.size+1<_;omega) _).base (by omega)
def Uo:List Tok:=[⟨5,[],[],0⟩]
def L9:List Nd:=[⟨19,0,[]⟩,⟨1,-1,[0]⟩]
theorem abN:ji [] 200=.good Uo L9:=by rfl
theorem afq (w:World) :
  Calls Tryz.prog 66 #[.agg #[.slice none 0 0,.slice none 0 0],.func (.func 29) #[] #[]] w λe w'=>e=.returned (.bool false)/\Below w.heap.size w w':=by
 have Kn:=ay (λ(W:World)=>adg (-1) W)
 have Px:Hid (∀ W:World,Calls Tryz.prog 112 #[.agg #[.slice none 0 0,.slice none 0 0]] W λe w'=>e=.returned (.string ⟨#[]⟩)/\Below W.heap.size W w'):=ay λW =>
  Pw 0 (.slice none 0 0) (.slice none 0 0) [] W (by simp) (by decide) (abL _ _ _) (kJ _)
 have AX:=ay (λW=>xY ⟨#[]⟩ 200 W (by omega) (by omega) (by decide));have hal:=aA w (.cells #[.slice none 0 0,.slice none 0 0] 93);have e1:=aX w (.cells #[.slice none 0 0,.slice none 0 0] 93);rw[show ji (ByteArray.mk #[]).data.toList 200=.good Uo L9 from abN] at AX
 obtain⟨D,G⟩:∃ D,FX Uo L9 D:=by
  obtain⟨p,G⟩:=JY (by omega) abN;exact⟨_,G.good⟩
 have hft:=G.VD;have hfn:=G.few;obtain⟨XD,hXD,eX⟩:=jD D;generalize Uo=ah at AX G hft;generalize L9=aj at AX G hfn
 have afr:Hid (∀ (B:Nat) (at_:Option Addr) (ct:Nat) (an:Option Addr) (cn:Nat) (W:World),bJ B W (.agg #[.slice at_ ah.length ct,.slice an aj.length cn]) ah aj->B<=W.heap.size->Calls Tryz.prog 111 #[.agg #[.slice at_ ah.length ct,.slice an aj.length cn],.int .i64 ((aj.length:Int) - 1)] W λe w'=>e=.returned (.tuple #[.string XD,.int .i64 0])/\Below W.heap.size W w') :=
  ay λB at_ ct an cn W hT hBW=>(Pv G B _ _ W hT.x hBW).mono λe w' h=>⟨by rw[h.1,eX],h.2⟩
 clear G hXD eX;go_enter Tryz.func66,Tryz.ntmps66
 go_upto_region 1 with fail
 generalize w.alloc _=w1 at hal e1 |-;obtain⟨c0,c1⟩:=bV e1;have hl1:=(bP e1).1
 go_cut [5,6] (λa e wx=>a=.string ⟨#[]⟩/\e=.int .i64 10/\wx.heap[w.heap.size]?=some (.cells #[.slice none 0 0,.slice none 0 0] 93 (0,0))/\Below w.heap.size w wx)
 case first =>
  go_region_with (first|(go_at_call 67;refine(uo none 0 0 none 0 0 _ (by omega)).mono ?_;rintro e w5 ⟨rfl,hb5⟩;have d0:=(hb5.cell (p:=⟨w.heap.size,0,none⟩) hl1).trans c0;have d1:=(hb5.cell (p:=⟨w.heap.size,1,none⟩) hl1).trans c1)|(go_at_call 111;refine(Kn.out _).mono ?_;rintro e w6 ⟨rfl,hb6⟩))
  all_goals
   have oU:=hal.drew.trans (hb5.mono hal.size);have T6:=(hb6.block w.heap.size (xw hl1 hb5.size)).trans ((hb5.block w.heap.size hl1).trans e1);go_wp2_with fail
   go_meet
   exact⟨rfl,rfl,T6,oU.trans (hb6.mono oU.size)⟩
 case rest =>
  obtain⟨rfl,rfl,hT,hbc⟩:=hcut;clear hal e1 c0 c1 hl1 w1
  obtain⟨wo,rfl⟩:∃ wo:World,wo=wc:=⟨_,rfl⟩
  obtain⟨c0,c1⟩:=bV hT
  go_upto_region 3 with (first|(go_at_call 112;refine(Px.out _).mono ?_;rintro e w7 ⟨rfl,Ad⟩)|(go_at_call 29;refine(AX.out _).mono ?_;rintro e w8 ⟨nE,a8,c8,b8,d8,rfl,ht8⟩))
  have SS:=(hbc.trans (Ad.mono hbc.size))
  have L8:=SS.trans (nE.mono SS.size);have vT:=(aA w8 (.cells #[.slice a8 ah.length c8,.slice b8 aj.length d8] 93)).alloc (by simp) (.cells #[.int .i64 0,.int .i64 0] 31);have Xw:=(gZ (w8.alloc (.cells #[.slice a8 ah.length c8,.slice b8 aj.length d8] 93)) (.cells #[.int .i64 0,.int .i64 0] 31) w8.heap.size (by simp)).trans (aX w8 (.cells #[.slice a8 ah.length c8,.slice b8 aj.length d8] 93));have hU:=ay (ht8.at.below vT);have DN:=L8.trans (vT.mono L8.size);have hz9:=vT.size;clear Ad nE vT ht8 SS hT hbc c0 c1 Px AX Kn;generalize w8.heap.size=ub at Xw hU hz9 L8 |-;generalize (w8.alloc _).alloc _=w9 at Xw hU DN hz9 |-;obtain⟨c0,c1⟩:=bV Xw;have hl9:=(bP Xw).1
  go_cut [9,10] (λa e wx=>Below w.heap.size w wx)
  case first =>
   go_region_with (first|(go_at_call 67;refine(uo a8 ah.length c8 b8 aj.length d8 _ (by omega)).mono ?_;rintro e w5 ⟨rfl,hb5⟩;have d0:=(hb5.cell (p:=⟨ub,0,none⟩) hl9).trans c0;have d1:=(hb5.cell (p:=⟨ub,1,none⟩) hl9).trans c1)|(go_at_call 111;refine(afr.out ub a8 c8 b8 d8 _ (hU.out.below (((bQ w9.heap.size w9).drew.trans hb5).mono hz9)) (jq hz9 hb5.size)).mono ?_;rintro e w6 ⟨rfl,hb6⟩))
   all_goals
    have oU:=(bQ w9.heap.size w9).drew.trans hb5;go_wp2_with fail
    go_meet
    exact DN.trans ((oU.trans (hb6.mono oU.size)).mono DN.size)
  case rest =>
   clear c0 c1 hl9 Xw DN L8;go_wp2;go_ret;exact⟨rfl,hcut⟩
theorem W9 (w:World) :
  Calls Tryz.prog 30 #[.agg #[.slice none 0 0,.slice none 0 0]] w λe w'=>e=.returned (.tuple #[.agg #[.slice none 0 0,.slice none 0 0],.int .i64 10])/\Below w.heap.size w w':=by
 have HA:=ay (λW=>afq W);have hal:=(aA w (.cells #[.slice none 0 0,.slice none 0 0] 93)).alloc (by simp) (.cells #[.slice none 0 0,.slice none 0 0] 26);have e1:=(gZ (w.alloc (.cells #[.slice none 0 0,.slice none 0 0] 93)) (.cells #[.slice none 0 0,.slice none 0 0] 26) w.heap.size (by simp)).trans (aX w (.cells #[.slice none 0 0,.slice none 0 0] 93));have e2:=aX (w.alloc (.cells #[.slice none 0 0,.slice none 0 0] 93)) (.cells #[.slice none 0 0,.slice none 0 0] 26);rw[nG] at e2;obtain⟨c0,c1⟩:=bV e1;go_enter Tryz.func30,Tryz.ntmps30
 go_upto_region 2 with (go_at_call 66;refine(HA.out _).mono ?_;rintro e w3 ⟨rfl,hb3⟩)
 have E2:=(hb3.block (w.heap.size+1) (by simp)).trans e2;have hb4:=hal.trans (hb3.mono (by simp;omega));clear hb3 e1 e2 hal HA c0 c1;obtain⟨d0,d1,dz⟩:=bH E2;go_wp2;refine nI (v:=.tuple #[.agg #[.slice none 0 0,.slice none 0 0],.int .i64 10]) (by simp[results,Tryz.results30,go_sem,d0,d1]) rfl ⟨rfl,?_⟩;exact(hb4.setCell (by simp) _).setCell (by simp) _
def Ht (p:PP)(w:World)(e:Ending)(w':World):Prop :=
 ∃ ai ci ad cd,e=.returned (.tuple #[.agg #[.slice ai p.aD.length ci,.slice ad p.defs.length cd],.bool true])/\BA (λb=>w.heap.size<=b) w' (.slice ai p.aD.length ci) (.slice ad p.defs.length cd) p/\Below w.heap.size w w'/\(ai=none->ci=0)
theorem yI (s:ByteArray)(w:World)(hs:s.size<=65536)(ah:List Tok)(aj:List Nd)(p:l6)(h:ji s.data.toList 60=.good ah aj)(F:uj s.data.toList ah aj p) :
  Calls Tryz.prog 9 #[.string s] w (Ht (p.pp ah) w):=by
 have HF:=ay (λW=>xY s 60 W (by omega) (by omega) (by omega));rw[h] at HF;have HO:=ay (λB at_ ct an cn W hT hB=>afh B at_ ct an cn s ah aj p W hT hB F);generalize p.pp ah=pp at HO |-;have Hu:=aA w (.cells #[.slice none 0 0,.slice none 0 0] 26);have e0:=aX w (.cells #[.slice none 0 0,.slice none 0 0] 26);clear h F;go_enter Tryz.func9,Tryz.ntmps9
 go_upto_region 2 with (go_at_call 29;refine(HF.out _).mono ?_;rintro e w2 ⟨hb2,at_,ct,an,cn,rfl,hty⟩)
 have hb3:=(aA w2 (.cells #[.slice at_ ah.length ct,.slice an aj.length cn] 93)).alloc (by simp) (.cells #[.int .i64 0,.int .i64 0] 31);have e1:=(gZ (w2.alloc (.cells #[.slice at_ ah.length ct,.slice an aj.length cn] 93)) (.cells #[.int .i64 0,.int .i64 0] 31) w2.heap.size (by simp)).trans (aX w2 (.cells #[.slice at_ ah.length ct,.slice an aj.length cn] 93));have e2:=aX (w2.alloc (.cells #[.slice at_ ah.length ct,.slice an aj.length cn] 93)) (.cells #[.int .i64 0,.int .i64 0] 31);rw[nG] at e2;have e02:=(hb2.block w.heap.size (by simp)).trans e0;have hl2:=(bP e02).1;have e03:=(hb3.block w.heap.size hl2).trans e02;have hbw:=(Hu.trans (hb2.mono Hu.size)).trans (hb3.mono (Hu.trans (hb2.mono Hu.size)).size);have hT:=hty.at.below hb3
 have hs3:w2.heap.size+1<((w2.alloc (.cells #[.slice at_ ah.length ct,.slice an aj.length cn] 93)).alloc (.cells #[.int .i64 0,.int .i64 0] 31)).heap.size:=by simp
 clear hb2 hb3 HF hty e02 e0 Hu;generalize (w2.alloc _).alloc _=w3 at e1 e2 e03 hbw hT hs3 |-;generalize w2.heap.size=tb at e1 e2 hT hs3 hl2 |-;obtain⟨c0,c1⟩:=bV e1;have HOx:=ay (HO.out tb at_ ct an cn w3 hT (by omega));clear e1 HO
 go_upto_region 3 with (go_at_call 30;refine HOx.out.mono ?_;rintro e w4 ⟨ai,ci,ad,cd,rfl,hn4,qO,hb4,-⟩)
 have HN4:=ay hn4;have qo:=hbw.trans (hb4.mono hbw.size);have hb5:=qo.alloc qo.size (.cells #[.slice ai pp.aD.length ci,.slice ad pp.defs.length cd] 26);have SV:=hb4.alloc hb4.size (.cells #[.slice ai pp.aD.length ci,.slice ad pp.defs.length cd] 26);have g5:=aX w4 (.cells #[.slice ai pp.aD.length ci,.slice ad pp.defs.length cd] 26);have f5:=(SV.block (tb+1) hs3).trans e2;have r5:=(SV.block w.heap.size (by omega)).trans e03;have tJ:=qO.frame (aW.of (aA w4 (.cells #[.slice ai pp.aD.length ci,.slice ad pp.defs.length cd] 26)));clear c0 c1 HOx hT qO hb4 qo hbw hn4 SV e2 e03;generalize w4.alloc _=w5 at hb5 g5 f5 r5 tJ |-;generalize w4.heap.size=pb at g5 |-
 have hw3:w.heap.size<w3.heap.size:=by omega
 obtain⟨a0,a1,-⟩:=bH g5;obtain⟨f0,f1,-⟩:=jm f5;obtain⟨r0,r1,rz⟩:=bH r5;clear g5 f5;go_wp2;refine nI (v:=.tuple #[.agg #[.slice ai pp.aD.length ci,.slice ad pp.defs.length cd],.bool true]) (by simp[results,Tryz.results9,go_sem,r0,r1]) rfl ⟨ai,ci,ad,cd,rfl,?_,?_,?_⟩
 ·exact(tJ.frame ((aW.set _ λb hb=>by show b≠w.heap.size;omega).trans (aW.set _ λb hb=>by show b≠w.heap.size;omega))).imp λb hb _=>by omega
 ·exact(hb5.setCell (bD _) _).setCell (bD _) _
 ·exact HN4.out
theorem Ma (s:ByteArray)(w:World)(hs:s.size<=65536)(c a:Nat)(h:ji s.data.toList 60=.bad c a) :
  Calls Tryz.prog 9 #[.string s] w λe w'=>e=.returned (.tuple #[.agg #[.slice none 0 0,.slice none 0 0],.bool false])/\Below w.heap.size w w':=by
 have hc:=Vr h;have hcI:((c:Int) == 0)=false:=Ea.2 (by omega);have HF:=ay (λW=>xY s 60 W (by omega) (by omega) (by omega));rw[h] at HF;have Hu:=aA w (.cells #[.slice none 0 0,.slice none 0 0] 26);have e0:=aX w (.cells #[.slice none 0 0,.slice none 0 0] 26);clear h hc;go_enter Tryz.func9,Tryz.ntmps9
 go_upto_region 2 with (go_at_call 29;refine(HF.out _).mono ?_;rintro e w2 ⟨hb2,rfl⟩)
 have hb3:=(aA w2 (.cells #[.slice none 0 0,.slice none 0 0] 93)).alloc (by simp) (.cells #[.int .i64 c,.int .i64 a] 31);have e1:=(gZ (w2.alloc (.cells #[.slice none 0 0,.slice none 0 0] 93)) (.cells #[.int .i64 c,.int .i64 a] 31) w2.heap.size (by simp)).trans (aX w2 (.cells #[.slice none 0 0,.slice none 0 0] 93));have e2:=aX (w2.alloc (.cells #[.slice none 0 0,.slice none 0 0] 93)) (.cells #[.int .i64 c,.int .i64 a] 31);rw[nG] at e2;have e02:=(hb2.block w.heap.size (by simp)).trans e0;have hl2:=(bP e02).1;have e03:=(hb3.block w.heap.size hl2).trans e02;have hbw:=(Hu.trans (hb2.mono Hu.size)).trans (hb3.mono (Hu.trans (hb2.mono Hu.size)).size)
 have hs3:w2.heap.size+1<((w2.alloc (.cells #[.slice none 0 0,.slice none 0 0] 93)).alloc (.cells #[.int .i64 c,.int .i64 a] 31)).heap.size:=by simp
 clear hb2 hb3 HF e02 e0 Hu;generalize (w2.alloc _).alloc _=w3 at e1 e2 e03 hbw hs3 |-;generalize w2.heap.size=tb at e1 e2 hs3 hl2 |-;obtain⟨c0,c1⟩:=bV e1;clear e1
 go_upto_region 3 with (go_at_call 30;refine(W9 _).mono ?_;rintro e w4 ⟨rfl,hb4⟩)
 have qo:=hbw.trans (hb4.mono hbw.size);have hb5:=qo.alloc qo.size (.cells #[.slice none 0 0,.slice none 0 0] 26);have SV:=hb4.alloc hb4.size (.cells #[.slice none 0 0,.slice none 0 0] 26);have g5:=aX w4 (.cells #[.slice none 0 0,.slice none 0 0] 26);have f5:=(SV.block (tb+1) hs3).trans e2;have r5:=(SV.block w.heap.size (by omega)).trans e03;clear c0 c1 hb4 qo hbw SV e2 e03;generalize w4.alloc _=w5 at hb5 g5 f5 r5 |-;generalize w4.heap.size=pb at g5 |-;obtain⟨a0,a1,-⟩:=bH g5;obtain⟨f0,f1,-⟩:=jm f5;obtain⟨r0,r1,rz⟩:=bH r5;clear g5 f5;go_wp2;refine nI (v:=.tuple #[.agg #[.slice none 0 0,.slice none 0 0],.bool false]) (by simp[results,Tryz.results9,go_sem,r0,r1]) rfl ⟨rfl,?_⟩;exact(hb5.setCell (bD _) _).setCell (bD _) _
def Pz (z:ZP)(w:World)(e:Ending)(w':World):Prop :=
 ∃ ai ci ad cd,e=.returned (.tuple #[.agg #[.slice ai z.aD.length ci,.slice ad z.defs.length cd],.bool true])/\Below w.heap.size w w'/\RowK ZIK (λb=>b<w'.heap.size) w' (.slice ai z.aD.length ci) z.aD/\RowK PS (λb=>b<w'.heap.size) w' (.slice ad z.defs.length cd) z.defs
theorem adk (h:RowK IA P w v l):RowK ZIK P w v (l.map λm=>(m.1,(m.2:Int))):=RowK.map (K:=IA) (L:=ZIK) (g:=λm=>(m.1,(m.2:Int))) rfl (λ_ _=>rfl) (λ_ _ _=>trivial) h
theorem ahj {ai ad:Option Addr}{ci cd:Nat}(h:BA P w (.slice ai p.aD.length ci) (.slice ad p.defs.length cd) p):RowK ZIK P w (.slice ai p.z.aD.length ci) p.z.aD/\RowK PS P w (.slice ad p.z.defs.length cd) p.z.defs:=by
 have e1:p.z.aD.length=p.aD.length:=oC _;have e2:p.z.defs.length=p.defs.length:=oC _;rw[e1,e2];exact⟨adk h.1,ac2 h.2⟩
theorem Ht.y {e:Ending}(h:Ht p w e w'):Pz p.z w e w':=by
 obtain⟨ai,ci,ad,cd,h1,h2,h3,-⟩:=h;have e1:p.z.aD.length=p.aD.length:=oC _;have e2:p.z.defs.length=p.defs.length:=oC _;have hq:=ahj h2;exact⟨ai,ci,ad,cd,by rw[e1,e2];exact h1,h3,hq.1.imp λb _ hl=>hl,hq.2.imp λb _ hl=>hl⟩
theorem Ko (s:ByteArray)(w:World)(hs:s.size<=65536)(ah:List Tok)(aj:List Nd)(p:l6)(h:ji s.data.toList 60=.good ah aj)(F:uj s.data.toList ah aj p) :
  Calls Tryz.prog 9 #[.string s] w (Pz (p.pp ah).z w):=(yI s w hs ah aj p h F).mono λ_ _ h=>h.y
theorem RowK.on {α β:Type}{K:RK α β}{zs:List α}(h:RowK K (λb=>b<w.heap.size) w v zs)(hb:Below w.heap.size w w'):RowK K (λb=>b<w'.heap.size) w' v zs:=(h.frame (aW.of hb)).imp λ_ _ hl=>hl
theorem vw (w:World):Calls Tryz.prog 8 #[] w λr w'=>r=.returned (.bool true)/\Below w.heap.size w w':=by
 have t1:(ByteArray.mk #[102,117,110,32,102,40,120,58,105,110,116,41,58,98,111,111,108,61,120,59]).data.toList=tnS [59]:=rfl;have HR1:=ay (λW=>Ko ⟨#[102,117,110,32,102,40,120,58,105,110,116,41,58,98,111,111,108,61,120,59]⟩ W (by decide) tn1 _ (WG .Cz) (by rw[t1];exact O4) (by rw[t1];exact O9));have t2:(ByteArray.mk #[102,117,110,32,102,40,120,58,105,110,116,41,58,98,111,111,108,61,120,61,49,59]).data.toList=tnS [61,49,59]:=rfl;have HR2:=ay (λW=>Ko ⟨#[102,117,110,32,102,40,120,58,105,110,116,41,58,98,111,111,108,61,120,61,49,59]⟩ W (by decide) tn2 _ (WG (.bin .Cz .num)) (by rw[t2];exact O8) (by rw[t2];exact Pb))
 have HC:Hid (∀ (p:l6) (ah:List Tok) (aj:List Nd) (S:aH) (c:PZ) (f:Fl),uj S ah aj p->S.length<=1000->(p.pp ah).z=tnZ c->(tnZ c).types [109]=f->∀ (ai:Option Addr) (ci:Nat) (ad:Option Addr) (cd:Nat) (W:World),RowK ZIK (λb=>b<W.heap.size) W (.slice ai 0 ci) (tnZ c).aD->RowK PS (λb=>b<W.heap.size) W (.slice ad 1 cd) (tnZ c).defs ->
   Calls Tryz.prog 10 #[.string ⟨#[109]⟩,.agg #[.slice ai 0 ci,.slice ad 1 cd],.slice none 0 0] W λe w'=>e=.returned (.agg #[.int .i64 (DZ f),.int .i64 (F8 f)])/\Below W.heap.size W w'):=ay λp ah aj S c f F hS hz hf ai ci ad cd W hI hD=>by
  have h:=Ho [109] (tnZ c) ai ci ad cd W (by rw[<- hz];exact(F.mid (by omega)).qF) (by decide) hI (kJ _) hD;rw[hf] at h;exact h
 have Jo:=ay (HC.out (WG .Cz) tn1 _ _ aeS (some (34,18)) O9 (by decide) adB WH);have zH:=ay (HC.out (WG (.bin .Cz .num)) tn2 _ _ aeT none Pb (by decide) adC WI);rw[adB] at HR1;rw[adC] at HR2;clear HC t1 t2;go_enter Tryz.func8,Tryz.ntmps8
 go_upto_region 2 with (go_at_call 9;refine(HR1.out _).mono ?_;rintro r w1 ⟨ai1,ci1,ad1,cd1,rfl,hb1,hi1,ho1⟩)
 have g1:=aX w1 (.cells #[.slice ai1 0 ci1,.slice ad1 1 cd1] 26);have hb2:=hb1.alloc hb1.size (.cells #[.slice ai1 0 ci1,.slice ad1 1 cd1] 26);have ho2:=gy (hi1.on (aA w1 (.cells #[.slice ai1 0 ci1,.slice ad1 1 cd1] 26))) (ho1.on (aA w1 (.cells #[.slice ai1 0 ci1,.slice ad1 1 cd1] 26)))
 have hl2:w1.heap.size<(w1.alloc (.cells #[.slice ai1 0 ci1,.slice ad1 1 cd1] 26)).heap.size:=by simp
 change Code.wp _ _ _ _ (w1.alloc (.cells #[.slice ai1 0 ci1,.slice ad1 1 cd1] 26));clear hb1 ho1 hi1 HR1;generalize w1.alloc _=w2 at g1 hb2 ho2 hl2 |-;generalize w1.heap.size=q1 at g1 hl2 |-
 go_upto_region 3 with (go_at_call 9;refine(HR2.out _).mono ?_;rintro r w3 ⟨ai2,ci2,ad2,cd2,rfl,hb3,hi3,ho3⟩)
 have g2:=aX w3 (.cells #[.slice ai2 0 ci2,.slice ad2 1 cd2] 26);have hb4:=hb3.alloc hb3.size (.cells #[.slice ai2 0 ci2,.slice ad2 1 cd2] 26);have Qk:=gy (hi3.on (aA w3 (.cells #[.slice ai2 0 ci2,.slice ad2 1 cd2] 26))) (ho3.on (aA w3 (.cells #[.slice ai2 0 ci2,.slice ad2 1 cd2] 26)))
 have hl4:w3.heap.size<(w3.alloc (.cells #[.slice ai2 0 ci2,.slice ad2 1 cd2] 26)).heap.size:=by simp
 change Code.wp _ _ _ _ (w3.alloc (.cells #[.slice ai2 0 ci2,.slice ad2 1 cd2] 26));clear hb3 ho3 hi3 HR2;generalize w3.alloc _=w4 at g2 hb4 Qk hl4 |-;generalize w3.heap.size=q2 at g2 hl4 |-;have g14:=(hb4.block q1 hl2).trans g1;have hbw:=hb2.trans (hb4.mono hb2.size);have HA1:=ay (Jo.out ai1 ci1 ad1 cd1 w4 (ho2.1.on hb4) (ho2.2.on hb4));have HA2:Hid (∀ W,Below w4.heap.size w4 W->_):=ay (λW hW=>zH.out ai2 ci2 ad2 cd2 W (Qk.1.on hW) (Qk.2.on hW));obtain⟨a0,a1,-⟩:=bH g14;obtain⟨d0,d1,-⟩:=bH g2;clear g1 g14 g2 ho2 Qk hb2 hb4 Jo zH;go_wp2_with (first|(go_at_call 10;refine(HA2.out _ hb5).mono ?_;rintro r w6 ⟨rfl,hb6⟩)|(go_at_call 10;refine HA1.out.mono ?_;rintro r w5 ⟨rfl,hb5⟩;have d0:=(hb5.cell (p:=⟨q2,0,none⟩) hl4).trans d0;have d1:=(hb5.cell (p:=⟨q2,1,none⟩) hl4).trans d1));go_ret;exact⟨rfl,hbw.trans ((hb5.trans (hb6.mono hb5.size)).mono hbw.size)⟩
theorem Hw (h:w.heap[b]?=some (.cells #[c0,c1] 26 (0,0))):w.cell? ⟨b,0,none⟩=some c0/\w.cell? ⟨b,1,none⟩=some c1:=by
 refine⟨?_,?_⟩<;>(rw[aZ h];rfl)
def afs (q:PP)(w:World)(e:Ending)(w':World):Prop :=
 ∃ ai ci ad cd,e=.returned (.agg #[.slice ai q.aD.length ci,.slice ad q.defs.length cd])/\(ai=none->ci=0)/\BA (λb=>b<w'.heap.size) w' (.slice ai q.aD.length ci) (.slice ad q.defs.length cd) q/\Below w.heap.size w w'
def PD (l:List (aH × Nat))(w2:World)(v:Value)(wc:World):Prop :=
 ∃ (O:Nat) (ai:Option Addr) (ci:Nat),v=.pointer (some ⟨O,0,none⟩)/\wc.heap[O]?=some (.cells #[.slice ai l.length ci,.slice none 0 0] 26 (0,0))/\RowK IA (λb=>w2.heap.size<=b/\b≠O) wc (.slice ai l.length ci) l/\(ai=none->ci=0)/\w2.heap.size<=O/\Below w2.heap.size w2 wc
theorem PD.mk {w2 w3:World}{k:List ((aH × Nat) × Unit)}{e:Nat}(hk:k.map Prod.fst=l)(ho:w3.ownsRow w2.heap.size e 2 v l.length (IA.flat k))(hb:Below w2.heap.size w2 w3):PD l w2 (.pointer (some ⟨w3.heap.size,0,none⟩)) (w3.alloc (.cells #[v,.slice none 0 0] 26)):=by
 have hO:og IA w2.heap.size e w3 v l:=⟨k,hk,ho,λp hp=>trivial⟩
 obtain⟨ao,cap,rfl⟩:=hO.slice;refine⟨w3.heap.size,ao,cap,rfl,aX _ _,?_,λq=>hO.agP _ _ (by rw[q]),hb.size,hb.alloc hb.size _⟩;exact(hO.row.imp (Q:=λb=>w2.heap.size<=b/\b≠w3.heap.size) λb hb hl=>⟨hb,by omega⟩).frame ⟨by simp,λb _ hl=>gZ _ _ _ hl⟩
theorem aft {S:Shape}(f:FF)(P:Nat->Prop)(w:World):(FK S).inn P w f.erase (.slice none 0 0):=RowK.nil _ _ _
theorem Xa (p:PP)(aiH:p.aD.length<=16)(aiI:p.defs.length<=64)(Mc:∀ d∈p.defs,d.params.length<=8)(B:Nat)(ai:Option Addr)(ci:Nat)(ad:Option Addr)(cd:Nat)(w:World)
  (h:BA (λb=>b<B) w (.slice ai p.aD.length ci) (.slice ad p.defs.length cd) p) (hB:B<=w.heap.size) (hnil:ai=none->ci=0) :
  Calls Tryz.prog 11 #[.agg #[.slice ai p.aD.length ci,.slice ad p.defs.length cd]] w (afs p.erase w):=by
 obtain⟨ii,hii1,hii2,afi,afj⟩:=info_parts Tryz.Hr;obtain⟨id,afk,afl,afm,afn⟩:=info_parts Tryz.Un;obtain⟨ip,aeG,aeH,aeI,aeJ⟩:=info_parts Tryz.J3;obtain⟨hir,hdr⟩:=h;have hbb:=(aA w (.cells #[.slice ai p.aD.length ci,.slice ad p.defs.length cd] 26)).alloc (by simp) (.cells #[.slice none 0 0,.slice none 0 0] 26);have g0:=(gZ _ (.cells #[.slice none 0 0,.slice none 0 0] 26) w.heap.size (by simp)).trans (aX w (.cells #[.slice ai p.aD.length ci,.slice ad p.defs.length cd] 26));have g1:=aX (w.alloc (.cells #[.slice ai p.aD.length ci,.slice ad p.defs.length cd] 26)) (.cells #[.slice none 0 0,.slice none 0 0] 26);rw[nG] at g1;have HP8:=ay Mc;obtain⟨ao',cc',hv,hcap,hform⟩:=hdr.form;simp only[Value.slice.injEq] at hv;obtain⟨rfl,-,rfl⟩:=hv;have HF:=ay hform;clear Mc hform hdr;obtain⟨c0,c1⟩:=Hw g0;go_enter Tryz.func11,Tryz.ntmps11
 go_upto_region 1 with fail
 generalize (w.alloc _).alloc _=w2 at hbb g0 g1 c0 c1 |-;have hz2:=hbb.size;have hlt2:w.heap.size+1<w2.heap.size:=(bP g1).1
 go_cut [3] (λv wc=>PD p.aD w2 v wc)
 case first =>
  obtain⟨l,hl,⟨ao,cap,hv,hn,hlen,hc⟩,_⟩:=hir.frame (aW.rV hbb λb hb=>xw hb hB);simp only[Value.slice.injEq] at hv;obtain⟨rfl,-,rfl⟩:=hv;have HHL:=ay hl;clear hl
  cases ai with
  | none =>
   obtain rfl:=hnil rfl
   have h0:p.aD.length=0:=by
    rcases Nat.eq_zero_or_pos p.aD.length with q|q
    ·exact q
    ·obtain⟨_,_,e,_⟩:=hc q
     cases e
   obtain⟨imps,defs⟩:=p;obtain rfl:imps=[]:=List.length_eq_zero_iff.1 h0;clear hc hlen hn h0;go_wp2_with (at_builtin;refine wpList_append_own_none rfl _ _ 23 rfl w2.heap.size 50 ii 2 Tryz.underlying23 hii1 (.slice none 0 0) 0 [] rfl (World.ownsRow_nil _ _ _ _) rfl ?_)
   go_meet
   exact PD.mk (e:=50) (k:=[]) rfl (World.ownsRow_nil _ _ _ _) (bQ _ _)
  | some ad0 =>
   have hnews:∀ j u,(IA.flat l)[j]?=some u->w2.cell? (ad0.add j)=some u:=λj u hj=>by
    obtain⟨h1,h2⟩:=pE hj;have hl2:(IA.flat l).length=p.aD.length * 2:=hlen;obtain⟨b,off,e,_,_,h3⟩:=hc (by omega);have h4:=h3 j h1;rw[h2] at h4;obtain rfl:=lG e
    have ea:(⟨b,off,none⟩:Addr).add j=⟨b,off+j,none⟩:=by unfold Addr.add;split<;>simp_all
    rw[ea];exact h4
   have HNW:=ay hnews;clear hc hnews;go_wp2_with (at_builtin;refine wpList_append_own _ rfl _ _ 23 rfl w2.heap.size 50 ii _ 2 24 Tryz.underlying23 hii1 hii2 afi afj rfl (by decide) (.slice none 0 0) 0 [] rfl (World.ownsRow_nil _ _ _ _) ad0 p.aD.length ci (IA.flat l) rfl ?c1 HNW.out ?c2 ?c3 ?c4 (bD _) ?_)
   case c1=>exact hlen
   case c2 =>
    intro u hu;simp only[RK.flat,IA,List.mem_flatMap,nY,List.not_mem_nil,or_false] at hu
    obtain⟨q,_,rfl|rfl⟩:=hu<;>rfl
   case c3=>unfold maxLen;omega
   case c4=>omega
   intro v' w3 hown hgrow _;obtain⟨ao2,cap2,rfl⟩:=(show og IA w2.heap.size 50 w3 v' p.aD from ⟨l,HHL.out,hown,λ_ _=>trivial⟩).slice;have HER:=ay (PD.mk HHL.out hown ((bQ _ _).grown hgrow (bD _) (λk q=>by cases q)));clear hown hgrow hlen;go_wp2
   go_meet
   exact HER.out
 case rest =>
  obtain⟨O,ai',ci',rfl,hO,ahk,hnil3,hOl,hbc⟩:=hcut
  obtain⟨wl,rfl⟩:∃ wl:World,wl=wc:=⟨_,rfl⟩
  have hzl:=hbc.size;have hOw:=(bP hO).1;have H0:=(hbc.block w.heap.size (by omega)).trans g0;have H1:=(hbc.block (w.heap.size+1) (by omega)).trans g1;have afo:=hbb.trans (hbc.mono hz2);have HNL:=ay hnil3;have HIR:=ay ahk;obtain⟨c0,c1⟩:=Hw H0;clear hbb g0 g1 hbc hnil3 hir hnil ahk
  go_upto_region 3 with fail
  go_loopw [16] (λq wr=>∃ (j:Nat) (ad':Option Addr) (cd':Nat),j<=p.defs.length/\q=.int .i64 j/\aW (λb=>b<wl.heap.size/\b≠O) wl wr/\wr.heap[O]?=some (.cells #[.slice ai' p.aD.length ci',.slice ad' j cd'] 26 (0,0))/\qL DA (λb=>b<B\/wl.heap.size<=b) wl.heap.size 62 wr (.slice ad' j cd') ((p.defs.take j).map DD.erase)/\Below w.heap.size w wr) (λq _=>p.defs.length - (intOf q).toNat)
  case atStart=>exact⟨0,none,0,kJ _,rfl,aW.refl _ _,hO,by rw[List.take_zero];exact qL.nil _ _ _ _ _,afo⟩
  case round =>
   obtain⟨j,ad',cd',hj,rfl,dD,hOr,hrow,hbl⟩:=hrel;have aeK:=dD.1
   by_cases hlt:j<p.defs.length
   ·
    obtain⟨wo,rfl⟩:∃ wo:World,wo=wr:=⟨_,rfl⟩
    obtain⟨b,off,rfl,hbB,hbw,iw⟩:=HF.out (by omega);obtain⟨⟨pv,cv,bm,bk⟩,⟨hpr,dI,hbe⟩,hc⟩:=iw j hlt
    have hsn:(p.defs.take (j+1)).map DD.erase=(p.defs.take j).map DD.erase++[p.defs[j].erase]:=by rw[zF hlt,xZ];rfl
    have Mc:=HP8.out _ (nH hlt)
    have Ij:(j:Int)<(p.defs.length:Int):=by omega
    generalize p.defs[j]=d at hpr dI hbe hc hsn Mc
    have Po:((p.defs.take j).map DD.erase).length=j:=by rw[oC,pK];omega
    generalize (p.defs.take j).map DD.erase=acc at hrow hsn Po;have HNJ:=ay Po;have rO:=ay hsn;obtain⟨ap,cp,rfl⟩:=hpr.slice;obtain⟨ac,cc,rfl⟩:=dI.slice;obtain⟨am,wn,cm,ae,ce,rfl,rfl⟩:=pG.PK hbe
    have hcl:∀ (c:Nat) (u:Value),w.cell? ⟨b,c,none⟩=some u->wo.cell? ⟨b,c,none⟩=some u:=λc u hu=>(hbl.cell (p:=⟨b,c,none⟩) hbw).trans hu
    have y0:=hcl _ _ (show w.cell? ⟨b,off+j * 15,none⟩=some (.bool d.pub) from hc 0 _ rfl);have y1:=hcl _ _ (show w.cell? ⟨b,off+j * 15+1,none⟩=some (.string ⟨d.res.name.toArray⟩) from hc 1 _ rfl);have y2:=hcl _ _ (show w.cell? ⟨b,off+j * 15+2,none⟩=some (.slice ap d.params.length cp) from hc 2 _ rfl);have y3:=hcl _ _ (show w.cell? ⟨b,off+j * 15+3,none⟩=some (.int .i64 d.res.base) from hc 3 _ rfl);have y4:=hcl _ _ (show w.cell? ⟨b,off+j * 15+4,none⟩=some (.slice ac d.res.aC.length cc) from hc 4 _ rfl);have y5:=hcl _ _ (show w.cell? ⟨b,off+j * 15+5,none⟩=some (.int .i64 d.body.op) from hc 5 _ rfl);have y6:=hcl _ _ (show w.cell? ⟨b,off+j * 15+6,none⟩=some (.string ⟨d.body.name.toArray⟩) from hc 6 _ rfl);have y7:=hcl _ _ (show w.cell? ⟨b,off+j * 15+7,none⟩=some (.string ⟨d.body.module.toArray⟩) from hc 7 _ rfl);have y8:=hcl _ _ (show w.cell? ⟨b,off+j * 15+8,none⟩=some (.bool (decide (d.body.num<0))) from hc 8 _ rfl);have y9:=hcl _ _ (show w.cell? ⟨b,off+j * 15+9,none⟩=some (.slice am wn cm) from hc 9 _ rfl);have rP:=hcl _ _ (show w.cell? ⟨b,off+j * 15+10,none⟩=some (.bool d.body.yes) from hc 10 _ rfl);have rQ:=hcl _ _ (show w.cell? ⟨b,off+j * 15+11,none⟩=some (.slice ae d.body.aB.length ce) from hc 11 _ rfl);have rR:=hcl _ _ (show w.cell? ⟨b,off+j * 15+12,none⟩=some (.int .i64 d.body.at_) from hc 12 _ rfl);have y13:=hcl _ _ (show w.cell? ⟨b,off+j * 15+13,none⟩=some (.int .i64 d.res.at_) from hc 13 _ rfl);have PV:=hcl _ _ (show w.cell? ⟨b,off+j * 15+14,none⟩=some (.int .i64 d.res.bare) from hc 14 _ rfl);have T0:=aX wo (.cells #[.bool d.pub,.string ⟨d.res.name.toArray⟩,.slice ap d.params.length cp,.int .i64 d.res.base,.slice ac d.res.aC.length cc,.int .i64 d.body.op,.string ⟨d.body.name.toArray⟩,.string ⟨d.body.module.toArray⟩,.bool (decide (d.body.num<0)),.slice am wn cm,.bool d.body.yes,.slice ae d.body.aB.length ce,.int .i64 d.body.at_,.int .i64 d.res.at_,.int .i64 d.res.bare] 62)
    have hb0:=aA wo (.cells #[.bool d.pub,.string ⟨d.res.name.toArray⟩,.slice ap d.params.length cp,.int .i64 d.res.base,.slice ac d.res.aC.length cc,.int .i64 d.body.op,.string ⟨d.body.name.toArray⟩,.string ⟨d.body.module.toArray⟩,.bool (decide (d.body.num<0)),.slice am wn cm,.bool d.body.yes,.slice ae d.body.aB.length ce,.int .i64 d.body.at_,.int .i64 d.res.at_,.int .i64 d.res.bare] 62);obtain⟨ap',cp',hv3,aiV,abO⟩:=hpr.form;simp only[Value.slice.injEq] at hv3;obtain⟨rfl,-,rfl⟩:=hv3;have HF3:=ay abO;clear iw hc hcl hpr dI abO hsn Po H1
    go_upto_region 5 with fail
    clear y0 y1 y2 y3 y4 y5 y6 y7 y8 y9 rP rQ rR y13 PV
    have hDl:wo.heap.size<(wo.alloc (.cells #[.bool d.pub,.string ⟨d.res.name.toArray⟩,.slice ap d.params.length cp,.int .i64 d.res.base,.slice ac d.res.aC.length cc,.int .i64 d.body.op,.string ⟨d.body.name.toArray⟩,.string ⟨d.body.module.toArray⟩,.bool (decide (d.body.num<0)),.slice am wn cm,.bool d.body.yes,.slice ae d.body.aB.length ce,.int .i64 d.body.at_,.int .i64 d.res.at_,.int .i64 d.res.bare] 62)).heap.size:=by simp
    generalize hD:wo.heap.size=D at T0 hb0 hDl |-;generalize wo.alloc _=wa at T0 hb0 hDl |-;obtain⟨⟨d0,d1,d2,d3,d4⟩,_,_,dz⟩:=dL T0;have T1:=jN wa D 4 _ _ (.slice none 0 0) T0;have T1':(wa.setCell ⟨D,4,none⟩ (.slice none 0 0)).heap[D]?=some (.cells #[.bool d.pub,.string ⟨d.res.name.toArray⟩,.slice ap d.params.length cp,.int .i64 d.res.base,.slice none 0 0,.int .i64 d.body.op,.string ⟨d.body.name.toArray⟩,.string ⟨d.body.module.toArray⟩,.bool (decide (d.body.num<0)),.slice am wn cm,.bool d.body.yes,.slice ae d.body.aB.length ce,.int .i64 d.body.at_,.int .i64 d.res.at_,.int .i64 d.res.bare] 62 (0,0)):=T1;have hb1:Below D wo (wa.setCell ⟨D,4,none⟩ (.slice none 0 0)):=hb0.setCell (bD _) _;clear T1
    go_upto_region 6 with fail
    clear d0 d1 d2 d3 d4 dz T0 hb0
    have afu:D<(wa.setCell ⟨D,4,none⟩ (.slice none 0 0)).heap.size:=by simpa using hDl
    generalize wa.setCell _ _=wb at T1' hb1 afu |-;obtain⟨⟨d0,d1,d2,d3,d4⟩,_,_,dz⟩:=dL T1';have T2:=jN wb D 2 _ _ (.slice none 0 0) T1';have T2':(wb.setCell ⟨D,2,none⟩ (.slice none 0 0)).heap[D]?=some (.cells #[.bool d.pub,.string ⟨d.res.name.toArray⟩,.slice none 0 0,.int .i64 d.res.base,.slice none 0 0,.int .i64 d.body.op,.string ⟨d.body.name.toArray⟩,.string ⟨d.body.module.toArray⟩,.bool (decide (d.body.num<0)),.slice am wn cm,.bool d.body.yes,.slice ae d.body.aB.length ce,.int .i64 d.body.at_,.int .i64 d.res.at_,.int .i64 d.res.bare] 62 (0,0)):=T2;have hb2:Below D wo (wb.setCell ⟨D,2,none⟩ (.slice none 0 0)):=hb1.setCell (bD _) _
    have ahl:D<(wb.setCell ⟨D,2,none⟩ (.slice none 0 0)).heap.size:=by simpa using afu
    clear T2
    go_upto_region 8 with fail
    clear d0 d1 d2 d3 d4 dz T1' hb1 hDl afu;generalize wb.setCell _ _=w3 at T2' hb2 ahl |-;go_wp2
    go_loopw [26] (λq wr=>∃ (k:Nat) (ap2:Option Addr) (cp2:Nat),k<=d.params.length/\q=.int .i64 k/\aW (λb=>b<w3.heap.size/\b≠D) w3 wr/\wr.heap[D]?=some (.cells #[.bool d.pub,.string ⟨d.res.name.toArray⟩,.slice ap2 k cp2,.int .i64 d.res.base,.slice none 0 0,.int .i64 d.body.op,.string ⟨d.body.name.toArray⟩,.string ⟨d.body.module.toArray⟩,.bool (decide (d.body.num<0)),.slice am wn cm,.bool d.body.yes,.slice ae d.body.aB.length ce,.int .i64 d.body.at_,.int .i64 d.res.at_,.int .i64 d.res.bare] 62 (0,0))/\qL (FK XA) (λ_=>False) w3.heap.size 103 wr (.slice ap2 k cp2) ((d.params.take k).map FF.erase)/\Below D wo wr) (λq _=>d.params.length - (intOf q).toNat)
    case atStart=>exact⟨0,none,0,kJ _,rfl,aW.refl _ _,T2',by rw[List.take_zero];exact qL.nil _ _ _ _ _,hb2⟩
    case round =>
     obtain⟨k,ap2,cp2,hk,rfl,afv,hDx,PG,hbx⟩:=hrel;have ajK:=afv.1
     by_cases hlt3:k<d.params.length
     ·
      obtain⟨b3,o3,rfl,ajL,aiJ,adJ⟩:=HF3.out (by omega);obtain⟨cv3,afw,hc3⟩:=adJ k hlt3
      have adl:(d.params.take (k+1)).map FF.erase=(d.params.take k).map FF.erase++[d.params[k].erase]:=by rw[zF hlt3,xZ];rfl
      have nK:(k:Int)<(d.params.length:Int):=by omega
      generalize d.params[k]=f at afw hc3 adl;obtain⟨ac3,cc3,rfl⟩:=RowK.slice (show RowK (EK XA) (λb=>b<B) w cv3 f.aC from afw)
      have hnk:((d.params.take k).map FF.erase).length=k:=by rw[oC,pK];omega
      generalize (d.params.take k).map FF.erase=aiK at PG adl hnk;have HNK:=ay hnk;have aiL:=ay adl;have abP:Below w.heap.size w wr:=hbl.trans (hbx.mono (by have:=hbl.size;omega))
      have hcl:∀ (c:Nat) (u:Value),w.cell? ⟨b3,c,none⟩=some u->wr.cell? ⟨b3,c,none⟩=some u:=λc u hu=>(abP.cell (p:=⟨b3,c,none⟩) aiJ).trans hu
      have v0:=hcl _ _ (show w.cell? ⟨b3,o3+k * 5,none⟩=some (.string ⟨f.name.toArray⟩) from hc3 0 _ rfl);have v1:=hcl _ _ (show w.cell? ⟨b3,o3+k * 5+1,none⟩=some (.int .i64 f.base) from hc3 1 _ rfl);have v2:=hcl _ _ (show w.cell? ⟨b3,o3+k * 5+2,none⟩=some (.slice ac3 f.aC.length cc3) from hc3 2 _ rfl);have v3:=hcl _ _ (show w.cell? ⟨b3,o3+k * 5+3,none⟩=some (.int .i64 f.at_) from hc3 3 _ rfl);have v4:=hcl _ _ (show w.cell? ⟨b3,o3+k * 5+4,none⟩=some (.int .i64 f.bare) from hc3 4 _ rfl);have U0:=aX wr (.cells #[.string ⟨f.name.toArray⟩,.int .i64 f.base,.slice ac3 f.aC.length cc3,.int .i64 f.at_,.int .i64 f.bare] 103);have ha0:=aA wr (.cells #[.string ⟨f.name.toArray⟩,.int .i64 f.base,.slice ac3 f.aC.length cc3,.int .i64 f.at_,.int .i64 f.bare] 103);clear adJ hc3 hcl afw adl hnk
      go_upto_region 11 with fail
      clear v0 v1 v2 v3 v4;generalize hX:wr.heap.size=X at U0 ha0 |-;generalize wr.alloc _=wy at U0 ha0 |-;obtain⟨-,-,p2,-,-,pz⟩:=uh U0;have U1:=jN wy X 2 _ _ (.slice none 0 0) U0;have U1':(wy.setCell ⟨X,2,none⟩ (.slice none 0 0)).heap[X]?=some (.cells #[.string ⟨f.name.toArray⟩,.int .i64 f.base,.slice none 0 0,.int .i64 f.at_,.int .i64 f.bare] 103 (0,0)):=U1;have ha1:Below X wr (wy.setCell ⟨X,2,none⟩ (.slice none 0 0)):=ha0.setCell (bD _) _;clear U1
      go_upto_region 12 with fail
      clear p2 pz U0 ha0;generalize wy.setCell _ _=wz at U1' ha1 |-
      have ha2:Below wr.heap.size wr wz:=by rw[hX];exact ha1
      have aiM:=(bP hDx).1;have hDz:=(ha2.block D aiM).trans hDx;obtain⟨q0,q1,q2,q3,q4,-⟩:=uh U1';obtain⟨⟨-,-,d2,-,-⟩,_,_,dz⟩:=dL hDz;obtain⟨Ck,h1,hown,hes⟩:=PG;rw[HNK.out] at hown
      have aiN:some D≠(Value.slice ap2 k cp2).ownBlock:=λq=>by have:=(hown.lt _ q.symm).1;omega
      have hza:=ha2.size;clear hX U1' ha1;go_wp2_with (at_builtin;refine wpList_append_lies _ rfl _ _ 54 rfl w3.heap.size 103 ip _ 5 64 Tryz.underlying54 aeG aeH aeI aeJ rfl (by decide) _ k _ rfl ((own_below hown ha2).alloc _) ⟨wz.heap.size,0,none⟩ 1 1 [.string ⟨f.name.toArray⟩,.int .i64 f.base,.slice none 0 0,.int .i64 f.at_,.int .i64 f.bare] rfl rfl ?u1 ?u2 ?u3 ?u4 ?u5 ?u6 (wz.heap.size+1) (by simp) ?_)
      case u2=>simp[Value.oneCell']
      case u4=>unfold maxLen;omega
      case u5=>omega
      case u6=>omega
      intro gg jO w5 gB fB uL KG;have hDe:=(fB.block D (by simp;omega) aiN).trans ((gZ wz _ D (by omega)).trans hDz);obtain⟨⟨-,-,d2',-,-⟩,_,_,dz'⟩:=dL hDe;obtain⟨o1,o2,o3⟩:=qL.round (K:=FK XA) (Q:=λ_=>False) (wr:=wr) (kv:=.slice ap2 k cp2) (Tp:=.slice (some ⟨gg,0,none⟩) (k+1) jO) (acc:=aiK) (a:=f.erase) (x:=.slice none 0 0) (l:=Ck) afv ahl (λq=>q) h1 (by rw[HNK.out];exact hown) hes (aft f _ _) ha2 (by rw[HNK.out];exact gB) fB rfl uL 2 (.slice (some ⟨gg,0,none⟩) (k+1) jO);have hD6:(w5.setCell ⟨D,2,none⟩ (.slice (some ⟨gg,0,none⟩) (k+1) jO)).heap[D]?=some (.cells #[.bool d.pub,.string ⟨d.res.name.toArray⟩,.slice (some ⟨gg,0,none⟩) (k+1) jO,.int .i64 d.res.base,.slice none 0 0,.int .i64 d.body.op,.string ⟨d.body.name.toArray⟩,.string ⟨d.body.module.toArray⟩,.bool (decide (d.body.num<0)),.slice am wn cm,.bool d.body.yes,.slice ae d.body.aB.length ce,.int .i64 d.body.at_,.int .i64 d.res.at_,.int .i64 d.res.bare] 62 (0,0)):=jN w5 D 2 _ _ _ hDe;have hb6:=o3 D wo (bD _) hbx;clear fB gB uL hDe hDz hes hown afv hDx d2 dz q0 q1 q2 q3 q4 h1 ha2 abP hbx;go_wp2;clear d2' dz';generalize w5.setCell _ _=w6 at o1 o2 hD6 hb6 |-
      go_roundw
      case rel =>
       refine⟨k+1,some ⟨gg,0,none⟩,jO,by omega,by go_num,o2,hD6,?_,hb6⟩;rw[aiL.out];exact o1
      case measure=>simp[intOf];omega
     ·
      obtain rfl:k=d.params.length:=by omega
      have nK:decide ((d.params.length:Int)<(d.params.length:Int))=false:=dX (by omega);rw[zG] at PG
      have ajM:wl.heap.size<=D:=by omega
      have hOD:O≠D:=by omega
      have hbo:Below wo.heap.size wo wr:=by rw[hD];exact hbx
      have hOx:=(hbo.block O (by omega)).trans hOr;obtain⟨o0,o1,oz⟩:=bH hOx;obtain⟨⟨d0,d1,d2,d3,d4⟩,⟨d5,d6,d7,d8,d9⟩,⟨Xo,Xp,Xq,Xr,Xt⟩,dz⟩:=dL hDx;obtain⟨Ck,h1,hown,hes⟩:=hrow;rw[HNJ.out] at hown
      have aeQ:some O≠(Value.slice ad' j cd').ownBlock:=λq=>by have:=(hown.lt _ q.symm).1;omega
      have UQ:∀ b,some b=(Value.slice ad' j cd').ownBlock->wl.heap.size<=b/\b<D:=λb q=>by rw[<- hD];exact hown.lt b q.symm
      have abP:Below w.heap.size w wr:=hbl.trans (hbo.mono hbl.size)
      have hDn:DA.inn (λb=>(b<B\/wl.heap.size<=b)/\some b≠(Value.slice ad' j cd').ownBlock) wr d.erase ⟨.slice ap2 d.params.length cp2,.slice none 0 0,.slice am wn cm,.slice ae d.body.aB.length ce⟩:=by
       refine⟨?_,RowK.nil _ _ _,?_⟩
       ·exact PG.row (R:=λb=>(b<B\/wl.heap.size<=b)/\some b≠(Value.slice ad' j cd').ownBlock) (λb hb=>⟨.inr (by omega),λq=>by have:=(UQ b q).2;omega⟩) (λb hb=>hb.elim)
       ·exact(pG.frame (aW.rV abP (λb hb=>by omega)) hbe).imp λb hb hl=>⟨.inl hb,λq=>by have:=(UQ b q).1;omega⟩
      have HDN:=ay hDn;have hzx:=hbo.size;have ahm:=hbl;clear hDn UQ PG hDx hbx hbe hbl;go_wp2_with (at_builtin;refine wpList_append_lies _ rfl _ _ 24 rfl wl.heap.size 62 id _ 15 208 Tryz.underlying24 afk afl afm afn rfl (by decide) _ j _ rfl ((own_below hown hbo).alloc _) ⟨wr.heap.size,0,none⟩ 1 1 [.bool d.pub,.string ⟨d.res.name.toArray⟩,.slice ap2 d.params.length cp2,.int .i64 d.res.base,.slice none 0 0,.int .i64 d.body.op,.string ⟨d.body.name.toArray⟩,.string ⟨d.body.module.toArray⟩,.bool (decide (d.body.num<0)),.slice am wn cm,.bool d.body.yes,.slice ae d.body.aB.length ce,.int .i64 d.body.at_,.int .i64 d.res.at_,.int .i64 d.res.bare] rfl rfl ?x1 ?x2 ?x3 ?x4 ?x5 ?x6 (wr.heap.size+1) (by simp) ?_)
      case x2=>simp[Value.oneCell']
      case x4=>unfold maxLen;omega
      case x5=>omega
      case x6=>omega
      intro gg jO w5 gB fB uL KG;have hOe:=(fB.block O (by simp;omega) aeQ).trans ((gZ wr _ O (by omega)).trans hOx);obtain⟨o0',o1',oz'⟩:=bH hOe;obtain⟨e1,e2,e3⟩:=qL.round (K:=DA) (Q:=λb=>b<B\/wl.heap.size<=b) (wr:=wo) (kv:=.slice ad' j cd') (Tp:=.slice (some ⟨gg,0,none⟩) (j+1) jO) (acc:=acc) (a:=d.erase) (x:=⟨.slice ap2 d.params.length cp2,.slice none 0 0,.slice am wn cm,.slice ae d.body.aB.length ce⟩) (l:=Ck) dD hOw (by omega) h1 (by rw[HNJ.out];exact hown) hes HDN.out hbo (by rw[HNJ.out];exact gB) fB rfl uL 1 (.slice (some ⟨gg,0,none⟩) (j+1) jO);have hO6:(w5.setCell ⟨O,1,none⟩ (.slice (some ⟨gg,0,none⟩) (j+1) jO)).heap[O]?=some (.cells #[.slice ai' p.aD.length ci',.slice (some ⟨gg,0,none⟩) (j+1) jO] 26 (0,0)):=jN w5 O 1 _ _ _ hOe;have hb6:=e3 w.heap.size w (by omega) ahm;clear ahm fB gB uL hOe hOx hes hown dD d0 d1 d2 d3 d4 d5 d6 d7 d8 d9 Xo Xp Xq Xr Xt dz o0 o1 oz h1 hbo abP;go_wp2;clear o0' o1' oz';generalize w5.setCell _ _=w6 at e1 e2 hO6 hb6 |-
      go_roundw
      case rel =>
       refine⟨j+1,some ⟨gg,0,none⟩,jO,by omega,by go_num,e2,hO6,?_,hb6⟩;rw[rO.out];exact e1
      case measure=>simp[intOf];omega
   ·
    obtain rfl:j=p.defs.length:=by omega
    have Ij:decide ((p.defs.length:Int)<(p.defs.length:Int))=false:=dX (by omega);rw[zG] at hrow;have hR1:=(dD.2 (w.heap.size+1) ⟨by omega,by omega⟩ (by omega)).trans H1
    have WU:=((HIR.out.imp (Q:=λb=>(w2.heap.size<=b/\b≠O)/\b<wl.heap.size/\b≠O) λb hb hl=>⟨hb,hl,hb.2⟩).frame ⟨dD.1,λb hb hl=>dD.2 b hb.2 hl⟩)
    have hrd:=hrow.row (R:=λb=>b<B\/wl.heap.size<=b) (λb hb=>.inr hb) (λb hb _=>hb);obtain⟨d0,d1,dz⟩:=bH hOr;obtain⟨e0,e1,ez⟩:=bH hR1;have hdl:p.erase.defs.length=p.defs.length:=oC _;have HDL:=ay hdl;clear hrow H0 H1 dD hOr hR1 c0 c1 hdl;go_wp2;refine nI (v:=.agg #[.slice ai' p.aD.length ci',.slice ad' p.defs.length cd']) (by simp[results,Tryz.results11,go_sem,e0,e1]) rfl ⟨ai',ci',ad',cd',by rw[HDL.out];rfl,HNL.out,⟨?_,?_⟩,?_⟩
    ·exact(WU.frame ((aW.set _ λb hb=>by show b≠w.heap.size+1;omega).trans (aW.set _ λb hb=>by show b≠w.heap.size+1;omega))).imp λb hb hl=>hl
    ·rw[HDL.out]
     exact(hrd.frame ((aW.set _ λb hb=>by show b≠w.heap.size+1;omega).trans (aW.set _ λb hb=>by show b≠w.heap.size+1;omega))).imp λb hb hl=>hl
    ·exact(hbl.setCell (by simp) _).setCell (by simp) _
theorem Uq (p:PP):p.erase.z=p.z.er:=by
 unfold PP.z PP.erase ZP.er;simp only[List.map_map]
 congr 1
 refine List.map_congr_left λd _=>?_
 simp only[Function.comp_apply,DD.erase,DD.z,ZD.er,List.map_map]
 congr 1
theorem ZF.mid.er {f:ZF}(h:f.mid):f.er.mid:=⟨h.name,kJ _,λe he=>by cases he⟩
theorem ZP.mid.er {p:ZP}(h:p.mid):p.er.mid:=by
 refine⟨h.imps,h.QZ,λd hd=>?_,by show (p.defs.map ZD.er).length<=64;rw[oC];exact h.Q0⟩;obtain⟨c,hc,rfl⟩:=List.mem_map.1 hd;have h1:=h.defs c hc;refine⟨λf hf=>?_,by show (c.params.map ZF.er).length<=8;rw[oC];exact h1.few,h1.res.er,h1.body⟩;obtain⟨g,hg,rfl⟩:=List.mem_map.1 hf;exact(h1.lX g hg).er
theorem Xb (a b:Value)(w:World):(Instr.field 31 (.agg #[a,b]) 0).run Tryz.prog w=.ok a w:=by kernel_rfl
def uq (s:ByteArray)(w:World):Prop:=Calls Tryz.prog 3 #[.string s] w λr w'=>r=.returned (.bool true)/\Below w.heap.size w w'
theorem Kq (own:aH)(p:PP)(hm:p.z.mid)(ho:own.length<=65536)(ai:Option Addr)(ci:Nat)(ad:Option Addr)(cd:Nat)(w:World)(h:BA (λb=>b<w.heap.size) w (.slice ai p.aD.length ci) (.slice ad p.defs.length cd) p) :
  Calls Tryz.prog 10 #[.string ⟨own.toArray⟩,.agg #[.slice ai p.aD.length ci,.slice ad p.defs.length cd],.slice none 0 0] w (xV (p.z.types own) w):=by
 have e1:p.z.aD.length=p.aD.length:=oC _;have e2:p.z.defs.length=p.defs.length:=oC _;have hq:=ahj h;have hc:=Ho own p.z ai ci ad cd w hm.qF ho hq.1 (jq hm.QZ (by decide)) hq.2;rw[e1,e2] at hc;exact hc
theorem SX (p:ZP)(own:aH):bq (p.types own):=by
 unfold ZP.types;have h:=Kk p own []
 split
 ·rename_i x hx
  rw[hx] at h;exact h
 ·exact Ct _ _ _ bq.none
theorem abQ (s:ByteArray)(w:World)(hs:s.size<=maxLen)(h:900<s.size):uq s w:=by
 unfold maxLen at hs;unfold uq
 have hI:(900:Int)<(s.size:Int):=by omega
 have h2:decide ((900:Int)<(s.size:Int))=true:=jV (by omega);go_enter Tryz.func3,Tryz.ntmps3;go_wp2_with (go_at_call 8;refine(vw _).mono ?_;rintro e w1 ⟨rfl,hb1⟩);go_ret;exact⟨rfl,hb1⟩
theorem abR (s:ByteArray)(w:World)(hs:s.size<=900)(c a:Nat)(h:ji s.data.toList 60=.bad c a):uq s w:=by
 unfold uq
 have hI:¬ ((900:Int)<(s.size:Int)):=by omega
 have h2:decide ((900:Int)<(s.size:Int))=false:=dX (by omega);have HP:=ay (λW=>Ma s W (by omega) c a h);clear h;go_enter Tryz.func3,Tryz.ntmps3;go_wp2_with (first|(go_at_call 9;refine(HP.out w1).mono ?_;rintro e w2 ⟨rfl,hb2⟩)|(go_at_call 8;refine(vw _).mono ?_;rintro e w1 ⟨rfl,hb1⟩));go_ret;exact⟨rfl,(hb1.trans (hb2.mono hb1.size)).alloc (hb1.trans (hb2.mono hb1.size)).size _⟩
theorem Xc (s:ByteArray)(w:World)(hs:s.size<=900)(ah:List Tok)(aj:List Nd)(h:ji s.data.toList 60=.good ah aj):uq s w:=by
 unfold uq;obtain⟨p,F⟩:=JY (by omega) h
 have hI:¬ ((900:Int)<(s.size:Int)):=by omega
 have h2:decide ((900:Int)<(s.size:Int))=false:=dX (by omega);have HP:=ay (λW=>yI s W (by omega) ah aj p h F);have hm:=F.mid (by rw[aY];omega);have hsm:=F.ZO;generalize p.pp ah=pp at *
 have hme:pp.erase.z.mid:=by rw[Uq];exact hm.er
 have HE:=ay (Xa pp hsm.QZ hsm.Q0 λd hd=>(hsm.defs d hd).few);have Jo:=ay (Kq [111,119,110] pp hm (by decide));have zH:=ay (Kq [111,119,110] pp.erase hme (by decide));have hok:=SX pp.z [111,119,110]
 have her:pp.z.types [111,119,110]=none->pp.erase.z.types [111,119,110]=none:=λq=>by rw[Uq];exact abm q
 generalize pp.z.types [111,119,110]=f1 at *;generalize pp.erase.z.types [111,119,110]=f2 at *;clear h F hsm hm hme;go_enter Tryz.func3,Tryz.ntmps3
 go_upto_region 6 with (first|(go_at_call 9;refine(HP.out w1).mono ?_;rintro e w2 ⟨ai,ci,ad,cd,rfl,hp2,hb2,hn2⟩)|(go_at_call 8;refine(vw _).mono ?_;rintro e w1 ⟨rfl,hb1⟩))
 have yu:=hb1.trans (hb2.mono hb1.size);have g3:=aX w2 (.cells #[.slice ai pp.aD.length ci,.slice ad pp.defs.length cd] 26);have hb3:=yu.alloc yu.size (.cells #[.slice ai pp.aD.length ci,.slice ad pp.defs.length cd] 26)
 have hp3:=(hp2.frame (aW.of (aA w2 (.cells #[.slice ai pp.aD.length ci,.slice ad pp.defs.length cd] 26)))).imp λb _ hl=>hl
 have hl3:w2.heap.size<(w2.alloc (.cells #[.slice ai pp.aD.length ci,.slice ad pp.defs.length cd] 26)).heap.size:=by simp
 change Code.wp _ _ _ _ (w2.alloc (.cells #[.slice ai pp.aD.length ci,.slice ad pp.defs.length cd] 26));clear hb1 hb2 yu hp2 HP;generalize w2.alloc _=w3 at *;generalize w2.heap.size=q at *;obtain⟨c0,c1,-⟩:=bH g3;have H1:=ay (Jo.out ai ci ad cd w3 hp3)
 have HS:Hid (∀ W,Below w3.heap.size w3 W->(W.cell? ⟨q,0,none⟩=some (.slice ai pp.aD.length ci)/\W.cell? ⟨q,1,none⟩=some (.slice ad pp.defs.length cd))):=ay λW hW=>⟨(bH ((hW.block q hl3).trans g3)).1,(bH ((hW.block q hl3).trans g3)).2.1⟩
 have HE1:=ay (λ(W:World) (hW:Below w3.heap.size w3 W)=>HE.out w3.heap.size ai ci ad cd W (hp3.frame (aW.of hW)) hW.size hn2);clear g3 Jo hp3 HE;have ff:=Xb
 cases f1 with
 | some x =>
  have hx:(x.1 != 0)=true:=bne_iff_ne.2 (hok x rfl);obtain⟨xe,xa⟩:=x;simp only at hx;clear her hok;unfold xV DZ F8 at H1;simp only at H1;go_wp2_with (go_at_call 10;refine H1.out.mono ?_;rintro e w4 ⟨rfl,hb4⟩);go_ret;exact⟨rfl,hb3.trans (hb4.mono hb3.size)⟩
 | none =>
  obtain rfl:=her rfl;clear hok her;unfold xV DZ F8 at H1;simp only at H1;have H2:=ay (λ(ai:Option Addr) (ci:Nat) (ad:Option Addr) (cd:Nat) (W:World) h=>zH.out ai ci ad cd W h);unfold xV DZ F8 at H2;simp only at H2;clear zH
  go_wp2_with (first
   | (go_at_call 10;refine(H2.out _ _ _ _ w5 tJ).mono ?_;rintro e w6 ⟨rfl,hb6⟩)
   | (go_at_call 11;refine(HE1.out w4 hb4).mono ?_;rintro e w5 ⟨ai2,ci2,ad2,cd2,rfl,hn5,tJ,hb5⟩)
   | (go_at_call 10;refine H1.out.mono ?_;rintro e w4 ⟨rfl,hb4⟩;obtain⟨d0,d1⟩:=HS.out w4 hb4))
  go_ret;exact⟨rfl,hb3.trans ((hb4.trans (hb5.mono hb4.size)).trans (hb6.mono (hb4.trans (hb5.mono hb4.size)).size) |>.mono hb3.size)⟩
theorem Xd (s:ByteArray)(w:World)(hs:s.size<=maxLen):Calls Tryz.prog 3 #[.string s] w λr w'=>r=.returned (.bool true)/\Below w.heap.size w w':=by
 by_cases h9:s.size<=900
 ·cases h:ji s.data.toList 60 with
  | bad c a=>exact abR s w h9 c a h
  | good ah aj=>exact Xc s w h9 ah aj h
 ·exact abQ s w hs (by omega)
