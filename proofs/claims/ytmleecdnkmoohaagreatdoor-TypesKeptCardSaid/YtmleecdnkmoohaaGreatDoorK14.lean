/- Walks and plain laws, without a condition. -/
import Derived.Test.YtmleecdnkmoohaaGreatDoorK13
set_option maxHeartbeats 16000000
set_option maxRecDepth 100000
set_option linter.unusedVariables false
set_option linter.unusedSimpArgs false
namespace Go.Proofs.YtmleecdnkmoohaaGreatDoor
open Go.RowKit Go
variable{w w':World}{B k b:Nat}{kv c0 c1:Value}{p:ZP}
theorem aO.low {lb:Nat}{w5 w7:World}(h:aO lb w w5)(hb:Below w.heap.size w5 w7)(hl:lb<w.heap.size):aO lb w w7 :=
 ⟨λB hB=>(h.1 B hB).trans (hb.mono (by omega)),⟨jq h.2.1 hb.size,λb hb1 hb2=>(hb.block b hb2).trans (h.2.2 b hb1 hb2)⟩⟩
theorem Gd (E:SE):∀ (l:List ZF) (s:List aH × Fl),(gM E s l).1.length<=s.1.length+l.length
 | [],s=>bD _
 | f :: l,s=>by
  have h1:=Gd E l (gD (s.1++[f.name]),kY (kY s.2 (if f.name∈s.1 then some (30,f.at_) else none)) (cK E (gD (s.1++[f.name])) false f.aC));have h2:=pR (s.1++[f.name]);rw[bY,List.length_singleton] at h2;rw[gM,fu];simp only at h1;omega
theorem xS (E:SE):∀ (l:List ZF) (s:List aH × Fl),bq s.2->bq (gM E s l).2
 | [],s,h=>h
 | f :: l,s,h=>xS E l _ ((h.or (by split;exact bq.some (by decide);exact bq.none)).or (o8 E _ _ _))
structure ZD.qF (d:ZD):Prop where
 lX:d.params.length<=1000
 pcl:∀ f∈d.params,f.aC.length<=1000/\∀ e∈f.aC,e.size<=400000
 cl:d.res.aC.length<=1000/\∀ e∈d.res.aC,e.size<=400000
 body:d.body.size<=400000
theorem Zk (E:SE)(C:PU)(lb B:Nat)(im:Value)(f:Fl)(d:ZD)(ap:Option Addr)(cp:Nat)(ac:Option Addr)(cc:Nat)(am:Option Addr)(wn cm:Nat)(ae:Option Addr)(ce:Nat)(w:World)(hL:ku C lb im f w)(hM:ScM E C lb B im w)(hf:bq f)(hfit:d.qF)
  (hP:RowK ZFK (λb=>b≠lb) w (.slice ap d.params.length cp) d.params) (hC:RowK (ZK YA) (λb=>b≠lb) w (.slice ac d.res.aC.length cc) d.res.aC) (hE:l7 YA (λb=>b≠lb) w (.slice am wn cm) (.slice ae d.body.aB.length ce) d.body) :
  Calls Tryz.prog 40 #[.pointer (some ⟨lb,0,none⟩),.agg (gN d ap cp ac cc am wn cm ae ce)] w (zy C lb im (sJ E f d) w):=by
 have hal:=(aA w (.cells (gN d ap cp ac cc am wn cm ae ce) 62)).alloc (by simp) (.cells #[.slice none 0 0] 120);have g0:=(gZ (w.alloc (.cells (gN d ap cp ac cc am wn cm ae ce) 62)) (.cells #[.slice none 0 0] 120) w.heap.size (by simp)).trans (aX w (.cells (gN d ap cp ac cc am wn cm ae ce) 62));have g1:=aX (w.alloc (.cells (gN d ap cp ac cc am wn cm ae ce) 62)) (.cells #[.slice none 0 0] 120);rw[nG] at g1;obtain⟨PN,PO,hv,_,hform⟩:=hP.form;simp only[Value.slice.injEq] at hv;obtain⟨rfl,-,rfl⟩:=hv;have Vj:=hL.lt;have hL1:=hL.below hal;have HF:=ay hform;have HL0:=ay hL;have HM0:=ay hM;have Ay:=ay hf;have rZ:=ay hfit;have VH:=ay hC;have HE0:=ay hE;have hpn:=hfit.lX;clear hL hM hf hform hP hC hE hfit
 obtain⟨R,hR⟩:∃ R,R=sJ E f d:=⟨_,rfl⟩
 rw[<- hR];have sU:=ay hR;clear hR;go_enter Tryz.func40,Tryz.ntmps40
 go_upto_region 2 with fail
 change Code.wp _ _ _ _ ((w.alloc (.cells (gN d ap cp ac cc am wn cm ae ce) 62)).alloc (.cells #[.slice none 0 0] 120));generalize (w.alloc (.cells (gN d ap cp ac cc am wn cm ae ce) 62)).alloc (.cells #[.slice none 0 0] 120)=w1 at *;have hz1:=hal.size;have hl1:=(bP g1).1;have hk1:=aO.of hal Vj;obtain⟨y0,y1,y2,y3,y4,y5,y6,y7,y8,y9,rP,rQ,rR,y13,PV⟩:=aV g0;have RO:=ay hL1;have HG:=ay (gy g0 g1);clear hL1 g0 g1;generalize hps:d.params=ps at *;go_wp2;clear y0 y1 y2 y3 y4 y5 y6 y7 y8 y9 rP rQ rR y13 PV
 go_loopw [6,10] (λ_ q wr=>∃ (k:Nat) (ab:Option Addr) (cb:Nat) (bd:List aH) (fk:Fl),k<=ps.length/\q=.int .i64 k/\gM E ([],f) (ps.take k)=(bd,fk)/\ku C lb im fk wr/\wr.heap[w.heap.size]?=some (.cells (gN d ap cp ac cc am wn cm ae ce) 62 (0,0))/\wr.heap[w.heap.size+1]?=some (.cells #[.slice ab bd.length cb] 120 (0,0))/\fK (λb=>b≠lb/\b≠w.heap.size+1) wr (.slice ab bd.length cb) bd/\bd.Pairwise (· < ·)/\aO lb w wr) (λ_ q _=>ps.length - (intOf q).toNat)
 case atStart=>exact⟨0,none,0,[],f,kJ _,rfl,rfl,RO.out,HG.out.1,HG.out.2,fK.nil _ _,List.Pairwise.nil,hk1⟩
 case round =>
  obtain⟨k,ab,cb,bd,fk,hk,rfl,hsc,hlr,gd,gv,htr,hrr,hkr⟩:=hrel;have DY:=hkr.2.1;have A9:=ay hlr;have Tt:=ay hsc;have hbl:=Gd E (ps.take k) ([],f);rw[hsc,pK] at hbl;have Lv:=xS E (ps.take k) ([],f) Ay.out;rw[hsc] at Lv;have HFK:=ay Lv
  have hbd:bd.length<=1000:=by simp only[jC] at hbl;omega
  have hdl:=(bP gd).1;have hvl:=(bP gv).1;have hMr:=HM0.out.keep HL0.out hkr.2;have HMR:=ay hMr;have HGD:=ay gd;have HGV:=ay gv;have Md:=ay htr;have HRR:=ay hrr;clear hlr hsc hbl Lv hMr gd gv htr hrr
  by_cases hlt:k<ps.length
  ·obtain⟨b,off,rfl,hPb,hbw,iw⟩:=HF.out (by omega)
   obtain⟨cv,hcl,hc⟩:=iw k hlt;obtain⟨a2,c2,rfl⟩:=RowK.slice hcl
   have dI:∀ (j:Nat) (u:Value),w.cell? ⟨b,off+k * 5+j,none⟩=some u->wr.cell? ⟨b,off+k * 5+j,none⟩=some u:=λj u h=>(yK (a:=⟨b,off+k * 5+j,none⟩) (hkr.2.2 b hPb hbw)).trans h
   have x0:=dI 0 _ (hc 0 _ rfl);have x1:=dI 1 _ (hc 1 _ rfl);have x2:=dI 2 _ (hc 2 _ rfl);have x3:=dI 3 _ (hc 3 _ rfl);have x4:=dI 4 _ (hc 4 _ rfl);rw[nZ] at x0;simp only[fC] at x0;have hsn:=Oe E ([],f) hlt;rw[Tt.out] at hsn;have hpf:=rZ.out.pcl _ (by rw[hps];exact nH hlt);have rO:=ay hsn;have HPF:=ay hpf;have DL:=ay hcl;clear iw hcl hc dI hsn hpf;generalize ps[k]=p at *;have fJ:=aA wr (.cells #[.string ⟨p.name.toArray⟩,.int .i64 p.base,.slice a2 p.aC.length c2,.int .i64 p.at_,.int .i64 p.bare] 103);have gk:=aX wr (.cells #[.string ⟨p.name.toArray⟩,.int .i64 p.base,.slice a2 p.aC.length c2,.int .i64 p.at_,.int .i64 p.bare] 103)
   have nK:(k:Int)<(ps.length:Int):=by omega
   have Oy:lb<wr.heap.size:=A9.out.lt
   go_upto_region 5 with fail
   change Code.wp _ _ _ _ (wr.alloc (.cells #[.string ⟨p.name.toArray⟩,.int .i64 p.base,.slice a2 p.aC.length c2,.int .i64 p.at_,.int .i64 p.bare] 103));clear x0 x1 x2 x3 x4
   have aer:wr.heap.size<(wr.alloc (.cells #[.string ⟨p.name.toArray⟩,.int .i64 p.base,.slice a2 p.aC.length c2,.int .i64 p.at_,.int .i64 p.bare] 103)).heap.size:=by simp
   generalize wr.alloc (.cells #[.string ⟨p.name.toArray⟩,.int .i64 p.base,.slice a2 p.aC.length c2,.int .i64 p.at_,.int .i64 p.bare] 103)=w3 at *;have hz3:=fJ.size;have hL3:=A9.out.below fJ;have gd3:=(fJ.block _ hdl).trans HGD.out;have gv3:=(fJ.block _ hvl).trans HGV.out;obtain⟨p0,p1,p2,p3,p4⟩:=dF gk;obtain⟨q0,qz⟩:=bN gv3;have IJ:=ay hL3;have agm:=ay gd3;have aes:=ay gv3;have Zi:=ay gk;have Ya:=Md.out.below fJ;have HT3:=ay Ya;have HH:=ay (Ar _ ab cb bd ⟨p.name.toArray⟩ w3 Ya HRR.out (by omega));simp only at HH
   obtain⟨m,hm⟩:∃ m,m=decide (p.name∈bd):=⟨_,rfl⟩
   rw[<- hm] at HH;have uy:=ay hm
   obtain⟨f1,hf1⟩:∃ f1,f1=kY fk (if p.name∈bd then some (30,p.at_) else none):=⟨_,rfl⟩
   have D5:=ay hf1;clear hm hf1 hL3 gd3 gv3 gk Ya;clear p0 p1 p2 p3 p4 q0 qz;obtain⟨p0,p1,p2,p3,p4⟩:=dF Zi.out;obtain⟨q0,-⟩:=bN aes.out
   go_upto_if 17 with (go_at_call 78;refine HH.out.mono ?_;rintro e w4 ⟨rfl,hb4⟩)
   clear p0 p1 p2 p3 p4 q0;have BJ:=hb4.size;have agn:=ay ((hb4.block _ (by omega)).trans agm.out);have agp:=ay ((hb4.block _ (by omega)).trans aes.out);have aeu:=ay ((hb4.block _ aer).trans Zi.out);have HL4:=ay (IJ.out.below hb4);have HT4:=ay (HT3.out.below hb4);have hk4:aO lb w w4:=hkr.trans (aO.of (fJ.trans (hb4.mono hz3)) Oy);obtain⟨p0,p1,p2,p3,p4⟩:=dF aeu.out
   have hne1:w.heap.size≠lb:=by omega
   have hne2:w.heap.size+1≠lb:=by omega
   have Oz:wr.heap.size≠lb:=by omega
   have agq:wr.heap.size≠w.heap.size+1:=by omega
   clear agm aes Zi IJ HT3 HH HGD HGV Md A9
   go_cut [] (λwc=>ku C lb im f1 wc/\aO lb w4 wc)
   case first =>
    cases m with
    | true =>
     have HE:Hid (f1=kY fk (some (30,p.at_))):=ay (by rw[D5.out,bR (PY uy.out.symm)]);have JR:=ay (oZ C lb im fk 30 p.at_ w4 HL4.out HFK.out);clear uy D5;go_wp2_with (go_at_call 37;refine JR.out.mono ?_;rintro e w5 ⟨rfl,hl5,iN⟩)
     go_meet
     exact⟨by rw[HE.out];exact hl5,iN⟩
    | false =>
     have HE:Hid (f1=fk):=ay (by rw[D5.out,aU (of_decide_eq_false uy.out.symm),qg]);clear uy D5;go_wp2
     go_meet
     exact⟨by rw[HE.out];exact HL4.out,aO.refl _ _⟩
   case rest =>
    obtain⟨hl5,iN⟩:=hcut
    obtain⟨w5,rfl⟩:∃ w5:World,w5=wc:=⟨_,rfl⟩
    clear p0 p1 p2 p3 p4;have Tk:=iN.2.1;have gd5:=(iN.2.2 _ hne1 (by omega)).trans agn.out;have gv5:=(iN.2.2 _ hne2 (by omega)).trans agp.out;have gk5:=(iN.2.2 _ Oz (by omega)).trans aeu.out;have hT5:=HT4.out.frame (⟨iN.2.1,λb hb hl=>iN.2.2 b hb.1 hl⟩:aW (λb=>b≠lb/\b≠w.heap.size+1) w4 w5);have M8:=hk4.trans iN;have hb6:Below w5.heap.size w5 (w5.alloc (.cells #[.string ⟨p.name.toArray⟩] 9)):=aA w5 _;have hsl:=pR (bd++[p.name]);rw[bY,List.length_singleton] at hsl;have HW:=ay (Av (λ_=>True) ab cb (.slice (some ⟨w5.heap.size,0,none⟩) 1 1) bd [p.name] (w5.alloc (.cells #[.string ⟨p.name.toArray⟩] 9)) ((hT5.below (aA w5 _)).imp λ_ _ _=>trivial) (Ej w5 p.name) (by omega) (by simp))
    have hstep:gM E ([],f) (ps.take (k+1))=(gD (bd++[p.name]),kY f1 (cK E (gD (bd++[p.name])) false p.aC)):=by rw[rO.out,D5.out];rfl
    have Zl:=ay hstep;have HSR:=ay (pQ (bd++[p.name]))
    have Ox:bq f1:=by rw[D5.out];exact HFK.out.or (by split;exact bq.some (by decide);exact bq.none)
    have V5:=ay Ox;have OA:=ay hl5;have Zm:=ay gd5;have agr:=ay gv5;have ags:=ay gk5;obtain⟨p0,p1,p2,p3,p4⟩:=dF gk5;obtain⟨q0,qz⟩:=bN gv5;have agt:lb<w5.heap.size:=hl5.lt;clear hstep Ox hl5 gd5 gv5 gk5 agn agp aeu HL4 HT4 hT5 rO D5 uy;generalize gD (bd++[p.name])=S at *
    go_upto_region 8 with (go_at_call 61;refine HW.out.mono ?_;rintro e w6 ⟨a6,c6,rfl,ht6,ahP⟩;have oU:=hb6.trans (ahP.mono (by simp));have gv6:=(oU.block _ (by omega)).trans agr.out;have hfz:=(bN gv6).2;have hc0:=(bN gv6).1)
    have hz6:=oU.size;have gv7:=jN w6 (w.heap.size+1) 0 _ _ (.slice a6 S.length c6) gv6;have hL7:ku C lb im f1 (w6.setCell ⟨w.heap.size+1,0,none⟩ (.slice a6 S.length c6)):=(qm _ _ _ _ (Ne.symm hne2)).trans (OA.out.below oU);have gd7:=(qm w6 ⟨w.heap.size+1,0,none⟩ w.heap.size (.slice a6 S.length c6) (by show w.heap.size≠w.heap.size+1;omega)).trans ((oU.block _ (by omega)).trans Zm.out);have gk7:=(qm w6 ⟨w.heap.size+1,0,none⟩ wr.heap.size (.slice a6 S.length c6) (by show wr.heap.size≠w.heap.size+1;omega)).trans ((oU.block _ (by omega)).trans ags.out);have Lx:Below w.heap.size w5 (w6.setCell ⟨w.heap.size+1,0,none⟩ (.slice a6 S.length c6)):=(oU.mono (by omega)).setCell (by show w.heap.size<=w.heap.size+1;omega) _;have acL:aO lb w (w6.setCell ⟨w.heap.size+1,0,none⟩ (.slice a6 S.length c6)):=M8.low Lx Vj
    have Zn:fK (λb=>b≠lb/\b≠w.heap.size+1) (w6.setCell ⟨w.heap.size+1,0,none⟩ (.slice a6 S.length c6)) (.slice a6 S.length c6) S:=(ht6.frame (aW.set _ λb hb=>by have:=hb6.size;show b≠w.heap.size+1;omega)).imp λb hb _=>by have:=hb6.size;exact⟨by omega,by omega⟩
    have HCA:=ay (Di E C lb B im f1 a2 c2 p.aC a6 c6 S false _ hL7 (HM0.out.keep HL0.out acL.2) V5.out (RowK.frame DL.out acL.2) (Zn.imp λb hb _=>hb.1) HSR.out (λe he=>by have:=HPF.out.2 e he;omega) (by have:=HPF.out.1;omega));clear p0 p1 p2 p3 p4 q0 qz hfz hc0;generalize w6.setCell _ _=w7 at *;obtain⟨p0,p1,p2,p3,p4⟩:=dF gk7;obtain⟨q0,-⟩:=bN gv7;have hz7:=acL.2.1;have ahQ:=ay gd7;have ahR:=ay gv7;have HT7:=ay Zn;have hd7:=(bP gd7).1;have hv7:=(bP gv7).1;clear gk7 gd7 gv7 Zn hL7 gv6 OA Zm agr ags HW ht6;go_wp2_with (go_at_call 83;refine HCA.out.mono ?_;rintro e w8 ⟨rfl,hl8,DI⟩)
    go_roundw
    case rel=>exact⟨k+1,a6,c6,S,kY f1 (cK E S false p.aC),by omega,by go_num,Zl.out,hl8,(DI.2.2 _ hne1 hd7).trans ahQ.out,(DI.2.2 _ hne2 hv7).trans ahR.out,HT7.out.frame ⟨DI.2.1,λb hb hl=>DI.2.2 b hb.1 hl⟩,HSR.out,acL.trans DI⟩
    case measure=>simp[intOf];omega
  ·obtain rfl:k=ps.length:=by omega
   have nK:decide ((ps.length:Int)<(ps.length:Int))=false:=dX (by omega);have hsc2:=Tt.out;rw[zG,<- hps] at hsc2
   have hne1:w.heap.size≠lb:=by omega
   have hne2:w.heap.size+1≠lb:=by omega
   have HCA:=ay (Di E C lb B im fk ac cc d.res.aC ab cb bd true wr A9.out HMR.out HFK.out (RowK.frame VH.out hkr.2) (Md.out.imp λb hb _=>hb.1) HRR.out (λe he=>by have:=rZ.out.cl.2 e he;omega) (by have:=rZ.out.cl.1;omega));have agu:bq (kY fk (cK E bd true d.res.aC)):=HFK.out.or (o8 E _ _ _);have HF2:=ay agu;have HD2:Hid (R=kY (kY fk (cK E bd true d.res.aC)) (d.body.gY E bd false)):=ay (by rw[sU.out,sJ,hsc2]);obtain⟨y0,y1,y2,y3,y4,y5,y6,y7,y8,y9,rP,rQ,rR,y13,PV⟩:=aV HGD.out;obtain⟨q0,-⟩:=bN HGV.out;clear hsc2 agu Tt
   go_upto_region 11 with (go_at_call 83;refine HCA.out.mono ?_;rintro e w8 ⟨rfl,hl8,DI⟩)
   clear y0 y1 y2 y3 y4 y5 y6 y7 y8 y9 rP rQ rR y13 PV q0;have gd8:=(DI.2.2 _ hne1 hdl).trans HGD.out;have gv8:=(DI.2.2 _ hne2 hvl).trans HGV.out;obtain⟨y0,y1,y2,y3,y4,y5,y6,y7,y8,y9,rP,rQ,rR,y13,PV⟩:=aV gd8;obtain⟨q0,-⟩:=bN gv8;have HEX:=ay (Cb d.body E C lb B im (kY fk (cK E bd true d.res.aC)) am wn cm ae ce ab cb bd false w8 hl8 (HMR.out.keep A9.out DI.2) HF2.out (l7.frame (hkr.trans DI).2 HE0.out) ((Md.out.frame ⟨DI.2.1,λb hb hl=>DI.2.2 b hb.1 hl⟩).imp λb hb _=>hb.1) HRR.out (by have:=rZ.out.body;omega));unfold aR at HEX;rw[<- HD2.out] at HEX;clear gd8 gv8 hl8 HCA;go_wp2_with (go_at_call 84;refine HEX.out.mono ?_;rintro e w9 ⟨rfl,hl9,X8⟩)
   go_end0
   exact⟨rfl,hl9,(hkr.trans DI).trans X8⟩
theorem wT {base:Int}{ks:List PZ}(h:iL base ks=true):(base=1\/base=2)/\ks.length<=1/\∀ e∈ks,e.right true=true:=by
 unfold iL at h;simp only[uw,Bool.or_eq_true,AZ] at h;exact⟨h.1,h.2.1,λe he=>wh.1 h.2.2 e he⟩
def Zo (f:FuncId)(lb:Array Value)(B' b:Nat)(w:World)(x:ZF):Prop:=∀ (acc:aH) (W:World) (ac:Option Addr) (cc:Nat),iK w B' b acc W->kV B' W ac x.aC->acc.length+x.text.length<=1099511627776 ->
 Calls Tryz.prog f (#[.agg #[.string ⟨x.name.toArray⟩,.int .i64 x.base,.slice ac x.aC.length cc,.int .i64 x.at_,.int .i64 x.bare]]++lb) W (bS B' b (acc++x.text) W)
theorem Zp (x:ZF)(hr:x.right=true)(hf:x.fit)(B' b tb:Nat)(acc0:aH)(w:World)(hb0:lV B' b acc0 w 225)(ht:w.heap[tb]?=some (.cells #[.pointer (some ⟨b,0,none⟩)] 220 (0,0)))(hB:B'<=w.heap.size) :
  Zo 182 #[.pointer (some ⟨tb,0,none⟩)] B' b w x:=by
 intro acc W ac cc st hE hn;rw[ZF.right,uw] at hr;obtain⟨yu,hk1,hkr⟩:=wT hr.2;have hT:=st.box hb0 ht (by decide) (by decide);have hal:=aA W (.cells #[.string ⟨x.name.toArray⟩,.int .i64 x.base,.slice ac x.aC.length cc,.int .i64 x.at_,.int .i64 x.bare] 103);have hN:=aX W (.cells #[.string ⟨x.name.toArray⟩,.int .i64 x.base,.slice ac x.aC.length cc,.int .i64 x.at_,.int .i64 x.bare] 103);have hBW:=jq hB st.kW.size;have hT1:=(hal.block tb (bP hT).1).trans hT;have s1:=(iK.start st.lU).below hal hBW;have hE1:=hE.below hal;have hB1:=jq hBW hal.size;have V8:=ay (λ(a:aH) (V:World) hk hbd TW hl=>FY x.base yu x.aC B' B' b ac cc a V (λe he=>xQ _ e (Nat.lt_succ_self _) (hkr e he) (hf.2.2 e he)) hk (bD _) hbd TW hl (by omega))
 have htx:acc++x.text=(acc++(x.name++[58,32]))++kX x.base x.aC:=by rw[ZF.text];simp[om]
 have hln:acc.length+x.name.length+2+(kX x.base x.aC).length<=1099511627776:=by
  have:=congrArg List.length htx;simp only[bY,fu,jC] at this;omega
 rw[htx];have eN:(ByteArray.mk x.name.toArray).data.toList=x.name:=rfl
 have eN2:(ByteArray.mk x.name.toArray).size=x.name.length:=by show x.name.toArray.size=_;simp
 have HE1:=ay hE1;show Calls _ _ #[_,_] _ _;clear hE hn st hT ht hb0 hr hkr hf htx hE1;generalize kX x.base x.aC=ty at *;go_enter Tryz.func182,Tryz.ntmps182
 go_upto_region 1 with fail
 change Code.wp _ _ _ _ (W.alloc (.cells #[.string ⟨x.name.toArray⟩,.int .i64 x.base,.slice ac x.aC.length cc,.int .i64 x.at_,.int .i64 x.bare] 103));generalize W.alloc _=w1 at hal hN hT1 s1 HE1 hB1 |-;obtain⟨y0,y1,y2,y3,y4⟩:=dF hN
 have yt:w1.cell? ⟨tb,0,none⟩=some (.pointer (some ⟨b,0,none⟩)):=by rw[aZ hT1];rfl
 have HW:=ay (xO ⟨x.name.toArray⟩ ⟨#[58,32]⟩ B' b acc w1 s1.lU hB1 (by rw[eN2];show _+2<=_;omega));have H7:=ay s1;have HN:=ay hN;have HT1:=ay hT1;clear hN hT1 s1 eN eN2
 go_upto_region 2 with (go_at_call 120;refine HW.out.mono ?_;rintro r w2 h2;obtain rfl:=h2.eq)
 have s2:=(iK.start H7.out.lU).write h2;have hz2:=s2.kW.size;clear y0 y1 y2 y3 y4 yt;obtain⟨y0,y1,y2,y3,y4⟩:=dF (s2.box H7.out.lU HN.out (by decide) (by decide))
 have yt:w2.cell? ⟨tb,0,none⟩=some (.pointer (some ⟨b,0,none⟩)):=by rw[aZ (s2.box H7.out.lU HT1.out (by decide) (by decide))];rfl
 have HY:=ay (V8.out (acc++(x.name++[58,32])) w2 (HE1.out.rV s2.kW) s2.lU (by omega) (by simp only[bY,fu,jC];omega));have HS2:=ay s2;clear V8 HW h2 s2 HN HT1 HE1;go_wp2_with (go_at_call 183;refine HY.out.mono ?_;rintro r w3 h3;obtain rfl:=h3.eq)
 go_end0
 exact bS.from hal hBW (HS2.out.write h3)
theorem V9 (f:FuncId)(lb:Array Value)(eg:∀ args w,(callFunc f args).run Tryz.prog w=.ok (.enter f args) w)(ks:List ZF)(B B' b:Nat)(ae:Option Addr)(ce:Nat)(acc:aH)(w:World)(hk:∀ x∈ks,Zo f lb B' b w x)(h:C8 B w ae ks)(mZ:B<=B')(hbd:lV B' b acc w 225)(hB:B'<=w.heap.size)(hn:acc.length+(bO (ks.map ZF.text)).length<=1099511627776)(hkl:ks.length<=1000000) :
  Calls Tryz.prog 181 #[.pointer (some ⟨b,0,none⟩),.slice ae ks.length ce,.func (.func f) #[] lb] w (bS B' b (acc++bO (ks.map ZF.text)) w):=by
 have HH:=ay h;have HK:=ay hk;have HB:=ay hbd;clear h hk hbd;go_enter Tryz.func181,Tryz.ntmps181;go_wp2
 go_loopw [6,10] (λ_ q wr=>∃ k:Nat,k<=ks.length/\q=.int .i64 k/\iK w B' b (acc++bO ((ks.map ZF.text).take k)) wr) (λ_ q _=>ks.length - (intOf q).toNat)
 case atStart=>exact⟨0,kJ _,rfl,by simpa [bO] using iK.start HB.out⟩
 case round =>
  obtain⟨k,hkk,rfl,st⟩:=hrel;have hz:=st.kW.size
  by_cases hlt:k<ks.length
  ·have hlm:k<(ks.map ZF.text).length:=by simpa using hlt
   have hts:(ks.map ZF.text).take (k+1)=(ks.map ZF.text).take k++[ks[k].text]:=by rw[zF hlm];simp
   have hsn:=sI ((ks.map ZF.text).take k) ks[k].text;rw[<- hts] at hsn;have hle:=BO ((ks.map ZF.text).take (k+1)) ((ks.map ZF.text).drop (k+1));rw[List.take_append_drop] at hle
   have hnil:((ks.map ZF.text).take k=[])↔k=0:=by
    constructor
    ·intro q
     have:=congrArg List.length q;rw[pK,jC] at this;omega
    ·rintro rfl;rfl
   simp only[hnil] at hsn;have HD:=ay (HK.out _ (nH hlt));obtain⟨kb,off,rfl,hkB,Cc,iw⟩:=HH.out.rV (st.kW.mono mZ) (by omega);obtain⟨ac,cc,hE,x0,x1,x2,x3,x4⟩:=iw k hlt;have rO:=ay hsn;have HST:=ay st
   have hc0:k=0->bO ((ks.map ZF.text).take k)=[]:=by rintro rfl;rfl
   have VH:=ay hc0;clear hsn hts hlm hnil st hc0 iw;generalize bO ((ks.map ZF.text).take k)=c at rO HST VH;generalize hcc:bO ((ks.map ZF.text).take (k+1))=c2 at hle rO;have HCC:=ay hcc;clear hcc;generalize ks[k]=x at *
   have nK:(k:Int)<(ks.length:Int):=by omega
   have hln:acc.length+c2.length<=1099511627776:=by omega
   have hal:=aA wr (.cells #[.string ⟨x.name.toArray⟩,.int .i64 x.base,.slice ac x.aC.length cc,.int .i64 x.at_,.int .i64 x.bare] 103);have hN:=aX wr (.cells #[.string ⟨x.name.toArray⟩,.int .i64 x.base,.slice ac x.aC.length cc,.int .i64 x.at_,.int .i64 x.bare] 103);have s1:=HST.out.below hal hB
   have hE1:kV B' (wr.alloc (.cells #[.string ⟨x.name.toArray⟩,.int .i64 x.base,.slice ac x.aC.length cc,.int .i64 x.at_,.int .i64 x.bare] 103)) ac x.aC:=λh0=>by
    obtain⟨q,o,q1,q2,q3,q4⟩:=hE.below hal h0;refine⟨q,o,q1,by omega,q3,λi hi=>?_⟩;obtain⟨Ef,wn',Eh,Le,Lf,q5,q6⟩:=q4 i hi;exact⟨Ef,wn',Eh,Le,Lf,q5.imp λb hb _=>by omega,q6⟩
   clear hle hE
   go_upto_region 3 with fail
   change Code.wp _ _ _ _ (wr.alloc (.cells #[.string ⟨x.name.toArray⟩,.int .i64 x.base,.slice ac x.aC.length cc,.int .i64 x.at_,.int .i64 x.bare] 103));clear x0 x1 x2 x3 x4;generalize wr.alloc _=w1 at hal hN s1 hE1 |-;have hz1:=hal.size
   by_cases h0:k=0
   ·have Y4:Hid (c2=x.text):=ay (by rw[rO.out,bR h0])
    have hc0:=VH.out h0;subst hc0;rw[List.append_nil] at s1;have HX:=ay (HD.out acc w1 ac cc s1 hE1 (by rw[<- Y4.out];exact hln));have zH:Hid (bO ((ks.map ZF.text).take (k+1))=c2):=HCC;have H7:=ay s1;obtain⟨y0,y1,y2,y3,y4⟩:=dF hN
    have VI:(k:Int)<=0:=by omega
    clear rO HST HD hal hN s1 hE1 VH HCC h0;go_wp2_with (go_at_fn f;refine HX.out.mono ?_;rintro r w3 h3;obtain rfl:=h3.eq);refine⟨⟨k+1,by omega,by go_num,?_⟩,by simp[intOf];omega⟩;rw[zH.out,Y4.out];exact H7.out.write h3
   ·have Y4:Hid (c2=c++[44,32]++x.text):=ay (by rw[rO.out,aU h0])
    have hl2:acc.length+c.length+2+x.text.length<=1099511627776:=by
     have:=congrArg List.length Y4.out;simp only[bY,fu,jC] at this;omega
    have VI:(0:Int)<(k:Int):=by omega
    have zH:Hid (bO ((ks.map ZF.text).take (k+1))=c2):=HCC;clear h0 rO VH HCC hln
    go_upto_region 5 with (go_at_call 120;refine(dO ⟨#[44,32]⟩ B' b (acc++c) w1 s1.lU (by omega) (by show (acc++c).length+2<=_;rw[bY];omega)).mono ?_;rintro r w2 h2;obtain rfl:=h2.eq)
    have s2:=s1.write h2;obtain⟨y0,y1,y2,y3,y4⟩:=dF (s1.lU.block h2.2.2.2 hN (by decide) (by decide));have HX:=ay (HD.out (acc++c++[44,32]) w2 ac cc s2 (hE1.rV h2.2.2.1) (by simp only[bY,fu,jC];omega));have H7:=ay s2;clear HST HD hal hN s1 hE1 s2 h2;go_wp2_with (go_at_fn f;refine HX.out.mono ?_;rintro r w3 h3;obtain rfl:=h3.eq);refine⟨⟨k+1,by omega,by go_num,?_⟩,by simp[intOf];omega⟩;have:=H7.out.write h3;rw[zH.out,Y4.out]
    simpa [om] using this
  ·obtain rfl:k=ks.length:=by omega
   have nK:decide ((ks.length:Int)<(ks.length:Int))=false:=dX (by omega);rw[show (ks.map ZF.text).take ks.length=ks.map ZF.text by rw[Ba (by simp)]] at st;have HST:=ay st;clear st;go_wp2
   go_end0
   exact⟨rfl,HST.out.lU,HST.out.kW,HST.out.kept⟩
theorem Zq (d:ZD)(hs:d.sound=true)(hf:d.fit)(B B' b:Nat)(ap:Option Addr)(cp:Nat)(ac:Option Addr)(cc:Nat)(am:Option Addr)(wn cm:Nat)(ae:Option Addr)(ce:Nat)(acc:aH)(w:World)(h:D6 d B ap cp ac cc am wn cm ae ce w)(mZ:B<=B')(hbd:lV B' b acc w 225)(hB:B'<=w.heap.size)(hn:acc.length+d.text.length<=1099511627776) :
  Calls Tryz.prog 122 #[.pointer (some ⟨b,0,none⟩),.agg #[.bool d.pub,.string ⟨d.res.name.toArray⟩,.slice ap d.params.length cp,.int .i64 d.res.base,.slice ac d.res.aC.length cc,.int .i64 d.body.op,.string ⟨d.body.name.toArray⟩,.string ⟨d.body.module.toArray⟩,.bool (decide (d.body.num<0)),.slice am wn cm,.bool d.body.yes,.slice ae d.body.aB.length ce,.int .i64 d.body.at_,.int .i64 d.res.at_,.int .i64 d.res.bare]] w (bS B' b (acc++d.text) w):=by
 obtain⟨f1,f2,f3,f4⟩:=hf;have hs':=hs;rw[ZD.sound] at hs';simp only[uw,AZ,Bool.not_eq_true',List.any_eq_false] at hs';obtain⟨hs1,hs2,hs3,hs4,hs5⟩:=hs'
 have hpr:∀ x∈d.params,x.right=true:=λx hx=>by have:=hs3 x hx;simpa using this
 obtain⟨yu,hk1,hkr⟩:=wT hs4
 obtain⟨pb,hpb⟩:∃ l,l=if d.pub=true then [112,117,98,32] else ([]:aH):=⟨_,rfl⟩
 have eNz:(ByteArray.mk d.res.name.toArray).size=d.res.name.length:=by show d.res.name.toArray.size=_;simp
 have hout:acc++d.text=acc++pb++([102,117,110,32]++(d.res.name++[40]))++bO (d.params.map ZF.text)++[41,58,32]++kX d.res.base d.res.aC++[32,61,32]++d.body.text++[59,10]:=by
  rw[ZD.text,<- hpb];simp[om]
 have hal:=(aA w (.cells #[.pointer (some ⟨b,0,none⟩)] 220)).alloc (by simp) (.cells (gN d ap cp ac cc am wn cm ae ce) 62);have hT:=(gZ (w.alloc (.cells #[.pointer (some ⟨b,0,none⟩)] 220)) (.cells (gN d ap cp ac cc am wn cm ae ce) 62) w.heap.size (by simp)).trans (aX w (.cells #[.pointer (some ⟨b,0,none⟩)] 220));have hN:=aX (w.alloc (.cells #[.pointer (some ⟨b,0,none⟩)] 220)) (.cells (gN d ap cp ac cc am wn cm ae ce) 62);rw[nG] at hN;have hb1:=hbd.mE hal;have yj:=hal.mono hB;have hB1:=jq hB hal.size;have h1:=h.below hal;have ent:=enters_of Tryz.func182 (by kernel_rfl) rfl
 have hL:=λ(a:aH) (V:World) (w1:World) (hV:Below B' w1 V) (h1:D6 d B ap cp ac cc am wn cm ae ce w1) (hbv:lV B' b a V 225) (ht:V.heap[w.heap.size]?=some (.cells #[.pointer (some ⟨b,0,none⟩)] 220 (0,0))) (TW:B'<=V.heap.size) (hl:a.length+(bO (d.params.map ZF.text)).length<=1099511627776)=>V9 182 #[.pointer (some ⟨w.heap.size,0,none⟩)] ent d.params B B' b ap cp a V (λx hx=>Zp x (hpr x hx) (f2 x hx) B' b w.heap.size a V hbv ht TW) (h1.rV (hV.mono mZ)).lX mZ hbv TW hl f1
 have hTY:=λ(a:aH) (V:World) (w1:World) (hV:Below B' w1 V) (h1:D6 d B ap cp ac cc am wn cm ae ce w1) (hbv:lV B' b a V 225) (TW:B'<=V.heap.size) (hl:a.length+(kX d.res.base d.res.aC).length<=1099511627776)=>FY d.res.base yu d.res.aC B B' b ac cc a V (λe he=>xQ _ e (Nat.lt_succ_self _) (hkr e he) (f3.2.2 e he)) (h1.rV (hV.mono mZ)).cl mZ hbv TW hl (by omega)
 have hXP:=λ(a:aH) (V:World) (w1:World) (hV:Below B' w1 V) (h1:D6 d B ap cp ac cc am wn cm ae ce w1) (hbv:lV B' b a V 225) (TW:B'<=V.heap.size) (hl:a.length+d.body.text.length<=1099511627776)=>xQ _ d.body (Nat.lt_succ_self _) hs5 f4 B B' b am wn cm ae ce a V (h1.rV (hV.mono mZ)).body mZ hbv TW hl
 have hlen:acc.length+d.text.length=acc.length+pb.length+(4+(d.res.name.length+1))+(bO (d.params.map ZF.text)).length+3+(kX d.res.base d.res.aC).length+3+d.body.text.length+2:=by
  have:=congrArg List.length hout;simp only[bY,fu,jC] at this;omega
 have ajk:pb.length<=4:=by rw[hpb];split<;>simp
 rw[hlen] at hn;have agv:=ay hout;clear hout hlen hs hs1 hs2 hs3 hs4 hs5 hpr hkr f1 f2 f3 f4 ent h;generalize bO (d.params.map ZF.text)=PX at *;generalize kX d.res.base d.res.aC=ty at *;generalize d.body.text=bt at *;go_enter Tryz.func122,Tryz.ntmps122
 go_upto_region 1 with fail
 change Code.wp _ _ _ _ ((w.alloc (.cells #[.pointer (some ⟨b,0,none⟩)] 220)).alloc (.cells (gN d ap cp ac cc am wn cm ae ce) 62));generalize (w.alloc _).alloc _=w1 at hal hT hN hb1 yj hB1 h1 |-;have HL:=ay (λa V hV hbv ht TW hl=>hL a V w1 hV h1 hbv ht TW hl);have V8:=ay (λa V hV hbv TW hl=>hTY a V w1 hV h1 hbv TW hl);have HXP:=ay (λa V hV hbv TW hl=>hXP a V w1 hV h1 hbv TW hl);have HB1:=ay hb1;have HN:=ay hN;have HT:=ay hT;have HPB:=ay hpb;have H7:=ay (iK.start hb1);clear hL hTY hXP hN hT hb1 h1 hpb
 have hrest:∀ (w2:World),iK w1 B' b (acc++pb) w2->True:=λ_ _=>trivial
 clear hrest;obtain⟨y0,y1,y2,y3,y4,y5,y6,y7,y8,y9,rP,rQ,rR,-⟩:=aV HN.out
 have yt:w1.cell? ⟨w.heap.size,0,none⟩=some (.pointer (some ⟨b,0,none⟩)):=by rw[aZ HT.out];rfl
 cases hpu:d.pub with
 | true =>
  have LA:Hid (pb=[112,117,98,32]):=ay (by rw[HPB.out,hpu];rfl);rw[hpu] at y0;have HW:=ay (dO ⟨#[112,117,98,32]⟩ B' b acc w1 H7.out.lU hB1 (by show acc.length+4<=_;omega));clear hpu HPB
  go_upto_region 3 with (go_at_call 120;refine HW.out.mono ?_;rintro r w2 h2;obtain rfl:=h2.eq)
  have agw:=ay (H7.out.write h2);have HS2:Hid (iK w1 B' b (acc++pb) w2):=ay (by rw[LA.out];exact agw.out);clear y0 y1 y2 y3 y4 y5 y6 y7 y8 y9 rP rQ rR yt HW h2 agw LA;obtain⟨y0,y1,y2,y3,y4,y5,y6,y7,y8,y9,rP,rQ,rR,-⟩:=aV (HS2.out.box HB1.out HN.out (by decide) (by decide))
  have yt:w2.cell? ⟨w.heap.size,0,none⟩=some (.pointer (some ⟨b,0,none⟩)):=by rw[aZ (HS2.out.box HB1.out HT.out (by decide) (by decide))];rfl
  have hz2:=HS2.out.kW.size;have HW:=ay (show Calls _ _ _ _ (bS B' b (acc++pb++([102,117,110,32]++(d.res.name++[40]))) w2) from xP ⟨#[102,117,110,32]⟩ ⟨d.res.name.toArray⟩ ⟨#[40]⟩ B' b (acc++pb) w2 HS2.out.lU (by omega) (by rw[eNz];show (acc++pb).length+4+d.res.name.length+1<=_;simp only[bY];omega))
  go_upto_region 4 with (go_at_call 120;refine HW.out.mono ?_;rintro r w3 h2;obtain rfl:=h2.eq)
  have IB:=ay (HS2.out.write h2);clear y0 y1 y2 y3 y4 y5 y6 y7 y8 y9 rP rQ rR yt HW h2 HS2;obtain⟨y0,y1,y2,y3,y4,y5,y6,y7,y8,y9,rP,rQ,rR,-⟩:=aV (IB.out.box HB1.out HN.out (by decide) (by decide))
  have yt:w3.cell? ⟨w.heap.size,0,none⟩=some (.pointer (some ⟨b,0,none⟩)):=by rw[aZ (IB.out.box HB1.out HT.out (by decide) (by decide))];rfl
  have hz3:=IB.out.kW.size;have HW:=ay (HL.out (acc++pb++([102,117,110,32]++(d.res.name++[40]))) w3 IB.out.kW IB.out.lU (IB.out.box HB1.out HT.out (by decide) (by decide)) (by omega) (by simp only[bY,fu,jC];omega))
  go_upto_region 5 with (go_at_call 181;refine HW.out.mono ?_;rintro r w4 h2;obtain rfl:=h2.eq)
  have RA:=ay (IB.out.write h2);clear y0 y1 y2 y3 y4 y5 y6 y7 y8 y9 rP rQ rR yt HW h2 IB;obtain⟨y0,y1,y2,y3,y4,y5,y6,y7,y8,y9,rP,rQ,rR,-⟩:=aV (RA.out.box HB1.out HN.out (by decide) (by decide))
  have yt:w4.cell? ⟨w.heap.size,0,none⟩=some (.pointer (some ⟨b,0,none⟩)):=by rw[aZ (RA.out.box HB1.out HT.out (by decide) (by decide))];rfl
  have BJ:=RA.out.kW.size;have HW:=ay (dO ⟨#[41,58,32]⟩ B' b (acc++pb++([102,117,110,32]++(d.res.name++[40]))++PX) w4 RA.out.lU (by omega) (by show (acc++pb++([102,117,110,32]++(d.res.name++[40]))++PX).length+3<=_;simp only[bY,fu,jC];omega))
  go_upto_region 6 with (go_at_call 120;refine HW.out.mono ?_;rintro r w5 h2;obtain rfl:=h2.eq)
  have NZ:=ay (RA.out.write h2);clear y0 y1 y2 y3 y4 y5 y6 y7 y8 y9 rP rQ rR yt HW h2 RA;obtain⟨y0,y1,y2,y3,y4,y5,y6,y7,y8,y9,rP,rQ,rR,-⟩:=aV (NZ.out.box HB1.out HN.out (by decide) (by decide))
  have yt:w5.cell? ⟨w.heap.size,0,none⟩=some (.pointer (some ⟨b,0,none⟩)):=by rw[aZ (NZ.out.box HB1.out HT.out (by decide) (by decide))];rfl
  have Tk:=NZ.out.kW.size;have HW:=ay (V8.out (acc++pb++([102,117,110,32]++(d.res.name++[40]))++PX++[41,58,32]) w5 NZ.out.kW NZ.out.lU (by omega) (by simp only[bY,fu,jC];omega))
  go_upto_region 7 with (go_at_call 183;refine HW.out.mono ?_;rintro r w6 h2;obtain rfl:=h2.eq)
  have Wh:=ay (NZ.out.write h2);clear y0 y1 y2 y3 y4 y5 y6 y7 y8 y9 rP rQ rR yt HW h2 NZ;obtain⟨y0,y1,y2,y3,y4,y5,y6,y7,y8,y9,rP,rQ,rR,-⟩:=aV (Wh.out.box HB1.out HN.out (by decide) (by decide))
  have yt:w6.cell? ⟨w.heap.size,0,none⟩=some (.pointer (some ⟨b,0,none⟩)):=by rw[aZ (Wh.out.box HB1.out HT.out (by decide) (by decide))];rfl
  have hz6:=Wh.out.kW.size;have HW:=ay (dO ⟨#[32,61,32]⟩ B' b (acc++pb++([102,117,110,32]++(d.res.name++[40]))++PX++[41,58,32]++ty) w6 Wh.out.lU (by omega) (by show (acc++pb++([102,117,110,32]++(d.res.name++[40]))++PX++[41,58,32]++ty).length+3<=_;simp only[bY,fu,jC];omega))
  go_upto_region 8 with (go_at_call 120;refine HW.out.mono ?_;rintro r w7 h2;obtain rfl:=h2.eq)
  have RQ:=ay (Wh.out.write h2);clear y0 y1 y2 y3 y4 y5 y6 y7 y8 y9 rP rQ rR yt HW h2 Wh;obtain⟨y0,y1,y2,y3,y4,y5,y6,y7,y8,y9,rP,rQ,rR,-⟩:=aV (RQ.out.box HB1.out HN.out (by decide) (by decide))
  have yt:w7.cell? ⟨w.heap.size,0,none⟩=some (.pointer (some ⟨b,0,none⟩)):=by rw[aZ (RQ.out.box HB1.out HT.out (by decide) (by decide))];rfl
  have hz7:=RQ.out.kW.size;have HW:=ay (HXP.out (acc++pb++([102,117,110,32]++(d.res.name++[40]))++PX++[41,58,32]++ty++[32,61,32]) w7 RQ.out.kW RQ.out.lU (by omega) (by simp only[bY,fu,jC];omega))
  go_upto_region 9 with (go_at_call 184;refine HW.out.mono ?_;rintro r w8 h2;obtain rfl:=h2.eq)
  have Zr:=ay (RQ.out.write h2);clear y0 y1 y2 y3 y4 y5 y6 y7 y8 y9 rP rQ rR yt HW h2 RQ;obtain⟨y0,y1,y2,y3,y4,y5,y6,y7,y8,y9,rP,rQ,rR,-⟩:=aV (Zr.out.box HB1.out HN.out (by decide) (by decide))
  have yt:w8.cell? ⟨w.heap.size,0,none⟩=some (.pointer (some ⟨b,0,none⟩)):=by rw[aZ (Zr.out.box HB1.out HT.out (by decide) (by decide))];rfl
  have hz8:=Zr.out.kW.size;have HW:=ay (dO ⟨#[59,10]⟩ B' b (acc++pb++([102,117,110,32]++(d.res.name++[40]))++PX++[41,58,32]++ty++[32,61,32]++bt) w8 Zr.out.lU (by omega) (by show (acc++pb++([102,117,110,32]++(d.res.name++[40]))++PX++[41,58,32]++ty++[32,61,32]++bt).length+2<=_;simp only[bY,fu,jC];omega));go_wp2_with (go_at_call 120;refine HW.out.mono ?_;rintro r w9 h2;obtain rfl:=h2.eq)
  go_end0
  have hfin:=bS.from hal hB (Zr.out.write h2)
  rw[agv.out];exact hfin
 | false =>
  have LA:Hid (pb=[]):=ay (by rw[HPB.out,hpu];rfl);rw[hpu] at y0;clear hpu HPB
  go_upto_region 3 with fail
  obtain⟨w2,hw2⟩:∃ w2:World,w2=w1:=⟨_,rfl⟩
  have HS2:Hid (iK w1 B' b (acc++pb) w1):=ay (by rw[LA.out,List.append_nil];exact H7.out);clear y0 y1 y2 y3 y4 y5 y6 y7 y8 y9 rP rQ rR yt LA hw2 w2;obtain⟨y0,y1,y2,y3,y4,y5,y6,y7,y8,y9,rP,rQ,rR,-⟩:=aV (HS2.out.box HB1.out HN.out (by decide) (by decide))
  have yt:w1.cell? ⟨w.heap.size,0,none⟩=some (.pointer (some ⟨b,0,none⟩)):=by rw[aZ (HS2.out.box HB1.out HT.out (by decide) (by decide))];rfl
  have hz2:=HS2.out.kW.size;have HW:=ay (show Calls _ _ _ _ (bS B' b (acc++pb++([102,117,110,32]++(d.res.name++[40]))) w1) from xP ⟨#[102,117,110,32]⟩ ⟨d.res.name.toArray⟩ ⟨#[40]⟩ B' b (acc++pb) w1 HS2.out.lU (by omega) (by rw[eNz];show (acc++pb).length+4+d.res.name.length+1<=_;simp only[bY];omega))
  go_upto_region 4 with (go_at_call 120;refine HW.out.mono ?_;rintro r w3 h2;obtain rfl:=h2.eq)
  have IB:=ay (HS2.out.write h2);clear y0 y1 y2 y3 y4 y5 y6 y7 y8 y9 rP rQ rR yt HW h2 HS2;obtain⟨y0,y1,y2,y3,y4,y5,y6,y7,y8,y9,rP,rQ,rR,-⟩:=aV (IB.out.box HB1.out HN.out (by decide) (by decide))
  have yt:w3.cell? ⟨w.heap.size,0,none⟩=some (.pointer (some ⟨b,0,none⟩)):=by rw[aZ (IB.out.box HB1.out HT.out (by decide) (by decide))];rfl
  have hz3:=IB.out.kW.size;have HW:=ay (HL.out (acc++pb++([102,117,110,32]++(d.res.name++[40]))) w3 IB.out.kW IB.out.lU (IB.out.box HB1.out HT.out (by decide) (by decide)) (by omega) (by simp only[bY,fu,jC];omega))
  go_upto_region 5 with (go_at_call 181;refine HW.out.mono ?_;rintro r w4 h2;obtain rfl:=h2.eq)
  have RA:=ay (IB.out.write h2);clear y0 y1 y2 y3 y4 y5 y6 y7 y8 y9 rP rQ rR yt HW h2 IB;obtain⟨y0,y1,y2,y3,y4,y5,y6,y7,y8,y9,rP,rQ,rR,-⟩:=aV (RA.out.box HB1.out HN.out (by decide) (by decide))
  have yt:w4.cell? ⟨w.heap.size,0,none⟩=some (.pointer (some ⟨b,0,none⟩)):=by rw[aZ (RA.out.box HB1.out HT.out (by decide) (by decide))];rfl
  have BJ:=RA.out.kW.size;have HW:=ay (dO ⟨#[41,58,32]⟩ B' b (acc++pb++([102,117,110,32]++(d.res.name++[40]))++PX) w4 RA.out.lU (by omega) (by show (acc++pb++([102,117,110,32]++(d.res.name++[40]))++PX).length+3<=_;simp only[bY,fu,jC];omega))
  go_upto_region 6 with (go_at_call 120;refine HW.out.mono ?_;rintro r w5 h2;obtain rfl:=h2.eq)
  have NZ:=ay (RA.out.write h2);clear y0 y1 y2 y3 y4 y5 y6 y7 y8 y9 rP rQ rR yt HW h2 RA;obtain⟨y0,y1,y2,y3,y4,y5,y6,y7,y8,y9,rP,rQ,rR,-⟩:=aV (NZ.out.box HB1.out HN.out (by decide) (by decide))
  have yt:w5.cell? ⟨w.heap.size,0,none⟩=some (.pointer (some ⟨b,0,none⟩)):=by rw[aZ (NZ.out.box HB1.out HT.out (by decide) (by decide))];rfl
  have Tk:=NZ.out.kW.size;have HW:=ay (V8.out (acc++pb++([102,117,110,32]++(d.res.name++[40]))++PX++[41,58,32]) w5 NZ.out.kW NZ.out.lU (by omega) (by simp only[bY,fu,jC];omega))
  go_upto_region 7 with (go_at_call 183;refine HW.out.mono ?_;rintro r w6 h2;obtain rfl:=h2.eq)
  have Wh:=ay (NZ.out.write h2);clear y0 y1 y2 y3 y4 y5 y6 y7 y8 y9 rP rQ rR yt HW h2 NZ;obtain⟨y0,y1,y2,y3,y4,y5,y6,y7,y8,y9,rP,rQ,rR,-⟩:=aV (Wh.out.box HB1.out HN.out (by decide) (by decide))
  have yt:w6.cell? ⟨w.heap.size,0,none⟩=some (.pointer (some ⟨b,0,none⟩)):=by rw[aZ (Wh.out.box HB1.out HT.out (by decide) (by decide))];rfl
  have hz6:=Wh.out.kW.size;have HW:=ay (dO ⟨#[32,61,32]⟩ B' b (acc++pb++([102,117,110,32]++(d.res.name++[40]))++PX++[41,58,32]++ty) w6 Wh.out.lU (by omega) (by show (acc++pb++([102,117,110,32]++(d.res.name++[40]))++PX++[41,58,32]++ty).length+3<=_;simp only[bY,fu,jC];omega))
  go_upto_region 8 with (go_at_call 120;refine HW.out.mono ?_;rintro r w7 h2;obtain rfl:=h2.eq)
  have RQ:=ay (Wh.out.write h2);clear y0 y1 y2 y3 y4 y5 y6 y7 y8 y9 rP rQ rR yt HW h2 Wh;obtain⟨y0,y1,y2,y3,y4,y5,y6,y7,y8,y9,rP,rQ,rR,-⟩:=aV (RQ.out.box HB1.out HN.out (by decide) (by decide))
  have yt:w7.cell? ⟨w.heap.size,0,none⟩=some (.pointer (some ⟨b,0,none⟩)):=by rw[aZ (RQ.out.box HB1.out HT.out (by decide) (by decide))];rfl
  have hz7:=RQ.out.kW.size;have HW:=ay (HXP.out (acc++pb++([102,117,110,32]++(d.res.name++[40]))++PX++[41,58,32]++ty++[32,61,32]) w7 RQ.out.kW RQ.out.lU (by omega) (by simp only[bY,fu,jC];omega))
  go_upto_region 9 with (go_at_call 184;refine HW.out.mono ?_;rintro r w8 h2;obtain rfl:=h2.eq)
  have Zr:=ay (RQ.out.write h2);clear y0 y1 y2 y3 y4 y5 y6 y7 y8 y9 rP rQ rR yt HW h2 RQ;obtain⟨y0,y1,y2,y3,y4,y5,y6,y7,y8,y9,rP,rQ,rR,-⟩:=aV (Zr.out.box HB1.out HN.out (by decide) (by decide))
  have yt:w8.cell? ⟨w.heap.size,0,none⟩=some (.pointer (some ⟨b,0,none⟩)):=by rw[aZ (Zr.out.box HB1.out HT.out (by decide) (by decide))];rfl
  have hz8:=Zr.out.kW.size;have HW:=ay (dO ⟨#[59,10]⟩ B' b (acc++pb++([102,117,110,32]++(d.res.name++[40]))++PX++[41,58,32]++ty++[32,61,32]++bt) w8 Zr.out.lU (by omega) (by show (acc++pb++([102,117,110,32]++(d.res.name++[40]))++PX++[41,58,32]++ty++[32,61,32]++bt).length+2<=_;simp only[bY,fu,jC];omega));go_wp2_with (go_at_call 120;refine HW.out.mono ?_;rintro r w9 h2;obtain rfl:=h2.eq)
  go_end0
  have hfin:=bS.from hal hB (Zr.out.write h2)
  rw[agv.out];exact hfin
def OB (B:Nat)(w:World)(ai:Option Addr)(l:List (aH × Int)):Prop:=0<l.length->∃ b off,ai=some ⟨b,off,none⟩/\b<B/\b<w.heap.size/\∀ i,(hi:i<l.length)->w.cell? ⟨b,off+i * 2,none⟩=some (.string ⟨l[i].1.toArray⟩)/\w.cell? ⟨b,off+i * 2+1,none⟩=some (.int .i64 l[i].2)
def OC (B:Nat)(w:World)(ad:Option Addr)(l:List ZD):Prop:=0<l.length->∃ b off,ad=some ⟨b,off,none⟩/\b<B/\b<w.heap.size/\∀ i,(hi:i<l.length)->∃ ap cp ac cc am wn cm ae ce,D6 l[i] B ap cp ac cc am wn cm ae ce w/\∀ j u,(gN l[i] ap cp ac cc am wn cm ae ce)[j]?=some u->w.cell? ⟨b,off+i * 15+j,none⟩=some u
theorem OB.rV {W:World}{ai:Option Addr}{l:List (aH × Int)}(h:OB B w ai l)(hW:Below B w W):OB B W ai l:=λh0=>by
 obtain⟨b,off,q1,q2,q3,q4⟩:=h h0;exact⟨b,off,q1,q2,xw q3 hW.size,λi hi=>⟨(hW.cell (p:=⟨b,off+i * 2,none⟩) q2).trans (q4 i hi).1,(hW.cell (p:=⟨b,off+i * 2+1,none⟩) q2).trans (q4 i hi).2⟩⟩
theorem OC.rV {B:Nat}{w W:World}{ad:Option Addr}{l:List ZD}(h:OC B w ad l)(hW:Below B w W):OC B W ad l:=λh0=>by
 obtain⟨b,off,q1,q2,q3,q4⟩:=h h0;refine⟨b,off,q1,q2,xw q3 hW.size,λi hi=>?_⟩;obtain⟨ap,cp,ac,cc,am,wn,cm,ae,ce,q5,q6⟩:=q4 i hi;exact⟨ap,cp,ac,cc,am,wn,cm,ae,ce,q5.rV hW,λj u hu=>(hW.cell (p:=⟨b,off+i * 15+j,none⟩) q2).trans (q6 j u hu)⟩
theorem Wi {zs:List (aH × Int)}(h:RowK ZIK (λb=>b<B) w kv zs):∃ ao cap,kv=.slice ao zs.length cap/\OB B w ao zs:=by
 obtain⟨ao,cap,hv,_,hf⟩:=h.form;refine⟨ao,cap,hv,λh0=>?_⟩;obtain⟨b,off,h1,h2,h3,h4⟩:=hf h0;refine⟨b,off,h1,h2,h3,λi hi=>?_⟩;obtain⟨x,_,h6⟩:=h4 i hi;exact⟨h6 0 _ rfl,h6 1 _ rfl⟩
theorem Wj {zs:List ZD}(hB:B<=w.heap.size)(h:RowK PS (λb=>b<B) w kv zs):∃ ao cap,kv=.slice ao zs.length cap/\OC B w ao zs:=by
 obtain⟨ao,cap,hv,_,hf⟩:=h.form;refine⟨ao,cap,hv,λh0=>?_⟩;obtain⟨b,off,h1,h2,h3,h4⟩:=hf h0;refine⟨b,off,h1,h2,h3,λi hi=>?_⟩;obtain⟨x,⟨h5,h7,h8⟩,h6⟩:=h4 i hi;obtain⟨ap,cp,e1,hp⟩:=VT h5;obtain⟨ac,cc,e2,hc⟩:=JL h7;obtain⟨am,wn,cm,ae,ce,e3,e4⟩:=h8.PK;rw[e3,e4] at h8;refine⟨ap,cp,ac,cc,am,wn,cm,ae,ce,⟨hp,hc,h8,hB⟩,λj u hu=>h6 j u ?_⟩;show (PS.cells zs[i] x)[j]?=some u;simp only[PS,e1,e2,e3,e4];rw[gN] at hu
 simpa [fC] using hu
structure Wm (p:ZP) (B:Nat) (ai ad:Option Addr) (w:World):Prop where
 imps:OB B w ai p.aD
 defs:OC B w ad p.defs
 hB:B<=w.heap.size
theorem Wm.rV {p:ZP}{B:Nat}{ai ad:Option Addr}{w W:World}(h:Wm p B ai ad w)(hW:Below B w W):Wm p B ai ad W:=⟨h.imps.rV hW,h.defs.rV hW,jq h.hB hW.size⟩
theorem LB (b:Nat)(w:World)(hbk:w.heap[b]?=some (.cells #[.pointer none,.slice none 0 0] 225 (0,0))) :
  Calls Tryz.prog 123 #[.pointer (some ⟨b,0,none⟩)] w λe w'=>e=.returned (.string ⟨#[]⟩)/\Below w.heap.size w w':=by
 have c1:w.drew.cell? ⟨b,1,none⟩=some (.slice none 0 0):=by
  have:w.drew.heap[b]?=some (.cells #[.pointer none,.slice none 0 0] 225 (0,0)):=hbk;rw[aZ this];rfl
 have hSD:(Builtin.unsafeSliceData_ #[195] 291 #[.slice none 0 0]).run Tryz.prog w.drew=.ok (.pointer none) w.drew:=Lib.run_unsafeSliceData_nil _ _ _ _ _;have hUS:(Builtin.unsafeString_ #[291,3] 9 #[.pointer none,.int .i64 0]).run Tryz.prog w.drew=.ok (.string ⟨#[]⟩) w.drew:=Lib.run_unsafeString_none _ _ _ _ _
 have mixed:Tryz.prog.follows .mixedOrders=true:=by kernel_rfl
 clear hbk;go_enter Tryz.func123,Tryz.ntmps123;go_wp2
 go_region_o
 all_goals (go_wp2;go_ret;exact⟨rfl,(bQ _ w).drew⟩)
theorem JU {α:Type}{f:α->aH}{l:List α}(h:k<l.length):(l.take (k+1)).flatMap f=(l.take k).flatMap f++f l[k]:=by
 rw[zF h,abo,List.flatMap_singleton]
theorem TY {α:Type}(f:α->aH)(l:List α)(k:Nat):((l.take k).flatMap f).length<=(l.flatMap f).length:=by
 conv=>rhs;rw[<- List.take_append_drop k l,abo,bY]
 omega
theorem OD {α:Type}{p:α->Bool}{l:List α}(h:k<l.length)(h1:(l.take k).all p=true)(h2:p l[k]=true):(l.take (k+1)).all p=true:=by
 rw[zF h,List.all_append,h1];simpa using h2
theorem T9 {α:Type}{p:α->Bool}{l:List α}(h:k<l.length)(h2:p l[k]=false):l.all p=false:=by
 rw[<- vM,List.all_eq_true];intro q;have:=q _ (nH h);rw[h2] at this;cases this
theorem ZP.acM (h:0<p.aD.length\/0<p.defs.length):p.text≠[]:=by
 intro q;have hq:=congrArg List.length q;rw[ZP.text,bY,jC] at hq
 rcases h with h|h
 ·match hi:p.aD,h with
  | m :: l,_=>rw[hi] at hq;simp[sS] at hq
 ·match hi:p.defs,h with
  | d :: l,_=>rw[hi] at hq;simp[ZD.text] at hq
def l8 (p:ZP)(w:World)(r:Ending)(w':World):Prop:=(r=.returned (.tuple #[.string ⟨(if p.right=true then p.text else []).toArray⟩,.int .i64 (if p.right=true then 0 else 10)]))/\Below w.heap.size w w'
theorem l8.no (h:p.right=false)(hb:Below w.heap.size w w'):l8 p w (.returned (.tuple #[.string ⟨#[]⟩,.int .i64 10])) w':=⟨by rw[h];rfl,hb⟩
theorem l8.yes (h:p.right=true)(hb:Below w.heap.size w w'):l8 p w (.returned (.tuple #[.string ⟨p.text.toArray⟩,.int .i64 0])) w':=⟨by rw[h];rfl,hb⟩
theorem cB (h:w.heap[b]?=some (.cells #[c0,c1] 26 (0,0))):w.cell? ⟨b,0,none⟩=some c0/\w.cell? ⟨b,1,none⟩=some c1:=by
 refine⟨?_,?_⟩<;>(rw[aZ h];rfl)
theorem jk (h:w.heap[b]?=some (.cells #[c0,c1] 50 (0,0))):w.cell? ⟨b,0,none⟩=some c0/\w.cell? ⟨b,1,none⟩=some c1:=by
 refine⟨?_,?_⟩<;>(rw[aZ h];rfl)
theorem LC (p:ZP)(hf:p.fit)(B:Nat)(ai:Option Addr)(ci:Nat)(ad:Option Addr)(cd:Nat)(w:World)(h:Wm p B ai ad w)(hn:p.text.length<=1099511627776) :
  Calls Tryz.prog 76 #[.agg #[.slice ai p.aD.length ci,.slice ad p.defs.length cd]] w (l8 p w):=by
 obtain⟨f1,f2,f3,f4⟩:=hf;have hal:=aA w (.cells #[.slice ai p.aD.length ci,.slice ad p.defs.length cd] 26);have hN:=aX w (.cells #[.slice ai p.aD.length ci,.slice ad p.defs.length cd] 26)
 by_cases h16:p.aD.length<=16
 ·by_cases h64:p.defs.length<=64
  ·have hdef:p.right=(p.aD.all (λm=>dw m.1) && p.defs.all ZD.sound):=by rw[ZP.right,jV h16,jV h64];rfl
   have sU:=ay hdef
   have agx:(p.aD.length:Int)<=16:=by omega
   have ahS:(p.defs.length:Int)<=64:=by omega
   have HF2:=ay f2;have HF4:=ay f4;have hB:=h.hB;have HH:=ay (h.rV (hal.mono hB));clear h hdef f1 f2 f3 f4 h16 h64;go_enter Tryz.func76,Tryz.ntmps76
   go_upto_region 1 with fail
   change Code.wp _ _ _ _ (w.alloc (.cells #[.slice ai p.aD.length ci,.slice ad p.defs.length cd] 26));generalize w.alloc (.cells #[.slice ai p.aD.length ci,.slice ad p.defs.length cd] 26)=w1 at hal hN HH |-;have hz1:=hal.size;have hl1:=(bP hN).1;obtain⟨y0,y1⟩:=cB hN;have cO:=aA w1 (.cells #[.pointer none,.slice none 0 0] 225);have hbd:=lV.fresh (T:=225) w1;have hfresh:=aX w1 (.cells #[.pointer none,.slice none 0 0] 225);have Ol:=(cO.block w.heap.size hl1).trans hN;have hH2:=HH.out.rV (cO.mono HH.out.hB)
   go_upto_region 4 with fail
   change Code.wp _ _ _ _ (w1.alloc (.cells #[.pointer none,.slice none 0 0] 225));clear y0 y1 hN HH
   have hz2:w1.heap.size<(w1.alloc (.cells #[.pointer none,.slice none 0 0] 225)).heap.size:=by simp
   generalize w1.alloc (.cells #[.pointer none,.slice none 0 0] 225)=w2 at cO hbd hfresh Ol hH2 hz2 |-;have TJ:=ay hbd;have HFR:=ay hfresh;have HN2:=ay Ol;have HH:=ay hH2;obtain⟨y0,y1⟩:=cB Ol;have kQ:Below w.heap.size w w2:=hal.trans (cO.mono hz1);clear hbd hfresh Ol hH2 hal cO
   have hl2:∀ k,(p.aD.take k).flatMap sS++[]=(p.aD.take k).flatMap sS:=λ_=>List.append_nil _
   clear hl2;go_wp2
   go_loopw [24] (λq wr=>∃ k:Nat,k<=p.aD.length/\q=.int .i64 k/\(p.aD.take k).all (λm=>dw m.1)=true/\iK w2 w1.heap.size w1.heap.size ((p.aD.take k).flatMap sS) wr/\(k=0->wr=w2)) (λq _=>p.aD.length - (intOf q).toNat)
   case atStart=>exact⟨0,kJ _,rfl,rfl,by simpa using iK.start TJ.out,λ_=>rfl⟩
   case round =>
    obtain⟨k,hkl,rfl,hall,st,hk0⟩:=hrel;have DY:=st.kW.size;have HST:=ay st;have mI:=ay hall;have TK:=ay hk0;clear st hall hk0
    by_cases hlt:k<p.aD.length
    ·have hH:=HH.out.rV (HST.out.kW.mono (jq hB hz1))
     obtain⟨ib,io,rfl,hiB,hiw,hic⟩:=hH.imps (by omega);obtain⟨x0,x1⟩:=hic k hlt
     have nK:(k:Int)<(p.aD.length:Int):=by omega
     have hsn:=JU (f:=sS) hlt;have hle:=TY sS p.aD (k+1)
     have htl:(p.aD.flatMap sS).length<=p.text.length:=by rw[ZP.text,bY];omega
     rw[hsn] at hle;have hnm:=HF2.out _ (nH hlt);have Zt:=ay (λ(q:dw p.aD[k].1=false)=>(show p.right=false by rw[sU.out,T9 (p:=λm=>dw m.1) hlt q];rfl));have RS:=ay (λ(q:dw p.aD[k].1=true)=>OD (p:=λm=>dw m.1) hlt mI.out q);have rO:=ay hsn;clear hic hH hsn mI TK;generalize p.aD[k]=m at *;generalize (p.aD.take k).flatMap sS=c at *
     have hil:(sS m).length=7+m.1.length+2:=by simp[sS];omega
     have fJ:=aA wr (.cells #[.string ⟨m.1.toArray⟩,.int .i64 m.2] 50);have hM:=aX wr (.cells #[.string ⟨m.1.toArray⟩,.int .i64 m.2] 50);have s1:=HST.out.below fJ (by omega)
     go_upto_region 7 with fail
     change Code.wp _ _ _ _ (wr.alloc (.cells #[.string ⟨m.1.toArray⟩,.int .i64 m.2] 50));clear x0 x1;have hz3:=fJ.size;generalize wr.alloc (.cells #[.string ⟨m.1.toArray⟩,.int .i64 m.2] 50)=w3 at fJ hM s1 hz3 |-;obtain⟨v0,v1⟩:=jk hM
     have eNz:(ByteArray.mk m.1.toArray).size=m.1.length:=by show m.1.toArray.size=_;simp
     have HP:=ay (mD ⟨m.1.toArray⟩ w3 (by rw[eNz];omega));have eN:(ByteArray.mk m.1.toArray).data.toList=m.1:=rfl;rw[eN] at HP;clear eN;have hM3:=(bP hM).1
     cases hpl:dw m.1 with
     | false =>
      rw[hpl] at HP;have hbw:=kQ.trans (s1.kW.mono (by omega:w.heap.size<=w1.heap.size));have hres:=Zt.out hpl;have qB:=ay hres;clear Zt RS HST s1 hM fJ hres hpl rO;go_wp2_with (go_at_call 77;refine HP.out.mono ?_;rintro r w4 ⟨rfl,hb4⟩);go_ret2;exact l8.no qB.out (hbw.trans (hb4.mono hbw.size))
     | true =>
      rw[hpl] at HP;have hyes:=RS.out hpl;have HY:=ay hyes;clear Zt RS hyes hpl
      go_upto_region 9 with (go_at_call 77;refine HP.out.mono ?_;rintro r w4 ⟨rfl,hb4⟩)
      have s2:=s1.below hb4 (by omega);obtain⟨v0',v1'⟩:=jk ((hb4.block wr.heap.size hM3).trans hM);have BJ:=hb4.size
      have HW:=ay (show Calls _ _ _ _ (bS w1.heap.size w1.heap.size (c++sS m) w4) from (by
       have:=xP ⟨#[105,109,112,111,114,116,32]⟩ ⟨m.1.toArray⟩ ⟨#[59,10]⟩ w1.heap.size w1.heap.size c w4 s2.lU (by omega) (by rw[eNz];show c.length+7+m.1.length+2<=_;rw[bY,hil] at hle;omega)
       have e:c++sS m=c++((ByteArray.mk #[105,109,112,111,114,116,32]).data.toList++((ByteArray.mk m.1.toArray).data.toList++(ByteArray.mk #[59,10]).data.toList)):=by show c++sS m=c++([105,109,112,111,114,116,32]++(m.1++[59,10]));rw[sS,om]
       rw[e]
       exact this))
      have HS2:=ay s2;clear HP v0 v1 s1 s2 hb4 hM fJ HST;go_wp2_with (go_at_call 120;refine HW.out.mono ?_;rintro r w5 h5;obtain rfl:=h5.eq)
      go_roundw
      case rel=>exact⟨k+1,by omega,by go_num,HY.out,by rw[rO.out];exact HS2.out.write h5,λq=>absurd q (by omega)⟩
      case measure=>simp[intOf];omega
    ·obtain rfl:k=p.aD.length:=by omega
     have nK:decide ((p.aD.length:Int)<(p.aD.length:Int))=false:=dX (by omega);rw[zG] at mI HST;obtain⟨z0,z1⟩:=cB (HST.out.box TJ.out HN2.out (by decide) (by decide))
     have adq:p.right=p.defs.all ZD.sound:=by rw[sU.out,mI.out,Bool.true_and]
     have Ua:=ay adq;clear mI adq y0 y1
     obtain⟨wo,rfl⟩:∃ wo:World,wo=wr:=⟨_,rfl⟩
     go_wp2
     go_loopw [41] (λq wr=>∃ j:Nat,j<=p.defs.length/\q=.int .i64 j/\(p.defs.take j).all ZD.sound=true/\iK w2 w1.heap.size w1.heap.size (p.aD.flatMap sS++(p.defs.take j).flatMap ZD.text) wr/\(j=0->wr=wo)) (λq _=>p.defs.length - (intOf q).toNat)
     case atStart=>exact⟨0,kJ _,rfl,rfl,by simpa using HST.out,λ_=>rfl⟩
     case round =>
      obtain⟨j,hjl,rfl,hall,st,hj0⟩:=hrel;have hzd:=st.kW.size;have HSD:=ay st;have mI:=ay hall;have HJ0:=ay hj0;clear st hall hj0
      by_cases hlt:j<p.defs.length
      ·have hH:=HH.out.rV (HSD.out.kW.mono (jq hB hz1))
       obtain⟨db,RU,rfl,hdB,hdw,hdc⟩:=hH.defs (by omega);obtain⟨ap,cp,ac,cc,am,wn,cm,ae,ce,hD,hcl⟩:=hdc j hlt
       have Ij:(j:Int)<(p.defs.length:Int):=by omega
       have hsn:=JU (f:=ZD.text) hlt;have hle:=TY ZD.text p.defs (j+1)
       have htl:(p.aD.flatMap sS).length+(p.defs.flatMap ZD.text).length=p.text.length:=by rw[ZP.text,bY]
       rw[hsn] at hle;have hdf:=HF4.out _ (nH hlt);have Zt:=ay (λ(q:p.defs[j].sound=false)=>(show p.right=false by rw[Ua.out,T9 (p:=ZD.sound) hlt q]));have RS:=ay (λ(q:p.defs[j].sound=true)=>OD (p:=ZD.sound) hlt mI.out q);have rO:=ay hsn;clear hdc hH hsn mI HJ0 TK;generalize p.defs[j]=d at *;generalize (p.defs.take j).flatMap ZD.text=c at *;generalize p.aD.flatMap sS=ic at *;have x0:wr.cell? ⟨db,RU+j * 15,none⟩=some (.bool d.pub):=hcl 0 _ rfl;have x1:wr.cell? ⟨db,RU+j * 15+1,none⟩=some (.string ⟨d.res.name.toArray⟩):=hcl 1 _ rfl;have x2:wr.cell? ⟨db,RU+j * 15+2,none⟩=some (.slice ap d.params.length cp):=hcl 2 _ rfl;have x3:wr.cell? ⟨db,RU+j * 15+3,none⟩=some (.int .i64 d.res.base):=hcl 3 _ rfl;have x4:wr.cell? ⟨db,RU+j * 15+4,none⟩=some (.slice ac d.res.aC.length cc):=hcl 4 _ rfl;have x5:wr.cell? ⟨db,RU+j * 15+5,none⟩=some (.int .i64 d.body.op):=hcl 5 _ rfl;have x6:wr.cell? ⟨db,RU+j * 15+6,none⟩=some (.string ⟨d.body.name.toArray⟩):=hcl 6 _ rfl;have x7:wr.cell? ⟨db,RU+j * 15+7,none⟩=some (.string ⟨d.body.module.toArray⟩):=hcl 7 _ rfl;have x8:wr.cell? ⟨db,RU+j * 15+8,none⟩=some (.bool (decide (d.body.num<0))):=hcl 8 _ rfl;have x9:wr.cell? ⟨db,RU+j * 15+9,none⟩=some (.slice am wn cm):=hcl 9 _ rfl;have x10:wr.cell? ⟨db,RU+j * 15+10,none⟩=some (.bool d.body.yes):=hcl 10 _ rfl;have Xj:wr.cell? ⟨db,RU+j * 15+11,none⟩=some (.slice ae d.body.aB.length ce):=hcl 11 _ rfl;have Xk:wr.cell? ⟨db,RU+j * 15+12,none⟩=some (.int .i64 d.body.at_):=hcl 12 _ rfl;have Xl:wr.cell? ⟨db,RU+j * 15+13,none⟩=some (.int .i64 d.res.at_):=hcl 13 _ rfl;have Zu:wr.cell? ⟨db,RU+j * 15+14,none⟩=some (.int .i64 d.res.bare):=hcl 14 _ rfl;have fJ:=aA wr (.cells (gN d ap cp ac cc am wn cm ae ce) 62);have hM:=aX wr (.cells (gN d ap cp ac cc am wn cm ae ce) 62);have s1:=HSD.out.below fJ (by omega);have hD3:=hD.below fJ;clear hcl hD
       go_upto_region 14 with fail
       change Code.wp _ _ _ _ (wr.alloc (.cells (gN d ap cp ac cc am wn cm ae ce) 62));clear x0 x1 x2 x3 x4 x5 x6 x7 x8 x9 x10 Xj Xk Xl Zu;have hz3:=fJ.size
       have agy:wr.heap.size<(wr.alloc (.cells (gN d ap cp ac cc am wn cm ae ce) 62)).heap.size:=by simp
       generalize wr.alloc (.cells (gN d ap cp ac cc am wn cm ae ce) 62)=w3 at fJ hM s1 hz3 hD3 agy |-;obtain⟨v0,v1,v2,v3,v4,v5,v6,v7,v8,v9,v10,v11,v12,v13,v14⟩:=aV hM;have HSO:=ay (V7 d hdf B ap cp ac cc am wn cm ae ce w3 hD3);have hM3:=agy
       cases hso:d.sound with
       | false =>
        rw[hso] at HSO;have hbw:=kQ.trans (s1.kW.mono (by omega:w.heap.size<=w1.heap.size));have hres:=Zt.out hso;have qB:=ay hres;clear Zt RS HST HSD s1 hM fJ hres hso rO hD3;go_wp2_with (go_at_call 121;refine HSO.out.mono ?_;rintro r w4 ⟨rfl,hb4⟩);go_ret2;exact l8.no qB.out (hbw.trans (hb4.mono hbw.size))
       | true =>
        rw[hso] at HSO;have hyes:=RS.out hso;have HY:=ay hyes;clear Zt RS hyes
        go_upto_region 16 with (go_at_call 121;refine HSO.out.mono ?_;rintro r w4 ⟨rfl,hb4⟩)
        clear v0 v1 v2 v3 v4 v5 v6 v7 v8 v9 v10 v11 v12 v13 v14;have s2:=s1.below hb4 (by omega);obtain⟨v0,v1,v2,v3,v4,v5,v6,v7,v8,v9,v10,v11,v12,v13,v14⟩:=aV ((hb4.block wr.heap.size hM3).trans hM);have BJ:=hb4.size;have HW:=ay (Zq d hso hdf B w1.heap.size w1.heap.size ap cp ac cc am wn cm ae ce (ic++c) w4 (hD3.below hb4) (by omega) s2.lU (by omega) (by rw[bY] at hle |-;omega));have HS2:=ay s2;clear HSO s1 s2 hb4 hM fJ HST HSD hD3 hso;go_wp2_with (go_at_call 122;refine HW.out.mono ?_;rintro r w5 h5;obtain rfl:=h5.eq)
        go_roundw
        case rel=>exact⟨j+1,by omega,by go_num,HY.out,by rw[rO.out,<- om];exact HS2.out.write h5,λq=>absurd q (by omega)⟩
        case measure=>simp[intOf];omega
      ·obtain rfl:j=p.defs.length:=by omega
       have Ij:decide ((p.defs.length:Int)<(p.defs.length:Int))=false:=dX (by omega);rw[zG] at mI HSD
       have hres:p.right=true:=by rw[Ua.out,mI.out]
       have qB:=ay hres;have hbw:=kQ.trans (HSD.out.kW.mono (by omega:w.heap.size<=w1.heap.size));have hbd:=HSD.out.lU;have KG:(⟨w1.heap.size,0,none⟩:Addr).block<wr.heap.size:=hbd.lt;have hpt:p.aD.flatMap sS++p.defs.flatMap ZD.text=p.text:=rfl;rw[hpt] at hbd
       by_cases he:0<p.aD.length\/0<p.defs.length
       ·have HS:=ay (Y7 w1.heap.size w1.heap.size p.text wr hbd (ZP.acM he))
        clear hbd mI HSD HST hres hpt he Ua sU TK HJ0;go_wp2_with (go_at_call 123;refine HS.out.mono ?_;rintro r w5 ⟨rfl,hb5⟩);go_ret2;exact l8.yes qB.out (hbw.trans (hb5.mono (by omega)))
       ·have hi0:p.aD.length=0:=by omega
        have hd0:p.defs.length=0:=by omega
        obtain rfl:=HJ0.out hd0;obtain rfl:=TK.out hi0
        have htx:p.text=[]:=by rw[ZP.text,List.eq_nil_of_length_eq_zero hi0,List.eq_nil_of_length_eq_zero hd0];rfl
        have La:=ay htx;have HS:=ay (LB w1.heap.size _ HFR.out);clear hbd mI HSD HST hres hpt he Ua sU TK HJ0 hi0 hd0 htx;go_wp2_with (go_at_call 123;refine HS.out.mono ?_;rintro r w5 ⟨rfl,hb5⟩);go_ret2;have:=l8.yes (p:=p) qB.out (hbw.trans (hb5.mono hbw.size));rw[La.out] at this;exact this
  ·have hres:p.right=false:=by rw[ZP.right,dX h64];simp
   have qB:=ay hres
   have agx:(p.aD.length:Int)<=16:=by omega
   have ahS:(64:Int)<(p.defs.length:Int):=by omega
   clear h hres f2 f4 h16 h64;go_enter Tryz.func76,Tryz.ntmps76
   go_upto_region 1 with fail
   change Code.wp _ _ _ _ (w.alloc (.cells #[.slice ai p.aD.length ci,.slice ad p.defs.length cd] 26));generalize w.alloc (.cells #[.slice ai p.aD.length ci,.slice ad p.defs.length cd] 26)=w1 at hal hN |-;obtain⟨y0,y1⟩:=cB hN;go_wp2;go_ret2;exact l8.no qB.out hal
 ·have hres:p.right=false:=by rw[ZP.right,dX h16];rfl
  have qB:=ay hres
  have agx:(16:Int)<(p.aD.length:Int):=by omega
  clear h hres f2 f4 h16;go_enter Tryz.func76,Tryz.ntmps76
  go_upto_region 1 with fail
  change Code.wp _ _ _ _ (w.alloc (.cells #[.slice ai p.aD.length ci,.slice ad p.defs.length cd] 26));generalize w.alloc (.cells #[.slice ai p.aD.length ci,.slice ad p.defs.length cd] 26)=w1 at hal hN |-;obtain⟨y0,y1⟩:=cB hN;go_wp2;go_ret2;exact l8.no qB.out hal
def Az:List aH->List aH->Bool
 | _,[]=>true
 | seen,m :: l=>dw m && (!decide (m∈seen) && Az (gD (seen++[m])) l)
theorem RV (m:aH)(w:World)(hm:m.length<=65536):Calls Tryz.prog 75 #[.agg #[.string ⟨m.toArray⟩,.slice none 0 0]] w λr w'=>r=.returned (.bool (dw m))/\Below w.heap.size w w':=by
 have hal:=aA w (.cells #[.string ⟨m.toArray⟩,.slice none 0 0] 108);have hN:=aX w (.cells #[.string ⟨m.toArray⟩,.slice none 0 0] 108);have HP:=ay (λV=>mD ⟨m.toArray⟩ V (by show m.toArray.size<=_;simp;omega));simp only at HP;generalize dw m=pl at *;go_enter Tryz.func75,Tryz.ntmps75
 go_upto_region 1 with fail
 change Code.wp _ _ _ _ (w.alloc (.cells #[.string ⟨m.toArray⟩,.slice none 0 0] 108));generalize w.alloc (.cells #[.string ⟨m.toArray⟩,.slice none 0 0] 108)=w1 at *;have hl1:=(bP hN).1;have hz1:=hal.size;obtain⟨y0,y1⟩:=mG hN;have HN:=ay hN;clear hN
 cases pl with
 | false =>
  go_wp2_with (go_at_call 77;refine(HP.out _).mono ?_;rintro r w2 ⟨rfl,hb2⟩);go_ret;exact⟨rfl,hal.trans (hb2.mono hz1)⟩
 | true =>
  go_upto_region 3 with (go_at_call 77;refine(HP.out _).mono ?_;rintro r w2 ⟨rfl,hb2⟩;obtain⟨z0,z1⟩:=mG ((hb2.block _ hl1).trans HN.out))
  go_wp2
  go_loopw [4,18] (λ_ q wr=>q=.int .i64 0/\wr=w2) (λ_ _ _=>0)
  case atStart=>exact⟨rfl,rfl⟩
  case round =>
   obtain⟨rfl,rfl⟩:=hrel;go_wp2;go_ret;exact⟨rfl,hal.trans (hb2.mono hz1)⟩
theorem RX (md:aH)(db lb Bp:Nat)(im:Value)(f:Fl)(p:ZP)(ai:Option Addr)(ci:Nat)(ad:Option Addr)(cd:Nat)(af:Option Addr)(cf:Nat)(ms:List aH)(w:World)(hL:ku ⟨md,.slice ai p.aD.length ci,.slice ad p.defs.length cd,.slice af ms.length cf,db⟩ lb im f w)
  (hfit:p.fit) (hp:Wm p Bp ai ad w) (hn:p.text.length<=1099511627776) (hF:RowK TV (λ_=>True) w (.slice af ms.length cf) ms) (hms:ms.length<=1000/\∀ m∈ms,m.length<=65536) (hmd:md.length<=65536) :
  Calls Tryz.prog 34 #[.pointer (some ⟨lb,0,none⟩)] w λr w'=>r=.returned (.bool (p.right && (dw md && Az [] ms)))/\Below w.heap.size w w':=by
 obtain⟨⟨k0,k1,k2,k3,k4,k5,k6,k7⟩,-⟩:=hL.cells;have HSP:=ay (LC p hfit Bp ai ci ad cd w hp hn);unfold l8 at HSP;have HP:=ay (λV=>mD ⟨md.toArray⟩ V (by show md.toArray.size<=_;simp;omega));simp only at HP;obtain⟨PN,PO,hv,_,hform⟩:=hF.form;simp only[Value.slice.injEq] at hv;obtain⟨rfl,-,rfl⟩:=hv;have HF:=ay hform;have HMS:=ay hms;have hm1:=hms.1;have Vj:=hL.lt;have HL0:=ay hL;clear hL hfit hp hn hF hform hms
 obtain⟨rs,hrs⟩:∃ rs:Bool,rs=Az [] ms:=⟨_,rfl⟩
 rw[<- hrs];have HRS:=ay hrs;clear hrs;generalize p.right=pr at *;generalize dw md=pl at *;generalize p.text=tx at *;go_enter Tryz.func34,Tryz.ntmps34
 cases pr with
 | false =>
  have RY:=HSP.out
  (try simp only[Bool.false_eq_true,if_false,if_true] at RY)
  have acN:=ay RY;clear HSP RY HP;go_wp2_with (go_at_call 76;refine acN.out.mono ?_;rintro r w2 ⟨rfl,hb2⟩);go_ret;exact⟨rfl,hb2⟩
 | true =>
  have RY:=HSP.out
  (try simp only[Bool.false_eq_true,if_false,if_true] at RY)
  have acN:=ay RY;clear HSP RY
  go_upto_region 2 with (go_at_call 76;refine acN.out.mono ?_;rintro r w2 ⟨rfl,hb2⟩)
  have hz2:=hb2.size;have hL2:=HL0.out.below hb2;have HL2:=ay hL2;clear k0 k1 k2 k3 k4 k5 k6 k7 acN;obtain⟨⟨k0,k1,k2,k3,k4,k5,k6,k7⟩,-⟩:=hL2.cells;clear hL2
  cases pl with
  | false =>
   go_wp2_with (go_at_call 77;refine(HP.out _).mono ?_;rintro r w3 ⟨rfl,hb3⟩);go_ret;exact⟨rfl,hb2.trans (hb3.mono hz2)⟩
  | true =>
   go_upto_region 4 with (go_at_call 77;refine(HP.out _).mono ?_;rintro r w3 ⟨rfl,hb3⟩)
   clear k0 k1 k2 k3 k4 k5 k6 k7;have aev:=hb2.trans (hb3.mono hz2);have hL3:=HL2.out.below hb3;have hz3:=hb3.size;have hal:=aA w3 (.cells #[.slice none 0 0] 120);have gv:=aX w3 (.cells #[.slice none 0 0] 120);have hb4:=aev.trans (hal.mono aev.size);have hL4:=hL3.below hal;obtain⟨⟨k0,k1,k2,k3,k4,k5,k6,k7⟩,-⟩:=hL4.cells
   have hvl:w3.heap.size<(w3.alloc (.cells #[.slice none 0 0] 120)).heap.size:=by simp
   go_upto_region 5 with fail
   change Code.wp _ _ _ _ (w3.alloc (.cells #[.slice none 0 0] 120));generalize w3.alloc (.cells #[.slice none 0 0] 120)=w4 at *;have HG:=ay gv;clear hL3 hL4 gv;generalize hvv:w3.heap.size=vb at *
   have hwv:w.heap.size<=vb:=by have:=aev.size;omega
   go_wp2;clear k0 k1 k2 k3 k4 k5 k6 k7
   go_loopw [7,31] (λ_ q wr=>∃ (k:Nat) (ab:Option Addr) (cb:Nat) (bd:List aH),k<=ms.length/\q=.int .i64 k/\rs=Az bd (ms.drop k)/\wr.heap[vb]?=some (.cells #[.slice ab bd.length cb] 120 (0,0))/\fK (λb=>b≠vb) wr (.slice ab bd.length cb) bd/\bd.Pairwise (· < ·)/\bd.length<=k/\Below w.heap.size w wr) (λ_ q _=>ms.length - (intOf q).toNat)
   case atStart=>exact⟨0,none,0,[],kJ _,rfl,by rw[HRS.out];rfl,HG.out,fK.nil _ _,List.Pairwise.nil,kJ _,hb4⟩
   case round =>
    obtain⟨k,ab,cb,bd,hk,rfl,hres,hvb,htr,hrr,hbk,hbl⟩:=hrel;have DY:=hbl.size;have hvr:=(bP hvb).1;have qB:=ay hres;have HVB:=ay hvb;have Md:=ay htr;have HRR:=ay hrr;clear hres hvb htr hrr
    by_cases hlt:k<ms.length
    ·obtain⟨b,off,rfl,_,hbw,hcell⟩:=HF.out (by omega)
     obtain⟨_,_,hc⟩:=hcell k hlt;have x0:=(hbl.cell (p:=⟨b,off+k * 2+0,none⟩) hbw).trans (hc 0 _ rfl);have x1:=(hbl.cell (p:=⟨b,off+k * 2+1,none⟩) hbw).trans (hc 1 _ rfl);rw[nZ] at x0;have hdr:ms.drop k=ms[k] :: ms.drop (k+1):=List.drop_eq_getElem_cons hlt;have hmm:=HMS.out.2 _ (nH hlt)
     have nK:(k:Int)<(ms.length:Int):=by omega
     have HDR:=ay hdr;clear hc hcell hdr;generalize ms[k]=y at *;have Gf:Hid (rs=(dw y && (!decide (y∈bd) && Az (gD (bd++[y])) (ms.drop (k+1))))):=ay (by rw[qB.out,HDR.out,Az]);have cO:=aA wr (.cells #[.string ⟨y.toArray⟩,.slice none 0 0] 108);have hN:=aX wr (.cells #[.string ⟨y.toArray⟩,.slice none 0 0] 108);clear qB HDR
     go_upto_region 8 with fail
     change Code.wp _ _ _ _ (wr.alloc (.cells #[.string ⟨y.toArray⟩,.slice none 0 0] 108));clear x0 x1
     have hyl:wr.heap.size<(wr.alloc (.cells #[.string ⟨y.toArray⟩,.slice none 0 0] 108)).heap.size:=by simp
     generalize wr.alloc (.cells #[.string ⟨y.toArray⟩,.slice none 0 0] 108)=w5 at *;have Tk:=cO.size;have gv5:=(cO.block _ hvr).trans HVB.out;have hT5:=Md.out.below cO;have hb5:=hbl.trans (cO.mono DY);have HFR:=ay (RV y w5 hmm);have HN5:=ay hN;have HV5:=ay gv5;have HT5:=ay hT5;obtain⟨y0,y1⟩:=mG hN;generalize dw y=py at *;clear hN gv5 hT5 HVB Md
     cases py with
     | false =>
      have HE:Hid (rs=false):=ay (by rw[Gf.out];rfl);clear Gf;go_wp2_with (go_at_call 75;refine HFR.out.mono ?_;rintro r w6 ⟨rfl,hb6⟩);go_ret;exact⟨by rw[HE.out];rfl,hb5.trans (hb6.mono hb5.size)⟩
     | true =>
      have HH:=ay (λW (hW:Below w5.heap.size w5 W)=>Ar _ ab cb bd ⟨y.toArray⟩ W (HT5.out.below hW) HRR.out (by omega));simp only at HH;have HW0:=ay (λW (hW:Below w5.heap.size w5 W)=>Av (λ_=>True) ab cb (.slice (some ⟨W.heap.size,0,none⟩) 1 1) bd [y] (W.alloc (.cells #[.string ⟨y.toArray⟩] 9)) (((HT5.out.below hW).below (aA W _)).imp λ_ _ _=>trivial) (Ej W y) (by omega) (by simp));have hsl:=pR (bd++[y]);rw[bY,List.length_singleton] at hsl;have HSR:=ay (pQ (bd++[y]));generalize gD (bd++[y])=S at *
      obtain⟨m,hm⟩:∃ m,m=decide (y∈bd):=⟨_,rfl⟩
      rw[<- hm] at HH Gf;clear hm
      cases m with
      | true =>
       have HE:Hid (rs=false):=ay (by rw[Gf.out];rfl);clear Gf HW0;go_wp2_with (first|(go_at_call 75;refine HFR.out.mono ?_;rintro r w6 ⟨rfl,hb6⟩;obtain⟨v0,v1⟩:=mG ((hb6.block _ hyl).trans HN5.out);obtain⟨u0,uz⟩:=bN ((hb6.block _ (by omega)).trans HV5.out))|(go_at_call 78;refine(HH.out _ hb6).mono ?_;rintro r w7 ⟨rfl,Ad⟩));go_ret;exact⟨by rw[HE.out];rfl,hb5.trans ((hb6.trans (Ad.mono hb6.size)).mono hb5.size)⟩
      | false =>
       have HE:Hid (rs=Az S (ms.drop (k+1))):=ay (by rw[Gf.out];rfl);clear Gf
       go_upto_region 10 with (first|(go_at_call 75;refine HFR.out.mono ?_;rintro r w6 ⟨rfl,hb6⟩;obtain⟨v0,v1⟩:=mG ((hb6.block _ hyl).trans HN5.out);obtain⟨u0,uz⟩:=bN ((hb6.block _ (by omega)).trans HV5.out))|(go_at_call 78;refine(HH.out _ hb6).mono ?_;rintro r w7 ⟨rfl,Ad⟩))
       clear y0 y1 v0 v1 u0 uz;have Zv:=hb6.trans (Ad.mono hb6.size);have hz7:=Zv.size;obtain⟨v0,v1⟩:=mG ((Zv.block _ hyl).trans HN5.out);have gv7:=(Zv.block _ (by omega)).trans HV5.out;obtain⟨u0,uz⟩:=bN gv7;have HWx:=ay (HW0.out w7 Zv);have nE:Below w7.heap.size w7 (w7.alloc (.cells #[.string ⟨y.toArray⟩] 9)):=aA w7 _;have HV7:=ay gv7;clear gv7 HW0 HH HFR HN5 HT5
       have ahT:vb<w7.heap.size:=by omega
       go_wp2_with (go_at_call 61;refine HWx.out.mono ?_;rintro e w9 ⟨a9,c9,rfl,ht9,aew⟩;have agz:=nE.trans (aew.mono (by simp));have gv9:=(agz.block _ ahT).trans HV7.out;have hfz:=(bN gv9).2;have hc0:=(bN gv9).1);have hw9:=hb5.trans ((Zv.trans (agz.mono hz7)).mono hb5.size);have gvF:=jN w9 vb 0 _ _ (.slice a9 S.length c9) gv9
       have hTF:fK (λb=>b≠vb) (w9.setCell ⟨vb,0,none⟩ (.slice a9 S.length c9)) (.slice a9 S.length c9) S:=(ht9.frame (aW.set _ λb hb=>by have:=nE.size;show b≠vb;omega)).imp λb hb _=>by have:=nE.size;omega
       have hwF:Below w.heap.size w (w9.setCell ⟨vb,0,none⟩ (.slice a9 S.length c9)):=hw9.setCell hwv _
       go_roundw
       case rel=>exact⟨k+1,a9,c9,S,by omega,by go_num,HE.out,gvF,hTF,HSR.out,by omega,hwF⟩
       case measure=>simp[intOf];omega
    ·obtain rfl:k=ms.length:=by omega
     have nK:decide ((ms.length:Int)<(ms.length:Int))=false:=dX (by omega);have HE:Hid (rs=true):=ay (by rw[qB.out,List.drop_length];rfl);go_wp2;go_ret;exact⟨by rw[HE.out];rfl,hbl⟩
theorem Tryz.Wn:(Tryz.prog.info? 60).map (λi=>(i.zero,i.size,i.bytes))=some (some (.agg #[.int .i64 0,.string ⟨#[]⟩,.string ⟨#[]⟩,.bool false,.slice none 0 0,.bool false,.slice none 0 0,.int .i64 0]),8,112):=by kernel_rfl
def aex (n:Nat)(cs:List Value)(w:World)(e:Ending)(w':World):Prop:=∃ a c,e=.returned (.slice a n c)/\oJ (λb=>w.heap.size<=b) w' (.slice a n c) 8 n cs/\Below w.heap.size w w'
theorem Gg (P:Nat->Prop)(v:Value)(n:Nat)(cs:List Value)(w:World)(h:oJ P w v 8 n cs)(h1:∀ u∈cs,u.oneCell'=true)(hn:n<=1000000) :
  Calls Tryz.prog 82 #[v] w (aex n cs w):=by
 obtain⟨i0,hi,hz0,hz1,hz2⟩:=info_parts Tryz.Wn;obtain⟨ao,cap,rfl,hcap,hlen,hf⟩:=h
 have q22:∀ (w:World) (a:Option Addr) (n c n' c':Nat),(binOp .eql 55 (.slice a n c) (.slice none n' c')).run Tryz.prog w=.ok (.bool a.isNone) w:=λw a n c n' c'=>Lib.run_eql_slice_nil w _ _ a n c n' c' Tryz.underlying55
 have u22:∀ w,Sem.run Tryz.prog (underlying 55) w=.ok (TypeDesc.slice 60) w:=run_underlying Tryz.underlying55
 cases ao with
 | none =>
  have hn0:n=0:=by
   rcases Nat.eq_zero_or_pos n with q|q
   ·exact q
   ·obtain⟨b,off,q1,_⟩:=hf q;cases q1
  subst hn0;obtain rfl:cs=[]:=List.eq_nil_of_length_eq_zero (by omega);clear hf hlen h1;go_enter Tryz.func82,Tryz.ntmps82;go_wp2;go_ret;exact⟨none,0,rfl,oJ.nil _ _ _,bQ _ _⟩
 | some ad =>
  have hnews:∀ j u,cs[j]?=some u->w.cell? (ad.add j)=some u:=λj u hj=>by
   obtain⟨h2,h3⟩:=pE hj;obtain⟨b,off,q1,_,_,q2⟩:=hf (by omega)
   injection q1 with q1
   rw[q1,Addr.add_lit,q2 j h2,h3]
  have ahU:∀ j u,cs[j]?=some u->(ad.add j).block<w.heap.size:=λj u hj=>by
   obtain⟨h2,h3⟩:=pE hj;obtain⟨b,off,q1,_,q3,q2⟩:=hf (by omega)
   injection q1 with q1
   rw[q1,Addr.add_lit];exact q3
  have A:=ay hnews;have HLEN:=ay hlen;have HU:=ay h1;clear hf hlen h1 hnews;go_enter Tryz.func82,Tryz.ntmps82;go_wp2_with (at_builtin;refine wpList_append_own _ rfl _ _ 55 rfl w.heap.size 60 i0 (.agg #[.int .i64 0,.string ⟨#[]⟩,.string ⟨#[]⟩,.bool false,.slice none 0 0,.bool false,.slice none 0 0,.int .i64 0]) 8 112 Tryz.underlying55 hi hz0 hz1 hz2 rfl (by decide) _ _ _ rfl (World.ownsRow_made w #[] 0 (bD _) (kJ _) rfl) ad n cap cs rfl ?qc1 ?qc2 ?qc3 ?qc4 ?qc5 ?qc6 ?_)
  case qc1=>exact HLEN.out
  case qc2 =>
   intro j u hj;have:=A.out j u hj;rw[yK (gZ w _ _ (ahU j u hj))];exact this
  case qc3=>exact HU.out
  case qc4=>unfold maxLen;omega
  case qc5=>omega
  case qc6=>simp
  intro v' w1 hown hgrow hnil;have hb:Below w.heap.size w w1:=((bQ _ w).alloc (bD _) _).grown hgrow (by simp) (by intro k hk;simp[Value.ownBlock] at hk;omega)
  have hsl:=oJ.fQ (P:=λb=>w.heap.size<=b) hown λ_ hb=>hb
  have hvf:∃ a c,v'=.slice a n c:=by
   rcases hown.2 with ⟨q,q2⟩|⟨g,jw,cur,q,_⟩
   ·exact⟨none,0,by rw[q,show n=0 by omega]⟩
   ·exact⟨_,_,q⟩
  obtain⟨a',c',rfl⟩:=hvf;clear hown hgrow hnil;go_wp2;go_ret;exact⟨a',c',rfl,hsl,hb⟩
end Go.Proofs.YtmleecdnkmoohaaGreatDoor

namespace Go.Proofs.YtmleecdnkmoohaaGreatDoor
end Go.Proofs.YtmleecdnkmoohaaGreatDoor
