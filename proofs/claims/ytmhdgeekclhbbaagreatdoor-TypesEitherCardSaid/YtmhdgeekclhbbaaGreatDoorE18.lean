/- Walks and plain laws, without a condition. -/
import Derived.Test.YtmhdgeekclhbbaaGreatDoorE17
set_option maxHeartbeats 16000000
set_option maxRecDepth 100000
set_option linter.unusedVariables false
set_option linter.unusedSimpArgs false
namespace Go.Proofs.YtmhdgeekclhbbaaGreatDoor
open Go.RowKit Go
variable{w w':World}{B k b:Nat}{p:ZP}{c0 c1:Value}
theorem yC {base:Int}{ks:List PZ}(h:lU base ks=true):(base=1\/base=2)/\ks.length<=1/\∀ e∈ks,e.right true=true:=by
 unfold lU at h;simp only[qM,Bool.or_eq_true,uK] at h;exact⟨h.1,h.2.1,λe he=>xW.1 h.2.2 e he⟩
def acF (f:FuncId)(lb:Array Value)(B' b:Nat)(w:World)(x:ZF):Prop:=∀ (acc:aH) (W:World) (ac:Option Addr) (cc:Nat),iP w B' b acc W->lS B' W ac x.aC->acc.length+x.text.length<=1099511627776 ->
 Calls Tryz.prog f (#[.agg #[.string ⟨x.name.toArray⟩,.int .i64 x.base,.slice ac x.aC.length cc,.int .i64 x.at_,.int .i64 x.bare]]++lb) W (bW B' b (acc++x.text) W)
theorem acG (x:ZF)(hr:x.right=true)(hf:x.fit)(B' b tb:Nat)(acc0:aH)(w:World)(hb0:kW B' b acc0 w 151)(ht:w.heap[tb]?=some (.cells #[.pointer (some ⟨b,0,none⟩)] 145 (0,0)))(hB:B'<=w.heap.size) :
  acF 211 #[.pointer (some ⟨tb,0,none⟩)] B' b w x:=by
 intro acc W ac cc st hE hn;rw[ZF.right,qM] at hr;obtain⟨EU,hk1,hkr⟩:=yC hr.2;have hT:=st.box hb0 ht (by decide) (by decide);have hal:=aB W (.cells #[.string ⟨x.name.toArray⟩,.int .i64 x.base,.slice ac x.aC.length cc,.int .i64 x.at_,.int .i64 x.bare] 68);have hN:=aZ W (.cells #[.string ⟨x.name.toArray⟩,.int .i64 x.base,.slice ac x.aC.length cc,.int .i64 x.at_,.int .i64 x.bare] 68);have hBW:=iY hB st.lT.size;have hT1:=(hal.block tb (bU hT).1).trans hT;have s1:=(iP.start st.mH).below hal hBW;have hE1:=hE.below hal;have hB1:=iY hBW hal.size;have Rx:=ay (λ(a:aH) (V:World) hk hbd VR hl=>H7 x.base EU x.aC B' B' b ac cc a V (λe he=>yT _ e (Nat.lt_succ_self _) (hkr e he) (hf.2.2 e he)) hk (bI _) hbd VR hl (by omega))
 have htx:acc++x.text=(acc++(x.name++[58,32]))++lV x.base x.aC:=by rw[ZF.text];simp[om]
 have hln:acc.length+x.name.length+2+(lV x.base x.aC).length<=1099511627776:=by
  have:=congrArg List.length htx;simp only[bQ,dN,iF] at this;omega
 rw[htx];have eN:(ByteArray.mk x.name.toArray).data.toList=x.name:=rfl
 have eN2:(ByteArray.mk x.name.toArray).size=x.name.length:=by show x.name.toArray.size=_;simp
 have HE1:=ay hE1;show Calls _ _ #[_,_] _ _;clear hE hn st hT ht hb0 hr hkr hf htx hE1;generalize lV x.base x.aC=ty at *;go_enter Tryz.func211,Tryz.ntmps211
 go_upto_region 1 with fail
 change Code.wp _ _ _ _ (W.alloc (.cells #[.string ⟨x.name.toArray⟩,.int .i64 x.base,.slice ac x.aC.length cc,.int .i64 x.at_,.int .i64 x.bare] 68));generalize W.alloc _=w1 at hal hN hT1 s1 HE1 hB1 |-;obtain⟨y0,y1,y2,y3,y4⟩:=dL hN
 have yt:w1.cell? ⟨tb,0,none⟩=some (.pointer (some ⟨b,0,none⟩)):=by rw[bg hT1];rfl
 have HW:=ay (yR ⟨x.name.toArray⟩ ⟨#[58,32]⟩ B' b acc w1 s1.mH hB1 (by rw[eN2];show _+2<=_;omega));have Jz:=ay s1;have HN:=ay hN;have HT1:=ay hT1;clear hN hT1 s1 eN eN2
 go_upto_region 2 with (go_at_call 123;refine HW.out.mono ?_;rintro r w2 h2;obtain rfl:=h2.eq)
 have s2:=(iP.start Jz.out.mH).write h2;have hz2:=s2.lT.size;clear y0 y1 y2 y3 y4 yt;obtain⟨y0,y1,y2,y3,y4⟩:=dL (s2.box Jz.out.mH HN.out (by decide) (by decide))
 have yt:w2.cell? ⟨tb,0,none⟩=some (.pointer (some ⟨b,0,none⟩)):=by rw[bg (s2.box Jz.out.mH HT1.out (by decide) (by decide))];rfl
 have HY:=ay (Rx.out (acc++(x.name++[58,32])) w2 (HE1.out.uD s2.lT) s2.mH (by omega) (by simp only[bQ,dN,iF];omega));have HS2:=ay s2;clear Rx HW h2 s2 HN HT1 HE1;go_wp2_with (go_at_call 71;refine HY.out.mono ?_;rintro r w3 h3;obtain rfl:=h3.eq)
 go_end0
 exact bW.from hal hBW (HS2.out.write h3)
theorem Ym (f:FuncId)(lb:Array Value)(eg:∀ args w,(callFunc f args).run Tryz.prog w=.ok (.enter f args) w)(ks:List ZF)(B B' b:Nat)(ae:Option Addr)(ce:Nat)(acc:aH)(w:World)(hk:∀ x∈ks,acF f lb B' b w x)(h:Er B w ae ks)(nS:B<=B')(hbd:kW B' b acc w 151)(hB:B'<=w.heap.size)(hn:acc.length+(bR (ks.map ZF.text)).length<=1099511627776)(hkl:ks.length<=1000000) :
  Calls Tryz.prog 210 #[.pointer (some ⟨b,0,none⟩),.slice ae ks.length ce,.func (.func f) #[] lb] w (bW B' b (acc++bR (ks.map ZF.text)) w):=by
 have HH:=ay h;have HK:=ay hk;have HB:=ay hbd;clear h hk hbd;go_enter Tryz.func210,Tryz.ntmps210;go_wp2
 go_loopw [6,10] (λ_ q wr=>∃ k:Nat,k<=ks.length/\q=.int .i64 k/\iP w B' b (acc++bR ((ks.map ZF.text).take k)) wr) (λ_ q _=>ks.length - (intOf q).toNat)
 case atStart=>exact⟨0,mD _,rfl,by simpa [bR] using iP.start HB.out⟩
 case round =>
  obtain⟨k,hkk,rfl,st⟩:=hrel;have hz:=st.lT.size
  by_cases hlt:k<ks.length
  ·have hlm:k<(ks.map ZF.text).length:=by simpa using hlt
   have hts:(ks.map ZF.text).take (k+1)=(ks.map ZF.text).take k++[ks[k].text]:=by rw[EF hlm];simp
   have hsn:=uf ((ks.map ZF.text).take k) ks[k].text;rw[<- hts] at hsn;have hle:=Df ((ks.map ZF.text).take (k+1)) ((ks.map ZF.text).drop (k+1));rw[List.take_append_drop] at hle
   have hnil:((ks.map ZF.text).take k=[])↔k=0:=by
    constructor
    ·intro q
     have:=congrArg List.length q;rw[qX,iF] at this;omega
    ·rintro rfl;rfl
   simp only[hnil] at hsn;have HD:=ay (HK.out _ (oQ hlt));obtain⟨kb,off,rfl,hkB,hkw,kK⟩:=HH.out.uD (st.lT.mono nS) (by omega);obtain⟨ac,cc,hE,x0,x1,x2,x3,x4⟩:=kK k hlt;have tZ:=ay hsn;have HST:=ay st
   have hc0:k=0->bR ((ks.map ZF.text).take k)=[]:=by rintro rfl;rfl
   have HC0:=ay hc0;clear hsn hts hlm hnil st hc0 kK;generalize bR ((ks.map ZF.text).take k)=c at tZ HST HC0;generalize hcc:bR ((ks.map ZF.text).take (k+1))=c2 at hle tZ;have Vr:=ay hcc;clear hcc;generalize ks[k]=x at *
   have qF:(k:Int)<(ks.length:Int):=by omega
   have hln:acc.length+c2.length<=1099511627776:=by omega
   have hal:=aB wr (.cells #[.string ⟨x.name.toArray⟩,.int .i64 x.base,.slice ac x.aC.length cc,.int .i64 x.at_,.int .i64 x.bare] 68);have hN:=aZ wr (.cells #[.string ⟨x.name.toArray⟩,.int .i64 x.base,.slice ac x.aC.length cc,.int .i64 x.at_,.int .i64 x.bare] 68);have s1:=HST.out.below hal hB
   have hE1:lS B' (wr.alloc (.cells #[.string ⟨x.name.toArray⟩,.int .i64 x.base,.slice ac x.aC.length cc,.int .i64 x.at_,.int .i64 x.bare] 68)) ac x.aC:=λh0=>by
    obtain⟨q,o,q1,q2,q3,q4⟩:=hE.below hal h0;refine⟨q,o,q1,by omega,q3,λi hi=>?_⟩;obtain⟨NZ,wn',N7,M0,M4,q5,q6⟩:=q4 i hi;exact⟨NZ,wn',N7,M0,M4,q5.imp λb hb _=>by omega,q6⟩
   clear hle hE
   go_upto_region 3 with fail
   change Code.wp _ _ _ _ (wr.alloc (.cells #[.string ⟨x.name.toArray⟩,.int .i64 x.base,.slice ac x.aC.length cc,.int .i64 x.at_,.int .i64 x.bare] 68));clear x0 x1 x2 x3 x4;generalize wr.alloc _=w1 at hal hN s1 hE1 |-;have hz1:=hal.size
   by_cases h0:k=0
   ·have HS0:Hid (c2=x.text):=ay (by rw[tZ.out,bq h0])
    have hc0:=HC0.out h0;subst hc0;rw[List.append_nil] at s1;have HX:=ay (HD.out acc w1 ac cc s1 hE1 (by rw[<- HS0.out];exact hln));have CJ:Hid (bR ((ks.map ZF.text).take (k+1))=c2):=Vr;have Jz:=ay s1;obtain⟨y0,y1,y2,y3,y4⟩:=dL hN
    have adT:(k:Int)<=0:=by omega
    clear tZ HST HD hal hN s1 hE1 HC0 Vr h0;go_wp2_with (go_at_fn f;refine HX.out.mono ?_;rintro r w3 h3;obtain rfl:=h3.eq);refine⟨⟨k+1,by omega,by go_num,?_⟩,by simp[intOf];omega⟩;rw[CJ.out,HS0.out];exact Jz.out.write h3
   ·have HS0:Hid (c2=c++[44,32]++x.text):=ay (by rw[tZ.out,aP h0])
    have hl2:acc.length+c.length+2+x.text.length<=1099511627776:=by
     have:=congrArg List.length HS0.out;simp only[bQ,dN,iF] at this;omega
    have adT:(0:Int)<(k:Int):=by omega
    have CJ:Hid (bR ((ks.map ZF.text).take (k+1))=c2):=Vr;clear h0 tZ HC0 Vr hln
    go_upto_region 5 with (go_at_call 123;refine(dV ⟨#[44,32]⟩ B' b (acc++c) w1 s1.mH (by omega) (by show (acc++c).length+2<=_;rw[bQ];omega)).mono ?_;rintro r w2 h2;obtain rfl:=h2.eq)
    have s2:=s1.write h2;obtain⟨y0,y1,y2,y3,y4⟩:=dL (s1.mH.block h2.2.2.2 hN (by decide) (by decide));have HX:=ay (HD.out (acc++c++[44,32]) w2 ac cc s2 (hE1.uD h2.2.2.1) (by simp only[bQ,dN,iF];omega));have Jz:=ay s2;clear HST HD hal hN s1 hE1 s2 h2;go_wp2_with (go_at_fn f;refine HX.out.mono ?_;rintro r w3 h3;obtain rfl:=h3.eq);refine⟨⟨k+1,by omega,by go_num,?_⟩,by simp[intOf];omega⟩;have:=Jz.out.write h3;rw[CJ.out,HS0.out]
    simpa [om] using this
  ·obtain rfl:k=ks.length:=by omega
   have qF:decide ((ks.length:Int)<(ks.length:Int))=false:=fu (by omega);rw[show (ks.map ZF.text).take ks.length=ks.map ZF.text by rw[DL (by simp)]] at st;have HST:=ay st;clear st;go_wp2
   go_end0
   exact⟨rfl,HST.out.mH,HST.out.lT,HST.out.kept⟩
theorem acH (d:ZD)(hs:d.sound=true)(hf:d.fit)(B B' b:Nat)(ap:Option Addr)(cp:Nat)(ac:Option Addr)(cc:Nat)(am:Option Addr)(wn cm:Nat)(ae:Option Addr)(ce:Nat)(acc:aH)(w:World)(h:EW d B ap cp ac cc am wn cm ae ce w)(nS:B<=B')(hbd:kW B' b acc w 151)(hB:B'<=w.heap.size)(hn:acc.length+d.text.length<=1099511627776) :
  Calls Tryz.prog 131 #[.pointer (some ⟨b,0,none⟩),.agg #[.bool d.pub,.string ⟨d.res.name.toArray⟩,.slice ap d.params.length cp,.int .i64 d.res.base,.slice ac d.res.aC.length cc,.int .i64 d.body.op,.string ⟨d.body.name.toArray⟩,.string ⟨d.body.module.toArray⟩,.bool (decide (d.body.num<0)),.slice am wn cm,.bool d.body.yes,.slice ae d.body.aA.length ce,.int .i64 d.body.at_,.int .i64 d.res.at_,.int .i64 d.res.bare]] w (bW B' b (acc++d.text) w):=by
 obtain⟨f1,f2,f3,f4⟩:=hf;have hs':=hs;rw[ZD.sound] at hs';simp only[qM,uK,Bool.not_eq_true',List.any_eq_false] at hs';obtain⟨hs1,hs2,hs3,hs4,hs5⟩:=hs'
 have hpr:∀ x∈d.params,x.right=true:=λx hx=>by have:=hs3 x hx;simpa using this
 obtain⟨EU,hk1,hkr⟩:=yC hs4
 obtain⟨pb,hpb⟩:∃ l,l=if d.pub=true then [112,117,98,32] else ([]:aH):=⟨_,rfl⟩
 have eNz:(ByteArray.mk d.res.name.toArray).size=d.res.name.length:=by show d.res.name.toArray.size=_;simp
 have hout:acc++d.text=acc++pb++([102,117,110,32]++(d.res.name++[40]))++bR (d.params.map ZF.text)++[41,58,32]++lV d.res.base d.res.aC++[32,61,32]++d.body.text++[59,10]:=by
  rw[ZD.text,<- hpb];simp[om]
 have hal:=(aB w (.cells #[.pointer (some ⟨b,0,none⟩)] 145)).alloc (by simp) (.cells (iG d ap cp ac cc am wn cm ae ce) 66);have hT:=(iB (w.alloc (.cells #[.pointer (some ⟨b,0,none⟩)] 145)) (.cells (iG d ap cp ac cc am wn cm ae ce) 66) w.heap.size (by simp)).trans (aZ w (.cells #[.pointer (some ⟨b,0,none⟩)] 145));have hN:=aZ (w.alloc (.cells #[.pointer (some ⟨b,0,none⟩)] 145)) (.cells (iG d ap cp ac cc am wn cm ae ce) 66);rw[oU] at hN;have hb1:=hbd.nE hal;have zn:=hal.mono hB;have hB1:=iY hB hal.size;have h1:=h.below hal;have ent:=enters_of Tryz.func211 (by kernel_rfl) rfl
 have hL:=λ(a:aH) (V:World) (w1:World) (hV:Below B' w1 V) (h1:EW d B ap cp ac cc am wn cm ae ce w1) (hbv:kW B' b a V 151) (ht:V.heap[w.heap.size]?=some (.cells #[.pointer (some ⟨b,0,none⟩)] 145 (0,0))) (VR:B'<=V.heap.size) (hl:a.length+(bR (d.params.map ZF.text)).length<=1099511627776)=>Ym 211 #[.pointer (some ⟨w.heap.size,0,none⟩)] ent d.params B B' b ap cp a V (λx hx=>acG x (hpr x hx) (f2 x hx) B' b w.heap.size a V hbv ht VR) (h1.uD (hV.mono nS)).mG nS hbv VR hl f1
 have hTY:=λ(a:aH) (V:World) (w1:World) (hV:Below B' w1 V) (h1:EW d B ap cp ac cc am wn cm ae ce w1) (hbv:kW B' b a V 151) (VR:B'<=V.heap.size) (hl:a.length+(lV d.res.base d.res.aC).length<=1099511627776)=>H7 d.res.base EU d.res.aC B B' b ac cc a V (λe he=>yT _ e (Nat.lt_succ_self _) (hkr e he) (f3.2.2 e he)) (h1.uD (hV.mono nS)).cl nS hbv VR hl (by omega)
 have hXP:=λ(a:aH) (V:World) (w1:World) (hV:Below B' w1 V) (h1:EW d B ap cp ac cc am wn cm ae ce w1) (hbv:kW B' b a V 151) (VR:B'<=V.heap.size) (hl:a.length+d.body.text.length<=1099511627776)=>yT _ d.body (Nat.lt_succ_self _) hs5 f4 B B' b am wn cm ae ce a V (h1.uD (hV.mono nS)).body nS hbv VR hl
 have hlen:acc.length+d.text.length=acc.length+pb.length+(4+(d.res.name.length+1))+(bR (d.params.map ZF.text)).length+3+(lV d.res.base d.res.aC).length+3+d.body.text.length+2:=by
  have:=congrArg List.length hout;simp only[bQ,dN,iF] at this;omega
 have ake:pb.length<=4:=by rw[hpb];split<;>simp
 rw[hlen] at hn;have ahI:=ay hout;clear hout hlen hs hs1 hs2 hs3 hs4 hs5 hpr hkr f1 f2 f3 f4 ent h;generalize bR (d.params.map ZF.text)=RB at *;generalize lV d.res.base d.res.aC=ty at *;generalize d.body.text=bt at *;go_enter Tryz.func131,Tryz.ntmps131
 go_upto_region 1 with fail
 change Code.wp _ _ _ _ ((w.alloc (.cells #[.pointer (some ⟨b,0,none⟩)] 145)).alloc (.cells (iG d ap cp ac cc am wn cm ae ce) 66));generalize (w.alloc _).alloc _=w1 at hal hT hN hb1 zn hB1 h1 |-;have HL:=ay (λa V hV hbv ht VR hl=>hL a V w1 hV h1 hbv ht VR hl);have Rx:=ay (λa V hV hbv VR hl=>hTY a V w1 hV h1 hbv VR hl);have HXP:=ay (λa V hV hbv VR hl=>hXP a V w1 hV h1 hbv VR hl);have HB1:=ay hb1;have HN:=ay hN;have HT:=ay hT;have HPB:=ay hpb;have Jz:=ay (iP.start hb1);clear hL hTY hXP hN hT hb1 h1 hpb
 have hrest:∀ (w2:World),iP w1 B' b (acc++pb) w2->True:=λ_ _=>trivial
 clear hrest;obtain⟨y0,y1,y2,y3,y4,y5,y6,y7,y8,y9,um,uo,uq,-⟩:=aY HN.out
 have yt:w1.cell? ⟨w.heap.size,0,none⟩=some (.pointer (some ⟨b,0,none⟩)):=by rw[bg HT.out];rfl
 cases hpu:d.pub with
 | true =>
  have NC:Hid (pb=[112,117,98,32]):=ay (by rw[HPB.out,hpu];rfl);rw[hpu] at y0;have HW:=ay (dV ⟨#[112,117,98,32]⟩ B' b acc w1 Jz.out.mH hB1 (by show acc.length+4<=_;omega));clear hpu HPB
  go_upto_region 3 with (go_at_call 123;refine HW.out.mono ?_;rintro r w2 h2;obtain rfl:=h2.eq)
  have ahJ:=ay (Jz.out.write h2);have HS2:Hid (iP w1 B' b (acc++pb) w2):=ay (by rw[NC.out];exact ahJ.out);clear y0 y1 y2 y3 y4 y5 y6 y7 y8 y9 um uo uq yt HW h2 ahJ NC;obtain⟨y0,y1,y2,y3,y4,y5,y6,y7,y8,y9,um,uo,uq,-⟩:=aY (HS2.out.box HB1.out HN.out (by decide) (by decide))
  have yt:w2.cell? ⟨w.heap.size,0,none⟩=some (.pointer (some ⟨b,0,none⟩)):=by rw[bg (HS2.out.box HB1.out HT.out (by decide) (by decide))];rfl
  have hz2:=HS2.out.lT.size;have HW:=ay (show Calls _ _ _ _ (bW B' b (acc++pb++([102,117,110,32]++(d.res.name++[40]))) w2) from yS ⟨#[102,117,110,32]⟩ ⟨d.res.name.toArray⟩ ⟨#[40]⟩ B' b (acc++pb) w2 HS2.out.mH (by omega) (by rw[eNz];show (acc++pb).length+4+d.res.name.length+1<=_;simp only[bQ];omega))
  go_upto_region 4 with (go_at_call 123;refine HW.out.mono ?_;rintro r w3 h2;obtain rfl:=h2.eq)
  have J4:=ay (HS2.out.write h2);clear y0 y1 y2 y3 y4 y5 y6 y7 y8 y9 um uo uq yt HW h2 HS2;obtain⟨y0,y1,y2,y3,y4,y5,y6,y7,y8,y9,um,uo,uq,-⟩:=aY (J4.out.box HB1.out HN.out (by decide) (by decide))
  have yt:w3.cell? ⟨w.heap.size,0,none⟩=some (.pointer (some ⟨b,0,none⟩)):=by rw[bg (J4.out.box HB1.out HT.out (by decide) (by decide))];rfl
  have hz3:=J4.out.lT.size;have HW:=ay (HL.out (acc++pb++([102,117,110,32]++(d.res.name++[40]))) w3 J4.out.lT J4.out.mH (J4.out.box HB1.out HT.out (by decide) (by decide)) (by omega) (by simp only[bQ,dN,iF];omega))
  go_upto_region 5 with (go_at_call 210;refine HW.out.mono ?_;rintro r w4 h2;obtain rfl:=h2.eq)
  have TS:=ay (J4.out.write h2);clear y0 y1 y2 y3 y4 y5 y6 y7 y8 y9 um uo uq yt HW h2 J4;obtain⟨y0,y1,y2,y3,y4,y5,y6,y7,y8,y9,um,uo,uq,-⟩:=aY (TS.out.box HB1.out HN.out (by decide) (by decide))
  have yt:w4.cell? ⟨w.heap.size,0,none⟩=some (.pointer (some ⟨b,0,none⟩)):=by rw[bg (TS.out.box HB1.out HT.out (by decide) (by decide))];rfl
  have D7:=TS.out.lT.size;have HW:=ay (dV ⟨#[41,58,32]⟩ B' b (acc++pb++([102,117,110,32]++(d.res.name++[40]))++RB) w4 TS.out.mH (by omega) (by show (acc++pb++([102,117,110,32]++(d.res.name++[40]))++RB).length+3<=_;simp only[bQ,dN,iF];omega))
  go_upto_region 6 with (go_at_call 123;refine HW.out.mono ?_;rintro r w5 h2;obtain rfl:=h2.eq)
  have Qg:=ay (TS.out.write h2);clear y0 y1 y2 y3 y4 y5 y6 y7 y8 y9 um uo uq yt HW h2 TS;obtain⟨y0,y1,y2,y3,y4,y5,y6,y7,y8,y9,um,uo,uq,-⟩:=aY (Qg.out.box HB1.out HN.out (by decide) (by decide))
  have yt:w5.cell? ⟨w.heap.size,0,none⟩=some (.pointer (some ⟨b,0,none⟩)):=by rw[bg (Qg.out.box HB1.out HT.out (by decide) (by decide))];rfl
  have U8:=Qg.out.lT.size;have HW:=ay (Rx.out (acc++pb++([102,117,110,32]++(d.res.name++[40]))++RB++[41,58,32]) w5 Qg.out.lT Qg.out.mH (by omega) (by simp only[bQ,dN,iF];omega))
  go_upto_region 7 with (go_at_call 71;refine HW.out.mono ?_;rintro r w6 h2;obtain rfl:=h2.eq)
  have Yn:=ay (Qg.out.write h2);clear y0 y1 y2 y3 y4 y5 y6 y7 y8 y9 um uo uq yt HW h2 Qg;obtain⟨y0,y1,y2,y3,y4,y5,y6,y7,y8,y9,um,uo,uq,-⟩:=aY (Yn.out.box HB1.out HN.out (by decide) (by decide))
  have yt:w6.cell? ⟨w.heap.size,0,none⟩=some (.pointer (some ⟨b,0,none⟩)):=by rw[bg (Yn.out.box HB1.out HT.out (by decide) (by decide))];rfl
  have hz6:=Yn.out.lT.size;have HW:=ay (dV ⟨#[32,61,32]⟩ B' b (acc++pb++([102,117,110,32]++(d.res.name++[40]))++RB++[41,58,32]++ty) w6 Yn.out.mH (by omega) (by show (acc++pb++([102,117,110,32]++(d.res.name++[40]))++RB++[41,58,32]++ty).length+3<=_;simp only[bQ,dN,iF];omega))
  go_upto_region 8 with (go_at_call 123;refine HW.out.mono ?_;rintro r w7 h2;obtain rfl:=h2.eq)
  have Uv:=ay (Yn.out.write h2);clear y0 y1 y2 y3 y4 y5 y6 y7 y8 y9 um uo uq yt HW h2 Yn;obtain⟨y0,y1,y2,y3,y4,y5,y6,y7,y8,y9,um,uo,uq,-⟩:=aY (Uv.out.box HB1.out HN.out (by decide) (by decide))
  have yt:w7.cell? ⟨w.heap.size,0,none⟩=some (.pointer (some ⟨b,0,none⟩)):=by rw[bg (Uv.out.box HB1.out HT.out (by decide) (by decide))];rfl
  have hz7:=Uv.out.lT.size;have HW:=ay (HXP.out (acc++pb++([102,117,110,32]++(d.res.name++[40]))++RB++[41,58,32]++ty++[32,61,32]) w7 Uv.out.lT Uv.out.mH (by omega) (by simp only[bQ,dN,iF];omega))
  go_upto_region 9 with (go_at_call 124;refine HW.out.mono ?_;rintro r w8 h2;obtain rfl:=h2.eq)
  have HS8:=ay (Uv.out.write h2);clear y0 y1 y2 y3 y4 y5 y6 y7 y8 y9 um uo uq yt HW h2 Uv;obtain⟨y0,y1,y2,y3,y4,y5,y6,y7,y8,y9,um,uo,uq,-⟩:=aY (HS8.out.box HB1.out HN.out (by decide) (by decide))
  have yt:w8.cell? ⟨w.heap.size,0,none⟩=some (.pointer (some ⟨b,0,none⟩)):=by rw[bg (HS8.out.box HB1.out HT.out (by decide) (by decide))];rfl
  have hz8:=HS8.out.lT.size;have HW:=ay (dV ⟨#[59,10]⟩ B' b (acc++pb++([102,117,110,32]++(d.res.name++[40]))++RB++[41,58,32]++ty++[32,61,32]++bt) w8 HS8.out.mH (by omega) (by show (acc++pb++([102,117,110,32]++(d.res.name++[40]))++RB++[41,58,32]++ty++[32,61,32]++bt).length+2<=_;simp only[bQ,dN,iF];omega));go_wp2_with (go_at_call 123;refine HW.out.mono ?_;rintro r w9 h2;obtain rfl:=h2.eq)
  go_end0
  have hfin:=bW.from hal hB (HS8.out.write h2)
  rw[ahI.out];exact hfin
 | false =>
  have NC:Hid (pb=[]):=ay (by rw[HPB.out,hpu];rfl);rw[hpu] at y0;clear hpu HPB
  go_upto_region 3 with fail
  obtain⟨w2,hw2⟩:∃ w2:World,w2=w1:=⟨_,rfl⟩
  have HS2:Hid (iP w1 B' b (acc++pb) w1):=ay (by rw[NC.out,List.append_nil];exact Jz.out);clear y0 y1 y2 y3 y4 y5 y6 y7 y8 y9 um uo uq yt NC hw2 w2;obtain⟨y0,y1,y2,y3,y4,y5,y6,y7,y8,y9,um,uo,uq,-⟩:=aY (HS2.out.box HB1.out HN.out (by decide) (by decide))
  have yt:w1.cell? ⟨w.heap.size,0,none⟩=some (.pointer (some ⟨b,0,none⟩)):=by rw[bg (HS2.out.box HB1.out HT.out (by decide) (by decide))];rfl
  have hz2:=HS2.out.lT.size;have HW:=ay (show Calls _ _ _ _ (bW B' b (acc++pb++([102,117,110,32]++(d.res.name++[40]))) w1) from yS ⟨#[102,117,110,32]⟩ ⟨d.res.name.toArray⟩ ⟨#[40]⟩ B' b (acc++pb) w1 HS2.out.mH (by omega) (by rw[eNz];show (acc++pb).length+4+d.res.name.length+1<=_;simp only[bQ];omega))
  go_upto_region 4 with (go_at_call 123;refine HW.out.mono ?_;rintro r w3 h2;obtain rfl:=h2.eq)
  have J4:=ay (HS2.out.write h2);clear y0 y1 y2 y3 y4 y5 y6 y7 y8 y9 um uo uq yt HW h2 HS2;obtain⟨y0,y1,y2,y3,y4,y5,y6,y7,y8,y9,um,uo,uq,-⟩:=aY (J4.out.box HB1.out HN.out (by decide) (by decide))
  have yt:w3.cell? ⟨w.heap.size,0,none⟩=some (.pointer (some ⟨b,0,none⟩)):=by rw[bg (J4.out.box HB1.out HT.out (by decide) (by decide))];rfl
  have hz3:=J4.out.lT.size;have HW:=ay (HL.out (acc++pb++([102,117,110,32]++(d.res.name++[40]))) w3 J4.out.lT J4.out.mH (J4.out.box HB1.out HT.out (by decide) (by decide)) (by omega) (by simp only[bQ,dN,iF];omega))
  go_upto_region 5 with (go_at_call 210;refine HW.out.mono ?_;rintro r w4 h2;obtain rfl:=h2.eq)
  have TS:=ay (J4.out.write h2);clear y0 y1 y2 y3 y4 y5 y6 y7 y8 y9 um uo uq yt HW h2 J4;obtain⟨y0,y1,y2,y3,y4,y5,y6,y7,y8,y9,um,uo,uq,-⟩:=aY (TS.out.box HB1.out HN.out (by decide) (by decide))
  have yt:w4.cell? ⟨w.heap.size,0,none⟩=some (.pointer (some ⟨b,0,none⟩)):=by rw[bg (TS.out.box HB1.out HT.out (by decide) (by decide))];rfl
  have D7:=TS.out.lT.size;have HW:=ay (dV ⟨#[41,58,32]⟩ B' b (acc++pb++([102,117,110,32]++(d.res.name++[40]))++RB) w4 TS.out.mH (by omega) (by show (acc++pb++([102,117,110,32]++(d.res.name++[40]))++RB).length+3<=_;simp only[bQ,dN,iF];omega))
  go_upto_region 6 with (go_at_call 123;refine HW.out.mono ?_;rintro r w5 h2;obtain rfl:=h2.eq)
  have Qg:=ay (TS.out.write h2);clear y0 y1 y2 y3 y4 y5 y6 y7 y8 y9 um uo uq yt HW h2 TS;obtain⟨y0,y1,y2,y3,y4,y5,y6,y7,y8,y9,um,uo,uq,-⟩:=aY (Qg.out.box HB1.out HN.out (by decide) (by decide))
  have yt:w5.cell? ⟨w.heap.size,0,none⟩=some (.pointer (some ⟨b,0,none⟩)):=by rw[bg (Qg.out.box HB1.out HT.out (by decide) (by decide))];rfl
  have U8:=Qg.out.lT.size;have HW:=ay (Rx.out (acc++pb++([102,117,110,32]++(d.res.name++[40]))++RB++[41,58,32]) w5 Qg.out.lT Qg.out.mH (by omega) (by simp only[bQ,dN,iF];omega))
  go_upto_region 7 with (go_at_call 71;refine HW.out.mono ?_;rintro r w6 h2;obtain rfl:=h2.eq)
  have Yn:=ay (Qg.out.write h2);clear y0 y1 y2 y3 y4 y5 y6 y7 y8 y9 um uo uq yt HW h2 Qg;obtain⟨y0,y1,y2,y3,y4,y5,y6,y7,y8,y9,um,uo,uq,-⟩:=aY (Yn.out.box HB1.out HN.out (by decide) (by decide))
  have yt:w6.cell? ⟨w.heap.size,0,none⟩=some (.pointer (some ⟨b,0,none⟩)):=by rw[bg (Yn.out.box HB1.out HT.out (by decide) (by decide))];rfl
  have hz6:=Yn.out.lT.size;have HW:=ay (dV ⟨#[32,61,32]⟩ B' b (acc++pb++([102,117,110,32]++(d.res.name++[40]))++RB++[41,58,32]++ty) w6 Yn.out.mH (by omega) (by show (acc++pb++([102,117,110,32]++(d.res.name++[40]))++RB++[41,58,32]++ty).length+3<=_;simp only[bQ,dN,iF];omega))
  go_upto_region 8 with (go_at_call 123;refine HW.out.mono ?_;rintro r w7 h2;obtain rfl:=h2.eq)
  have Uv:=ay (Yn.out.write h2);clear y0 y1 y2 y3 y4 y5 y6 y7 y8 y9 um uo uq yt HW h2 Yn;obtain⟨y0,y1,y2,y3,y4,y5,y6,y7,y8,y9,um,uo,uq,-⟩:=aY (Uv.out.box HB1.out HN.out (by decide) (by decide))
  have yt:w7.cell? ⟨w.heap.size,0,none⟩=some (.pointer (some ⟨b,0,none⟩)):=by rw[bg (Uv.out.box HB1.out HT.out (by decide) (by decide))];rfl
  have hz7:=Uv.out.lT.size;have HW:=ay (HXP.out (acc++pb++([102,117,110,32]++(d.res.name++[40]))++RB++[41,58,32]++ty++[32,61,32]) w7 Uv.out.lT Uv.out.mH (by omega) (by simp only[bQ,dN,iF];omega))
  go_upto_region 9 with (go_at_call 124;refine HW.out.mono ?_;rintro r w8 h2;obtain rfl:=h2.eq)
  have HS8:=ay (Uv.out.write h2);clear y0 y1 y2 y3 y4 y5 y6 y7 y8 y9 um uo uq yt HW h2 Uv;obtain⟨y0,y1,y2,y3,y4,y5,y6,y7,y8,y9,um,uo,uq,-⟩:=aY (HS8.out.box HB1.out HN.out (by decide) (by decide))
  have yt:w8.cell? ⟨w.heap.size,0,none⟩=some (.pointer (some ⟨b,0,none⟩)):=by rw[bg (HS8.out.box HB1.out HT.out (by decide) (by decide))];rfl
  have hz8:=HS8.out.lT.size;have HW:=ay (dV ⟨#[59,10]⟩ B' b (acc++pb++([102,117,110,32]++(d.res.name++[40]))++RB++[41,58,32]++ty++[32,61,32]++bt) w8 HS8.out.mH (by omega) (by show (acc++pb++([102,117,110,32]++(d.res.name++[40]))++RB++[41,58,32]++ty++[32,61,32]++bt).length+2<=_;simp only[bQ,dN,iF];omega));go_wp2_with (go_at_call 123;refine HW.out.mono ?_;rintro r w9 h2;obtain rfl:=h2.eq)
  go_end0
  have hfin:=bW.from hal hB (HS8.out.write h2)
  rw[ahI.out];exact hfin
def VT (B:Nat)(w:World)(ai:Option Addr)(l:List (aH × Int)):Prop:=0<l.length->∃ b off,ai=some ⟨b,off,none⟩/\b<B/\b<w.heap.size/\∀ i,(hi:i<l.length)->w.cell? ⟨b,off+i * 2,none⟩=some (.string ⟨l[i].1.toArray⟩)/\w.cell? ⟨b,off+i * 2+1,none⟩=some (.int .i64 l[i].2)
def QU (B:Nat)(w:World)(ad:Option Addr)(l:List ZD):Prop:=0<l.length->∃ b off,ad=some ⟨b,off,none⟩/\b<B/\b<w.heap.size/\∀ i,(hi:i<l.length)->∃ ap cp ac cc am wn cm ae ce,EW l[i] B ap cp ac cc am wn cm ae ce w/\∀ j u,(iG l[i] ap cp ac cc am wn cm ae ce)[j]?=some u->w.cell? ⟨b,off+i * 15+j,none⟩=some u
theorem VT.uD {W:World}{ai:Option Addr}{l:List (aH × Int)}(h:VT B w ai l)(hW:Below B w W):VT B W ai l:=λh0=>by
 obtain⟨b,off,q1,q2,q3,q4⟩:=h h0;exact⟨b,off,q1,q2,zI q3 hW.size,λi hi=>⟨(hW.cell (p:=⟨b,off+i * 2,none⟩) q2).trans (q4 i hi).1,(hW.cell (p:=⟨b,off+i * 2+1,none⟩) q2).trans (q4 i hi).2⟩⟩
theorem QU.uD {B:Nat}{w W:World}{ad:Option Addr}{l:List ZD}(h:QU B w ad l)(hW:Below B w W):QU B W ad l:=λh0=>by
 obtain⟨b,off,q1,q2,q3,q4⟩:=h h0;refine⟨b,off,q1,q2,zI q3 hW.size,λi hi=>?_⟩;obtain⟨ap,cp,ac,cc,am,wn,cm,ae,ce,q5,q6⟩:=q4 i hi;exact⟨ap,cp,ac,cc,am,wn,cm,ae,ce,q5.uD hW,λj u hu=>(hW.cell (p:=⟨b,off+i * 15+j,none⟩) q2).trans (q6 j u hu)⟩
theorem Yo {kv:Value}{zs:List ZD}(hB:B<=w.heap.size)(h:RowK Vu (λb=>b<B) w kv zs):∃ ao cap,kv=.slice ao zs.length cap/\QU B w ao zs:=by
 obtain⟨ao,cap,hv,_,hf⟩:=h.form;refine⟨ao,cap,hv,λh0=>?_⟩;obtain⟨b,off,h1,h2,h3,h4⟩:=hf h0;refine⟨b,off,h1,h2,h3,λi hi=>?_⟩;obtain⟨x,⟨h5,h7,h8⟩,h6⟩:=h4 i hi;obtain⟨ap,cp,e1,hp⟩:=XM h5;obtain⟨ac,cc,e2,hc⟩:=Lh h7;obtain⟨am,wn,cm,ae,ce,e3,e4⟩:=h8.Xt;rw[e3,e4] at h8;refine⟨ap,cp,ac,cc,am,wn,cm,ae,ce,⟨hp,hc,h8,hB⟩,λj u hu=>h6 j u ?_⟩;show (Vu.cells zs[i] x)[j]?=some u;simp only[Vu,e1,e2,e3,e4];rw[iG] at hu
 simpa [dX] using hu
structure Yp (p:ZP) (B:Nat) (ai ad:Option Addr) (w:World):Prop where
 imps:VT B w ai p.aG
 defs:QU B w ad p.defs
 hB:B<=w.heap.size
theorem Yp.uD {p:ZP}{B:Nat}{ai ad:Option Addr}{w W:World}(h:Yp p B ai ad w)(hW:Below B w W):Yp p B ai ad W:=⟨h.imps.uD hW,h.defs.uD hW,iY h.hB hW.size⟩
theorem ND (b:Nat)(w:World)(hbk:w.heap[b]?=some (.cells #[.pointer none,.slice none 0 0] 151 (0,0))) :
  Calls Tryz.prog 72 #[.pointer (some ⟨b,0,none⟩)] w λe w'=>e=.returned (.string ⟨#[]⟩)/\Below w.heap.size w w':=by
 have c1:w.drew.cell? ⟨b,1,none⟩=some (.slice none 0 0):=by
  have:w.drew.heap[b]?=some (.cells #[.pointer none,.slice none 0 0] 151 (0,0)):=hbk;rw[bg this];rfl
 have hSD:(Builtin.unsafeSliceData_ #[147] 215 #[.slice none 0 0]).run Tryz.prog w.drew=.ok (.pointer none) w.drew:=Lib.run_unsafeSliceData_nil _ _ _ _ _;have hUS:(Builtin.unsafeString_ #[215,3] 9 #[.pointer none,.int .i64 0]).run Tryz.prog w.drew=.ok (.string ⟨#[]⟩) w.drew:=Lib.run_unsafeString_none _ _ _ _ _
 have mixed:Tryz.prog.follows .mixedOrders=true:=by kernel_rfl
 clear hbk;go_enter Tryz.func72,Tryz.ntmps72;go_wp2
 go_region_o
 all_goals (go_wp2;go_ret;exact⟨rfl,(bY _ w).drew⟩)
theorem LG {α:Type}{f:α->aH}{l:List α}(h:k<l.length):(l.take (k+1)).flatMap f=(l.take k).flatMap f++f l[k]:=by
 rw[EF h,abo,List.flatMap_singleton]
theorem VU {α:Type}(f:α->aH)(l:List α)(k:Nat):((l.take k).flatMap f).length<=(l.flatMap f).length:=by
 conv=>rhs;rw[<- List.take_append_drop k l,abo,bQ]
 omega
theorem QV {α:Type}{p:α->Bool}{l:List α}(h:k<l.length)(h1:(l.take k).all p=true)(h2:p l[k]=true):(l.take (k+1)).all p=true:=by
 rw[EF h,List.all_append,h1];simpa using h2
theorem VW {α:Type}{p:α->Bool}{l:List α}(h:k<l.length)(h2:p l[k]=false):l.all p=false:=by
 rw[<- wT,List.all_eq_true];intro q;have:=q _ (oQ h);rw[h2] at this;cases this
theorem ZP.Vt (h:0<p.aG.length\/0<p.defs.length):p.text≠[]:=by
 intro q;have hq:=congrArg List.length q;rw[ZP.text,bQ,iF] at hq
 rcases h with h|h
 ·match hi:p.aG,h with
  | m :: l,_=>rw[hi] at hq;simp[uG] at hq
 ·match hi:p.defs,h with
  | d :: l,_=>rw[hi] at hq;simp[ZD.text] at hq
def mU (p:ZP)(w:World)(r:Ending)(w':World):Prop:=(r=.returned (.tuple #[.string ⟨(if p.right=true then p.text else []).toArray⟩,.int .i64 (if p.right=true then 0 else 10)]))/\Below w.heap.size w w'
theorem mU.no (h:p.right=false)(hb:Below w.heap.size w w'):mU p w (.returned (.tuple #[.string ⟨#[]⟩,.int .i64 10])) w':=⟨by rw[h];rfl,hb⟩
theorem mU.yes (h:p.right=true)(hb:Below w.heap.size w w'):mU p w (.returned (.tuple #[.string ⟨p.text.toArray⟩,.int .i64 0])) w':=⟨by rw[h];rfl,hb⟩
theorem dH (h:w.heap[b]?=some (.cells #[c0,c1] 26 (0,0))):w.cell? ⟨b,0,none⟩=some c0/\w.cell? ⟨b,1,none⟩=some c1:=by
 refine⟨?_,?_⟩<;>(rw[bg h];rfl)
theorem Ch (h:w.heap[b]?=some (.cells #[c0,c1] 91 (0,0))):w.cell? ⟨b,0,none⟩=some c0/\w.cell? ⟨b,1,none⟩=some c1:=by
 refine⟨?_,?_⟩<;>(rw[bg h];rfl)
theorem NG (p:ZP)(hf:p.fit)(B:Nat)(ai:Option Addr)(ci:Nat)(ad:Option Addr)(cd:Nat)(w:World)(h:Yp p B ai ad w)(hn:p.text.length<=1099511627776) :
  Calls Tryz.prog 76 #[.agg #[.slice ai p.aG.length ci,.slice ad p.defs.length cd]] w (mU p w):=by
 obtain⟨f1,f2,f3,f4⟩:=hf;have hal:=aB w (.cells #[.slice ai p.aG.length ci,.slice ad p.defs.length cd] 26);have hN:=aZ w (.cells #[.slice ai p.aG.length ci,.slice ad p.defs.length cd] 26)
 by_cases h16:p.aG.length<=16
 ·by_cases h64:p.defs.length<=64
  ·have hdef:p.right=(p.aG.all (λm=>bZ m.1) && p.defs.all ZD.sound):=by rw[ZP.right,kS h16,kS h64];rfl
   have vI:=ay hdef
   have ahK:(p.aG.length:Int)<=16:=by omega
   have aiZ:(p.defs.length:Int)<=64:=by omega
   have HF2:=ay f2;have HF4:=ay f4;have hB:=h.hB;have HH:=ay (h.uD (hal.mono hB));clear h hdef f1 f2 f3 f4 h16 h64;go_enter Tryz.func76,Tryz.ntmps76
   go_upto_region 1 with fail
   change Code.wp _ _ _ _ (w.alloc (.cells #[.slice ai p.aG.length ci,.slice ad p.defs.length cd] 26));generalize w.alloc (.cells #[.slice ai p.aG.length ci,.slice ad p.defs.length cd] 26)=w1 at hal hN HH |-;have hz1:=hal.size;have hl1:=(bU hN).1;obtain⟨y0,y1⟩:=dH hN;have dD:=aB w1 (.cells #[.pointer none,.slice none 0 0] 151);have hbd:=kW.fresh (T:=151) w1;have hfresh:=aZ w1 (.cells #[.pointer none,.slice none 0 0] 151);have QH:=(dD.block w.heap.size hl1).trans hN;have hH2:=HH.out.uD (dD.mono HH.out.hB)
   go_upto_region 4 with fail
   change Code.wp _ _ _ _ (w1.alloc (.cells #[.pointer none,.slice none 0 0] 151));clear y0 y1 hN HH
   have hz2:w1.heap.size<(w1.alloc (.cells #[.pointer none,.slice none 0 0] 151)).heap.size:=by simp
   generalize w1.alloc (.cells #[.pointer none,.slice none 0 0] 151)=w2 at dD hbd hfresh QH hH2 hz2 |-;have Vq:=ay hbd;have HFR:=ay hfresh;have HN2:=ay QH;have HH:=ay hH2;obtain⟨y0,y1⟩:=dH QH;have mJ:Below w.heap.size w w2:=hal.trans (dD.mono hz1);clear hbd hfresh QH hH2 hal dD
   have hl2:∀ k,(p.aG.take k).flatMap uG++[]=(p.aG.take k).flatMap uG:=λ_=>List.append_nil _
   clear hl2;go_wp2
   go_loopw [24] (λq wr=>∃ k:Nat,k<=p.aG.length/\q=.int .i64 k/\(p.aG.take k).all (λm=>bZ m.1)=true/\iP w2 w1.heap.size w1.heap.size ((p.aG.take k).flatMap uG) wr/\(k=0->wr=w2)) (λq _=>p.aG.length - (intOf q).toNat)
   case atStart=>exact⟨0,mD _,rfl,rfl,by simpa using iP.start Vq.out,λ_=>rfl⟩
   case round =>
    obtain⟨k,hkl,rfl,hall,st,hk0⟩:=hrel;have Fx:=st.lT.size;have HST:=ay st;have qK:=ay hall;have Vs:=ay hk0;clear st hall hk0
    by_cases hlt:k<p.aG.length
    ·have hH:=HH.out.uD (HST.out.lT.mono (iY hB hz1))
     obtain⟨ib,io,rfl,hiB,hiw,hic⟩:=hH.imps (by omega);obtain⟨x0,x1⟩:=hic k hlt
     have qF:(k:Int)<(p.aG.length:Int):=by omega
     have hsn:=LG (f:=uG) hlt;have hle:=VU uG p.aG (k+1)
     have htl:(p.aG.flatMap uG).length<=p.text.length:=by rw[ZP.text,bQ];omega
     rw[hsn] at hle;have hnm:=HF2.out _ (oQ hlt);have YW:=ay (λ(q:bZ p.aG[k].1=false)=>(show p.right=false by rw[vI.out,VW (p:=λm=>bZ m.1) hlt q];rfl));have Uw:=ay (λ(q:bZ p.aG[k].1=true)=>QV (p:=λm=>bZ m.1) hlt qK.out q);have tZ:=ay hsn;clear hic hH hsn qK Vs;generalize p.aG[k]=m at *;generalize (p.aG.take k).flatMap uG=c at *
     have hil:(uG m).length=7+m.1.length+2:=by simp[uG];omega
     have fV:=aB wr (.cells #[.string ⟨m.1.toArray⟩,.int .i64 m.2] 91);have hM:=aZ wr (.cells #[.string ⟨m.1.toArray⟩,.int .i64 m.2] 91);have s1:=HST.out.below fV (by omega)
     go_upto_region 7 with fail
     change Code.wp _ _ _ _ (wr.alloc (.cells #[.string ⟨m.1.toArray⟩,.int .i64 m.2] 91));clear x0 x1;have hz3:=fV.size;generalize wr.alloc (.cells #[.string ⟨m.1.toArray⟩,.int .i64 m.2] 91)=w3 at fV hM s1 hz3 |-;obtain⟨v0,v1⟩:=Ch hM
     have eNz:(ByteArray.mk m.1.toArray).size=m.1.length:=by show m.1.toArray.size=_;simp
     have HP:=ay (nC ⟨m.1.toArray⟩ w3 (by rw[eNz];omega));have eN:(ByteArray.mk m.1.toArray).data.toList=m.1:=rfl;rw[eN] at HP;clear eN;have hM3:=(bU hM).1
     cases hpl:bZ m.1 with
     | false =>
      rw[hpl] at HP;have hbw:=mJ.trans (s1.lT.mono (by omega:w.heap.size<=w1.heap.size));have hres:=YW.out hpl;have qV:=ay hres;clear YW Uw HST s1 hM fV hres hpl tZ;go_wp2_with (go_at_call 42;refine HP.out.mono ?_;rintro r w4 ⟨rfl,hb4⟩);go_ret2;exact mU.no qV.out (hbw.trans (hb4.mono hbw.size))
     | true =>
      rw[hpl] at HP;have hyes:=Uw.out hpl;have HY:=ay hyes;clear YW Uw hyes hpl
      go_upto_region 9 with (go_at_call 42;refine HP.out.mono ?_;rintro r w4 ⟨rfl,hb4⟩)
      have s2:=s1.below hb4 (by omega);obtain⟨v0',v1'⟩:=Ch ((hb4.block wr.heap.size hM3).trans hM);have D7:=hb4.size
      have HW:=ay (show Calls _ _ _ _ (bW w1.heap.size w1.heap.size (c++uG m) w4) from (by
       have:=yS ⟨#[105,109,112,111,114,116,32]⟩ ⟨m.1.toArray⟩ ⟨#[59,10]⟩ w1.heap.size w1.heap.size c w4 s2.mH (by omega) (by rw[eNz];show c.length+7+m.1.length+2<=_;rw[bQ,hil] at hle;omega)
       have e:c++uG m=c++((ByteArray.mk #[105,109,112,111,114,116,32]).data.toList++((ByteArray.mk m.1.toArray).data.toList++(ByteArray.mk #[59,10]).data.toList)):=by show c++uG m=c++([105,109,112,111,114,116,32]++(m.1++[59,10]));rw[uG,om]
       rw[e]
       exact this))
      have HS2:=ay s2;clear HP v0 v1 s1 s2 hb4 hM fV HST;go_wp2_with (go_at_call 123;refine HW.out.mono ?_;rintro r w5 h5;obtain rfl:=h5.eq)
      go_roundw
      case rel=>exact⟨k+1,by omega,by go_num,HY.out,by rw[tZ.out];exact HS2.out.write h5,λq=>absurd q (by omega)⟩
      case measure=>simp[intOf];omega
    ·obtain rfl:k=p.aG.length:=by omega
     have qF:decide ((p.aG.length:Int)<(p.aG.length:Int))=false:=fu (by omega);rw[Fe] at qK HST;obtain⟨z0,z1⟩:=dH (HST.out.box Vq.out HN2.out (by decide) (by decide))
     have aeL:p.right=p.defs.all ZD.sound:=by rw[vI.out,qK.out,Bool.true_and]
     have VX:=ay aeL;clear qK aeL y0 y1
     obtain⟨wo,rfl⟩:∃ wo:World,wo=wr:=⟨_,rfl⟩
     go_wp2
     go_loopw [41] (λq wr=>∃ j:Nat,j<=p.defs.length/\q=.int .i64 j/\(p.defs.take j).all ZD.sound=true/\iP w2 w1.heap.size w1.heap.size (p.aG.flatMap uG++(p.defs.take j).flatMap ZD.text) wr/\(j=0->wr=wo)) (λq _=>p.defs.length - (intOf q).toNat)
     case atStart=>exact⟨0,mD _,rfl,rfl,by simpa using HST.out,λ_=>rfl⟩
     case round =>
      obtain⟨j,hjl,rfl,hall,st,hj0⟩:=hrel;have hzd:=st.lT.size;have HSD:=ay st;have qK:=ay hall;have HJ0:=ay hj0;clear st hall hj0
      by_cases hlt:j<p.defs.length
      ·have hH:=HH.out.uD (HSD.out.lT.mono (iY hB hz1))
       obtain⟨db,Ux,rfl,hdB,hdw,hdc⟩:=hH.defs (by omega);obtain⟨ap,cp,ac,cc,am,wn,cm,ae,ce,hD,hcl⟩:=hdc j hlt
       have Md:(j:Int)<(p.defs.length:Int):=by omega
       have hsn:=LG (f:=ZD.text) hlt;have hle:=VU ZD.text p.defs (j+1)
       have htl:(p.aG.flatMap uG).length+(p.defs.flatMap ZD.text).length=p.text.length:=by rw[ZP.text,bQ]
       rw[hsn] at hle;have hdf:=HF4.out _ (oQ hlt);have YW:=ay (λ(q:p.defs[j].sound=false)=>(show p.right=false by rw[VX.out,VW (p:=ZD.sound) hlt q]));have Uw:=ay (λ(q:p.defs[j].sound=true)=>QV (p:=ZD.sound) hlt qK.out q);have tZ:=ay hsn;clear hdc hH hsn qK HJ0 Vs;generalize p.defs[j]=d at *;generalize (p.defs.take j).flatMap ZD.text=c at *;generalize p.aG.flatMap uG=ic at *;have x0:wr.cell? ⟨db,Ux+j * 15,none⟩=some (.bool d.pub):=hcl 0 _ rfl;have x1:wr.cell? ⟨db,Ux+j * 15+1,none⟩=some (.string ⟨d.res.name.toArray⟩):=hcl 1 _ rfl;have x2:wr.cell? ⟨db,Ux+j * 15+2,none⟩=some (.slice ap d.params.length cp):=hcl 2 _ rfl;have x3:wr.cell? ⟨db,Ux+j * 15+3,none⟩=some (.int .i64 d.res.base):=hcl 3 _ rfl;have x4:wr.cell? ⟨db,Ux+j * 15+4,none⟩=some (.slice ac d.res.aC.length cc):=hcl 4 _ rfl;have x5:wr.cell? ⟨db,Ux+j * 15+5,none⟩=some (.int .i64 d.body.op):=hcl 5 _ rfl;have x6:wr.cell? ⟨db,Ux+j * 15+6,none⟩=some (.string ⟨d.body.name.toArray⟩):=hcl 6 _ rfl;have x7:wr.cell? ⟨db,Ux+j * 15+7,none⟩=some (.string ⟨d.body.module.toArray⟩):=hcl 7 _ rfl;have x8:wr.cell? ⟨db,Ux+j * 15+8,none⟩=some (.bool (decide (d.body.num<0))):=hcl 8 _ rfl;have x9:wr.cell? ⟨db,Ux+j * 15+9,none⟩=some (.slice am wn cm):=hcl 9 _ rfl;have x10:wr.cell? ⟨db,Ux+j * 15+10,none⟩=some (.bool d.body.yes):=hcl 10 _ rfl;have YT:wr.cell? ⟨db,Ux+j * 15+11,none⟩=some (.slice ae d.body.aA.length ce):=hcl 11 _ rfl;have VA:wr.cell? ⟨db,Ux+j * 15+12,none⟩=some (.int .i64 d.body.at_):=hcl 12 _ rfl;have YU:wr.cell? ⟨db,Ux+j * 15+13,none⟩=some (.int .i64 d.res.at_):=hcl 13 _ rfl;have x14:wr.cell? ⟨db,Ux+j * 15+14,none⟩=some (.int .i64 d.res.bare):=hcl 14 _ rfl;have fV:=aB wr (.cells (iG d ap cp ac cc am wn cm ae ce) 66);have hM:=aZ wr (.cells (iG d ap cp ac cc am wn cm ae ce) 66);have s1:=HSD.out.below fV (by omega);have hD3:=hD.below fV;clear hcl hD
       go_upto_region 14 with fail
       change Code.wp _ _ _ _ (wr.alloc (.cells (iG d ap cp ac cc am wn cm ae ce) 66));clear x0 x1 x2 x3 x4 x5 x6 x7 x8 x9 x10 YT VA YU x14;have hz3:=fV.size
       have ahL:wr.heap.size<(wr.alloc (.cells (iG d ap cp ac cc am wn cm ae ce) 66)).heap.size:=by simp
       generalize wr.alloc (.cells (iG d ap cp ac cc am wn cm ae ce) 66)=w3 at fV hM s1 hz3 hD3 ahL |-;obtain⟨v0,v1,v2,v3,v4,v5,v6,v7,v8,v9,v10,v11,v12,v13,v14⟩:=aY hM;have HSO:=ay (Yk d hdf B ap cp ac cc am wn cm ae ce w3 hD3);have hM3:=ahL
       cases hso:d.sound with
       | false =>
        rw[hso] at HSO;have hbw:=mJ.trans (s1.lT.mono (by omega:w.heap.size<=w1.heap.size));have hres:=YW.out hso;have qV:=ay hres;clear YW Uw HST HSD s1 hM fV hres hso tZ hD3;go_wp2_with (go_at_call 130;refine HSO.out.mono ?_;rintro r w4 ⟨rfl,hb4⟩);go_ret2;exact mU.no qV.out (hbw.trans (hb4.mono hbw.size))
       | true =>
        rw[hso] at HSO;have hyes:=Uw.out hso;have HY:=ay hyes;clear YW Uw hyes
        go_upto_region 16 with (go_at_call 130;refine HSO.out.mono ?_;rintro r w4 ⟨rfl,hb4⟩)
        clear v0 v1 v2 v3 v4 v5 v6 v7 v8 v9 v10 v11 v12 v13 v14;have s2:=s1.below hb4 (by omega);obtain⟨v0,v1,v2,v3,v4,v5,v6,v7,v8,v9,v10,v11,v12,v13,v14⟩:=aY ((hb4.block wr.heap.size hM3).trans hM);have D7:=hb4.size;have HW:=ay (acH d hso hdf B w1.heap.size w1.heap.size ap cp ac cc am wn cm ae ce (ic++c) w4 (hD3.below hb4) (by omega) s2.mH (by omega) (by rw[bQ] at hle |-;omega));have HS2:=ay s2;clear HSO s1 s2 hb4 hM fV HST HSD hD3 hso;go_wp2_with (go_at_call 131;refine HW.out.mono ?_;rintro r w5 h5;obtain rfl:=h5.eq)
        go_roundw
        case rel=>exact⟨j+1,by omega,by go_num,HY.out,by rw[tZ.out,<- om];exact HS2.out.write h5,λq=>absurd q (by omega)⟩
        case measure=>simp[intOf];omega
      ·obtain rfl:j=p.defs.length:=by omega
       have Md:decide ((p.defs.length:Int)<(p.defs.length:Int))=false:=fu (by omega);rw[Fe] at qK HSD
       have hres:p.right=true:=by rw[VX.out,qK.out]
       have qV:=ay hres;have hbw:=mJ.trans (HSD.out.lT.mono (by omega:w.heap.size<=w1.heap.size));have hbd:=HSD.out.mH;have Sj:(⟨w1.heap.size,0,none⟩:Addr).block<wr.heap.size:=hbd.lt;have hpt:p.aG.flatMap uG++p.defs.flatMap ZD.text=p.text:=rfl;rw[hpt] at hbd
       by_cases he:0<p.aG.length\/0<p.defs.length
       ·have HS:=ay (abU w1.heap.size w1.heap.size p.text wr hbd (ZP.Vt he))
        clear hbd qK HSD HST hres hpt he VX vI Vs HJ0;go_wp2_with (go_at_call 72;refine HS.out.mono ?_;rintro r w5 ⟨rfl,hb5⟩);go_ret2;exact mU.yes qV.out (hbw.trans (hb5.mono (by omega)))
       ·have hi0:p.aG.length=0:=by omega
        have hd0:p.defs.length=0:=by omega
        obtain rfl:=HJ0.out hd0;obtain rfl:=Vs.out hi0
        have htx:p.text=[]:=by rw[ZP.text,List.eq_nil_of_length_eq_zero hi0,List.eq_nil_of_length_eq_zero hd0];rfl
        have Rw:=ay htx;have HS:=ay (ND w1.heap.size _ HFR.out);clear hbd qK HSD HST hres hpt he VX vI Vs HJ0 hi0 hd0 htx;go_wp2_with (go_at_call 72;refine HS.out.mono ?_;rintro r w5 ⟨rfl,hb5⟩);go_ret2;have:=mU.yes (p:=p) qV.out (hbw.trans (hb5.mono hbw.size));rw[Rw.out] at this;exact this
  ·have hres:p.right=false:=by rw[ZP.right,fu h64];simp
   have qV:=ay hres
   have ahK:(p.aG.length:Int)<=16:=by omega
   have aiZ:(64:Int)<(p.defs.length:Int):=by omega
   clear h hres f2 f4 h16 h64;go_enter Tryz.func76,Tryz.ntmps76
   go_upto_region 1 with fail
   change Code.wp _ _ _ _ (w.alloc (.cells #[.slice ai p.aG.length ci,.slice ad p.defs.length cd] 26));generalize w.alloc (.cells #[.slice ai p.aG.length ci,.slice ad p.defs.length cd] 26)=w1 at hal hN |-;obtain⟨y0,y1⟩:=dH hN;go_wp2;go_ret2;exact mU.no qV.out hal
 ·have hres:p.right=false:=by rw[ZP.right,fu h16];rfl
  have qV:=ay hres
  have ahK:(16:Int)<(p.aG.length:Int):=by omega
  clear h hres f2 f4 h16;go_enter Tryz.func76,Tryz.ntmps76
  go_upto_region 1 with fail
  change Code.wp _ _ _ _ (w.alloc (.cells #[.slice ai p.aG.length ci,.slice ad p.defs.length cd] 26));generalize w.alloc (.cells #[.slice ai p.aG.length ci,.slice ad p.defs.length cd] 26)=w1 at hal hN |-;obtain⟨y0,y1⟩:=dH hN;go_wp2;go_ret2;exact mU.no qV.out hal
def Ci:List aH->List aH->Bool
 | _,[]=>true
 | seen,m :: l=>bZ m && (!decide (m∈seen) && Ci (gB (seen++[m])) l)
theorem Uy (m:aH)(w:World)(hm:m.length<=65536):Calls Tryz.prog 13 #[.agg #[.string ⟨m.toArray⟩,.slice none 0 0]] w λr w'=>r=.returned (.bool (bZ m))/\Below w.heap.size w w':=by
 have hal:=aB w (.cells #[.string ⟨m.toArray⟩,.slice none 0 0] 31);have hN:=aZ w (.cells #[.string ⟨m.toArray⟩,.slice none 0 0] 31);have HP:=ay (λV=>nC ⟨m.toArray⟩ V (by show m.toArray.size<=_;simp;omega));simp only at HP;generalize bZ m=pl at *;go_enter Tryz.func13,Tryz.ntmps13
 go_upto_region 1 with fail
 change Code.wp _ _ _ _ (w.alloc (.cells #[.string ⟨m.toArray⟩,.slice none 0 0] 31));generalize w.alloc (.cells #[.string ⟨m.toArray⟩,.slice none 0 0] 31)=w1 at *;have hl1:=(bU hN).1;have hz1:=hal.size;obtain⟨y0,y1⟩:=nM hN;have HN:=ay hN;clear hN
 cases pl with
 | false =>
  go_wp2_with (go_at_call 42;refine(HP.out _).mono ?_;rintro r w2 ⟨rfl,hb2⟩);go_ret;exact⟨rfl,hal.trans (hb2.mono hz1)⟩
 | true =>
  go_upto_region 3 with (go_at_call 42;refine(HP.out _).mono ?_;rintro r w2 ⟨rfl,hb2⟩;obtain⟨z0,z1⟩:=nM ((hb2.block _ hl1).trans HN.out))
  go_wp2
  go_loopw [4,18] (λ_ q wr=>q=.int .i64 0/\wr=w2) (λ_ _ _=>0)
  case atStart=>exact⟨rfl,rfl⟩
  case round =>
   obtain⟨rfl,rfl⟩:=hrel;go_wp2;go_ret;exact⟨rfl,hal.trans (hb2.mono hz1)⟩
theorem Uz (md:aH)(db lb Bp:Nat)(im:Value)(f:Fl)(p:ZP)(ai:Option Addr)(ci:Nat)(ad:Option Addr)(cd:Nat)(af:Option Addr)(cf:Nat)(ms:List aH)(w:World)(hL:nL ⟨md,.slice ai p.aG.length ci,.slice ad p.defs.length cd,.slice af ms.length cf,db⟩ lb im f w)
  (hfit:p.fit) (hp:Yp p Bp ai ad w) (hn:p.text.length<=1099511627776) (hF:RowK VO (λ_=>True) w (.slice af ms.length cf) ms) (hms:ms.length<=1000/\∀ m∈ms,m.length<=65536) (hmd:md.length<=65536) :
  Calls Tryz.prog 47 #[.pointer (some ⟨lb,0,none⟩)] w λr w'=>r=.returned (.bool (p.right && (bZ md && Ci [] ms)))/\Below w.heap.size w w':=by
 obtain⟨⟨k0,k1,k2,k3,k4,k5,k6,k7⟩,-⟩:=hL.cells;have HSP:=ay (NG p hfit Bp ai ci ad cd w hp hn);unfold mU at HSP;have HP:=ay (λV=>nC ⟨md.toArray⟩ V (by show md.toArray.size<=_;simp;omega));simp only at HP;obtain⟨ae',ce',hv,_,hform⟩:=hF.form;simp only[Value.slice.injEq] at hv;obtain⟨rfl,-,rfl⟩:=hv;have HF:=ay hform;have HMS:=ay hms;have hm1:=hms.1;have YO:=hL.lt;have HL0:=ay hL;clear hL hfit hp hn hF hform hms
 obtain⟨rs,hrs⟩:∃ rs:Bool,rs=Ci [] ms:=⟨_,rfl⟩
 rw[<- hrs];have HRS:=ay hrs;clear hrs;generalize p.right=pr at *;generalize bZ md=pl at *;generalize p.text=tx at *;go_enter Tryz.func47,Tryz.ntmps47
 cases pr with
 | false =>
  have UA:=HSP.out
  (try simp only[Bool.false_eq_true,if_false,if_true] at UA)
  have aef:=ay UA;clear HSP UA HP;go_wp2_with (go_at_call 76;refine aef.out.mono ?_;rintro r w2 ⟨rfl,hb2⟩);go_ret;exact⟨rfl,hb2⟩
 | true =>
  have UA:=HSP.out
  (try simp only[Bool.false_eq_true,if_false,if_true] at UA)
  have aef:=ay UA;clear HSP UA
  go_upto_region 2 with (go_at_call 76;refine aef.out.mono ?_;rintro r w2 ⟨rfl,hb2⟩)
  have hz2:=hb2.size;have hL2:=HL0.out.below hb2;have HL2:=ay hL2;clear k0 k1 k2 k3 k4 k5 k6 k7 aef;obtain⟨⟨k0,k1,k2,k3,k4,k5,k6,k7⟩,-⟩:=hL2.cells;clear hL2
  cases pl with
  | false =>
   go_wp2_with (go_at_call 42;refine(HP.out _).mono ?_;rintro r w3 ⟨rfl,hb3⟩);go_ret;exact⟨rfl,hb2.trans (hb3.mono hz2)⟩
  | true =>
   go_upto_region 4 with (go_at_call 42;refine(HP.out _).mono ?_;rintro r w3 ⟨rfl,hb3⟩)
   clear k0 k1 k2 k3 k4 k5 k6 k7;have af0:=hb2.trans (hb3.mono hz2);have hL3:=HL2.out.below hb3;have hz3:=hb3.size;have hal:=aB w3 (.cells #[.slice none 0 0] 107);have gv:=aZ w3 (.cells #[.slice none 0 0] 107);have hb4:=af0.trans (hal.mono af0.size);have hL4:=hL3.below hal;obtain⟨⟨k0,k1,k2,k3,k4,k5,k6,k7⟩,-⟩:=hL4.cells
   have hvl:w3.heap.size<(w3.alloc (.cells #[.slice none 0 0] 107)).heap.size:=by simp
   go_upto_region 5 with fail
   change Code.wp _ _ _ _ (w3.alloc (.cells #[.slice none 0 0] 107));generalize w3.alloc (.cells #[.slice none 0 0] 107)=w4 at *;have HG:=ay gv;clear hL3 hL4 gv;generalize hvv:w3.heap.size=vb at *
   have hwv:w.heap.size<=vb:=by have:=af0.size;omega
   go_wp2;clear k0 k1 k2 k3 k4 k5 k6 k7
   go_loopw [7,31] (λ_ q wr=>∃ (k:Nat) (ab:Option Addr) (cb:Nat) (bd:List aH),k<=ms.length/\q=.int .i64 k/\rs=Ci bd (ms.drop k)/\wr.heap[vb]?=some (.cells #[.slice ab bd.length cb] 107 (0,0))/\gQ (λb=>b≠vb) wr (.slice ab bd.length cb) bd/\bd.Pairwise (· < ·)/\bd.length<=k/\Below w.heap.size w wr) (λ_ q _=>ms.length - (intOf q).toNat)
   case atStart=>exact⟨0,none,0,[],mD _,rfl,by rw[HRS.out];rfl,HG.out,gQ.nil _ _,List.Pairwise.nil,mD _,hb4⟩
   case round =>
    obtain⟨k,ab,cb,bd,hk,rfl,hres,hvb,htr,hrr,hbk,hbl⟩:=hrel;have Fx:=hbl.size;have hvr:=(bU hvb).1;have qV:=ay hres;have HVB:=ay hvb;have Tt:=ay htr;have HRR:=ay hrr;clear hres hvb htr hrr
    by_cases hlt:k<ms.length
    ·obtain⟨b,off,rfl,_,hbw,hcell⟩:=HF.out (by omega)
     obtain⟨_,_,hc⟩:=hcell k hlt;have x0:=(hbl.cell (p:=⟨b,off+k * 2+0,none⟩) hbw).trans (hc 0 _ rfl);have x1:=(hbl.cell (p:=⟨b,off+k * 2+1,none⟩) hbw).trans (hc 1 _ rfl);rw[qp] at x0;have hdr:ms.drop k=ms[k] :: ms.drop (k+1):=List.drop_eq_getElem_cons hlt;have hmm:=HMS.out.2 _ (oQ hlt)
     have qF:(k:Int)<(ms.length:Int):=by omega
     have HDR:=ay hdr;clear hc hcell hdr;generalize ms[k]=y at *;have Jf:Hid (rs=(bZ y && (!decide (y∈bd) && Ci (gB (bd++[y])) (ms.drop (k+1))))):=ay (by rw[qV.out,HDR.out,Ci]);have dD:=aB wr (.cells #[.string ⟨y.toArray⟩,.slice none 0 0] 31);have hN:=aZ wr (.cells #[.string ⟨y.toArray⟩,.slice none 0 0] 31);clear qV HDR
     go_upto_region 8 with fail
     change Code.wp _ _ _ _ (wr.alloc (.cells #[.string ⟨y.toArray⟩,.slice none 0 0] 31));clear x0 x1
     have hyl:wr.heap.size<(wr.alloc (.cells #[.string ⟨y.toArray⟩,.slice none 0 0] 31)).heap.size:=by simp
     generalize wr.alloc (.cells #[.string ⟨y.toArray⟩,.slice none 0 0] 31)=w5 at *;have U8:=dD.size;have gv5:=(dD.block _ hvr).trans HVB.out;have hT5:=Tt.out.below dD;have hb5:=hbl.trans (dD.mono Fx);have HFR:=ay (Uy y w5 hmm);have HN5:=ay hN;have HV5:=ay gv5;have HT5:=ay hT5;obtain⟨y0,y1⟩:=nM hN;generalize bZ y=py at *;clear hN gv5 hT5 HVB Tt
     cases py with
     | false =>
      have HE:Hid (rs=false):=ay (by rw[Jf.out];rfl);clear Jf;go_wp2_with (go_at_call 13;refine HFR.out.mono ?_;rintro r w6 ⟨rfl,hb6⟩);go_ret;exact⟨by rw[HE.out];rfl,hb5.trans (hb6.mono hb5.size)⟩
     | true =>
      have HH:=ay (λW (hW:Below w5.heap.size w5 W)=>Fw _ ab cb bd ⟨y.toArray⟩ W (HT5.out.below hW) HRR.out (by omega));simp only at HH;have HW0:=ay (λW (hW:Below w5.heap.size w5 W)=>Jb (λ_=>True) ab cb (.slice (some ⟨W.heap.size,0,none⟩) 1 1) bd [y] (W.alloc (.cells #[.string ⟨y.toArray⟩] 9)) (((HT5.out.below hW).below (aB W _)).imp λ_ _ _=>trivial) (Nz W y) (by omega) (by simp));have hsl:=vg (bd++[y]);rw[bQ,List.length_singleton] at hsl;have HSR:=ay (xU (bd++[y]));generalize gB (bd++[y])=S at *
      obtain⟨m,hm⟩:∃ m,m=decide (y∈bd):=⟨_,rfl⟩
      rw[<- hm] at HH Jf;clear hm
      cases m with
      | true =>
       have HE:Hid (rs=false):=ay (by rw[Jf.out];rfl);clear Jf HW0;go_wp2_with (first|(go_at_call 13;refine HFR.out.mono ?_;rintro r w6 ⟨rfl,hb6⟩;obtain⟨v0,v1⟩:=nM ((hb6.block _ hyl).trans HN5.out);obtain⟨u0,uz⟩:=bP ((hb6.block _ (by omega)).trans HV5.out))|(go_at_call 54;refine(HH.out _ hb6).mono ?_;rintro r w7 ⟨rfl,BI⟩));go_ret;exact⟨by rw[HE.out];rfl,hb5.trans ((hb6.trans (BI.mono hb6.size)).mono hb5.size)⟩
      | false =>
       have HE:Hid (rs=Ci S (ms.drop (k+1))):=ay (by rw[Jf.out];rfl);clear Jf
       go_upto_region 10 with (first|(go_at_call 13;refine HFR.out.mono ?_;rintro r w6 ⟨rfl,hb6⟩;obtain⟨v0,v1⟩:=nM ((hb6.block _ hyl).trans HN5.out);obtain⟨u0,uz⟩:=bP ((hb6.block _ (by omega)).trans HV5.out))|(go_at_call 54;refine(HH.out _ hb6).mono ?_;rintro r w7 ⟨rfl,BI⟩))
       clear y0 y1 v0 v1 u0 uz;have acI:=hb6.trans (BI.mono hb6.size);have hz7:=acI.size;obtain⟨v0,v1⟩:=nM ((acI.block _ hyl).trans HN5.out);have gv7:=(acI.block _ (by omega)).trans HV5.out;obtain⟨u0,uz⟩:=bP gv7;have HWx:=ay (HW0.out w7 acI);have lF:Below w7.heap.size w7 (w7.alloc (.cells #[.string ⟨y.toArray⟩] 9)):=aB w7 _;have HV7:=ay gv7;clear gv7 HW0 HH HFR HN5 HT5
       have ai0:vb<w7.heap.size:=by omega
       go_wp2_with (go_at_call 55;refine HWx.out.mono ?_;rintro e w9 ⟨a9,c9,rfl,ht9,af2⟩;have ahM:=lF.trans (af2.mono (by simp));have gv9:=(ahM.block _ ai0).trans HV7.out;have hfz:=(bP gv9).2;have hc0:=(bP gv9).1);have hw9:=hb5.trans ((acI.trans (ahM.mono hz7)).mono hb5.size);have gvF:=kG w9 vb 0 _ _ (.slice a9 S.length c9) gv9
       have hTF:gQ (λb=>b≠vb) (w9.setCell ⟨vb,0,none⟩ (.slice a9 S.length c9)) (.slice a9 S.length c9) S:=(ht9.frame (bA.set _ λb hb=>by have:=lF.size;show b≠vb;omega)).imp λb hb _=>by have:=lF.size;omega
       have hwF:Below w.heap.size w (w9.setCell ⟨vb,0,none⟩ (.slice a9 S.length c9)):=hw9.setCell hwv _
       go_roundw
       case rel=>exact⟨k+1,a9,c9,S,by omega,by go_num,HE.out,gvF,hTF,HSR.out,by omega,hwF⟩
       case measure=>simp[intOf];omega
    ·obtain rfl:k=ms.length:=by omega
     have qF:decide ((ms.length:Int)<(ms.length:Int))=false:=fu (by omega);have HE:Hid (rs=true):=ay (by rw[qV.out,List.drop_length];rfl);go_wp2;go_ret;exact⟨by rw[HE.out];rfl,hbl⟩
theorem Tryz.Yq:(Tryz.prog.info? 64).map (λi=>(i.zero,i.size,i.bytes))=some (some (.agg #[.int .i64 0,.string ⟨#[]⟩,.string ⟨#[]⟩,.bool false,.slice none 0 0,.bool false,.slice none 0 0,.int .i64 0]),8,112):=by kernel_rfl
def af3 (n:Nat)(cs:List Value)(w:World)(e:Ending)(w':World):Prop:=∃ a c,e=.returned (.slice a n c)/\pO (λb=>w.heap.size<=b) w' (.slice a n c) 8 n cs/\Below w.heap.size w w'
theorem Jg (P:Nat->Prop)(v:Value)(n:Nat)(cs:List Value)(w:World)(h:pO P w v 8 n cs)(h1:∀ u∈cs,u.oneCell'=true)(hn:n<=1000000) :
  Calls Tryz.prog 63 #[v] w (af3 n cs w):=by
 obtain⟨i0,hi,hz0,hz1,hz2⟩:=info_parts Tryz.Yq;obtain⟨ao,cap,rfl,hcap,hlen,hf⟩:=h
 have q22:∀ (w:World) (a:Option Addr) (n c n' c':Nat),(binOp .eql 51 (.slice a n c) (.slice none n' c')).run Tryz.prog w=.ok (.bool a.isNone) w:=λw a n c n' c'=>Lib.run_eql_slice_nil w _ _ a n c n' c' Tryz.underlying51
 have u22:∀ w,Sem.run Tryz.prog (underlying 51) w=.ok (TypeDesc.slice 64) w:=run_underlying Tryz.underlying51
 cases ao with
 | none =>
  have hn0:n=0:=by
   rcases Nat.eq_zero_or_pos n with q|q
   ·exact q
   ·obtain⟨b,off,q1,_⟩:=hf q;cases q1
  subst hn0;obtain rfl:cs=[]:=List.eq_nil_of_length_eq_zero (by omega);clear hf hlen h1;go_enter Tryz.func63,Tryz.ntmps63;go_wp2;go_ret;exact⟨none,0,rfl,pO.nil _ _ _,bY _ _⟩
 | some ad =>
  have hnews:∀ j u,cs[j]?=some u->w.cell? (ad.add j)=some u:=λj u hj=>by
   obtain⟨h2,h3⟩:=qm hj;obtain⟨b,off,q1,_,_,q2⟩:=hf (by omega)
   injection q1 with q1
   rw[q1,Addr.add_lit,q2 j h2,h3]
  have ai3:∀ j u,cs[j]?=some u->(ad.add j).block<w.heap.size:=λj u hj=>by
   obtain⟨h2,h3⟩:=qm hj;obtain⟨b,off,q1,_,q3,q2⟩:=hf (by omega)
   injection q1 with q1
   rw[q1,Addr.add_lit];exact q3
  have A:=ay hnews;have HLEN:=ay hlen;have HU:=ay h1;clear hf hlen h1 hnews;go_enter Tryz.func63,Tryz.ntmps63;go_wp2_with (at_builtin;refine wpList_append_own _ rfl _ _ 51 rfl w.heap.size 64 i0 (.agg #[.int .i64 0,.string ⟨#[]⟩,.string ⟨#[]⟩,.bool false,.slice none 0 0,.bool false,.slice none 0 0,.int .i64 0]) 8 112 Tryz.underlying51 hi hz0 hz1 hz2 rfl (by decide) _ _ _ rfl (World.ownsRow_made w #[] 0 (bI _) (mD _) rfl) ad n cap cs rfl ?qc1 ?qc2 ?qc3 ?qc4 ?qc5 ?qc6 ?_)
  case qc1=>exact HLEN.out
  case qc2 =>
   intro j u hj;have:=A.out j u hj;rw[AJ (iB w _ _ (ai3 j u hj))];exact this
  case qc3=>exact HU.out
  case qc4=>unfold maxLen;omega
  case qc5=>omega
  case qc6=>simp
  intro v' w1 hown hgrow hnil;have hb:Below w.heap.size w w1:=((bY _ w).alloc (bI _) _).grown hgrow (by simp) (by intro k hk;simp[Value.ownBlock] at hk;omega)
  have hsl:=pO.fZ (P:=λb=>w.heap.size<=b) hown λ_ hb=>hb
  have hvf:∃ a c,v'=.slice a n c:=by
   rcases hown.2 with ⟨q,q2⟩|⟨g,jc,cur,q,_⟩
   ·exact⟨none,0,by rw[q,show n=0 by omega]⟩
   ·exact⟨_,_,q⟩
  obtain⟨a',c',rfl⟩:=hvf;clear hown hgrow hnil;go_wp2;go_ret;exact⟨a',c',rfl,hsl,hb⟩
def QW:RK ZF Value where
 sz:=3
 cells f cv:=[dX f.name,.int .i64 f.base,cv]
 inn P w f cv:=RowK (ZK YA) P w cv f.aC
 len _ _:=rfl
 frame h ha:=h.frame ha
 imp h hq:=h.imp hq
def QX (P:Nat->Prop)(w:World)(pv cv:Value)(ps:List ZF)(cl:List PZ):Prop:=RowK QW P w pv ps/\RowK (ZK YA) P w cv cl
theorem QX.frame {P:Nat->Prop}{w w':World}{pv cv:Value}{ps:List ZF}{cl:List PZ}(h:QX P w pv cv ps cl)(ha:bA P w w'):QX P w' pv cv ps cl:=⟨h.1.frame ha,h.2.frame ha⟩
theorem QX.imp {P Q:Nat->Prop}{w:World}{pv cv:Value}{ps:List ZF}{cl:List PZ}(h:QX P w pv cv ps cl)(hq:∀ b,P b->b<w.heap.size->Q b):QX Q w pv cv ps cl:=⟨h.1.imp hq,h.2.imp hq⟩
