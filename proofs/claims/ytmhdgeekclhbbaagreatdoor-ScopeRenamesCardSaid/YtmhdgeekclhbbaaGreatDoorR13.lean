/- Walks and plain laws: ShowH, ShowI, ShowJ, ShowK, ShowL, ShowM, ShowLaws, PrintOk. -/
import Derived.Test.YtmhdgeekclhbbaaGreatDoorR12
set_option maxHeartbeats 16000000
set_option maxRecDepth 100000
set_option linter.unusedVariables false
set_option linter.unusedSimpArgs false
namespace Go.Proofs.YtmhdgeekclhbbaaGreatDoor
open Go.RowKit Go
theorem abM (op:Int):0≤Ip op:=by
 unfold Ip
 repeat' (first|omega|split)
theorem Br (k:Int × List UInt8):rF 0 k=k.2:=by
 have:=abM k.1;unfold rF;rw[if_neg (by omega)]
def cO:List ByteArray→List PZ→List UInt8
 | s :: ss,x :: xs=>s.data.toList++x.text++cO ss xs
 | _,_=>[]
theorem Cx:∀ {ss:List ByteArray} {xs:List PZ} {k:Nat} (h:k<ss.length) (h2:k<xs.length),cO (ss.take (k+1)) (xs.take (k+1))=cO (ss.take k) (xs.take k)++(ss[k].data.toList++xs[k].text)
 | [],_,_,h,_=>absurd h (by simp)
 | _ :: _,[],_,_,h=>absurd h (by simp)
 | s :: ss,x :: xs,0,_,_=>by simp[cO]
 | s :: ss,x :: xs,k+1,h,h2=>by
  have ih:=Cx (ss:=ss) (xs:=xs) (k:=k) (by simpa using h) (by simpa using h2);simp only[List.take_succ_cons,cO,List.getElem_cons_succ] at ih ⊢;rw[ih]
  simp
theorem Jf:∀ (ss:List ByteArray) (xs:List PZ) (k:Nat),(cO (ss.take k) (xs.take k)).length≤(cO ss xs).length
 | [],xs,k=>by simp[cO]
 | s :: ss,[],k=>by simp[cO]
 | s :: ss,x :: xs,0=>by simp[cO]
 | s :: ss,x :: xs,k+1=>by
  have:=Jf ss xs k;simp only[List.take_succ_cons,cO,bN];omega
theorem kK.at {B:Nat}{w:World}{ae:Option Addr}{ks:List PZ}(h:kK B w ae ks){W:World}(hW:Below B w W){k:Nat}(hk:k<ks.length):∃ b off am wn cm ak ck,ae=some ⟨b,off,none⟩∧b<B∧nL YA (fun b=>b<B) W (.slice am wn cm) (.slice ak ks[k].aA.length ck) ks[k] ∧
  W.cell? ⟨b,off+k * 8,none⟩=some (.int .i64 ks[k].op)∧W.cell? ⟨b,off+k * 8+1,none⟩=some (.string ⟨ks[k].name.toArray⟩)∧W.cell? ⟨b,off+k * 8+2,none⟩=some (.string ⟨ks[k].module.toArray⟩)∧W.cell? ⟨b,off+k * 8+3,none⟩=some (.bool (decide (ks[k].num<0)))∧W.cell? ⟨b,off+k * 8+4,none⟩=some (.slice am wn cm)∧W.cell? ⟨b,off+k * 8+5,none⟩=some (.bool ks[k].yes)∧W.cell? ⟨b,off+k * 8+6,none⟩=some (.slice ak ks[k].aA.length ck)∧W.cell? ⟨b,off+k * 8+7,none⟩=some (.int .i64 ks[k].at_):=by
 obtain⟨b,off,h1,h2,h3,h4⟩:=h (by omega);obtain⟨am,wn,cm,ak,ck,h5,h6⟩:=h4 k hk;exact⟨b,off,am,wn,cm,ak,ck,h1,h2,h5.frame (aW.ru hW (fun b hb=>hb)),(hW.cell (p:=⟨b,off+k * 8,none⟩) h2).trans (h6 0 _ rfl),(hW.cell (p:=⟨b,off+k * 8+1,none⟩) h2).trans (h6 1 _ rfl),(hW.cell (p:=⟨b,off+k * 8+2,none⟩) h2).trans (h6 2 _ rfl),(hW.cell (p:=⟨b,off+k * 8+3,none⟩) h2).trans (h6 3 _ rfl),(hW.cell (p:=⟨b,off+k * 8+4,none⟩) h2).trans (h6 4 _ rfl),(hW.cell (p:=⟨b,off+k * 8+5,none⟩) h2).trans (h6 5 _ rfl),(hW.cell (p:=⟨b,off+k * 8+6,none⟩) h2).trans (h6 6 _ rfl),(hW.cell (p:=⟨b,off+k * 8+7,none⟩) h2).trans (h6 7 _ rfl)⟩
theorem Bt (op:Int)(NM MD:ByteArray)(ng:Bool)(am:Option Addr)(wn cm:Nat)(ys:Bool)(ae:Option Addr)(ce:Nat)(a_:Int)(ks:List PZ)(ss:List ByteArray)(hl:ss.length≤ks.length)(hl2:ss.length≤1000)(hk:∀ x∈ks,Bq x)(B B' b sb cap:Nat)(fr:Nat × Nat)(acc:List UInt8)(w:World)
  (h:kK B w ae ks) (mM:B≤B') (hbd:jY B' b acc w 151) (hs:w.heap[sb]?=some (.cells (ss.map Value.string).toArray 9 fr)) (hB:B'≤w.heap.size) (hn:acc.length+(cO ss ks).length≤1099511627776) :
  Calls Tryz.prog 202 #[.pointer (some ⟨b,0,none⟩),.agg #[.int .i64 op,.string NM,.string MD,.bool ng,.slice am wn cm,.bool ys,.slice ae ks.length ce,.int .i64 a_],.slice (some ⟨sb,0,none⟩) ss.length cap] w (bQ B' b (acc++cO ss ks) w):=by
 have hal:=aB w (.cells (aQ op NM MD ng (.slice am wn cm) ys (.slice ae ks.length ce) a_) 64);have hN:=aY w (.cells (aQ op NM MD ng (.slice am wn cm) ys (.slice ae ks.length ce) a_) 64);have hb1:=hbd.l7 hal;have hs1:=(hal.block sb (bS hs).1).trans hs;have xH:=hal.mono hB;have HH:=ay h;have HK:=ay hk;clear h hk hbd hs;go_enter Tryz.func202,Tryz.ntmps202
 go_upto_region 1 with fail
 change Code.wp _ _ _ _ (w.alloc (.cells (aQ op NM MD ng (.slice am wn cm) ys (.slice ae ks.length ce) a_) 64));generalize w.alloc _=w1 at hal hN hb1 xH hs1 ⊢;have hB1:=jc hB hal.size;have GH:=ay hs1;have HN:=ay hN;have HB1:=ay hb1;clear hs1 hN hb1;go_wp2
 go_loopw [10] (fun q wr=>∃ k:Nat,k≤ss.length∧q=.int .i64 k∧iD w1 B' b (acc++cO (ss.take k) (ks.take k)) wr) (fun q _=>ss.length - (intOf q).toNat)
 case atStart=>exact⟨0,lI _,rfl,by simpa [cO] using iD.start HB1.out⟩
 case round =>
  obtain⟨k,hkl,rfl,st⟩:=hrel;have hz:=st.kM.size
  by_cases hlt:k<ss.length
  ·have hS2:=st.box HB1.out GH.out (by decide) (by decide)
   have hx:wr.cell? ⟨sb,k,none⟩=some (.string ss[k]):=by
    rw[aV hS2];simp[hlt]
   have hsn:=Cx hlt (by omega:k<ks.length);have hle:=Jf ss ks (k+1);rw[hsn,bN,bN,aR] at hle;have HD:=ay (HK.out _ (mX (by omega:k<ks.length)));have HKZ:=ay (fun W hW=>HH.out.at (W:=W) hW (by omega:k<ks.length));have qx:=ay hsn;have HST:=ay st;clear hS2 hsn st;generalize ss[k]=S at hx hle qx;generalize cO (ss.take k) (ks.take k)=c at hle qx HST;generalize ks[k]'(by omega)=x at hle HD HKZ qx
   have pR:(k:Int)<(ss.length:Int):=by omega
   have aeR:(k:Int)<(ks.length:Int):=by omega
   have hln:acc.length+c.length+(S.size+x.text.length)≤1099511627776:=by omega
   clear hle
   go_upto_region 5 with (go_at_call 123;refine(dO S B' b (acc++c) wr HST.out.lu (by omega) (by rw[bN];omega)).mono ?_;rintro r w2 h2;obtain rfl:=h2.eq)
   have s2:=HST.out.write h2;have hz2:=s2.kM.size;obtain⟨y0,y1,y2,y3,y4,y5,y6,y7⟩:=aI (s2.box HB1.out HN.out (by decide) (by decide));obtain⟨kb,off,Lx,LA,LB,LC,ck1,rfl,hkB,hE,x0,x1,x2,x3,x4,x5,x6,x7⟩:=HKZ.out w2 ((xH.trans s2.kM).mono mM);have HC:=ay (HD.out 0 B B' b Lx LA LB LC ck1 (acc++c++S.data.toList) w2 hE mM s2.lu (by omega) (by rw[Br];simp only[bN,aR];omega));have HSS:=ay s2;clear hE HST h2 s2 HKZ HD y0 y1 y2 y3 y4 y5 y7 hx;go_wp2_with (go_at_call 201;refine HC.out.mono ?_;rintro r w3 h3;obtain rfl:=h3.eq);refine⟨⟨k+1,by omega,by go_num,?_⟩,by simp[intOf];omega⟩;have:=HSS.out.write h3;rw[Br] at this;rw[qx.out]
   simpa [nQ] using this
  ·obtain rfl:k=ss.length:=by omega
   have pR:decide ((ss.length:Int)<(ss.length:Int))=false:=dA (by omega)
   have hp:cO (ss.take ss.length) (ks.take ss.length)=cO ss ks:=by
    have:∀ (ss:List ByteArray) (ks:List PZ),cO (ss.take ss.length) (ks.take ss.length)=cO ss ks:=by
     intro ss
     induction ss with
     | nil=>intro ks;simp[cO]
     | cons s ss ih =>
      intro ks
      cases ks with
      | nil=>simp[cO]
      | cons x xs=>simp only[dR,List.take_succ_cons,cO,ih]
    exact this ss ks
   rw[hp] at st;have HST:=ay st;clear st hp;go_wp2
   go_end0
   exact bQ.from hal hB HST.out
theorem r9:∀ (l:List (List UInt8)) (t:List UInt8),bM (l++[t])=if l=[] then t else bM l++[44,32]++t
 | [],t=>rfl
 | [a],t=>by simp[bM]
 | a :: b :: l,t=>by
  have ih:=r9 (b :: l) t;rw[if_neg (by simp)] at ih ⊢;simp only[jN] at ih ⊢;rw[bM,ih,bM]
  simp
theorem Bu:∀ (l r:List (List UInt8)),(bM l).length≤(bM (l++r)).length
 | l,[]=>by simp
 | l,t :: r=>by
  have h:=Bu (l++[t]) r;rw[nQ] at h;have h2:=r9 l t;refine jc ?_ h;rw[h2]
  split
  ·rename_i q;subst q;simp[bM]
  ·simp only[bN];omega
 termination_by _ r=>r.length
def YN (f:FuncId)(lb:Array Value)(B' b:Nat)(w:World)(x:PZ):Prop:=∀ (acc:List UInt8) (W:World) (am:Option Addr) (wn cm:Nat) (ak:Option Addr) (ck:Nat),iD w B' b acc W→nL YA (fun k=>k<B') W (.slice am wn cm) (.slice ak x.aA.length ck) x→acc.length+x.text.length≤1099511627776 →
 Calls Tryz.prog f (#[.agg #[.int .i64 x.op,.string ⟨x.name.toArray⟩,.string ⟨x.module.toArray⟩,.bool (decide (x.num<0)),.slice am wn cm,.bool x.yes,.slice ak x.aA.length ck,.int .i64 x.at_]]++lb) W (bQ B' b (acc++x.text) W)
theorem YO (f:FuncId)(lb:Array Value)(eg:∀ args w,(callFunc f args).run Tryz.prog w=.ok (.enter f args) w)(ks:List PZ)(B B' b:Nat)(ae:Option Addr)(ce:Nat)(acc:List UInt8)(w:World)(hk:∀ x∈ks,YN f lb B' b w x)(h:kK B w ae ks)(mM:B≤B')(hbd:jY B' b acc w 151)(hB:B'≤w.heap.size)(hn:acc.length+(bM (ks.map PZ.text)).length≤1099511627776)(hkl:ks.length≤1000000) :
  Calls Tryz.prog 255 #[.pointer (some ⟨b,0,none⟩),.slice ae ks.length ce,.func (.func f) #[] lb] w (bQ B' b (acc++bM (ks.map PZ.text)) w):=by
 have HH:=ay h;have HK:=ay hk;have HB:=ay hbd;clear h hk hbd;go_enter Tryz.func255,Tryz.ntmps255;go_wp2
 go_loopw [6,10] (fun _ q wr=>∃ k:Nat,k≤ks.length∧q=.int .i64 k∧iD w B' b (acc++bM ((ks.map PZ.text).take k)) wr) (fun _ q _=>ks.length - (intOf q).toNat)
 case atStart=>exact⟨0,lI _,rfl,by simpa [bM] using iD.start HB.out⟩
 case round =>
  obtain⟨k,hkk,rfl,st⟩:=hrel;have hz:=st.kM.size
  by_cases hlt:k<ks.length
  ·have hlm:k<(ks.map PZ.text).length:=by simpa using hlt
   have hts:(ks.map PZ.text).take (k+1)=(ks.map PZ.text).take k++[ks[k].text]:=by rw[Dg hlm];simp
   have hsn:=r9 ((ks.map PZ.text).take k) ks[k].text;rw[← hts] at hsn;have hle:=Bu ((ks.map PZ.text).take (k+1)) ((ks.map PZ.text).drop (k+1));rw[List.take_append_drop] at hle
   have hnil:((ks.map PZ.text).take k=[])↔k=0:=by
    constructor
    ·intro q
     have:=congrArg List.length q;rw[qZ,gX] at this;omega
    ·rintro rfl;rfl
   simp only[hnil] at hsn;have HD:=ay (HK.out _ (mX hlt));obtain⟨kb,off,Lx,LA,LB,LC,ck1,rfl,hkB,hE,x0,x1,x2,x3,x4,x5,x6,x7⟩:=HH.out.at (st.kM.mono mM) hlt;have qx:=ay hsn;have HST:=ay st
   have hc0:k=0→bM ((ks.map PZ.text).take k)=[]:=by rintro rfl;rfl
   have YP:=ay hc0;clear hsn hts hlm hnil st hc0;generalize bM ((ks.map PZ.text).take k)=c at qx HST YP;generalize hcc:bM ((ks.map PZ.text).take (k+1))=c2 at hle qx;have HCC:=ay hcc;clear hcc;generalize ks[k]=x at *
   have pR:(k:Int)<(ks.length:Int):=by omega
   have hln:acc.length+c2.length≤1099511627776:=by omega
   have hal:=aB wr (.cells (aQ x.op ⟨x.name.toArray⟩ ⟨x.module.toArray⟩ (decide (x.num<0)) (.slice Lx LA LB) x.yes (.slice LC x.aA.length ck1) x.at_) 64);have hN:=aY wr (.cells (aQ x.op ⟨x.name.toArray⟩ ⟨x.module.toArray⟩ (decide (x.num<0)) (.slice Lx LA LB) x.yes (.slice LC x.aA.length ck1) x.at_) 64);have s1:=HST.out.below hal hB;have hE1:=hE.frame (aW.ru (hal.mono (jc hB hz)) (fun b hb=>by omega:∀ b,b<B→b<B'));clear hle hE
   go_upto_region 3 with fail
   change Code.wp _ _ _ _ (wr.alloc (.cells (aQ x.op ⟨x.name.toArray⟩ ⟨x.module.toArray⟩ (decide (x.num<0)) (.slice Lx LA LB) x.yes (.slice LC x.aA.length ck1) x.at_) 64));clear x0 x1 x2 x3 x4 x5 x6 x7;generalize wr.alloc _=w1 at hal hN s1 hE1 ⊢;have hz1:=hal.size
   by_cases h0:k=0
   ·have YQ:Hid (c2=x.text):=ay (by rw[qx.out,if_pos h0])
    have hc0:=YP.out h0;subst hc0;rw[List.append_nil] at s1;have HX:=ay (HD.out acc w1 Lx LA LB LC ck1 s1 (hE1.imp fun b hb _=>by omega) (by rw[← YQ.out];exact hln));have zB:Hid (bM ((ks.map PZ.text).take (k+1))=c2):=HCC;have GH:=ay s1;obtain⟨y0,y1,y2,y3,y4,y5,y6,y7⟩:=aI hN
    have abN:(k:Int)≤0:=by omega
    clear qx HST HD hal hN s1 hE1 YP HCC h0;go_wp2_with (go_at_fn f;refine HX.out.mono ?_;rintro r w3 h3;obtain rfl:=h3.eq);refine⟨⟨k+1,by omega,by go_num,?_⟩,by simp[intOf];omega⟩;rw[zB.out,YQ.out];exact GH.out.write h3
   ·have YQ:Hid (c2=c++[44,32]++x.text):=ay (by rw[qx.out,if_neg h0])
    have hl2:acc.length+c.length+2+x.text.length≤1099511627776:=by
     have:=congrArg List.length YQ.out;simp only[bN,dR,gX] at this;omega
    have abN:(0:Int)<(k:Int):=by omega
    have zB:Hid (bM ((ks.map PZ.text).take (k+1))=c2):=HCC;clear h0 qx YP HCC hln
    go_upto_region 5 with (go_at_call 123;refine(dO ⟨#[44,32]⟩ B' b (acc++c) w1 s1.lu (by omega) (by show (acc++c).length+2≤_;rw[bN];omega)).mono ?_;rintro r w2 h2;obtain rfl:=h2.eq)
    have s2:=s1.write h2;obtain⟨y0,y1,y2,y3,y4,y5,y6,y7⟩:=aI (s1.lu.block h2.2.2.2 hN (by decide) (by decide));have HX:=ay (HD.out (acc++c++[44,32]) w2 Lx LA LB LC ck1 s2 ((hE1.frame (aW.ru h2.2.2.1 fun b hb=>by omega)).imp fun b hb _=>by omega) (by simp only[bN,dR,gX];omega));have GH:=ay s2;clear HST HD hal hN s1 hE1 s2 h2;go_wp2_with (go_at_fn f;refine HX.out.mono ?_;rintro r w3 h3;obtain rfl:=h3.eq);refine⟨⟨k+1,by omega,by go_num,?_⟩,by simp[intOf];omega⟩;have:=GH.out.write h3;rw[zB.out,YQ.out]
    simpa [nQ] using this
  ·obtain rfl:k=ks.length:=by omega
   have pR:decide ((ks.length:Int)<(ks.length:Int))=false:=dA (by omega);rw[show (ks.map PZ.text).take ks.length=ks.map PZ.text by rw[Au (by simp)]] at st;have HST:=ay st;clear st;go_wp2
   go_end0
   exact⟨rfl,HST.out.lu,HST.out.kM,HST.out.kept⟩
theorem Vv (x:PZ)(hx:Bq x)(B' b tb:Nat)(acc0:List UInt8)(w:World)(hb0:jY B' b acc0 w 151)(ht:w.heap[tb]?=some (.cells #[.pointer (some ⟨b,0,none⟩)] 145 (0,0)))(hB:B'≤w.heap.size) :
  YN 256 #[.pointer (some ⟨tb,0,none⟩)] B' b w x:=by
 intro acc W am wn cm ak ck st hE hn;have hT:=st.box hb0 ht (by decide) (by decide);have hal:=aB W (.cells (aQ x.op ⟨x.name.toArray⟩ ⟨x.module.toArray⟩ (decide (x.num<0)) (.slice am wn cm) x.yes (.slice ak x.aA.length ck) x.at_) 64);have hN:=aY W (.cells (aQ x.op ⟨x.name.toArray⟩ ⟨x.module.toArray⟩ (decide (x.num<0)) (.slice am wn cm) x.yes (.slice ak x.aA.length ck) x.at_) 64);have hBW:=jc hB st.kM.size;have hT1:=(hal.block tb (bS hT).1).trans hT;have s1:=(iD.start st.lu).below hal hBW;have HX:=ay (fun hl=>hx 0 B' B' b am wn cm ak ck acc (W.alloc (.cells (aQ x.op ⟨x.name.toArray⟩ ⟨x.module.toArray⟩ (decide (x.num<0)) (.slice am wn cm) x.yes (.slice ak x.aA.length ck) x.at_) 64)) (hE.frame (aW.of hal)) (bD _) s1.lu (jc hBW hal.size) hl);rw[Br] at HX;have Tk:=ay (HX.out hn);show Calls _ _ #[_,_] _ _;clear hE hn hx HX st hT ht hb0;go_enter Tryz.func256,Tryz.ntmps256
 go_upto_region 1 with fail
 change Code.wp _ _ _ _ (W.alloc (.cells (aQ x.op ⟨x.name.toArray⟩ ⟨x.module.toArray⟩ (decide (x.num<0)) (.slice am wn cm) x.yes (.slice ak x.aA.length ck) x.at_) 64));generalize W.alloc _=w1 at hal hN hT1 s1 Tk ⊢;obtain⟨y0,y1,y2,y3,y4,y5,y6,y7⟩:=aI hN
 have yt:w1.cell? ⟨tb,0,none⟩=some (.pointer (some ⟨b,0,none⟩)):=by rw[aV hT1];rfl
 go_wp2_with (go_at_call 201;refine Tk.out.mono ?_;rintro r w3 h3;obtain rfl:=h3.eq)
 go_end0
 exact⟨rfl,h3.2.1,(hal.mono hBW).trans h3.2.2.1,(qO hal).trans h3.2.2.2⟩
theorem iD.drew {w W:World}{B' b:Nat}{acc:List UInt8}(h:iD w B' b acc W):iD w B' b acc W.drew:=⟨h.lu.drew,h.kM.drew,h.kept.drew⟩
theorem pW {w:World}{b:Nat}{x y z u:Value}(h:w.heap[b]?=some (.cells #[x,y,z,u] 271 (0,0))):w.cell? ⟨b,0,none⟩=some x∧w.cell? ⟨b,1,none⟩=some y∧w.cell? ⟨b,2,none⟩=some z∧w.cell? ⟨b,3,none⟩=some u:=by
 refine⟨?_,?_,?_,?_⟩<;>(rw[aV h];rfl)
theorem YR (op:Int)(NM MD:ByteArray)(ng:Bool)(am:Option Addr)(wn cm:Nat)(ys:Bool)(ae:Option Addr)(ce:Nat)(a_:Int)(ks:List PZ)(hk:∀ x∈ks,Bq x)(B B' b:Nat)(acc:List UInt8)(w:World)(hkl:ks.length≤1000000)
  (h:kK B w ae ks) (mM:B≤B') (hbd:jY B' b acc w 151) (hB:B'≤w.heap.size) (out:List UInt8) (ho:out=(if MD.data.toList=[] then [] else MD.data.toList++[46])++NM.data.toList++[40]++bM (ks.map PZ.text)++[41]) (hn:acc.length+out.length≤1099511627776) :
  Calls Tryz.prog 203 #[.pointer (some ⟨b,0,none⟩),.agg #[.int .i64 op,.string NM,.string MD,.bool ng,.slice am wn cm,.bool ys,.slice ae ks.length ce,.int .i64 a_]] w (bQ B' b (acc++out) w):=by
 have hlo:=congrArg List.length ho;have HO:=ay ho;clear ho;have hal:=(aB w (.cells #[.pointer (some ⟨b,0,none⟩)] 145)).alloc (by simp) (.cells (aQ op NM MD ng (.slice am wn cm) ys (.slice ae ks.length ce) a_) 64);have hT:=(gY (w.alloc (.cells #[.pointer (some ⟨b,0,none⟩)] 145)) (.cells (aQ op NM MD ng (.slice am wn cm) ys (.slice ae ks.length ce) a_) 64) w.heap.size (by simp)).trans (aY w (.cells #[.pointer (some ⟨b,0,none⟩)] 145));have hN:=aY (w.alloc (.cells #[.pointer (some ⟨b,0,none⟩)] 145)) (.cells (aQ op NM MD ng (.slice am wn cm) ys (.slice ae ks.length ce) a_) 64);rw[oP] at hN;have hb1:=hbd.l7 hal;have xH:=hal.mono hB;have HH:=ay h;have HK:=ay hk;clear h hk hbd;go_enter Tryz.func203,Tryz.ntmps203
 go_upto_region 1 with fail
 change Code.wp _ _ _ _ ((w.alloc (.cells #[.pointer (some ⟨b,0,none⟩)] 145)).alloc (.cells (aQ op NM MD ng (.slice am wn cm) ys (.slice ae ks.length ce) a_) 64));generalize (w.alloc _).alloc _=w1 at hal hN hT hb1 xH ⊢;have hB1:=jc hB hal.size;obtain⟨y0,y1,y2,y3,y4,y5,y6,y7⟩:=aI hN
 have yt:w1.cell? ⟨w.heap.size,0,none⟩=some (.pointer (some ⟨b,0,none⟩)):=by rw[aV hT];rfl
 have HB1:=ay hb1;have HN:=ay hN;have HT:=ay hT
 obtain⟨md,hmd⟩:∃ md,md=if MD.data.toList=[] then [] else MD.data.toList++[46]:=⟨_,rfl⟩
 rw[← hmd] at hlo;have HMD:=ay hmd;clear hb1 hN hT hmd;simp only[bN,aR,dR,gX] at hlo
 have hle:acc.length+md.length+NM.size+1+(bM (ks.map PZ.text)).length+1≤1099511627776:=by omega
 clear hlo hn
 go_upto_if 6 with fail
 generalize ht:(!MD.toList.isEmpty)=t;rw[(Bg MD).1] at ht
 go_cut [6] (fun s wc=>iD w1 B' b (acc++md) wc)
 case first =>
  by_cases hm:MD.data.toList=[]
  ·rw[iX hm] at ht
   obtain rfl:t=false:=ht.symm
   have agh:md=[]:=by rw[HMD.out,if_pos hm]
   subst agh;clear hm;go_wp2
   go_meet
   rw[List.append_nil];exact iD.start HB1.out
  ·rw[dA hm] at ht
   obtain rfl:t=true:=ht.symm;have GR:Hid (md=MD.data.toList++[46]):=ay (by rw[HMD.out,if_neg hm]);have hml:=congrArg List.length GR.out;simp only[bN,aR,dR,gX] at hml
   have ahz:MD.size+1≤md.length:=by omega
   clear hm hml;go_wp2_with (go_at_call 123;refine(xg MD ⟨#[46]⟩ B' b acc w1 HB1.out hB1 (by show acc.length+MD.size+1≤_;omega)).mono ?_;rintro r w2 h2;obtain rfl:=h2.eq)
   go_meet
   rw[GR.out];exact(iD.start HB1.out).write h2
 case rest =>
  obtain⟨wo,rfl⟩:∃ wo:World,wo=wc:=⟨_,rfl⟩
  have hzo:=hcut.kM.size;clear y0 y1 y2 y3 y4 y5 y6 y7 yt ht;obtain⟨y0,y1,y2,y3,y4,y5,y6,y7⟩:=aI (hcut.box HB1.out HN.out (by decide) (by decide))
  have yt:wo.cell? ⟨w.heap.size,0,none⟩=some (.pointer (some ⟨b,0,none⟩)):=by rw[aV (hcut.box HB1.out HT.out (by decide) (by decide))];rfl
  go_upto_region 4 with (go_at_call 123;refine(xg NM ⟨#[40]⟩ B' b (acc++md) wo hcut.lu (by omega) (by show (acc++md).length+NM.size+1≤_;rw[bN];omega)).mono ?_;rintro r w2 h2;obtain rfl:=h2.eq)
  have s2:=hcut.write h2;have hz2:=s2.kM.size;clear y0 y1 y2 y3 y4 y5 y6 y7 yt h2 hcut;have T2:=s2.box HB1.out HT.out (by decide) (by decide);obtain⟨y0,y1,y2,y3,y4,y5,y6,y7⟩:=aI (s2.box HB1.out HN.out (by decide) (by decide))
  have yt:w2.cell? ⟨w.heap.size,0,none⟩=some (.pointer (some ⟨b,0,none⟩)):=by rw[aV T2];rfl
  have HL:=ay (YO 256 #[.pointer (some ⟨w.heap.size,0,none⟩)] (enters_of Tryz.func256 (by kernel_rfl) rfl) ks B B' b ae ce (acc++md++(NM.data.toList++[40])) w2 (fun x hx=>Vv x (HK.out x hx) B' b w.heap.size _ w2 s2.lu T2 (by omega)) (fun h0=>by
   obtain⟨kb,off,q1,q2,q3,q4⟩:=HH.out h0;have hb2:=(xH.trans s2.kM).mono mM;refine⟨kb,off,q1,q2,Nat.lt_of_lt_of_le q3 hb2.size,fun i hi=>?_⟩;obtain⟨Lr,wn',Ls,Kv,Kw,q5,q6⟩:=q4 i hi
   exact⟨Lr,wn',Ls,Kv,Kw,q5.frame (aW.ru hb2 fun b hb=>hb),fun j u hu=>(hb2.cell (p:=⟨kb,off+i * 8+j,none⟩) q2).trans (q6 j u hu)⟩) mM s2.lu (by omega) (by simp only[bN,aR,dR,gX];omega) hkl)
  go_upto_region 5 with (go_at_call 255;refine HL.out.mono ?_;rintro r w3 h3;obtain rfl:=h3.eq)
  have s3:=s2.write h3;have hz3:=s3.kM.size;clear y0 y1 y2 y3 y4 y5 y6 y7 yt h3 s2 HL T2
  have yt:w3.cell? ⟨w.heap.size,0,none⟩=some (.pointer (some ⟨b,0,none⟩)):=by rw[aV (s3.box HB1.out HT.out (by decide) (by decide))];rfl
  go_wp2_with (go_at_call 123;refine(dO ⟨#[41]⟩ B' b _ w3 s3.lu (by omega) (by show List.length _+1≤_;simp only[bN,aR,dR,gX];omega)).mono ?_;rintro r w4 h4;obtain rfl:=h4.eq)
  go_end0
  have:=bQ.from hal hB (s3.write h4)
  rw[HO.out,← HMD.out]
  simpa [nQ] using this
theorem aeS {op:Int}(h1:7≤op)(h2:op≤20):(op == 1)=false∧(op == 2)=false∧(op == 3)=false∧(op == 4)=false∧(op == 5)=false∧(op == 6)=false∧(op == 21)=false∧(op == 22)=false∧(op == 23)=false∧(op == 24)=false:=by
 refine⟨?_,?_,?_,?_,?_,?_,?_,?_,?_,?_⟩<;>exact BU.2 (by omega)
theorem Vw {op:Int}(h1:7≤op)(h2:op≤20)(nm md:List UInt8)(num:Int)(yes:Bool)(ks:List (Int × List UInt8)):nW op nm md num yes ks=rF (vP op) (ks.getD 0 (0,[]))++[32]++sZ op++[32]++rF (zG op) (ks.getD 1 (0,[])):=by
 have e1:∀ k:Int,(k≤6∨21≤k)→¬ op=k:=fun k hk q=>by omega
 unfold nW;rw[if_neg (e1 1 (by omega)),if_neg (e1 2 (by omega)),if_neg (e1 3 (by omega)),if_neg (e1 4 (by omega)),if_neg (e1 5 (by omega)),if_neg (e1 6 (by omega)),if_neg (e1 21 (by omega)),if_neg (e1 22 (by omega)),if_neg (e1 23 (by omega)),if_neg (e1 24 (by omega))]
structure Cy (e:PZ) (B B' b:Nat) (am:Option Addr) (wn cm:Nat) (ae:Option Addr) (ce:Nat) (acc:List UInt8) (w:World):Prop where
 aA:kK B w ae e.aA
 does:∀ x∈e.aA,Bq x
 mM:B≤B'
 lu:jY B' b acc w 151
 hB:B'≤w.heap.size
 len:acc.length+e.text.length≤1099511627776
 num:nD (fun k=>k<B) w e.num (.slice am wn cm)
 big:e.num.natAbs<10 ^ 60
 few:e.aA.length≤65536
theorem Rm {e:PZ}{B B' b:Nat}{am:Option Addr}{wn cm:Nat}{ae:Option Addr}{ce:Nat}{acc:List UInt8}{w:World}(E:Cy e B B' b am wn cm ae ce acc w)(h1:1≤e.op)(h4:e.op≤4) :
  Calls Tryz.prog 124 #[.pointer (some ⟨b,0,none⟩),.agg #[.int .i64 e.op,.string ⟨e.name.toArray⟩,.string ⟨e.module.toArray⟩,.bool (decide (e.num<0)),.slice am wn cm,.bool e.yes,.slice ae e.aA.length ce,.int .i64 e.at_]] w (bQ B' b (acc++e.text) w):=by
 have hal:=aB w (.cells (aQ e.op ⟨e.name.toArray⟩ ⟨e.module.toArray⟩ (decide (e.num<0)) (.slice am wn cm) e.yes (.slice ae e.aA.length ce) e.at_) 64);have hN:=aY w (.cells (aQ e.op ⟨e.name.toArray⟩ ⟨e.module.toArray⟩ (decide (e.num<0)) (.slice am wn cm) e.yes (.slice ae e.aA.length ce) e.at_) 64);have hb1:=E.lu.l7 hal;have hB:=E.hB;have hln:=E.len;have HST:=ay (fun W (hW:Below w.heap.size w W)=>NZ (fun k=>k<B) am wn cm e.num W (XA.frame E.num (aW.of hW)) E.big);have htd:=e.o8;clear E;generalize e.text=out at *;obtain⟨TX,hTX,eT⟩:=jq (jG e.num);rw[show jG e.num=TX.data.toList from hTX.symm] at HST
 have HST:Hid (∀ W,Below w.heap.size w W→Calls Tryz.prog 66 #[.agg #[.bool (decide (e.num<0)),.slice am wn cm]] W fun r w'=>r=.returned (.string TX)∧Below W.heap.size W w'):=ay fun W hW=>(HST.out W hW).mono fun r w' q=>⟨by rw[q.1],q.2⟩
 have Px:=ay hTX;have YS:=ay htd;clear hTX eT htd;generalize hop:e.op=op at *;have HB1:=ay hb1;have HN:=ay hN;clear hb1 hN
 have:op=1∨op=2∨op=3∨op=4:=by omega
 have key:∀ (S:ByteArray) (W:World),out=S.data.toList→Below w.heap.size w W→jY B' b acc W 151→Calls Tryz.prog 123 #[.pointer (some ⟨b,0,none⟩),.slice (some ⟨W.heap.size,0,none⟩) 1 1] (W.alloc (.cells #[.string S] 9)) fun r w'=>r=.returned (.tuple #[])∧bQ B' b (acc++out) w (.returned (.tuple #[])) w':=fun S W hS hW hb =>
  (dO S B' b acc W hb (jc hB hW.size) (by rw[← aR,← hS];exact hln)).mono fun r w' q=>⟨q.1,rfl,by rw[hS];exact q.2.1,(hW.mono hB).trans q.2.2.1,(qO hW).trans q.2.2.2⟩
 have HK:=ay key;clear key hop hln h1 h4
 rcases this with rfl|rfl|rfl|rfl
 ·have HO:Hid (out=TX.data.toList):=ay (by rw[YS.out];exact Px.out.symm)
  go_enter Tryz.func124,Tryz.ntmps124
  go_upto_region 1 with fail
  change Code.wp _ _ _ _ (w.alloc (.cells (aQ 1 ⟨e.name.toArray⟩ ⟨e.module.toArray⟩ (decide (e.num<0)) (.slice am wn cm) e.yes (.slice ae e.aA.length ce) e.at_) 64));generalize w.alloc _=w1 at hal HN HB1 ⊢;obtain⟨y0,y1,y2,y3,y4,y5,y6,y7⟩:=aI HN.out;go_wp2_with (first|(go_at_call 66;refine(HST.out _ hal).mono ?_;rintro r w2 ⟨rfl,hb2⟩)|(go_at_call 123;refine(HK.out TX w2 HO.out (hal.trans (hb2.mono hal.size)) (HB1.out.l7 hb2)).mono ?_;rintro r w3 ⟨rfl,h3⟩))
  go_end0
  exact h3
 ·cases hy:e.yes with
  | true =>
   have HO:Hid (out=(ByteArray.mk #[116,114,117,101]).data.toList):=ay (by rw[YS.out,hy];rfl);rw[hy] at HN HB1 hal;clear hy;go_enter Tryz.func124,Tryz.ntmps124
   go_upto_region 1 with fail
   change Code.wp _ _ _ _ (w.alloc (.cells (aQ 2 ⟨e.name.toArray⟩ ⟨e.module.toArray⟩ (decide (e.num<0)) (.slice am wn cm) true (.slice ae e.aA.length ce) e.at_) 64));generalize w.alloc _=w1 at hal HN HB1 ⊢;obtain⟨y0,y1,y2,y3,y4,y5,y6,y7⟩:=aI HN.out;go_wp2_with (go_at_call 123;refine(HK.out _ w1 HO.out hal HB1.out).mono ?_;rintro r w3 ⟨rfl,h3⟩)
   go_end0
   exact h3
  | false =>
   have HO:Hid (out=(ByteArray.mk #[102,97,108,115,101]).data.toList):=ay (by rw[YS.out,hy];rfl);rw[hy] at HN HB1 hal;clear hy;go_enter Tryz.func124,Tryz.ntmps124
   go_upto_region 1 with fail
   change Code.wp _ _ _ _ (w.alloc (.cells (aQ 2 ⟨e.name.toArray⟩ ⟨e.module.toArray⟩ (decide (e.num<0)) (.slice am wn cm) false (.slice ae e.aA.length ce) e.at_) 64));generalize w.alloc _=w1 at hal HN HB1 ⊢;obtain⟨y0,y1,y2,y3,y4,y5,y6,y7⟩:=aI HN.out;go_wp2_with (go_at_call 123;refine(HK.out _ w1 HO.out hal HB1.out).mono ?_;rintro r w3 ⟨rfl,h3⟩)
   go_end0
   exact h3
 ·have HO:Hid (out=(ByteArray.mk e.name.toArray).data.toList):=ay (by rw[YS.out];rfl)
  go_enter Tryz.func124,Tryz.ntmps124
  go_upto_region 1 with fail
  change Code.wp _ _ _ _ (w.alloc (.cells (aQ 3 ⟨e.name.toArray⟩ ⟨e.module.toArray⟩ (decide (e.num<0)) (.slice am wn cm) e.yes (.slice ae e.aA.length ce) e.at_) 64));generalize w.alloc _=w1 at hal HN HB1 ⊢;obtain⟨y0,y1,y2,y3,y4,y5,y6,y7⟩:=aI HN.out;go_wp2_with (go_at_call 123;refine(HK.out _ w1 HO.out hal HB1.out).mono ?_;rintro r w3 ⟨rfl,h3⟩)
  go_end0
  exact h3
 ·have HO:Hid (out=(ByteArray.mk #[114,101,115]).data.toList):=ay (by rw[YS.out];rfl)
  go_enter Tryz.func124,Tryz.ntmps124
  go_upto_region 1 with fail
  change Code.wp _ _ _ _ (w.alloc (.cells (aQ 4 ⟨e.name.toArray⟩ ⟨e.module.toArray⟩ (decide (e.num<0)) (.slice am wn cm) e.yes (.slice ae e.aA.length ce) e.at_) 64));generalize w.alloc _=w1 at hal HN HB1 ⊢;obtain⟨y0,y1,y2,y3,y4,y5,y6,y7⟩:=aI HN.out;go_wp2_with (go_at_call 123;refine(HK.out _ w1 HO.out hal HB1.out).mono ?_;rintro r w3 ⟨rfl,h3⟩)
  go_end0
  exact h3
theorem Vx {e:PZ}{B B' b:Nat}{am:Option Addr}{wn cm:Nat}{ae:Option Addr}{ce:Nat}{acc:List UInt8}{w:World}(E:Cy e B B' b am wn cm ae ce acc w)(hop:e.op=5∨e.op=6)(hkn:e.aA.length=1) :
  Calls Tryz.prog 124 #[.pointer (some ⟨b,0,none⟩),.agg #[.int .i64 e.op,.string ⟨e.name.toArray⟩,.string ⟨e.module.toArray⟩,.bool (decide (e.num<0)),.slice am wn cm,.bool e.yes,.slice ae e.aA.length ce,.int .i64 e.at_]] w (bQ B' b (acc++e.text) w):=by
 have hal:=aB w (.cells (aQ e.op ⟨e.name.toArray⟩ ⟨e.module.toArray⟩ (decide (e.num<0)) (.slice am wn cm) e.yes (.slice ae e.aA.length ce) e.at_) 64);have hN:=aY w (.cells (aQ e.op ⟨e.name.toArray⟩ ⟨e.module.toArray⟩ (decide (e.num<0)) (.slice am wn cm) e.yes (.slice ae e.aA.length ce) e.at_) 64);have hb1:=E.lu.l7 hal;have hB:=E.hB;have mM:=E.mM;have hln:=E.len;have HD:=ay E.does;have HK:=ay E.aA;have xH:=hal.mono hB;have Kq:=E.few;have htd:=e.o8
 have hgt:∀ i,(h:i<e.aA.length)→(iG e.aA).getD i (0,[])=(e.aA[i].op,e.aA[i].text):=fun i h=>lX h
 clear E;have h0:=hgt 0 (by omega);have HD0:=ay (HD.out _ (mX (by omega:0<e.aA.length)));have Tp:=ay (fun W hW=>HK.out.at (W:=W) hW (by omega:0<e.aA.length))
 have aeT:e.op=5→e.text=([45]:List UInt8)++rF 9 (e.aA[0].op,e.aA[0].text):=fun q=>by rw[htd,q,← h0];rfl
 have aeU:e.op=6→e.text=([110,111,116,32]:List UInt8)++rF 4 (e.aA[0].op,e.aA[0].text):=fun q=>by rw[htd,q,← h0];rfl
 have H5:=ay aeT;have H6:=ay aeU;clear htd aeT aeU hgt h0 HD HK;generalize e.aA[0]=x at *;generalize e.text=out at *
 have pR:(0:Int)<(e.aA.length:Int):=by omega
 have aeR:0<e.aA.length:=by omega
 generalize hop':e.op=op at *;generalize e.aA.length=nk at *;have HB1:=ay hb1;have HN:=ay hN;clear hb1 hN hop' hkn
 rcases hop with rfl|rfl
 ·have HO:=ay (H5.out rfl)
  clear H5 H6
  have hl2:acc.length+1+(rF 9 (x.op,x.text)).length≤1099511627776:=by
   have:=congrArg List.length HO.out;simp only[bN,dR,gX] at this;omega
  clear hln;go_enter Tryz.func124,Tryz.ntmps124
  go_upto_region 1 with fail
  change Code.wp _ _ _ _ (w.alloc (.cells (aQ 5 ⟨e.name.toArray⟩ ⟨e.module.toArray⟩ (decide (e.num<0)) (.slice am wn cm) e.yes (.slice ae nk ce) e.at_) 64));generalize w.alloc _=w1 at hal HN HB1 xH ⊢;have hB1:=jc hB hal.size;obtain⟨y0,y1,y2,y3,y4,y5,y6,y7⟩:=aI HN.out
  go_upto_region 18 with (go_at_call 123;refine(dO ⟨#[45]⟩ B' b acc w1 HB1.out hB1 (by show acc.length+1≤_;omega)).mono ?_;rintro r w2 h2;obtain rfl:=h2.eq)
  have s2:=(iD.start HB1.out).write h2;have hz2:=s2.kM.size;clear y0 y1 y2 y3 y4 y5 y6 y7 h2;obtain⟨-,-,-,-,-,-,y6,-⟩:=aI (s2.box HB1.out HN.out (by decide) (by decide));obtain⟨kb,off,Lx,LA,LB,LC,ck1,rfl,hkB,hE,x0,x1,x2,x3,x4,x5,x6,x7⟩:=Tp.out w2 ((xH.trans s2.kM).mono mM);simp only[Nat.zero_mul,Nat.add_zero] at x0 x1 x2 x3 x4 x5 x6 x7;have HC:=ay (HD0.out 9 B B' b Lx LA LB LC ck1 _ w2 hE mM s2.lu (by omega) (by show (acc++([45]:List UInt8)).length+_≤_;simp only[bN,dR,gX];omega));have HS:=ay s2;clear hE Tp HD0 s2;go_wp2_with (go_at_call 201;refine HC.out.mono ?_;rintro r w3 h3;obtain rfl:=h3.eq)
  go_end0
  have:=bQ.from hal hB (HS.out.write h3)
  rw[HO.out]
  simpa [nQ] using this
 ·have HO:=ay (H6.out rfl)
  clear H5 H6
  have hl2:acc.length+4+(rF 4 (x.op,x.text)).length≤1099511627776:=by
   have:=congrArg List.length HO.out;simp only[bN,dR,gX] at this;omega
  clear hln;go_enter Tryz.func124,Tryz.ntmps124
  go_upto_region 1 with fail
  change Code.wp _ _ _ _ (w.alloc (.cells (aQ 6 ⟨e.name.toArray⟩ ⟨e.module.toArray⟩ (decide (e.num<0)) (.slice am wn cm) e.yes (.slice ae nk ce) e.at_) 64));generalize w.alloc _=w1 at hal HN HB1 xH ⊢;have hB1:=jc hB hal.size;obtain⟨y0,y1,y2,y3,y4,y5,y6,y7⟩:=aI HN.out
  go_upto_region 21 with (go_at_call 123;refine(dO ⟨#[110,111,116,32]⟩ B' b acc w1 HB1.out hB1 (by show acc.length+4≤_;omega)).mono ?_;rintro r w2 h2;obtain rfl:=h2.eq)
  have s2:=(iD.start HB1.out).write h2;have hz2:=s2.kM.size;clear y0 y1 y2 y3 y4 y5 y6 y7 h2;obtain⟨-,-,-,-,-,-,y6,-⟩:=aI (s2.box HB1.out HN.out (by decide) (by decide));obtain⟨kb,off,Lx,LA,LB,LC,ck1,rfl,hkB,hE,x0,x1,x2,x3,x4,x5,x6,x7⟩:=Tp.out w2 ((xH.trans s2.kM).mono mM);simp only[Nat.zero_mul,Nat.add_zero] at x0 x1 x2 x3 x4 x5 x6 x7;have HC:=ay (HD0.out 4 B B' b Lx LA LB LC ck1 _ w2 hE mM s2.lu (by omega) (by show (acc++([110,111,116,32]:List UInt8)).length+_≤_;simp only[bN,dR,gX];omega));have HS:=ay s2;clear hE Tp HD0 s2;go_wp2_with (go_at_call 201;refine HC.out.mono ?_;rintro r w3 h3;obtain rfl:=h3.eq)
  go_end0
  have:=bQ.from hal hB (HS.out.write h3)
  rw[HO.out]
  simpa [nQ] using this
theorem Vy {e:PZ}{B B' b:Nat}{am:Option Addr}{wn cm:Nat}{ae:Option Addr}{ce:Nat}{acc:List UInt8}{w:World}(E:Cy e B B' b am wn cm ae ce acc w)(hop:e.op=21)(hkn:e.aA.length=3) :
  Calls Tryz.prog 124 #[.pointer (some ⟨b,0,none⟩),.agg #[.int .i64 e.op,.string ⟨e.name.toArray⟩,.string ⟨e.module.toArray⟩,.bool (decide (e.num<0)),.slice am wn cm,.bool e.yes,.slice ae e.aA.length ce,.int .i64 e.at_]] w (bQ B' b (acc++e.text) w):=by
 have hal:=aB w (.cells (aQ e.op ⟨e.name.toArray⟩ ⟨e.module.toArray⟩ (decide (e.num<0)) (.slice am wn cm) e.yes (.slice ae e.aA.length ce) e.at_) 64);have hN:=aY w (.cells (aQ e.op ⟨e.name.toArray⟩ ⟨e.module.toArray⟩ (decide (e.num<0)) (.slice am wn cm) e.yes (.slice ae e.aA.length ce) e.at_) 64);have hb1:=E.lu.l7 hal;have hB:=E.hB;have mM:=E.mM;have hln:=E.len;have HD:=ay E.does;have HK:=ay E.aA;have xH:=hal.mono hB;have Kq:=E.few;have htd:=e.o8
 have hgt:∀ i,(h:i<e.aA.length)→(iG e.aA).getD i (0,[])=(e.aA[i].op,e.aA[i].text):=fun i h=>lX h
 clear E
 have hks:∃ l,e.aA=l∧l.length=3:=⟨_,rfl,hkn⟩
 obtain⟨l,hl,hll⟩:=hks
 have htx:e.text=cO [⟨#[105,102,32]⟩,⟨#[32,116,104,101,110,32]⟩,⟨#[32,101,108,115,101,32]⟩] e.aA:=by
  rw[htd,hop,hl]
  match l,hll with
  | [a,b,c],_=>simp[nW,cO,iG]
 have Px:=ay htx
 have hl2:acc.length+(cO [⟨#[105,102,32]⟩,⟨#[32,116,104,101,110,32]⟩,⟨#[32,101,108,115,101,32]⟩] e.aA).length≤1099511627776:=by rw[← htx];exact hln
 clear htd hgt hl hll htx hln;generalize e.text=out at *
 have Cz:([⟨#[105,102,32]⟩,⟨#[32,116,104,101,110,32]⟩,⟨#[32,101,108,115,101,32]⟩]:List ByteArray).length≤e.aA.length:=by rw[hkn];decide
 have hP:=fun (acc':List UInt8) (W:World) (sb:Nat) (hW:Below B' w W) (hb:jY B' b acc' W 151) (hs:W.heap[sb]?=some (.cells #[.string ⟨#[105,102,32]⟩,.string ⟨#[32,116,104,101,110,32]⟩,.string ⟨#[32,101,108,115,101,32]⟩] 9 (0,0))) (YT:acc'.length+(cO [⟨#[105,102,32]⟩,⟨#[32,116,104,101,110,32]⟩,⟨#[32,101,108,115,101,32]⟩] e.aA).length≤1099511627776)=>Bt 21 ⟨e.name.toArray⟩ ⟨e.module.toArray⟩ (decide (e.num<0)) am wn cm e.yes ae ce e.at_ e.aA [⟨#[105,102,32]⟩,⟨#[32,116,104,101,110,32]⟩,⟨#[32,101,108,115,101,32]⟩] Cz (by decide) HD.out B B' b sb 3 (0,0) acc' W (fun h0=>by
  obtain⟨kb,off,q1,q2,q3,q4⟩:=HK.out h0;have hb2:=hW.mono mM;refine⟨kb,off,q1,q2,Nat.lt_of_lt_of_le q3 hb2.size,fun i hi=>?_⟩;obtain⟨Lr,wn',Ls,Kv,Kw,q5,q6⟩:=q4 i hi
  exact⟨Lr,wn',Ls,Kv,Kw,q5.frame (aW.ru hb2 fun b hb=>hb),fun j u hu=>(hb2.cell (p:=⟨kb,off+i * 8+j,none⟩) q2).trans (q6 j u hu)⟩) mM hb hs (jc hB hW.size) YT
 have HP:=ay hP;clear hP HD HK Cz hkn;generalize cO [⟨#[105,102,32]⟩,⟨#[32,116,104,101,110,32]⟩,⟨#[32,101,108,115,101,32]⟩] e.aA=aeV at *;generalize hop':e.op=op at *;subst hop;have HB1:=ay hb1;have HN:=ay hN;clear hb1 hN hop';go_enter Tryz.func124,Tryz.ntmps124
 go_upto_region 1 with fail
 change Code.wp _ _ _ _ (w.alloc (.cells (aQ 21 ⟨e.name.toArray⟩ ⟨e.module.toArray⟩ (decide (e.num<0)) (.slice am wn cm) e.yes (.slice ae e.aA.length ce) e.at_) 64));generalize w.alloc _=w1 at hal HN HB1 xH ⊢;have hB1:=jc hB hal.size;obtain⟨y0,y1,y2,y3,y4,y5,y6,y7⟩:=aI HN.out;have cB:=aB w1 (.cells #[.string ⟨#[105,102,32]⟩,.string ⟨#[32,116,104,101,110,32]⟩,.string ⟨#[32,101,108,115,101,32]⟩] 9);have HP1:=ay (HP.out acc (w1.alloc (.cells #[.string ⟨#[105,102,32]⟩,.string ⟨#[32,116,104,101,110,32]⟩,.string ⟨#[32,101,108,115,101,32]⟩] 9)) w1.heap.size (xH.alloc hB1 _) (HB1.out.l7 cB) (aY w1 _) hl2);go_wp2_with (go_at_call 202;refine HP1.out.mono ?_;rintro r w3 h3;obtain rfl:=h3.eq)
 go_end0
 rw[Px.out]
 exact bQ.from hal hB (((iD.start HB1.out).below cB hB1).write h3)
theorem Rn {e:PZ}{B B' b:Nat}{am:Option Addr}{wn cm:Nat}{ae:Option Addr}{ce:Nat}{acc:List UInt8}{w:World}(E:Cy e B B' b am wn cm ae ce acc w)(hop:e.op=23)(hkn:e.aA.length=2) :
  Calls Tryz.prog 124 #[.pointer (some ⟨b,0,none⟩),.agg #[.int .i64 e.op,.string ⟨e.name.toArray⟩,.string ⟨e.module.toArray⟩,.bool (decide (e.num<0)),.slice am wn cm,.bool e.yes,.slice ae e.aA.length ce,.int .i64 e.at_]] w (bQ B' b (acc++e.text) w):=by
 have hal:=aB w (.cells (aQ e.op ⟨e.name.toArray⟩ ⟨e.module.toArray⟩ (decide (e.num<0)) (.slice am wn cm) e.yes (.slice ae e.aA.length ce) e.at_) 64);have hN:=aY w (.cells (aQ e.op ⟨e.name.toArray⟩ ⟨e.module.toArray⟩ (decide (e.num<0)) (.slice am wn cm) e.yes (.slice ae e.aA.length ce) e.at_) 64);have hb1:=E.lu.l7 hal;have hB:=E.hB;have mM:=E.mM;have hln:=E.len;have HD:=ay E.does;have HK:=ay E.aA;have xH:=hal.mono hB;have Kq:=E.few;have htd:=e.o8
 have hgt:∀ i,(h:i<e.aA.length)→(iG e.aA).getD i (0,[])=(e.aA[i].op,e.aA[i].text):=fun i h=>lX h
 clear E
 have hks:∃ l,e.aA=l∧l.length=2:=⟨_,rfl,hkn⟩
 obtain⟨l,hl,hll⟩:=hks
 have htx:e.text=cO [⟨#[97,115,115,101,114,116,32]⟩,⟨#[32,105,110,32]⟩] e.aA:=by
  rw[htd,hop,hl]
  match l,hll with
  | [a,b],_=>simp[nW,cO,iG]
 have Px:=ay htx
 have hl2:acc.length+(cO [⟨#[97,115,115,101,114,116,32]⟩,⟨#[32,105,110,32]⟩] e.aA).length≤1099511627776:=by rw[← htx];exact hln
 clear htd hgt hl hll htx hln;generalize e.text=out at *
 have Cz:([⟨#[97,115,115,101,114,116,32]⟩,⟨#[32,105,110,32]⟩]:List ByteArray).length≤e.aA.length:=by rw[hkn];decide
 have hP:=fun (acc':List UInt8) (W:World) (sb:Nat) (hW:Below B' w W) (hb:jY B' b acc' W 151) (hs:W.heap[sb]?=some (.cells #[.string ⟨#[97,115,115,101,114,116,32]⟩,.string ⟨#[32,105,110,32]⟩] 9 (0,0))) (YT:acc'.length+(cO [⟨#[97,115,115,101,114,116,32]⟩,⟨#[32,105,110,32]⟩] e.aA).length≤1099511627776)=>Bt 23 ⟨e.name.toArray⟩ ⟨e.module.toArray⟩ (decide (e.num<0)) am wn cm e.yes ae ce e.at_ e.aA [⟨#[97,115,115,101,114,116,32]⟩,⟨#[32,105,110,32]⟩] Cz (by decide) HD.out B B' b sb 2 (0,0) acc' W (fun h0=>by
  obtain⟨kb,off,q1,q2,q3,q4⟩:=HK.out h0;have hb2:=hW.mono mM;refine⟨kb,off,q1,q2,Nat.lt_of_lt_of_le q3 hb2.size,fun i hi=>?_⟩;obtain⟨Lr,wn',Ls,Kv,Kw,q5,q6⟩:=q4 i hi
  exact⟨Lr,wn',Ls,Kv,Kw,q5.frame (aW.ru hb2 fun b hb=>hb),fun j u hu=>(hb2.cell (p:=⟨kb,off+i * 8+j,none⟩) q2).trans (q6 j u hu)⟩) mM hb hs (jc hB hW.size) YT
 have HP:=ay hP;clear hP HD HK Cz hkn;generalize cO [⟨#[97,115,115,101,114,116,32]⟩,⟨#[32,105,110,32]⟩] e.aA=aeV at *;generalize hop':e.op=op at *;subst hop;have HB1:=ay hb1;have HN:=ay hN;clear hb1 hN hop';go_enter Tryz.func124,Tryz.ntmps124
 go_upto_region 1 with fail
 change Code.wp _ _ _ _ (w.alloc (.cells (aQ 23 ⟨e.name.toArray⟩ ⟨e.module.toArray⟩ (decide (e.num<0)) (.slice am wn cm) e.yes (.slice ae e.aA.length ce) e.at_) 64));generalize w.alloc _=w1 at hal HN HB1 xH ⊢;have hB1:=jc hB hal.size;obtain⟨y0,y1,y2,y3,y4,y5,y6,y7⟩:=aI HN.out;have cB:=aB w1 (.cells #[.string ⟨#[97,115,115,101,114,116,32]⟩,.string ⟨#[32,105,110,32]⟩] 9);have HP1:=ay (HP.out acc (w1.alloc (.cells #[.string ⟨#[97,115,115,101,114,116,32]⟩,.string ⟨#[32,105,110,32]⟩] 9)) w1.heap.size (xH.alloc hB1 _) (HB1.out.l7 cB) (aY w1 _) hl2);go_wp2_with (go_at_call 202;refine HP1.out.mono ?_;rintro r w3 h3;obtain rfl:=h3.eq)
 go_end0
 rw[Px.out]
 exact bQ.from hal hB (((iD.start HB1.out).below cB hB1).write h3)
theorem Ro {e:PZ}{B B' b:Nat}{am:Option Addr}{wn cm:Nat}{ae:Option Addr}{ce:Nat}{acc:List UInt8}{w:World}(E:Cy e B B' b am wn cm ae ce acc w)(hop:e.op=22)(hkn:e.aA.length=2)(hnl:e.name.length≤65536) :
  Calls Tryz.prog 124 #[.pointer (some ⟨b,0,none⟩),.agg #[.int .i64 e.op,.string ⟨e.name.toArray⟩,.string ⟨e.module.toArray⟩,.bool (decide (e.num<0)),.slice am wn cm,.bool e.yes,.slice ae e.aA.length ce,.int .i64 e.at_]] w (bQ B' b (acc++e.text) w):=by
 have hal:=aB w (.cells (aQ e.op ⟨e.name.toArray⟩ ⟨e.module.toArray⟩ (decide (e.num<0)) (.slice am wn cm) e.yes (.slice ae e.aA.length ce) e.at_) 64);have hN:=aY w (.cells (aQ e.op ⟨e.name.toArray⟩ ⟨e.module.toArray⟩ (decide (e.num<0)) (.slice am wn cm) e.yes (.slice ae e.aA.length ce) e.at_) 64);have hb1:=E.lu.l7 hal;have hB:=E.hB;have mM:=E.mM;have hln:=E.len;have HD:=ay E.does;have HK:=ay E.aA;have xH:=hal.mono hB;have Kq:=E.few;have htd:=e.o8
 have hgt:∀ i,(h:i<e.aA.length)→(iG e.aA).getD i (0,[])=(e.aA[i].op,e.aA[i].text):=fun i h=>lX h
 clear E
 have hks:∃ l,e.aA=l∧l.length=2:=⟨_,rfl,hkn⟩
 obtain⟨l,hl,hll⟩:=hks
 have htx:e.text=([108,101,116,32]:List UInt8)++e.name++cO [⟨#[32,61,32]⟩,⟨#[32,105,110,32]⟩] e.aA:=by
  rw[htd,hop,hl]
  match l,hll with
  | [a,b],_=>simp[nW,cO,iG]
 have Px:=ay htx
 have hl2:acc.length+4+e.name.length+(cO [⟨#[32,61,32]⟩,⟨#[32,105,110,32]⟩] e.aA).length≤1099511627776:=by
  rw[htx] at hln;simp only[bN,dR,gX] at hln;omega
 clear htd hgt hl hll htx hln;generalize e.text=out at *
 have Cz:([⟨#[32,61,32]⟩,⟨#[32,105,110,32]⟩]:List ByteArray).length≤e.aA.length:=by rw[hkn];decide
 have hP:=fun (acc':List UInt8) (W:World) (sb:Nat) (hW:Below B' w W) (hb:jY B' b acc' W 151) (hs:W.heap[sb]?=some (.cells #[.string ⟨#[32,61,32]⟩,.string ⟨#[32,105,110,32]⟩] 9 (0,0))) (YT:acc'.length+(cO [⟨#[32,61,32]⟩,⟨#[32,105,110,32]⟩] e.aA).length≤1099511627776)=>Bt 22 ⟨e.name.toArray⟩ ⟨e.module.toArray⟩ (decide (e.num<0)) am wn cm e.yes ae ce e.at_ e.aA [⟨#[32,61,32]⟩,⟨#[32,105,110,32]⟩] Cz (by decide) HD.out B B' b sb 2 (0,0) acc' W (fun h0=>by
  obtain⟨kb,off,q1,q2,q3,q4⟩:=HK.out h0;have hb2:=hW.mono mM;refine⟨kb,off,q1,q2,Nat.lt_of_lt_of_le q3 hb2.size,fun i hi=>?_⟩;obtain⟨Lr,wn',Ls,Kv,Kw,q5,q6⟩:=q4 i hi
  exact⟨Lr,wn',Ls,Kv,Kw,q5.frame (aW.ru hb2 fun b hb=>hb),fun j u hu=>(hb2.cell (p:=⟨kb,off+i * 8+j,none⟩) q2).trans (q6 j u hu)⟩) mM hb hs (jc hB hW.size) YT
 have HP:=ay hP;clear hP HD HK Cz hkn;generalize cO [⟨#[32,61,32]⟩,⟨#[32,105,110,32]⟩] e.aA=aeV at *;generalize hop':e.op=op at *;subst hop;have HB1:=ay hb1;have HN:=ay hN;clear hb1 hN hop';go_enter Tryz.func124,Tryz.ntmps124
 go_upto_region 1 with fail
 change Code.wp _ _ _ _ (w.alloc (.cells (aQ 22 ⟨e.name.toArray⟩ ⟨e.module.toArray⟩ (decide (e.num<0)) (.slice am wn cm) e.yes (.slice ae e.aA.length ce) e.at_) 64));generalize w.alloc _=w1 at hal HN HB1 xH ⊢;have hB1:=jc hB hal.size;obtain⟨y0,y1,y2,y3,y4,y5,y6,y7⟩:=aI HN.out
 go_upto_region 26 with (go_at_call 123;refine(xg ⟨#[108,101,116,32]⟩ ⟨e.name.toArray⟩ B' b acc w1 HB1.out hB1 (by show acc.length+4+e.name.toArray.size≤_;simp;omega)).mono ?_;rintro r w2 h2;obtain rfl:=h2.eq)
 have s2:=(iD.start HB1.out).write h2;have hz2:=s2.kM.size;clear y0 y1 y2 y3 y4 y5 y6 y7 h2;obtain⟨y0,y1,y2,y3,y4,y5,y6,y7⟩:=aI (s2.box HB1.out HN.out (by decide) (by decide));have cB:=aB w2 (.cells #[.string ⟨#[32,61,32]⟩,.string ⟨#[32,105,110,32]⟩] 9);have s3:=s2.below cB hB1;have HP1:=ay (HP.out _ (w2.alloc (.cells #[.string ⟨#[32,61,32]⟩,.string ⟨#[32,105,110,32]⟩] 9)) w2.heap.size (xH.trans s3.kM) s3.lu (aY w2 _) (by show (acc++(([108,101,116,32]:List UInt8)++e.name)).length+_≤_;simp only[bN,dR,gX];omega));go_wp2_with (go_at_call 202;refine HP1.out.mono ?_;rintro r w3 h3;obtain rfl:=h3.eq)
 go_end0
 rw[Px.out]
 have:=bQ.from hal hB (s3.write h3)
 simpa [nQ] using this
theorem Rp {e:PZ}{B B' b:Nat}{am:Option Addr}{wn cm:Nat}{ae:Option Addr}{ce:Nat}{acc:List UInt8}{w:World}(E:Cy e B B' b am wn cm ae ce acc w)(hop:e.op=24)(hkn:e.aA.length≤8)(hnl:e.name.length≤65536)(hml:e.module.length≤65536) :
  Calls Tryz.prog 124 #[.pointer (some ⟨b,0,none⟩),.agg #[.int .i64 e.op,.string ⟨e.name.toArray⟩,.string ⟨e.module.toArray⟩,.bool (decide (e.num<0)),.slice am wn cm,.bool e.yes,.slice ae e.aA.length ce,.int .i64 e.at_]] w (bQ B' b (acc++e.text) w):=by
 have hal:=aB w (.cells (aQ e.op ⟨e.name.toArray⟩ ⟨e.module.toArray⟩ (decide (e.num<0)) (.slice am wn cm) e.yes (.slice ae e.aA.length ce) e.at_) 64);have hN:=aY w (.cells (aQ e.op ⟨e.name.toArray⟩ ⟨e.module.toArray⟩ (decide (e.num<0)) (.slice am wn cm) e.yes (.slice ae e.aA.length ce) e.at_) 64);have hb1:=E.lu.l7 hal;have hB:=E.hB;have mM:=E.mM;have hln:=E.len;have HD:=ay E.does;have HK:=ay E.aA;have xH:=hal.mono hB;have Kq:=E.few;have htd:=e.o8
 have hgt:∀ i,(h:i<e.aA.length)→(iG e.aA).getD i (0,[])=(e.aA[i].op,e.aA[i].text):=fun i h=>lX h
 clear E
 have htx:e.text=(if (ByteArray.mk e.module.toArray).data.toList=[] then [] else (ByteArray.mk e.module.toArray).data.toList++[46])++(ByteArray.mk e.name.toArray).data.toList++[40]++bM (e.aA.map PZ.text)++[41]:=by
  rw[htd,hop,qI];simp only[nW,List.map_map]
  rfl
 have hC:=fun (W:World) (hW:Below B' w W) (hb:jY B' b acc W 151)=>YR e.op ⟨e.name.toArray⟩ ⟨e.module.toArray⟩ (decide (e.num<0)) am wn cm e.yes ae ce e.at_ e.aA HD.out B B' b acc W (by omega) (fun h0=>by
  obtain⟨kb,off,q1,q2,q3,q4⟩:=HK.out h0;have hb2:=hW.mono mM;refine⟨kb,off,q1,q2,Nat.lt_of_lt_of_le q3 hb2.size,fun i hi=>?_⟩;obtain⟨Lr,wn',Ls,Kv,Kw,q5,q6⟩:=q4 i hi
  exact⟨Lr,wn',Ls,Kv,Kw,q5.frame (aW.ru hb2 fun b hb=>hb),fun j u hu=>(hb2.cell (p:=⟨kb,off+i * 8+j,none⟩) q2).trans (q6 j u hu)⟩) mM hb (jc hB hW.size) e.text htx hln
 have HC:=ay hC;clear hC htx htd hgt HD HK hln;generalize e.text=out at *;generalize hop':e.op=op at *;subst hop;have HB1:=ay hb1;have HN:=ay hN;clear hb1 hN hop';go_enter Tryz.func124,Tryz.ntmps124
 go_upto_region 1 with fail
 change Code.wp _ _ _ _ (w.alloc (.cells (aQ 24 ⟨e.name.toArray⟩ ⟨e.module.toArray⟩ (decide (e.num<0)) (.slice am wn cm) e.yes (.slice ae e.aA.length ce) e.at_) 64));generalize w.alloc _=w1 at hal HN HB1 xH ⊢;have hB1:=jc hB hal.size;obtain⟨y0,y1,y2,y3,y4,y5,y6,y7⟩:=aI HN.out;have J6:=ay (HC.out w1 xH HB1.out);go_wp2_with (go_at_call 203;refine J6.out.mono ?_;rintro r w3 h3;obtain rfl:=h3.eq)
 go_end0
 exact bQ.from hal hB ((iD.start HB1.out).write h3)
theorem Vz {e:PZ}{B B' b:Nat}{am:Option Addr}{wn cm:Nat}{ae:Option Addr}{ce:Nat}{acc:List UInt8}{w:World}(E:Cy e B B' b am wn cm ae ce acc w)(h7:7≤e.op)(h20:e.op≤20)(hkn:e.aA.length=2) :
  Calls Tryz.prog 124 #[.pointer (some ⟨b,0,none⟩),.agg #[.int .i64 e.op,.string ⟨e.name.toArray⟩,.string ⟨e.module.toArray⟩,.bool (decide (e.num<0)),.slice am wn cm,.bool e.yes,.slice ae e.aA.length ce,.int .i64 e.at_]] w (bQ B' b (acc++e.text) w):=by
 have hal:=aB w (.cells (aQ e.op ⟨e.name.toArray⟩ ⟨e.module.toArray⟩ (decide (e.num<0)) (.slice am wn cm) e.yes (.slice ae e.aA.length ce) e.at_) 64);have hN:=aY w (.cells (aQ e.op ⟨e.name.toArray⟩ ⟨e.module.toArray⟩ (decide (e.num<0)) (.slice am wn cm) e.yes (.slice ae e.aA.length ce) e.at_) 64);have hb1:=E.lu.l7 hal;have hB:=E.hB;have mM:=E.mM;have hln:=E.len;have HD:=ay E.does;have HK:=ay E.aA;have xH:=hal.mono hB;have Kq:=E.few;have htd:=e.o8
 have hgt:∀ i,(h:i<e.aA.length)→(iG e.aA).getD i (0,[])=(e.aA[i].op,e.aA[i].text):=fun i h=>lX h
 clear E;have h0:=hgt 0 (by omega);have h1:=hgt 1 (by omega);have HD0:=ay (HD.out _ (mX (by omega:0<e.aA.length)));have Tp:=ay (fun W hW=>HK.out.at (W:=W) hW (by omega:0<e.aA.length));have HD1:=ay (HD.out _ (mX (by omega:1<e.aA.length)));have HK1:=ay (fun W hW=>HK.out.at (W:=W) hW (by omega:1<e.aA.length));rw[Vw h7 h20,h0,h1] at htd;obtain⟨t1,t2,t3,t4,t5,t6,t21,t22,t23,t24⟩:=aeS h7 h20;have HT:=ay (fun W=>Tn e.op h7 h20 W);have YS:=ay htd;clear hgt h0 h1 HD HK htd;generalize e.aA[0]=x at *;generalize e.aA[1]=z at *;generalize e.text=out at *
 have pR:(0:Int)<(e.aA.length:Int):=by omega
 have aeR:0<e.aA.length:=by omega
 have ahA:(1:Int)<(e.aA.length:Int):=by omega
 have ahB:1<e.aA.length:=by omega
 generalize e.op=op at *;generalize e.aA.length=nk at *;generalize Ip op=fa at HT;generalize vP op=fb at HT YS;generalize zG op=fc at HT YS;obtain⟨SG,hSG,eS⟩:=jq (sZ op);rw[eS] at HT;rw[← hSG] at YS
 have hl2:acc.length+(rF fb (x.op,x.text)).length+1+SG.size+1+(rF fc (z.op,z.text)).length≤1099511627776:=by
  have:=congrArg List.length YS.out;simp only[bN,dR,gX,aR] at this;omega
 have HB1:=ay hb1;have HN:=ay hN;clear hb1 hN hkn hSG eS hln h7 h20;go_enter Tryz.func124,Tryz.ntmps124
 go_upto_region 1 with fail
 change Code.wp _ _ _ _ (w.alloc (.cells (aQ op ⟨e.name.toArray⟩ ⟨e.module.toArray⟩ (decide (e.num<0)) (.slice am wn cm) e.yes (.slice ae nk ce) e.at_) 64));generalize w.alloc _=w1 at hal HN HB1 xH ⊢;have hB1:=jc hB hal.size;obtain⟨y0,y1,y2,y3,y4,y5,y6,y7⟩:=aI HN.out
 go_upto_region 2 with fail
 go_upto_region 3 with (go_at_call 204;refine(HT.out _).mono ?_;rintro r w2 ⟨rfl,hb2⟩)
 change Code.wp _ _ _ _ (w2.alloc (.cells #[.int .i64 fa,.int .i64 fb,.int .i64 fc,.string SG] 271));have s2:=(iD.start HB1.out).below hb2 hB1;have hF:=aY w2 (.cells #[.int .i64 fa,.int .i64 fb,.int .i64 fc,.string SG] 271);have s3:=s2.below (aB w2 (.cells #[.int .i64 fa,.int .i64 fb,.int .i64 fc,.string SG] 271)) hB1;clear y0 y1 y2 y3 y4 y5 y6 y7;generalize w2.heap.size=fk at hF ⊢;generalize w2.alloc _=w3 at hF s3 ⊢;have hB3:=s3.kM.size;have s3d:=s3.drew;obtain⟨f0,f1,f2,f3⟩:=pW hF;obtain⟨-,-,-,-,-,-,y6,-⟩:=aI (s3.box HB1.out HN.out (by decide) (by decide));obtain⟨kb,off,Lx,LA,LB,LC,ck1,rfl,hkB,hE,x0,x1,x2,x3,x4,x5,x6,x7⟩:=Tp.out w3 ((xH.trans s3.kM).mono mM);simp only[Nat.zero_mul,Nat.add_zero] at x0 x1 x2 x3 x4 x5 x6 x7;have HC:=ay (HD0.out fb B B' b Lx LA LB LC ck1 _ w3.drew (hE.frame (aW.of (bI _ _).drew)) mM s3d.lu (show B'≤w3.heap.size by omega) (by omega));have Hl:=ay s3;have HF:=ay hF;clear hE Tp HD0 s3 s2 hF hb2 HT
 go_still_tail 7,(by kernel_rfl)
 change wpList _ _ _ _ _ w3.drew;clear y6 x0 x1 x2 x3 x4 x5 x6 x7 f0 f1 f2 f3
 go_upto_region 4 with (go_at_call 201;refine HC.out.mono ?_;rintro r w4 h4;obtain rfl:=h4.eq)
 have s4:=s3d.write h4;have hB4:=s4.kM.size;have F4:=s3d.lu.block h4.2.2.2 HF.out (by decide) (by decide);obtain⟨f0,f1,f2,f3⟩:=pW F4;clear h4 s3d HC
 go_upto_region 5 with (go_at_call 123;refine(xq ⟨#[32]⟩ SG ⟨#[32]⟩ B' b _ w4 s4.lu (by omega) (by show List.length _+1+SG.size+1≤_;rw[bN];omega)).mono ?_;rintro r w5 h5;obtain rfl:=h5.eq)
 have s5:=s4.write h5;have hB5:=s5.kM.size;have F5:=s4.lu.block h5.2.2.2 F4 (by decide) (by decide);have s5d:=s5.drew;clear f0 f1 f2 f3 h5 s4 F4;obtain⟨f0,f1,f2,f3⟩:=pW F5;obtain⟨-,-,-,-,-,-,y6,-⟩:=aI (s5.box HB1.out HN.out (by decide) (by decide));obtain⟨kb1,off1,KC,KD,KE,ak2,ck2,hkk,ahC,hE,x0,x1,x2,x3,x4,x5,x6,x7⟩:=HK1.out w5 ((xH.trans s5.kM).mono mM);simp only[Option.some.injEq,Addr.mk.injEq,and_true] at hkk;obtain⟨rfl,rfl⟩:=hkk;simp only[Nat.one_mul] at x0 x1 x2 x3 x4 x5 x6 x7;have HC:=ay (HD1.out fc B B' b KC KD KE ak2 ck2 _ w5.drew (hE.frame (aW.of (bI _ _).drew)) mM s5d.lu (show B'≤w5.heap.size by omega) (by show List.length (_++(([32]:List UInt8)++(SG.data.toList++[32])))+_≤_;simp only[bN,aR,dR,gX];omega));have Oi:=ay s5d;clear hE HK1 HD1 s5 s5d F5;go_wp2
 go_still_tail 7,(by kernel_rfl)
 change wpList _ _ _ _ _ w5.drew;clear y6 x0 x1 x2 x3 x4 x5 x6 x7 f0 f1 f2 f3;go_wp2_with (go_at_call 201;refine HC.out.mono ?_;rintro r w6 h6;obtain rfl:=h6.eq)
 go_end0
 have:=bQ.from hal hB (Oi.out.write h6)
 rw[YS.out]
 simpa [nQ] using this
theorem xu {fm:Bool}:∀ (n:Nat) (e:PZ),SizeOf.sizeOf e<n→e.right fm=true→e.fit→Rl e
 | 0,_,h,_,_=>absurd h (by omega)
 | n+1,e,hs,hr,hf=>by
  have R:=PZ.Kt hr;obtain⟨f1,f2,f3,f4,f5⟩:=PZ.kT hf
  have ih:∀ x∈e.aA,Bq x:=fun x hx=>abL x (xu n x (by have:=e.iT x hx;omega) (R.aA x hx) (f5 x hx))
  intro B B' b am wn cm ae ce acc w h mM hbd hB hn
  have E:Cy e B B' b am wn cm ae ce acc w:=⟨h.Ob,ih,mM,hbd,hB,hn,h.form.1,f3,f4⟩
  have F:(1≤e.op∧e.op≤4)∨((e.op=5∨e.op=6)∧e.aA.length=1)∨(7≤e.op∧e.op≤20∧e.aA.length=2)∨(e.op=21∧e.aA.length=3)∨(e.op=22∧e.aA.length=2)∨(e.op=23∧e.aA.length=2)∨(e.op=24∧e.aA.length≤8):=by
   have F:=R.form;generalize e.op=op at F ⊢;generalize e.aA.length=c at F ⊢
   cases F<;>omega
  rcases F with ⟨h1,h2⟩|⟨h1,h2⟩|⟨h1,h2,h3⟩|⟨h1,h2⟩|⟨h1,h2⟩|⟨h1,h2⟩|⟨h1,h2⟩
  ·exact Rm E h1 h2
  ·exact Vx E h1 h2
  ·exact Vz E h1 h2 h3
  ·exact Vy E h1 h2
  ·exact Ro E h1 h2 f1
  ·exact Rn E h1 h2
  ·exact Rp E h1 h2 f1 f2
end Go.Proofs.YtmhdgeekclhbbaaGreatDoor

namespace Go.Proofs.YtmhdgeekclhbbaaGreatDoor
theorem zZ (n:Nat):0<(gN n).length:=by
 unfold gN
 split
 ·simp
 ·rw[bN];simp
theorem YU (n:Int):0<(jG n).length:=by
 rw[jG,bN];have:=zZ n.natAbs;omega
def Ends (r:List UInt8):Prop:=∀ c,r.head?=some c→aS c=false
theorem Ends.cons {c:UInt8}{r:List UInt8}(h:aS c=false):Ends (c :: r):=by
 intro d hd;simp only[List.head?_cons,Option.some.injEq] at hd;rw[← hd];exact h
theorem KF {c:UInt8}(h:aS c=false):aP c=false:=by
 simp only[aS,Bool.or_eq_false_iff] at h;exact h.1.2
theorem YV {k:Nat}(hk:k≠4){t r:List UInt8}(h:Ends r):rH k t r.head?=true:=by
 cases hr:r.head? with
 | none=>rfl
 | some c =>
  have:=h c hr;rw[rH,if_neg hk]
  split
  ·rw[KF this];rfl
  ·rw[this];rfl
def Jg (t:List UInt8):Bool:=t.all aS && (t.headD 0 |> cZ) && decide (0<t.length) && decide (t.length≤40) && decide (t ∉ lD)
theorem oH {w:List UInt8}(h:bf w=true):Jg w=true:=by
 unfold bf at h
 cases hl:bO w with
 | error x=>rw[hl] at h;cases h
 | ok l =>
  rw[hl] at h
  match l,h with
  | [t,x],h =>
   simp only[Bool.and_eq_true,decide_eq_true_eq] at h;obtain⟨h1,h2⟩:=h;unfold bO at hl
   split at hl
   ·cases hl
   ·unfold kX at hl
    dsimp only at hl
    split at hl
    ·cases hl
    ·rename_i he
     split at hl
     ·injection hl with hl;cases hl
     ·split at hl
      ·cases hl
      ·injection hl with hl
       have ht:=(List.cons.inj hl).1
       have hk:(bR (w.drop (bE false w))).1=1:=by rw[← ht] at h1;exact h1
       have htx:(w.drop (bE false w)).take (bR (w.drop (bE false w))).2.1=w:=by rw[← ht] at h2;exact h2
       have hp:=vF (w.drop (bE false w)) (by simpa using he) (by rw[hk];decide);have hlen:=congrArg List.length htx;rw[qZ,List.length_drop] at hlen;have hle:=vE (w.drop (bE false w));rw[List.length_drop] at hle
       have hk0:bE false w=0:=by omega
       rw[hk0,List.drop_zero] at hk htx he hle;rw[hk0] at hlen
       have hwl:(bR w).2.1=w.length:=by rw[List.drop_zero] at hlen;omega
       cases w with
       | nil=>simp[bR] at hk
       | cons c r =>
        rw[bR] at hk hwl
        by_cases hc:cZ c=true
        ·rw[if_pos hc] at hk hwl
         unfold jm at hk hwl;simp only at hk hwl
         split at hk
         ·cases hk
         ·rename_i Pw
          rw[if_neg Pw] at hwl
          split at hk
          ·cases hk
          ·rename_i hkey
           rw[if_neg hkey] at hwl;simp only at hwl;have hall:(c :: r).takeWhile aS=c :: r:=(List.takeWhile_prefix aS).eq_of_length hwl;rw[hall] at Pw hkey
           have ha:(c :: r).all aS=true:=by rw[← hall];exact List.all_takeWhile
           simp only[Jg,Bool.and_eq_true,decide_eq_true_eq];exact⟨⟨⟨⟨ha,hc⟩,by simp⟩,by omega⟩,hkey⟩
        ·rw[if_neg hc] at hk
         split at hk
         ·unfold jD at hk
          simp only at hk
          split at hk<;>cases hk
         ·unfold xX at hk
          split at hk<;>cases hk
  | [],h=>cases h
  | [_],h=>cases h
  | _ :: _ :: _ :: _,h=>cases h
theorem YW (t:List UInt8):nM (YC t)=(t.all aP && decide (0<t.length) && decide (t.length≤60) && (decide (t.length=1) || !decide (t[0]?=some 48))):=rfl
theorem adj (t:List UInt8):nM ⟨[],1,t⟩=(t.all aS && cZ (t.headD 0) && decide (0<t.length) && decide (t.length≤40) && decide (1=if t∈lD then 2 else 1)):=rfl
theorem uM {t:List UInt8}(h:Jg t=true):eF t=⟨[],1,t⟩∧nM (eF t)=true:=by
 simp only[Jg,Bool.and_eq_true,decide_eq_true_eq] at h
 have e:eF t=⟨[],1,t⟩:=by rw[eF,if_neg h.2]
 refine⟨e,?_⟩;rw[e,adj];simp only[Bool.and_eq_true,decide_eq_true_eq];exact⟨⟨⟨⟨h.1.1.1.1,h.1.1.1.2⟩,h.1.1.2⟩,h.1.2⟩,by rw[if_neg h.2]⟩
theorem VA:∀ t∈lD,nM (eF t)=true:=by decide
theorem tO:∀ t∈iK,nM (pV t)=true:=by decide
theorem VB {n:Nat}:(gN n).all aP=true:=by
 induction n using Nat.strongRecOn with
 | ind n ih =>
  rw[gN]
  split
  ·have:∀ k:Fin 10,aP (UInt8.ofNat (48+k.val))=true:=by decide
   have:=this ⟨n,by omega⟩
   simpa using this
  ·rename_i h
   rw[List.all_append,ih (n / 10) (by omega),Bool.true_and]
   have:∀ k:Fin 10,aP (UInt8.ofNat (48+k.val))=true:=by decide
   have:=this ⟨n % 10,by omega⟩
   simpa using this
theorem YX {n:Nat}:(gN n).length=1∨(gN n)[0]?≠some 48:=by
 induction n using Nat.strongRecOn with
 | ind n ih =>
  rw[gN]
  split
  ·left;simp
  ·rename_i h
   right
   have hp:=zZ (n / 10);rw[List.getElem?_append_left hp]
   rcases ih (n / 10) (by omega) with q|q
   ·intro q2
    have:n / 10<10:=by
     apply Classical.byContradiction
     intro q3;rw[gN,dif_neg (by omega)] at q;have:=zZ (n / 10 / 10);simp only[bN,dR,gX] at q;omega
    rw[gN,dif_pos this] at q2;simp only[dR,gX,Nat.zero_add,Nat.lt_add_one,yV,List.getElem_cons_zero,Option.some.injEq] at q2;have h2:=congrArg UInt8.toNat q2;rw[UInt8.toNat_ofNat'] at h2;simp at h2;omega
   ·exact q
theorem Jh {n:Int}(h0:0≤n)(Ay:(jG n).length≤60):nM (YC (jG n))=true:=by
 obtain⟨m,rfl⟩:=Int.eq_ofNat_of_zero_le h0;rw[zm] at Ay ⊢;rw[YW];simp only[Bool.and_eq_true,decide_eq_true_eq,Bool.or_eq_true,Bool.not_eq_true',decide_eq_false_iff_not];exact⟨⟨⟨VB,zZ m⟩,Ay⟩,YX⟩
theorem Bv {l:List Pc}{r:List UInt8}:Lu (yO l) r↔Lu l r:=by
 cases l with
 | nil=>exact Iff.rfl
 | cons p l =>
  rw[yO,Lu,Lu]
  have:nM ⟨32 :: p.lead,p.kind,p.text⟩=nM p:=by simp[nM,dB]
  rw[this]
theorem Fh {l:List Pc}(h:l≠[])(r:List UInt8):Ends (bq (yO l)++r):=by
 rw[fC h];exact Ends.cons (by decide)
theorem Ji (t:List UInt8)(h:t∈[[40],[41],[44],[46],[123],[125],[58],[59]])(c:Option UInt8):rH 4 t c=true:=by
 cases c with
 | none=>rfl
 | some c =>
  have:∀ t∈([[40],[41],[44],[46],[123],[125],[58],[59]]:List (List UInt8)),∀ n:Fin 256,rH 4 t (some (UInt8.ofNat n.val))=true:=by decide +kernel
  have h1:=this t h ⟨c.toNat,c.toNat_lt⟩;rw[UInt8.ofNat_toNat] at h1;exact h1
theorem Fj:∀ t∈iK,rH 4 t (some 32)=true:=by decide
theorem Rq {c:Option UInt8}(h:c≠some 45):rH 4 [45] c=true:=by
 cases c with
 | none=>rfl
 | some c =>
  have:∀ n:Fin 256,UInt8.ofNat n.val≠45→rH 4 [45] (some (UInt8.ofNat n.val))=true:=by decide +kernel
  have h1:=this ⟨c.toNat,c.toNat_lt⟩;rw[UInt8.ofNat_toNat] at h1
  exact h1 fun q=>h (by rw[q])
def gH (l:List Pc):Prop:=∀ r,Ends r→Lu l r
theorem gH.word {t:List UInt8}(h:nM (eF t)=true):gH [eF t]:=fun r hr=>⟨h,by
 have:(eF t).kind≠4:=by unfold eF;simp only;split<;>decide
 exact YV this hr,trivial⟩
theorem gH.key {t:List UInt8}(h:t∈lD):gH [eF t]:=gH.word (VA t h)
theorem gH.lQ {a b:List Pc}(h:gH a)(hb:gH b)(hne:b≠[]):gH (a++yO b):=fun r hr=>iZ.2 ⟨h _ (Fh hne r),Bv.2 (hb r hr)⟩
theorem gH.close {a:List Pc}(h:gH a)(t:List UInt8)(ht:t∈[[40],[41],[44],[46],[123],[125],[58],[59]])(hi:∀ x∈t,aS x=false):∀ r,Lu (a++[pV t]) r:=fun r=>by
 have hs:t∈iK:=by
  have:∀ t∈([[40],[41],[44],[46],[123],[125],[58],[59]]:List (List UInt8)),t∈iK:=by decide
  exact this t ht
 refine iZ.2 ⟨h _ ?_,tO t hs,Ji t ht _,trivial⟩;intro c hc
 cases t with
 | nil=>exact absurd hs (by decide)
 | cons x t=>simp[bq,pV] at hc;rw[← hc];exact hi x (by simp)
theorem YZ {l:List Pc}{r:List UInt8}(t:List UInt8)(ht:t∈[[40],[41],[44],[46],[123],[125],[58],[59]])(h:Lu l r):Lu (pV t :: l) r:=by
 have hs:t∈iK:=by
  have:∀ t∈([[40],[41],[44],[46],[123],[125],[58],[59]]:List (List UInt8)),t∈iK:=by decide
  exact this t ht
 exact⟨tO t hs,Ji t ht _,h⟩
theorem KG {least:Int}{k:Int × List Pc}(h:gH k.2):gH (C9 least k):=by
 intro r hr;unfold C9
 split
 ·exact YZ [40] (by decide) (h.close [41] (by decide) (by decide) r)
 ·exact h r hr
theorem Oj:∀ (es:List PZ),(∀ x∈es,gH x.sI∧x.sI≠[])→gH (qM (es.map PZ.sI))
 | [],_=>fun _ _=>trivial
 | [e],h=>(h e (by simp)).1
 | e :: f :: l,h=>by
  have ih:=Oj (f :: l) fun x hx=>h x (wM _ hx)
  have he:=(h e (by simp)).1;intro r hr;simp only[List.map_cons] at ih ⊢;rw[qM,show e.sI++pV [44] :: yO (qM (f.sI :: l.map PZ.sI))=(e.sI++[pV [44]])++yO (qM (f.sI :: l.map PZ.sI)) by simp];exact iZ.2 ⟨he.close [44] (by decide) (by decide) _,Bv.2 (ih r hr)⟩
theorem adk (nm md:List UInt8)(num:Int)(yes:Bool)(ks:List (Int × List Pc)):jR 2 nm md num yes ks=[eF (if yes=true then [116,114,117,101] else [102,97,108,115,101])]:=rfl
theorem Y3 (nm md:List UInt8)(num:Int)(yes:Bool)(ks:List (Int × List Pc)):jR 3 nm md num yes ks=[eF nm]:=rfl
theorem adl (nm md:List UInt8)(num:Int)(yes:Bool)(ks:List (Int × List Pc)):jR 4 nm md num yes ks=[eF [114,101,115]]:=rfl
theorem Y4 {e:PZ}{fm:Bool}(h:Fe fm e)(hne:e.sI≠[])(r:List UInt8):(bq (C9 9 (e.op,e.sI))++r).head?≠some 45:=by
 unfold C9
 split
 ·simp[bq,pV]
 ·rename_i hl
  have F:=h.form;simp only at hl;rw[e.Kr];have hnm:=h.names;have hv:=h.values;generalize hc:e.aA.length=c at F;generalize e.op=op at *
  cases F with
  | none h1 h2 =>
   have:op=1∨op=2∨op=3∨op=4:=by omega
   rcases this with rfl|rfl|rfl|rfl
   ·simp only[rV,if_pos,Bool.and_eq_true,decide_eq_true_eq] at hv
    have hp:=Jh hv.1.1 hv.1.2;rw[YW] at hp;simp only[Bool.and_eq_true] at hp;have hd:=hp.1.1.1;have hpos:=YU e.num;simp only[jR,if_pos,bq,YC]
    cases hi:jG e.num with
    | nil=>rw[hi] at hpos;simp at hpos
    | cons c r =>
     rw[hi,List.all_cons,Bool.and_eq_true] at hd;simp only[qc,jN,List.head?_cons,ne_eq,Option.some.injEq];exact(N7 c hd.1).2.2
   ·simp[jR,bq,eF];split<;>simp
   ·have hnm:bf e.name=true:=by
     simp only[kY] at hnm;rw[if_pos (by decide),Bool.and_eq_true] at hnm;exact hnm.1
    have hn:=oH hnm;simp only[Jg,Bool.and_eq_true] at hn;rw[Y3]
    cases hi:e.name with
    | nil=>rw[hi] at hn;simp at hn
    | cons c r =>
     rw[hi] at hn;simp only[bq,eF,qc,jN,List.head?_cons,ne_eq,Option.some.injEq];exact(Bh c hn.1.1.1.2).2.2
   ·simp[jR,bq,eF]
  | one h=>rcases h with rfl|rfl<;>exact absurd (by decide) hl
  | two h1 h2 =>
   exfalso
   apply hl
   unfold Ip;rw[if_neg (by omega),if_neg (by omega)]
   repeat (first|omega|(split;(first|omega|decide)))
  | iff=>exact absurd (by decide) hl
  | sO=>exact absurd (by decide) hl
  | sP=>exact absurd (by decide) hl
  | call h =>
   have hnm:bf e.name=true∧(e.module=[]∨bf e.module=true):=by
    simp only[kY] at hnm;rw[if_neg (by decide),if_pos trivial,Bool.and_eq_true,Bool.or_eq_true,decide_eq_true_eq] at hnm;exact hnm
   simp only[jR];simp only[if_neg,if_pos,show ¬ (24:Int)=1 by decide,show ¬ (24:Int)=2 by decide,show ¬ (24:Int)=3 by decide,show ¬ (24:Int)=4 by decide,show ¬ (24:Int)=5 by decide,show ¬ (24:Int)=6 by decide,show ¬ (24:Int)=21 by decide,show ¬ (24:Int)=22 by decide,show ¬ (24:Int)=23 by decide,not_false_eq_true]
   have key:∀ w,bf w=true→∀ l,(w++l).head?≠some 45:=by
    intro w hw l;have hn:=oH hw;simp only[Jg,Bool.and_eq_true] at hn
    cases w with
    | nil=>simp at hn
    | cons c r =>
     simp only[jN,List.head?_cons,ne_eq,Option.some.injEq];exact(Bh c hn.1.1.1.2).2.2
   split
   ·simp only[qc,bq,eF,jN,nQ]
    exact key _ hnm.1 _
   ·rename_i hm
    have:=hnm.2.resolve_left hm;simp only[qc,bq,eF,jN,nQ];exact key _ this _
theorem Y5 {op:Int}(h1:7≤op)(h2:op≤20):sZ op∈iK∧sZ op∈qD:=by
 have:∀ k:Fin 14,sZ ((k.val+7:Nat):Int)∈iK∧sZ ((k.val+7:Nat):Int)∈qD:=by decide
 have h:=this ⟨(op - 7).toNat,by omega⟩;rw[show (((⟨(op - 7).toNat,by omega⟩:Fin 14).val+7:Nat):Int)=op by simp only;omega] at h;exact h
theorem PZ.acu {fm:Bool}:∀ (n:Nat) (e:PZ),SizeOf.sizeOf e<n→e.right fm=true→gH e.sI
 | 0,_,h,_=>absurd h (by omega)
 | n+1,e,hs,hr=>by
  have R:=PZ.Kt hr
  have ih:∀ x∈e.aA,gH x.sI∧x.sI≠[]:=fun x hx=>⟨PZ.acu n x (by have:=e.iT x hx;omega) (R.aA x hx),(PZ.bytes n x (by have:=e.iT x hx;omega) (R.aA x hx)).2⟩
  have hrk:∀ x∈e.aA,Fe fm x:=fun x hx=>PZ.Kt (R.aA x hx)
  have F:=R.form;rw[e.Kr]
  have hk:∀ i,(h:i<e.aA.length)→(He e.aA).getD i (0,[])=(e.aA[i].op,e.aA[i].sI)∧gH e.aA[i].sI∧e.aA[i].sI≠[]:=fun i h=>⟨N8 h,ih _ (mX h)⟩
  have hm:(He e.aA).map Prod.snd=e.aA.map PZ.sI:=by rw[zX];simp
  have hcm:=Oj e.aA ih;have hnm:=R.names;have hv:=R.values;generalize e.aA=ks at *;generalize hn:ks.length=c at F;generalize e.op=op at *
  cases F with
  | none h1 h2 =>
   have:op=1∨op=2∨op=3∨op=4:=by omega
   rcases this with rfl|rfl|rfl|rfl
   ·simp only[rV,if_pos,Bool.and_eq_true,decide_eq_true_eq] at hv
    simp only[jR,if_pos]
    exact fun r hr=>⟨Jh hv.1.1 hv.1.2,YV (by show (3:Nat)≠4;decide) hr,trivial⟩
   ·rw[adk]
    split
    ·exact gH.key (by decide)
    ·exact gH.key (by decide)
   ·simp only[kY] at hnm
    rw[if_pos (by decide),Bool.and_eq_true] at hnm;rw[Y3];exact gH.word (uM (oH hnm.1)).2
   ·rw[adl]
    exact gH.key (by decide)
  | one h =>
   obtain⟨a1,a2,a3⟩:=hk 0 (by omega);have agi:=hrk _ (mX (show 0<ks.length by omega))
   rcases h with rfl|rfl
   ·simp only[jR]
    simp only[if_neg,if_pos,show ¬ (5:Int)=1 by decide,show ¬ (5:Int)=2 by decide,show ¬ (5:Int)=3 by decide,show ¬ (5:Int)=4 by decide,not_false_eq_true];rw[a1]
    exact fun r hr=>⟨tO [45] (by decide),Rq (Y4 agi a3 r),KG (k:=(ks[0].op,ks[0].sI)) a2 r hr⟩
   ·simp only[jR]
    simp only[if_neg,if_pos,show ¬ (6:Int)=1 by decide,show ¬ (6:Int)=2 by decide,show ¬ (6:Int)=3 by decide,show ¬ (6:Int)=4 by decide,show ¬ (6:Int)=5 by decide,not_false_eq_true];rw[a1];exact(gH.key (t:=[110,111,116]) (by decide)).lQ (KG (k:=(ks[0].op,ks[0].sI)) a2) (Dp a3)
  | two h1 h2 =>
   obtain⟨a1,a2,a3⟩:=hk 0 (by omega);obtain⟨b1,b2,b3⟩:=hk 1 (by omega)
   have e1:∀ k:Int,(k≤6∨21≤k)→¬ op=k:=fun k hk q=>by omega
   simp only[jR];rw[if_neg (e1 1 (by omega)),if_neg (e1 2 (by omega)),if_neg (e1 3 (by omega)),if_neg (e1 4 (by omega)),if_neg (e1 5 (by omega)),if_neg (e1 6 (by omega)),if_neg (e1 21 (by omega)),if_neg (e1 22 (by omega)),if_neg (e1 23 (by omega)),if_neg (e1 24 (by omega)),a1,b1];have hs:=(Y5 h1 h2).1;have hpb:=Dp (least:=zG op) (k:=(ks[1].op,ks[1].sI)) b3;intro r hr;refine iZ.2 ⟨KG (k:=(ks[0].op,ks[0].sI)) a2 _ ?_,iZ.2 ⟨Bv.2 ⟨tO _ hs,?_,trivial⟩,Bv.2 (KG (k:=(ks[1].op,ks[1].sI)) b2 r hr)⟩⟩
   ·rw[dI,fC (by simp)]
    exact Ends.cons (by decide)
   ·rw[bq,qc,fC hpb]
    exact Fj _ hs
  | iff =>
   obtain⟨a1,a2,a3⟩:=hk 0 (by omega);obtain⟨b1,b2,b3⟩:=hk 1 (by omega);obtain⟨c1,c2,c3⟩:=hk 2 (by omega);simp only[jR];simp only[if_neg,if_pos,show ¬ (21:Int)=1 by decide,show ¬ (21:Int)=2 by decide,show ¬ (21:Int)=3 by decide,show ¬ (21:Int)=4 by decide,show ¬ (21:Int)=5 by decide,show ¬ (21:Int)=6 by decide,not_false_eq_true];rw[a1,b1,c1]
   have:=((((gH.key (t:=[105,102]) (by decide)).lQ a2 a3).lQ (gH.key (t:=[116,104,101,110]) (by decide)) (by simp)).lQ b2 b3).lQ (gH.key (t:=[101,108,115,101]) (by decide)) (by simp) |>.lQ c2 c3
   simpa using this
  | sO =>
   obtain⟨a1,a2,a3⟩:=hk 0 (by omega);obtain⟨b1,b2,b3⟩:=hk 1 (by omega);simp only[kY] at hnm;rw[if_pos (by decide),Bool.and_eq_true] at hnm;simp only[jR];simp only[if_neg,if_pos,show ¬ (22:Int)=1 by decide,show ¬ (22:Int)=2 by decide,show ¬ (22:Int)=3 by decide,show ¬ (22:Int)=4 by decide,show ¬ (22:Int)=5 by decide,show ¬ (22:Int)=6 by decide,show ¬ (22:Int)=21 by decide,not_false_eq_true];rw[a1,b1];have hq:=(gH.key (t:=[108,101,116]) (by decide)).lQ (gH.word (uM (oH hnm.1)).2) (by simp)
   have h1:gH ([eF [108,101,116]]++yO [eF e.name]++(yO [pV [61]]++yO ks[0].sI)):=fun r hr=>iZ.2 ⟨hq _ (by
     rw[dI,fC (by simp)]
     exact Ends.cons (by decide)),iZ.2 ⟨Bv.2 ⟨tO [61] (by decide),by rw[bq,qc,fC a3];exact Fj [61] (by decide),trivial⟩,Bv.2 (a2 r hr)⟩⟩
   have:=(h1.lQ (gH.key (t:=[105,110]) (by decide)) (by simp)).lQ b2 b3
   simpa using this
  | sP =>
   obtain⟨a1,a2,a3⟩:=hk 0 (by omega);obtain⟨b1,b2,b3⟩:=hk 1 (by omega);simp only[jR];simp only[if_neg,if_pos,show ¬ (23:Int)=1 by decide,show ¬ (23:Int)=2 by decide,show ¬ (23:Int)=3 by decide,show ¬ (23:Int)=4 by decide,show ¬ (23:Int)=5 by decide,show ¬ (23:Int)=6 by decide,show ¬ (23:Int)=21 by decide,show ¬ (23:Int)=22 by decide,not_false_eq_true];rw[a1,b1];have:=(((gH.key (t:=[97,115,115,101,114,116]) (by decide)).lQ a2 a3).lQ (gH.key (t:=[105,110]) (by decide)) (by simp)).lQ b2 b3
   simpa using this
  | call h =>
   simp only[kY] at hnm;rw[if_neg (by decide),if_pos trivial,Bool.and_eq_true,Bool.or_eq_true,decide_eq_true_eq] at hnm;simp only[jR];simp only[if_neg,if_pos,show ¬ (24:Int)=1 by decide,show ¬ (24:Int)=2 by decide,show ¬ (24:Int)=3 by decide,show ¬ (24:Int)=4 by decide,show ¬ (24:Int)=5 by decide,show ¬ (24:Int)=6 by decide,show ¬ (24:Int)=21 by decide,show ¬ (24:Int)=22 by decide,show ¬ (24:Int)=23 by decide,not_false_eq_true];rw[hm];intro r hr
   have h1:Lu ([eF e.name,pV [40]]++(qM (ks.map PZ.sI)++[pV [41]])) r:=by
    refine iZ.2 ⟨?_,hcm.close [41] (by decide) (by decide) r⟩;have:=(gH.word (uM (oH hnm.1)).2).close [40] (by decide) (by decide);exact this _
   split
   ·exact h1
   ·rename_i hmd
    refine iZ.2 ⟨?_,h1⟩;have:=(gH.word (uM (oH (hnm.2.resolve_left hmd))).2).close [46] (by decide) (by decide);exact this _
