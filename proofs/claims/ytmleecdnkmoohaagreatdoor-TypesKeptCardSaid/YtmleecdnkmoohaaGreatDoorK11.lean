/- Walks and plain laws, without a condition. -/
import Derived.Test.YtmleecdnkmoohaaGreatDoorK10
set_option maxHeartbeats 16000000
set_option maxRecDepth 100000
set_option linter.unusedVariables false
set_option linter.unusedSimpArgs false
namespace Go.Proofs.YtmleecdnkmoohaaGreatDoor
open Go.RowKit Go
variable{op:Int}{w:World}{acc:aH}{ce wn cm B B' b:Nat}{ae am:Option Addr}{e:PZ}
theorem agh (h1:7<=op)(h2:op<=20):(op == 1)=false/\(op == 2)=false/\(op == 3)=false/\(op == 4)=false/\(op == 5)=false/\(op == 6)=false/\(op == 21)=false/\(op == 22)=false/\(op == 23)=false/\(op == 24)=false:=by
 refine⟨?_,?_,?_,?_,?_,?_,?_,?_,?_,?_⟩<;>exact Ea.2 (by omega)
theorem VK (h1:7<=op)(h2:op<=20)(nm md:aH)(num:Int)(yes:Bool)(ks:List (Int × aH)):oq op nm md num yes ks=rU (vY op) (ks.getD 0 (0,[]))++[32]++zW op++[32]++rU (CG op) (ks.getD 1 (0,[])):=by
 have e1:∀ k:Int,(k<=6\/21<=k)->¬ op=k:=λk hk q=>by omega
 unfold oq;rw[aU (e1 1 (by omega)),aU (e1 2 (by omega)),aU (e1 3 (by omega)),aU (e1 4 (by omega)),aU (e1 5 (by omega)),aU (e1 6 (by omega)),aU (e1 21 (by omega)),aU (e1 22 (by omega)),aU (e1 23 (by omega)),aU (e1 24 (by omega))]
structure CX (e:PZ) (B B' b:Nat) (am:Option Addr) (wn cm:Nat) (ae:Option Addr) (ce:Nat) (acc:aH) (w:World):Prop where
 aB:kV B w ae e.aB
 does:∀ x∈e.aB,BL x
 mZ:B<=B'
 lU:lV B' b acc w 225
 hB:B'<=w.heap.size
 len:acc.length+e.text.length<=1099511627776
 num:nP (λk=>k<B) w e.num (.slice am wn cm)
 big:e.num.natAbs<10 ^ 60
 few:e.aB.length<=65536
theorem Ru (E:CX e B B' b am wn cm ae ce acc w)(h1:1<=e.op)(h4:e.op<=4) :
  Calls Tryz.prog 184 #[.pointer (some ⟨b,0,none⟩),.agg #[.int .i64 e.op,.string ⟨e.name.toArray⟩,.string ⟨e.module.toArray⟩,.bool (decide (e.num<0)),.slice am wn cm,.bool e.yes,.slice ae e.aB.length ce,.int .i64 e.at_]] w (bS B' b (acc++e.text) w):=by
 have hal:=aA w (.cells (aR e.op ⟨e.name.toArray⟩ ⟨e.module.toArray⟩ (decide (e.num<0)) (.slice am wn cm) e.yes (.slice ae e.aB.length ce) e.at_) 60);have hN:=aX w (.cells (aR e.op ⟨e.name.toArray⟩ ⟨e.module.toArray⟩ (decide (e.num<0)) (.slice am wn cm) e.yes (.slice ae e.aB.length ce) e.at_) 60);have hb1:=E.lU.mE hal;have hB:=E.hB;have hln:=E.len;have HST:=ay (λW (hW:Below w.heap.size w W)=>NP (λk=>k<B) am wn cm e.num W (XA.frame E.num (aW.of hW)) E.big);have htd:=e.pY;clear E;generalize e.text=out at *;obtain⟨TX,hTX,eT⟩:=jD (lS e.num);rw[show lS e.num=TX.data.toList from hTX.symm] at HST
 have HST:Hid (∀ W,Below w.heap.size w W->Calls Tryz.prog 60 #[.agg #[.bool (decide (e.num<0)),.slice am wn cm]] W λr w'=>r=.returned (.string TX)/\Below W.heap.size W w'):=ay λW hW=>(HST.out W hW).mono λr w' q=>⟨by rw[q.1],q.2⟩
 have La:=ay hTX;have VL:=ay htd;clear hTX eT htd;generalize hop:e.op=op at *;have HB1:=ay hb1;have HN:=ay hN;clear hb1 hN
 have:op=1\/op=2\/op=3\/op=4:=by omega
 have key:∀ (S:ByteArray) (W:World),out=S.data.toList->Below w.heap.size w W->lV B' b acc W 225->Calls Tryz.prog 120 #[.pointer (some ⟨b,0,none⟩),.slice (some ⟨W.heap.size,0,none⟩) 1 1] (W.alloc (.cells #[.string S] 9)) λr w'=>r=.returned (.tuple #[])/\bS B' b (acc++out) w (.returned (.tuple #[])) w':=λS W hS hW hb =>
  (dO S B' b acc W hb (jq hB hW.size) (by rw[<- aY,<- hS];exact hln)).mono λr w' q=>⟨q.1,rfl,by rw[hS];exact q.2.1,(hW.mono hB).trans q.2.2.1,(rA hW).trans q.2.2.2⟩
 have HK:=ay key;clear key hop hln h1 h4
 rcases this with rfl|rfl|rfl|rfl
 ·have HO:Hid (out=TX.data.toList):=ay (by rw[VL.out];exact La.out.symm)
  go_enter Tryz.func184,Tryz.ntmps184
  go_upto_region 1 with fail
  change Code.wp _ _ _ _ (w.alloc (.cells (aR 1 ⟨e.name.toArray⟩ ⟨e.module.toArray⟩ (decide (e.num<0)) (.slice am wn cm) e.yes (.slice ae e.aB.length ce) e.at_) 60));generalize w.alloc _=w1 at hal HN HB1 |-;obtain⟨y0,y1,y2,y3,y4,y5,y6,y7⟩:=aI HN.out;go_wp2_with (first|(go_at_call 60;refine(HST.out _ hal).mono ?_;rintro r w2 ⟨rfl,hb2⟩)|(go_at_call 120;refine(HK.out TX w2 HO.out (hal.trans (hb2.mono hal.size)) (HB1.out.mE hb2)).mono ?_;rintro r w3 ⟨rfl,h3⟩))
  go_end0
  exact h3
 ·cases hy:e.yes with
  | true =>
   have HO:Hid (out=(ByteArray.mk #[116,114,117,101]).data.toList):=ay (by rw[VL.out,hy];rfl);rw[hy] at HN HB1 hal;clear hy;go_enter Tryz.func184,Tryz.ntmps184
   go_upto_region 1 with fail
   change Code.wp _ _ _ _ (w.alloc (.cells (aR 2 ⟨e.name.toArray⟩ ⟨e.module.toArray⟩ (decide (e.num<0)) (.slice am wn cm) true (.slice ae e.aB.length ce) e.at_) 60));generalize w.alloc _=w1 at hal HN HB1 |-;obtain⟨y0,y1,y2,y3,y4,y5,y6,y7⟩:=aI HN.out;go_wp2_with (go_at_call 120;refine(HK.out _ w1 HO.out hal HB1.out).mono ?_;rintro r w3 ⟨rfl,h3⟩)
   go_end0
   exact h3
  | false =>
   have HO:Hid (out=(ByteArray.mk #[102,97,108,115,101]).data.toList):=ay (by rw[VL.out,hy];rfl);rw[hy] at HN HB1 hal;clear hy;go_enter Tryz.func184,Tryz.ntmps184
   go_upto_region 1 with fail
   change Code.wp _ _ _ _ (w.alloc (.cells (aR 2 ⟨e.name.toArray⟩ ⟨e.module.toArray⟩ (decide (e.num<0)) (.slice am wn cm) false (.slice ae e.aB.length ce) e.at_) 60));generalize w.alloc _=w1 at hal HN HB1 |-;obtain⟨y0,y1,y2,y3,y4,y5,y6,y7⟩:=aI HN.out;go_wp2_with (go_at_call 120;refine(HK.out _ w1 HO.out hal HB1.out).mono ?_;rintro r w3 ⟨rfl,h3⟩)
   go_end0
   exact h3
 ·have HO:Hid (out=(ByteArray.mk e.name.toArray).data.toList):=ay (by rw[VL.out];rfl)
  go_enter Tryz.func184,Tryz.ntmps184
  go_upto_region 1 with fail
  change Code.wp _ _ _ _ (w.alloc (.cells (aR 3 ⟨e.name.toArray⟩ ⟨e.module.toArray⟩ (decide (e.num<0)) (.slice am wn cm) e.yes (.slice ae e.aB.length ce) e.at_) 60));generalize w.alloc _=w1 at hal HN HB1 |-;obtain⟨y0,y1,y2,y3,y4,y5,y6,y7⟩:=aI HN.out;go_wp2_with (go_at_call 120;refine(HK.out _ w1 HO.out hal HB1.out).mono ?_;rintro r w3 ⟨rfl,h3⟩)
  go_end0
  exact h3
 ·have HO:Hid (out=(ByteArray.mk #[114,101,115]).data.toList):=ay (by rw[VL.out];rfl)
  go_enter Tryz.func184,Tryz.ntmps184
  go_upto_region 1 with fail
  change Code.wp _ _ _ _ (w.alloc (.cells (aR 4 ⟨e.name.toArray⟩ ⟨e.module.toArray⟩ (decide (e.num<0)) (.slice am wn cm) e.yes (.slice ae e.aB.length ce) e.at_) 60));generalize w.alloc _=w1 at hal HN HB1 |-;obtain⟨y0,y1,y2,y3,y4,y5,y6,y7⟩:=aI HN.out;go_wp2_with (go_at_call 120;refine(HK.out _ w1 HO.out hal HB1.out).mono ?_;rintro r w3 ⟨rfl,h3⟩)
  go_end0
  exact h3
theorem VN (E:CX e B B' b am wn cm ae ce acc w)(hop:e.op=5\/e.op=6)(hkn:e.aB.length=1) :
  Calls Tryz.prog 184 #[.pointer (some ⟨b,0,none⟩),.agg #[.int .i64 e.op,.string ⟨e.name.toArray⟩,.string ⟨e.module.toArray⟩,.bool (decide (e.num<0)),.slice am wn cm,.bool e.yes,.slice ae e.aB.length ce,.int .i64 e.at_]] w (bS B' b (acc++e.text) w):=by
 have hal:=aA w (.cells (aR e.op ⟨e.name.toArray⟩ ⟨e.module.toArray⟩ (decide (e.num<0)) (.slice am wn cm) e.yes (.slice ae e.aB.length ce) e.at_) 60);have hN:=aX w (.cells (aR e.op ⟨e.name.toArray⟩ ⟨e.module.toArray⟩ (decide (e.num<0)) (.slice am wn cm) e.yes (.slice ae e.aB.length ce) e.at_) 60);have hb1:=E.lU.mE hal;have hB:=E.hB;have mZ:=E.mZ;have hln:=E.len;have HD:=ay E.does;have HK:=ay E.aB;have yj:=hal.mono hB;have Lb:=E.few;have htd:=e.pY
 have hgt:∀ i,(h:i<e.aB.length)->(iU e.aB).getD i (0,[])=(e.aB[i].op,e.aB[i].text):=λi h=>mo h
 clear E;have h0:=hgt 0 (by omega);have HD0:=ay (HD.out _ (nH (by omega:0<e.aB.length)));have TK:=ay (λW hW=>HK.out.at (W:=W) hW (by omega:0<e.aB.length))
 have agi:e.op=5->e.text=([45]:aH)++rU 9 (e.aB[0].op,e.aB[0].text):=λq=>by rw[htd,q,<- h0];rfl
 have agj:e.op=6->e.text=([110,111,116,32]:aH)++rU 4 (e.aB[0].op,e.aB[0].text):=λq=>by rw[htd,q,<- h0];rfl
 have H5:=ay agi;have H6:=ay agj;clear htd agi agj hgt h0 HD HK;generalize e.aB[0]=x at *;generalize e.text=out at *
 have nK:(0:Int)<(e.aB.length:Int):=by omega
 have agf:0<e.aB.length:=by omega
 generalize hop':e.op=op at *;generalize e.aB.length=nk at *;have HB1:=ay hb1;have HN:=ay hN;clear hb1 hN hop' hkn
 rcases hop with rfl|rfl
 ·have HO:=ay (H5.out rfl)
  clear H5 H6
  have hl2:acc.length+1+(rU 9 (x.op,x.text)).length<=1099511627776:=by
   have:=congrArg List.length HO.out;simp only[bY,fu,jC] at this;omega
  clear hln;go_enter Tryz.func184,Tryz.ntmps184
  go_upto_region 1 with fail
  change Code.wp _ _ _ _ (w.alloc (.cells (aR 5 ⟨e.name.toArray⟩ ⟨e.module.toArray⟩ (decide (e.num<0)) (.slice am wn cm) e.yes (.slice ae nk ce) e.at_) 60));generalize w.alloc _=w1 at hal HN HB1 yj |-;have hB1:=jq hB hal.size;obtain⟨y0,y1,y2,y3,y4,y5,y6,y7⟩:=aI HN.out
  go_upto_region 18 with (go_at_call 120;refine(dO ⟨#[45]⟩ B' b acc w1 HB1.out hB1 (by show acc.length+1<=_;omega)).mono ?_;rintro r w2 h2;obtain rfl:=h2.eq)
  have s2:=(iK.start HB1.out).write h2;have hz2:=s2.kW.size;clear y0 y1 y2 y3 y4 y5 y6 y7 h2;obtain⟨-,-,-,-,-,-,y6,-⟩:=aI (s2.box HB1.out HN.out (by decide) (by decide));obtain⟨kb,off,qH,qI,qJ,Mf,ck1,rfl,hkB,hE,x0,x1,x2,x3,x4,x5,x6,x7⟩:=TK.out w2 ((yj.trans s2.kW).mono mZ);simp only[Nat.zero_mul,nZ] at x0 x1 x2 x3 x4 x5 x6 x7;have HC:=ay (HD0.out 9 B B' b qH qI qJ Mf ck1 _ w2 hE mZ s2.lU (by omega) (by show (acc++([45]:aH)).length+_<=_;simp only[bY,fu,jC];omega));have HS:=ay s2;clear hE TK HD0 s2;go_wp2_with (go_at_call 237;refine HC.out.mono ?_;rintro r w3 h3;obtain rfl:=h3.eq)
  go_end0
  have:=bS.from hal hB (HS.out.write h3)
  rw[HO.out]
  simpa [om] using this
 ·have HO:=ay (H6.out rfl)
  clear H5 H6
  have hl2:acc.length+4+(rU 4 (x.op,x.text)).length<=1099511627776:=by
   have:=congrArg List.length HO.out;simp only[bY,fu,jC] at this;omega
  clear hln;go_enter Tryz.func184,Tryz.ntmps184
  go_upto_region 1 with fail
  change Code.wp _ _ _ _ (w.alloc (.cells (aR 6 ⟨e.name.toArray⟩ ⟨e.module.toArray⟩ (decide (e.num<0)) (.slice am wn cm) e.yes (.slice ae nk ce) e.at_) 60));generalize w.alloc _=w1 at hal HN HB1 yj |-;have hB1:=jq hB hal.size;obtain⟨y0,y1,y2,y3,y4,y5,y6,y7⟩:=aI HN.out
  go_upto_region 21 with (go_at_call 120;refine(dO ⟨#[110,111,116,32]⟩ B' b acc w1 HB1.out hB1 (by show acc.length+4<=_;omega)).mono ?_;rintro r w2 h2;obtain rfl:=h2.eq)
  have s2:=(iK.start HB1.out).write h2;have hz2:=s2.kW.size;clear y0 y1 y2 y3 y4 y5 y6 y7 h2;obtain⟨-,-,-,-,-,-,y6,-⟩:=aI (s2.box HB1.out HN.out (by decide) (by decide));obtain⟨kb,off,qH,qI,qJ,Mf,ck1,rfl,hkB,hE,x0,x1,x2,x3,x4,x5,x6,x7⟩:=TK.out w2 ((yj.trans s2.kW).mono mZ);simp only[Nat.zero_mul,nZ] at x0 x1 x2 x3 x4 x5 x6 x7;have HC:=ay (HD0.out 4 B B' b qH qI qJ Mf ck1 _ w2 hE mZ s2.lU (by omega) (by show (acc++([110,111,116,32]:aH)).length+_<=_;simp only[bY,fu,jC];omega));have HS:=ay s2;clear hE TK HD0 s2;go_wp2_with (go_at_call 237;refine HC.out.mono ?_;rintro r w3 h3;obtain rfl:=h3.eq)
  go_end0
  have:=bS.from hal hB (HS.out.write h3)
  rw[HO.out]
  simpa [om] using this
theorem VO (E:CX e B B' b am wn cm ae ce acc w)(hop:e.op=21)(hkn:e.aB.length=3) :
  Calls Tryz.prog 184 #[.pointer (some ⟨b,0,none⟩),.agg #[.int .i64 e.op,.string ⟨e.name.toArray⟩,.string ⟨e.module.toArray⟩,.bool (decide (e.num<0)),.slice am wn cm,.bool e.yes,.slice ae e.aB.length ce,.int .i64 e.at_]] w (bS B' b (acc++e.text) w):=by
 have hal:=aA w (.cells (aR e.op ⟨e.name.toArray⟩ ⟨e.module.toArray⟩ (decide (e.num<0)) (.slice am wn cm) e.yes (.slice ae e.aB.length ce) e.at_) 60);have hN:=aX w (.cells (aR e.op ⟨e.name.toArray⟩ ⟨e.module.toArray⟩ (decide (e.num<0)) (.slice am wn cm) e.yes (.slice ae e.aB.length ce) e.at_) 60);have hb1:=E.lU.mE hal;have hB:=E.hB;have mZ:=E.mZ;have hln:=E.len;have HD:=ay E.does;have HK:=ay E.aB;have yj:=hal.mono hB;have Lb:=E.few;have htd:=e.pY
 have hgt:∀ i,(h:i<e.aB.length)->(iU e.aB).getD i (0,[])=(e.aB[i].op,e.aB[i].text):=λi h=>mo h
 clear E
 have hks:∃ l,e.aB=l/\l.length=3:=⟨_,rfl,hkn⟩
 obtain⟨l,hl,hll⟩:=hks
 have htx:e.text=dh [⟨#[105,102,32]⟩,⟨#[32,116,104,101,110,32]⟩,⟨#[32,101,108,115,101,32]⟩] e.aB:=by
  rw[htd,hop,hl]
  match l,hll with
  | [a,b,c],_=>simp[oq,dh,iU]
 have La:=ay htx
 have hl2:acc.length+(dh [⟨#[105,102,32]⟩,⟨#[32,116,104,101,110,32]⟩,⟨#[32,101,108,115,101,32]⟩] e.aB).length<=1099511627776:=by rw[<- htx];exact hln
 clear htd hgt hl hll htx hln;generalize e.text=out at *
 have CY:([⟨#[105,102,32]⟩,⟨#[32,116,104,101,110,32]⟩,⟨#[32,101,108,115,101,32]⟩]:List ByteArray).length<=e.aB.length:=by rw[hkn];decide
 have hP:=λ(acc':aH) (W:World) (sb:Nat) (hW:Below B' w W) (hb:lV B' b acc' W 225) (hs:W.heap[sb]?=some (.cells #[.string ⟨#[105,102,32]⟩,.string ⟨#[32,116,104,101,110,32]⟩,.string ⟨#[32,101,108,115,101,32]⟩] 9 (0,0))) (Y6:acc'.length+(dh [⟨#[105,102,32]⟩,⟨#[32,116,104,101,110,32]⟩,⟨#[32,101,108,115,101,32]⟩] e.aB).length<=1099511627776)=>BN 21 ⟨e.name.toArray⟩ ⟨e.module.toArray⟩ (decide (e.num<0)) am wn cm e.yes ae ce e.at_ e.aB [⟨#[105,102,32]⟩,⟨#[32,116,104,101,110,32]⟩,⟨#[32,101,108,115,101,32]⟩] CY (by decide) HD.out B B' b sb 3 (0,0) acc' W (λh0=>by
  obtain⟨kb,off,q1,q2,q3,q4⟩:=HK.out h0;have hb2:=hW.mono mZ;refine⟨kb,off,q1,q2,xw q3 hb2.size,λi hi=>?_⟩;obtain⟨Ef,wn',Eh,Le,Lf,q5,q6⟩:=q4 i hi
  exact⟨Ef,wn',Eh,Le,Lf,q5.frame (aW.rV hb2 λb hb=>hb),λj u hu=>(hb2.cell (p:=⟨kb,off+i * 8+j,none⟩) q2).trans (q6 j u hu)⟩) mZ hb hs (jq hB hW.size) Y6
 have HP:=ay hP;clear hP HD HK CY hkn;generalize dh [⟨#[105,102,32]⟩,⟨#[32,116,104,101,110,32]⟩,⟨#[32,101,108,115,101,32]⟩] e.aB=agk at *;generalize hop':e.op=op at *;subst hop;have HB1:=ay hb1;have HN:=ay hN;clear hb1 hN hop';go_enter Tryz.func184,Tryz.ntmps184
 go_upto_region 1 with fail
 change Code.wp _ _ _ _ (w.alloc (.cells (aR 21 ⟨e.name.toArray⟩ ⟨e.module.toArray⟩ (decide (e.num<0)) (.slice am wn cm) e.yes (.slice ae e.aB.length ce) e.at_) 60));generalize w.alloc _=w1 at hal HN HB1 yj |-;have hB1:=jq hB hal.size;obtain⟨y0,y1,y2,y3,y4,y5,y6,y7⟩:=aI HN.out;have cO:=aA w1 (.cells #[.string ⟨#[105,102,32]⟩,.string ⟨#[32,116,104,101,110,32]⟩,.string ⟨#[32,101,108,115,101,32]⟩] 9);have HP1:=ay (HP.out acc (w1.alloc (.cells #[.string ⟨#[105,102,32]⟩,.string ⟨#[32,116,104,101,110,32]⟩,.string ⟨#[32,101,108,115,101,32]⟩] 9)) w1.heap.size (yj.alloc hB1 _) (HB1.out.mE cO) (aX w1 _) hl2);go_wp2_with (go_at_call 238;refine HP1.out.mono ?_;rintro r w3 h3;obtain rfl:=h3.eq)
 go_end0
 rw[La.out]
 exact bS.from hal hB (((iK.start HB1.out).below cO hB1).write h3)
theorem Rv (E:CX e B B' b am wn cm ae ce acc w)(hop:e.op=23)(hkn:e.aB.length=2) :
  Calls Tryz.prog 184 #[.pointer (some ⟨b,0,none⟩),.agg #[.int .i64 e.op,.string ⟨e.name.toArray⟩,.string ⟨e.module.toArray⟩,.bool (decide (e.num<0)),.slice am wn cm,.bool e.yes,.slice ae e.aB.length ce,.int .i64 e.at_]] w (bS B' b (acc++e.text) w):=by
 have hal:=aA w (.cells (aR e.op ⟨e.name.toArray⟩ ⟨e.module.toArray⟩ (decide (e.num<0)) (.slice am wn cm) e.yes (.slice ae e.aB.length ce) e.at_) 60);have hN:=aX w (.cells (aR e.op ⟨e.name.toArray⟩ ⟨e.module.toArray⟩ (decide (e.num<0)) (.slice am wn cm) e.yes (.slice ae e.aB.length ce) e.at_) 60);have hb1:=E.lU.mE hal;have hB:=E.hB;have mZ:=E.mZ;have hln:=E.len;have HD:=ay E.does;have HK:=ay E.aB;have yj:=hal.mono hB;have Lb:=E.few;have htd:=e.pY
 have hgt:∀ i,(h:i<e.aB.length)->(iU e.aB).getD i (0,[])=(e.aB[i].op,e.aB[i].text):=λi h=>mo h
 clear E
 have hks:∃ l,e.aB=l/\l.length=2:=⟨_,rfl,hkn⟩
 obtain⟨l,hl,hll⟩:=hks
 have htx:e.text=dh [⟨#[97,115,115,101,114,116,32]⟩,⟨#[32,105,110,32]⟩] e.aB:=by
  rw[htd,hop,hl]
  match l,hll with
  | [a,b],_=>simp[oq,dh,iU]
 have La:=ay htx
 have hl2:acc.length+(dh [⟨#[97,115,115,101,114,116,32]⟩,⟨#[32,105,110,32]⟩] e.aB).length<=1099511627776:=by rw[<- htx];exact hln
 clear htd hgt hl hll htx hln;generalize e.text=out at *
 have CY:([⟨#[97,115,115,101,114,116,32]⟩,⟨#[32,105,110,32]⟩]:List ByteArray).length<=e.aB.length:=by rw[hkn];decide
 have hP:=λ(acc':aH) (W:World) (sb:Nat) (hW:Below B' w W) (hb:lV B' b acc' W 225) (hs:W.heap[sb]?=some (.cells #[.string ⟨#[97,115,115,101,114,116,32]⟩,.string ⟨#[32,105,110,32]⟩] 9 (0,0))) (Y6:acc'.length+(dh [⟨#[97,115,115,101,114,116,32]⟩,⟨#[32,105,110,32]⟩] e.aB).length<=1099511627776)=>BN 23 ⟨e.name.toArray⟩ ⟨e.module.toArray⟩ (decide (e.num<0)) am wn cm e.yes ae ce e.at_ e.aB [⟨#[97,115,115,101,114,116,32]⟩,⟨#[32,105,110,32]⟩] CY (by decide) HD.out B B' b sb 2 (0,0) acc' W (λh0=>by
  obtain⟨kb,off,q1,q2,q3,q4⟩:=HK.out h0;have hb2:=hW.mono mZ;refine⟨kb,off,q1,q2,xw q3 hb2.size,λi hi=>?_⟩;obtain⟨Ef,wn',Eh,Le,Lf,q5,q6⟩:=q4 i hi
  exact⟨Ef,wn',Eh,Le,Lf,q5.frame (aW.rV hb2 λb hb=>hb),λj u hu=>(hb2.cell (p:=⟨kb,off+i * 8+j,none⟩) q2).trans (q6 j u hu)⟩) mZ hb hs (jq hB hW.size) Y6
 have HP:=ay hP;clear hP HD HK CY hkn;generalize dh [⟨#[97,115,115,101,114,116,32]⟩,⟨#[32,105,110,32]⟩] e.aB=agk at *;generalize hop':e.op=op at *;subst hop;have HB1:=ay hb1;have HN:=ay hN;clear hb1 hN hop';go_enter Tryz.func184,Tryz.ntmps184
 go_upto_region 1 with fail
 change Code.wp _ _ _ _ (w.alloc (.cells (aR 23 ⟨e.name.toArray⟩ ⟨e.module.toArray⟩ (decide (e.num<0)) (.slice am wn cm) e.yes (.slice ae e.aB.length ce) e.at_) 60));generalize w.alloc _=w1 at hal HN HB1 yj |-;have hB1:=jq hB hal.size;obtain⟨y0,y1,y2,y3,y4,y5,y6,y7⟩:=aI HN.out;have cO:=aA w1 (.cells #[.string ⟨#[97,115,115,101,114,116,32]⟩,.string ⟨#[32,105,110,32]⟩] 9);have HP1:=ay (HP.out acc (w1.alloc (.cells #[.string ⟨#[97,115,115,101,114,116,32]⟩,.string ⟨#[32,105,110,32]⟩] 9)) w1.heap.size (yj.alloc hB1 _) (HB1.out.mE cO) (aX w1 _) hl2);go_wp2_with (go_at_call 238;refine HP1.out.mono ?_;rintro r w3 h3;obtain rfl:=h3.eq)
 go_end0
 rw[La.out]
 exact bS.from hal hB (((iK.start HB1.out).below cO hB1).write h3)
theorem Rw (E:CX e B B' b am wn cm ae ce acc w)(hop:e.op=22)(hkn:e.aB.length=2)(hnl:e.name.length<=65536) :
  Calls Tryz.prog 184 #[.pointer (some ⟨b,0,none⟩),.agg #[.int .i64 e.op,.string ⟨e.name.toArray⟩,.string ⟨e.module.toArray⟩,.bool (decide (e.num<0)),.slice am wn cm,.bool e.yes,.slice ae e.aB.length ce,.int .i64 e.at_]] w (bS B' b (acc++e.text) w):=by
 have hal:=aA w (.cells (aR e.op ⟨e.name.toArray⟩ ⟨e.module.toArray⟩ (decide (e.num<0)) (.slice am wn cm) e.yes (.slice ae e.aB.length ce) e.at_) 60);have hN:=aX w (.cells (aR e.op ⟨e.name.toArray⟩ ⟨e.module.toArray⟩ (decide (e.num<0)) (.slice am wn cm) e.yes (.slice ae e.aB.length ce) e.at_) 60);have hb1:=E.lU.mE hal;have hB:=E.hB;have mZ:=E.mZ;have hln:=E.len;have HD:=ay E.does;have HK:=ay E.aB;have yj:=hal.mono hB;have Lb:=E.few;have htd:=e.pY
 have hgt:∀ i,(h:i<e.aB.length)->(iU e.aB).getD i (0,[])=(e.aB[i].op,e.aB[i].text):=λi h=>mo h
 clear E
 have hks:∃ l,e.aB=l/\l.length=2:=⟨_,rfl,hkn⟩
 obtain⟨l,hl,hll⟩:=hks
 have htx:e.text=([108,101,116,32]:aH)++e.name++dh [⟨#[32,61,32]⟩,⟨#[32,105,110,32]⟩] e.aB:=by
  rw[htd,hop,hl]
  match l,hll with
  | [a,b],_=>simp[oq,dh,iU]
 have La:=ay htx
 have hl2:acc.length+4+e.name.length+(dh [⟨#[32,61,32]⟩,⟨#[32,105,110,32]⟩] e.aB).length<=1099511627776:=by
  rw[htx] at hln;simp only[bY,fu,jC] at hln;omega
 clear htd hgt hl hll htx hln;generalize e.text=out at *
 have CY:([⟨#[32,61,32]⟩,⟨#[32,105,110,32]⟩]:List ByteArray).length<=e.aB.length:=by rw[hkn];decide
 have hP:=λ(acc':aH) (W:World) (sb:Nat) (hW:Below B' w W) (hb:lV B' b acc' W 225) (hs:W.heap[sb]?=some (.cells #[.string ⟨#[32,61,32]⟩,.string ⟨#[32,105,110,32]⟩] 9 (0,0))) (Y6:acc'.length+(dh [⟨#[32,61,32]⟩,⟨#[32,105,110,32]⟩] e.aB).length<=1099511627776)=>BN 22 ⟨e.name.toArray⟩ ⟨e.module.toArray⟩ (decide (e.num<0)) am wn cm e.yes ae ce e.at_ e.aB [⟨#[32,61,32]⟩,⟨#[32,105,110,32]⟩] CY (by decide) HD.out B B' b sb 2 (0,0) acc' W (λh0=>by
  obtain⟨kb,off,q1,q2,q3,q4⟩:=HK.out h0;have hb2:=hW.mono mZ;refine⟨kb,off,q1,q2,xw q3 hb2.size,λi hi=>?_⟩;obtain⟨Ef,wn',Eh,Le,Lf,q5,q6⟩:=q4 i hi
  exact⟨Ef,wn',Eh,Le,Lf,q5.frame (aW.rV hb2 λb hb=>hb),λj u hu=>(hb2.cell (p:=⟨kb,off+i * 8+j,none⟩) q2).trans (q6 j u hu)⟩) mZ hb hs (jq hB hW.size) Y6
 have HP:=ay hP;clear hP HD HK CY hkn;generalize dh [⟨#[32,61,32]⟩,⟨#[32,105,110,32]⟩] e.aB=agk at *;generalize hop':e.op=op at *;subst hop;have HB1:=ay hb1;have HN:=ay hN;clear hb1 hN hop';go_enter Tryz.func184,Tryz.ntmps184
 go_upto_region 1 with fail
 change Code.wp _ _ _ _ (w.alloc (.cells (aR 22 ⟨e.name.toArray⟩ ⟨e.module.toArray⟩ (decide (e.num<0)) (.slice am wn cm) e.yes (.slice ae e.aB.length ce) e.at_) 60));generalize w.alloc _=w1 at hal HN HB1 yj |-;have hB1:=jq hB hal.size;obtain⟨y0,y1,y2,y3,y4,y5,y6,y7⟩:=aI HN.out
 go_upto_region 26 with (go_at_call 120;refine(xO ⟨#[108,101,116,32]⟩ ⟨e.name.toArray⟩ B' b acc w1 HB1.out hB1 (by show acc.length+4+e.name.toArray.size<=_;simp;omega)).mono ?_;rintro r w2 h2;obtain rfl:=h2.eq)
 have s2:=(iK.start HB1.out).write h2;have hz2:=s2.kW.size;clear y0 y1 y2 y3 y4 y5 y6 y7 h2;obtain⟨y0,y1,y2,y3,y4,y5,y6,y7⟩:=aI (s2.box HB1.out HN.out (by decide) (by decide));have cO:=aA w2 (.cells #[.string ⟨#[32,61,32]⟩,.string ⟨#[32,105,110,32]⟩] 9);have s3:=s2.below cO hB1;have HP1:=ay (HP.out _ (w2.alloc (.cells #[.string ⟨#[32,61,32]⟩,.string ⟨#[32,105,110,32]⟩] 9)) w2.heap.size (yj.trans s3.kW) s3.lU (aX w2 _) (by show (acc++(([108,101,116,32]:aH)++e.name)).length+_<=_;simp only[bY,fu,jC];omega));go_wp2_with (go_at_call 238;refine HP1.out.mono ?_;rintro r w3 h3;obtain rfl:=h3.eq)
 go_end0
 rw[La.out]
 have:=bS.from hal hB (s3.write h3)
 simpa [om] using this
theorem Rx (E:CX e B B' b am wn cm ae ce acc w)(hop:e.op=24)(hkn:e.aB.length<=8)(hnl:e.name.length<=65536)(hml:e.module.length<=65536) :
  Calls Tryz.prog 184 #[.pointer (some ⟨b,0,none⟩),.agg #[.int .i64 e.op,.string ⟨e.name.toArray⟩,.string ⟨e.module.toArray⟩,.bool (decide (e.num<0)),.slice am wn cm,.bool e.yes,.slice ae e.aB.length ce,.int .i64 e.at_]] w (bS B' b (acc++e.text) w):=by
 have hal:=aA w (.cells (aR e.op ⟨e.name.toArray⟩ ⟨e.module.toArray⟩ (decide (e.num<0)) (.slice am wn cm) e.yes (.slice ae e.aB.length ce) e.at_) 60);have hN:=aX w (.cells (aR e.op ⟨e.name.toArray⟩ ⟨e.module.toArray⟩ (decide (e.num<0)) (.slice am wn cm) e.yes (.slice ae e.aB.length ce) e.at_) 60);have hb1:=E.lU.mE hal;have hB:=E.hB;have mZ:=E.mZ;have hln:=E.len;have HD:=ay E.does;have HK:=ay E.aB;have yj:=hal.mono hB;have Lb:=E.few;have htd:=e.pY
 have hgt:∀ i,(h:i<e.aB.length)->(iU e.aB).getD i (0,[])=(e.aB[i].op,e.aB[i].text):=λi h=>mo h
 clear E
 have htx:e.text=(if (ByteArray.mk e.module.toArray).data.toList=[] then [] else (ByteArray.mk e.module.toArray).data.toList++[46])++(ByteArray.mk e.name.toArray).data.toList++[40]++bO (e.aB.map PZ.text)++[41]:=by
  rw[htd,hop,qX];simp only[oq,List.map_map]
  rfl
 have hC:=λ(W:World) (hW:Below B' w W) (hb:lV B' b acc W 225)=>Y5 e.op ⟨e.name.toArray⟩ ⟨e.module.toArray⟩ (decide (e.num<0)) am wn cm e.yes ae ce e.at_ e.aB HD.out B B' b acc W (by omega) (λh0=>by
  obtain⟨kb,off,q1,q2,q3,q4⟩:=HK.out h0;have hb2:=hW.mono mZ;refine⟨kb,off,q1,q2,xw q3 hb2.size,λi hi=>?_⟩;obtain⟨Ef,wn',Eh,Le,Lf,q5,q6⟩:=q4 i hi
  exact⟨Ef,wn',Eh,Le,Lf,q5.frame (aW.rV hb2 λb hb=>hb),λj u hu=>(hb2.cell (p:=⟨kb,off+i * 8+j,none⟩) q2).trans (q6 j u hu)⟩) mZ hb (jq hB hW.size) e.text htx hln
 have HC:=ay hC;clear hC htx htd hgt HD HK hln;generalize e.text=out at *;generalize hop':e.op=op at *;subst hop;have HB1:=ay hb1;have HN:=ay hN;clear hb1 hN hop';go_enter Tryz.func184,Tryz.ntmps184
 go_upto_region 1 with fail
 change Code.wp _ _ _ _ (w.alloc (.cells (aR 24 ⟨e.name.toArray⟩ ⟨e.module.toArray⟩ (decide (e.num<0)) (.slice am wn cm) e.yes (.slice ae e.aB.length ce) e.at_) 60));generalize w.alloc _=w1 at hal HN HB1 yj |-;have hB1:=jq hB hal.size;obtain⟨y0,y1,y2,y3,y4,y5,y6,y7⟩:=aI HN.out;have Jo:=ay (HC.out w1 yj HB1.out);go_wp2_with (go_at_call 239;refine Jo.out.mono ?_;rintro r w3 h3;obtain rfl:=h3.eq)
 go_end0
 exact bS.from hal hB ((iK.start HB1.out).write h3)
theorem VP (E:CX e B B' b am wn cm ae ce acc w)(h7:7<=e.op)(h20:e.op<=20)(hkn:e.aB.length=2) :
  Calls Tryz.prog 184 #[.pointer (some ⟨b,0,none⟩),.agg #[.int .i64 e.op,.string ⟨e.name.toArray⟩,.string ⟨e.module.toArray⟩,.bool (decide (e.num<0)),.slice am wn cm,.bool e.yes,.slice ae e.aB.length ce,.int .i64 e.at_]] w (bS B' b (acc++e.text) w):=by
 have hal:=aA w (.cells (aR e.op ⟨e.name.toArray⟩ ⟨e.module.toArray⟩ (decide (e.num<0)) (.slice am wn cm) e.yes (.slice ae e.aB.length ce) e.at_) 60);have hN:=aX w (.cells (aR e.op ⟨e.name.toArray⟩ ⟨e.module.toArray⟩ (decide (e.num<0)) (.slice am wn cm) e.yes (.slice ae e.aB.length ce) e.at_) 60);have hb1:=E.lU.mE hal;have hB:=E.hB;have mZ:=E.mZ;have hln:=E.len;have HD:=ay E.does;have HK:=ay E.aB;have yj:=hal.mono hB;have Lb:=E.few;have htd:=e.pY
 have hgt:∀ i,(h:i<e.aB.length)->(iU e.aB).getD i (0,[])=(e.aB[i].op,e.aB[i].text):=λi h=>mo h
 clear E;have h0:=hgt 0 (by omega);have h1:=hgt 1 (by omega);have HD0:=ay (HD.out _ (nH (by omega:0<e.aB.length)));have TK:=ay (λW hW=>HK.out.at (W:=W) hW (by omega:0<e.aB.length));have HD1:=ay (HD.out _ (nH (by omega:1<e.aB.length)));have HK1:=ay (λW hW=>HK.out.at (W:=W) hW (by omega:1<e.aB.length));rw[VK h7 h20,h0,h1] at htd;obtain⟨t1,t2,t3,t4,t5,t6,t21,t22,t23,t24⟩:=agh h7 h20;have HT:=ay (λW=>TI e.op h7 h20 W);have VL:=ay htd;clear hgt h0 h1 HD HK htd;generalize e.aB[0]=x at *;generalize e.aB[1]=z at *;generalize e.text=out at *
 have nK:(0:Int)<(e.aB.length:Int):=by omega
 have agf:0<e.aB.length:=by omega
 have ajd:(1:Int)<(e.aB.length:Int):=by omega
 have aje:1<e.aB.length:=by omega
 generalize e.op=op at *;generalize e.aB.length=nk at *;generalize KE op=fa at HT;generalize vY op=fb at HT VL;generalize CG op=fc at HT VL;obtain⟨SG,hSG,eS⟩:=jD (zW op);rw[eS] at HT;rw[<- hSG] at VL
 have hl2:acc.length+(rU fb (x.op,x.text)).length+1+SG.size+1+(rU fc (z.op,z.text)).length<=1099511627776:=by
  have:=congrArg List.length VL.out;simp only[bY,fu,jC,aY] at this;omega
 have HB1:=ay hb1;have HN:=ay hN;clear hb1 hN hkn hSG eS hln h7 h20;go_enter Tryz.func184,Tryz.ntmps184
 go_upto_region 1 with fail
 change Code.wp _ _ _ _ (w.alloc (.cells (aR op ⟨e.name.toArray⟩ ⟨e.module.toArray⟩ (decide (e.num<0)) (.slice am wn cm) e.yes (.slice ae nk ce) e.at_) 60));generalize w.alloc _=w1 at hal HN HB1 yj |-;have hB1:=jq hB hal.size;obtain⟨y0,y1,y2,y3,y4,y5,y6,y7⟩:=aI HN.out
 go_upto_region 2 with fail
 go_upto_region 3 with (go_at_call 240;refine(HT.out _).mono ?_;rintro r w2 ⟨rfl,hb2⟩)
 change Code.wp _ _ _ _ (w2.alloc (.cells #[.int .i64 fa,.int .i64 fb,.int .i64 fc,.string SG] 320));have s2:=(iK.start HB1.out).below hb2 hB1;have hF:=aX w2 (.cells #[.int .i64 fa,.int .i64 fb,.int .i64 fc,.string SG] 320);have s3:=s2.below (aA w2 (.cells #[.int .i64 fa,.int .i64 fb,.int .i64 fc,.string SG] 320)) hB1;clear y0 y1 y2 y3 y4 y5 y6 y7;generalize w2.heap.size=fk at hF |-;generalize w2.alloc _=w3 at hF s3 |-;have hB3:=s3.kW.size;have s3d:=s3.drew;obtain⟨f0,f1,f2,f3⟩:=qy hF;obtain⟨-,-,-,-,-,-,y6,-⟩:=aI (s3.box HB1.out HN.out (by decide) (by decide));obtain⟨kb,off,qH,qI,qJ,Mf,ck1,rfl,hkB,hE,x0,x1,x2,x3,x4,x5,x6,x7⟩:=TK.out w3 ((yj.trans s3.kW).mono mZ);simp only[Nat.zero_mul,nZ] at x0 x1 x2 x3 x4 x5 x6 x7;have HC:=ay (HD0.out fb B B' b qH qI qJ Mf ck1 _ w3.drew (hE.frame (aW.of (bQ _ _).drew)) mZ s3d.lU (show B'<=w3.heap.size by omega) (by omega));have IB:=ay s3;have HF:=ay hF;clear hE TK HD0 s3 s2 hF hb2 HT
 go_still_tail 7,(by kernel_rfl)
 change wpList _ _ _ _ _ w3.drew;clear y6 x0 x1 x2 x3 x4 x5 x6 x7 f0 f1 f2 f3
 go_upto_region 4 with (go_at_call 237;refine HC.out.mono ?_;rintro r w4 h4;obtain rfl:=h4.eq)
 have s4:=s3d.write h4;have hB4:=s4.kW.size;have F4:=s3d.lU.block h4.2.2.2 HF.out (by decide) (by decide);obtain⟨f0,f1,f2,f3⟩:=qy F4;clear h4 s3d HC
 go_upto_region 5 with (go_at_call 120;refine(xP ⟨#[32]⟩ SG ⟨#[32]⟩ B' b _ w4 s4.lU (by omega) (by show List.length _+1+SG.size+1<=_;rw[bY];omega)).mono ?_;rintro r w5 h5;obtain rfl:=h5.eq)
 have s5:=s4.write h5;have hB5:=s5.kW.size;have F5:=s4.lU.block h5.2.2.2 F4 (by decide) (by decide);have s5d:=s5.drew;clear f0 f1 f2 f3 h5 s4 F4;obtain⟨f0,f1,f2,f3⟩:=qy F5;obtain⟨-,-,-,-,-,-,y6,-⟩:=aI (s5.box HB1.out HN.out (by decide) (by decide));obtain⟨kb1,off1,jY,jZ,j3,ak2,ck2,hkk,ajf,hE,x0,x1,x2,x3,x4,x5,x6,x7⟩:=HK1.out w5 ((yj.trans s5.kW).mono mZ);simp only[Option.some.injEq,Addr.mk.injEq,and_true] at hkk;obtain⟨rfl,rfl⟩:=hkk;simp only[Nat.one_mul] at x0 x1 x2 x3 x4 x5 x6 x7;have HC:=ay (HD1.out fc B B' b jY jZ j3 ak2 ck2 _ w5.drew (hE.frame (aW.of (bQ _ _).drew)) mZ s5d.lU (show B'<=w5.heap.size by omega) (by show List.length (_++(([32]:aH)++(SG.data.toList++[32])))+_<=_;simp only[bY,aY,fu,jC];omega));have NZ:=ay s5d;clear hE HK1 HD1 s5 s5d F5;go_wp2
 go_still_tail 7,(by kernel_rfl)
 change wpList _ _ _ _ _ w5.drew;clear y6 x0 x1 x2 x3 x4 x5 x6 x7 f0 f1 f2 f3;go_wp2_with (go_at_call 237;refine HC.out.mono ?_;rintro r w6 h6;obtain rfl:=h6.eq)
 go_end0
 have:=bS.from hal hB (NZ.out.write h6)
 rw[VL.out]
 simpa [om] using this
theorem xQ {fm:Bool}:∀ (n:Nat) (e:PZ),SizeOf.sizeOf e<n->e.right fm=true->e.fit->Rs e
 | 0,_,h,_,_=>absurd h (by omega)
 | n+1,e,hs,hr,hf=>by
  have R:=PZ.YO hr;obtain⟨f1,f2,f3,f4,f5⟩:=PZ.uS hf
  have ih:∀ x∈e.aB,BL x:=λx hx=>acE x (xQ n x (by have:=e.wN x hx;omega) (R.aB x hx) (f5 x hx))
  intro B B' b am wn cm ae ce acc w h mZ hbd hB hn
  have E:CX e B B' b am wn cm ae ce acc w:=⟨h.adp,ih,mZ,hbd,hB,hn,h.form.1,f3,f4⟩
  have F:(1<=e.op/\e.op<=4)\/((e.op=5\/e.op=6)/\e.aB.length=1)\/(7<=e.op/\e.op<=20/\e.aB.length=2)\/(e.op=21/\e.aB.length=3)\/(e.op=22/\e.aB.length=2)\/(e.op=23/\e.aB.length=2)\/(e.op=24/\e.aB.length<=8):=by
   have F:=R.form;generalize e.op=op at F |-;generalize e.aB.length=c at F |-
   cases F<;>omega
  rcases F with ⟨h1,h2⟩|⟨h1,h2⟩|⟨h1,h2,h3⟩|⟨h1,h2⟩|⟨h1,h2⟩|⟨h1,h2⟩|⟨h1,h2⟩
  ·exact Ru E h1 h2
  ·exact VN E h1 h2
  ·exact VP E h1 h2 h3
  ·exact VO E h1 h2
  ·exact Rw E h1 h2 f1
  ·exact Rv E h1 h2
  ·exact Rx E h1 h2 f1 f2
end Go.Proofs.YtmleecdnkmoohaaGreatDoor

namespace Go.Proofs.YtmleecdnkmoohaaGreatDoor
end Go.Proofs.YtmleecdnkmoohaaGreatDoor

namespace Go.Proofs.YtmleecdnkmoohaaGreatDoor
variable{r t:aH}{c:UInt8}
def Ends (r:aH):Prop:=∀ c,r.head?=some c->bZ c=false
theorem Ends.cons (h:bZ c=false):Ends (c :: r):=by
 intro d hd;simp only[List.head?_cons,Option.some.injEq] at hd;rw[<- hd];exact h
theorem Li (h:bZ c=false):bI c=false:=by
 simp only[bZ,Bool.or_eq_false_iff] at h;exact h.1.2
theorem aeg {k:Nat}(hk:k≠4)(h:Ends r):aeb k t r.head?=true:=by
 cases hr:r.head? with
 | none=>rfl
 | some c =>
  have:=h c hr;rw[aeb,aU hk]
  split
  ·rw[Li this];rfl
  ·rw[this];rfl
theorem VQ:∀ t∈uF,Rc (jQ t)=true:=by decide
def N7 (l:List Pc):Prop:=∀ r,Ends r->okP l r
theorem N7.word (h:Rc (jQ t)=true):N7 [jQ t]:=λr hr=>⟨h,by
 have:(jQ t).kind≠4:=by unfold jQ;simp only;split<;>decide
 exact aeg this hr,trivial⟩
theorem N7.key (h:t∈uF):N7 [jQ t]:=N7.word (VQ t h)
open Go.RowKit Go
variable{ks:List PZ}{w:World}{B:Nat}{kv:Value}
theorem Y7 {T:TypeId}(B b:Nat)(acc:aH)(w:World)(h:lV B b acc w T)(h0:acc≠[]) :
  Calls Tryz.prog 123 #[.pointer (some ⟨b,0,none⟩)] w λe w'=>e=.returned (.string ⟨acc.toArray⟩)/\Below B w w':=by
 obtain⟨p,hB,v,hbk,hown,hne⟩:=h.at
 have hl0:acc.length≠0:=by simpa using h0
 rw[Lib.byteCells_length] at hown
 obtain⟨g,cap,cur,fz,rfl,hbg,hg,hfz,hnc,hcm,hcs,htake⟩:∃ g cap cur fz,v=.slice (some ⟨g,0,none⟩) acc.length cap/\B<=g/\w.heap[g]?=some (.cells cur 5 fz)/\fz.2<=acc.length * 1/\acc.length<=cap/\cap<=maxLen/\cur.size=cap * 1/\cur.toList.take (acc.length * 1)=Lib.byteCells acc:=by
  rcases hown.2 with ⟨_,hz⟩|⟨g,cap,cur,fz,hv,r⟩
  ·exact absurd hz hl0
  ·exact⟨g,cap,cur,fz,hv,r⟩
 have c1:w.drew.cell? ⟨b,1,none⟩=some (.slice (some ⟨g,0,none⟩) acc.length cap):=by
  have:w.drew.heap[b]?=some (.cells #[p,.slice (some ⟨g,0,none⟩) acc.length cap] T (0,0)):=hbk;rw[aZ this];rfl
 have hSD:(Builtin.unsafeSliceData_ #[195] 291 #[.slice (some ⟨g,0,none⟩) acc.length cap]).run Tryz.prog w.drew=.ok (.pointer (some ⟨g,0,none⟩)) w.drew :=
  Lib.run_unsafeSliceData_row _ _ _ _ _ _ (by omega)
 have hUS:(Builtin.unsafeString_ #[291,3] 9 #[.pointer (some ⟨g,0,none⟩),.int .i64 acc.length]).run Tryz.prog w.drew=.ok (.string ⟨acc.toArray⟩) (w.drew.freeze ⟨g,0,none⟩ acc.length):=by
  refine Lib.run_unsafeString_row w.drew 291 3 9 5 (by kernel_rfl) (by kernel_rfl) g cur.size (by have hg':w.drew.heap[g]?=some (.cells cur 5 fz):=hg;simp[World.shape?,hg']) acc h0 (by omega) (by unfold maxLen at hcm;omega) ?_;intro j x hx;exact hown.cells (g:=g) rfl j (.int .u8 x.toNat) (by simp[Lib.byteCells,hx])
 clear h hne hown hbk htake hcs hcm hfz hg
 have mixed:Tryz.prog.follows .mixedOrders=true:=by kernel_rfl
 go_enter Tryz.func123,Tryz.ntmps123;go_wp2
 go_region_o
 all_goals (go_wp2;go_ret;exact⟨rfl,Lib.below_freeze (Below.drew (bQ B w)) (p:=⟨g,0,none⟩) hbg _⟩)
def iL (base:Int)(ks:List PZ):Bool:=(decide (base=1) || decide (base=2)) && (decide (ks.length<=1) && kG true ks)
def vJ (base:Int):aH:=if base=2 then [98,111,111,108] else [105,110,116]
def gT:List PZ->aH
 | []=>[]
 | e :: l=>[32,123]++e.text++[125]++gT l
def kX (base:Int)(ks:List PZ):aH:=vJ base++gT ks
theorem rC:∀ a b:List PZ,gT (a++b)=gT a++gT b
 | [],b=>rfl
 | e :: a,b=>by rw[pJ,gT,gT,rC a b];simp
theorem Lj {k:Nat}(h:k<ks.length):gT (ks.take (k+1))=gT (ks.take k)++([32,123]++ks[k].text++[125]):=by
 rw[zF h,rC];simp[gT]
theorem Ry (ks:List PZ)(k:Nat):(gT (ks.take k)).length<=(gT ks).length:=by
 conv=>rhs;rw[<- List.take_append_drop k ks,rC,bY]
 omega
theorem kV.below {W:World}{ae:Option Addr}(h:kV B w ae ks)(hW:Below w.heap.size w W):kV B W ae ks:=λh0=>by
 obtain⟨b,off,q1,q2,q3,q4⟩:=h h0;refine⟨b,off,q1,q2,xw q3 hW.size,λi hi=>?_⟩;obtain⟨Ef,wn',Eh,Le,Lf,q5,q6⟩:=q4 i hi;exact⟨Ef,wn',Eh,Le,Lf,q5.frame (aW.of hW),λj u hu=>(hW.cell (p:=⟨b,off+i * 8+j,none⟩) q3).trans (q6 j u hu)⟩
theorem JL {zs:List PZ}(h:RowK (ZK YA) (λb=>b<B) w kv zs):∃ ao cap,kv=.slice ao zs.length cap/\kV B w ao zs:=by
 obtain⟨ao,cap,hv,_,hf⟩:=h.form;refine⟨ao,cap,hv,λh0=>?_⟩;obtain⟨b,off,h1,h2,h3,h4⟩:=hf h0;refine⟨b,off,h1,h2,h3,λi hi=>?_⟩;obtain⟨x,h5,h6⟩:=h4 i hi;have h5':l7 YA (λb=>b<B) w x.1 x.2 zs[i]:=h5;obtain⟨am,wn,cm,ak,ck,e1,e2⟩:=h5'.PK;refine⟨am,wn,cm,ak,ck,by rw[<- e1,<- e2];exact h5',λj u hu=>h6 j u ?_⟩;show (YA.cells zs[i] x.1 x.2)[j]?=some u;rw[e1,e2];exact hu
theorem N8 (x:PZ)(hf:x.fit)(B:Nat)(w:World)(hB:B<=w.heap.size):acy 230 #[] (λx=>!x.right true) B w x:=by
 intro W am wn cm ak ck hW hE;have hs:=hW.size;have hz:=(PZ.uS hf).2.2.2.1;have hbx:=aA W (.cells (aR x.op ⟨x.name.toArray⟩ ⟨x.module.toArray⟩ (decide (x.num<0)) (.slice am wn cm) x.yes (.slice ak x.aB.length ck) x.at_) 60);have HX:=ay (zo true _ x (Nat.lt_succ_self _) hf B am wn cm ak ck (W.alloc (.cells (aR x.op ⟨x.name.toArray⟩ ⟨x.module.toArray⟩ (decide (x.num<0)) (.slice am wn cm) x.yes (.slice ak x.aB.length ck) x.at_) 60)) (hE.frame (aW.of hbx)) (by simp;omega) (by omega));have hN:=aX W (.cells (aR x.op ⟨x.name.toArray⟩ ⟨x.module.toArray⟩ (decide (x.num<0)) (.slice am wn cm) x.yes (.slice ak x.aB.length ck) x.at_) 60)
 show Calls _ _ #[_] _ λr w'=>r=.returned (.bool (!x.right true))/\Below W.heap.size W w'
 generalize x.right true=rb at *;clear hE hz hf;go_enter Tryz.func230,Tryz.ntmps230
 go_upto_region 1 with fail
 change Code.wp _ _ _ _ (W.alloc (.cells (aR x.op ⟨x.name.toArray⟩ ⟨x.module.toArray⟩ (decide (x.num<0)) (.slice am wn cm) x.yes (.slice ak x.aB.length ck) x.at_) 60));generalize W.alloc _=w0 at hbx hN HX |-;obtain⟨y0,y1,y2,y3,y4,y5,y6,y7⟩:=aI hN;go_wp2_with (go_at_call 180;refine HX.out.mono ?_;rintro r w1 ⟨rfl,hb1⟩);go_ret;exact⟨rfl,hbx.trans (hb1.mono hbx.size)⟩
theorem CZ (base:Int)(B:Nat)(ae:Option Addr)(ce:Nat)(ks:List PZ)(w:World)(hk:kV B w ae ks)(hB:B<=w.heap.size)(hn:ks.length<=1099511627776)(hf:∀ x∈ks,x.fit) :
  Calls Tryz.prog 178 #[.int .i64 base,.slice ae ks.length ce] w λr w'=>r=.returned (.bool (iL base ks))/\Below w.heap.size w w':=by
 have HC:=ay (λW (hW:Below w.heap.size w W)=>yC 230 #[] (λx=>!x.right true) (enters_of Tryz.func230 (by kernel_rfl) rfl) B ae ce ks W (hk.below hW) (jq hB hW.size) hn λx hx=>N8 x (hf x hx) B W (jq hB hW.size))
 have hdef:iL base ks=((decide (base=1) || decide (base=2)) && (decide (ks.length<=1) && !(ks.any λx=>!x.right true))):=by rw[iL,zn]
 rw[hdef];clear hdef hk hf;generalize (ks.any λx=>!x.right true)=an at *;generalize ks.length=n at *
 by_cases h1:n<=1
 ·have h1I:(n:Int)<=1:=by omega
  rw[jV h1,Bool.true_and];clear h1
  by_cases hb1:base=1
  ·subst hb1
   rw[jV rfl,Bool.true_or,Bool.true_and];go_enter Tryz.func178,Tryz.ntmps178;go_wp2_with (go_at_call 225;refine(HC.out _ (bQ _ _)).mono ?_;rintro r w5 ⟨rfl,hb5⟩);go_ret;exact⟨rfl,hb5⟩
  ·have ht1:(base == 1)=false:=Ea.2 hb1
   by_cases hb2:base=2
   ·subst hb2
    rw[dX (by decide),jV rfl,Bool.false_or,Bool.true_and];clear hb1;go_enter Tryz.func178,Tryz.ntmps178;go_wp2_with (go_at_call 225;refine(HC.out _ (bQ _ _)).mono ?_;rintro r w5 ⟨rfl,hb5⟩);go_ret;exact⟨rfl,hb5⟩
   ·have ht2:(base == 2)=false:=Ea.2 hb2
    rw[dX hb1,dX hb2,Bool.false_or,Bool.false_and];clear hb1 hb2 HC;go_enter Tryz.func178,Tryz.ntmps178;go_wp2;go_ret;exact⟨rfl,bQ _ _⟩
 ·have h1I:(1:Int)<(n:Int):=by omega
  rw[dX h1,Bool.false_and,Bool.and_false];clear h1 HC
  by_cases hb1:base=1
  ·subst hb1
   go_enter Tryz.func178,Tryz.ntmps178;go_wp2;go_ret;exact⟨rfl,bQ _ _⟩
  ·have ht1:(base == 1)=false:=Ea.2 hb1
   by_cases hb2:base=2
   ·subst hb2
    clear hb1;go_enter Tryz.func178,Tryz.ntmps178;go_wp2;go_ret;exact⟨rfl,bQ _ _⟩
   ·have ht2:(base == 2)=false:=Ea.2 hb2
    clear hb1 hb2;go_enter Tryz.func178,Tryz.ntmps178;go_wp2;go_ret;exact⟨rfl,bQ _ _⟩
theorem Oa (w:World):(Instr.index 316 (.agg #[.string ⟨#[]⟩,.string ⟨#[105,110,116]⟩,.string ⟨#[98,111,111,108]⟩]) (.int .i64 1)).run Tryz.prog w=.ok (.string ⟨#[105,110,116]⟩) w:=by kernel_rfl
theorem Ob (w:World):(Instr.index 316 (.agg #[.string ⟨#[]⟩,.string ⟨#[105,110,116]⟩,.string ⟨#[98,111,111,108]⟩]) (.int .i64 2)).run Tryz.prog w=.ok (.string ⟨#[98,111,111,108]⟩) w:=by kernel_rfl
theorem Rz {base:Int}(h:base=1\/base=2):∀ w:World,(Instr.index 316 (.agg #[.string ⟨#[]⟩,.string ⟨#[105,110,116]⟩,.string ⟨#[98,111,111,108]⟩]) (.int .i64 base)).run Tryz.prog w=.ok (.string ⟨(vJ base).toArray⟩) w:=by
 rcases h with rfl|rfl
 ·exact Oa
 ·exact Ob
theorem FY (base:Int)(hbase:base=1\/base=2)(ks:List PZ)(B B' b:Nat)(ae:Option Addr)(ce:Nat)(acc:aH)(w:World)(hk:∀ x∈ks,Rs x)(h:kV B w ae ks)(mZ:B<=B')(hbd:lV B' b acc w 225)(hB:B'<=w.heap.size)(hn:acc.length+(kX base ks).length<=1099511627776)(hkl:ks.length<=1000000) :
  Calls Tryz.prog 183 #[.pointer (some ⟨b,0,none⟩),.int .i64 base,.slice ae ks.length ce] w (bS B' b (acc++kX base ks) w):=by
 have HH:=ay h;have HK:=ay hk;have hix:=Rz hbase;have hw1:=ay (dO ⟨(vJ base).toArray⟩ B' b acc w hbd hB (by rw[kX,bY] at hn;show acc.length+(vJ base).toArray.size<=_;simp only[List.size_toArray];omega))
 have hn2:(acc++vJ base).length+(gT ks).length<=1099511627776:=by rw[kX,bY] at hn;rw[bY];omega
 have hfin:acc++kX base ks=(acc++vJ base)++gT ks:=by rw[kX,om]
 rw[hfin];clear hfin hn h hk hbase;have hbs:(ByteArray.mk (vJ base).toArray).data.toList=vJ base:=rfl;rw[hbs] at hw1;clear hbs;have TJ:=ay hbd;clear hbd;generalize ByteArray.mk (vJ base).toArray=BS at hix hw1;generalize acc++vJ base=VR at *;go_enter Tryz.func183,Tryz.ntmps183
 go_upto_region 1 with (go_at_call 120;refine hw1.out.mono ?_;rintro r w1 h1;obtain rfl:=h1.eq)
 have hs1:=(iK.start TJ.out).write h1;have H1:=ay h1;have H7:=ay (iK.start hs1.lU);have hz1:=hs1.kW.size;clear hs1 h1 hix hw1;go_wp2
 go_loopw [16] (λq wr=>∃ k:Nat,k<=ks.length/\q=.int .i64 k/\iK w1 B' b (VR++gT (ks.take k)) wr) (λq _=>ks.length - (intOf q).toNat)
 case atStart=>exact⟨0,kJ _,rfl,by simpa [gT] using H7.out⟩
 case round =>
  obtain⟨k,hkk,rfl,st⟩:=hrel;have hz:=st.kW.size
  by_cases hlt:k<ks.length
  ·have hsn:=Lj hlt
   have hle:=Ry ks (k+1);rw[hsn] at hle;have HD:=ay (HK.out _ (nH hlt));obtain⟨kb,off,qH,qI,qJ,Mf,ck1,rfl,hkB,hE,x0,x1,x2,x3,x4,x5,x6,x7⟩:=HH.out.at ((H1.out.2.2.1.trans st.kW).mono mZ) hlt;have rO:=ay hsn;have HST:=ay st;clear hsn st;generalize gT (ks.take k)=c at hle rO HST;generalize ks[k]=x at *
   have nK:(k:Int)<(ks.length:Int):=by omega
   simp only[bY,fu,jC] at hle
   have hl1:(VR++c).length+2<=1099511627776:=by rw[bY];omega
   have hl2:(VR++c++[32,123]).length+x.text.length+1<=1099511627776:=by simp only[bY,fu,jC];omega
   have hal:=aA wr (.cells (aR x.op ⟨x.name.toArray⟩ ⟨x.module.toArray⟩ (decide (x.num<0)) (.slice qH qI qJ) x.yes (.slice Mf x.aB.length ck1) x.at_) 60);have hN:=aX wr (.cells (aR x.op ⟨x.name.toArray⟩ ⟨x.module.toArray⟩ (decide (x.num<0)) (.slice qH qI qJ) x.yes (.slice Mf x.aB.length ck1) x.at_) 60);have s1:=HST.out.below hal (by omega);have hE1:=hE.frame (aW.rV (hal.mono (by omega:B'<=wr.heap.size)) (λb hb=>by omega:∀ b,b<B->b<B'));clear hle hE
   go_upto_region 4 with fail
   change Code.wp _ _ _ _ (wr.alloc (.cells (aR x.op ⟨x.name.toArray⟩ ⟨x.module.toArray⟩ (decide (x.num<0)) (.slice qH qI qJ) x.yes (.slice Mf x.aB.length ck1) x.at_) 60));clear x0 x1 x2 x3 x4 x5 x6 x7;generalize wr.alloc _=w2 at hal hN s1 hE1 |-;have hz2:=hal.size
   go_upto_region 5 with (go_at_call 120;refine(dO ⟨#[32,123]⟩ B' b (VR++c) w2 s1.lU (by omega) hl1).mono ?_;rintro r w3 h3;obtain rfl:=h3.eq)
   have s3:=s1.write h3;have hz3:=s3.kW.size;have hN3:=s1.lU.block h3.2.2.2 hN (by decide) (by decide);obtain⟨y0,y1,y2,y3,y4,y5,y6,y7⟩:=aI hN3;have hlx:=h3.2.2.1.size;have HX:=ay (HD.out B B' b qH qI qJ Mf ck1 (VR++c++[32,123]) w3 (hE1.frame (aW.rV h3.2.2.1 λb hb=>by omega)) mZ s3.lU (by omega) (by omega));have IB:=ay s3;clear HST HD hal hN hN3 s1 hE1 s3 h3
   go_upto_region 6 with (go_at_call 184;refine HX.out.mono ?_;rintro r w4 h4;obtain rfl:=h4.eq)
   have s4:=IB.out.write h4;have BJ:=s4.kW.size;have RA:=ay s4;have HW4:=ay (dO ⟨#[125]⟩ B' b (VR++c++[32,123]++x.text) w4 s4.lU (by omega) (by rw[bY];show _+1<=_;omega));clear HX IB s4 h4 y0 y1 y2 y3 y4 y5 y6 y7;go_wp2_with (go_at_call 120;refine HW4.out.mono ?_;rintro r w5 h5;obtain rfl:=h5.eq);refine⟨⟨k+1,by omega,by go_num,?_⟩,by simp[intOf];omega⟩;have:=RA.out.write h5;rw[rO.out]
   simpa [om] using this
  ·obtain rfl:k=ks.length:=by omega
   have nK:decide ((ks.length:Int)<(ks.length:Int))=false:=dX (by omega);rw[zG] at st;have HST:=ay st;clear st;go_wp2
   go_end0
   exact⟨rfl,HST.out.lU,H1.out.2.2.1.trans HST.out.kW,H1.out.2.2.2.trans HST.out.kept⟩
structure ZF where
 name:aH
 base:Int
 aC:List PZ
 at_:Int
 bare:Int
structure ZD where
 pub:Bool
 params:List ZF
 res:ZF
 body:PZ
structure ZP where
 aD:List (aH × Int)
 defs:List ZD
def ZF.right (f:ZF):Bool:=dw f.name && iL f.base f.aC
def ZD.sound (d:ZD):Bool:=dw d.res.name && (decide (d.params.length<=8) && (!(d.params.any λf=>!f.right) && (iL d.res.base d.res.aC && d.body.right false)))
def ZF.text (f:ZF):aH:=f.name++[58,32]++kX f.base f.aC
def ZD.text (d:ZD):aH:=(if d.pub=true then [112,117,98,32] else [])++([102,117,110,32]++d.res.name++[40])++bO (d.params.map ZF.text)++[41,58,32]++kX d.res.base d.res.aC++[32,61,32]++d.body.text++[59,10]
def sS (m:aH × Int):aH:=[105,109,112,111,114,116,32]++m.1++[59,10]
def ZP.right (p:ZP):Bool:=decide (p.aD.length<=16) && (decide (p.defs.length<=64) && (p.aD.all (λm=>dw m.1) && p.defs.all ZD.sound))
def ZP.text (p:ZP):aH:=p.aD.flatMap sS++p.defs.flatMap ZD.text
def ZF.fit (f:ZF):Prop:=f.name.length<=65536/\f.aC.length<=1000000/\∀ e∈f.aC,e.fit
def ZD.fit (d:ZD):Prop:=d.params.length<=1000000/\(∀ f∈d.params,f.fit)/\d.res.fit/\d.body.fit
def ZP.fit (p:ZP):Prop:=p.aD.length<=1000000/\(∀ m∈p.aD,m.1.length<=65536)/\p.defs.length<=1000000/\∀ d∈p.defs,d.fit
def ZFK:RK ZF Value where
 sz:=5
 cells f cv:=[fC f.name,.int .i64 f.base,cv,.int .i64 f.at_,.int .i64 f.bare]
 inn P w f cv:=RowK (ZK YA) P w cv f.aC
 len _ _:=rfl
 frame h ha:=h.frame ha
 imp h hq:=h.imp hq
def PS:RK ZD DV where
 sz:=15
 cells d x:=[.bool d.pub,fC d.res.name,x.pv,.int .i64 d.res.base,x.cv,.int .i64 d.body.op,fC d.body.name,fC d.body.module,.bool (decide (d.body.num<0)),x.m,.bool d.body.yes,x.k,.int .i64 d.body.at_,.int .i64 d.res.at_,.int .i64 d.res.bare]
 inn P w d x:=RowK ZFK P w x.pv d.params/\RowK (ZK YA) P w x.cv d.res.aC/\l7 YA P w x.m x.k d.body
 len _ _:=rfl
 frame h ha:=⟨h.1.frame ha,h.2.1.frame ha,h.2.2.frame ha⟩
 imp h hq:=⟨h.1.imp hq,h.2.1.imp hq,h.2.2.imp hq⟩
def ZIK:RK (aH × Int) Unit where
 sz:=2
 cells m _:=[fC m.1,.int .i64 m.2]
 inn _ _ _ _:=True
 len _ _:=rfl
 frame _ _:=trivial
 imp _ _:=trivial
def C8 (B:Nat)(w:World)(ae:Option Addr)(fs:List ZF):Prop:=0<fs.length->∃ b off,ae=some ⟨b,off,none⟩/\b<B/\b<w.heap.size/\∀ i,(hi:i<fs.length)->∃ ac cc,kV B w ac fs[i].aC/\w.cell? ⟨b,off+i * 5,none⟩=some (.string ⟨fs[i].name.toArray⟩)/\w.cell? ⟨b,off+i * 5+1,none⟩=some (.int .i64 fs[i].base)/\w.cell? ⟨b,off+i * 5+2,none⟩=some (.slice ac fs[i].aC.length cc)/\w.cell? ⟨b,off+i * 5+3,none⟩=some (.int .i64 fs[i].at_)/\w.cell? ⟨b,off+i * 5+4,none⟩=some (.int .i64 fs[i].bare)
theorem VT {zs:List ZF}(h:RowK ZFK (λb=>b<B) w kv zs):∃ ao cap,kv=.slice ao zs.length cap/\C8 B w ao zs:=by
 obtain⟨ao,cap,hv,_,hf⟩:=h.form;refine⟨ao,cap,hv,λh0=>?_⟩;obtain⟨b,off,h1,h2,h3,h4⟩:=hf h0;refine⟨b,off,h1,h2,h3,λi hi=>?_⟩;obtain⟨x,h5,h6⟩:=h4 i hi;obtain⟨ac,cc,rfl,hk⟩:=JL h5;exact⟨ac,cc,hk,h6 0 _ rfl,h6 1 _ rfl,h6 2 _ rfl,h6 3 _ rfl,h6 4 _ rfl⟩
theorem kV.rV {B:Nat}{w W:World}{ae:Option Addr}{ks:List PZ}(h:kV B w ae ks)(hW:Below B w W):kV B W ae ks:=λh0=>by
 obtain⟨b,off,q1,q2,q3,q4⟩:=h h0;refine⟨b,off,q1,q2,xw q3 hW.size,λi hi=>?_⟩;obtain⟨Ef,wn',Eh,Le,Lf,q5,q6⟩:=q4 i hi;exact⟨Ef,wn',Eh,Le,Lf,q5.frame (aW.rV hW λb hb=>hb),λj u hu=>(hW.cell (p:=⟨b,off+i * 8+j,none⟩) q2).trans (q6 j u hu)⟩
theorem C8.rV {B:Nat}{w W:World}{ae:Option Addr}{ks:List ZF}(h:C8 B w ae ks)(hW:Below B w W):C8 B W ae ks:=λh0=>by
 obtain⟨b,off,q1,q2,q3,q4⟩:=h h0;refine⟨b,off,q1,q2,xw q3 hW.size,λi hi=>?_⟩;obtain⟨ac,cc,q5,c0,c1,c2,c3,c4⟩:=q4 i hi;exact⟨ac,cc,q5.rV hW,(hW.cell (p:=⟨b,off+i * 5,none⟩) q2).trans c0,(hW.cell (p:=⟨b,off+i * 5+1,none⟩) q2).trans c1,(hW.cell (p:=⟨b,off+i * 5+2,none⟩) q2).trans c2,(hW.cell (p:=⟨b,off+i * 5+3,none⟩) q2).trans c3,(hW.cell (p:=⟨b,off+i * 5+4,none⟩) q2).trans c4⟩
theorem dF {b:Nat}{c0 c1 c2 c3 c4:Value}(h:w.heap[b]?=some (.cells #[c0,c1,c2,c3,c4] 103 (0,0))):w.cell? ⟨b,0,none⟩=some c0/\w.cell? ⟨b,1,none⟩=some c1/\w.cell? ⟨b,2,none⟩=some c2/\w.cell? ⟨b,3,none⟩=some c3/\w.cell? ⟨b,4,none⟩=some c4:=by
 refine⟨?_,?_,?_,?_,?_⟩<;>(rw[aZ h];rfl)
def aeh (f:FuncId)(lb:Array Value)(p:ZF->Bool)(B:Nat)(w:World)(x:ZF):Prop:=∀ (W:World) (ac:Option Addr) (cc:Nat),Below w.heap.size w W->kV B W ac x.aC ->
 Calls Tryz.prog f (#[.agg #[.string ⟨x.name.toArray⟩,.int .i64 x.base,.slice ac x.aC.length cc,.int .i64 x.at_,.int .i64 x.bare]]++lb) W λr w'=>r=.returned (.bool (p x))/\Below W.heap.size W w'
def BP (p:ZF->Bool):List ZF->Nat->Int
 | [],_=>-1
 | x :: l,k=>if p x=true then k else BP p l (k+1)
theorem Oc (p:ZF->Bool):∀ (l:List ZF) (k:Nat),decide (0<=BP p l k)=l.any p
 | [],k=>rfl
 | x :: l,k=>by
  rw[BP,List.any_cons]
  split
  ·rename_i h;rw[h];exact jV (by omega)
  ·rename_i h;rw[vM] at h;rw[h,Oc p l];rfl
theorem TL {p:ZF->Bool}:∀ {ks:List ZF} {k:Nat} (j:Nat) (h:k<ks.length),(∀ i,i<k->(hi:i<ks.length)->p ks[i]=false)->BP p ks j=if p ks[k]=true then ((j+k:Nat):Int) else BP p (ks.drop (k+1)) (j+k+1)
 | x :: l,0,j,h,_=>by simp[BP]
 | x :: l,k+1,j,h,hf=>by
  have h0:=hf 0 (by omega) (by simp)
  have ih:=TL (p:=p) (ks:=l) (k:=k) (j+1) (by simpa using h) λi hi hl=>by have:=hf (i+1) (by omega) (by simpa using hl);simpa using this
  rw[BP,aU (by simpa using h0),ih];simp only[H9,List.drop_succ_cons];rw[show j+1+k=j+(k+1) by omega]
theorem TM {p:ZF->Bool}:∀ {ks:List ZF} (j:Nat),(∀ i,(hi:i<ks.length)->p ks[i]=false)->BP p ks j=-1
 | [],_,_=>rfl
 | x :: l,j,hf=>by
  have h0:=hf 0 (by simp);rw[BP,aU (by simpa using h0)]
  exact TM (j+1) λi hi=>by have:=hf (i+1) (by simpa using hi);simpa using this
theorem RB (f:FuncId)(lb:Array Value)(p:ZF->Bool)(eg:∀ args w,(callFunc f args).run Tryz.prog w=.ok (.enter f args) w)(B:Nat)(ae:Option Addr)(ce:Nat)(ks:List ZF)(w:World)(hk:C8 B w ae ks)(hB:B<=w.heap.size)(hn:ks.length<=1099511627776)(ha:∀ x∈ks,aeh f lb p B w x) :
  Calls Tryz.prog 231 #[.slice ae ks.length ce,.func (.func f) #[] lb] w λr w'=>r=.returned (.int .i64 (BP p ks 0))/\Below w.heap.size w w':=by
 have HK:=ay hk;have HA:=ay ha;clear hk ha;go_enter Tryz.func231,Tryz.ntmps231;go_wp2
 go_loopw [5,8] (λ_ q wr=>∃ k:Nat,k<=ks.length/\q=.int .i64 k/\(∀ i,i<k->(hi:i<ks.length)->p ks[i]=false)/\Below w.heap.size w wr) (λ_ q _=>ks.length - (intOf q).toNat)
 case atStart=>exact⟨0,kJ _,rfl,λi hi=>absurd hi (by omega),bQ _ _⟩
 case round =>
  obtain⟨k,hkl,rfl,hno,hbl⟩:=hrel;have hw:=hbl.size;have HN:=ay hno;clear hno
  by_cases hlt:k<ks.length
  ·obtain⟨b,off,rfl,hbB,hbw,iw⟩:=HK.out.rV (hbl.mono hB) (by omega)
   obtain⟨ac,cc,hE,y0,y1,y2,y3,y4⟩:=iw k hlt;have hA:=HA.out _ (nH hlt) wr ac cc hbl hE;have hix:=TL (p:=p) 0 hlt HN.out
   have hnx:p ks[k]=false->∀ i,i<k+1->(hi:i<ks.length)->p ks[i]=false:=λq i hi hl=>by
    by_cases e:i=k
    ·subst e;exact q
    ·exact HN.out i (by omega) hl
   have HX:=ay hix;have DR:=ay hnx;clear iw hE hix hnx;generalize ks[k]=x at y0 y1 y2 y3 y4 hA HX DR
   have nK:(k:Int)<(ks.length:Int):=by omega
   cases hq:p x with
   | true =>
    rw[hq] at hA;have JH:Hid (BP p ks 0=(k:Int)):=ay (by rw[HX.out,bR hq,Nat.zero_add]);have HAA:=ay hA;clear hA hq HX DR;go_wp2_with (go_at_fn f;refine HAA.out.mono ?_;rintro r w2 ⟨rfl,hb2⟩);go_ret;exact⟨zL (by rw[JH.out]),hbl.trans (hb2.mono hw)⟩
   | false =>
    rw[hq] at hA;have aec:=ay (DR.out hq);have HAA:=ay hA;clear hA hq HX DR;go_wp2_with (go_at_fn f;refine HAA.out.mono ?_;rintro r w2 ⟨rfl,hb2⟩);exact⟨⟨k+1,by omega,by go_num,aec.out,hbl.trans (hb2.mono hw)⟩,by simp[intOf];omega⟩
  ·obtain rfl:k=ks.length:=by omega
   have nK:decide ((ks.length:Int)<(ks.length:Int))=false:=dX (by omega);have JH:Hid (BP p ks 0=-1):=ay (TM 0 λi hi=>HN.out i hi hi);clear HN;go_wp2;go_ret;exact⟨zL (by rw[JH.out]),hbl⟩
theorem IC (f:FuncId)(lb:Array Value)(p:ZF->Bool)(eg:∀ args w,(callFunc f args).run Tryz.prog w=.ok (.enter f args) w)(B:Nat)(ae:Option Addr)(ce:Nat)(ks:List ZF)(w:World)(hk:C8 B w ae ks)(hB:B<=w.heap.size)(hn:ks.length<=1099511627776)(ha:∀ x∈ks,aeh f lb p B w x) :
  Calls Tryz.prog 179 #[.slice ae ks.length ce,.func (.func f) #[] lb] w λr w'=>r=.returned (.bool (ks.any p))/\Below w.heap.size w w':=by
 have HI:=ay (RB f lb p eg B ae ce ks w hk hB hn ha);have HY:=ay (Oc p ks 0);clear hk ha hn hB eg;generalize BP p ks 0=i at *;go_enter Tryz.func179,Tryz.ntmps179;go_wp2_with (go_at_call 231;refine HI.out.mono ?_;rintro r w2 ⟨rfl,hb2⟩);go_ret;exact⟨bB (by rw[<- HY.out]),hb2⟩
theorem RD (x:ZF)(hf:x.fit)(B:Nat)(w:World)(hB:B<=w.heap.size):aeh 177 #[] (λx=>!x.right) B w x:=by
 intro W ac cc hW hE;have hs:=hW.size;have hbx:=aA W (.cells #[.string ⟨x.name.toArray⟩,.int .i64 x.base,.slice ac x.aC.length cc,.int .i64 x.at_,.int .i64 x.bare] 103);have hN:=aX W (.cells #[.string ⟨x.name.toArray⟩,.int .i64 x.base,.slice ac x.aC.length cc,.int .i64 x.at_,.int .i64 x.bare] 103);have HP:=ay (λV=>mD ⟨x.name.toArray⟩ V (by have:=hf.1;show x.name.toArray.size<=_;simp;omega));have HC:=ay (λV (hV:Below W.heap.size W V)=>CZ x.base B ac cc x.aC V (hE.below hV) (by have:=hV.size;omega) (by have:=hf.2.1;omega) hf.2.2)
 have hdef:(!x.right)=(!dw x.name || !iL x.base x.aC):=by rw[ZF.right,Bool.not_and]
 show Calls _ _ #[_] _ λr w'=>r=.returned (.bool (!x.right))/\Below W.heap.size W w'
 rw[hdef];have eN:(ByteArray.mk x.name.toArray).data.toList=x.name:=rfl;rw[eN] at HP;generalize dw x.name=pl at *;generalize iL x.base x.aC=cl at *;clear hE hf hdef eN;go_enter Tryz.func177,Tryz.ntmps177
 go_upto_region 1 with fail
 change Code.wp _ _ _ _ (W.alloc (.cells #[.string ⟨x.name.toArray⟩,.int .i64 x.base,.slice ac x.aC.length cc,.int .i64 x.at_,.int .i64 x.bare] 103));generalize W.alloc _=w0 at hbx hN |-;have hl0:=(bP hN).1;obtain⟨y0,y1,y2,y3,y4⟩:=dF hN
 cases pl with
 | false =>
  clear HC;go_wp2_with (go_at_call 77;refine(HP.out _).mono ?_;rintro r w1 ⟨rfl,hb1⟩);go_ret;exact⟨rfl,hbx.trans (hb1.mono hbx.size)⟩
 | true =>
  go_wp2_with (first|(go_at_call 77;refine(HP.out _).mono ?_;rintro r w1 ⟨rfl,hb1⟩;have oM:=hbx.trans (hb1.mono hbx.size);obtain⟨z0,z1,z2,z3,z4⟩:=dF ((hb1.block _ hl0).trans hN))|(go_at_call 178;refine(HC.out _ oM).mono ?_;rintro r w2 ⟨rfl,hb2⟩));go_ret;exact⟨rfl,oM.trans (hb2.mono oM.size)⟩
variable{k:Nat}{l:List PZ}
abbrev Fl:=Option (Int × Int)
def kY:Fl->Fl->Fl
 | none,b=>b
 | some x,_=>some x
theorem qg (a:Fl):kY a none=a:=by cases a<;>rfl
theorem tX (a b c:Fl):kY (kY a b) c=kY a (kY b c):=by cases a<;>rfl
structure SE where
 imps:List aH
 arity:aH->Option Nat
 ext:aH->aH->Option Nat
def FZ (o:Option Nat)(n:Nat)(a:Int):Fl:=match o with
 | none=>some (31,a)
 | some k=>if k=n then none else some (32,a)
def JM (E:SE)(nm md:aH)(n:Nat)(a:Int):Fl :=
 if md=[] then FZ (E.arity nm) n a else if md∈E.imps then FZ (E.ext md nm) n a else some (33,a)
def wP (E:SE)(bd:List aH)(res:Bool)(op:Int)(nm md:aH)(n:Nat)(a:Int):Fl :=
 if (op=3/\nm ∉ bd)\/(op=4/\res=false) then some (31,a) else if op=24 then JM E nm md n a else none
def Od (op:Int)(nm:aH)(bd:List aH)(i:Nat):List aH:=if op=22/\i=1 then gD (bd++[nm]) else bd
mutual
def PZ.gY (E:SE)(bd:List aH)(res:Bool):PZ->Fl
 | .mk op nm md _ _ aB a=>kY (wP E bd res op nm md aB.length a) (iy E op nm bd res 0 aB)
def iy (E:SE)(op:Int)(nm:aH)(bd:List aH)(res:Bool):Nat->List PZ->Fl
 | _,[]=>none
 | i,e :: l=>kY (e.gY E (Od op nm bd i) res) (iy E op nm bd res (i+1) l)
end
theorem PZ.RF (E:SE)(bd:List aH)(res:Bool)(e:PZ):e.gY E bd res=kY (wP E bd res e.op e.name e.module e.aB.length e.at_) (iy E e.op e.name bd res 0 e.aB):=by cases e;rw[PZ.gY];rfl
theorem Ak (E:SE)(op:Int)(nm:aH)(bd:List aH)(res:Bool)(e:PZ):∀ (l:List PZ) (i:Nat),iy E op nm bd res i (l++[e])=kY (iy E op nm bd res i l) (e.gY E (Od op nm bd (i+l.length)) res)
 | [],i=>by rw[uD,iy,iy,iy,qg];rfl
 | x :: l,i=>by
  rw[pJ,iy,iy,Ak E op nm bd res e l (i+1),tX,fu,show i+1+l.length=i+(l.length+1) by omega]
theorem Ll (E:SE)(op:Int)(nm:aH)(bd:List aH)(res:Bool)(h:k<l.length) :
  iy E op nm bd res 0 (l.take (k+1))=kY (iy E op nm bd res 0 (l.take k)) (l[k].gY E (Od op nm bd k) res):=by
 rw[zF h,Ak,pK,Nat.min_eq_left (Nat.le_of_lt h),Nat.zero_add]
def cK (E:SE)(bd:List aH)(res:Bool):List PZ->Fl
 | []=>none
 | e :: l=>kY (e.gY E bd res) (cK E bd res l)
theorem yF (E:SE)(bd:List aH)(res:Bool)(e:PZ):∀ l:List PZ,cK E bd res (l++[e])=kY (cK E bd res l) (e.gY E bd res)
 | []=>by rw[uD,cK,cK,cK,qg];rfl
 | x :: l=>by rw[pJ,cK,cK,yF E bd res e l,tX]
theorem IE (E:SE)(bd:List aH)(res:Bool)(h:k<l.length):cK E bd res (l.take (k+1))=kY (cK E bd res (l.take k)) (l[k].gY E bd res):=by
 rw[zF h,yF]
def gM (E:SE)(s:List aH × Fl):List ZF->List aH × Fl
 | []=>s
 | f :: l=>gM E (gD (s.1++[f.name]),kY (kY s.2 (if f.name∈s.1 then some (30,f.at_) else none)) (cK E (gD (s.1++[f.name])) false f.aC)) l
theorem C9 (E:SE)(f:ZF):∀ (l:List ZF) (s:List aH × Fl),gM E s (l++[f])=gM E (gM E s l) [f]
 | [],s=>rfl
 | x :: l,s=>C9 E f l _
theorem Oe (E:SE)(s:List aH × Fl){l:List ZF}(h:k<l.length):gM E s (l.take (k+1))=gM E (gM E s (l.take k)) [l[k]]:=by
 rw[zF h,C9]
def sJ (E:SE)(f:Fl)(d:ZD):Fl :=
 kY (kY (gM E ([],f) d.params).2 (cK E (gM E ([],f) d.params).1 true d.res.aC)) (d.body.gY E (gM E ([],f) d.params).1 false)
def kZ (E:SE)(f:Fl):List ZD->Fl
 | []=>f
 | d :: l=>kZ E (sJ E f d) l
theorem Da (E:SE)(d:ZD):∀ (l:List ZD) (f:Fl),kZ E f (l++[d])=sJ E (kZ E f l) d
 | [],f=>rfl
 | x :: l,f=>Da E d l _
theorem Og (E:SE)(f:Fl){l:List ZD}(h:k<l.length):kZ E f (l.take (k+1))=sJ E (kZ E f (l.take k)) l[k]:=by
 rw[zF h,Da]
def oV (own:aH)(face:aH->Bool)(s:List aH × Fl):List (aH × Int)->List aH × Fl
 | []=>s
 | m :: l=>oV own face (gD (s.1++[m.1]),kY s.2 (if m.1=own then some (33,m.2) else if m.1∈s.1 then some (30,m.2) else if face m.1=true then none else some (33,m.2))) l
theorem Db (own:aH)(face:aH->Bool)(m:aH × Int):∀ (l:List (aH × Int)) (s:List aH × Fl),oV own face s (l++[m])=oV own face (oV own face s l) [m]
 | [],s=>rfl
 | x :: l,s=>Db own face m l _
theorem Oh (own:aH)(face:aH->Bool)(s:List aH × Fl){l:List (aH × Int)}(h:k<l.length):oV own face s (l.take (k+1))=oV own face (oV own face s (l.take k)) [l[k]]:=by
 rw[zF h,Db]
def gU (l:List ZD)(nm:aH):Option Nat:=(l.find? λd=>decide (d.res.name=nm)).map λd=>d.params.length
def gV (f:Fl):List aH->List ZD->Fl
 | _,[]=>f
 | seen,d :: l=>gV (kY f (if d.res.name∈seen then some (30,d.res.at_) else none)) (seen++[d.res.name]) l
theorem Al (d:ZD):∀ (l:List ZD) (f:Fl) (seen:List aH),gV f seen (l++[d])=kY (gV f seen l) (if d.res.name∈seen++l.map (λx=>x.res.name) then some (30,d.res.at_) else none)
 | [],f,seen=>by rw[uD,gV,gV,gV,List.map_nil,List.append_nil]
 | x :: l,f,seen=>by rw[pJ,gV,gV,Al d l,lN,om];rfl
theorem Lm (f:Fl){l:List ZD}(h:k<l.length):gV f [] (l.take (k+1))=kY (gV f [] (l.take k)) (if l[k].res.name∈(l.take k).map (λx=>x.res.name) then some (30,l[k].res.at_) else none):=by
 rw[zF h,Al,uD]
def ZP.se (p:ZP)(own:aH)(face:aH->Bool)(ext:aH->aH->Option Nat):SE:=⟨(oV own face ([],none) p.aD).1,gU p.defs,ext⟩
def ZP.gY (p:ZP)(own:aH)(face:aH->Bool)(ext:aH->aH->Option Nat):Fl :=
 kZ (p.se own face ext) (gV (oV own face ([],none) p.aD).2 [] p.defs) p.defs
abbrev dM:=aH->Option Int
abbrev rY:=dM->Int->Fl->Int × Fl
def lg (f:Fl)(a b want:Int):Fl:=kY f (if b=want then none else some (34,a))
def zu (g:dM)(nm:aH)(b:Int):dM:=λy=>if y=nm then some b else g y
def Am (g:dM)(nm:aH):Int × Fl:=match g nm with
 | some b=>(b,none)
 | none=>(0,some (10,0))
theorem lu {a b:Fl}:kY a b=none↔a=none/\b=none:=by cases a<;>simp[kY]
